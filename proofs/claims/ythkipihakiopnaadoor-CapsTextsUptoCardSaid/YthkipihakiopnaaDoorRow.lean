/- What the rows of this seat share: the wrap that keeps the world's shape and the listed variables; what these give the walks. -/
import Derived.Test.YthkipihakiopnaaDoorC4
import Derived.Test.YthkipihakiopnaaDoorLaw
import Derived.Lay
import Derived.Lib.LaidU8
import Derived.HandedShaped
import Derived.MakeChecks
namespace Go.Proofs.YthkipihakiopnaaDoor
open Go.ChangeShapes Go.WideShapes Go.ChangeAt Go.RowKit
section
variable {H : Type} {enc : TypeId × Value → H}

/-- The plain wrap, the listed variables and the world's shape both kept. -/
theorem lifted_both {C : Checked} {os : Os} {f : FuncId} {fn : Func} {s : ChangeSpec} {apart fresh handsOn again : Bool} {X : World → Prop}
    (hX : ∀ (w w' : World), w.heap = w'.heap → X w → X w')
    (own : ownKnob C.prog.godebug = none) (started : os.Started) (noInit : C.prog.inits.idxOf? f = none) (hfn : C.prog.funcs[f]? = some fn)
    (witness : ∃ (w : World) (tape : Tape) (i : Input), w.os = os ∧ (w.forCall tape i).Shaped C.prog ∧ i.vars = [] ∧ Input.okWide C.prog (w.forCall tape i) .any w.heap.size f i ∧
      ((s.pre enc C.prog fn [] apart (w.forCall tape i).memory i.args ∧ X (w.forCall tape i).memory) ∧ sizedMet enc C.prog fn (OpenSpec.ofChange s) apart (w.forCall tape i).memory i.args) ∧ ({} : Assume).holds C.prog (lone (Frame.enter C.prog f i.args .normal) [] (w.forCall tape i)))
    (contract : ∀ (W : World) (base : Nat) (args : Array Value) (ds gs : List (DataW H)) (before : List MemPlace),
      (∀ (j : Nat) t v, fn.params[j]? = some t → args[j]? = some v → Value.okWide C.prog W .any base t v) →
      DataW.Whole enc C.prog fn.params.toList s.vars apart W args.toList ds gs before → X W → W.ShapedOpen C.prog →
      Calls C.prog f args W fun e W' => ∃ v, e = .returned v ∧ s.post enc C.prog fn apart fresh handsOn again W args v W') :
    ReturnsInHanded {} C os f .any (fun w args => (s.pre enc C.prog fn [] apart w args ∧ X w) ∧ sizedMet enc C.prog fn (OpenSpec.ofChange s) apart w args) (s.post enc C.prog fn apart fresh handsOn again) := by
  refine returnsInHanded_of_calls own started noInit witness ?_
  intro w tape i _ hsh _ hok hpre _
  obtain ⟨_, _, _, fn', hfn', _, _, _, _, hval⟩ := hok
  have e : fn' = fn := Option.some.inj (hfn'.symm.trans hfn)
  subst e
  obtain ⟨⟨⟨ds, gs, before, hw, _⟩, hx⟩, _⟩ := hpre
  have hw' := DataW.Whole.of_heap (w' := w.forCall tape i) (by rfl) hw
  refine (contract (w.forCall tape i) w.heap.size i.args ds gs before hval hw' (hX _ _ (by rfl) hx) hsh).mono fun e W' ⟨v, he, hp⟩ => ?_
  subst he
  exact ChangeSpec.post_blind hp
end

theorem own : ownKnob Tryd.prog.godebug = none := by kernel_rfl
theorem laidOut : laidOutB Tryd.prog = true := by kernel_rfl
theorem gWords : Tryd.prog.globalNamed "conduit/caps.words" = some 0 := by kernel_rfl
theorem tWords : (Tryd.prog.globals[0]?).map (·.type) = some 57 := by kernel_rfl
theorem cells57 : Tryd.prog.cellsOf 57 = 11 := by kernel_rfl
theorem cells9 : Tryd.prog.cellsOf 9 = 1 := by kernel_rfl

theorem ba_ext {s t : ByteArray} (h : s.data.toList = t.data.toList) : s = t := by
  obtain ⟨⟨a⟩⟩ := s
  obtain ⟨⟨b⟩⟩ := t
  simp at h
  rw [h]

/-- An array of words that reads as listed holds them, cell for cell. -/
theorem words_of {W : World} {laid : List (String × DataW Unit)} (h : laidMetH Tryd.prog laid W) (hp : (laid.all fun x => x.2.handleName?.isNone) = true) (hm : ("conduit/caps.words", Rows.laid_conduit_caps_words) ∈ laid) :
    ∀ k, k < 11 → W.cell? ⟨0, k, none⟩ = some (.string (wordAt k)) := by
  rw [MakeChecks.laidMetH_plain _ _ _ hp] at h
  obtain ⟨g, t, cs, fuel, p, h1, h2, h3, h4⟩ := Lib.laidMet.reads h hm
  obtain rfl := Option.some.inj (gWords.symm.trans h1)
  obtain rfl := Option.some.inj (tWords.symm.trans h2)
  obtain ⟨xs, m, _, hx, hlen, hxl, hel⟩ := DataW.trod_array Tryd.underlying57 h4
  intro k hk
  have hc := World.var?_cell h1 h3 k
  have hd : xs.map (·.1) = (List.range 11).map fun i => (.lit (.string (wordAt i).data.toList) : DataW Unit) := by
    have := congrArg Prod.fst hx
    simp only [Rows.laid_conduit_caps_words, DataW.agg.injEq] at this
    rw [← this]
    rfl
  have hE := hel k hk
  rw [cells9, Nat.mul_one] at hE
  have hxk : xs[k]? = some xs[k] := List.getElem?_eq_getElem (by omega)
  rw [hxk] at hE
  obtain ⟨s, hs, hv, _⟩ := DataW.trod_string Tryd.underlying9 hE
  have hdk := congrArg (·[k]?) hd
  simp only [List.getElem?_map, hxk, Option.map_some] at hdk
  rw [List.getElem?_range hk] at hdk
  simp only [Option.map_some, Option.some.injEq] at hdk
  rw [hv] at hdk
  simp only [DataW.lit.injEq, Lit.string.injEq] at hdk
  have es : s = wordAt k := ba_ext hdk
  rw [hc, ← Array.getElem?_toList]
  have hsk : (cs.toList.drop k).take 1 = [.string s] := hs
  have hk2 : k < cs.toList.length := by rw [hlen, cells57]; omega
  rw [List.drop_eq_getElem_cons hk2] at hsk
  simp at hsk
  rw [List.getElem?_eq_getElem hk2, ← es]
  simpa using hsk

/-- What the row's world gives the walks. -/
theorem gl_of {W : World} {laid : List (String × DataW Unit)} (h : laidMetH Tryd.prog laid W) (hp : (laid.all fun x => x.2.handleName?.isNone) = true) (hm : ("conduit/caps.words", Rows.laid_conduit_caps_words) ∈ laid) (hsh : W.ShapedOpen Tryd.prog) : Gl W where
  words := words_of h hp hm
  maxLen := Tryd.laysM146.s1_3 W hsh
  size := by
    obtain ⟨m, hm⟩ := Tryd.laysM146.s1_3 W hsh
    have := block_lt_of_cell hm
    exact this
end Go.Proofs.YthkipihakiopnaaDoor
