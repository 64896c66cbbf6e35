/- guard.Run's closures. -/
import Derived.Test.YteplhhlgceppkabGreatR1
namespace Go.Proofs.YteplhhlgceppkabGreat
open Go Go.RowKit Go.ChangeShapes Go.WideShapes

/-- But for the blocks of E, and what is new, all is as it was. -/
structure Far (E : Nat → Prop) (w w' : World) : Prop where
  os : w'.os = w.os
  tape : w'.tape = w.tape
  output : w'.output = w.output
  size : w.heap.size ≤ w'.heap.size
  block : ∀ b, b < w.heap.size → ¬ E b → w'.heap[b]? = w.heap[b]?
theorem Far.trans {E E' : Nat → Prop} {a b c : World} (h : Far E a b) (k : Far E' b c) (he : ∀ i, i < a.heap.size → E' i → E i) : Far E a c :=
  ⟨k.os.trans h.os, k.tape.trans h.tape, k.output.trans h.output, Nat.le_trans h.size k.size, fun i hi hn => (k.block i (Nat.lt_of_lt_of_le hi h.size) (fun e => hn (he i hi e))).trans (h.block i hi hn)⟩
theorem Far.join {E E1 E2 : Nat → Prop} {a b c : World} (h : Far E1 a b) (k : Far E2 b c) (h1 : ∀ i, i < a.heap.size → E1 i → E i) (h2 : ∀ i, i < a.heap.size → E2 i → E i) : Far E a c :=
  ⟨k.os.trans h.os, k.tape.trans h.tape, k.output.trans h.output, Nat.le_trans h.size k.size, fun i hi hn => (k.block i (Nat.lt_of_lt_of_le hi h.size) (fun e => hn (h2 i hi e))).trans (h.block i hi (fun e => hn (h1 i hi e)))⟩
theorem Far.of {E : Nat → Prop} {w w' : World} (h : Below w.heap.size w w') : Far E w w' := ⟨h.os, h.tape, h.output, h.size, fun b hb _ => h.block b hb⟩
theorem Far.grown {E : Nat → Prop} {w w' : World} {row : Option Nat} (h : w.grownBy w' row) (he : ∀ r, row = some r → E r) : Far E w w' := ⟨h.os, h.tape, h.output, h.size, fun b hb hn => h.block b hb (fun e => hn (he b e.symm))⟩
theorem Far.set {E : Nat → Prop} (w : World) (g j : Nat) (x : Value) (he : E g) : Far E w (w.setCell ⟨g, j, none⟩ x) := ⟨rfl, rfl, rfl, by simp, fun b _ hn => heap_setCell_other _ _ _ _ (fun e => hn (by rw [e]; exact he))⟩
theorem Far.below {E : Nat → Prop} {B : Nat} {w0 w w' : World} (h : Far E w w') (hb : Below B w0 w) (he : ∀ b, E b → B ≤ b) (hB : B ≤ w.heap.size) : Below B w0 w' :=
  hb.trans ⟨h.os, h.tape, h.output, h.size, fun k hk => h.block k (by omega) (fun e => by have := he k e; omega)⟩
theorem Row.far {E : Nat → Prop} {w w' : World} {b : Nat} {cs : Array Value} {T : TypeId} (h : Row w b cs T) (hf : Far E w w') (hn : ¬ E b) : Row w' b cs T := h.keep (hf.block b h.lt hn)

/-- The closure that Run's variable holds. -/
def doV (L : Nat) : Value := .func (.func 13) #[] #[.pointer (some ⟨L, 0, none⟩), .pointer (some ⟨L + 2, 0, none⟩), .pointer (some ⟨L + 1, 0, none⟩), .pointer (some ⟨L + 3, 0, none⟩)]
/-- What stands in the variables that Run's closures share. -/
structure Var (w : World) (L : Nat) (lv rv ov : Value) (os : List Out) (off : List Int) (Bo : Nat) : Prop where
  l : Row w L #[lv] 22
  d : Row w (L + 3) #[doV L] 47
  r : Row w (L + 1) #[rv] 33
  o : Row w (L + 2) #[ov] 34
  R : OwnR w (L + 4) (fun b => L + 4 ≤ b ∧ some b ≠ ov.ownBlock) rv os
  O : Made w Bo ov off
  b : L + 4 ≤ Bo
  z : Bo ≤ w.heap.size
theorem Var.later {w w1 : World} {L Bo : Nat} {lv rv ov : Value} {os : List Out} {off : List Int} (h : Var w L lv rv ov os off Bo) (hb : Below w.heap.size w w1) : Var w1 L lv rv ov os off Bo :=
  ⟨h.l.later hb, h.d.later hb, h.r.later hb, h.o.later hb, h.R.later hb, h.O.below hb, h.b, Nat.le_trans h.z hb.size⟩

theorem info3 : (Tryz.prog.info? 3).map (fun i => (i.zero, i.size, i.bytes)) = some (some (.int .i64 0), 1, 8) := by kernel_rfl
theorem info42 : (Tryz.prog.info? 42).map (fun i => (i.zero, i.size, i.bytes)) = some (some (.agg #[.int .i64 0, .int .i64 0, .int .i64 0, .int .i64 0, .bool false, .int .i64 0, .int .i64 0, .int .u64 0, .string ⟨#[]⟩, .slice none 0 0]), 10, 104) := by kernel_rfl

/-- Behind an append to the places. -/
theorem Var.placed {w w1 w2 : World} {L g n cap Bo : Nat} {lv rv ov : Value} {os : List Out} {off : List Int} {k : Int} (h : Var w1 L lv rv ov os off Bo) (hn : off.length = n)
    (hown : w2.ownsRow Bo 3 1 (.slice (some ⟨g, 0, none⟩) (n + 1) cap) (n + 1) (off.map (Value.int .i64) ++ [.int .i64 k])) (hgr : w1.grownBy w2 ov.ownBlock) (hat : ov.ownBlock = some g ∨ g = w1.heap.size) (hb : Far (fun b => b = L + 2 ∨ some b = ov.ownBlock) w w1) :
    Var (w2.setCell ⟨L + 2, 0, none⟩ (.slice (some ⟨g, 0, none⟩) (n + 1) cap)) L lv rv (.slice (some ⟨g, 0, none⟩) (n + 1) cap) os (off ++ [k]) Bo ∧ Far (fun b => b = L + 2 ∨ some b = ov.ownBlock) w (w2.setCell ⟨L + 2, 0, none⟩ (.slice (some ⟨g, 0, none⟩) (n + 1) cap)) := by
  subst hn
  have hbB := h.b
  have hlt := World.ownsRow.lt h.O
  have hne : ∀ b, b < L + 4 → some b ≠ ov.ownBlock := fun b hb e => by have := hlt b e.symm; omega
  have hgB : Bo ≤ g := by
    rcases hat with e | e
    · exact (hlt g e).1
    · have := h.z; omega
  have hz := hgr.size
  have hz1 := h.z
  have hf : Far (fun b => b = L + 2 ∨ some b = ov.ownBlock) w1 (w2.setCell ⟨L + 2, 0, none⟩ (.slice (some ⟨g, 0, none⟩) (off.length + 1) cap)) :=
    (Far.grown hgr (fun r hr => Or.inr hr.symm)).trans (Far.set w2 (L + 2) 0 _ rfl (E := fun b => b = L + 2)) (fun i _ e => Or.inl e)
  refine ⟨⟨h.l.far hf ?_, h.d.far hf ?_, h.r.far hf ?_, ?_, ?_, ?_, hbB, by simp; omega⟩, hb.trans hf (fun i _ e => e)⟩
  · rintro (e | e)
    · omega
    · exact hne _ (by omega) e
  · rintro (e | e)
    · omega
    · exact hne _ (by omega) e
  · rintro (e | e)
    · omega
    · exact hne _ (by omega) e
  · have h2 : Row w2 (L + 2) #[ov] 34 := h.o.keep (hgr.block _ h.o.lt (hne _ (by omega)))
    exact h2.set 0 _
  · refine h.R.carry (fun b hq hl => ⟨hf.block b hl ?_, hq.1, fun e => ?_⟩) hf.size
    · rintro (e | e)
      · omega
      · exact hq.2 e
    · have e' : b = g := Option.some.inj e
      rcases hat with h1 | h1
      · exact hq.2 (by rw [h1, e'])
      · omega
  · refine (Made.snoc hown).carry fun g' hg' => ?_
    have e' : g = g' := Option.some.inj hg'
    exact heap_setCell_other _ _ _ _ (show g' ≠ L + 2 by omega)

set_option maxRecDepth 100000 in
set_option maxHeartbeats 1600000 in
theorem place_any {w : World} {L Bo K : Nat} {lv rv ov : Value} {os : List Out} {off : List Int} {k : Int} (h : Var w L lv rv ov os off Bo) (hk : Row w K #[.int .i64 k] 3) (hlen : off.length ≤ 65536) :
    CallsD Tryz.prog 14 #[.pointer (some ⟨L + 2, 0, none⟩), .pointer (some ⟨K, 0, none⟩)] .returning w fun e u' w' => e = .returned (.tuple #[]) ∧ u' = .returning ∧ ∃ ov', Var w' L lv rv ov' os (off ++ [k]) Bo ∧ Far (fun b => b = L + 2 ∨ some b = ov.ownBlock) w w' := by
  obtain ⟨i0, hi, hz0, hz1, hz2⟩ := info_parts info3
  have hV := Lib.hid h
  have p0 : w.cell? ⟨L + 2, 0, none⟩ = some ov := h.o.cell 0 rfl
  have p1 : w.cell? ⟨K, 0, none⟩ = some (.int .i64 k) := hk.cell 0 rfl
  have hO := h.O
  have hzB := h.z
  have hO2 := h.o
  have hbB := h.b
  clear h
  refine callsD_of_wpS Tryz.func14 rfl fun c₀ cs hu => ?_
  simp only [Tryz.ntmps14, List.size_toArray, List.length_cons, List.length_nil, Nat.reduceAdd, Nat.reduceSub, Array.replicate_succ, Array.replicate_zero, List.push_toArray, List.append_toArray, List.nil_append, List.cons_append]
  refine wpS_of_wp ?_
  go_wp2_with (at_builtin; refine wpList_append_lies _ rfl (.tmp 2) (.tmp 4) 34 rfl Bo 3 i0 (.int .i64 0) 1 8 Tryz.underlying34 hi hz0 hz1 hz2 rfl (by decide) _ _ _ rfl (World.ownsRow.alloc hO _) ⟨w.heap.size, 0, none⟩ 1 1 [.int .i64 k] rfl rfl (World.news_of_block (heap_alloc_new w _)) ?c2 (by decide) ?c3 ?c4 ?c5 _ rfl ?_)
  case c2 => intro u hu; simp at hu; subst hu; rfl
  case c3 => unfold maxLen; omega
  case c4 => omega
  case c5 => simp; omega
  intro g cap w2 hown hgr hat hlt
  have hw1 : Below w.heap.size w (w.alloc (.cells #[.int .i64 k] 3)) := (Below.refl _ _).alloc (Nat.le_refl _) _
  have hO2' : Row w2 (L + 2) #[ov] 34 := (hO2.later hw1).keep (hgr.block _ (hO2.later hw1).lt (fun e => by have := World.ownsRow.lt hO _ e.symm; omega))
  have p2 : w2.cell? ⟨L + 2, 0, none⟩ = some ov := hO2'.cell 0 rfl
  have f2 := hO2'.thaw 0
  have hres := (hV.out.later hw1).placed rfl hown hgr (by simpa using hat) (Far.of hw1)
  clear hown hgr hat p0 p1
  go_wp2_with fail
  cases c₀
  cases hu
  exact ⟨rfl, _, rfl, .tuple #[], results_none rfl _ _ _, rfl, rfl, _, hres.1, hres.2⟩
end Go.Proofs.YteplhhlgceppkabGreat
