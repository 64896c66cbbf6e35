/- Values as trees: a Datum in memory, and what it is without addresses. -/
import Derived.Test.YteplhhlgceppkabRows
import Derived.WalkKit
import Derived.ProofKit
import Derived.Handy
import Derived.Outline
import Derived.Deep.RegionHeld3
import Derived.Deep.DeepCutAuto
import Derived.Deep.CutBlock
import Derived.Deep.QuietTactic
import Derived.BigQuiet
import Derived.Lib.Hide
import Derived.WalkSpells
import Derived.WalkLawsBesides
namespace Go.Proofs.Yteplhhlgceppkab
open Go Go.RowKit Go.ChangeShapes Go.WideShapes

/-- A Datum without addresses. -/
inductive D where
  | mk (kind num bits : Int) (text : ByteArray) (kids : List D)
namespace D
def kind : D → Int | mk k _ _ _ _ => k
def num : D → Int | mk _ n _ _ _ => n
def bits : D → Int | mk _ _ b _ _ => b
def text : D → ByteArray | mk _ _ _ t _ => t
def kids : D → List D | mk _ _ _ _ l => l
mutual
/-- How many parts. -/
def parts : D → Nat
  | mk _ _ _ _ l => 1 + partsL l
def partsL : List D → Nat
  | [] => 0
  | x :: l => parts x + partsL l
end
theorem partsL_append (l r : List D) : partsL (l ++ r) = partsL l + partsL r := by
  induction l with
  | nil => simp [partsL]
  | cons x l ih => simp [partsL, ih]; omega
theorem parts_pos (d : D) : 1 ≤ parts d := by
  cases d; simp [parts]
theorem partsL_take {l : List D} {j : Nat} {x : D} (h : l[j]? = some x) : partsL (l.take (j + 1)) = partsL (l.take j) + parts x := by
  obtain ⟨hl, rfl⟩ := List.getElem?_eq_some_iff.1 h
  rw [List.take_succ_eq_append_getElem hl, partsL_append]
  simp [partsL]
theorem length_le_partsL (l : List D) : l.length ≤ partsL l := by
  induction l with
  | nil => simp
  | cons x l ih => have := parts_pos x; simp [partsL]; omega
theorem parts_mem {l : List D} {j : Nat} {x : D} (h : l[j]? = some x) : parts x ≤ partsL l := by
  have := List.mem_of_getElem? h
  clear h
  induction l with
  | nil => cases this
  | cons y l ih =>
    rcases List.mem_cons.1 this with rfl | h
    · simp [partsL]
    · have := ih h
      simp [partsL]; omega
end D

/-- An element of a row of five cells. -/
def five (c : Nat → Nat → Value) (i : Nat) : Value := .agg #[c i 0, c i 1, c i 2, c i 3, c i 4]
/-- The row's cells lie in the world. -/
def Row5 (w : World) (g o n : Nat) (c : Nat → Nat → Value) : Prop := ∀ i, i < n → w.cell? ⟨g, o + i * 5, none⟩ = some (c i 0) ∧ w.cell? ⟨g, o + i * 5 + 1, none⟩ = some (c i 1) ∧ w.cell? ⟨g, o + i * 5 + 2, none⟩ = some (c i 2) ∧ w.cell? ⟨g, o + i * 5 + 3, none⟩ = some (c i 3) ∧ w.cell? ⟨g, o + i * 5 + 4, none⟩ = some (c i 4)
theorem Row5.below {w w1 : World} {g o n : Nat} {c : Nat → Nat → Value} (h : Row5 w g o n c) (hg : g < w.heap.size) (hb : Below w.heap.size w w1) : Row5 w1 g o n c := fun i hi => by
  obtain ⟨h0, h1, h2, h3, h4⟩ := h i hi
  exact ⟨(hb.cell (p := ⟨g, _, none⟩) hg).trans h0, (hb.cell (p := ⟨g, _, none⟩) hg).trans h1, (hb.cell (p := ⟨g, _, none⟩) hg).trans h2, (hb.cell (p := ⟨g, _, none⟩) hg).trans h3, (hb.cell (p := ⟨g, _, none⟩) hg).trans h4⟩

/-- A value in a world is a Datum. -/
inductive Rep (w : World) : Value → D → Prop
  | mk (k m b : Int) (t : ByteArray) (a : Option Addr) (cap g o : Nat) (c : Nat → Nat → Value) (kids : List D)
      (hw : (Lit.int .i64 k).wf = true ∧ (Lit.int .i64 m).wf = true ∧ (Lit.int .u64 b).wf = true ∧ t.size ≤ maxLen)
      (ha : 0 < kids.length → a = some ⟨g, o, none⟩ ∧ g < w.heap.size ∧ kids.length ≤ cap ∧ cap ≤ 9223372036854775807)
      (hc : Row5 w g o kids.length c)
      (hk : ∀ i x, kids[i]? = some x → Rep w (five c i) x) :
      Rep w (.agg #[.int .i64 k, .int .i64 m, .int .u64 b, .string t, .slice a kids.length cap]) (.mk k m b t kids)

/-- What a Datum's value is made of. -/
theorem Rep.inv {w : World} {v : Value} {d : D} (h : Rep w v d) : ∃ (k m b : Int) (t : ByteArray) (a : Option Addr) (cap g o : Nat) (c : Nat → Nat → Value) (kids : List D), v = .agg #[.int .i64 k, .int .i64 m, .int .u64 b, .string t, .slice a kids.length cap] ∧ d = .mk k m b t kids ∧
    ((Lit.int .i64 k).wf = true ∧ (Lit.int .i64 m).wf = true ∧ (Lit.int .u64 b).wf = true ∧ t.size ≤ maxLen) ∧
    (0 < kids.length → a = some ⟨g, o, none⟩ ∧ g < w.heap.size ∧ kids.length ≤ cap ∧ cap ≤ 9223372036854775807) ∧ Row5 w g o kids.length c ∧ (∀ i x, kids[i]? = some x → Rep w (five c i) x) := by
  cases h with
  | mk k m b t a cap g o c kids hw ha hc hk => exact ⟨k, m, b, t, a, cap, g, o, c, kids, rfl, rfl, hw, ha, hc, hk⟩

theorem Rep.carry {w w1 : World} {v : Value} {d : D} (h : Rep w v d) (hb : Below w.heap.size w w1) : Rep w1 v d := by
  induction h with
  | mk k m b t a cap g o c kids hw ha hc hk ih =>
    refine Rep.mk k m b t a cap g o c kids hw (fun h0 => ?_) ?_ ih
    · obtain ⟨h1, h2, h3⟩ := ha h0
      exact ⟨h1, Nat.lt_of_lt_of_le h2 hb.size, h3⟩
    · by_cases h0 : 0 < kids.length
      · exact hc.below (ha h0).2.1 hb
      · exact fun i hi => absurd hi (by omega)

/-- The cells of an element, where its value is known. -/
theorem five_inv {c : Nat → Nat → Value} {i : Nat} {v0 v1 v2 v3 v4 : Value} (h : five c i = .agg #[v0, v1, v2, v3, v4]) : c i 0 = v0 ∧ c i 1 = v1 ∧ c i 2 = v2 ∧ c i 3 = v3 ∧ c i 4 = v4 := by
  unfold five at h
  simpa using h

section
variable {H : Type} {enc : TypeId × Value → H}
theorem cells25 : Try.prog.cellsOf 25 = 5 := by kernel_rfl
theorem cells1 : Try.prog.cellsOf 3 = 1 ∧ Try.prog.cellsOf 2 = 1 ∧ Try.prog.cellsOf 22 = 1 ∧ Try.prog.cellsOf 9 = 1 ∧ Try.prog.cellsOf 23 = 1 := ⟨by kernel_rfl, by kernel_rfl, by kernel_rfl, by kernel_rfl, by kernel_rfl⟩

theorem field_of {fs : Array Field} {xs : List (DataW H × List MemPlace)} {n : Nat} {w : World} {base : Nat} {sp : Nat → Bool} {held : Bool} {cs : List Value}
    (h : ∀ (i : Nat) (f : Field), fs[i]? = some f → DataW.trod enc Try.prog w base sp held n f.type ((cs.drop f.offset).take (Try.prog.cellsOf f.type)) = xs[i]?) (hl : xs.length = fs.size) (i : Nat) (f : Field) (hf : fs[i]? = some f) :
    ∃ x, DataW.trod enc Try.prog w base sp held n f.type ((cs.drop f.offset).take (Try.prog.cellsOf f.type)) = some x := by
  have hi : i < xs.length := by rw [hl]; exact (Array.getElem?_eq_some_iff.1 hf).1
  exact ⟨xs[i], (h i f hf).trans (List.getElem?_eq_getElem hi)⟩

theorem list5 {α : Type} {l : List α} (h : l.length = 5) : ∃ a b c d e, l = [a, b, c, d, e] := by
  match l, h with
  | [a, b, c, d, e], _ => exact ⟨a, b, c, d, e, rfl⟩

theorem rep_of_trod {w : World} {base : Nat} {sp : Nat → Bool} {held : Bool} : ∀ (fuel : Nat) (cs : List Value) (x : DataW H × List MemPlace),
    DataW.trod enc Try.prog w base sp held fuel 25 cs = some x → ∃ d, Rep w (.agg cs.toArray) d := by
  intro fuel
  induction fuel using Nat.strongRecOn with
  | _ fuel ih =>
    intro cs x h
    obtain ⟨xs, n, rfl, rfl, hl, hxl, hf⟩ := DataW.trod_struct Try.underlying25 h
    rw [cells25] at hl
    obtain ⟨c0, c1, c2, c3, c4, rfl⟩ := list5 hl
    obtain ⟨x0, h0⟩ : ∃ x, DataW.trod enc Try.prog w base sp held n 3 (([c0, c1, c2, c3, c4].drop 0).take (Try.prog.cellsOf 3)) = some x := field_of hf hxl 0 _ rfl
    obtain ⟨x1, h1⟩ : ∃ x, DataW.trod enc Try.prog w base sp held n 2 (([c0, c1, c2, c3, c4].drop 1).take (Try.prog.cellsOf 2)) = some x := field_of hf hxl 1 _ rfl
    obtain ⟨x2, h2⟩ : ∃ x, DataW.trod enc Try.prog w base sp held n 22 (([c0, c1, c2, c3, c4].drop 2).take (Try.prog.cellsOf 22)) = some x := field_of hf hxl 2 _ rfl
    obtain ⟨x3, h3⟩ : ∃ x, DataW.trod enc Try.prog w base sp held n 9 (([c0, c1, c2, c3, c4].drop 3).take (Try.prog.cellsOf 9)) = some x := field_of hf hxl 3 _ rfl
    obtain ⟨x4, h4⟩ : ∃ x, DataW.trod enc Try.prog w base sp held n 23 (([c0, c1, c2, c3, c4].drop 4).take (Try.prog.cellsOf 23)) = some x := field_of hf hxl 4 _ rfl
    rw [cells1.1] at h0
    rw [cells1.2.1] at h1
    rw [cells1.2.2.1] at h2
    rw [cells1.2.2.2.1] at h3
    rw [cells1.2.2.2.2] at h4
    simp only [List.drop_zero, List.drop_succ_cons, List.take_succ_cons, List.take_zero] at h0 h1 h2 h3 h4
    obtain ⟨k, e0, _, w0⟩ := DataW.trod_int Try.underlying3 h0
    obtain ⟨m, e1, _, w1⟩ := DataW.trod_int Try.underlying2 h1
    obtain ⟨b, e2, _, w2⟩ := DataW.trod_int Try.underlying22 h2
    obtain ⟨t, e3, _, w3⟩ := DataW.trod_string Try.underlying9 h3
    simp only [List.cons.injEq, and_true] at e0 e1 e2 e3
    subst e0 e1 e2 e3
    have hw := And.intro w0 (And.intro w1 (And.intro w2 w3))
    rcases DataW.trod_slice Try.underlying23 h4 with ⟨e4, _⟩ | ⟨a, len, cap, elems, rest, n4, _, e4, _, _, hlc, hcm, hel, hes, _, _⟩
    · simp only [List.cons.injEq, and_true] at e4
      subst e4
      exact ⟨_, Rep.mk k m b t none 0 0 0 (fun _ _ => (.bool false)) [] hw (fun h => absurd h (by simp)) (fun i hi => absurd hi (by simp)) (fun i x hx => by simp at hx)⟩
    · simp only [List.cons.injEq, and_true] at e4
      subst e4
      rw [cells25] at hes
      have hL : ∀ i, i < len → ∃ cs' x', w.cells? base (a.add (i * 5)) 5 = some cs' ∧ DataW.trod enc Try.prog w base sp held n4 25 cs' = some x' := fun i hi => by
        have h1 := hes i hi
        rw [List.getElem?_eq_getElem (by omega)] at h1
        obtain ⟨cs', hc', hx'⟩ := Option.bind_eq_some_iff.1 h1
        exact ⟨cs', _, hc', hx'⟩
      have hD : ∀ i, i < len → ∃ (cs' : List Value) (d : D), w.cells? base (a.add (i * 5)) 5 = some cs' ∧ Rep w (.agg cs'.toArray) d := fun i hi => by
        obtain ⟨cs', x', h1, h2⟩ := hL i hi
        obtain ⟨d, hd⟩ := ih n4 (by omega) cs' x' h2
        exact ⟨cs', d, h1, hd⟩
      obtain ⟨f, hfs⟩ := Classical.axiomOfChoice (r := fun (i : Nat) (y : List Value × D) => i < len → w.cells? base (a.add (i * 5)) 5 = some y.1 ∧ Rep w (.agg y.1.toArray) y.2) (fun i => by
        by_cases hi : i < len
        · obtain ⟨cs', d, h1, h2⟩ := hD i hi
          exact ⟨(cs', d), fun _ => ⟨h1, h2⟩⟩
        · exact ⟨([], .mk 0 0 0 ⟨#[]⟩ []), fun h => absurd h hi⟩)
      have hcell : ∀ i, i < len → ∀ j, j < 5 → w.cell? ((a.add (i * 5)).add j) = some ((f i).1.getD j (.bool false)) := fun i hi j hj => by
        obtain ⟨_, hl5, hc⟩ := World.cells?_some (hfs i hi).1
        rw [hc j hj, List.getD_eq_getElem?_getD, List.getElem?_eq_getElem (by omega)]
        rfl
      have hfive : ∀ i, i < len → five (fun i j => (f i).1.getD j (.bool false)) i = .agg (f i).1.toArray := fun i hi => by
        obtain ⟨_, hl5, _⟩ := World.cells?_some (hfs i hi).1
        obtain ⟨a0, a1, a2, a3, a4, e⟩ := list5 hl5
        show Value.agg #[(f i).1.getD 0 (.bool false), (f i).1.getD 1 (.bool false), (f i).1.getD 2 (.bool false), (f i).1.getD 3 (.bool false), (f i).1.getD 4 (.bool false)] = _
        rw [e]
        rfl
      have hlen : ((List.range len).map fun i => (f i).2).length = len := by simp
      have hsl : (.slice (some a) len cap : Value) = .slice (some a) ((List.range len).map fun i => (f i).2).length cap := by rw [hlen]
      refine ⟨.mk k m b t ((List.range len).map fun i => (f i).2), ?_⟩
      show Rep w (.agg #[.int .i64 k, .int .i64 m, .int .u64 b, .string t, .slice (some a) len cap]) _
      rw [hsl]
      have hcm' : cap ≤ 9223372036854775807 := by unfold maxLen at hcm; omega
      obtain ⟨g, o, sp'⟩ := a
      have hspot : 0 < len → sp' = none ∧ g < w.heap.size := fun h0 => by
        have h1 := hcell 0 h0 0 (by omega)
        have e : ((⟨g, o, sp'⟩ : Addr).add (0 * 5)).add 0 = ⟨g, o, sp'⟩ := rfl
        rw [e] at h1
        have h2 := World.cell?_spot h1
        exact ⟨h2, by cases h2; exact block_lt_of_cell h1⟩
      refine Rep.mk k m b t _ cap g o (fun i j => (f i).1.getD j (.bool false)) _ hw (fun h0 => ?_) ?_ ?_
      · rw [hlen] at h0 ⊢
        obtain ⟨rfl, h2⟩ := hspot h0
        exact ⟨rfl, h2, hlc, hcm'⟩
      · rw [hlen]
        intro i hi
        obtain ⟨rfl, _⟩ := hspot (by omega)
        have hA : ∀ j, ((⟨g, o, none⟩ : Addr).add (i * 5)).add j = ⟨g, o + i * 5 + j, none⟩ := fun j => by
          unfold Addr.add
          split <;> split <;> simp_all
        refine ⟨?_, ?_, ?_, ?_, ?_⟩
        · have := hcell i hi 0 (by omega); rwa [hA] at this
        · have := hcell i hi 1 (by omega); rwa [hA] at this
        · have := hcell i hi 2 (by omega); rwa [hA] at this
        · have := hcell i hi 3 (by omega); rwa [hA] at this
        · have := hcell i hi 4 (by omega); rwa [hA] at this
      · intro i x hx
        rw [List.getElem?_map] at hx
        by_cases hi : i < len
        · rw [List.getElem?_range hi] at hx
          simp only [Option.map_some, Option.some.injEq] at hx
          rw [hfive i hi, ← hx]
          exact (hfs i hi).2
        · rw [List.getElem?_eq_none (by simp; omega)] at hx
          cases hx
end
end Go.Proofs.Yteplhhlgceppkab
