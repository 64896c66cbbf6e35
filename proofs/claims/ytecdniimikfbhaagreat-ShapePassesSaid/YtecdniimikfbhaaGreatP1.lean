/- Shape: patterns as trees. -/
import Derived.Test.YtecdniimikfbhaaGreatS8
import Derived.Test.YtecdniimikfbhaaGreatM11
namespace Go.Proofs.YtecdniimikfbhaaGreat
open Go Go.RowKit Go.ChangeShapes Go.WideShapes

/-- A pattern. -/
inductive WT where
  | mk (op num : Int) (kids : List WT)
def three (c : Nat → Nat → Value) (i : Nat) : Value := .agg #[c i 0, c i 1, c i 2]
def Row3 (w : World) (g o n : Nat) (c : Nat → Nat → Value) : Prop := ∀ i, i < n → w.cell? ⟨g, o + i * 3, none⟩ = some (c i 0) ∧ w.cell? ⟨g, o + i * 3 + 1, none⟩ = some (c i 1) ∧ w.cell? ⟨g, o + i * 3 + 2, none⟩ = some (c i 2)
theorem Row3.below {w w1 : World} {g o n : Nat} {c : Nat → Nat → Value} (h : Row3 w g o n c) (hg : g < w.heap.size) (hb : Below w.heap.size w w1) : Row3 w1 g o n c := fun i hi => by
  obtain ⟨h0, h1, h2⟩ := h i hi
  exact ⟨(hb.cell (p := ⟨g, _, none⟩) hg).trans h0, (hb.cell (p := ⟨g, _, none⟩) hg).trans h1, (hb.cell (p := ⟨g, _, none⟩) hg).trans h2⟩
inductive WRep (w : World) : Value → WT → Prop
  | mk (op num : Int) (a : Option Addr) (cap g o : Nat) (c : Nat → Nat → Value) (kids : List WT)
      (ha : 0 < kids.length → a = some ⟨g, o, none⟩ ∧ g < w.heap.size ∧ kids.length ≤ cap ∧ cap ≤ 9223372036854775807)
      (hc : Row3 w g o kids.length c)
      (hk : ∀ i x, kids[i]? = some x → WRep w (three c i) x) :
      WRep w (.agg #[.int .i64 op, .int .i64 num, .slice a kids.length cap]) (.mk op num kids)
theorem three_inv {c : Nat → Nat → Value} {i : Nat} {v0 v1 v2 : Value} (h : three c i = .agg #[v0, v1, v2]) : c i 0 = v0 ∧ c i 1 = v1 ∧ c i 2 = v2 := by
  unfold three at h
  simpa using h
theorem WRep.form {w : World} {v : Value} {t : WT} (h : WRep w v t) : ∃ (op num : Int) (a : Option Addr) (l cap : Nat), v = .agg #[.int .i64 op, .int .i64 num, .slice a l cap] := by
  cases h with
  | mk op num a cap g o c kids ha hc hk => exact ⟨_, _, _, _, _, rfl⟩

section
variable {H : Type} {enc : TypeId × Value → H}
theorem cells40 : Tryz.prog.cellsOf 40 = 3 := by kernel_rfl
theorem cells38 : Tryz.prog.cellsOf 38 = 1 := by kernel_rfl
theorem list3 {α : Type} {l : List α} (h : l.length = 3) : ∃ a b c, l = [a, b, c] := by
  match l, h with
  | [a, b, c], _ => exact ⟨a, b, c, rfl⟩
theorem wrep_of_trod {w : World} {base : Nat} {sp : Nat → Bool} {held : Bool} : ∀ (fuel : Nat) (cs : List Value) (x : DataW H × List MemPlace),
    DataW.trod enc Tryz.prog w base sp held fuel 40 cs = some x → ∃ d, WRep w (.agg cs.toArray) d := by
  intro fuel
  induction fuel using Nat.strongRecOn with
  | _ fuel ih =>
    intro cs x h
    obtain ⟨xs, n, rfl, rfl, hl, hxl, hf⟩ := DataW.trod_struct Tryz.underlying40 h
    rw [cells40] at hl
    obtain ⟨c0, c1, c2, rfl⟩ := list3 hl
    obtain ⟨x0, h0⟩ : ∃ x, DataW.trod enc Tryz.prog w base sp held n 3 (([c0, c1, c2].drop 0).take (Tryz.prog.cellsOf 3)) = some x := field_of hf hxl 0 _ rfl
    obtain ⟨x1, h1⟩ : ∃ x, DataW.trod enc Tryz.prog w base sp held n 3 (([c0, c1, c2].drop 1).take (Tryz.prog.cellsOf 3)) = some x := field_of hf hxl 1 _ rfl
    obtain ⟨x2, h2⟩ : ∃ x, DataW.trod enc Tryz.prog w base sp held n 38 (([c0, c1, c2].drop 2).take (Tryz.prog.cellsOf 38)) = some x := field_of hf hxl 2 _ rfl
    rw [cells1.1] at h0 h1
    rw [cells38] at h2
    simp only [List.drop_zero, List.drop_succ_cons, List.take_succ_cons, List.take_zero] at h0 h1 h2
    obtain ⟨k, e0, _, w0⟩ := DataW.trod_int Tryz.underlying3 h0
    obtain ⟨m, e1, _, w1⟩ := DataW.trod_int Tryz.underlying3 h1
    simp only [List.cons.injEq, and_true] at e0 e1
    subst e0 e1
    rcases DataW.trod_slice Tryz.underlying38 h2 with ⟨e4, _⟩ | ⟨a, len, cap, elems, rest, n4, _, e4, _, _, hlc, hcm, hel, hes, _, _⟩
    · simp only [List.cons.injEq, and_true] at e4
      subst e4
      exact ⟨_, WRep.mk k m none 0 0 0 (fun _ _ => (.bool false)) [] (fun h => absurd h (by simp)) (fun i hi => absurd hi (by simp)) (fun i x hx => by simp at hx)⟩
    · simp only [List.cons.injEq, and_true] at e4
      subst e4
      rw [cells40] at hes
      have hL : ∀ i, i < len → ∃ cs' x', w.cells? base (a.add (i * 3)) 3 = some cs' ∧ DataW.trod enc Tryz.prog w base sp held n4 40 cs' = some x' := fun i hi => by
        have h1 := hes i hi
        rw [List.getElem?_eq_getElem (by omega)] at h1
        obtain ⟨cs', hc', hx'⟩ := Option.bind_eq_some_iff.1 h1
        exact ⟨cs', _, hc', hx'⟩
      have hD : ∀ i, i < len → ∃ (cs' : List Value) (d : WT), w.cells? base (a.add (i * 3)) 3 = some cs' ∧ WRep w (.agg cs'.toArray) d := fun i hi => by
        obtain ⟨cs', x', h1, h2⟩ := hL i hi
        obtain ⟨d, hd⟩ := ih n4 (by omega) cs' x' h2
        exact ⟨cs', d, h1, hd⟩
      obtain ⟨f, hfs⟩ := Classical.axiomOfChoice (r := fun (i : Nat) (y : List Value × WT) => i < len → w.cells? base (a.add (i * 3)) 3 = some y.1 ∧ WRep w (.agg y.1.toArray) y.2) (fun i => by
        by_cases hi : i < len
        · obtain ⟨cs', d, h1, h2⟩ := hD i hi
          exact ⟨(cs', d), fun _ => ⟨h1, h2⟩⟩
        · exact ⟨([], .mk 0 0 []), fun h => absurd h hi⟩)
      have hcell : ∀ i, i < len → ∀ j, j < 3 → w.cell? ((a.add (i * 3)).add j) = some ((f i).1.getD j (.bool false)) := fun i hi j hj => by
        obtain ⟨_, hl5, hc⟩ := World.cells?_some (hfs i hi).1
        rw [hc j hj, List.getD_eq_getElem?_getD, List.getElem?_eq_getElem (by omega)]
        rfl
      have hfive : ∀ i, i < len → three (fun i j => (f i).1.getD j (.bool false)) i = .agg (f i).1.toArray := fun i hi => by
        obtain ⟨_, hl5, _⟩ := World.cells?_some (hfs i hi).1
        obtain ⟨a0, a1, a2, e⟩ := list3 hl5
        show Value.agg #[(f i).1.getD 0 (.bool false), (f i).1.getD 1 (.bool false), (f i).1.getD 2 (.bool false)] = _
        rw [e]
        rfl
      have hlen : ((List.range len).map fun i => (f i).2).length = len := by simp
      have hsl : (.slice (some a) len cap : Value) = .slice (some a) ((List.range len).map fun i => (f i).2).length cap := by rw [hlen]
      refine ⟨.mk k m ((List.range len).map fun i => (f i).2), ?_⟩
      show WRep w (.agg #[.int .i64 k, .int .i64 m, .slice (some a) len cap]) _
      rw [hsl]
      have hcm' : cap ≤ 9223372036854775807 := by unfold maxLen at hcm; omega
      obtain ⟨g, o, sp'⟩ := a
      have hspot : 0 < len → sp' = none ∧ g < w.heap.size := fun h0 => by
        have h1 := hcell 0 h0 0 (by omega)
        have e : ((⟨g, o, sp'⟩ : Addr).add (0 * 3)).add 0 = ⟨g, o, sp'⟩ := rfl
        rw [e] at h1
        have h2 := World.cell?_spot h1
        exact ⟨h2, by cases h2; exact block_lt_of_cell h1⟩
      refine WRep.mk k m _ cap g o (fun i j => (f i).1.getD j (.bool false)) _ (fun h0 => ?_) ?_ ?_
      · rw [hlen] at h0 ⊢
        obtain ⟨rfl, hg2⟩ := hspot h0
        exact ⟨rfl, hg2, hlc, hcm'⟩
      · rw [hlen]
        intro i hi
        obtain ⟨rfl, _⟩ := hspot (by omega)
        have hA : ∀ j, ((⟨g, o, none⟩ : Addr).add (i * 3)).add j = ⟨g, o + i * 3 + j, none⟩ := fun j => by
          unfold Addr.add
          split <;> split <;> simp_all
        refine ⟨?_, ?_, ?_⟩
        · have := hcell i hi 0 (by omega); rwa [hA] at this
        · have := hcell i hi 1 (by omega); rwa [hA] at this
        · have := hcell i hi 2 (by omega); rwa [hA] at this
      · intro i x hx
        rw [List.getElem?_map] at hx
        by_cases hi : i < len
        · rw [List.getElem?_range hi] at hx
          simp only [Option.map_some, Option.some.injEq] at hx
          rw [hfive i hi, ← hx]
          exact (hfs i hi).2
        · rw [List.getElem?_eq_none (by simp; omega)] at hx
          cases hx
end
/-- A fit pattern. -/
inductive FitT : WT → Prop
  | any : FitT (.mk 1 0 [])
  | kind (n : Nat) (h : n < 14) : FitT (.mk 2 n [])
  | face (n : Nat) (h : n < 10) : FitT (.mk 3 n [])
  | or (l : List WT) (hl : 2 ≤ l.length) (hk : ∀ x ∈ l, FitT x) : FitT (.mk 4 0 l)
  | and (l : List WT) (hl : 2 ≤ l.length) (hk : ∀ x ∈ l, FitT x) : FitT (.mk 5 0 l)
  | not (x : WT) (hx : FitT x) : FitT (.mk 6 0 [x])
mutual
/-- The kinds of a pattern. -/
def kindsT : WT → Int
  | .mk op num l => if op = 1 then 16382 else if op = 2 then ((kmask num.toNat : Nat) : Int) else if op = 3 then ((fmask num.toNat 14 : Nat) : Int) else if op = 4 then orT 0 l else if op = 5 then andT 16383 l else bits .andNot .u32 16383 (headT l)
def orT (s : Int) : List WT → Int
  | [] => s
  | x :: l => orT (bits .or .u32 s (kindsT x)) l
def andT (s : Int) : List WT → Int
  | [] => s
  | x :: l => andT (bits .and .u32 s (kindsT x)) l
def headT : List WT → Int
  | [] => 0
  | x :: _ => kindsT x
end
theorem orT_take {l : List WT} {s : Int} {j : Nat} {x : WT} (h : l[j]? = some x) : orT s (l.take (j + 1)) = bits .or .u32 (orT s (l.take j)) (kindsT x) := by
  induction l generalizing s j with
  | nil => simp at h
  | cons y l ih =>
    cases j with
    | zero => simp at h; subst h; simp [orT]
    | succ j =>
      rw [List.getElem?_cons_succ] at h
      rw [List.take_succ_cons, List.take_succ_cons, orT, orT]
      exact ih h
theorem andT_take {l : List WT} {s : Int} {j : Nat} {x : WT} (h : l[j]? = some x) : andT s (l.take (j + 1)) = bits .and .u32 (andT s (l.take j)) (kindsT x) := by
  induction l generalizing s j with
  | nil => simp at h
  | cons y l ih =>
    cases j with
    | zero => simp at h; subst h; simp [andT]
    | succ j =>
      rw [List.getElem?_cons_succ] at h
      rw [List.take_succ_cons, List.take_succ_cons, andT, andT]
      exact ih h
end Go.Proofs.YtecdniimikfbhaaGreat
