/- A Datum with its footprint; rows of them that the call makes. -/
import Derived.Test.YteplhhlgceppkabG4
import Derived.Deep.AppendLies
import Derived.Deep.RegionLaw
namespace Go.Proofs.Yteplhhlgceppkab
open Go Go.RowKit Go.ChangeShapes Go.WideShapes

/-- A value is a Datum, all in blocks of Q. -/
inductive RepQ (w : World) (Q : Nat → Prop) : Value → D → Prop
  | mk (k m b : Int) (t : ByteArray) (a : Option Addr) (cap g o : Nat) (c : Nat → Nat → Value) (kids : List D)
      (hw : (Lit.int .i64 k).wf = true ∧ (Lit.int .i64 m).wf = true ∧ (Lit.int .u64 b).wf = true ∧ t.size ≤ maxLen)
      (ha : 0 < kids.length → a = some ⟨g, o, none⟩ ∧ Q g ∧ g < w.heap.size ∧ kids.length ≤ cap ∧ cap ≤ 9223372036854775807)
      (hc : Row5 w g o kids.length c)
      (hk : ∀ i x, kids[i]? = some x → RepQ w Q (five c i) x) :
      RepQ w Q (.agg #[.int .i64 k, .int .i64 m, .int .u64 b, .string t, .slice a kids.length cap]) (.mk k m b t kids)

theorem RepQ.rep {w : World} {Q : Nat → Prop} {v : Value} {d : D} (h : RepQ w Q v d) : Rep w v d := by
  induction h with
  | mk k m b t a cap g o c kids hw ha hc hk ih => exact .mk k m b t a cap g o c kids hw (fun h0 => ⟨(ha h0).1, (ha h0).2.2⟩) hc ih

theorem RepQ.carry {w w1 : World} {Q Q1 : Nat → Prop} {v : Value} {d : D} (h : RepQ w Q v d) (hb : ∀ b, Q b → b < w.heap.size → w1.heap[b]? = w.heap[b]? ∧ Q1 b) (hz : w.heap.size ≤ w1.heap.size) : RepQ w1 Q1 v d := by
  induction h with
  | mk k m b t a cap g o c kids hw ha hc hk ih =>
    refine .mk k m b t a cap g o c kids hw (fun h0 => ?_) ?_ ih
    · obtain ⟨h1, h2, h3, h4⟩ := ha h0
      exact ⟨h1, (hb g h2 h3).2, Nat.lt_of_lt_of_le h3 hz, h4⟩
    · by_cases h0 : 0 < kids.length
      · obtain ⟨_, h2, h3, _⟩ := ha h0
        have hq := (hb g h2 h3).1
        intro i hi
        obtain ⟨q0, q1, q2, q3, q4⟩ := hc i hi
        exact ⟨(World.cell?_of_block (w := w) hq).trans q0, (World.cell?_of_block (w := w) hq).trans q1, (World.cell?_of_block (w := w) hq).trans q2, (World.cell?_of_block (w := w) hq).trans q3, (World.cell?_of_block (w := w) hq).trans q4⟩
      · exact fun i hi => absurd hi (by omega)

/-- The cells of n elements. -/
def rowCells (c : Nat → Nat → Value) (n : Nat) : List Value := (List.range n).flatMap fun i => [c i 0, c i 1, c i 2, c i 3, c i 4]
theorem rowCells_length (c : Nat → Nat → Value) (n : Nat) : (rowCells c n).length = n * 5 := by
  induction n with
  | zero => rfl
  | succ n ih =>
    unfold rowCells at ih ⊢
    rw [List.range_succ, List.flatMap_append, List.length_append, ih]
    simp; omega
theorem flatMap_same {α β : Type} {f g : α → List β} : ∀ {l : List α}, (∀ x ∈ l, f x = g x) → l.flatMap f = l.flatMap g
  | [], _ => rfl
  | a :: l, h => by
    rw [List.flatMap_cons, List.flatMap_cons, h a (by simp), flatMap_same (fun x hx => h x (by simp [hx]))]
theorem rowCells_snoc (c c' : Nat → Nat → Value) (n : Nat) (h : ∀ i, i < n → ∀ j, c' i j = c i j) : rowCells c' (n + 1) = rowCells c n ++ [c' n 0, c' n 1, c' n 2, c' n 3, c' n 4] := by
  unfold rowCells
  rw [List.range_succ, List.flatMap_append]
  have e : (List.range n).flatMap (fun i => [c' i 0, c' i 1, c' i 2, c' i 3, c' i 4]) = (List.range n).flatMap (fun i => [c i 0, c i 1, c i 2, c i 3, c i 4]) := by
    refine flatMap_same fun i hi => ?_
    have hi' := List.mem_range.1 hi
    rw [h i hi', h i hi', h i hi', h i hi', h i hi']
  rw [e]
  simp
theorem rowCells_get (c : Nat → Nat → Value) (n : Nat) : ∀ i, i < n → ∀ j, j < 5 → (rowCells c n)[i * 5 + j]? = some (c i j) := by
  induction n with
  | zero => intro i hi; omega
  | succ n ih =>
    intro i hi j hj
    rw [rowCells_snoc c c n (fun _ _ _ => rfl)]
    by_cases h : i < n
    · rw [List.getElem?_append_left (by rw [rowCells_length]; omega)]
      exact ih i h j hj
    · obtain rfl : i = n := by omega
      rw [List.getElem?_append_right (by rw [rowCells_length]; omega), rowCells_length, Nat.add_sub_cancel_left]
      match j, hj with
      | 0, _ => rfl
      | 1, _ => rfl
      | 2, _ => rfl
      | 3, _ => rfl
      | 4, _ => rfl

/-- A slice that the call has made, from block B on, of Datums whose own memory lies elsewhere. -/
def OwnQ (w : World) (B : Nat) (sl : Value) (ks : List D) : Prop :=
  ∃ c : Nat → Nat → Value, w.ownsRow B 25 5 sl ks.length (rowCells c ks.length) ∧ ∀ i x, ks[i]? = some x → RepQ w (fun b => B ≤ b ∧ some b ≠ sl.ownBlock) (five c i) x

theorem OwnQ.nil (w : World) (B : Nat) : OwnQ w B (.slice none 0 0) [] := ⟨fun _ _ => .bool false, World.ownsRow_nil _ _ _ _, fun i x h => by simp at h⟩

theorem OwnQ.form {w : World} {B : Nat} {sl : Value} {ks : List D} (h : OwnQ w B sl ks) : ∃ a cap, sl = .slice a ks.length cap := by
  obtain ⟨c, h1, _⟩ := h
  rcases h1.2 with ⟨h2, h3⟩ | ⟨g, cap, cur, hv, _⟩
  · exact ⟨none, 0, by rw [h2, h3]⟩
  · exact ⟨_, _, hv⟩

/-- Such a row, made a Datum. -/
theorem OwnQ.repQ {w : World} {B : Nat} {sl : Value} {ks : List D} (h : OwnQ w B sl ks) {k m b : Int} {t : ByteArray}
    (hw : (Lit.int .i64 k).wf = true ∧ (Lit.int .i64 m).wf = true ∧ (Lit.int .u64 b).wf = true ∧ t.size ≤ maxLen) :
    RepQ w (fun b => B ≤ b) (.agg #[.int .i64 k, .int .i64 m, .int .u64 b, .string t, sl]) (.mk k m b t ks) := by
  obtain ⟨c, h1, h2⟩ := h
  have h1' := h1
  have hK : ∀ i x, ks[i]? = some x → RepQ w (fun b => B ≤ b) (five c i) x := fun i x hx => (h2 i x hx).carry (fun b hb _ => ⟨rfl, hb.1⟩) (Nat.le_refl _)
  rcases h1.2 with ⟨rfl, h3⟩ | ⟨g, cap, cur, rfl, hg, hh, hn, hc, hs, ht⟩
  · have e : (Value.slice none 0 0) = .slice none ks.length 0 := by rw [h3]
    rw [e]
    exact .mk k m b t none 0 0 0 c ks hw (fun h => absurd h (by omega)) (fun i hi => absurd hi (by omega)) hK
  · refine .mk k m b t _ cap g 0 c ks hw (fun _ => ⟨rfl, hg, (Array.getElem?_eq_some_iff.1 hh).1, hn, by unfold maxLen at hc; omega⟩) (fun i hi => ?_) hK
    have hA : ∀ j, j < 5 → w.cell? ⟨g, 0 + i * 5 + j, none⟩ = some (c i j) := fun j hj => by
      rw [Nat.zero_add, World.ownsRow.cellAt h1' (i * 5 + j) (by omega)]
      exact rowCells_get c _ i hi j hj
    exact ⟨hA 0 (by omega), hA 1 (by omega), hA 2 (by omega), hA 3 (by omega), hA 4 (by omega)⟩

/-- From one world to another in which the row's block and all from B on is as it was. -/
theorem OwnQ.carry {w w1 : World} {B : Nat} {sl : Value} {ks : List D} (h : OwnQ w B sl ks) (hb : ∀ b, B ≤ b → b < w.heap.size → w1.heap[b]? = w.heap[b]?) (hz : w.heap.size ≤ w1.heap.size) : OwnQ w1 B sl ks := by
  obtain ⟨c, h1, h2⟩ := h
  refine ⟨c, ⟨h1.1, ?_⟩, fun i x hx => (h2 i x hx).carry (fun b hq hl => ⟨hb b hq.1 hl, hq⟩) hz⟩
  rcases h1.2 with h3 | ⟨g, cap, cur, hv, hg, hh, r⟩
  · exact Or.inl h3
  · exact Or.inr ⟨g, cap, cur, hv, hg, by rw [hb g hg (Array.getElem?_eq_some_iff.1 hh).1]; exact hh, r⟩

/-- Behind an append of one element. -/
theorem OwnQ.snoc {w1 w2 : World} {B g' cap' : Nat} {sl : Value} {ks : List D} {x : D} {e0 e1 e2 e3 e4 : Value} {c : Nat → Nat → Value}
    (hk : ∀ i x, ks[i]? = some x → RepQ w1 (fun b => B ≤ b ∧ some b ≠ sl.ownBlock) (five c i) x)
    (he : RepQ w1 (fun b => B ≤ b ∧ some b ≠ sl.ownBlock) (.agg #[e0, e1, e2, e3, e4]) x)
    (ho : w2.ownsRow B 25 5 (.slice (some ⟨g', 0, none⟩) (ks.length + 1) cap') (ks.length + 1) (rowCells c ks.length ++ [e0, e1, e2, e3, e4]))
    (hgr : w1.grownBy w2 sl.ownBlock) (hat : sl.ownBlock = some g' ∨ g' = w1.heap.size) : OwnQ w2 B (.slice (some ⟨g', 0, none⟩) (ks.length + 1) cap') (ks ++ [x]) := by
  have hlen : (ks ++ [x]).length = ks.length + 1 := by simp
  have hcar : ∀ {v : Value} {y : D}, RepQ w1 (fun b => B ≤ b ∧ some b ≠ sl.ownBlock) v y → RepQ w2 (fun b => B ≤ b ∧ some b ≠ (Value.slice (some ⟨g', 0, none⟩) (ks.length + 1) cap').ownBlock) v y := fun {v y} hv =>
    hv.carry (fun b hq hl => ⟨hgr.block b hl hq.2, hq.1, fun e => by
      have e' : b = g' := Option.some.inj e
      rcases hat with h | h
      · exact hq.2 (by rw [h, e'])
      · omega⟩) hgr.size
  refine ⟨fun i j => if i < ks.length then c i j else [e0, e1, e2, e3, e4].getD j (.bool false), ?_, fun i y hy => ?_⟩
  · rw [hlen, rowCells_snoc c _ ks.length (fun i hi j => by simp [hi])]
    simpa using ho
  · by_cases hi : i < ks.length
    · rw [List.getElem?_append_left hi] at hy
      have := hcar (hk i y hy)
      unfold five at this ⊢
      simpa [hi] using this
    · have hi2 : i = ks.length := by
        have := (List.getElem?_eq_some_iff.1 hy).1
        simp at this; omega
      subst hi2
      simp at hy
      subst hy
      have := hcar he
      unfold five
      simpa using this
end Go.Proofs.Yteplhhlgceppkab
