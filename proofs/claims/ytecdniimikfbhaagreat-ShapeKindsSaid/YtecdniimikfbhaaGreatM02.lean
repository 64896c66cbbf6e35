/- Guard: contracts, joined texts (G5, G6, G7, G9). -/
import Derived.Deep.AppendLies
import Derived.Deep.RegionLaw
import Derived.Test.YtecdniimikfbhaaGreatM01

/- A Datum with its footprint; rows of them that the call makes. -/
namespace Go.Proofs.YtecdniimikfbhaaGreat
open Go Go.RowKit Go.ChangeShapes Go.WideShapes

/-- A block that the claimer may write: the predicate holds of it, and nothing of it is frozen. -/
def OwnB (w : World) (Q : Nat → Prop) (g : Nat) : Prop := Q g ∧ ∀ j, w.frozen? ⟨g, j, none⟩ = false
theorem frozen_block {w w1 : World} {g : Nat} (h : w1.heap[g]? = w.heap[g]?) (j : Nat) : w1.frozen? ⟨g, j, none⟩ = w.frozen? ⟨g, j, none⟩ := by
  unfold World.frozen?
  simp only [h]

/-- A value is a Datum, all in blocks of Q. -/
inductive RepQ (w : World) (Q : Nat → Prop) : Value → D → Prop
  | mk (k m b : Int) (t : ByteArray) (a : Option Addr) (cap g o : Nat) (c : Nat → Nat → Value) (kids : List D)
      (hw : (Lit.int .i64 k).wf = true ∧ (Lit.int .i64 m).wf = true ∧ (Lit.int .u64 b).wf = true ∧ t.size ≤ maxLen)
      (ha : 0 < kids.length → a = some ⟨g, o, none⟩ ∧ OwnB w Q g ∧ g < w.heap.size ∧ kids.length ≤ cap ∧ cap ≤ 9223372036854775807)
      (hc : Row5 w g o kids.length c)
      (hk : ∀ i x, kids[i]? = some x → RepQ w Q (five c i) x) :
      RepQ w Q (.agg #[.int .i64 k, .int .i64 m, .int .u64 b, .string t, .slice a kids.length cap]) (.mk k m b t kids)

theorem RepQ.rep {w : World} {Q : Nat → Prop} {v : Value} {d : D} (h : RepQ w Q v d) : Rep w v d := by
  induction h with
  | mk k m b t a cap g o c kids hw ha hc hk ih => exact .mk k m b t a cap g o c kids hw (fun h0 => ⟨(ha h0).1, (ha h0).2.2⟩) hc ih

theorem RepQ.carry {w w1 : World} {Q Q1 : Nat → Prop} {v : Value} {d : D} (h : RepQ w Q v d) (hb : ∀ b, Q b → b < w.heap.size → w1.heap[b]? = w.heap[b]? ∧ Q1 b) (hz : w.heap.size ≤ w1.heap.size) : RepQ w1 Q1 v d := by
  induction h with
  | mk k m b t a cap g o c kids hw ha hc hk ih =>
    refine .mk k m b t a cap g o c kids hw (fun h0 => ?_) ?_ ih
    · obtain ⟨h1, h2, h3, h4⟩ := ha h0
      exact ⟨h1, ⟨(hb g h2.1 h3).2, fun j => (frozen_block (hb g h2.1 h3).1 j).trans (h2.2 j)⟩, Nat.lt_of_lt_of_le h3 hz, h4⟩
    · by_cases h0 : 0 < kids.length
      · obtain ⟨_, h2, h3, _⟩ := ha h0
        have hq := (hb g h2.1 h3).1
        intro i hi
        obtain ⟨q0, q1, q2, q3, q4⟩ := hc i hi
        exact ⟨(World.cell?_of_block (w := w) hq).trans q0, (World.cell?_of_block (w := w) hq).trans q1, (World.cell?_of_block (w := w) hq).trans q2, (World.cell?_of_block (w := w) hq).trans q3, (World.cell?_of_block (w := w) hq).trans q4⟩
      · exact fun i hi => absurd hi (by omega)

/-- The cells of n elements. -/
def rowCells (c : Nat → Nat → Value) (n : Nat) : List Value := (List.range n).flatMap fun i => [c i 0, c i 1, c i 2, c i 3, c i 4]
theorem rowCells_length (c : Nat → Nat → Value) (n : Nat) : (rowCells c n).length = n * 5 := by
  induction n with
  | zero => rfl
  | succ n ih =>
    unfold rowCells at ih ⊢
    rw [List.range_succ, List.flatMap_append, List.length_append, ih]
    simp; omega
theorem flatMap_same {α β : Type} {f g : α → List β} : ∀ {l : List α}, (∀ x ∈ l, f x = g x) → l.flatMap f = l.flatMap g
  | [], _ => rfl
  | a :: l, h => by
    rw [List.flatMap_cons, List.flatMap_cons, h a (by simp), flatMap_same (fun x hx => h x (by simp [hx]))]
theorem rowCells_snoc (c c' : Nat → Nat → Value) (n : Nat) (h : ∀ i, i < n → ∀ j, c' i j = c i j) : rowCells c' (n + 1) = rowCells c n ++ [c' n 0, c' n 1, c' n 2, c' n 3, c' n 4] := by
  unfold rowCells
  rw [List.range_succ, List.flatMap_append]
  have e : (List.range n).flatMap (fun i => [c' i 0, c' i 1, c' i 2, c' i 3, c' i 4]) = (List.range n).flatMap (fun i => [c i 0, c i 1, c i 2, c i 3, c i 4]) := by
    refine flatMap_same fun i hi => ?_
    have hi' := List.mem_range.1 hi
    rw [h i hi', h i hi', h i hi', h i hi', h i hi']
  rw [e]
  simp
theorem rowCells_get (c : Nat → Nat → Value) (n : Nat) : ∀ i, i < n → ∀ j, j < 5 → (rowCells c n)[i * 5 + j]? = some (c i j) := by
  induction n with
  | zero => intro i hi; omega
  | succ n ih =>
    intro i hi j hj
    rw [rowCells_snoc c c n (fun _ _ _ => rfl)]
    by_cases h : i < n
    · rw [List.getElem?_append_left (by rw [rowCells_length]; omega)]
      exact ih i h j hj
    · obtain rfl : i = n := by omega
      rw [List.getElem?_append_right (by rw [rowCells_length]; omega), rowCells_length, Nat.add_sub_cancel_left]
      match j, hj with
      | 0, _ => rfl
      | 1, _ => rfl
      | 2, _ => rfl
      | 3, _ => rfl
      | 4, _ => rfl

/-- A slice that the call has made, from block B on, of Datums whose own memory lies elsewhere. -/
def OwnQ (w : World) (B : Nat) (sl : Value) (ks : List D) : Prop :=
  ∃ c : Nat → Nat → Value, w.ownsRow B 26 5 sl ks.length (rowCells c ks.length) ∧ ∀ i x, ks[i]? = some x → RepQ w (fun b => B ≤ b ∧ some b ≠ sl.ownBlock) (five c i) x

theorem OwnQ.nil (w : World) (B : Nat) : OwnQ w B (.slice none 0 0) [] := ⟨fun _ _ => .bool false, World.ownsRow_nil _ _ _ _, fun i x h => by simp at h⟩

theorem OwnQ.form {w : World} {B : Nat} {sl : Value} {ks : List D} (h : OwnQ w B sl ks) : ∃ a cap, sl = .slice a ks.length cap := by
  obtain ⟨c, h1, _⟩ := h
  rcases h1.2 with ⟨h2, h3⟩ | ⟨g, cap, cur, hv, _⟩
  · exact ⟨none, 0, by rw [h2, h3]⟩
  · exact ⟨_, _, hv⟩

/-- Such a row, made a Datum. -/
theorem OwnQ.repQ {w : World} {B : Nat} {sl : Value} {ks : List D} (h : OwnQ w B sl ks) {k m b : Int} {t : ByteArray}
    (hw : (Lit.int .i64 k).wf = true ∧ (Lit.int .i64 m).wf = true ∧ (Lit.int .u64 b).wf = true ∧ t.size ≤ maxLen) :
    RepQ w (fun b => B ≤ b) (.agg #[.int .i64 k, .int .i64 m, .int .u64 b, .string t, sl]) (.mk k m b t ks) := by
  obtain ⟨c, h1, h2⟩ := h
  have h1' := h1
  have hK : ∀ i x, ks[i]? = some x → RepQ w (fun b => B ≤ b) (five c i) x := fun i x hx => (h2 i x hx).carry (fun b hb _ => ⟨rfl, hb.1⟩) (Nat.le_refl _)
  rcases h1.2 with ⟨rfl, h3⟩ | ⟨g, cap, cur, rfl, hg, hh, hn, hc, hs, ht⟩
  · have e : (Value.slice none 0 0) = .slice none ks.length 0 := by rw [h3]
    rw [e]
    exact .mk k m b t none 0 0 0 c ks hw (fun h => absurd h (by omega)) (fun i hi => absurd hi (by omega)) hK
  · refine .mk k m b t _ cap g 0 c ks hw (fun _ => ⟨rfl, ⟨hg, World.ownsRow.frozenAt h1'⟩, (Array.getElem?_eq_some_iff.1 hh).1, hn, by unfold maxLen at hc; omega⟩) (fun i hi => ?_) hK
    have hA : ∀ j, j < 5 → w.cell? ⟨g, 0 + i * 5 + j, none⟩ = some (c i j) := fun j hj => by
      rw [Nat.zero_add, World.ownsRow.cellAt h1' (i * 5 + j) (by omega)]
      exact rowCells_get c _ i hi j hj
    exact ⟨hA 0 (by omega), hA 1 (by omega), hA 2 (by omega), hA 3 (by omega), hA 4 (by omega)⟩

/-- From one world to another in which the row's block and all from B on is as it was. -/
theorem OwnQ.carry {w w1 : World} {B : Nat} {sl : Value} {ks : List D} (h : OwnQ w B sl ks) (hb : ∀ b, B ≤ b → b < w.heap.size → w1.heap[b]? = w.heap[b]?) (hz : w.heap.size ≤ w1.heap.size) : OwnQ w1 B sl ks := by
  obtain ⟨c, h1, h2⟩ := h
  refine ⟨c, ⟨h1.1, ?_⟩, fun i x hx => (h2 i x hx).carry (fun b hq hl => ⟨hb b hq.1 hl, hq⟩) hz⟩
  rcases h1.2 with h3 | ⟨g, cap, cur, hv, hg, hh, r⟩
  · exact Or.inl h3
  · exact Or.inr ⟨g, cap, cur, hv, hg, by rw [hb g hg (Array.getElem?_eq_some_iff.1 hh).1]; exact hh, r⟩

/-- Behind an append of one element. -/
theorem OwnQ.snoc {w1 w2 : World} {B g' cap' : Nat} {sl : Value} {ks : List D} {x : D} {e0 e1 e2 e3 e4 : Value} {c : Nat → Nat → Value}
    (hk : ∀ i x, ks[i]? = some x → RepQ w1 (fun b => B ≤ b ∧ some b ≠ sl.ownBlock) (five c i) x)
    (he : RepQ w1 (fun b => B ≤ b ∧ some b ≠ sl.ownBlock) (.agg #[e0, e1, e2, e3, e4]) x)
    (ho : w2.ownsRow B 26 5 (.slice (some ⟨g', 0, none⟩) (ks.length + 1) cap') (ks.length + 1) (rowCells c ks.length ++ [e0, e1, e2, e3, e4]))
    (hgr : w1.grownBy w2 sl.ownBlock) (hat : sl.ownBlock = some g' ∨ g' = w1.heap.size) : OwnQ w2 B (.slice (some ⟨g', 0, none⟩) (ks.length + 1) cap') (ks ++ [x]) := by
  have hlen : (ks ++ [x]).length = ks.length + 1 := by simp
  have hcar : ∀ {v : Value} {y : D}, RepQ w1 (fun b => B ≤ b ∧ some b ≠ sl.ownBlock) v y → RepQ w2 (fun b => B ≤ b ∧ some b ≠ (Value.slice (some ⟨g', 0, none⟩) (ks.length + 1) cap').ownBlock) v y := fun {v y} hv =>
    hv.carry (fun b hq hl => ⟨hgr.block b hl hq.2, hq.1, fun e => by
      have e' : b = g' := Option.some.inj e
      rcases hat with h | h
      · exact hq.2 (by rw [h, e'])
      · omega⟩) hgr.size
  refine ⟨fun i j => if i < ks.length then c i j else [e0, e1, e2, e3, e4].getD j (.bool false), ?_, fun i y hy => ?_⟩
  · rw [hlen, rowCells_snoc c _ ks.length (fun i hi j => by simp [hi])]
    simpa using ho
  · by_cases hi : i < ks.length
    · rw [List.getElem?_append_left hi] at hy
      have := hcar (hk i y hy)
      unfold five at this ⊢
      simpa [hi] using this
    · have hi2 : i = ks.length := by
        have := (List.getElem?_eq_some_iff.1 hy).1
        simp at this; omega
      subst hi2
      simp at hy
      subst hy
      have := hcar he
      unfold five
      simpa using this
end Go.Proofs.YtecdniimikfbhaaGreat

/- Contracts of the functions that copy a Datum. -/
namespace Go.Proofs.YtecdniimikfbhaaGreat
open Go Go.RowKit Go.ChangeShapes Go.WideShapes

theorem info25 : (Tryz.prog.info? 26).map (fun i => (i.zero, i.size, i.bytes)) = some (some (.agg #[.int .i64 0, .int .i64 0, .int .u64 0, .string ⟨#[]⟩, .slice none 0 0]), 5, 64) := by kernel_rfl

theorem owns_below {w w1 : World} {B n : Nat} {v : Value} {xs : List Value} (h : w.ownsRow B 26 5 v n xs) (hb : Below w.heap.size w w1) : w1.ownsRow B 26 5 v n xs := by
  obtain ⟨h1, h2⟩ := h
  refine ⟨h1, ?_⟩
  rcases h2 with h2 | ⟨g, cap, cur, hv, hg, hh, r⟩
  · exact Or.inl h2
  · exact Or.inr ⟨g, cap, cur, hv, hg, by rw [hb.block g (Array.getElem?_eq_some_iff.1 hh).1]; exact hh, r⟩
theorem RepQ.form {w : World} {Q : Nat → Prop} {v : Value} {d : D} (h : RepQ w Q v d) : ∃ (k m b : Int) (t : ByteArray) (a : Option Addr) (n cap : Nat), v = .agg #[.int .i64 k, .int .i64 m, .int .u64 b, .string t, .slice a n cap] := by
  cases h with
  | mk k m b t a cap g o c kids hw ha hc hk => exact ⟨_, _, _, _, _, _, _, rfl⟩
/-- A block of five cells. -/
def Box5 (w : World) (b : Nat) (c0 c1 c2 c3 c4 : Value) : Prop := w.heap[b]? = some (.cells #[c0, c1, c2, c3, c4] 26 (0, 0))
theorem Box5.cells {w : World} {b : Nat} {c0 c1 c2 c3 c4 : Value} (h : Box5 w b c0 c1 c2 c3 c4) :
    w.cell? ⟨b, 0, none⟩ = some c0 ∧ w.cell? ⟨b, 1, none⟩ = some c1 ∧ w.cell? ⟨b, 2, none⟩ = some c2 ∧ w.cell? ⟨b, 3, none⟩ = some c3 ∧ w.cell? ⟨b, 4, none⟩ = some c4 := by
  refine ⟨?_, ?_, ?_, ?_, ?_⟩ <;> (rw [cell_of_row w b _ _ _ _ h]; rfl)
theorem Box5.thaw {w : World} {b : Nat} {c0 c1 c2 c3 c4 : Value} (h : Box5 w b c0 c1 c2 c3 c4) : ∀ j, w.frozen? ⟨b, j, none⟩ = false := fun j => by
  unfold World.frozen?
  have h' : w.heap[b]? = some (.cells #[c0, c1, c2, c3, c4] 26 (0, 0)) := h
  simp only [h']
  simp
theorem Box5.lt {w : World} {b : Nat} {c0 c1 c2 c3 c4 : Value} (h : Box5 w b c0 c1 c2 c3 c4) : b < w.heap.size := (Array.getElem?_eq_some_iff.1 h).1
theorem Box5.set4 {w : World} {b : Nat} {c0 c1 c2 c3 c4 : Value} (h : Box5 w b c0 c1 c2 c3 c4) (x : Value) : Box5 (w.setCell ⟨b, 4, none⟩ x) b c0 c1 c2 c3 x := heap_setCell_same w b 4 _ _ x h
theorem Box5.set5 {w : World} {b : Nat} {c0 c1 c2 c3 c4 : Value} (h : Box5 w b c0 c1 c2 c3 c4) (x0 x1 x2 x3 x4 : Value) :
    Box5 (((((w.setCell ⟨b, 0, none⟩ x0).setCell ⟨b, 1, none⟩ x1).setCell ⟨b, 2, none⟩ x2).setCell ⟨b, 3, none⟩ x3).setCell ⟨b, 4, none⟩ x4) b x0 x1 x2 x3 x4 :=
  heap_setCell_same _ b 4 _ _ x4 (heap_setCell_same _ b 3 _ _ x3 (heap_setCell_same _ b 2 _ _ x2 (heap_setCell_same _ b 1 _ _ x1 (heap_setCell_same w b 0 _ _ x0 h))))
theorem set5_other (w : World) (b : Nat) (x0 x1 x2 x3 x4 : Value) (i : Nat) (h : i ≠ b) : (((((w.setCell ⟨b, 0, none⟩ x0).setCell ⟨b, 1, none⟩ x1).setCell ⟨b, 2, none⟩ x2).setCell ⟨b, 3, none⟩ x3).setCell ⟨b, 4, none⟩ x4).heap[i]? = w.heap[i]? := by
  rw [heap_setCell_other _ _ _ _ h, heap_setCell_other _ _ _ _ h, heap_setCell_other _ _ _ _ h, heap_setCell_other _ _ _ _ h, heap_setCell_other _ _ _ _ h]
theorem set5_size (w : World) (b : Nat) (x0 x1 x2 x3 x4 : Value) : (((((w.setCell ⟨b, 0, none⟩ x0).setCell ⟨b, 1, none⟩ x1).setCell ⟨b, 2, none⟩ x2).setCell ⟨b, 3, none⟩ x3).setCell ⟨b, 4, none⟩ x4).heap.size = w.heap.size := by simp
theorem Box5.keep {w w1 : World} {b : Nat} {c0 c1 c2 c3 c4 : Value} (h : Box5 w b c0 c1 c2 c3 c4) (hb : w1.heap[b]? = w.heap[b]?) : Box5 w1 b c0 c1 c2 c3 c4 := hb.trans h

theorem Box5.behind {W3 ww w5 : World} {ob : Obj} {B b n : Nat} {sl c0 c1 c2 c3 c4 : Value} {xs : List Value} (h : Box5 W3 b c0 c1 c2 c3 c4) (hb : Below W3.heap.size W3 ww) (ho : ww.ownsRow B 26 5 sl n xs) (hgr : (ww.alloc ob).grownBy w5 sl.ownBlock) (hlt : b < B) : Box5 w5 b c0 c1 c2 c3 c4 := by
  have h3 := h.lt
  have hz := hb.size
  have e1 : w5.heap[b]? = (ww.alloc ob).heap[b]? := hgr.block b (by simp; omega) (fun e => by have := (World.ownsRow.lt ho b e.symm).1; omega)
  have e2 : (ww.alloc ob).heap[b]? = ww.heap[b]? := heap_alloc_old ww ob (by omega)
  exact h.keep (e1.trans (e2.trans (hb.block b h3)))

/-- Behind the append: the row holds one element more. -/
theorem OwnQ.behind {W3 ww w5 : World} {ob : Obj} {B n N g5 cap6 : Nat} {sl : Value} {ks : List D} {x : D} {cc : Nat → Nat → Value} {k5 m5 b5 : Int} {t5 : ByteArray} {a5 : Option Addr} {n5 cap5 : Nat}
    (hn : ks.length = n) (hown : W3.ownsRow B 26 5 sl n (rowCells cc n)) (hkk : ∀ i x, ks[i]? = some x → RepQ W3 (fun b => B ≤ b ∧ some b ≠ sl.ownBlock) (five cc i) x)
    (hb4 : Below W3.heap.size W3 ww) (hN : N = W3.heap.size) (hB : B ≤ W3.heap.size) (hv : RepQ ww (fun b => N ≤ b) (.agg #[.int .i64 k5, .int .i64 m5, .int .u64 b5, .string t5, .slice a5 n5 cap5]) x)
    (hown5 : w5.ownsRow B 26 5 (.slice (some ⟨g5, 0, none⟩) (n + 1) cap6) (n + 1) (rowCells cc n ++ [.int .i64 k5, .int .i64 m5, .int .u64 b5, .string t5, .slice a5 n5 cap5]))
    (hgrow : (ww.alloc ob).grownBy w5 sl.ownBlock) (hat : sl.ownBlock = some g5 ∨ g5 = (ww.alloc ob).heap.size) : OwnQ w5 B (.slice (some ⟨g5, 0, none⟩) (n + 1) cap6) (ks ++ [x]) := by
  subst hn hN
  have hz := hb4.size
  refine OwnQ.snoc (fun i x hx => (hkk i x hx).carry (fun b hq hl => ⟨?_, hq⟩) (by simp; omega)) (hv.carry (fun b hq hl => ⟨heap_alloc_old ww ob hl, by omega, fun e => ?_⟩) (by simp)) hown5 hgrow hat
  · exact (heap_alloc_old ww ob (by omega)).trans (hb4.block b hl)
  · have := (World.ownsRow.lt hown b e.symm).2
    omega

set_option maxRecDepth 100000 in
set_option maxHeartbeats 3200000 in
theorem gclone_any {w0 : World} {v : Value} {d : D} (h : Rep w0 v d) : Slim d → ∀ (w : World), Below w0.heap.size w0 w →
    Calls Tryz.prog 75 #[v] w fun x w' => ∃ v', x = .returned v' ∧ RepQ w' (fun b => w.heap.size ≤ b) v' d ∧ Below w.heap.size w w' := by
  induction h with
  | mk k m b t a cap g o c kids hw ha hc hk ih =>
    intro hsl w hb
    obtain ⟨hn, hks⟩ := hsl.inv
    obtain ⟨i0, hi, hz0, hz1, hz2⟩ := info_parts info25
    have HI := Lib.hid ih
    have HA := Lib.hid ha
    have HC := Lib.hid hc
    have HW := Lib.hid hw
    have HS := Lib.hid hks
    have HK := Lib.hid hk
    clear ih ha hc hk hw hsl hks
    obtain ⟨W1, hW1⟩ : ∃ W1, W1 = (w.alloc (.cells #[.int .i64 k, .int .i64 m, .int .u64 b, .string t, .slice none 0 0] 26)).alloc (.cells #[.int .i64 0, .int .i64 0, .int .u64 0, .string ⟨#[]⟩, .slice none 0 0] 26) := ⟨_, rfl⟩
    have hbW : Below w.heap.size w W1 := by rw [hW1]; go_grown
    have hzW : W1.heap.size = w.heap.size + 2 := by rw [hW1]; simp
    have hx1 : Box5 W1 w.heap.size (.int .i64 k) (.int .i64 m) (.int .u64 b) (.string t) (.slice none 0 0) := by
      rw [hW1]; exact Box5.keep (heap_alloc_new w _) (((Below.refl _ _).alloc (Nat.le_refl _) _).block _ (by simp))
    have hx2 : Box5 W1 (w.heap.size + 1) (.int .i64 0) (.int .i64 0) (.int .u64 0) (.string ⟨#[]⟩) (.slice none 0 0) := by
      rw [hW1]
      have h := heap_alloc_new (w.alloc (.cells #[.int .i64 k, .int .i64 m, .int .u64 b, .string t, .slice none 0 0] 26)) (.cells #[.int .i64 0, .int .i64 0, .int .u64 0, .string ⟨#[]⟩, .slice none 0 0] 26)
      simpa [Box5] using h
    have hB0 : Below w0.heap.size w0 W1 := hb.trans (hbW.mono hb.size)
    go_enter Tryz.func75, Tryz.ntmps75
    go_wp2_with fail
    rw [← hW1]
    clear hW1
    go_loopw [11] (fun i wr => ∃ (j : Nat) (a2 : Option Addr) (cap2 : Nat), j ≤ kids.length ∧ i = .int .i64 j ∧ Box5 wr w.heap.size (.int .i64 k) (.int .i64 m) (.int .u64 b) (.string t) (.slice a2 j cap2) ∧
      Box5 wr (w.heap.size + 1) (.int .i64 0) (.int .i64 0) (.int .u64 0) (.string ⟨#[]⟩) (.slice none 0 0) ∧ OwnQ wr (w.heap.size + 2) (.slice a2 j cap2) (kids.take j) ∧ Below w.heap.size w wr ∧ w.heap.size + 2 ≤ wr.heap.size) (fun i _ => kids.length - (intOf i).toNat)
    case atStart => exact ⟨0, none, 0, by omega, rfl, hx1, hx2, OwnQ.nil _ _, hbW, by omega⟩
    case round =>
      obtain ⟨j, a2, cap2, hj, rfl, hy1, hy2, hO, hbr, hzr⟩ := hrel
      clear hx1 hx2 hbW hzW
      by_cases hlt : j < kids.length
      · obtain ⟨rfl, hg, hcp, hcm⟩ := HA.out (by omega)
        have hB1 : Below w0.heap.size w0 wr := hb.trans (hbr.mono hb.size)
        obtain ⟨q0, q1, q2, q3, q4⟩ := (HC.out.below hg hB1) j hlt
        have hx : kids[j]? = some kids[j] := List.getElem?_eq_getElem hlt
        have HX := Lib.hid (HI.out j _ hx (HS.out _ (List.getElem_mem hlt)))
        obtain ⟨k2, m2, b2, t2, a3, cap3, g3, o3, c3, kids3, e5, e6, hw3, _⟩ := (HK.out j _ hx).inv
        obtain ⟨f0, f1, f2, f3, f4⟩ := five_inv e5
        rw [f0] at q0
        rw [f1] at q1
        rw [f2] at q2
        rw [f3] at q3
        rw [f4] at q4
        rw [e5] at HX
        generalize hkj : kids[j] = x at *
        generalize kids3.length = n3 at *
        clear hx e6 f0 f1 f2 f3 f4 e5
        obtain ⟨W3, hW3⟩ : ∃ W3, W3 = wr.alloc (.cells #[.int .i64 k2, .int .i64 m2, .int .u64 b2, .string t2, .slice a3 n3 cap3] 26) := ⟨_, rfl⟩
        have hb3 : Below wr.heap.size wr W3 := by rw [hW3]; exact (Below.refl _ _).alloc (Nat.le_refl _) _
        have hz3 : W3.heap.size = wr.heap.size + 1 := by rw [hW3]; simp
        have hv1 : Box5 W3 w.heap.size (.int .i64 k) (.int .i64 m) (.int .u64 b) (.string t) (.slice a2 j cap2) := hy1.keep (hb3.block _ (by omega))
        have hv2 : Box5 W3 (w.heap.size + 1) (.int .i64 0) (.int .i64 0) (.int .u64 0) (.string ⟨#[]⟩) (.slice none 0 0) := hy2.keep (hb3.block _ (by omega))
        have hv3 : Box5 W3 wr.heap.size (.int .i64 k2) (.int .i64 m2) (.int .u64 b2) (.string t2) (.slice a3 n3 cap3) := by rw [hW3]; exact heap_alloc_new wr _
        have hO3 : OwnQ W3 (w.heap.size + 2) (.slice a2 j cap2) (kids.take j) := hO.carry (fun b _ hl => hb3.block b hl) (by omega)
        have hB3 : Below w0.heap.size w0 W3 := hB1.trans (hb3.mono hB1.size)
        have hbw3 : Below w.heap.size w W3 := hbr.trans (hb3.mono hbr.size)
        have HX2 := Lib.hid (fun w' (h : Below W3.heap.size W3 w') => HX.out w' (hB3.trans (h.mono hB3.size)))
        go_upto_region 6 with fail
        rw [← hW3]
        obtain ⟨_, _, _, _, p4⟩ := hv1.cells
        have pf := hv1.thaw 4
        obtain ⟨g0, g1, g2, g3, g4⟩ := hv3.cells
        obtain ⟨cc, hown, hkk⟩ := hO3
        have htl : (kids.take j).length = j := by rw [List.length_take]; omega
        rw [htl] at hown
        have HKK := Lib.hid hkk
        clear hkk
        clear hW3 hy1 hy2 hO HX q0 q1 q2 q3 q4
        have hone : ∀ (k5 m5 b5 : Int) (t5 : ByteArray) (a5 : Option Addr) (n5 cap5 : Nat), ∀ u ∈ [Value.int .i64 k5, .int .i64 m5, .int .u64 b5, .string t5, .slice a5 n5 cap5], u.oneCell' = true := fun k5 m5 b5 t5 a5 n5 cap5 u hu => by
          simp at hu
          rcases hu with rfl | rfl | rfl | rfl | rfl <;> rfl
        have hj1 : j + 1 ≤ maxLen := by unfold maxLen; omega
        have hj2 : (j + 1) * 64 ≤ 140737488355328 := by omega
        have hO1 := Lib.hid hone
        clear hone
        go_region_law (first
          | (refine step_append_lies _ (by rfl) (.tmp 16) (.tmp 19) 24 (by rfl) (w.heap.size + 2) 26 i0 (.agg #[.int .i64 0, .int .i64 0, .int .u64 0, .string ⟨#[]⟩, .slice none 0 0]) 5 64 Tryz.underlying24 hi hz0 hz1 hz2 (by rfl) (by decide) _ _ _ (by rfl) (World.ownsRow.alloc hown4 _) ⟨ww.heap.size, 0, none⟩ 1 1 [.int .i64 k5, .int .i64 m5, .int .u64 b5, .string t5, .slice a5 n5 cap5] (by rfl) (by rfl) (World.news_of_block (heap_alloc_new ww _)) (hO1.out _ _ _ _ _ _ _) (by decide) hj1 hj2 (hbase _) _ (by rfl) ?_; intro g5 cap6 w5 hown5 hgrow hat hlt5; have hbx := Box5.behind hv1 hb4 hown4 hgrow (by omega); have hp5 := hbx.cells.2.2.2.2; have hpf := hbx.thaw 4)
          | (go_simp; go_at_call 75; refine (HX2.out _ (by go_grown)).mono ?_; rintro x ww ⟨v', rfl, hv', hb2⟩; obtain ⟨k5, m5, b5, t5, a5, n5, cap5, rfl⟩ := hv'.form; have hb4 : Below W3.heap.size W3 ww := Below.trans (by go_grown) hb2; have hown4 := owns_below hown hb4; have hz4 := hb4.size; have hbase : ∀ ob, w.heap.size + 2 ≤ (ww.alloc ob).heap.size := (fun ob => by simp; omega); have hp4 : ww.cell? ⟨w.heap.size, 4, none⟩ = some (.slice a2 j cap2) := (hb4.cell (p := ⟨w.heap.size, 4, none⟩) (by simp; omega)).trans p4; have hp6 : ∀ ob, (ww.alloc ob).cell? ⟨w.heap.size, 4, none⟩ = some (.slice a2 j cap2) := (fun ob => (World.cell?_of_block (w := ww) (heap_alloc_old ww ob (show w.heap.size < ww.heap.size by omega))).trans hp4); (try dsimp only)))
        all_goals (
          have hO5 := OwnQ.behind htl hown HKK.out hb4 (by rfl) (by omega) hv' hown5 hgrow hat
          have hbx2 := Box5.behind hv2 hb4 hown4 hgrow (by omega)
          have hz5 := hgrow.size
          have hbw5 : Below w.heap.size w w5 := Below.grown ((hbw3.trans (hb4.mono (by omega))).alloc (by omega) _) hgrow (by simp; omega) (fun r hr => Nat.le_trans (by omega) (World.ownsRow.lt hown4 r hr).1)
          have hO6 := hO5.carry (w1 := w5.setCell ⟨w.heap.size, 4, none⟩ (.slice (some ⟨g5, 0, none⟩) (j + 1) cap6)) (fun b hb _ => heap_setCell_other _ _ _ _ (by simp; omega)) (by simp)
          have htk : kids.take (j + 1) = kids.take j ++ [x] := by rw [List.take_succ_eq_append_getElem hlt, hkj]
          rw [← htk] at hO6
          have hbx3 := hbx.set4 (.slice (some ⟨g5, 0, none⟩) (j + 1) cap6)
          have hbx4 := hbx2.keep (w1 := w5.setCell ⟨w.heap.size, 4, none⟩ (.slice (some ⟨g5, 0, none⟩) (j + 1) cap6)) (heap_setCell_other _ _ _ _ (by simp))
          have hbw6 := hbw5.setCell (p := ⟨w.heap.size, 4, none⟩) (Nat.le_refl _) (.slice (some ⟨g5, 0, none⟩) (j + 1) cap6)
          have hz6 : w.heap.size + 2 ≤ (w5.setCell ⟨w.heap.size, 4, none⟩ (.slice (some ⟨g5, 0, none⟩) (j + 1) cap6)).heap.size := by simp at hz5 ⊢; omega
          generalize w5.setCell ⟨w.heap.size, 4, none⟩ (.slice (some ⟨g5, 0, none⟩) (j + 1) cap6) = w6 at *
          clear hgrow hat hown5 hown4 hown hv' hO5 hbx hbx2 hv1 hv2 hv3 hp4 hp5 hp6 hpf p4 pf hbase hlt5
          go_wp2_with fail
          go_roundw
          case rel => exact ⟨j + 1, _, cap6, by omega, by go_num, hbx3, hbx4, hO6, hbw6, hz6⟩
          case measure => simp [intOf]; omega)
      · obtain rfl : j = kids.length := by omega
        rw [List.take_length] at hO
        obtain ⟨z0, z1, z2, z3, z4⟩ := hy1.cells
        have zf := hy2.thaw
        obtain ⟨y0, y1, y2, y3, y4⟩ := hy2.cells
        have hne : w.heap.size + 1 ≠ w.heap.size := by omega
        go_wp2_with fail
        have hF := hy2.set5 (.int .i64 k) (.int .i64 m) (.int .u64 b) (.string t) (.slice a2 kids.length cap2)
        have hFo := set5_other wr (w.heap.size + 1) (.int .i64 k) (.int .i64 m) (.int .u64 b) (.string t) (.slice a2 kids.length cap2)
        have hFs := set5_size wr (w.heap.size + 1) (.int .i64 k) (.int .i64 m) (.int .u64 b) (.string t) (.slice a2 kids.length cap2)
        have hFb : Below w.heap.size w (((((wr.setCell ⟨w.heap.size + 1, 0, none⟩ (.int .i64 k)).setCell ⟨w.heap.size + 1, 1, none⟩ (.int .i64 m)).setCell ⟨w.heap.size + 1, 2, none⟩ (.int .u64 b)).setCell ⟨w.heap.size + 1, 3, none⟩ (.string t)).setCell ⟨w.heap.size + 1, 4, none⟩ (.slice a2 kids.length cap2)) :=
          ((((hbr.setCell (p := ⟨w.heap.size + 1, 0, none⟩) (by simp) _).setCell (p := ⟨w.heap.size + 1, 1, none⟩) (by simp) _).setCell (p := ⟨w.heap.size + 1, 2, none⟩) (by simp) _).setCell (p := ⟨w.heap.size + 1, 3, none⟩) (by simp) _).setCell (p := ⟨w.heap.size + 1, 4, none⟩) (by simp) _
        generalize ((((wr.setCell ⟨w.heap.size + 1, 0, none⟩ (.int .i64 k)).setCell ⟨w.heap.size + 1, 1, none⟩ (.int .i64 m)).setCell ⟨w.heap.size + 1, 2, none⟩ (.int .u64 b)).setCell ⟨w.heap.size + 1, 3, none⟩ (.string t)).setCell ⟨w.heap.size + 1, 4, none⟩ (.slice a2 kids.length cap2) = Wf at *
        obtain ⟨r0, r1, r2, r3, r4⟩ := hF.cells
        have hO2 : OwnQ Wf (w.heap.size + 2) (.slice a2 kids.length cap2) kids := hO.carry (fun b hb _ => hFo b (by omega)) (by omega)
        have hR := (hO2.repQ HW.out).carry (Q1 := fun b => w.heap.size ≤ b) (fun b hb _ => ⟨rfl, by omega⟩) (Nat.le_refl _)
        refine bodyPost_ret (v := .agg #[.int .i64 k, .int .i64 m, .int .u64 b, .string t, .slice a2 kids.length cap2]) ?_ rfl ?_
        · exact results_cell_row rfl _ Wf (w.heap.size + 1) 26 _ (0, 0) _ rfl hF Tryz.underlying26 rfl (by kernel_rfl)
        · exact ⟨_, rfl, hR, hFb⟩
end Go.Proofs.YtecdniimikfbhaaGreat

/- The other two functions that copy a Datum: the same text under other names. -/
namespace Go.Proofs.YtecdniimikfbhaaGreat
open Go Go.RowKit Go.ChangeShapes Go.WideShapes

set_option maxRecDepth 100000 in
set_option maxHeartbeats 3200000 in
theorem dclone_any {w0 : World} {v : Value} {d : D} (h : Rep w0 v d) : Slim d → ∀ (w : World), Below w0.heap.size w0 w →
    Calls Tryz.prog 86 #[v] w fun x w' => ∃ v', x = .returned v' ∧ RepQ w' (fun b => w.heap.size ≤ b) v' d ∧ Below w.heap.size w w' := by
  induction h with
  | mk k m b t a cap g o c kids hw ha hc hk ih =>
    intro hsl w hb
    obtain ⟨hn, hks⟩ := hsl.inv
    obtain ⟨i0, hi, hz0, hz1, hz2⟩ := info_parts info25
    have HI := Lib.hid ih
    have HA := Lib.hid ha
    have HC := Lib.hid hc
    have HW := Lib.hid hw
    have HS := Lib.hid hks
    have HK := Lib.hid hk
    clear ih ha hc hk hw hsl hks
    obtain ⟨W1, hW1⟩ : ∃ W1, W1 = (w.alloc (.cells #[.int .i64 k, .int .i64 m, .int .u64 b, .string t, .slice none 0 0] 26)).alloc (.cells #[.int .i64 0, .int .i64 0, .int .u64 0, .string ⟨#[]⟩, .slice none 0 0] 26) := ⟨_, rfl⟩
    have hbW : Below w.heap.size w W1 := by rw [hW1]; go_grown
    have hzW : W1.heap.size = w.heap.size + 2 := by rw [hW1]; simp
    have hx1 : Box5 W1 w.heap.size (.int .i64 k) (.int .i64 m) (.int .u64 b) (.string t) (.slice none 0 0) := by
      rw [hW1]; exact Box5.keep (heap_alloc_new w _) (((Below.refl _ _).alloc (Nat.le_refl _) _).block _ (by simp))
    have hx2 : Box5 W1 (w.heap.size + 1) (.int .i64 0) (.int .i64 0) (.int .u64 0) (.string ⟨#[]⟩) (.slice none 0 0) := by
      rw [hW1]
      have h := heap_alloc_new (w.alloc (.cells #[.int .i64 k, .int .i64 m, .int .u64 b, .string t, .slice none 0 0] 26)) (.cells #[.int .i64 0, .int .i64 0, .int .u64 0, .string ⟨#[]⟩, .slice none 0 0] 26)
      simpa [Box5] using h
    have hB0 : Below w0.heap.size w0 W1 := hb.trans (hbW.mono hb.size)
    go_enter Tryz.func86, Tryz.ntmps86
    go_wp2_with fail
    rw [← hW1]
    clear hW1
    go_loopw [11] (fun i wr => ∃ (j : Nat) (a2 : Option Addr) (cap2 : Nat), j ≤ kids.length ∧ i = .int .i64 j ∧ Box5 wr w.heap.size (.int .i64 k) (.int .i64 m) (.int .u64 b) (.string t) (.slice a2 j cap2) ∧
      Box5 wr (w.heap.size + 1) (.int .i64 0) (.int .i64 0) (.int .u64 0) (.string ⟨#[]⟩) (.slice none 0 0) ∧ OwnQ wr (w.heap.size + 2) (.slice a2 j cap2) (kids.take j) ∧ Below w.heap.size w wr ∧ w.heap.size + 2 ≤ wr.heap.size) (fun i _ => kids.length - (intOf i).toNat)
    case atStart => exact ⟨0, none, 0, by omega, rfl, hx1, hx2, OwnQ.nil _ _, hbW, by omega⟩
    case round =>
      obtain ⟨j, a2, cap2, hj, rfl, hy1, hy2, hO, hbr, hzr⟩ := hrel
      clear hx1 hx2 hbW hzW
      by_cases hlt : j < kids.length
      · obtain ⟨rfl, hg, hcp, hcm⟩ := HA.out (by omega)
        have hB1 : Below w0.heap.size w0 wr := hb.trans (hbr.mono hb.size)
        obtain ⟨q0, q1, q2, q3, q4⟩ := (HC.out.below hg hB1) j hlt
        have hx : kids[j]? = some kids[j] := List.getElem?_eq_getElem hlt
        have HX := Lib.hid (HI.out j _ hx (HS.out _ (List.getElem_mem hlt)))
        obtain ⟨k2, m2, b2, t2, a3, cap3, g3, o3, c3, kids3, e5, e6, hw3, _⟩ := (HK.out j _ hx).inv
        obtain ⟨f0, f1, f2, f3, f4⟩ := five_inv e5
        rw [f0] at q0
        rw [f1] at q1
        rw [f2] at q2
        rw [f3] at q3
        rw [f4] at q4
        rw [e5] at HX
        generalize hkj : kids[j] = x at *
        generalize kids3.length = n3 at *
        clear hx e6 f0 f1 f2 f3 f4 e5
        obtain ⟨W3, hW3⟩ : ∃ W3, W3 = wr.alloc (.cells #[.int .i64 k2, .int .i64 m2, .int .u64 b2, .string t2, .slice a3 n3 cap3] 26) := ⟨_, rfl⟩
        have hb3 : Below wr.heap.size wr W3 := by rw [hW3]; exact (Below.refl _ _).alloc (Nat.le_refl _) _
        have hz3 : W3.heap.size = wr.heap.size + 1 := by rw [hW3]; simp
        have hv1 : Box5 W3 w.heap.size (.int .i64 k) (.int .i64 m) (.int .u64 b) (.string t) (.slice a2 j cap2) := hy1.keep (hb3.block _ (by omega))
        have hv2 : Box5 W3 (w.heap.size + 1) (.int .i64 0) (.int .i64 0) (.int .u64 0) (.string ⟨#[]⟩) (.slice none 0 0) := hy2.keep (hb3.block _ (by omega))
        have hv3 : Box5 W3 wr.heap.size (.int .i64 k2) (.int .i64 m2) (.int .u64 b2) (.string t2) (.slice a3 n3 cap3) := by rw [hW3]; exact heap_alloc_new wr _
        have hO3 : OwnQ W3 (w.heap.size + 2) (.slice a2 j cap2) (kids.take j) := hO.carry (fun b _ hl => hb3.block b hl) (by omega)
        have hB3 : Below w0.heap.size w0 W3 := hB1.trans (hb3.mono hB1.size)
        have hbw3 : Below w.heap.size w W3 := hbr.trans (hb3.mono hbr.size)
        have HX2 := Lib.hid (fun w' (h : Below W3.heap.size W3 w') => HX.out w' (hB3.trans (h.mono hB3.size)))
        go_upto_region 6 with fail
        rw [← hW3]
        obtain ⟨_, _, _, _, p4⟩ := hv1.cells
        have pf := hv1.thaw 4
        obtain ⟨g0, g1, g2, g3, g4⟩ := hv3.cells
        obtain ⟨cc, hown, hkk⟩ := hO3
        have htl : (kids.take j).length = j := by rw [List.length_take]; omega
        rw [htl] at hown
        have HKK := Lib.hid hkk
        clear hkk
        clear hW3 hy1 hy2 hO HX q0 q1 q2 q3 q4
        have hone : ∀ (k5 m5 b5 : Int) (t5 : ByteArray) (a5 : Option Addr) (n5 cap5 : Nat), ∀ u ∈ [Value.int .i64 k5, .int .i64 m5, .int .u64 b5, .string t5, .slice a5 n5 cap5], u.oneCell' = true := fun k5 m5 b5 t5 a5 n5 cap5 u hu => by
          simp at hu
          rcases hu with rfl | rfl | rfl | rfl | rfl <;> rfl
        have hj1 : j + 1 ≤ maxLen := by unfold maxLen; omega
        have hj2 : (j + 1) * 64 ≤ 140737488355328 := by omega
        have hO1 := Lib.hid hone
        clear hone
        go_region_law (first
          | (refine step_append_lies _ (by rfl) (.tmp 16) (.tmp 19) 24 (by rfl) (w.heap.size + 2) 26 i0 (.agg #[.int .i64 0, .int .i64 0, .int .u64 0, .string ⟨#[]⟩, .slice none 0 0]) 5 64 Tryz.underlying24 hi hz0 hz1 hz2 (by rfl) (by decide) _ _ _ (by rfl) (World.ownsRow.alloc hown4 _) ⟨ww.heap.size, 0, none⟩ 1 1 [.int .i64 k5, .int .i64 m5, .int .u64 b5, .string t5, .slice a5 n5 cap5] (by rfl) (by rfl) (World.news_of_block (heap_alloc_new ww _)) (hO1.out _ _ _ _ _ _ _) (by decide) hj1 hj2 (hbase _) _ (by rfl) ?_; intro g5 cap6 w5 hown5 hgrow hat hlt5; have hbx := Box5.behind hv1 hb4 hown4 hgrow (by omega); have hp5 := hbx.cells.2.2.2.2; have hpf := hbx.thaw 4)
          | (go_simp; go_at_call 86; refine (HX2.out _ (by go_grown)).mono ?_; rintro x ww ⟨v', rfl, hv', hb2⟩; obtain ⟨k5, m5, b5, t5, a5, n5, cap5, rfl⟩ := hv'.form; have hb4 : Below W3.heap.size W3 ww := Below.trans (by go_grown) hb2; have hown4 := owns_below hown hb4; have hz4 := hb4.size; have hbase : ∀ ob, w.heap.size + 2 ≤ (ww.alloc ob).heap.size := (fun ob => by simp; omega); have hp4 : ww.cell? ⟨w.heap.size, 4, none⟩ = some (.slice a2 j cap2) := (hb4.cell (p := ⟨w.heap.size, 4, none⟩) (by simp; omega)).trans p4; have hp6 : ∀ ob, (ww.alloc ob).cell? ⟨w.heap.size, 4, none⟩ = some (.slice a2 j cap2) := (fun ob => (World.cell?_of_block (w := ww) (heap_alloc_old ww ob (show w.heap.size < ww.heap.size by omega))).trans hp4); (try dsimp only)))
        all_goals (
          have hO5 := OwnQ.behind htl hown HKK.out hb4 (by rfl) (by omega) hv' hown5 hgrow hat
          have hbx2 := Box5.behind hv2 hb4 hown4 hgrow (by omega)
          have hz5 := hgrow.size
          have hbw5 : Below w.heap.size w w5 := Below.grown ((hbw3.trans (hb4.mono (by omega))).alloc (by omega) _) hgrow (by simp; omega) (fun r hr => Nat.le_trans (by omega) (World.ownsRow.lt hown4 r hr).1)
          have hO6 := hO5.carry (w1 := w5.setCell ⟨w.heap.size, 4, none⟩ (.slice (some ⟨g5, 0, none⟩) (j + 1) cap6)) (fun b hb _ => heap_setCell_other _ _ _ _ (by simp; omega)) (by simp)
          have htk : kids.take (j + 1) = kids.take j ++ [x] := by rw [List.take_succ_eq_append_getElem hlt, hkj]
          rw [← htk] at hO6
          have hbx3 := hbx.set4 (.slice (some ⟨g5, 0, none⟩) (j + 1) cap6)
          have hbx4 := hbx2.keep (w1 := w5.setCell ⟨w.heap.size, 4, none⟩ (.slice (some ⟨g5, 0, none⟩) (j + 1) cap6)) (heap_setCell_other _ _ _ _ (by simp))
          have hbw6 := hbw5.setCell (p := ⟨w.heap.size, 4, none⟩) (Nat.le_refl _) (.slice (some ⟨g5, 0, none⟩) (j + 1) cap6)
          have hz6 : w.heap.size + 2 ≤ (w5.setCell ⟨w.heap.size, 4, none⟩ (.slice (some ⟨g5, 0, none⟩) (j + 1) cap6)).heap.size := by simp at hz5 ⊢; omega
          generalize w5.setCell ⟨w.heap.size, 4, none⟩ (.slice (some ⟨g5, 0, none⟩) (j + 1) cap6) = w6 at *
          clear hgrow hat hown5 hown4 hown hv' hO5 hbx hbx2 hv1 hv2 hv3 hp4 hp5 hp6 hpf p4 pf hbase hlt5
          go_wp2_with fail
          go_roundw
          case rel => exact ⟨j + 1, _, cap6, by omega, by go_num, hbx3, hbx4, hO6, hbw6, hz6⟩
          case measure => simp [intOf]; omega)
      · obtain rfl : j = kids.length := by omega
        rw [List.take_length] at hO
        obtain ⟨z0, z1, z2, z3, z4⟩ := hy1.cells
        have zf := hy2.thaw
        obtain ⟨y0, y1, y2, y3, y4⟩ := hy2.cells
        have hne : w.heap.size + 1 ≠ w.heap.size := by omega
        go_wp2_with fail
        have hF := hy2.set5 (.int .i64 k) (.int .i64 m) (.int .u64 b) (.string t) (.slice a2 kids.length cap2)
        have hFo := set5_other wr (w.heap.size + 1) (.int .i64 k) (.int .i64 m) (.int .u64 b) (.string t) (.slice a2 kids.length cap2)
        have hFs := set5_size wr (w.heap.size + 1) (.int .i64 k) (.int .i64 m) (.int .u64 b) (.string t) (.slice a2 kids.length cap2)
        have hFb : Below w.heap.size w (((((wr.setCell ⟨w.heap.size + 1, 0, none⟩ (.int .i64 k)).setCell ⟨w.heap.size + 1, 1, none⟩ (.int .i64 m)).setCell ⟨w.heap.size + 1, 2, none⟩ (.int .u64 b)).setCell ⟨w.heap.size + 1, 3, none⟩ (.string t)).setCell ⟨w.heap.size + 1, 4, none⟩ (.slice a2 kids.length cap2)) :=
          ((((hbr.setCell (p := ⟨w.heap.size + 1, 0, none⟩) (by simp) _).setCell (p := ⟨w.heap.size + 1, 1, none⟩) (by simp) _).setCell (p := ⟨w.heap.size + 1, 2, none⟩) (by simp) _).setCell (p := ⟨w.heap.size + 1, 3, none⟩) (by simp) _).setCell (p := ⟨w.heap.size + 1, 4, none⟩) (by simp) _
        generalize ((((wr.setCell ⟨w.heap.size + 1, 0, none⟩ (.int .i64 k)).setCell ⟨w.heap.size + 1, 1, none⟩ (.int .i64 m)).setCell ⟨w.heap.size + 1, 2, none⟩ (.int .u64 b)).setCell ⟨w.heap.size + 1, 3, none⟩ (.string t)).setCell ⟨w.heap.size + 1, 4, none⟩ (.slice a2 kids.length cap2) = Wf at *
        obtain ⟨r0, r1, r2, r3, r4⟩ := hF.cells
        have hO2 : OwnQ Wf (w.heap.size + 2) (.slice a2 kids.length cap2) kids := hO.carry (fun b hb _ => hFo b (by omega)) (by omega)
        have hR := (hO2.repQ HW.out).carry (Q1 := fun b => w.heap.size ≤ b) (fun b hb _ => ⟨rfl, by omega⟩) (Nat.le_refl _)
        refine bodyPost_ret (v := .agg #[.int .i64 k, .int .i64 m, .int .u64 b, .string t, .slice a2 kids.length cap2]) ?_ rfl ?_
        · exact results_cell_row rfl _ Wf (w.heap.size + 1) 26 _ (0, 0) _ rfl hF Tryz.underlying26 rfl (by kernel_rfl)
        · exact ⟨_, rfl, hR, hFb⟩

set_option maxRecDepth 100000 in
set_option maxHeartbeats 3200000 in
theorem wown_any {w0 : World} {v : Value} {d : D} (h : Rep w0 v d) : Slim d → ∀ (w : World), Below w0.heap.size w0 w →
    Calls Tryz.prog 90 #[v] w fun x w' => ∃ v', x = .returned v' ∧ RepQ w' (fun b => w.heap.size ≤ b) v' d ∧ Below w.heap.size w w' := by
  induction h with
  | mk k m b t a cap g o c kids hw ha hc hk ih =>
    intro hsl w hb
    obtain ⟨hn, hks⟩ := hsl.inv
    obtain ⟨i0, hi, hz0, hz1, hz2⟩ := info_parts info25
    have HI := Lib.hid ih
    have HA := Lib.hid ha
    have HC := Lib.hid hc
    have HW := Lib.hid hw
    have HS := Lib.hid hks
    have HK := Lib.hid hk
    clear ih ha hc hk hw hsl hks
    obtain ⟨W1, hW1⟩ : ∃ W1, W1 = (w.alloc (.cells #[.int .i64 k, .int .i64 m, .int .u64 b, .string t, .slice none 0 0] 26)).alloc (.cells #[.int .i64 0, .int .i64 0, .int .u64 0, .string ⟨#[]⟩, .slice none 0 0] 26) := ⟨_, rfl⟩
    have hbW : Below w.heap.size w W1 := by rw [hW1]; go_grown
    have hzW : W1.heap.size = w.heap.size + 2 := by rw [hW1]; simp
    have hx1 : Box5 W1 w.heap.size (.int .i64 k) (.int .i64 m) (.int .u64 b) (.string t) (.slice none 0 0) := by
      rw [hW1]; exact Box5.keep (heap_alloc_new w _) (((Below.refl _ _).alloc (Nat.le_refl _) _).block _ (by simp))
    have hx2 : Box5 W1 (w.heap.size + 1) (.int .i64 0) (.int .i64 0) (.int .u64 0) (.string ⟨#[]⟩) (.slice none 0 0) := by
      rw [hW1]
      have h := heap_alloc_new (w.alloc (.cells #[.int .i64 k, .int .i64 m, .int .u64 b, .string t, .slice none 0 0] 26)) (.cells #[.int .i64 0, .int .i64 0, .int .u64 0, .string ⟨#[]⟩, .slice none 0 0] 26)
      simpa [Box5] using h
    have hB0 : Below w0.heap.size w0 W1 := hb.trans (hbW.mono hb.size)
    go_enter Tryz.func90, Tryz.ntmps90
    go_wp2_with fail
    rw [← hW1]
    clear hW1
    go_loopw [11] (fun i wr => ∃ (j : Nat) (a2 : Option Addr) (cap2 : Nat), j ≤ kids.length ∧ i = .int .i64 j ∧ Box5 wr w.heap.size (.int .i64 k) (.int .i64 m) (.int .u64 b) (.string t) (.slice a2 j cap2) ∧
      Box5 wr (w.heap.size + 1) (.int .i64 0) (.int .i64 0) (.int .u64 0) (.string ⟨#[]⟩) (.slice none 0 0) ∧ OwnQ wr (w.heap.size + 2) (.slice a2 j cap2) (kids.take j) ∧ Below w.heap.size w wr ∧ w.heap.size + 2 ≤ wr.heap.size) (fun i _ => kids.length - (intOf i).toNat)
    case atStart => exact ⟨0, none, 0, by omega, rfl, hx1, hx2, OwnQ.nil _ _, hbW, by omega⟩
    case round =>
      obtain ⟨j, a2, cap2, hj, rfl, hy1, hy2, hO, hbr, hzr⟩ := hrel
      clear hx1 hx2 hbW hzW
      by_cases hlt : j < kids.length
      · obtain ⟨rfl, hg, hcp, hcm⟩ := HA.out (by omega)
        have hB1 : Below w0.heap.size w0 wr := hb.trans (hbr.mono hb.size)
        obtain ⟨q0, q1, q2, q3, q4⟩ := (HC.out.below hg hB1) j hlt
        have hx : kids[j]? = some kids[j] := List.getElem?_eq_getElem hlt
        have HX := Lib.hid (HI.out j _ hx (HS.out _ (List.getElem_mem hlt)))
        obtain ⟨k2, m2, b2, t2, a3, cap3, g3, o3, c3, kids3, e5, e6, hw3, _⟩ := (HK.out j _ hx).inv
        obtain ⟨f0, f1, f2, f3, f4⟩ := five_inv e5
        rw [f0] at q0
        rw [f1] at q1
        rw [f2] at q2
        rw [f3] at q3
        rw [f4] at q4
        rw [e5] at HX
        generalize hkj : kids[j] = x at *
        generalize kids3.length = n3 at *
        clear hx e6 f0 f1 f2 f3 f4 e5
        obtain ⟨W3, hW3⟩ : ∃ W3, W3 = wr.alloc (.cells #[.int .i64 k2, .int .i64 m2, .int .u64 b2, .string t2, .slice a3 n3 cap3] 26) := ⟨_, rfl⟩
        have hb3 : Below wr.heap.size wr W3 := by rw [hW3]; exact (Below.refl _ _).alloc (Nat.le_refl _) _
        have hz3 : W3.heap.size = wr.heap.size + 1 := by rw [hW3]; simp
        have hv1 : Box5 W3 w.heap.size (.int .i64 k) (.int .i64 m) (.int .u64 b) (.string t) (.slice a2 j cap2) := hy1.keep (hb3.block _ (by omega))
        have hv2 : Box5 W3 (w.heap.size + 1) (.int .i64 0) (.int .i64 0) (.int .u64 0) (.string ⟨#[]⟩) (.slice none 0 0) := hy2.keep (hb3.block _ (by omega))
        have hv3 : Box5 W3 wr.heap.size (.int .i64 k2) (.int .i64 m2) (.int .u64 b2) (.string t2) (.slice a3 n3 cap3) := by rw [hW3]; exact heap_alloc_new wr _
        have hO3 : OwnQ W3 (w.heap.size + 2) (.slice a2 j cap2) (kids.take j) := hO.carry (fun b _ hl => hb3.block b hl) (by omega)
        have hB3 : Below w0.heap.size w0 W3 := hB1.trans (hb3.mono hB1.size)
        have hbw3 : Below w.heap.size w W3 := hbr.trans (hb3.mono hbr.size)
        have HX2 := Lib.hid (fun w' (h : Below W3.heap.size W3 w') => HX.out w' (hB3.trans (h.mono hB3.size)))
        go_upto_region 6 with fail
        rw [← hW3]
        obtain ⟨_, _, _, _, p4⟩ := hv1.cells
        have pf := hv1.thaw 4
        obtain ⟨g0, g1, g2, g3, g4⟩ := hv3.cells
        obtain ⟨cc, hown, hkk⟩ := hO3
        have htl : (kids.take j).length = j := by rw [List.length_take]; omega
        rw [htl] at hown
        have HKK := Lib.hid hkk
        clear hkk
        clear hW3 hy1 hy2 hO HX q0 q1 q2 q3 q4
        have hone : ∀ (k5 m5 b5 : Int) (t5 : ByteArray) (a5 : Option Addr) (n5 cap5 : Nat), ∀ u ∈ [Value.int .i64 k5, .int .i64 m5, .int .u64 b5, .string t5, .slice a5 n5 cap5], u.oneCell' = true := fun k5 m5 b5 t5 a5 n5 cap5 u hu => by
          simp at hu
          rcases hu with rfl | rfl | rfl | rfl | rfl <;> rfl
        have hj1 : j + 1 ≤ maxLen := by unfold maxLen; omega
        have hj2 : (j + 1) * 64 ≤ 140737488355328 := by omega
        have hO1 := Lib.hid hone
        clear hone
        go_region_law (first
          | (refine step_append_lies _ (by rfl) (.tmp 16) (.tmp 19) 24 (by rfl) (w.heap.size + 2) 26 i0 (.agg #[.int .i64 0, .int .i64 0, .int .u64 0, .string ⟨#[]⟩, .slice none 0 0]) 5 64 Tryz.underlying24 hi hz0 hz1 hz2 (by rfl) (by decide) _ _ _ (by rfl) (World.ownsRow.alloc hown4 _) ⟨ww.heap.size, 0, none⟩ 1 1 [.int .i64 k5, .int .i64 m5, .int .u64 b5, .string t5, .slice a5 n5 cap5] (by rfl) (by rfl) (World.news_of_block (heap_alloc_new ww _)) (hO1.out _ _ _ _ _ _ _) (by decide) hj1 hj2 (hbase _) _ (by rfl) ?_; intro g5 cap6 w5 hown5 hgrow hat hlt5; have hbx := Box5.behind hv1 hb4 hown4 hgrow (by omega); have hp5 := hbx.cells.2.2.2.2; have hpf := hbx.thaw 4)
          | (go_simp; go_at_call 90; refine (HX2.out _ (by go_grown)).mono ?_; rintro x ww ⟨v', rfl, hv', hb2⟩; obtain ⟨k5, m5, b5, t5, a5, n5, cap5, rfl⟩ := hv'.form; have hb4 : Below W3.heap.size W3 ww := Below.trans (by go_grown) hb2; have hown4 := owns_below hown hb4; have hz4 := hb4.size; have hbase : ∀ ob, w.heap.size + 2 ≤ (ww.alloc ob).heap.size := (fun ob => by simp; omega); have hp4 : ww.cell? ⟨w.heap.size, 4, none⟩ = some (.slice a2 j cap2) := (hb4.cell (p := ⟨w.heap.size, 4, none⟩) (by simp; omega)).trans p4; have hp6 : ∀ ob, (ww.alloc ob).cell? ⟨w.heap.size, 4, none⟩ = some (.slice a2 j cap2) := (fun ob => (World.cell?_of_block (w := ww) (heap_alloc_old ww ob (show w.heap.size < ww.heap.size by omega))).trans hp4); (try dsimp only)))
        all_goals (
          have hO5 := OwnQ.behind htl hown HKK.out hb4 (by rfl) (by omega) hv' hown5 hgrow hat
          have hbx2 := Box5.behind hv2 hb4 hown4 hgrow (by omega)
          have hz5 := hgrow.size
          have hbw5 : Below w.heap.size w w5 := Below.grown ((hbw3.trans (hb4.mono (by omega))).alloc (by omega) _) hgrow (by simp; omega) (fun r hr => Nat.le_trans (by omega) (World.ownsRow.lt hown4 r hr).1)
          have hO6 := hO5.carry (w1 := w5.setCell ⟨w.heap.size, 4, none⟩ (.slice (some ⟨g5, 0, none⟩) (j + 1) cap6)) (fun b hb _ => heap_setCell_other _ _ _ _ (by simp; omega)) (by simp)
          have htk : kids.take (j + 1) = kids.take j ++ [x] := by rw [List.take_succ_eq_append_getElem hlt, hkj]
          rw [← htk] at hO6
          have hbx3 := hbx.set4 (.slice (some ⟨g5, 0, none⟩) (j + 1) cap6)
          have hbx4 := hbx2.keep (w1 := w5.setCell ⟨w.heap.size, 4, none⟩ (.slice (some ⟨g5, 0, none⟩) (j + 1) cap6)) (heap_setCell_other _ _ _ _ (by simp))
          have hbw6 := hbw5.setCell (p := ⟨w.heap.size, 4, none⟩) (Nat.le_refl _) (.slice (some ⟨g5, 0, none⟩) (j + 1) cap6)
          have hz6 : w.heap.size + 2 ≤ (w5.setCell ⟨w.heap.size, 4, none⟩ (.slice (some ⟨g5, 0, none⟩) (j + 1) cap6)).heap.size := by simp at hz5 ⊢; omega
          generalize w5.setCell ⟨w.heap.size, 4, none⟩ (.slice (some ⟨g5, 0, none⟩) (j + 1) cap6) = w6 at *
          clear hgrow hat hown5 hown4 hown hv' hO5 hbx hbx2 hv1 hv2 hv3 hp4 hp5 hp6 hpf p4 pf hbase hlt5
          go_wp2_with fail
          go_roundw
          case rel => exact ⟨j + 1, _, cap6, by omega, by go_num, hbx3, hbx4, hO6, hbw6, hz6⟩
          case measure => simp [intOf]; omega)
      · obtain rfl : j = kids.length := by omega
        rw [List.take_length] at hO
        obtain ⟨z0, z1, z2, z3, z4⟩ := hy1.cells
        have zf := hy2.thaw
        obtain ⟨y0, y1, y2, y3, y4⟩ := hy2.cells
        have hne : w.heap.size + 1 ≠ w.heap.size := by omega
        go_wp2_with fail
        have hF := hy2.set5 (.int .i64 k) (.int .i64 m) (.int .u64 b) (.string t) (.slice a2 kids.length cap2)
        have hFo := set5_other wr (w.heap.size + 1) (.int .i64 k) (.int .i64 m) (.int .u64 b) (.string t) (.slice a2 kids.length cap2)
        have hFs := set5_size wr (w.heap.size + 1) (.int .i64 k) (.int .i64 m) (.int .u64 b) (.string t) (.slice a2 kids.length cap2)
        have hFb : Below w.heap.size w (((((wr.setCell ⟨w.heap.size + 1, 0, none⟩ (.int .i64 k)).setCell ⟨w.heap.size + 1, 1, none⟩ (.int .i64 m)).setCell ⟨w.heap.size + 1, 2, none⟩ (.int .u64 b)).setCell ⟨w.heap.size + 1, 3, none⟩ (.string t)).setCell ⟨w.heap.size + 1, 4, none⟩ (.slice a2 kids.length cap2)) :=
          ((((hbr.setCell (p := ⟨w.heap.size + 1, 0, none⟩) (by simp) _).setCell (p := ⟨w.heap.size + 1, 1, none⟩) (by simp) _).setCell (p := ⟨w.heap.size + 1, 2, none⟩) (by simp) _).setCell (p := ⟨w.heap.size + 1, 3, none⟩) (by simp) _).setCell (p := ⟨w.heap.size + 1, 4, none⟩) (by simp) _
        generalize ((((wr.setCell ⟨w.heap.size + 1, 0, none⟩ (.int .i64 k)).setCell ⟨w.heap.size + 1, 1, none⟩ (.int .i64 m)).setCell ⟨w.heap.size + 1, 2, none⟩ (.int .u64 b)).setCell ⟨w.heap.size + 1, 3, none⟩ (.string t)).setCell ⟨w.heap.size + 1, 4, none⟩ (.slice a2 kids.length cap2) = Wf at *
        obtain ⟨r0, r1, r2, r3, r4⟩ := hF.cells
        have hO2 : OwnQ Wf (w.heap.size + 2) (.slice a2 kids.length cap2) kids := hO.carry (fun b hb _ => hFo b (by omega)) (by omega)
        have hR := (hO2.repQ HW.out).carry (Q1 := fun b => w.heap.size ≤ b) (fun b hb _ => ⟨rfl, by omega⟩) (Nat.le_refl _)
        refine bodyPost_ret (v := .agg #[.int .i64 k, .int .i64 m, .int .u64 b, .string t, .slice a2 kids.length cap2]) ?_ rfl ?_
        · exact results_cell_row rfl _ Wf (w.heap.size + 1) 26 _ (0, 0) _ rfl hF Tryz.underlying26 rfl (by kernel_rfl)
        · exact ⟨_, rfl, hR, hFb⟩

end Go.Proofs.YtecdniimikfbhaaGreat

/- Contracts of want's sample, by kind. -/
namespace Go.Proofs.YtecdniimikfbhaaGreat
open Go Go.RowKit Go.ChangeShapes Go.WideShapes

/-- The type of a kind's sample. -/
def sampT : Nat → TypeId
  | 1 => 100
  | 2 => 101
  | 3 => 102
  | 4 => 103
  | 5 => 104
  | 6 => 105
  | 7 => 107
  | 8 => 109
  | 9 => 111
  | 10 => 113
  | 11 => 79
  | 12 => 79
  | 13 => 117
  | _ => 0
theorem sample_1 (w : World) : Calls Tryz.prog 56 #[.int .i64 1] w fun x w' => x = .returned (.iface 100 (.int .i64 0)) ∧ Below w.heap.size w w' := by
  go_enter Tryz.func56, Tryz.ntmps56
  go_wp2_with fail
  go_ret
  exact ⟨rfl, by go_grown⟩
theorem sample_2 (w : World) : Calls Tryz.prog 56 #[.int .i64 2] w fun x w' => x = .returned (.iface 101 (.int .i64 0)) ∧ Below w.heap.size w w' := by
  go_enter Tryz.func56, Tryz.ntmps56
  go_wp2_with fail
  go_ret
  exact ⟨rfl, by go_grown⟩
theorem sample_3 (w : World) : Calls Tryz.prog 56 #[.int .i64 3] w fun x w' => (∃ v, x = .returned (.iface 102 v)) ∧ Below w.heap.size w w' := by
  go_enter Tryz.func56, Tryz.ntmps56
  go_wp2_with fail
  go_ret
  exact ⟨⟨_, rfl⟩, by go_grown⟩
theorem sample_4 (w : World) : Calls Tryz.prog 56 #[.int .i64 4] w fun x w' => x = .returned (.iface 103 (.string ⟨#[]⟩)) ∧ Below w.heap.size w w' := by
  go_enter Tryz.func56, Tryz.ntmps56
  go_wp2_with fail
  go_ret
  exact ⟨rfl, by go_grown⟩
theorem sample_5 (w : World) : Calls Tryz.prog 56 #[.int .i64 5] w fun x w' => x = .returned (.iface 104 (.string ⟨#[]⟩)) ∧ Below w.heap.size w w' := by
  go_enter Tryz.func56, Tryz.ntmps56
  go_wp2_with fail
  go_ret
  exact ⟨rfl, by go_grown⟩
theorem sample_6 (w : World) : Calls Tryz.prog 56 #[.int .i64 6] w fun x w' => x = .returned (.iface 105 (.bool false)) ∧ Below w.heap.size w w' := by
  go_enter Tryz.func56, Tryz.ntmps56
  go_wp2_with fail
  go_ret
  exact ⟨rfl, by go_grown⟩
theorem sample_7 (w : World) : Calls Tryz.prog 56 #[.int .i64 7] w fun x w' => x = .returned (.iface 107 (.slice none 0 0)) ∧ Below w.heap.size w w' := by
  go_enter Tryz.func56, Tryz.ntmps56
  go_wp2_with fail
  go_ret
  exact ⟨rfl, by go_grown⟩
theorem sample_8 (w : World) : Calls Tryz.prog 56 #[.int .i64 8] w fun x w' => x = .returned (.iface 109 (.slice none 0 0)) ∧ Below w.heap.size w w' := by
  go_enter Tryz.func56, Tryz.ntmps56
  go_wp2_with fail
  go_ret
  exact ⟨rfl, by go_grown⟩
theorem sample_9 (w : World) : Calls Tryz.prog 56 #[.int .i64 9] w fun x w' => x = .returned (.iface 111 (.agg #[.nilIface, .nilIface])) ∧ Below w.heap.size w w' := by
  go_enter Tryz.func56, Tryz.ntmps56
  go_wp2_with fail
  go_ret
  exact ⟨rfl, by go_grown⟩
theorem sample_10 (w : World) : Calls Tryz.prog 56 #[.int .i64 10] w fun x w' => x = .returned (.iface 113 (.agg #[.int .i64 0])) ∧ Below w.heap.size w w' := by
  go_enter Tryz.func56, Tryz.ntmps56
  go_wp2_with fail
  go_ret
  exact ⟨rfl, by go_grown⟩
theorem sample_11 (w : World) : Calls Tryz.prog 56 #[.int .i64 11] w fun x w' => (∃ v, x = .returned (.iface 79 v)) ∧ Below w.heap.size w w' := by
  go_enter Tryz.func56, Tryz.ntmps56
  go_wp2_with fail
  go_ret
  exact ⟨⟨_, rfl⟩, by go_grown⟩
theorem sample_12 (w : World) : Calls Tryz.prog 56 #[.int .i64 12] w fun x w' => x = .returned (.iface 79 (.pointer none)) ∧ Below w.heap.size w w' := by
  go_enter Tryz.func56, Tryz.ntmps56
  go_wp2_with fail
  go_ret
  exact ⟨rfl, by go_grown⟩
theorem sample_13 (w : World) : Calls Tryz.prog 56 #[.int .i64 13] w fun x w' => x = .returned (.iface 117 (.agg #[])) ∧ Below w.heap.size w w' := by
  go_enter Tryz.func56, Tryz.ntmps56
  go_wp2_with fail
  go_ret
  exact ⟨rfl, by go_grown⟩
theorem sample_0 (w : World) : Calls Tryz.prog 56 #[.int .i64 0] w fun x w' => x = .returned .nilIface ∧ Below w.heap.size w w' := by
  go_enter Tryz.func56, Tryz.ntmps56
  go_wp2_with fail
  go_ret
  exact ⟨rfl, by go_grown⟩
/-- Whatever the kind: nil, or a value of its type. -/
theorem sample_any (k : Nat) (hk : k ≤ 13) (w : World) : Calls Tryz.prog 56 #[.int .i64 k] w fun x w' => (k = 0 ∧ x = .returned .nilIface ∨ 1 ≤ k ∧ ∃ v, x = .returned (.iface (sampT k) v)) ∧ Below w.heap.size w w' := by
  match k, hk with
  | 0, _ => exact (sample_0 w).mono fun x w' ⟨h, hb⟩ => ⟨Or.inl ⟨rfl, h⟩, hb⟩
  | 1, _ => exact (sample_1 w).mono fun x w' ⟨h, hb⟩ => ⟨Or.inr ⟨by omega, _, h⟩, hb⟩
  | 2, _ => exact (sample_2 w).mono fun x w' ⟨h, hb⟩ => ⟨Or.inr ⟨by omega, _, h⟩, hb⟩
  | 3, _ => exact (sample_3 w).mono fun x w' ⟨h, hb⟩ => ⟨Or.inr ⟨by omega, h⟩, hb⟩
  | 4, _ => exact (sample_4 w).mono fun x w' ⟨h, hb⟩ => ⟨Or.inr ⟨by omega, _, h⟩, hb⟩
  | 5, _ => exact (sample_5 w).mono fun x w' ⟨h, hb⟩ => ⟨Or.inr ⟨by omega, _, h⟩, hb⟩
  | 6, _ => exact (sample_6 w).mono fun x w' ⟨h, hb⟩ => ⟨Or.inr ⟨by omega, _, h⟩, hb⟩
  | 7, _ => exact (sample_7 w).mono fun x w' ⟨h, hb⟩ => ⟨Or.inr ⟨by omega, _, h⟩, hb⟩
  | 8, _ => exact (sample_8 w).mono fun x w' ⟨h, hb⟩ => ⟨Or.inr ⟨by omega, _, h⟩, hb⟩
  | 9, _ => exact (sample_9 w).mono fun x w' ⟨h, hb⟩ => ⟨Or.inr ⟨by omega, _, h⟩, hb⟩
  | 10, _ => exact (sample_10 w).mono fun x w' ⟨h, hb⟩ => ⟨Or.inr ⟨by omega, _, h⟩, hb⟩
  | 11, _ => exact (sample_11 w).mono fun x w' ⟨h, hb⟩ => ⟨Or.inr ⟨by omega, h⟩, hb⟩
  | 12, _ => exact (sample_12 w).mono fun x w' ⟨h, hb⟩ => ⟨Or.inr ⟨by omega, _, h⟩, hb⟩
  | 13, _ => exact (sample_13 w).mono fun x w' ⟨h, hb⟩ => ⟨Or.inr ⟨by omega, _, h⟩, hb⟩
  | n + 14, h => omega
end Go.Proofs.YtecdniimikfbhaaGreat
