/- The interface values of Datums, and the map of boxes by their numbers. -/
import Derived.Test.YteplhhlgceppkabG20
import Derived.Maps.Own
import Derived.Maps.OwnSet
import Derived.Maps.Views
namespace Go.Proofs.Yteplhhlgceppkab
open Go Go.RowKit Go.ChangeShapes Go.WideShapes

/-- How a pointer to a block reads. -/
def ptrElem : Value → Option (DataW Unit × List MemPlace)
  | .pointer none => some (.lit (.int .i64 0), [])
  | .pointer (some ⟨b, 0, none⟩) => some (.lit (.int .i64 (b + 1)), [])
  | _ => none
theorem ptrElem_inv {v : Value} {x : DataW Unit} {ps : List MemPlace} (h : ptrElem v = some (x, ps)) : (v = .pointer none ∧ x = .lit (.int .i64 0)) ∨ ∃ b : Nat, v = .pointer (some ⟨b, 0, none⟩) ∧ x = .lit (.int .i64 (b + 1)) := by
  unfold ptrElem at h
  split at h
  · simp only [Option.some.injEq, Prod.mk.injEq] at h
    exact Or.inl ⟨rfl, h.1.symm⟩
  · simp only [Option.some.injEq, Prod.mk.injEq] at h
    exact Or.inr ⟨_, rfl, h.1.symm⟩
  · cases h
/-- The box that bears a number. -/
def boxOf (F : DataW Unit) (m : Int) : Option Nat :=
  match F.atKey (.int .i64 m) (.lit (.int .i64 0)) with
  | .lit (.int .i64 n) => if 1 ≤ n then some (n - 1).toNat else none
  | _ => none
theorem boxOf_none {F : DataW Unit} {m : Int} (h : F.atKey (.int .i64 m) (.lit (.int .i64 0)) = .lit (.int .i64 0)) : boxOf F m = none := by
  unfold boxOf; rw [h]; rfl
theorem boxOf_some {F : DataW Unit} {m : Int} {b : Nat} (h : F.atKey (.int .i64 m) (.lit (.int .i64 0)) = .lit (.int .i64 (b + 1))) : boxOf F m = some b := by
  unfold boxOf; rw [h]
  simp only
  rw [if_pos (by omega)]
  congr 1
  omega
theorem boxOf_put_same {F : DataW Unit} (hF : Maps.IsMap F) (m : Int) (b : Nat) : boxOf (F.put (.int .i64 m) (.lit (.int .i64 (b + 1)))) m = some b :=
  boxOf_some (Maps.atKey_put_same hF (by trivial) _ _)
theorem boxOf_put_other {F : DataW Unit} {m m' : Int} (h : m' ≠ m) (x : DataW Unit) : boxOf (F.put (.int .i64 m) x) m' = boxOf F m' := by
  unfold boxOf
  rw [Maps.atKey_put_other (by intro e; exact h (by cases e; rfl))]

/-- Block M is a map of boxes, each of which bears its number. -/
def BoxesAt (w : World) (M n : Nat) (F : DataW Unit) : Prop :=
  w.ownsMap Try.prog 2 ptrElem M n F ∧ ∀ m b, boxOf F m = some b → M < b ∧ ∃ x, Row w b #[.int .i64 m, x] 131
theorem BoxesAt.lt {w : World} {M n : Nat} {F : DataW Unit} (h : BoxesAt w M n F) : M < w.heap.size := h.1.lt
theorem BoxesAt.blt {w : World} {M n : Nat} {F : DataW Unit} (h : BoxesAt w M n F) {m : Int} {b : Nat} (hm : boxOf F m = some b) : b < w.heap.size := by
  obtain ⟨_, x, hx⟩ := h.2 m b hm
  exact hx.lt
theorem BoxesAt.inj {w : World} {M n : Nat} {F : DataW Unit} (h : BoxesAt w M n F) {m m' : Int} {b : Nat} (hm : boxOf F m = some b) (hm' : boxOf F m' = some b) : m = m' := by
  obtain ⟨_, x, hx⟩ := h.2 m b hm
  obtain ⟨_, y, hy⟩ := h.2 m' b hm'
  have e := hx.symm.trans hy
  simp at e
  exact e.1
theorem ownsMap_block {w w1 : World} {M n : Nat} {F : DataW Unit} (h : w.ownsMap Try.prog 2 ptrElem M n F) (hM : w1.heap[M]? = w.heap[M]?) : w1.ownsMap Try.prog 2 ptrElem M n F := by
  obtain ⟨es, clock, hb, r⟩ := h
  exact ⟨es, clock, hM.trans hb, r⟩
theorem BoxesAt.keep {w w1 : World} {M n : Nat} {F : DataW Unit} (h : BoxesAt w M n F) (hM : w1.heap[M]? = w.heap[M]?) (hb : ∀ m b, boxOf F m = some b → w1.heap[b]? = w.heap[b]?) : BoxesAt w1 M n F :=
  ⟨ownsMap_block h.1 hM, fun m b hm => ⟨(h.2 m b hm).1, (h.2 m b hm).2.imp fun _ hx => hx.keep (hb m b hm)⟩⟩
theorem BoxesAt.later {w w1 : World} {M n : Nat} {F : DataW Unit} (h : BoxesAt w M n F) (hb : Below w.heap.size w w1) : BoxesAt w1 M n F :=
  h.keep (hb.block M h.lt) (fun _ b hm => hb.block b (h.blt hm))
theorem BoxesAt.made (w : World) : BoxesAt (w.alloc (.map #[] 0)) w.heap.size 0 (.map []) :=
  ⟨World.ownsMap_made _ _ _ _, fun m b hm => by
    have : boxOf (.map []) m = none := rfl
    rw [this] at hm
    cases hm⟩

/-- What a step that makes values does: below B it writes the map and its boxes alone. -/
structure VStep (M B : Nat) (w w1 : World) (F F1 : DataW Unit) : Prop where
  below : Below M w w1
  frame : ∀ b, b < B → b ≠ M → (∀ m, boxOf F m ≠ some b) → w1.heap[b]? = w.heap[b]?
  ext : ∀ m b, boxOf F m = some b → boxOf F1 m = some b
  new : ∀ m b, boxOf F1 m = some b → boxOf F m = some b ∨ B ≤ b
theorem VStep.of_below {M B : Nat} {w w1 : World} {F : DataW Unit} (h : Below B w w1) (hM : M ≤ B) : VStep M B w w1 F F :=
  ⟨h.mono hM, fun b hb _ _ => h.block b hb, fun _ _ h => h, fun _ _ h => Or.inl h⟩
theorem VStep.trans {M B B1 : Nat} {w w1 w2 : World} {F F1 F2 : DataW Unit} (h : VStep M B w w1 F F1) (k : VStep M B1 w1 w2 F1 F2) (hB : B ≤ B1) : VStep M B w w2 F F2 := by
  refine ⟨h.below.trans k.below, fun b hb hM hF => ?_, fun m b hm => k.ext m b (h.ext m b hm), fun m b hm => ?_⟩
  · refine (k.frame b (Nat.lt_of_lt_of_le hb hB) hM (fun m hm => ?_)).trans (h.frame b hb hM hF)
    rcases h.new m b hm with h1 | h1
    · exact hF m h1
    · omega
  · rcases k.new m b hm with h1 | h1
    · exact h.new m b h1
    · exact Or.inr (Nat.le_trans hB h1)
theorem VStep.mono {M B B1 : Nat} {w w1 : World} {F F1 : DataW Unit} (h : VStep M B1 w w1 F F1) (hB : B ≤ B1) : VStep M B w w1 F F1 :=
  ⟨h.below, fun b hb => h.frame b (Nat.lt_of_lt_of_le hb hB), h.ext, fun m b hm => (h.new m b hm).imp id (Nat.le_trans hB)⟩
/-- A row that is neither the map nor a box stays. -/
theorem VStep.row {M B : Nat} {w w1 : World} {F F1 : DataW Unit} (h : VStep M B w w1 F F1) {b : Nat} {cs : Array Value} {T : TypeId} (hx : Row w b cs T) (hb : b < B) (hM : b ≠ M) (hF : ∀ m, boxOf F m ≠ some b) : Row w1 b cs T :=
  hx.keep (h.frame b hb hM hF)

/-- An interface value is a Datum's; each box by its number. -/
inductive IV (F : DataW Unit) : D → Value → Prop
  | nil (m b t l) : IV F (.mk 0 m b t l) .nilIface
  | int (m b t l) : IV F (.mk 1 m b t l) (.iface 114 (.int .i64 m))
  | key (m b t l) : IV F (.mk 2 m b t l) (.iface 115 (.int .i64 m))
  | float (m b t l) : IV F (.mk 3 m b t l) (.iface 116 (.float .f64 b.toNat))
  | text (m b t l) : IV F (.mk 4 m b t l) (.iface 117 (.string t))
  | name (m b t l) : IV F (.mk 5 m b t l) (.iface 118 (.string t))
  | bool (m b t l) : IV F (.mk 6 m b t l) (.iface 119 (.bool (m == 1)))
  | bytes (m b t l a c) : IV F (.mk 7 m b t l) (.iface 121 (.slice a t.size c))
  | list (m b t l a c) : IV F (.mk 8 m b t l) (.iface 123 (.slice a l.length c))
  | pair (m b t x y u v) (hx : IV F x u) (hy : IV F y v) : IV F (.mk 9 m b t [x, y]) (.iface 126 (.agg #[u, v]))
  | err (m b t l) : IV F (.mk 10 m b t l) (.iface 128 (.agg #[.int .i64 m, .string t]))
  | ptr (m b t l g) (hg : boxOf F m = some g) : IV F (.mk 11 m b t l) (.iface 129 (.pointer (some ⟨g, 0, none⟩)))
  | noptr (m b t l) : IV F (.mk 12 m b t l) (.iface 129 (.pointer none))
  | unit (m b t l) : IV F (.mk 13 m b t l) (.iface 132 (.agg #[]))
theorem IV.ext {F F1 : DataW Unit} (he : ∀ m b, boxOf F m = some b → boxOf F1 m = some b) {d : D} {v : Value} (h : IV F d v) : IV F1 d v := by
  induction h with
  | nil m b t l => exact .nil m b t l
  | int m b t l => exact .int m b t l
  | key m b t l => exact .key m b t l
  | float m b t l => exact .float m b t l
  | text m b t l => exact .text m b t l
  | name m b t l => exact .name m b t l
  | bool m b t l => exact .bool m b t l
  | bytes m b t l a c => exact .bytes m b t l a c
  | list m b t l a c => exact .list m b t l a c
  | pair m b t x y u v _ _ ihx ihy => exact .pair m b t x y u v ihx ihy
  | err m b t l => exact .err m b t l
  | ptr m b t l g hg => exact .ptr m b t l g (he _ _ hg)
  | noptr m b t l => exact .noptr m b t l
  | unit m b t l => exact .unit m b t l

theorem IV.one {F : DataW Unit} {d : D} {v : Value} (h : IV F d v) : v.oneCell' = true := by
  cases h <;> rfl
theorem IV.form {F : DataW Unit} {d : D} {v : Value} (h : IV F d v) : v = .nilIface ∨ ∃ T z, v = .iface T z := by
  cases h <;> first | exact Or.inl rfl | exact Or.inr ⟨_, _, rfl⟩
/-- What value does of a Datum's value v. -/
def ValueSays (w0 : World) (v : Value) (d : D) : Prop := ∀ (w : World) (M n : Nat) (F : DataW Unit), Below w0.heap.size w0 w → w0.heap.size ≤ M → BoxesAt w M n F → n + d.parts ≤ 1000000 →
  Calls Try.prog 50 #[.map (some M), v] w fun x w' => ∃ u F1 n1, x = .returned u ∧ IV F1 d u ∧ BoxesAt w' M n1 F1 ∧ n1 ≤ n + d.parts ∧ VStep M w.heap.size w w' F F1
end Go.Proofs.Yteplhhlgceppkab
