/- Guard: contracts, joined texts (G30, G31, G32, G33, G34). -/
import Derived.Maps.Own
import Derived.Maps.OwnSet
import Derived.Maps.Views
import Derived.Laws.IdiomStrings
import Derived.Test.YtecdniimikfbhaaGreatDoorM04

/- The interface values of Datums, and the map of boxes by their numbers. -/
namespace Go.Proofs.YtecdniimikfbhaaGreatDoor
open Go Go.RowKit Go.ChangeShapes Go.WideShapes

/-- How a pointer to a block reads. -/
def ptrElem : Value → Option (DataW Unit × List MemPlace)
  | .pointer none => some (.lit (.int .i64 0), [])
  | .pointer (some ⟨b, 0, none⟩) => some (.lit (.int .i64 (b + 1)), [])
  | _ => none
theorem ptrElem_inv {v : Value} {x : DataW Unit} {ps : List MemPlace} (h : ptrElem v = some (x, ps)) : (v = .pointer none ∧ x = .lit (.int .i64 0)) ∨ ∃ b : Nat, v = .pointer (some ⟨b, 0, none⟩) ∧ x = .lit (.int .i64 (b + 1)) := by
  unfold ptrElem at h
  split at h
  · simp only [Option.some.injEq, Prod.mk.injEq] at h
    exact Or.inl ⟨rfl, h.1.symm⟩
  · simp only [Option.some.injEq, Prod.mk.injEq] at h
    exact Or.inr ⟨_, rfl, h.1.symm⟩
  · cases h
/-- The box that bears a number. -/
def boxOf (F : DataW Unit) (m : Int) : Option Nat :=
  match F.atKey (.int .i64 m) (.lit (.int .i64 0)) with
  | .lit (.int .i64 n) => if 1 ≤ n then some (n - 1).toNat else none
  | _ => none
theorem boxOf_none {F : DataW Unit} {m : Int} (h : F.atKey (.int .i64 m) (.lit (.int .i64 0)) = .lit (.int .i64 0)) : boxOf F m = none := by
  unfold boxOf; rw [h]; rfl
theorem boxOf_some {F : DataW Unit} {m : Int} {b : Nat} (h : F.atKey (.int .i64 m) (.lit (.int .i64 0)) = .lit (.int .i64 (b + 1))) : boxOf F m = some b := by
  unfold boxOf; rw [h]
  simp only
  rw [if_pos (by omega)]
  congr 1
  omega
theorem boxOf_put_same {F : DataW Unit} (hF : Maps.IsMap F) (m : Int) (b : Nat) : boxOf (F.put (.int .i64 m) (.lit (.int .i64 (b + 1)))) m = some b :=
  boxOf_some (Maps.atKey_put_same hF (by trivial) _ _)
theorem boxOf_put_other {F : DataW Unit} {m m' : Int} (h : m' ≠ m) (x : DataW Unit) : boxOf (F.put (.int .i64 m) x) m' = boxOf F m' := by
  unfold boxOf
  rw [Maps.atKey_put_other (by intro e; exact h (by cases e; rfl))]

/-- Block M is a map of boxes, each of which bears its number. -/
def BoxesAt (w : World) (M n : Nat) (F : DataW Unit) : Prop :=
  w.ownsMap Tryz.prog 2 ptrElem M n F ∧ ∀ m b, boxOf F m = some b → M < b ∧ ∃ x, Row w b #[.int .i64 m, x] 131
theorem BoxesAt.lt {w : World} {M n : Nat} {F : DataW Unit} (h : BoxesAt w M n F) : M < w.heap.size := h.1.lt
theorem BoxesAt.blt {w : World} {M n : Nat} {F : DataW Unit} (h : BoxesAt w M n F) {m : Int} {b : Nat} (hm : boxOf F m = some b) : b < w.heap.size := by
  obtain ⟨_, x, hx⟩ := h.2 m b hm
  exact hx.lt
theorem BoxesAt.inj {w : World} {M n : Nat} {F : DataW Unit} (h : BoxesAt w M n F) {m m' : Int} {b : Nat} (hm : boxOf F m = some b) (hm' : boxOf F m' = some b) : m = m' := by
  obtain ⟨_, x, hx⟩ := h.2 m b hm
  obtain ⟨_, y, hy⟩ := h.2 m' b hm'
  have e := hx.symm.trans hy
  simp at e
  exact e.1
theorem ownsMap_block {w w1 : World} {M n : Nat} {F : DataW Unit} (h : w.ownsMap Tryz.prog 2 ptrElem M n F) (hM : w1.heap[M]? = w.heap[M]?) : w1.ownsMap Tryz.prog 2 ptrElem M n F := by
  obtain ⟨es, clock, hb, r⟩ := h
  exact ⟨es, clock, hM.trans hb, r⟩
theorem BoxesAt.keep {w w1 : World} {M n : Nat} {F : DataW Unit} (h : BoxesAt w M n F) (hM : w1.heap[M]? = w.heap[M]?) (hb : ∀ m b, boxOf F m = some b → w1.heap[b]? = w.heap[b]?) : BoxesAt w1 M n F :=
  ⟨ownsMap_block h.1 hM, fun m b hm => ⟨(h.2 m b hm).1, (h.2 m b hm).2.imp fun _ hx => hx.keep (hb m b hm)⟩⟩
theorem BoxesAt.later {w w1 : World} {M n : Nat} {F : DataW Unit} (h : BoxesAt w M n F) (hb : Below w.heap.size w w1) : BoxesAt w1 M n F :=
  h.keep (hb.block M h.lt) (fun _ b hm => hb.block b (h.blt hm))
theorem BoxesAt.made (w : World) : BoxesAt (w.alloc (.map #[] 0)) w.heap.size 0 (.map []) :=
  ⟨World.ownsMap_made _ _ _ _, fun m b hm => by
    have : boxOf (.map []) m = none := rfl
    rw [this] at hm
    cases hm⟩

/-- What a step that makes values does: below B it writes the map and its boxes alone. -/
structure VStep (M B : Nat) (w w1 : World) (F F1 : DataW Unit) : Prop where
  below : Below M w w1
  frame : ∀ b, b < B → b ≠ M → (∀ m, boxOf F m ≠ some b) → w1.heap[b]? = w.heap[b]?
  ext : ∀ m b, boxOf F m = some b → boxOf F1 m = some b
  new : ∀ m b, boxOf F1 m = some b → boxOf F m = some b ∨ B ≤ b
theorem VStep.of_below {M B : Nat} {w w1 : World} {F : DataW Unit} (h : Below B w w1) (hM : M ≤ B) : VStep M B w w1 F F :=
  ⟨h.mono hM, fun b hb _ _ => h.block b hb, fun _ _ h => h, fun _ _ h => Or.inl h⟩
theorem VStep.trans {M B B1 : Nat} {w w1 w2 : World} {F F1 F2 : DataW Unit} (h : VStep M B w w1 F F1) (k : VStep M B1 w1 w2 F1 F2) (hB : B ≤ B1) : VStep M B w w2 F F2 := by
  refine ⟨h.below.trans k.below, fun b hb hM hF => ?_, fun m b hm => k.ext m b (h.ext m b hm), fun m b hm => ?_⟩
  · refine (k.frame b (Nat.lt_of_lt_of_le hb hB) hM (fun m hm => ?_)).trans (h.frame b hb hM hF)
    rcases h.new m b hm with h1 | h1
    · exact hF m h1
    · omega
  · rcases k.new m b hm with h1 | h1
    · exact h.new m b h1
    · exact Or.inr (Nat.le_trans hB h1)
theorem VStep.mono {M B B1 : Nat} {w w1 : World} {F F1 : DataW Unit} (h : VStep M B1 w w1 F F1) (hB : B ≤ B1) : VStep M B w w1 F F1 :=
  ⟨h.below, fun b hb => h.frame b (Nat.lt_of_lt_of_le hb hB), h.ext, fun m b hm => (h.new m b hm).imp id (Nat.le_trans hB)⟩
/-- A row that is neither the map nor a box stays. -/
theorem VStep.row {M B : Nat} {w w1 : World} {F F1 : DataW Unit} (h : VStep M B w w1 F F1) {b : Nat} {cs : Array Value} {T : TypeId} (hx : Row w b cs T) (hb : b < B) (hM : b ≠ M) (hF : ∀ m, boxOf F m ≠ some b) : Row w1 b cs T :=
  hx.keep (h.frame b hb hM hF)

/-- An interface value is a Datum's; each box by its number. -/
inductive IV (F : DataW Unit) : D → Value → Prop
  | nil (m b t l) : IV F (.mk 0 m b t l) .nilIface
  | int (m b t l) : IV F (.mk 1 m b t l) (.iface 116 (.int .i64 m))
  | key (m b t l) : IV F (.mk 2 m b t l) (.iface 117 (.int .i64 m))
  | float (m b t l) : IV F (.mk 3 m b t l) (.iface 98 (.float .f64 b.toNat))
  | text (m b t l) : IV F (.mk 4 m b t l) (.iface 118 (.string t))
  | name (m b t l) : IV F (.mk 5 m b t l) (.iface 119 (.string t))
  | bool (m b t l) : IV F (.mk 6 m b t l) (.iface 120 (.bool (m == 1)))
  | bytes (m b t l a c) : IV F (.mk 7 m b t l) (.iface 121 (.slice a t.size c))
  | list (m b t l a c) : IV F (.mk 8 m b t l) (.iface 123 (.slice a l.length c))
  | pair (m b t x y u v) (hx : IV F x u) (hy : IV F y v) : IV F (.mk 9 m b t [x, y]) (.iface 126 (.agg #[u, v]))
  | err (m b t l) : IV F (.mk 10 m b t l) (.iface 128 (.agg #[.int .i64 m, .string t]))
  | ptr (m b t l g) (hg : boxOf F m = some g) : IV F (.mk 11 m b t l) (.iface 129 (.pointer (some ⟨g, 0, none⟩)))
  | noptr (m b t l) : IV F (.mk 12 m b t l) (.iface 129 (.pointer none))
  | unit (m b t l) : IV F (.mk 13 m b t l) (.iface 133 (.agg #[]))
theorem IV.ext {F F1 : DataW Unit} (he : ∀ m b, boxOf F m = some b → boxOf F1 m = some b) {d : D} {v : Value} (h : IV F d v) : IV F1 d v := by
  induction h with
  | nil m b t l => exact .nil m b t l
  | int m b t l => exact .int m b t l
  | key m b t l => exact .key m b t l
  | float m b t l => exact .float m b t l
  | text m b t l => exact .text m b t l
  | name m b t l => exact .name m b t l
  | bool m b t l => exact .bool m b t l
  | bytes m b t l a c => exact .bytes m b t l a c
  | list m b t l a c => exact .list m b t l a c
  | pair m b t x y u v _ _ ihx ihy => exact .pair m b t x y u v ihx ihy
  | err m b t l => exact .err m b t l
  | ptr m b t l g hg => exact .ptr m b t l g (he _ _ hg)
  | noptr m b t l => exact .noptr m b t l
  | unit m b t l => exact .unit m b t l

theorem IV.one {F : DataW Unit} {d : D} {v : Value} (h : IV F d v) : v.oneCell' = true := by
  cases h <;> rfl
theorem IV.form {F : DataW Unit} {d : D} {v : Value} (h : IV F d v) : v = .nilIface ∨ ∃ T z, v = .iface T z := by
  cases h <;> first | exact Or.inl rfl | exact Or.inr ⟨_, _, rfl⟩
/-- What value does of a Datum's value v. -/
def ValueSays (w0 : World) (v : Value) (d : D) : Prop := ∀ (w : World) (M n : Nat) (F : DataW Unit), Below w0.heap.size w0 w → w0.heap.size ≤ M → BoxesAt w M n F → n + d.parts ≤ 1000000 →
  Calls Tryz.prog 68 #[.map (some M), v] w fun x w' => ∃ u F1 n1, x = .returned u ∧ IV F1 d u ∧ BoxesAt w' M n1 F1 ∧ n1 ≤ n + d.parts ∧ VStep M w.heap.size w w' F F1
end Go.Proofs.YtecdniimikfbhaaGreatDoor

/- Contract of boxes.values, from value's. -/
namespace Go.Proofs.YtecdniimikfbhaaGreatDoor
open Go Go.RowKit Go.ChangeShapes Go.WideShapes

theorem info20 : (Tryz.prog.info? 20).map (fun i => (i.zero, i.size, i.bytes)) = some (some .nilIface, 1, 16) := by kernel_rfl

theorem owns1_keep {w w1 : World} {B n : Nat} {v : Value} {xs : List Value} (h : w.ownsRow B 20 1 v n xs) (hb : ∀ b, v.ownBlock = some b → w1.heap[b]? = w.heap[b]?) : w1.ownsRow B 20 1 v n xs := by
  obtain ⟨h1, h2⟩ := h
  refine ⟨h1, ?_⟩
  rcases h2 with h2 | ⟨g, cap, cur, rfl, hg, hh, r⟩
  · exact Or.inl h2
  · exact Or.inr ⟨g, cap, cur, rfl, hg, (hb g rfl).trans hh, r⟩

/-- The state of the loop in values. -/
structure ValuesAt (w wr : World) (M n : Nat) (F : DataW Unit) (kids : List D) (j n1 : Nat) (F1 : DataW Unit) (v : Value) (xs : List Value) : Prop where
  owns : wr.ownsRow w.heap.size 20 1 v j xs
  apart : ∀ m b, boxOf F1 m = some b → v.ownBlock ≠ some b
  boxes : BoxesAt wr M n1 F1
  few : n1 ≤ n + D.partsL (kids.take j)
  step : VStep M w.heap.size w wr F F1

theorem ValuesAt.owns4 {w wr w4 : World} {M n j n1 : Nat} {F F1 F2 : DataW Unit} {kids : List D} {v : Value} {xs : List Value} {o1 : Obj}
    (h : ValuesAt w wr M n F kids j n1 F1 v xs) (hM : M < w.heap.size) (hst : VStep M (wr.alloc o1).heap.size (wr.alloc o1) w4 F1 F2) : w4.ownsRow w.heap.size 20 1 v j xs :=
  owns1_keep h.owns fun b hb => by
    obtain ⟨h1, h2⟩ := World.ownsRow.lt h.owns b hb
    rw [hst.frame b (by simp; omega) (by omega) (fun m hm => h.apart m b hm hb), heap_alloc_old wr o1 h2]
/-- Behind a round. -/
theorem ValuesAt.behind {w wr w4 w5 : World} {M n j n1 n2 g5 cap5 : Nat} {F F1 F2 : DataW Unit} {kids : List D} {v u : Value} {xs : List Value} {x : D} {o1 o2 : Obj}
    (h : ValuesAt w wr M n F kids j n1 F1 v xs) (hM : M < w.heap.size) (hx : kids[j]? = some x) (hbx : BoxesAt w4 M n2 F2) (hn2 : n2 ≤ n1 + x.parts) (hst : VStep M (wr.alloc o1).heap.size (wr.alloc o1) w4 F1 F2)
    (hown : w5.ownsRow w.heap.size 20 1 (.slice (some ⟨g5, 0, none⟩) (j + 1) cap5) (j + 1) (xs ++ [u])) (hgr : (w4.alloc o2).grownBy w5 v.ownBlock) (hat : v.ownBlock = some g5 ∨ g5 = (w4.alloc o2).heap.size) :
    ValuesAt w w5 M n F kids (j + 1) n2 F2 (.slice (some ⟨g5, 0, none⟩) (j + 1) cap5) (xs ++ [u]) := by
  have hz1 : (wr.alloc o1).heap.size = wr.heap.size + 1 := by simp
  have hz2 : (w4.alloc o2).heap.size = w4.heap.size + 1 := by simp
  have hz4 := hst.below.size
  have hzr := h.step.below.size
  have hap : ∀ m b, boxOf F2 m = some b → v.ownBlock ≠ some b := fun m b hm e => by
    rcases hst.new m b hm with h1 | h1
    · exact h.apart m b h1 e
    · have := (World.ownsRow.lt h.owns b e).2
      omega
  have hne : ∀ b, v.ownBlock = some b → w.heap.size ≤ b ∧ b < wr.heap.size := World.ownsRow.lt h.owns
  refine ⟨hown, fun m b hm e => ?_, ?_, ?_, ?_⟩
  · have e' : g5 = b := Option.some.inj e
    have hlt := hbx.blt hm
    rcases hat with h1 | h1
    · exact hap m b hm (by rw [h1, e'])
    · omega
  · refine hbx.keep ?_ (fun m b hm => ?_)
    · rw [hgr.block M (by have := hbx.lt; omega) (fun e => by have := (hne M e.symm).1; omega), heap_alloc_old w4 o2 hbx.lt]
    · rw [hgr.block b (by have := hbx.blt hm; omega) (fun e => hap m b hm e.symm), heap_alloc_old w4 o2 (hbx.blt hm)]
  · rw [D.partsL_take hx]
    have := h.few
    omega
  · have s1 : VStep M w.heap.size wr (wr.alloc o1) F1 F1 := VStep.of_below ((Below.refl _ _).alloc hzr _) (by omega)
    have s2 : VStep M w.heap.size w4 (w4.alloc o2) F2 F2 := VStep.of_below ((Below.refl _ _).alloc (by omega) _) (by omega)
    have s3 : VStep M w.heap.size (w4.alloc o2) w5 F2 F2 := VStep.of_below (Below.grown (Below.refl _ _) hgr (by omega) (fun r hr => (hne r hr).1)) (by omega)
    exact (((h.step.trans s1 (Nat.le_refl _)).trans (hst.mono (B := w.heap.size) (by omega)) (Nat.le_refl _)).trans s2 (Nat.le_refl _)).trans s3 (Nat.le_refl _)

set_option maxRecDepth 100000 in
set_option maxHeartbeats 1600000 in
theorem values_of {w0 : World} {kids : List D} {a : Option Addr} {cap g o : Nat} {c : Nat → Nat → Value} (ha : 0 < kids.length → a = some ⟨g, o, none⟩ ∧ g < w0.heap.size ∧ kids.length ≤ cap ∧ cap ≤ 9223372036854775807) (hc : Row5 w0 g o kids.length c)
    (hk : ∀ i x, kids[i]? = some x → Rep w0 (five c i) x) (HK : ∀ i x, kids[i]? = some x → ValueSays w0 (five c i) x) (w : World) (M n : Nat) (F : DataW Unit) (hb : Below w0.heap.size w0 w) (hw0 : w0.heap.size ≤ M) (hbx : BoxesAt w M n F) (hn : n + D.partsL kids ≤ 1000000) :
    Calls Tryz.prog 79 #[.map (some M), .slice a kids.length cap] w fun x w' => ∃ a' c' F1 n1, x = .returned (.slice a' kids.length c') ∧ BoxesAt w' M n1 F1 ∧ n1 ≤ n + D.partsL kids ∧ VStep M w.heap.size w w' F F1 := by
  obtain ⟨i0, hi, hz0, hz1, hz2⟩ := info_parts info20
  have HI := Lib.hid HK
  have HR := Lib.hid hk
  have HA := Lib.hid ha
  have HC := Lib.hid hc
  have hlen : kids.length ≤ 1000000 := by have := D.length_le_partsL kids; omega
  have hMlt : M < w.heap.size := hbx.lt
  have HV := Lib.hid (show ValuesAt w w M n F kids 0 n F (.slice none 0 0) [] from ⟨World.ownsRow_nil _ _ _ _, fun m b hm e => (by cases e), hbx, by omega, VStep.of_below (Below.refl _ _) (by omega)⟩)
  have HN := Lib.hid hn
  have hB := Lib.hid hb
  clear HK hk ha hc hbx hn hb
  go_enter Tryz.func79, Tryz.ntmps79
  go_wp2_with fail
  go_loopw [5, 10] (fun v i wr => ∃ (j n1 : Nat) (F1 : DataW Unit) (a1 : Option Addr) (c1 : Nat) (xs : List Value), j ≤ kids.length ∧ i = .int .i64 j ∧ v = .slice a1 j c1 ∧ Hid (ValuesAt w wr M n F kids j n1 F1 (.slice a1 j c1) xs)) (fun _ i _ => kids.length - (intOf i).toNat)
  case atStart => exact ⟨0, n, F, none, 0, [], by omega, rfl, rfl, HV⟩
  case round =>
    obtain ⟨j, n1, F1, a1, c1, xs, hj, rfl, rfl, HVr⟩ := hrel
    clear HV
    by_cases hlt : j < kids.length
    · obtain ⟨rfl, hg, hcp, hcm⟩ := HA.out (by omega)
      have hB1 : Below w0.heap.size w0 wr := hB.out.trans (HVr.out.step.below.mono hw0)
      obtain ⟨q0, q1, q2, q3, q4⟩ := (HC.out.below hg hB1) j hlt
      have hx : kids[j]? = some kids[j] := List.getElem?_eq_getElem hlt
      have HX := Lib.hid (HI.out j _ hx)
      have HXX := Lib.hid hx
      have hnj : n1 + kids[j].parts ≤ 1000000 := by
        have h1 := HVr.out.few
        have h2 := D.partsL_take hx
        have h3 : D.partsL (kids.take (j + 1)) ≤ D.partsL kids := by
          have h4 := D.partsL_append (kids.take (j + 1)) (kids.drop (j + 1))
          rw [List.take_append_drop] at h4
          omega
        have := HN.out
        omega
      have HNJ := Lib.hid hnj
      clear hx hnj
      obtain ⟨k2, m2, b2, t2, a3, cap3, g3, o3, c3, kids3, e5, e6, hw3, _⟩ := (HR.out j _ HXX.out).inv
      obtain ⟨f0, f1, f2, f3, f4⟩ := five_inv e5
      rw [f0] at q0
      rw [f1] at q1
      rw [f2] at q2
      rw [f3] at q3
      rw [f4] at q4
      rw [e5] at HX
      generalize kids3.length = n3 at *
      clear e6 f0 f1 f2 f3 f4 e5 hw3
      generalize kids[j] = x at *
      have HB1 := Lib.hid hB1
      clear hB1
      have hj1 : j + 1 ≤ maxLen := by unfold maxLen; omega
      have hj2 : (j + 1) * 16 ≤ 140737488355328 := by omega
      go_wp2_with fail
      refine (HX.out _ M n1 F1 (HB1.out.alloc HB1.out.size _) hw0 (HVr.out.boxes.later (by go_grown)) HNJ.out).mono ?_
      rintro e w4 ⟨u, F2, n2, rfl, hiv, hbx4, hn2, hst⟩
      have hown4 := HVr.out.owns4 hMlt hst
      have hzz : w.heap.size ≤ w4.heap.size := (by have h1 := hst.below.size; have h2 := HVr.out.step.below.size; simp at h1; omega)
      have hbase : ∀ ob, w.heap.size ≤ (w4.alloc ob).heap.size := (fun ob => by simp; omega)
      have HIV := Lib.hid hiv
      have HBX := Lib.hid hbx4
      have HST := Lib.hid hst
      have HN2 := Lib.hid hn2
      have hform := hiv.form
      clear hiv hbx4 hst hn2
      rcases hform with rfl | ⟨T, z, rfl⟩
      all_goals
        dsimp only
        go_wp2_with (at_builtin; refine wpList_append_lies _ (by rfl) (.tmp 14) (.tmp 18) 122 (by rfl) w.heap.size 20 i0 .nilIface 1 16 Tryz.underlying122 hi hz0 hz1 hz2 (by rfl) (by decide) _ _ _ (by rfl) (World.ownsRow.alloc hown4 _) ⟨w4.heap.size, 0, none⟩ 1 1 [_] (by rfl) (by rfl) (World.news_of_block (heap_alloc_new w4 _)) (by simp; rfl) (by decide) hj1 hj2 (hbase _) _ (by rfl) ?_; intro g5 cap5 w5 hown5 hgrow hat hlt5)
        go_roundw
        case rel => exact ⟨j + 1, n2, F2, _, cap5, _, by omega, by go_num, rfl, HVr.out.behind hMlt HXX.out HBX.out HN2.out HST.out hown5 hgrow hat⟩
        case measure => simp [intOf]; omega
    · obtain rfl : j = kids.length := by omega
      go_wp2_with fail
      refine bodyPost_ret (results_tmp rfl _ _ _) rfl ⟨_, _, F1, n1, rfl, HVr.out.boxes, ?_, HVr.out.step⟩
      have := HVr.out.few
      rwa [List.take_length] at this
end Go.Proofs.YtecdniimikfbhaaGreatDoor

/- Contracts of boxes.value, of the kinds without parts. -/
namespace Go.Proofs.YtecdniimikfbhaaGreatDoor
open Go Go.RowKit Go.ChangeShapes Go.WideShapes

theorem frombits (b : Int) (w : World) : (callFunc 34 #[.int .u64 b]).run Tryz.prog w = .ok (.value (.float .f64 b.toNat)) w := by kernel_rfl
attribute [local go_sem] frombits
set_option maxRecDepth 100000 in
theorem val_0 (m b : Int) (t : ByteArray) (sl : Value) (M : Nat) (w : World) : Calls Tryz.prog 68 #[.map (some M), .agg #[.int .i64 0, .int .i64 m, .int .u64 b, .string t, sl]] w fun x w' => x = .returned (.nilIface) ∧ Below w.heap.size w w' := by
  go_enter Tryz.func68, Tryz.ntmps68
  go_wp2_with fail
  exact bodyPost_ret (results_tmp rfl _ _ _) rfl ⟨rfl, by go_grown⟩
set_option maxRecDepth 100000 in
theorem val_1 (m b : Int) (t : ByteArray) (sl : Value) (M : Nat) (w : World) : Calls Tryz.prog 68 #[.map (some M), .agg #[.int .i64 1, .int .i64 m, .int .u64 b, .string t, sl]] w fun x w' => x = .returned (.iface 116 (.int .i64 m)) ∧ Below w.heap.size w w' := by
  go_enter Tryz.func68, Tryz.ntmps68
  go_wp2_with fail
  exact bodyPost_ret (results_tmp rfl _ _ _) rfl ⟨rfl, by go_grown⟩
set_option maxRecDepth 100000 in
theorem val_2 (m b : Int) (t : ByteArray) (sl : Value) (M : Nat) (w : World) : Calls Tryz.prog 68 #[.map (some M), .agg #[.int .i64 2, .int .i64 m, .int .u64 b, .string t, sl]] w fun x w' => x = .returned (.iface 117 (.int .i64 m)) ∧ Below w.heap.size w w' := by
  go_enter Tryz.func68, Tryz.ntmps68
  go_wp2_with fail
  exact bodyPost_ret (results_tmp rfl _ _ _) rfl ⟨rfl, by go_grown⟩
set_option maxRecDepth 100000 in
theorem val_3 (m b : Int) (t : ByteArray) (sl : Value) (M : Nat) (w : World) : Calls Tryz.prog 68 #[.map (some M), .agg #[.int .i64 3, .int .i64 m, .int .u64 b, .string t, sl]] w fun x w' => x = .returned (.iface 98 (.float .f64 b.toNat)) ∧ Below w.heap.size w w' := by
  go_enter Tryz.func68, Tryz.ntmps68
  go_wp2_with fail
  exact bodyPost_ret (results_tmp rfl _ _ _) rfl ⟨rfl, by go_grown⟩
set_option maxRecDepth 100000 in
theorem val_4 (m b : Int) (t : ByteArray) (sl : Value) (M : Nat) (w : World) : Calls Tryz.prog 68 #[.map (some M), .agg #[.int .i64 4, .int .i64 m, .int .u64 b, .string t, sl]] w fun x w' => x = .returned (.iface 118 (.string t)) ∧ Below w.heap.size w w' := by
  go_enter Tryz.func68, Tryz.ntmps68
  go_wp2_with fail
  exact bodyPost_ret (results_tmp rfl _ _ _) rfl ⟨rfl, by go_grown⟩
set_option maxRecDepth 100000 in
theorem val_5 (m b : Int) (t : ByteArray) (sl : Value) (M : Nat) (w : World) : Calls Tryz.prog 68 #[.map (some M), .agg #[.int .i64 5, .int .i64 m, .int .u64 b, .string t, sl]] w fun x w' => x = .returned (.iface 119 (.string t)) ∧ Below w.heap.size w w' := by
  go_enter Tryz.func68, Tryz.ntmps68
  go_wp2_with fail
  exact bodyPost_ret (results_tmp rfl _ _ _) rfl ⟨rfl, by go_grown⟩
set_option maxRecDepth 100000 in
theorem val_6 (m b : Int) (t : ByteArray) (sl : Value) (M : Nat) (w : World) : Calls Tryz.prog 68 #[.map (some M), .agg #[.int .i64 6, .int .i64 m, .int .u64 b, .string t, sl]] w fun x w' => x = .returned (.iface 120 (.bool (m == 1))) ∧ Below w.heap.size w w' := by
  go_enter Tryz.func68, Tryz.ntmps68
  go_wp2_with fail
  exact bodyPost_ret (results_tmp rfl _ _ _) rfl ⟨rfl, by go_grown⟩
set_option maxRecDepth 100000 in
theorem val_10 (m b : Int) (t : ByteArray) (sl : Value) (M : Nat) (w : World) : Calls Tryz.prog 68 #[.map (some M), .agg #[.int .i64 10, .int .i64 m, .int .u64 b, .string t, sl]] w fun x w' => x = .returned (.iface 128 (.agg #[.int .i64 m, .string t])) ∧ Below w.heap.size w w' := by
  go_enter Tryz.func68, Tryz.ntmps68
  go_wp2_with fail
  exact bodyPost_ret (results_tmp rfl _ _ _) rfl ⟨rfl, by go_grown⟩
set_option maxRecDepth 100000 in
theorem val_12 (m b : Int) (t : ByteArray) (sl : Value) (M : Nat) (w : World) : Calls Tryz.prog 68 #[.map (some M), .agg #[.int .i64 12, .int .i64 m, .int .u64 b, .string t, sl]] w fun x w' => x = .returned (.iface 129 (.pointer none)) ∧ Below w.heap.size w w' := by
  go_enter Tryz.func68, Tryz.ntmps68
  go_wp2_with fail
  exact bodyPost_ret (results_tmp rfl _ _ _) rfl ⟨rfl, by go_grown⟩
set_option maxRecDepth 100000 in
theorem val_13 (m b : Int) (t : ByteArray) (sl : Value) (M : Nat) (w : World) : Calls Tryz.prog 68 #[.map (some M), .agg #[.int .i64 13, .int .i64 m, .int .u64 b, .string t, sl]] w fun x w' => x = .returned (.iface 133 (.agg #[])) ∧ Below w.heap.size w w' := by
  go_enter Tryz.func68, Tryz.ntmps68
  go_wp2_with fail
  exact bodyPost_ret (results_tmp rfl _ _ _) rfl ⟨rfl, by go_grown⟩
set_option maxRecDepth 100000 in
theorem val_7 (m b : Int) (t : ByteArray) (sl : Value) (M : Nat) (w : World) : Calls Tryz.prog 68 #[.map (some M), .agg #[.int .i64 7, .int .i64 m, .int .u64 b, .string t, sl]] w fun x w' => (∃ a c, x = .returned (.iface 121 (.slice a t.size c))) ∧ Below w.heap.size w w' := by
  have hcv := fun w => run_bytes_of_string (P := Tryz.prog) w 9 121 5 t Tryz.underlying9 Tryz.underlying121 Tryz.underlying5
  go_enter Tryz.func68, Tryz.ntmps68
  go_wp2_with fail
  exact bodyPost_ret (results_tmp rfl _ _ _) rfl ⟨⟨_, _, rfl⟩, by go_grown⟩
end Go.Proofs.YtecdniimikfbhaaGreatDoor

/- Contracts of boxes.value, of lists and of boxes. -/
namespace Go.Proofs.YtecdniimikfbhaaGreatDoor
open Go Go.RowKit Go.ChangeShapes Go.WideShapes

set_option maxRecDepth 100000 in
set_option maxHeartbeats 800000 in
theorem val_8 (m b : Int) (t : ByteArray) {w0 : World} {kids : List D} {a : Option Addr} {cap g o : Nat} {c : Nat → Nat → Value} (ha : 0 < kids.length → a = some ⟨g, o, none⟩ ∧ g < w0.heap.size ∧ kids.length ≤ cap ∧ cap ≤ 9223372036854775807) (hc : Row5 w0 g o kids.length c)
    (hk : ∀ i x, kids[i]? = some x → Rep w0 (five c i) x) (HK : ∀ i x, kids[i]? = some x → ValueSays w0 (five c i) x) (w : World) (M n : Nat) (F : DataW Unit) (hb : Below w0.heap.size w0 w) (hw0 : w0.heap.size ≤ M) (hbx : BoxesAt w M n F) (hn : n + D.partsL kids ≤ 1000000) :
    Calls Tryz.prog 68 #[.map (some M), .agg #[.int .i64 8, .int .i64 m, .int .u64 b, .string t, .slice a kids.length cap]] w fun x w' => ∃ a' c' F1 n1, x = .returned (.iface 123 (.slice a' kids.length c')) ∧ BoxesAt w' M n1 F1 ∧ n1 ≤ n + D.partsL kids ∧ VStep M w.heap.size w w' F F1 := by
  have HV := Lib.hid (fun w hb hbx => values_of ha hc hk HK w M n F hb hw0 hbx hn)
  have HB := Lib.hid hb
  have HX := Lib.hid hbx
  clear ha hc hk HK hb hbx hn
  go_enter Tryz.func68, Tryz.ntmps68
  go_wp2_with (go_at_call 79; refine (HV.out _ (HB.out.alloc HB.out.size _) (HX.out.later (by go_grown))).mono ?_; rintro e w2 ⟨a', c', F1, n1, rfl, hbx2, hn2, hst⟩)
  exact bodyPost_ret (results_tmp rfl _ _ _) rfl ⟨_, _, F1, n1, rfl, hbx2, hn2, (VStep.of_below (by go_grown) (Nat.le_of_lt HX.out.lt)).trans hst (by simp)⟩

theorem BoxesAt.setBox {w : World} {M n : Nat} {F : DataW Unit} (h : BoxesAt w M n F) {m : Int} {b : Nat} (hm : boxOf F m = some b) (u : Value) : BoxesAt (w.setCell ⟨b, 1, none⟩ u) M n F := by
  obtain ⟨hMb, x, hx⟩ := h.2 m b hm
  refine ⟨ownsMap_block h.1 (heap_setCell_other _ _ _ _ (by simp; omega)), fun m' b' hm' => ?_⟩
  obtain ⟨h1, y, hy⟩ := h.2 m' b' hm'
  refine ⟨h1, ?_⟩
  by_cases e : b' = b
  · subst e
    exact ⟨u, hy.set 1 u⟩
  · exact ⟨y, hy.other 1 u e⟩
theorem VStep.setBox {M B : Nat} {w w1 : World} {F F1 : DataW Unit} (h : VStep M B w w1 F F1) {m : Int} {b n : Nat} (hb : BoxesAt w1 M n F1) (hm : boxOf F1 m = some b) (u : Value) : VStep M B w (w1.setCell ⟨b, 1, none⟩ u) F F1 := by
  have hMb := (hb.2 m b hm).1
  refine ⟨h.below.setCell (p := ⟨b, 1, none⟩) (by simp; omega) _, fun i hi hM hF => ?_, h.ext, h.new⟩
  have hne : i ≠ b := fun e => by
    subst e
    rcases h.new m i hm with h1 | h1
    · exact hF m h1
    · omega
  exact (heap_setCell_other _ _ _ _ (by simpa using hne)).trans (h.frame i hi hM hF)

theorem key_ok {m : Int} (h : (Lit.int .i64 m).wf = true) : keyOf Tryz.prog 2 (.int .i64 m) = some (.int .i64 m) := Maps.keyOf_int_mk Tryz.underlying2 h
theorem law_key : Maps.Keyed Tryz.prog 2 := Maps.int_keyed Tryz.underlying2
theorem zero_ptr (w : World) : (zeroValue 129).run Tryz.prog w = .ok (.pointer none) w := by kernel_rfl

/-- The look-up of a box. -/
theorem look_box {w : World} {M n : Nat} {F : DataW Unit} (h : BoxesAt w M n F) {m : Int} (hm : (Lit.int .i64 m).wf = true) :
    (boxOf F m = none ∧ (Instr.lookup 91 (.map (some M)) (.int .i64 m) false).run Tryz.prog w = .ok (.pointer none) w) ∨ ∃ g, boxOf F m = some g ∧ (Instr.lookup 91 (.map (some M)) (.int .i64 m) false).run Tryz.prog w = .ok (.pointer (some ⟨g, 0, none⟩)) w := by
  obtain ⟨v, ps, hrun, hv⟩ := h.1.lookup law_key Tryz.underlying91 (zero_ptr w) (show ptrElem (.pointer none) = some (.lit (.int .i64 0), []) from rfl) (key_ok hm)
  rcases ptrElem_inv hv with ⟨rfl, e⟩ | ⟨b, rfl, e⟩
  · exact Or.inl ⟨boxOf_none e, hrun⟩
  · exact Or.inr ⟨b, boxOf_some e, hrun⟩

/-- The store of a new box. -/
theorem store_box {w : World} {M n : Nat} {F : DataW Unit} (h : BoxesAt w M n F) {m : Int} (hm : (Lit.int .i64 m).wf = true) (hno : boxOf F m = none) (hn : n < 9223372036854775807) {g : Nat} {x : Value} (hg : Row w g #[.int .i64 m, x] 131) (hMg : M < g) :
    ∃ w', (Instr.mapUpdate 91 (.map (some M)) (.int .i64 m) (.pointer (some ⟨g, 0, none⟩))).run Tryz.prog w = .ok () w' ∧ BoxesAt w' M (n + 1) (F.put (.int .i64 m) (.lit (.int .i64 (g + 1)))) ∧ boxOf (F.put (.int .i64 m) (.lit (.int .i64 (g + 1)))) m = some g ∧
      ∀ B w0, VStep M B w0 w F F → B ≤ g → VStep M B w0 w' F (F.put (.int .i64 m) (.lit (.int .i64 (g + 1)))) := by
  obtain ⟨w', hrun, hown, hgr⟩ := h.1.update law_key Tryz.underlying91 (by unfold maxLen; omega) (key_ok hm) (show ptrElem (.pointer (some ⟨g, 0, none⟩)) = some (.lit (.int .i64 (g + 1)), []) from rfl)
  have hF := h.1.isMap
  have hsame := boxOf_put_same hF m g
  have hold : ∀ b, b < w.heap.size → b ≠ M → w'.heap[b]? = w.heap[b]? := fun b hb hne => hgr.block b hb (fun e => hne (Option.some.inj e))
  refine ⟨w', hrun, ⟨hown, fun m' b hm' => ?_⟩, hsame, fun B w0 hs hB => ?_⟩
  · by_cases e : m' = m
    · subst e
      rw [hsame] at hm'
      cases hm'
      exact ⟨hMg, x, hg.keep (hold g hg.lt (by omega))⟩
    · rw [boxOf_put_other e] at hm'
      obtain ⟨h1, y, hy⟩ := h.2 m' b hm'
      exact ⟨h1, y, hy.keep (hold b hy.lt (by omega))⟩
  · refine ⟨hs.below.trans (Below.grown (Below.refl _ _) hgr (Nat.le_of_lt h.lt) (fun r hr => by cases hr; exact Nat.le_refl _)), fun b hb hM hFb => ?_, fun m' b hm' => ?_, fun m' b hm' => ?_⟩
    · refine (?_ : w'.heap[b]? = w.heap[b]?).trans (hs.frame b hb hM hFb)
      exact hold b (by have := hg.lt; omega) hM
    · rw [boxOf_put_other (fun e => by rw [e, hno] at hm'; cases hm')]
      exact hm'
    · by_cases e : m' = m
      · subst e
        rw [hsame] at hm'
        cases hm'
        exact Or.inr hB
      · rw [boxOf_put_other e] at hm'
        exact Or.inl hm'
end Go.Proofs.YtecdniimikfbhaaGreatDoor

/- Contract of boxes.value, of a box. -/
namespace Go.Proofs.YtecdniimikfbhaaGreatDoor
open Go Go.RowKit Go.ChangeShapes Go.WideShapes

/-- What is said of a box. -/
def PtrSays (M n k : Nat) (F : DataW Unit) (m : Int) (p : Nat) (w : World) (e : Ending) (w' : World) : Prop :=
  ∃ F1 n1, e = .returned (.iface 129 (.pointer (some ⟨p, 0, none⟩))) ∧ boxOf F1 m = some p ∧ BoxesAt w' M n1 F1 ∧ n1 ≤ n + 1 + k ∧ VStep M w.heap.size w w' F F1

set_option maxRecDepth 100000 in
set_option maxHeartbeats 1600000 in
theorem val_11_old (m b : Int) (t : ByteArray) (hm : (Lit.int .i64 m).wf = true) {w0 : World} {x : D} {a : Option Addr} {cap g o : Nat} {k2 m2 b2 : Int} {t2 : ByteArray} {a2 : Option Addr} {n2 cap2 : Nat}
    (ha : a = some ⟨g, o, none⟩ ∧ g < w0.heap.size ∧ 1 ≤ cap ∧ cap ≤ 9223372036854775807)
    (hc0 : w0.cell? ⟨g, o, none⟩ = some (.int .i64 k2)) (hc1 : w0.cell? ⟨g, o + 1, none⟩ = some (.int .i64 m2)) (hc2 : w0.cell? ⟨g, o + 2, none⟩ = some (.int .u64 b2)) (hc3 : w0.cell? ⟨g, o + 3, none⟩ = some (.string t2)) (hc4 : w0.cell? ⟨g, o + 4, none⟩ = some (.slice a2 n2 cap2))
    (HK : ValueSays w0 (.agg #[.int .i64 k2, .int .i64 m2, .int .u64 b2, .string t2, .slice a2 n2 cap2]) x) (w : World) (M n : Nat) (F : DataW Unit) (hb : Below w0.heap.size w0 w) (hw0 : w0.heap.size ≤ M) (hbx : BoxesAt w M n F) (hn : n + 1 + x.parts ≤ 1000000) (p : Nat) (hp : boxOf F m = some p) :
    Calls Tryz.prog 68 #[.map (some M), .agg #[.int .i64 11, .int .i64 m, .int .u64 b, .string t, .slice a 1 cap]] w (PtrSays M n x.parts F m p w) := by
  obtain ⟨rfl, hg, hcp, hcm⟩ := ha
  have HX := Lib.hid (fun w n F hb hbx hn => HK w M n F hb hw0 hbx hn)
  have hMlt := Lib.hid hbx.lt
  obtain ⟨W1, hW1⟩ : ∃ W1, W1 = w.alloc (.cells #[.int .i64 11, .int .i64 m, .int .u64 b, .string t, .slice (some ⟨g, o, none⟩) 1 cap] 25) := ⟨_, rfl⟩
  have hb1 : Below w.heap.size w W1 := by rw [hW1]; exact (Below.refl _ _).alloc (Nat.le_refl _) _
  have hx1 : Row W1 w.heap.size #[.int .i64 11, .int .i64 m, .int .u64 b, .string t, .slice (some ⟨g, o, none⟩) 1 cap] 25 := by rw [hW1]; exact Row.new w _ _
  have hbx1 := hbx.later hb1
  have hB1 : Below w0.heap.size w0 W1 := hb.trans (hb1.mono hb.size)
  have hs1 := Lib.hid (show VStep M w.heap.size w W1 F F from VStep.of_below hb1 (Nat.le_of_lt hMlt.out))
  rcases look_box hbx1 hm with ⟨h0, _⟩ | ⟨p', h0, hrun⟩
  · rw [h0] at hp; cases hp
  obtain rfl : p' = p := by rw [h0] at hp; exact Option.some.inj hp
  clear hp
  have p1 : W1.cell? ⟨w.heap.size, 1, none⟩ = some (.int .i64 m) := hx1.cell 1 rfl
  have p0 : W1.cell? ⟨w.heap.size, 0, none⟩ = some (.int .i64 11) := hx1.cell 0 rfl
  have p4 : W1.cell? ⟨w.heap.size, 4, none⟩ = some (.slice (some ⟨g, o, none⟩) 1 cap) := hx1.cell 4 rfl
  have q0 : W1.cell? ⟨g, o, none⟩ = some (.int .i64 k2) := (hB1.cell (p := ⟨g, _, none⟩) hg).trans hc0
  have q1 : W1.cell? ⟨g, o + 1, none⟩ = some (.int .i64 m2) := (hB1.cell (p := ⟨g, _, none⟩) hg).trans hc1
  have q2 : W1.cell? ⟨g, o + 2, none⟩ = some (.int .u64 b2) := (hB1.cell (p := ⟨g, _, none⟩) hg).trans hc2
  have q3 : W1.cell? ⟨g, o + 3, none⟩ = some (.string t2) := (hB1.cell (p := ⟨g, _, none⟩) hg).trans hc3
  have q4 : W1.cell? ⟨g, o + 4, none⟩ = some (.slice a2 n2 cap2) := (hB1.cell (p := ⟨g, _, none⟩) hg).trans hc4
  have HB1 := Lib.hid hB1
  have HBX := Lib.hid hbx1
  have H0 := Lib.hid h0
  have HN := Lib.hid hn
  clear hB1 hbx1 hbx hb hb1 hx1 hc0 hc1 hc2 hc3 hc4 h0 hn HK
  go_enter Tryz.func68, Tryz.ntmps68
  go_upto_region 1 with fail
  rw [← hW1]
  clear hW1
  go_wp2_with fail
  refine (HX.out _ _ _ HB1.out HBX.out (by have := HN.out; omega)).mono ?_
  rintro e w4 ⟨u, F2, n5, rfl, hiv, hbx4, hn5, hst⟩
  have hpp := hst.ext _ _ H0.out
  obtain ⟨_, y, hy⟩ := hbx4.2 _ _ hpp
  have r1 : w4.cell? ⟨p', 1, none⟩ = some y := hy.cell 1 rfl
  have f1 := hy.thaw 1
  have HIV := Lib.hid hiv.form
  have HBX4 := Lib.hid hbx4
  have HST := Lib.hid hst
  have HP := Lib.hid hpp
  have HN5 := Lib.hid hn5
  clear hiv hbx4 hst hpp hy hn5 q0 q1 q2 q3 q4 p0 p1 p4 hrun
  rcases HIV.out with rfl | ⟨T, z, rfl⟩
  all_goals
    dsimp only
    go_wp2_with fail
    exact bodyPost_ret (results_tmp rfl _ _ _) rfl ⟨F2, n5, rfl, HP.out, HBX4.out.setBox HP.out _, by have := HN5.out; omega, (hs1.out.trans (HST.out.setBox HBX4.out HP.out _) (by have := hs1.out.below.size; omega))⟩

set_option maxRecDepth 100000 in
set_option maxHeartbeats 1600000 in
theorem val_11_new (m b : Int) (t : ByteArray) (hm : (Lit.int .i64 m).wf = true) {w0 : World} {x : D} {a : Option Addr} {cap g o : Nat} {k2 m2 b2 : Int} {t2 : ByteArray} {a2 : Option Addr} {n2 cap2 : Nat}
    (ha : a = some ⟨g, o, none⟩ ∧ g < w0.heap.size ∧ 1 ≤ cap ∧ cap ≤ 9223372036854775807)
    (hc0 : w0.cell? ⟨g, o, none⟩ = some (.int .i64 k2)) (hc1 : w0.cell? ⟨g, o + 1, none⟩ = some (.int .i64 m2)) (hc2 : w0.cell? ⟨g, o + 2, none⟩ = some (.int .u64 b2)) (hc3 : w0.cell? ⟨g, o + 3, none⟩ = some (.string t2)) (hc4 : w0.cell? ⟨g, o + 4, none⟩ = some (.slice a2 n2 cap2))
    (HK : ValueSays w0 (.agg #[.int .i64 k2, .int .i64 m2, .int .u64 b2, .string t2, .slice a2 n2 cap2]) x) (w : World) (M n : Nat) (F : DataW Unit) (hb : Below w0.heap.size w0 w) (hw0 : w0.heap.size ≤ M) (hbx : BoxesAt w M n F) (hn : n + 1 + x.parts ≤ 1000000) (hp : boxOf F m = none) :
    Calls Tryz.prog 68 #[.map (some M), .agg #[.int .i64 11, .int .i64 m, .int .u64 b, .string t, .slice a 1 cap]] w (fun e w' => ∃ p, PtrSays M n x.parts F m p w e w') := by
  obtain ⟨rfl, hg, hcp, hcm⟩ := ha
  have HX := Lib.hid (fun w n F hb hbx hn => HK w M n F hb hw0 hbx hn)
  have hMlt := Lib.hid hbx.lt
  obtain ⟨W1, hW1⟩ : ∃ W1, W1 = w.alloc (.cells #[.int .i64 11, .int .i64 m, .int .u64 b, .string t, .slice (some ⟨g, o, none⟩) 1 cap] 25) := ⟨_, rfl⟩
  have hb1 : Below w.heap.size w W1 := by rw [hW1]; exact (Below.refl _ _).alloc (Nat.le_refl _) _
  have hx1 : Row W1 w.heap.size #[.int .i64 11, .int .i64 m, .int .u64 b, .string t, .slice (some ⟨g, o, none⟩) 1 cap] 25 := by rw [hW1]; exact Row.new w _ _
  have hbx1 := hbx.later hb1
  have hB1 : Below w0.heap.size w0 W1 := hb.trans (hb1.mono hb.size)
  rcases look_box hbx1 hm with ⟨h0, hrun⟩ | ⟨p', h0, _⟩
  case inr => rw [h0] at hp; cases hp
  clear hp
  obtain ⟨w3, hrun3, hbx3, h3, hs3⟩ := store_box (hbx1.later ((Below.refl _ _).alloc (Nat.le_refl _) (.cells #[.int .i64 m, .nilIface] 131 (0, 0)))) hm h0 (by omega) (Row.new W1 #[.int .i64 m, .nilIface] 131) (by have := hMlt.out; have := hb1.size; omega)
  have hs13 := hs3 w.heap.size w (VStep.of_below (hb1.alloc hb1.size _) (Nat.le_of_lt hMlt.out)) hb1.size
  have hs23 := hs3 W1.heap.size _ (VStep.of_below (Below.refl _ _) (by have := hMlt.out; have := hb1.size; omega)) (Nat.le_refl _)
  have hx3 : Row w3 w.heap.size #[.int .i64 11, .int .i64 m, .int .u64 b, .string t, .slice (some ⟨g, o, none⟩) 1 cap] 25 := hs23.row (hx1.old _) hx1.lt (by have := hMlt.out; omega) (fun m' hm' => by have := hbx.blt hm'; omega)
  have hB3 : Below w0.heap.size w0 w3 := hb.trans (hs13.below.mono hw0)
  have p1 : W1.cell? ⟨w.heap.size, 1, none⟩ = some (.int .i64 m) := hx1.cell 1 rfl
  have p0 : W1.cell? ⟨w.heap.size, 0, none⟩ = some (.int .i64 11) := hx1.cell 0 rfl
  have p1' := old1_cell hx1.lt p1
  have p4 : w3.cell? ⟨w.heap.size, 4, none⟩ = some (.slice (some ⟨g, o, none⟩) 1 cap) := hx3.cell 4 rfl
  have q0 : w3.cell? ⟨g, o, none⟩ = some (.int .i64 k2) := (hB3.cell (p := ⟨g, _, none⟩) hg).trans hc0
  have q1 : w3.cell? ⟨g, o + 1, none⟩ = some (.int .i64 m2) := (hB3.cell (p := ⟨g, _, none⟩) hg).trans hc1
  have q2 : w3.cell? ⟨g, o + 2, none⟩ = some (.int .u64 b2) := (hB3.cell (p := ⟨g, _, none⟩) hg).trans hc2
  have q3 : w3.cell? ⟨g, o + 3, none⟩ = some (.string t2) := (hB3.cell (p := ⟨g, _, none⟩) hg).trans hc3
  have q4 : w3.cell? ⟨g, o + 4, none⟩ = some (.slice a2 n2 cap2) := (hB3.cell (p := ⟨g, _, none⟩) hg).trans hc4
  have HB1 := Lib.hid hB3
  have HBX := Lib.hid hbx3
  have H0 := Lib.hid h3
  have hs1 := Lib.hid hs13
  have HN := Lib.hid hn
  have hzz := hb1.size
  clear hB1 hB3 hbx1 hbx3 hbx hb hb1 hx1 hx3 hc0 hc1 hc2 hc3 hc4 h0 h3 hs3 hs13 hs23 hn HK
  go_enter Tryz.func68, Tryz.ntmps68
  go_upto_region 1 with fail
  rw [← hW1]
  clear hW1
  go_wp2_with fail
  refine (HX.out _ _ _ HB1.out HBX.out (by have := HN.out; omega)).mono ?_
  rintro e w4 ⟨u, F2, n5, rfl, hiv, hbx4, hn5, hst⟩
  have hpp := hst.ext _ _ H0.out
  obtain ⟨_, y, hy⟩ := hbx4.2 _ _ hpp
  have r1 : w4.cell? ⟨W1.heap.size, 1, none⟩ = some y := hy.cell 1 rfl
  have f1 := hy.thaw 1
  have HIV := Lib.hid hiv.form
  have HBX4 := Lib.hid hbx4
  have HST := Lib.hid hst
  have HP := Lib.hid hpp
  have HN5 := Lib.hid hn5
  clear hiv hbx4 hst hpp hy hn5 q0 q1 q2 q3 q4 p0 p1 p1' p4 hrun hrun3
  rcases HIV.out with rfl | ⟨T, z, rfl⟩
  all_goals
    dsimp only
    go_wp2_with fail
    exact bodyPost_ret (results_tmp rfl _ _ _) rfl ⟨_, F2, n5, rfl, HP.out, HBX4.out.setBox HP.out _, by have := HN5.out; omega, (hs1.out.trans (HST.out.setBox HBX4.out HP.out _) (by have := hs1.out.below.size; omega))⟩
end Go.Proofs.YtecdniimikfbhaaGreatDoor
