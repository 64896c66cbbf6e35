/- Shape: the map's own function named. -/
import Derived.Test.YtecdniimikfbhaaGreatDoorU3
import Derived.Test.YtecdniimikfbhaaGreatDoorU1
namespace Go.Proofs.YtecdniimikfbhaaGreatDoor
open Go Go.RowKit Go.ChangeShapes Go.WideShapes

set_option maxRecDepth 100000 in
set_option maxHeartbeats 1600000 in
theorem named_yes (tp : ByteArray) {k m b : Int} {t : ByteArray} {a : Option Addr} {l cap : Nat} {P : ByteArray → Prop} (w : World) (HL : ∀ W, Below w.heap.size w W → Calls Tryz.prog 63 #[(.agg #[.int .i64 k, .int .i64 m, .int .u64 b, .string t, .slice a l cap])] W fun x w' => LabelPost P W x w') :
    Calls Tryz.prog 46 #[.string tp, (.agg #[.int .i64 k, .int .i64 m, .int .u64 b, .string t, .slice a l cap])] w fun x w' => ∃ s, x = .returned (.agg #[.int .i64 0, .int .i64 0, .int .i64 0, .int .i64 0, .bool true, .int .i64 4, .int .i64 0, .int .u64 0, .string s, .slice none 0 0]) ∧ P s ∧ Below w.heap.size w w' := by
  have HH := Lib.hid HL
  clear HL
  obtain ⟨W1, hW1, hb1, hz, hx1, hx2⟩ := res_worlds w (.int .i64 k) (.int .i64 m) (.int .u64 b) (.string t) (.slice a l cap)
  have hzo := hz.out
  obtain ⟨p0, p1, p2, p3, p4⟩ := hx1.cells
  go_enter Tryz.func46, Tryz.ntmps46
  go_upto_region 1 with fail
  rw [← hW1]
  clear hW1
  go_wp2_with fail
  refine (HH.out _ hb1).mono ?_
  rintro e w2 ⟨s, rfl, hs, hb2⟩
  have hy2 := hx2.later hb2
  have hbw2 := hb1.trans (hb2.mono hb1.size)
  clear p0 p1 p2 p3 p4
  dsimp only
  go_wp2_with fail
  refine (sgave_v _ _ _ _ _ _ _ _).mono ?_
  rintro x w5 ⟨rfl, hb5⟩
  have hy5 := hy2.later hb5
  have hbw5 := hbw2.trans (hb5.mono hbw2.size)
  have q0 : w5.cell? ⟨(w.heap.size + 1), 0, none⟩ = some (.int .i64 0) := hy5.cell 0 rfl
  have fq0 := hy5.thaw 0
  have q1 : w5.cell? ⟨(w.heap.size + 1), 1, none⟩ = some (.int .i64 0) := hy5.cell 1 rfl
  have fq1 := hy5.thaw 1
  have q2 : w5.cell? ⟨(w.heap.size + 1), 2, none⟩ = some (.int .i64 0) := hy5.cell 2 rfl
  have fq2 := hy5.thaw 2
  have q3 : w5.cell? ⟨(w.heap.size + 1), 3, none⟩ = some (.int .i64 0) := hy5.cell 3 rfl
  have fq3 := hy5.thaw 3
  have q4 : w5.cell? ⟨(w.heap.size + 1), 4, none⟩ = some (.bool false) := hy5.cell 4 rfl
  have fq4 := hy5.thaw 4
  have q5 : w5.cell? ⟨(w.heap.size + 1), 5, none⟩ = some (.int .i64 0) := hy5.cell 5 rfl
  have fq5 := hy5.thaw 5
  have q6 : w5.cell? ⟨(w.heap.size + 1), 6, none⟩ = some (.int .i64 0) := hy5.cell 6 rfl
  have fq6 := hy5.thaw 6
  have q7 : w5.cell? ⟨(w.heap.size + 1), 7, none⟩ = some (.int .u64 0) := hy5.cell 7 rfl
  have fq7 := hy5.thaw 7
  have q8 : w5.cell? ⟨(w.heap.size + 1), 8, none⟩ = some (.string ⟨#[]⟩) := hy5.cell 8 rfl
  have fq8 := hy5.thaw 8
  have q9 : w5.cell? ⟨(w.heap.size + 1), 9, none⟩ = some (.slice none 0 0) := hy5.cell 9 rfl
  have fq9 := hy5.thaw 9
  dsimp only
  go_wp2_with fail
  exact bodyPost_ret (results_cell_row rfl _ _ (w.heap.size + 1) 33 _ (0, 0) _ rfl (hy5.set10 _ _ _ _ _ _ _ _ _ _) Tryz.underlying33 rfl (by kernel_rfl)) rfl ⟨s, rfl, hs, set10_below hbw5 (by omega)⟩

set_option maxRecDepth 100000 in
set_option maxHeartbeats 1600000 in
theorem named_no (tp : ByteArray) {k m b : Int} {t : ByteArray} {a : Option Addr} {l cap : Nat} (w : World) (HL : ∀ W, Below w.heap.size w W → Calls Tryz.prog 63 #[(.agg #[.int .i64 k, .int .i64 m, .int .u64 b, .string t, .slice a l cap])] W fun x w' => x = .returned (.tuple #[.string ⟨#[]⟩, .int .i64 12]) ∧ Below W.heap.size W w') :
    Calls Tryz.prog 46 #[.string tp, (.agg #[.int .i64 k, .int .i64 m, .int .u64 b, .string t, .slice a l cap])] w fun x w' => x = .returned (errV 12 0 0) ∧ Below w.heap.size w w' := by
  unfold errV
  have HH := Lib.hid HL
  clear HL
  obtain ⟨W1, hW1, hb1, hz, hx1, hx2⟩ := res_worlds w (.int .i64 k) (.int .i64 m) (.int .u64 b) (.string t) (.slice a l cap)
  have hzo := hz.out
  obtain ⟨p0, p1, p2, p3, p4⟩ := hx1.cells
  go_enter Tryz.func46, Tryz.ntmps46
  go_upto_region 1 with fail
  rw [← hW1]
  clear hW1
  go_wp2_with fail
  refine (HH.out _ hb1).mono ?_
  rintro e w2 ⟨rfl, hb2⟩
  have hy2 := hx2.later hb2
  have hbw2 := hb1.trans (hb2.mono hb1.size)
  clear p0 p1 p2 p3 p4
  have q0 : w2.cell? ⟨(w.heap.size + 1), 0, none⟩ = some (.int .i64 0) := hy2.cell 0 rfl
  have fq0 := hy2.thaw 0
  have q1 : w2.cell? ⟨(w.heap.size + 1), 1, none⟩ = some (.int .i64 0) := hy2.cell 1 rfl
  have fq1 := hy2.thaw 1
  have q2 : w2.cell? ⟨(w.heap.size + 1), 2, none⟩ = some (.int .i64 0) := hy2.cell 2 rfl
  have fq2 := hy2.thaw 2
  have q3 : w2.cell? ⟨(w.heap.size + 1), 3, none⟩ = some (.int .i64 0) := hy2.cell 3 rfl
  have fq3 := hy2.thaw 3
  have q4 : w2.cell? ⟨(w.heap.size + 1), 4, none⟩ = some (.bool false) := hy2.cell 4 rfl
  have fq4 := hy2.thaw 4
  have q5 : w2.cell? ⟨(w.heap.size + 1), 5, none⟩ = some (.int .i64 0) := hy2.cell 5 rfl
  have fq5 := hy2.thaw 5
  have q6 : w2.cell? ⟨(w.heap.size + 1), 6, none⟩ = some (.int .i64 0) := hy2.cell 6 rfl
  have fq6 := hy2.thaw 6
  have q7 : w2.cell? ⟨(w.heap.size + 1), 7, none⟩ = some (.int .u64 0) := hy2.cell 7 rfl
  have fq7 := hy2.thaw 7
  have q8 : w2.cell? ⟨(w.heap.size + 1), 8, none⟩ = some (.string ⟨#[]⟩) := hy2.cell 8 rfl
  have fq8 := hy2.thaw 8
  have q9 : w2.cell? ⟨(w.heap.size + 1), 9, none⟩ = some (.slice none 0 0) := hy2.cell 9 rfl
  have fq9 := hy2.thaw 9
  dsimp only
  go_wp2_with fail
  exact bodyPost_ret (results_cell_row rfl _ _ (w.heap.size + 1) 33 _ (0, 0) _ rfl (hy2.set10 _ _ _ _ _ _ _ _ _ _) Tryz.underlying33 rfl (by kernel_rfl)) rfl ⟨rfl, set10_below hbw2 (by omega)⟩
end Go.Proofs.YtecdniimikfbhaaGreatDoor
