/- Shape: double. -/
import Derived.Test.YtecdniimikfbhaaGreatDoorS3
import Derived.Test.YtecdniimikfbhaaGreatDoorS4
import Derived.Test.YtecdniimikfbhaaGreatDoorS5
namespace Go.Proofs.YtecdniimikfbhaaGreatDoor
open Go Go.RowKit Go.ChangeShapes Go.WideShapes

set_option maxRecDepth 100000 in
set_option maxHeartbeats 1600000 in
theorem double_int (tp : ByteArray) (m : Int) (hm : (Lit.int .i64 m).wf = true) (w : World) : Calls Tryz.prog 39 #[.string tp, (.agg #[.int .i64 1, .int .i64 m, .int .u64 0, .string ⟨#[]⟩, .slice none 0 0])] w fun x w' => x = .returned (.agg #[.int .i64 0, .int .i64 0, .int .i64 0, .int .i64 0, .bool true, .int .i64 1, .int .i64 (wrap64 (m + m)), .int .u64 0, .string ⟨#[]⟩, .slice none 0 0]) ∧ Below w.heap.size w w' := by
  have HA := Lib.hid (fun (W : World) (hW : Below w.heap.size w W) => asked_ok (k := 1) (by omega) (rep_plain w 1 m (by decide) hm) (slim_plain _ _ _ _) 5 (by decide) W hW)
  obtain ⟨W1, hW1, hb1, hz, hx1, hx2⟩ := res_worlds w (.int .i64 1) (.int .i64 m) (.int .u64 0) (.string ⟨#[]⟩) (.slice none 0 0)
  obtain ⟨p0, p1, p2, p3, p4⟩ := hx1.cells
  go_enter Tryz.func39, Tryz.ntmps39
  go_upto_region 1 with fail
  rw [← hW1]
  clear hW1
  go_wp2_with fail
  refine (HA.out _ hb1).mono ?_
  rintro e w2 ⟨rfl, hb2⟩
  have hy1 := hx1.row.later hb2
  have hy2 := hx2.later hb2
  have hbw2 := hb1.trans (hb2.mono hb1.size)
  clear p0 p1 p2 p3 p4
  have p0 : w2.cell? ⟨w.heap.size, 0, none⟩ = some (.int .i64 1) := hy1.cell 0 rfl
  have p1 : w2.cell? ⟨w.heap.size, 1, none⟩ = some (.int .i64 m) := hy1.cell 1 rfl
  have p2 : w2.cell? ⟨w.heap.size, 2, none⟩ = some (.int .u64 0) := hy1.cell 2 rfl
  have p3 : w2.cell? ⟨w.heap.size, 3, none⟩ = some (.string ⟨#[]⟩) := hy1.cell 3 rfl
  have p4 : w2.cell? ⟨w.heap.size, 4, none⟩ = some (.slice none 0 0) := hy1.cell 4 rfl
  dsimp only
  go_wp2_with fail
  refine (add_int m m _).mono ?_
  rintro e w3 ⟨rfl, hb3⟩
  have hu2 := hy2.later hb3
  have hbw3 := hbw2.trans (hb3.mono hbw2.size)
  clear p0 p1 p2 p3 p4
  unfold numV
  dsimp only
  go_wp2_with fail
  refine (sgave_v _ _ _ _ _ _ _ _).mono ?_
  rintro e w4 ⟨rfl, hb4⟩
  have hb34 := ((Below.refl w3.heap.size w3).alloc (Nat.le_refl _) _).trans (hb4.mono (by simp))
  have hv2 := hu2.later hb34
  have hbw4 := hbw3.trans (hb34.mono hbw3.size)
  have z0 : w4.cell? ⟨(w.heap.size + 1), 0, none⟩ = some (.int .i64 0) := hv2.cell 0 rfl
  have fz0 := hv2.thaw 0
  have z1 : w4.cell? ⟨(w.heap.size + 1), 1, none⟩ = some (.int .i64 0) := hv2.cell 1 rfl
  have fz1 := hv2.thaw 1
  have z2 : w4.cell? ⟨(w.heap.size + 1), 2, none⟩ = some (.int .i64 0) := hv2.cell 2 rfl
  have fz2 := hv2.thaw 2
  have z3 : w4.cell? ⟨(w.heap.size + 1), 3, none⟩ = some (.int .i64 0) := hv2.cell 3 rfl
  have fz3 := hv2.thaw 3
  have z4 : w4.cell? ⟨(w.heap.size + 1), 4, none⟩ = some (.bool false) := hv2.cell 4 rfl
  have fz4 := hv2.thaw 4
  have z5 : w4.cell? ⟨(w.heap.size + 1), 5, none⟩ = some (.int .i64 0) := hv2.cell 5 rfl
  have fz5 := hv2.thaw 5
  have z6 : w4.cell? ⟨(w.heap.size + 1), 6, none⟩ = some (.int .i64 0) := hv2.cell 6 rfl
  have fz6 := hv2.thaw 6
  have z7 : w4.cell? ⟨(w.heap.size + 1), 7, none⟩ = some (.int .u64 0) := hv2.cell 7 rfl
  have fz7 := hv2.thaw 7
  have z8 : w4.cell? ⟨(w.heap.size + 1), 8, none⟩ = some (.string ⟨#[]⟩) := hv2.cell 8 rfl
  have fz8 := hv2.thaw 8
  have z9 : w4.cell? ⟨(w.heap.size + 1), 9, none⟩ = some (.slice none 0 0) := hv2.cell 9 rfl
  have fz9 := hv2.thaw 9
  dsimp only
  go_wp2_with fail
  exact bodyPost_ret (results_cell_row rfl _ _ (w.heap.size + 1) 33 _ (0, 0) _ rfl (hv2.set10 _ _ _ _ _ _ _ _ _ _) Tryz.underlying33 rfl (by kernel_rfl)) rfl
    ⟨rfl, set10_below hbw4 (by omega)⟩

set_option maxRecDepth 100000 in
set_option maxHeartbeats 1600000 in
theorem double_no (tp : ByteArray) {k : Nat} (hk : k ≤ 13) (h : hasFi k 5 = false) (m b : Int) (t : ByteArray) (a : Option Addr) (l cap : Nat) (w : World) : Calls Tryz.prog 39 #[.string tp, (.agg #[.int .i64 k, .int .i64 m, .int .u64 b, .string t, .slice a l cap])] w fun x w' => x = .panicked (thrown 50 (.agg #[.int .i64 110, .int .i64 0, .int .i64 2, .int .i64 (faceMiss k 5), .bool false, .int .i64 0, .int .i64 0, .int .u64 0, .string ⟨#[]⟩, .slice none 0 0])) ∧ Below w.heap.size w w' := by
  have HA := Lib.hid (fun (W : World) => asked_no (m := m) (b := b) (t := t) (a := a) (l := l) (cap := cap) hk 5 h W)
  clear h
  obtain ⟨W1, hW1, hb1, hz, hx1, hx2⟩ := res_worlds w (.int .i64 k) (.int .i64 m) (.int .u64 b) (.string t) (.slice a l cap)
  obtain ⟨p0, p1, p2, p3, p4⟩ := hx1.cells
  go_enter Tryz.func39, Tryz.ntmps39
  go_upto_region 1 with fail
  rw [← hW1]
  clear hW1
  go_wp2_with (go_at_call 57; refine (HA.out _).mono ?_; rintro e w2 ⟨rfl, hb2⟩)
  exact ⟨rfl, rfl, hb1.trans (hb2.mono hb1.size)⟩
end Go.Proofs.YtecdniimikfbhaaGreatDoor
