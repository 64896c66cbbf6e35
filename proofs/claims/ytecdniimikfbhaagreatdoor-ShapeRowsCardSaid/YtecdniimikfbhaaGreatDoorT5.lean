/- Shape: Map of a number that is no map's. -/
import Derived.Test.YtecdniimikfbhaaGreatDoorT1
namespace Go.Proofs.YtecdniimikfbhaaGreatDoor
open Go Go.RowKit Go.ChangeShapes Go.WideShapes

set_option maxRecDepth 100000 in
set_option maxHeartbeats 3200000 in
theorem mapg_none {op : Int} (h : op ≤ 0 ∨ 9 ≤ op) (tp : ByteArray) {k m b : Int} {t : ByteArray} {a : Option Addr} {l cap : Nat} (w : World) :
    Calls Tryz.prog 8 #[.int .i64 op, .string tp, (.agg #[.int .i64 k, .int .i64 m, .int .u64 b, .string t, .slice a l cap])] w fun x w' => x = .returned (errV 12 0 0) ∧ Below w.heap.size w w' := by
  unfold errV at *
  obtain ⟨W1, hW1, hb1, hz, hx1, hx2⟩ := res_worlds w (.int .i64 k) (.int .i64 m) (.int .u64 b) (.string t) (.slice a l cap)
  have hzo := hz.out
  have HG := Lib.hid (fun W => find_no op h W)
  clear h
  go_enter_defers Tryz.func8, Tryz.ntmps8
  go_upto_region 1 with fail
  rw [← hW1]
  clear hW1
  go_wp2_with fail
  refine (HG.out _).mono ?_
  rintro e w2 ⟨rfl, hb2⟩
  have hy2 := hx2.later hb2
  have hbw2 := hb1.trans (hb2.mono hb1.size)
  obtain ⟨Wa, hWa, hba, hma⟩ := map_world2 w2 .nilFunc .nilFunc
  have hu2 := hy2.later hba
  have hbwa := hbw2.trans (hba.mono hbw2.size)
  dsimp only
  go_upto_region 2 with fail
  rw [← hWa]
  clear hWa
  have q0 : Wa.cell? ⟨(w.heap.size + 1), 0, none⟩ = some (.int .i64 0) := hu2.cell 0 rfl
  have fq0 := hu2.thaw 0
  have q1 : Wa.cell? ⟨(w.heap.size + 1), 1, none⟩ = some (.int .i64 0) := hu2.cell 1 rfl
  have fq1 := hu2.thaw 1
  have q2 : Wa.cell? ⟨(w.heap.size + 1), 2, none⟩ = some (.int .i64 0) := hu2.cell 2 rfl
  have fq2 := hu2.thaw 2
  have q3 : Wa.cell? ⟨(w.heap.size + 1), 3, none⟩ = some (.int .i64 0) := hu2.cell 3 rfl
  have fq3 := hu2.thaw 3
  have q4 : Wa.cell? ⟨(w.heap.size + 1), 4, none⟩ = some (.bool false) := hu2.cell 4 rfl
  have fq4 := hu2.thaw 4
  have q5 : Wa.cell? ⟨(w.heap.size + 1), 5, none⟩ = some (.int .i64 0) := hu2.cell 5 rfl
  have fq5 := hu2.thaw 5
  have q6 : Wa.cell? ⟨(w.heap.size + 1), 6, none⟩ = some (.int .i64 0) := hu2.cell 6 rfl
  have fq6 := hu2.thaw 6
  have q7 : Wa.cell? ⟨(w.heap.size + 1), 7, none⟩ = some (.int .u64 0) := hu2.cell 7 rfl
  have fq7 := hu2.thaw 7
  have q8 : Wa.cell? ⟨(w.heap.size + 1), 8, none⟩ = some (.string ⟨#[]⟩) := hu2.cell 8 rfl
  have fq8 := hu2.thaw 8
  have q9 : Wa.cell? ⟨(w.heap.size + 1), 9, none⟩ = some (.slice none 0 0) := hu2.cell 9 rfl
  have fq9 := hu2.thaw 9
  go_wp2_with fail
  exact ⟨_, results_cell_row rfl _ _ (w.heap.size + 1) 33 _ (0, 0) _ rfl (hu2.set10 _ _ _ _ _ _ _ _ _ _) Tryz.underlying33 rfl (by kernel_rfl), rfl, set10_below hbwa (by omega)⟩
end Go.Proofs.YtecdniimikfbhaaGreatDoor
