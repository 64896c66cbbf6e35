/- Shape: Map, by what the map's own function does (mapg_bad). -/
import Derived.Test.YtecdniimikfbhaaGreatDoorT1
namespace Go.Proofs.YtecdniimikfbhaaGreatDoor
open Go Go.RowKit Go.ChangeShapes Go.WideShapes

set_option maxRecDepth 100000 in
set_option maxHeartbeats 6400000 in
theorem mapg_bad {op : Int} {f : FuncId} (HF : Finds op f) (tp : ByteArray) {d : D} {k m b : Int} {t : ByteArray} {a : Option Addr} {l cap : Nat} (w : World) (HD : ∀ W, Below w.heap.size w W → Calls Tryz.prog f #[.string tp, (.agg #[.int .i64 k, .int .i64 m, .int .u64 b, .string t, .slice a l cap])] W fun x w' => ∃ v', x = .returned v' ∧ GaveP w' (fun b => b < w.heap.size ∨ W.heap.size ≤ b) v' d ∧ Below W.heap.size W w') (hV : ¬ FitsIn 0 1 d) :
    Calls Tryz.prog 8 #[.int .i64 op, .string tp, (.agg #[.int .i64 k, .int .i64 m, .int .u64 b, .string t, .slice a l cap])] w fun x w' => x = .returned (errV 14 0 0) ∧ Below w.heap.size w w' := by
  have HH := Lib.hid HD
  have HV := Lib.hid hV
  clear HD hV
  obtain ⟨W1, hW1, hb1, hz, hx1, hx2⟩ := res_worlds w (.int .i64 k) (.int .i64 m) (.int .u64 b) (.string t) (.slice a l cap)
  have hzo := hz.out
  have hcall := HF.2
  have HG := Lib.hid HF.1
  clear HF
  go_enter_defers Tryz.func8, Tryz.ntmps8
  go_upto_region 1 with fail
  rw [← hW1]
  clear hW1
  go_wp2_with fail
  refine (HG.out _).mono ?_
  rintro e w2 ⟨G, cp, rfl, hb2⟩
  have hy1 := hx1.row.later hb2
  have hy2 := hx2.later hb2
  have hbw2 := hb1.trans (hb2.mono hb1.size)
  obtain ⟨Wa, hWa, hba, hma⟩ := map_world2 w2 (.func (.func f) #[] #[]) (.func (.func G) #[] cp)
  have hu1 := hy1.later hba
  have hu2 := hy2.later hba
  have hbwa := hbw2.trans (hba.mono hbw2.size)
  dsimp only
  go_upto_region 2 with fail
  rw [← hWa]
  clear hWa
  have d0 : Wa.cell? ⟨w2.heap.size, 0, none⟩ = some (.func (.func f) #[] #[]) := hma.cell 0 rfl
  have p0 : Wa.cell? ⟨w.heap.size, 0, none⟩ = some (.int .i64 k) := hu1.cell 0 rfl
  have p1 : Wa.cell? ⟨w.heap.size, 1, none⟩ = some (.int .i64 m) := hu1.cell 1 rfl
  have p2 : Wa.cell? ⟨w.heap.size, 2, none⟩ = some (.int .u64 b) := hu1.cell 2 rfl
  have p3 : Wa.cell? ⟨w.heap.size, 3, none⟩ = some (.string t) := hu1.cell 3 rfl
  have p4 : Wa.cell? ⟨w.heap.size, 4, none⟩ = some (.slice a l cap) := hu1.cell 4 rfl
  have q0 : Wa.cell? ⟨(w.heap.size + 1), 0, none⟩ = some (.int .i64 0) := hu2.cell 0 rfl
  have fq0 := hu2.thaw 0
  have q1 : Wa.cell? ⟨(w.heap.size + 1), 1, none⟩ = some (.int .i64 0) := hu2.cell 1 rfl
  have fq1 := hu2.thaw 1
  have q2 : Wa.cell? ⟨(w.heap.size + 1), 2, none⟩ = some (.int .i64 0) := hu2.cell 2 rfl
  have fq2 := hu2.thaw 2
  have q3 : Wa.cell? ⟨(w.heap.size + 1), 3, none⟩ = some (.int .i64 0) := hu2.cell 3 rfl
  have fq3 := hu2.thaw 3
  have q4 : Wa.cell? ⟨(w.heap.size + 1), 4, none⟩ = some (.bool false) := hu2.cell 4 rfl
  have fq4 := hu2.thaw 4
  have q5 : Wa.cell? ⟨(w.heap.size + 1), 5, none⟩ = some (.int .i64 0) := hu2.cell 5 rfl
  have fq5 := hu2.thaw 5
  have q6 : Wa.cell? ⟨(w.heap.size + 1), 6, none⟩ = some (.int .i64 0) := hu2.cell 6 rfl
  have fq6 := hu2.thaw 6
  have q7 : Wa.cell? ⟨(w.heap.size + 1), 7, none⟩ = some (.int .u64 0) := hu2.cell 7 rfl
  have fq7 := hu2.thaw 7
  have q8 : Wa.cell? ⟨(w.heap.size + 1), 8, none⟩ = some (.string ⟨#[]⟩) := hu2.cell 8 rfl
  have fq8 := hu2.thaw 8
  have q9 : Wa.cell? ⟨(w.heap.size + 1), 9, none⟩ = some (.slice none 0 0) := hu2.cell 9 rfl
  have fq9 := hu2.thaw 9
  go_wp2_with fail
  refine (HH.out _ hbwa).mono ?_
  rintro e w3 ⟨v3, rfl, hr3, hb3⟩
  obtain ⟨k5, m5, b5, t5, a5, n5, cap5, rfl, hq3⟩ := hr3
  have hv2 := hu2.later hb3
  have hbw3 := hbwa.trans (hb3.mono hbwa.size)
  have hza := hbwa.size
  have hlt2 := hu2.lt
  clear p0 p1 p2 p3 p4 q0 q1 q2 q3 q4 q5 q6 q7 q8 q9 fq0 fq1 fq2 fq3 fq4 fq5 fq6 fq7 fq8 fq9 d0
  have q0 : w3.cell? ⟨(w.heap.size + 1), 0, none⟩ = some (.int .i64 0) := hv2.cell 0 rfl
  have fq0 := hv2.thaw 0
  have q1 : w3.cell? ⟨(w.heap.size + 1), 1, none⟩ = some (.int .i64 0) := hv2.cell 1 rfl
  have fq1 := hv2.thaw 1
  have q2 : w3.cell? ⟨(w.heap.size + 1), 2, none⟩ = some (.int .i64 0) := hv2.cell 2 rfl
  have fq2 := hv2.thaw 2
  have q3 : w3.cell? ⟨(w.heap.size + 1), 3, none⟩ = some (.int .i64 0) := hv2.cell 3 rfl
  have fq3 := hv2.thaw 3
  have q4 : w3.cell? ⟨(w.heap.size + 1), 4, none⟩ = some (.bool false) := hv2.cell 4 rfl
  have fq4 := hv2.thaw 4
  have q5 : w3.cell? ⟨(w.heap.size + 1), 5, none⟩ = some (.int .i64 0) := hv2.cell 5 rfl
  have fq5 := hv2.thaw 5
  have q6 : w3.cell? ⟨(w.heap.size + 1), 6, none⟩ = some (.int .i64 0) := hv2.cell 6 rfl
  have fq6 := hv2.thaw 6
  have q7 : w3.cell? ⟨(w.heap.size + 1), 7, none⟩ = some (.int .u64 0) := hv2.cell 7 rfl
  have fq7 := hv2.thaw 7
  have q8 : w3.cell? ⟨(w.heap.size + 1), 8, none⟩ = some (.string ⟨#[]⟩) := hv2.cell 8 rfl
  have fq8 := hv2.thaw 8
  have q9 : w3.cell? ⟨(w.heap.size + 1), 9, none⟩ = some (.slice none 0 0) := hv2.cell 9 rfl
  have fq9 := hv2.thaw 9
  obtain ⟨W4, hW4⟩ : ∃ W4, W4 = ((((((((((w3.setCell ⟨w.heap.size + 1, 0, none⟩ (.int .i64 0)).setCell ⟨w.heap.size + 1, 1, none⟩ (.int .i64 0)).setCell ⟨w.heap.size + 1, 2, none⟩ (.int .i64 0)).setCell ⟨w.heap.size + 1, 3, none⟩ (.int .i64 0)).setCell ⟨w.heap.size + 1, 4, none⟩ (.bool true)).setCell ⟨w.heap.size + 1, 5, none⟩ (.int .i64 k5)).setCell ⟨w.heap.size + 1, 6, none⟩ (.int .i64 m5)).setCell ⟨w.heap.size + 1, 7, none⟩ (.int .u64 b5)).setCell ⟨w.heap.size + 1, 8, none⟩ (.string t5)).setCell ⟨w.heap.size + 1, 9, none⟩ (.slice a5 n5 cap5)) := ⟨_, rfl⟩
  have hx4 : Row W4 (w.heap.size + 1) #[.int .i64 0, .int .i64 0, .int .i64 0, .int .i64 0, .bool true, .int .i64 k5, .int .i64 m5, .int .u64 b5, .string t5, .slice a5 n5 cap5] 33 := by rw [hW4]; exact hv2.set10 _ _ _ _ _ _ _ _ _ _
  have hq4 : Rep W4 (.agg #[.int .i64 k5, .int .i64 m5, .int .u64 b5, .string t5, .slice a5 n5 cap5]) d := by rw [hW4]; exact (hq3.set10x (fun b hb => by rcases hb with hb | hb <;> omega)).rep
  have hbw4 : Below w.heap.size w W4 := by rw [hW4]; exact set10_below hbw3 (by omega)
  dsimp only
  go_upto_region 6 with fail
  rw [← hW4]
  clear hW4 q0 q1 q2 q3 q4 q5 q6 q7 q8 q9 fq0 fq1 fq2 fq3 fq4 fq5 fq6 fq7 fq8 fq9
  have q0 : W4.cell? ⟨(w.heap.size + 1), 0, none⟩ = some (.int .i64 0) := hx4.cell 0 rfl
  have q1 : W4.cell? ⟨(w.heap.size + 1), 1, none⟩ = some (.int .i64 0) := hx4.cell 1 rfl
  have q2 : W4.cell? ⟨(w.heap.size + 1), 2, none⟩ = some (.int .i64 0) := hx4.cell 2 rfl
  have q3 : W4.cell? ⟨(w.heap.size + 1), 3, none⟩ = some (.int .i64 0) := hx4.cell 3 rfl
  have q4 : W4.cell? ⟨(w.heap.size + 1), 4, none⟩ = some (.bool true) := hx4.cell 4 rfl
  have q5 : W4.cell? ⟨(w.heap.size + 1), 5, none⟩ = some (.int .i64 k5) := hx4.cell 5 rfl
  have q6 : W4.cell? ⟨(w.heap.size + 1), 6, none⟩ = some (.int .i64 m5) := hx4.cell 6 rfl
  have q7 : W4.cell? ⟨(w.heap.size + 1), 7, none⟩ = some (.int .u64 b5) := hx4.cell 7 rfl
  have q8 : W4.cell? ⟨(w.heap.size + 1), 8, none⟩ = some (.string t5) := hx4.cell 8 rfl
  have q9 : W4.cell? ⟨(w.heap.size + 1), 9, none⟩ = some (.slice a5 n5 cap5) := hx4.cell 9 rfl
  go_wp2_with fail
  refine (dvalid_any hq4 _ (Below.refl _ _)).mono ?_
  rintro e w5 ⟨r, rfl, hvr, hb5⟩
  have hfr : r = false := by
    cases r
    · rfl
    · exact absurd (hvr.1 rfl) HV.out
  subst hfr
  clear hvr
  have hx5 := hx4.later hb5
  have hbw5 := hbw4.trans (hb5.mono hbw4.size)
  clear q0 q1 q2 q3 q4 q5 q6 q7 q8 q9
  have q0 : w5.cell? ⟨(w.heap.size + 1), 0, none⟩ = some (.int .i64 0) := hx5.cell 0 rfl
  have fq0 := hx5.thaw 0
  have q1 : w5.cell? ⟨(w.heap.size + 1), 1, none⟩ = some (.int .i64 0) := hx5.cell 1 rfl
  have fq1 := hx5.thaw 1
  have q2 : w5.cell? ⟨(w.heap.size + 1), 2, none⟩ = some (.int .i64 0) := hx5.cell 2 rfl
  have fq2 := hx5.thaw 2
  have q3 : w5.cell? ⟨(w.heap.size + 1), 3, none⟩ = some (.int .i64 0) := hx5.cell 3 rfl
  have fq3 := hx5.thaw 3
  have q4 : w5.cell? ⟨(w.heap.size + 1), 4, none⟩ = some (.bool true) := hx5.cell 4 rfl
  have fq4 := hx5.thaw 4
  have q5 : w5.cell? ⟨(w.heap.size + 1), 5, none⟩ = some (.int .i64 k5) := hx5.cell 5 rfl
  have fq5 := hx5.thaw 5
  have q6 : w5.cell? ⟨(w.heap.size + 1), 6, none⟩ = some (.int .i64 m5) := hx5.cell 6 rfl
  have fq6 := hx5.thaw 6
  have q7 : w5.cell? ⟨(w.heap.size + 1), 7, none⟩ = some (.int .u64 b5) := hx5.cell 7 rfl
  have fq7 := hx5.thaw 7
  have q8 : w5.cell? ⟨(w.heap.size + 1), 8, none⟩ = some (.string t5) := hx5.cell 8 rfl
  have fq8 := hx5.thaw 8
  have q9 : w5.cell? ⟨(w.heap.size + 1), 9, none⟩ = some (.slice a5 n5 cap5) := hx5.cell 9 rfl
  have fq9 := hx5.thaw 9
  dsimp only
  go_wp2_with fail
  refine leaves_cons (f := 17) (args := #[.pointer (some ⟨w.heap.size + 1, 0, none⟩)]) (by simp) (by simp [go_sem]) ?_
  refine (map1_idle _ _).mono ?_
  rintro e u' W' ⟨rfl, rfl, rfl⟩
  exact ⟨_, results_cell_row rfl _ _ (w.heap.size + 1) 33 _ (0, 0) _ rfl (hx5.set10 _ _ _ _ _ _ _ _ _ _) Tryz.underlying33 rfl (by kernel_rfl), rfl, set10_below hbw5 (by omega)⟩
end Go.Proofs.YtecdniimikfbhaaGreatDoor
