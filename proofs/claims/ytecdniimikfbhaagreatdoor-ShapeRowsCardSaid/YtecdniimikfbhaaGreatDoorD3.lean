/- Shape: the reference's Map, a map each (1). -/
import Derived.Test.YtecdniimikfbhaaGreatDoorD2
namespace Go.Proofs.YtecdniimikfbhaaGreatDoor
open Go Go.RowKit Go.ChangeShapes Go.WideShapes

set_option maxRecDepth 100000 in
set_option maxHeartbeats 3200000 in
theorem rmap_none {op : Int} (h : op ≤ 0 ∨ 9 ≤ op) (tp : ByteArray) {k m b : Int} {t : ByteArray} {a : Option Addr} {l cap : Nat} (w : World) :
    Calls Tryz.prog 10 #[.int .i64 op, .string tp, (.agg #[.int .i64 k, .int .i64 m, .int .u64 b, .string t, .slice a l cap])] w fun x w' => x = .returned (errV 12 0 0) ∧ Below w.heap.size w w' := by
  unfold errV
  have o1 : (op == 1) = false := by simp; omega
  have o2 : (op == 2) = false := by simp; omega
  have o3 : (op == 3) = false := by simp; omega
  have o4 : (op == 4) = false := by simp; omega
  have o5 : (op == 5) = false := by simp; omega
  have o6 : (op == 6) = false := by simp; omega
  have o7 : (op == 7) = false := by simp; omega
  have o8 : (op == 8) = false := by simp; omega
  obtain ⟨W1, hW1, hb1, hz, hx1, hx2⟩ := res_worlds w (.int .i64 k) (.int .i64 m) (.int .u64 b) (.string t) (.slice a l cap)
  have hzo := hz.out
  have q0 : W1.cell? ⟨(w.heap.size + 1), 0, none⟩ = some (.int .i64 0) := hx2.cell 0 rfl
  have fq0 := hx2.thaw 0
  have q1 : W1.cell? ⟨(w.heap.size + 1), 1, none⟩ = some (.int .i64 0) := hx2.cell 1 rfl
  have fq1 := hx2.thaw 1
  have q2 : W1.cell? ⟨(w.heap.size + 1), 2, none⟩ = some (.int .i64 0) := hx2.cell 2 rfl
  have fq2 := hx2.thaw 2
  have q3 : W1.cell? ⟨(w.heap.size + 1), 3, none⟩ = some (.int .i64 0) := hx2.cell 3 rfl
  have fq3 := hx2.thaw 3
  have q4 : W1.cell? ⟨(w.heap.size + 1), 4, none⟩ = some (.bool false) := hx2.cell 4 rfl
  have fq4 := hx2.thaw 4
  have q5 : W1.cell? ⟨(w.heap.size + 1), 5, none⟩ = some (.int .i64 0) := hx2.cell 5 rfl
  have fq5 := hx2.thaw 5
  have q6 : W1.cell? ⟨(w.heap.size + 1), 6, none⟩ = some (.int .i64 0) := hx2.cell 6 rfl
  have fq6 := hx2.thaw 6
  have q7 : W1.cell? ⟨(w.heap.size + 1), 7, none⟩ = some (.int .u64 0) := hx2.cell 7 rfl
  have fq7 := hx2.thaw 7
  have q8 : W1.cell? ⟨(w.heap.size + 1), 8, none⟩ = some (.string ⟨#[]⟩) := hx2.cell 8 rfl
  have fq8 := hx2.thaw 8
  have q9 : W1.cell? ⟨(w.heap.size + 1), 9, none⟩ = some (.slice none 0 0) := hx2.cell 9 rfl
  have fq9 := hx2.thaw 9
  go_enter Tryz.func10, Tryz.ntmps10
  go_upto_region 1 with fail
  rw [← hW1]
  clear hW1
  go_wp2_with fail
  exact bodyPost_ret (results_cell_row rfl _ _ (w.heap.size + 1) 33 _ (0, 0) _ rfl (hx2.set10 _ _ _ _ _ _ _ _ _ _) Tryz.underlying33 rfl (by kernel_rfl)) rfl ⟨rfl, set10_below hb1 (by omega)⟩

set_option maxRecDepth 100000 in
set_option maxHeartbeats 3200000 in
theorem rmap_1_int {w0 : World} {m b : Int} {t : ByteArray} {a : Option Addr} {cap : Nat} {kids : List D} (hv : Rep w0 (.agg #[.int .i64 1, .int .i64 m, .int .u64 b, .string t, .slice a kids.length cap]) (.mk 1 m b t kids)) (hd : FitsIn 0 1 (.mk 1 m b t kids)) (tp : ByteArray) (w : World) (hb0 : Below w0.heap.size w0 w) :
    Calls Tryz.prog 10 #[.int .i64 1, .string tp, (.agg #[.int .i64 1, .int .i64 m, .int .u64 b, .string t, .slice a kids.length cap])] w fun x w' => ∃ v', x = .returned v' ∧ GaveP w' (fun b => w.heap.size ≤ b) v' (numD (wrap64 (m + m))) ∧ Below w.heap.size w w' := by
  have HF := Lib.hid (fun W hW => rface_yes (k := 1) (by omega) hv (hd.slim (by omega)) 5 (by decide) W hW)
  have HB := Lib.hid hb0
  clear hv hd hb0
  obtain ⟨W1, hW1, hb1, hz, hx1, hx2⟩ := res_worlds w (.int .i64 1) (.int .i64 m) (.int .u64 b) (.string t) (.slice a kids.length cap)
  have hzo := hz.out
  have hr1 := hx1.row
  have p0 : W1.cell? ⟨w.heap.size, 0, none⟩ = some (.int .i64 1) := hr1.cell 0 rfl
  have p1 : W1.cell? ⟨w.heap.size, 1, none⟩ = some (.int .i64 m) := hr1.cell 1 rfl
  have p2 : W1.cell? ⟨w.heap.size, 2, none⟩ = some (.int .u64 b) := hr1.cell 2 rfl
  have p3 : W1.cell? ⟨w.heap.size, 3, none⟩ = some (.string t) := hr1.cell 3 rfl
  have p4 : W1.cell? ⟨w.heap.size, 4, none⟩ = some (.slice a kids.length cap) := hr1.cell 4 rfl
  go_enter Tryz.func10, Tryz.ntmps10
  go_upto_region 1 with fail
  rw [← hW1]
  clear hW1
  go_wp2_with fail
  refine (HF.out _ (HB.out.trans (hb1.mono HB.out.size))).mono ?_
  rintro x w2 ⟨v', rfl, hv', hb2⟩
  obtain ⟨k5, m5, b5, t5, a5, n5, cap5, rfl, -⟩ := hv'
  have hr2 := hr1.later hb2
  have hy2 := hx2.later hb2
  have hbw2 := hb1.trans (hb2.mono hb1.size)
  obtain ⟨W3, hW3⟩ : ∃ W3, W3 = w2.alloc (.cells #[.int .i64 0, .int .i64 0, .int .i64 0, .int .i64 0, .bool true, .int .i64 k5, .int .i64 m5, .int .u64 b5, .string t5, .slice a5 n5 cap5] 33) := ⟨_, rfl⟩
  have hb3 : Below w2.heap.size w2 W3 := by rw [hW3]; exact (Below.refl _ _).alloc (Nat.le_refl _) _
  have hz3 : Row W3 w2.heap.size #[.int .i64 0, .int .i64 0, .int .i64 0, .int .i64 0, .bool true, .int .i64 k5, .int .i64 m5, .int .u64 b5, .string t5, .slice a5 n5 cap5] 33 := by rw [hW3]; exact Row.new _ _ _
  have hr3 := hr2.later hb3
  have hy3 := hy2.later hb3
  have hbw3 := hbw2.trans (hb3.mono hbw2.size)
  dsimp only
  go_upto_region 4 with fail
  rw [← hW3]
  clear p0 p1 p2 p3 p4
  clear hW3
  have z0 : W3.cell? ⟨w2.heap.size, 0, none⟩ = some (.int .i64 0) := hz3.cell 0 rfl
  have p0 : W3.cell? ⟨w.heap.size, 0, none⟩ = some (.int .i64 1) := hr3.cell 0 rfl
  have p1 : W3.cell? ⟨w.heap.size, 1, none⟩ = some (.int .i64 m) := hr3.cell 1 rfl
  have p2 : W3.cell? ⟨w.heap.size, 2, none⟩ = some (.int .u64 b) := hr3.cell 2 rfl
  have p3 : W3.cell? ⟨w.heap.size, 3, none⟩ = some (.string t) := hr3.cell 3 rfl
  have p4 : W3.cell? ⟨w.heap.size, 4, none⟩ = some (.slice a kids.length cap) := hr3.cell 4 rfl
  go_wp2_with fail
  refine (radd_int m b t a kids.length cap _).mono ?_
  rintro x w4 ⟨rfl, hb4⟩
  have hy4 := hy3.later hb4
  have hbw4 := hbw3.trans (hb4.mono hbw3.size)
  obtain ⟨W5, hW5, hb5, hx5⟩ := boxes1r w4 (.int .i64 1) (.int .i64 (wrap64 (m + m))) (.int .u64 0) (.string ⟨#[]⟩) (.slice none 0 0)
  have hy5 := hy4.later hb5
  have hbw5 := hbw4.trans (hb5.mono hbw4.size)
  clear p0 p1 p2 p3 p4
  clear z0
  have p0 : W5.cell? ⟨w4.heap.size, 0, none⟩ = some (.int .i64 1) := hx5.cell 0 rfl
  have p1 : W5.cell? ⟨w4.heap.size, 1, none⟩ = some (.int .i64 (wrap64 (m + m))) := hx5.cell 1 rfl
  have p2 : W5.cell? ⟨w4.heap.size, 2, none⟩ = some (.int .u64 0) := hx5.cell 2 rfl
  have p3 : W5.cell? ⟨w4.heap.size, 3, none⟩ = some (.string ⟨#[]⟩) := hx5.cell 3 rfl
  have p4 : W5.cell? ⟨w4.heap.size, 4, none⟩ = some (.slice none 0 0) := hx5.cell 4 rfl
  unfold numV
  dsimp only
  go_upto_region 7 with fail
  rw [← hW5]
  clear hW5
  go_wp2_with fail
  refine (rgave_v _ _ _ _ _ _ _ _).mono ?_
  rintro x w6 ⟨rfl, hb6⟩
  have hy6 := hy5.later hb6
  have hbw6 := hbw5.trans (hb6.mono hbw5.size)
  clear p0 p1 p2 p3 p4
  have q0 : w6.cell? ⟨(w.heap.size + 1), 0, none⟩ = some (.int .i64 0) := hy6.cell 0 rfl
  have fq0 := hy6.thaw 0
  have q1 : w6.cell? ⟨(w.heap.size + 1), 1, none⟩ = some (.int .i64 0) := hy6.cell 1 rfl
  have fq1 := hy6.thaw 1
  have q2 : w6.cell? ⟨(w.heap.size + 1), 2, none⟩ = some (.int .i64 0) := hy6.cell 2 rfl
  have fq2 := hy6.thaw 2
  have q3 : w6.cell? ⟨(w.heap.size + 1), 3, none⟩ = some (.int .i64 0) := hy6.cell 3 rfl
  have fq3 := hy6.thaw 3
  have q4 : w6.cell? ⟨(w.heap.size + 1), 4, none⟩ = some (.bool false) := hy6.cell 4 rfl
  have fq4 := hy6.thaw 4
  have q5 : w6.cell? ⟨(w.heap.size + 1), 5, none⟩ = some (.int .i64 0) := hy6.cell 5 rfl
  have fq5 := hy6.thaw 5
  have q6 : w6.cell? ⟨(w.heap.size + 1), 6, none⟩ = some (.int .i64 0) := hy6.cell 6 rfl
  have fq6 := hy6.thaw 6
  have q7 : w6.cell? ⟨(w.heap.size + 1), 7, none⟩ = some (.int .u64 0) := hy6.cell 7 rfl
  have fq7 := hy6.thaw 7
  have q8 : w6.cell? ⟨(w.heap.size + 1), 8, none⟩ = some (.string ⟨#[]⟩) := hy6.cell 8 rfl
  have fq8 := hy6.thaw 8
  have q9 : w6.cell? ⟨(w.heap.size + 1), 9, none⟩ = some (.slice none 0 0) := hy6.cell 9 rfl
  have fq9 := hy6.thaw 9
  dsimp only
  go_wp2_with fail
  exact bodyPost_ret (results_cell_row rfl _ _ (w.heap.size + 1) 33 _ (0, 0) _ rfl (hy6.set10 _ _ _ _ _ _ _ _ _ _) Tryz.underlying33 rfl (by kernel_rfl)) rfl ⟨_, rfl, gaveP_leaf ⟨by decide, wrap64_wf _, by decide, by decide⟩, set10_below hbw6 (by omega)⟩

set_option maxRecDepth 100000 in
set_option maxHeartbeats 3200000 in
theorem rmap_1_flt {w0 : World} {m b : Int} {t : ByteArray} {a : Option Addr} {cap : Nat} {kids : List D} (hv : Rep w0 (.agg #[.int .i64 3, .int .i64 m, .int .u64 b, .string t, .slice a kids.length cap]) (.mk 3 m b t kids)) (hd : FitsIn 0 1 (.mk 3 m b t kids)) (tp : ByteArray) (w : World) (hb0 : Below w0.heap.size w0 w) :
    Calls Tryz.prog 10 #[.int .i64 1, .string tp, (.agg #[.int .i64 3, .int .i64 m, .int .u64 b, .string t, .slice a kids.length cap])] w fun x w' => ∃ v', x = .returned v' ∧ GaveP w' (fun b => w.heap.size ≤ b) v' (fltD (fsum b.toNat b.toNat)) ∧ Below w.heap.size w w' := by
  have HF := Lib.hid (fun W hW => rface_yes (k := 3) (by omega) hv (hd.slim (by omega)) 5 (by decide) W hW)
  have HB := Lib.hid hb0
  clear hv hd hb0
  obtain ⟨W1, hW1, hb1, hz, hx1, hx2⟩ := res_worlds w (.int .i64 3) (.int .i64 m) (.int .u64 b) (.string t) (.slice a kids.length cap)
  have hzo := hz.out
  have hr1 := hx1.row
  have p0 : W1.cell? ⟨w.heap.size, 0, none⟩ = some (.int .i64 3) := hr1.cell 0 rfl
  have p1 : W1.cell? ⟨w.heap.size, 1, none⟩ = some (.int .i64 m) := hr1.cell 1 rfl
  have p2 : W1.cell? ⟨w.heap.size, 2, none⟩ = some (.int .u64 b) := hr1.cell 2 rfl
  have p3 : W1.cell? ⟨w.heap.size, 3, none⟩ = some (.string t) := hr1.cell 3 rfl
  have p4 : W1.cell? ⟨w.heap.size, 4, none⟩ = some (.slice a kids.length cap) := hr1.cell 4 rfl
  go_enter Tryz.func10, Tryz.ntmps10
  go_upto_region 1 with fail
  rw [← hW1]
  clear hW1
  go_wp2_with fail
  refine (HF.out _ (HB.out.trans (hb1.mono HB.out.size))).mono ?_
  rintro x w2 ⟨v', rfl, hv', hb2⟩
  obtain ⟨k5, m5, b5, t5, a5, n5, cap5, rfl, -⟩ := hv'
  have hr2 := hr1.later hb2
  have hy2 := hx2.later hb2
  have hbw2 := hb1.trans (hb2.mono hb1.size)
  obtain ⟨W3, hW3⟩ : ∃ W3, W3 = w2.alloc (.cells #[.int .i64 0, .int .i64 0, .int .i64 0, .int .i64 0, .bool true, .int .i64 k5, .int .i64 m5, .int .u64 b5, .string t5, .slice a5 n5 cap5] 33) := ⟨_, rfl⟩
  have hb3 : Below w2.heap.size w2 W3 := by rw [hW3]; exact (Below.refl _ _).alloc (Nat.le_refl _) _
  have hz3 : Row W3 w2.heap.size #[.int .i64 0, .int .i64 0, .int .i64 0, .int .i64 0, .bool true, .int .i64 k5, .int .i64 m5, .int .u64 b5, .string t5, .slice a5 n5 cap5] 33 := by rw [hW3]; exact Row.new _ _ _
  have hr3 := hr2.later hb3
  have hy3 := hy2.later hb3
  have hbw3 := hbw2.trans (hb3.mono hbw2.size)
  dsimp only
  go_upto_region 4 with fail
  rw [← hW3]
  clear p0 p1 p2 p3 p4
  clear hW3
  have z0 : W3.cell? ⟨w2.heap.size, 0, none⟩ = some (.int .i64 0) := hz3.cell 0 rfl
  have p0 : W3.cell? ⟨w.heap.size, 0, none⟩ = some (.int .i64 3) := hr3.cell 0 rfl
  have p1 : W3.cell? ⟨w.heap.size, 1, none⟩ = some (.int .i64 m) := hr3.cell 1 rfl
  have p2 : W3.cell? ⟨w.heap.size, 2, none⟩ = some (.int .u64 b) := hr3.cell 2 rfl
  have p3 : W3.cell? ⟨w.heap.size, 3, none⟩ = some (.string t) := hr3.cell 3 rfl
  have p4 : W3.cell? ⟨w.heap.size, 4, none⟩ = some (.slice a kids.length cap) := hr3.cell 4 rfl
  go_wp2_with fail
  refine (radd_flt m b t a kids.length cap _).mono ?_
  rintro x w4 ⟨rfl, hb4⟩
  have hy4 := hy3.later hb4
  have hbw4 := hbw3.trans (hb4.mono hbw3.size)
  obtain ⟨W5, hW5, hb5, hx5⟩ := boxes1r w4 (.int .i64 3) (.int .i64 0) (.int .u64 (fsum b.toNat b.toNat)) (.string ⟨#[]⟩) (.slice none 0 0)
  have hy5 := hy4.later hb5
  have hbw5 := hbw4.trans (hb5.mono hbw4.size)
  clear p0 p1 p2 p3 p4
  clear z0
  have p0 : W5.cell? ⟨w4.heap.size, 0, none⟩ = some (.int .i64 3) := hx5.cell 0 rfl
  have p1 : W5.cell? ⟨w4.heap.size, 1, none⟩ = some (.int .i64 0) := hx5.cell 1 rfl
  have p2 : W5.cell? ⟨w4.heap.size, 2, none⟩ = some (.int .u64 (fsum b.toNat b.toNat)) := hx5.cell 2 rfl
  have p3 : W5.cell? ⟨w4.heap.size, 3, none⟩ = some (.string ⟨#[]⟩) := hx5.cell 3 rfl
  have p4 : W5.cell? ⟨w4.heap.size, 4, none⟩ = some (.slice none 0 0) := hx5.cell 4 rfl
  unfold fltV
  dsimp only
  go_upto_region 7 with fail
  rw [← hW5]
  clear hW5
  go_wp2_with fail
  refine (rgave_v _ _ _ _ _ _ _ _).mono ?_
  rintro x w6 ⟨rfl, hb6⟩
  have hy6 := hy5.later hb6
  have hbw6 := hbw5.trans (hb6.mono hbw5.size)
  clear p0 p1 p2 p3 p4
  have q0 : w6.cell? ⟨(w.heap.size + 1), 0, none⟩ = some (.int .i64 0) := hy6.cell 0 rfl
  have fq0 := hy6.thaw 0
  have q1 : w6.cell? ⟨(w.heap.size + 1), 1, none⟩ = some (.int .i64 0) := hy6.cell 1 rfl
  have fq1 := hy6.thaw 1
  have q2 : w6.cell? ⟨(w.heap.size + 1), 2, none⟩ = some (.int .i64 0) := hy6.cell 2 rfl
  have fq2 := hy6.thaw 2
  have q3 : w6.cell? ⟨(w.heap.size + 1), 3, none⟩ = some (.int .i64 0) := hy6.cell 3 rfl
  have fq3 := hy6.thaw 3
  have q4 : w6.cell? ⟨(w.heap.size + 1), 4, none⟩ = some (.bool false) := hy6.cell 4 rfl
  have fq4 := hy6.thaw 4
  have q5 : w6.cell? ⟨(w.heap.size + 1), 5, none⟩ = some (.int .i64 0) := hy6.cell 5 rfl
  have fq5 := hy6.thaw 5
  have q6 : w6.cell? ⟨(w.heap.size + 1), 6, none⟩ = some (.int .i64 0) := hy6.cell 6 rfl
  have fq6 := hy6.thaw 6
  have q7 : w6.cell? ⟨(w.heap.size + 1), 7, none⟩ = some (.int .u64 0) := hy6.cell 7 rfl
  have fq7 := hy6.thaw 7
  have q8 : w6.cell? ⟨(w.heap.size + 1), 8, none⟩ = some (.string ⟨#[]⟩) := hy6.cell 8 rfl
  have fq8 := hy6.thaw 8
  have q9 : w6.cell? ⟨(w.heap.size + 1), 9, none⟩ = some (.slice none 0 0) := hy6.cell 9 rfl
  have fq9 := hy6.thaw 9
  dsimp only
  go_wp2_with fail
  exact bodyPost_ret (results_cell_row rfl _ _ (w.heap.size + 1) 33 _ (0, 0) _ rfl (hy6.set10 _ _ _ _ _ _ _ _ _ _) Tryz.underlying33 rfl (by kernel_rfl)) rfl ⟨_, rfl, gaveP_leaf ⟨by decide, by decide, fsum_wf _ _, by decide⟩, set10_below hbw6 (by omega)⟩

set_option maxRecDepth 100000 in
set_option maxHeartbeats 3200000 in
theorem rmap_1_no {w0 : World} {j : Nat} {m b : Int} {t : ByteArray} {a : Option Addr} {cap : Nat} {kids : List D} (_hv : Rep w0 (.agg #[.int .i64 j, .int .i64 m, .int .u64 b, .string t, .slice a kids.length cap]) (.mk j m b t kids)) (hd : FitsIn 0 1 (.mk j m b t kids)) (tp : ByteArray) (h : hasFi j 5 = false) (w : World) (_hb0 : Below w0.heap.size w0 w) :
    Calls Tryz.prog 10 #[.int .i64 1, .string tp, (.agg #[.int .i64 j, .int .i64 m, .int .u64 b, .string t, .slice a kids.length cap])] w fun x w' => x = .returned (errV 110 (2) (faceMiss j 5)) ∧ Below w.heap.size w w' := by
  unfold errV
  have h13 : j ≤ 13 := by have := hd.top.2.1; omega
  have HF := Lib.hid (fun W => rface_no h13 (m := m) (b := b) (t := t) (a := a) (l := kids.length) (cap := cap) 5 h W)
  clear _hv hd _hb0 h h13
  generalize faceMiss j 5 = fm at *
  obtain ⟨W1, hW1, hb1, hz, hx1, hx2⟩ := res_worlds w (.int .i64 j) (.int .i64 m) (.int .u64 b) (.string t) (.slice a kids.length cap)
  have hzo := hz.out
  have hr1 := hx1.row
  have p0 : W1.cell? ⟨w.heap.size, 0, none⟩ = some (.int .i64 j) := hr1.cell 0 rfl
  have p1 : W1.cell? ⟨w.heap.size, 1, none⟩ = some (.int .i64 m) := hr1.cell 1 rfl
  have p2 : W1.cell? ⟨w.heap.size, 2, none⟩ = some (.int .u64 b) := hr1.cell 2 rfl
  have p3 : W1.cell? ⟨w.heap.size, 3, none⟩ = some (.string t) := hr1.cell 3 rfl
  have p4 : W1.cell? ⟨w.heap.size, 4, none⟩ = some (.slice a kids.length cap) := hr1.cell 4 rfl
  go_enter Tryz.func10, Tryz.ntmps10
  go_upto_region 1 with fail
  rw [← hW1]
  clear hW1
  go_wp2_with fail
  refine (HF.out _).mono ?_
  rintro x w2 ⟨v', rfl, hv', hb2⟩
  obtain rfl : v' = _ := hv'
  have hy2 := hx2.later hb2
  have hbw2 := hb1.trans (hb2.mono hb1.size)
  obtain ⟨W3, hW3⟩ : ∃ W3, W3 = w2.alloc (.cells #[.int .i64 110, .int .i64 0, .int .i64 2, .int .i64 fm, .bool false, .int .i64 0, .int .i64 0, .int .u64 0, .string ⟨#[]⟩, .slice none 0 0] 33) := ⟨_, rfl⟩
  have hb3 : Below w2.heap.size w2 W3 := by rw [hW3]; exact (Below.refl _ _).alloc (Nat.le_refl _) _
  have hz3 : Row W3 w2.heap.size #[.int .i64 110, .int .i64 0, .int .i64 2, .int .i64 fm, .bool false, .int .i64 0, .int .i64 0, .int .u64 0, .string ⟨#[]⟩, .slice none 0 0] 33 := by rw [hW3]; exact Row.new _ _ _
  have hy3 := hy2.later hb3
  have hbw3 := hbw2.trans (hb3.mono hbw2.size)
  dsimp only
  go_upto_region 4 with fail
  rw [← hW3]
  clear p0 p1 p2 p3 p4
  clear hW3
  have z0 : W3.cell? ⟨w2.heap.size, 0, none⟩ = some (.int .i64 110) := hz3.cell 0 rfl
  have z1 : W3.cell? ⟨w2.heap.size, 1, none⟩ = some (.int .i64 0) := hz3.cell 1 rfl
  have z2 : W3.cell? ⟨w2.heap.size, 2, none⟩ = some (.int .i64 2) := hz3.cell 2 rfl
  have z3 : W3.cell? ⟨w2.heap.size, 3, none⟩ = some (.int .i64 fm) := hz3.cell 3 rfl
  have z4 : W3.cell? ⟨w2.heap.size, 4, none⟩ = some (.bool false) := hz3.cell 4 rfl
  have z5 : W3.cell? ⟨w2.heap.size, 5, none⟩ = some (.int .i64 0) := hz3.cell 5 rfl
  have z6 : W3.cell? ⟨w2.heap.size, 6, none⟩ = some (.int .i64 0) := hz3.cell 6 rfl
  have z7 : W3.cell? ⟨w2.heap.size, 7, none⟩ = some (.int .u64 0) := hz3.cell 7 rfl
  have z8 : W3.cell? ⟨w2.heap.size, 8, none⟩ = some (.string ⟨#[]⟩) := hz3.cell 8 rfl
  have z9 : W3.cell? ⟨w2.heap.size, 9, none⟩ = some (.slice none 0 0) := hz3.cell 9 rfl
  have q0 : W3.cell? ⟨(w.heap.size + 1), 0, none⟩ = some (.int .i64 0) := hy3.cell 0 rfl
  have fq0 := hy3.thaw 0
  have q1 : W3.cell? ⟨(w.heap.size + 1), 1, none⟩ = some (.int .i64 0) := hy3.cell 1 rfl
  have fq1 := hy3.thaw 1
  have q2 : W3.cell? ⟨(w.heap.size + 1), 2, none⟩ = some (.int .i64 0) := hy3.cell 2 rfl
  have fq2 := hy3.thaw 2
  have q3 : W3.cell? ⟨(w.heap.size + 1), 3, none⟩ = some (.int .i64 0) := hy3.cell 3 rfl
  have fq3 := hy3.thaw 3
  have q4 : W3.cell? ⟨(w.heap.size + 1), 4, none⟩ = some (.bool false) := hy3.cell 4 rfl
  have fq4 := hy3.thaw 4
  have q5 : W3.cell? ⟨(w.heap.size + 1), 5, none⟩ = some (.int .i64 0) := hy3.cell 5 rfl
  have fq5 := hy3.thaw 5
  have q6 : W3.cell? ⟨(w.heap.size + 1), 6, none⟩ = some (.int .i64 0) := hy3.cell 6 rfl
  have fq6 := hy3.thaw 6
  have q7 : W3.cell? ⟨(w.heap.size + 1), 7, none⟩ = some (.int .u64 0) := hy3.cell 7 rfl
  have fq7 := hy3.thaw 7
  have q8 : W3.cell? ⟨(w.heap.size + 1), 8, none⟩ = some (.string ⟨#[]⟩) := hy3.cell 8 rfl
  have fq8 := hy3.thaw 8
  have q9 : W3.cell? ⟨(w.heap.size + 1), 9, none⟩ = some (.slice none 0 0) := hy3.cell 9 rfl
  have fq9 := hy3.thaw 9
  go_wp2_with fail
  exact bodyPost_ret (results_cell_row rfl _ _ (w.heap.size + 1) 33 _ (0, 0) _ rfl (hy3.set10 _ _ _ _ _ _ _ _ _ _) Tryz.underlying33 rfl (by kernel_rfl)) rfl ⟨rfl, set10_below hbw3 (by omega)⟩

end Go.Proofs.YtecdniimikfbhaaGreatDoor
