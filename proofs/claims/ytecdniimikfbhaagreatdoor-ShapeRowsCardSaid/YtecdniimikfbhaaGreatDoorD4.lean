/- Shape: the reference's Map, a map each (2). -/
import Derived.Test.YtecdniimikfbhaaGreatDoorD1
namespace Go.Proofs.YtecdniimikfbhaaGreatDoor
open Go Go.RowKit Go.ChangeShapes Go.WideShapes

theorem rep_listed {w : World} {k m b : Int} {t : ByteArray} {a : Option Addr} {l cap : Nat} {d : D} {g : Nat} {Q : Nat → Prop} (h : RepP w Q (.agg #[.int .i64 k, .int .i64 m, .int .u64 b, .string t, .slice a l cap]) d) (hg : Q g) (hr : Row w g #[.int .i64 k, .int .i64 m, .int .u64 b, .string t, .slice a l cap] 25) :
    RepP w Q (.agg #[.int .i64 8, .int .i64 0, .int .u64 0, .string ⟨#[]⟩, .slice (some ⟨g, 0, none⟩) 1 1]) (.mk 8 0 0 ⟨#[]⟩ [d]) := by
  refine RepP.mk 8 0 0 ⟨#[]⟩ (some ⟨g, 0, none⟩) 1 g 0 (fun _ j => #[Value.int .i64 k, .int .i64 m, .int .u64 b, .string t, .slice a l cap].getD j (.bool false)) [d] ⟨by decide, by decide, by decide, by decide⟩ (fun _ => ⟨rfl, hg, hr.lt, by simp, by omega⟩) ?_ ?_
  · intro i hi
    obtain rfl : i = 0 := by simp at hi; omega
    exact ⟨hr.cell 0 rfl, hr.cell 1 rfl, hr.cell 2 rfl, hr.cell 3 rfl, hr.cell 4 rfl⟩
  · intro i x hx
    have hi : i = 0 := by
      have := (List.getElem?_eq_some_iff.1 hx).1
      simp at this; omega
    subst hi
    simp at hx
    subst hx
    exact h
theorem rep_paired {w : World} {k m b : Int} {t tp : ByteArray} (htp : tp.size ≤ maxLen) {a : Option Addr} {l cap : Nat} {d : D} {g : Nat} {Q : Nat → Prop} (h : RepP w Q (.agg #[.int .i64 k, .int .i64 m, .int .u64 b, .string t, .slice a l cap]) d) (hg : Q g) (hr : Row w g #[.int .i64 4, .int .i64 0, .int .u64 0, .string tp, .slice none 0 0, .int .i64 k, .int .i64 m, .int .u64 b, .string t, .slice a l cap] 25) :
    RepP w Q (.agg #[.int .i64 9, .int .i64 0, .int .u64 0, .string ⟨#[]⟩, .slice (some ⟨g, 0, none⟩) 2 2]) (.mk 9 0 0 ⟨#[]⟩ [txtD tp, d]) := by
  refine RepP.mk 9 0 0 ⟨#[]⟩ (some ⟨g, 0, none⟩) 2 g 0 (fun i j => #[Value.int .i64 4, .int .i64 0, .int .u64 0, .string tp, .slice none 0 0, .int .i64 k, .int .i64 m, .int .u64 b, .string t, .slice a l cap].getD (i * 5 + j) (.bool false)) [txtD tp, d] ⟨by decide, by decide, by decide, by decide⟩ (fun _ => ⟨rfl, hg, hr.lt, by simp, by omega⟩) ?_ ?_
  · intro i hi
    have hi2 : i = 0 ∨ i = 1 := by simp at hi; omega
    rcases hi2 with rfl | rfl
    · exact ⟨hr.cell 0 rfl, hr.cell 1 rfl, hr.cell 2 rfl, hr.cell 3 rfl, hr.cell 4 rfl⟩
    · exact ⟨hr.cell 5 rfl, hr.cell 6 rfl, hr.cell 7 rfl, hr.cell 8 rfl, hr.cell 9 rfl⟩
  · intro i x hx
    have hi : i = 0 ∨ i = 1 := by
      have := (List.getElem?_eq_some_iff.1 hx).1
      simp at this; omega
    rcases hi with rfl | rfl
    · simp at hx
      subst hx
      exact RepP.mk 4 0 0 tp none 0 0 0 (fun _ _ => .bool false) [] ⟨by decide, by decide, by decide, htp⟩ (fun h => absurd h (by simp)) (fun i hi => absurd hi (by simp)) (fun i x hx => by simp at hx)
    · simp at hx
      subst hx
      exact h
set_option maxRecDepth 100000 in
set_option maxHeartbeats 3200000 in
theorem rmap_2_yes {w0 : World} {j : Nat} {m b : Int} {t : ByteArray} {a : Option Addr} {cap : Nat} {kids : List D} (hv : Rep w0 (.agg #[.int .i64 j, .int .i64 m, .int .u64 b, .string t, .slice a kids.length cap]) (.mk j m b t kids)) (hd : FitsIn 0 1 (.mk j m b t kids)) (tp : ByteArray) (hf : FitsIn 0 1 (.mk 8 0 0 ⟨#[]⟩ [.mk j m b t kids])) (w : World) (hb0 : Below w0.heap.size w0 w) :
    Calls Tryz.prog 10 #[.int .i64 2, .string tp, (.agg #[.int .i64 j, .int .i64 m, .int .u64 b, .string t, .slice a kids.length cap])] w fun x w' => ∃ v', x = .returned v' ∧ GaveP w' (fun b => w.heap.size ≤ b) v' (.mk 8 0 0 ⟨#[]⟩ [.mk j m b t kids]) ∧ Below w.heap.size w w' := by
  have HC := Lib.hid (fun W hW => copy_any hv (hd.slim (by omega)) W hW)
  have HB := Lib.hid hb0
  have HF := Lib.hid hf
  clear hv hd hb0 hf
  obtain ⟨W1, hW1, hb1, hz, hx1, hx2⟩ := res_worlds w (.int .i64 j) (.int .i64 m) (.int .u64 b) (.string t) (.slice a kids.length cap)
  have hzo := hz.out
  have hr1 := hx1.row
  have p0 : W1.cell? ⟨w.heap.size, 0, none⟩ = some (.int .i64 j) := hr1.cell 0 rfl
  have p1 : W1.cell? ⟨w.heap.size, 1, none⟩ = some (.int .i64 m) := hr1.cell 1 rfl
  have p2 : W1.cell? ⟨w.heap.size, 2, none⟩ = some (.int .u64 b) := hr1.cell 2 rfl
  have p3 : W1.cell? ⟨w.heap.size, 3, none⟩ = some (.string t) := hr1.cell 3 rfl
  have p4 : W1.cell? ⟨w.heap.size, 4, none⟩ = some (.slice a kids.length cap) := hr1.cell 4 rfl
  go_enter Tryz.func10, Tryz.ntmps10
  go_upto_region 1 with fail
  rw [← hW1]
  clear hW1
  go_wp2_with fail
  refine (HC.out _ (HB.out.trans (hb1.mono HB.out.size))).mono ?_
  rintro x w2 ⟨v2, rfl, hq2, hb2⟩
  obtain ⟨k5, m5, b5, t5, a5, n5, cap5, rfl⟩ := hq2.form
  have hy2 := hx2.later hb2
  have hbw2 := hb1.trans (hb2.mono hb1.size)
  have hz12 := hb2.size
  obtain ⟨Wb, hWb⟩ : ∃ Wb, Wb = w2.alloc (.cells #[.int .i64 k5, .int .i64 m5, .int .u64 b5, .string t5, .slice a5 n5 cap5] 25) := ⟨_, rfl⟩
  have hbb : Below w2.heap.size w2 Wb := by rw [hWb]; exact (Below.refl _ _).alloc (Nat.le_refl _) _
  have hzb : Row Wb w2.heap.size #[.int .i64 k5, .int .i64 m5, .int .u64 b5, .string t5, .slice a5 n5 cap5] 25 := by rw [hWb]; exact Row.new _ _ _
  have hPb := rep_listed ((RepP.of_repQ hq2).later hbb) (show W1.heap.size ≤ w2.heap.size from hz12) hzb
  have hyb := hy2.later hbb
  have hbwb := hbw2.trans (hbb.mono hbw2.size)
  clear hq2
  clear p0 p1 p2 p3 p4
  dsimp only
  go_wp2_with fail
  rw [← hWb]
  clear hWb
  refine (rmade_yes hPb.rep HF.out _ (Below.refl _ _)).mono ?_
  rintro x w3 ⟨rfl, hb3⟩
  have hG : GaveP w3 (fun b => W1.heap.size ≤ b) (.agg #[.int .i64 0, .int .i64 0, .int .i64 0, .int .i64 0, .bool true, .int .i64 8, .int .i64 0, .int .u64 0, .string ⟨#[]⟩, .slice (some ⟨w2.heap.size, 0, none⟩) 1 1]) (.mk 8 0 0 ⟨#[]⟩ [.mk j m b t kids]) := ⟨_, _, _, _, _, _, _, rfl, hPb.later hb3⟩
  have hy3 := hyb.later hb3
  have hbw3 := hbwb.trans (hb3.mono hbwb.size)
  have q0 : w3.cell? ⟨(w.heap.size + 1), 0, none⟩ = some (.int .i64 0) := hy3.cell 0 rfl
  have fq0 := hy3.thaw 0
  have q1 : w3.cell? ⟨(w.heap.size + 1), 1, none⟩ = some (.int .i64 0) := hy3.cell 1 rfl
  have fq1 := hy3.thaw 1
  have q2 : w3.cell? ⟨(w.heap.size + 1), 2, none⟩ = some (.int .i64 0) := hy3.cell 2 rfl
  have fq2 := hy3.thaw 2
  have q3 : w3.cell? ⟨(w.heap.size + 1), 3, none⟩ = some (.int .i64 0) := hy3.cell 3 rfl
  have fq3 := hy3.thaw 3
  have q4 : w3.cell? ⟨(w.heap.size + 1), 4, none⟩ = some (.bool false) := hy3.cell 4 rfl
  have fq4 := hy3.thaw 4
  have q5 : w3.cell? ⟨(w.heap.size + 1), 5, none⟩ = some (.int .i64 0) := hy3.cell 5 rfl
  have fq5 := hy3.thaw 5
  have q6 : w3.cell? ⟨(w.heap.size + 1), 6, none⟩ = some (.int .i64 0) := hy3.cell 6 rfl
  have fq6 := hy3.thaw 6
  have q7 : w3.cell? ⟨(w.heap.size + 1), 7, none⟩ = some (.int .u64 0) := hy3.cell 7 rfl
  have fq7 := hy3.thaw 7
  have q8 : w3.cell? ⟨(w.heap.size + 1), 8, none⟩ = some (.string ⟨#[]⟩) := hy3.cell 8 rfl
  have fq8 := hy3.thaw 8
  have q9 : w3.cell? ⟨(w.heap.size + 1), 9, none⟩ = some (.slice none 0 0) := hy3.cell 9 rfl
  have fq9 := hy3.thaw 9
  dsimp only
  go_wp2_with fail
  exact bodyPost_ret (results_cell_row rfl _ _ (w.heap.size + 1) 33 _ (0, 0) _ rfl (hy3.set10 _ _ _ _ _ _ _ _ _ _) Tryz.underlying33 rfl (by kernel_rfl)) rfl ⟨_, rfl, hG.set10x (fun b hq => ⟨by omega, by omega⟩), set10_below hbw3 (by omega)⟩

set_option maxRecDepth 100000 in
set_option maxHeartbeats 3200000 in
theorem rmap_2_no {w0 : World} {j : Nat} {m b : Int} {t : ByteArray} {a : Option Addr} {cap : Nat} {kids : List D} (hv : Rep w0 (.agg #[.int .i64 j, .int .i64 m, .int .u64 b, .string t, .slice a kids.length cap]) (.mk j m b t kids)) (hd : FitsIn 0 1 (.mk j m b t kids)) (tp : ByteArray) (hf : ¬ FitsIn 0 1 (.mk 8 0 0 ⟨#[]⟩ [.mk j m b t kids])) (w : World) (hb0 : Below w0.heap.size w0 w) :
    Calls Tryz.prog 10 #[.int .i64 2, .string tp, (.agg #[.int .i64 j, .int .i64 m, .int .u64 b, .string t, .slice a kids.length cap])] w fun x w' => x = .returned (errV 14 (0) (0)) ∧ Below w.heap.size w w' := by
  have HC := Lib.hid (fun W hW => copy_any hv (hd.slim (by omega)) W hW)
  have HB := Lib.hid hb0
  have HF := Lib.hid hf
  clear hv hd hb0 hf
  obtain ⟨W1, hW1, hb1, hz, hx1, hx2⟩ := res_worlds w (.int .i64 j) (.int .i64 m) (.int .u64 b) (.string t) (.slice a kids.length cap)
  have hzo := hz.out
  have hr1 := hx1.row
  have p0 : W1.cell? ⟨w.heap.size, 0, none⟩ = some (.int .i64 j) := hr1.cell 0 rfl
  have p1 : W1.cell? ⟨w.heap.size, 1, none⟩ = some (.int .i64 m) := hr1.cell 1 rfl
  have p2 : W1.cell? ⟨w.heap.size, 2, none⟩ = some (.int .u64 b) := hr1.cell 2 rfl
  have p3 : W1.cell? ⟨w.heap.size, 3, none⟩ = some (.string t) := hr1.cell 3 rfl
  have p4 : W1.cell? ⟨w.heap.size, 4, none⟩ = some (.slice a kids.length cap) := hr1.cell 4 rfl
  go_enter Tryz.func10, Tryz.ntmps10
  go_upto_region 1 with fail
  rw [← hW1]
  clear hW1
  go_wp2_with fail
  refine (HC.out _ (HB.out.trans (hb1.mono HB.out.size))).mono ?_
  rintro x w2 ⟨v2, rfl, hq2, hb2⟩
  obtain ⟨k5, m5, b5, t5, a5, n5, cap5, rfl⟩ := hq2.form
  have hy2 := hx2.later hb2
  have hbw2 := hb1.trans (hb2.mono hb1.size)
  have hz12 := hb2.size
  obtain ⟨Wb, hWb⟩ : ∃ Wb, Wb = w2.alloc (.cells #[.int .i64 k5, .int .i64 m5, .int .u64 b5, .string t5, .slice a5 n5 cap5] 25) := ⟨_, rfl⟩
  have hbb : Below w2.heap.size w2 Wb := by rw [hWb]; exact (Below.refl _ _).alloc (Nat.le_refl _) _
  have hzb : Row Wb w2.heap.size #[.int .i64 k5, .int .i64 m5, .int .u64 b5, .string t5, .slice a5 n5 cap5] 25 := by rw [hWb]; exact Row.new _ _ _
  have hPb := rep_listed ((RepP.of_repQ hq2).later hbb) (show W1.heap.size ≤ w2.heap.size from hz12) hzb
  have hyb := hy2.later hbb
  have hbwb := hbw2.trans (hbb.mono hbw2.size)
  clear hq2
  clear p0 p1 p2 p3 p4
  dsimp only
  go_wp2_with fail
  rw [← hWb]
  clear hWb
  refine (rmade_no hPb.rep HF.out _ (Below.refl _ _)).mono ?_
  rintro x w3 ⟨rfl, hb3⟩
  unfold errV
  have hy3 := hyb.later hb3
  have hbw3 := hbwb.trans (hb3.mono hbwb.size)
  have q0 : w3.cell? ⟨(w.heap.size + 1), 0, none⟩ = some (.int .i64 0) := hy3.cell 0 rfl
  have fq0 := hy3.thaw 0
  have q1 : w3.cell? ⟨(w.heap.size + 1), 1, none⟩ = some (.int .i64 0) := hy3.cell 1 rfl
  have fq1 := hy3.thaw 1
  have q2 : w3.cell? ⟨(w.heap.size + 1), 2, none⟩ = some (.int .i64 0) := hy3.cell 2 rfl
  have fq2 := hy3.thaw 2
  have q3 : w3.cell? ⟨(w.heap.size + 1), 3, none⟩ = some (.int .i64 0) := hy3.cell 3 rfl
  have fq3 := hy3.thaw 3
  have q4 : w3.cell? ⟨(w.heap.size + 1), 4, none⟩ = some (.bool false) := hy3.cell 4 rfl
  have fq4 := hy3.thaw 4
  have q5 : w3.cell? ⟨(w.heap.size + 1), 5, none⟩ = some (.int .i64 0) := hy3.cell 5 rfl
  have fq5 := hy3.thaw 5
  have q6 : w3.cell? ⟨(w.heap.size + 1), 6, none⟩ = some (.int .i64 0) := hy3.cell 6 rfl
  have fq6 := hy3.thaw 6
  have q7 : w3.cell? ⟨(w.heap.size + 1), 7, none⟩ = some (.int .u64 0) := hy3.cell 7 rfl
  have fq7 := hy3.thaw 7
  have q8 : w3.cell? ⟨(w.heap.size + 1), 8, none⟩ = some (.string ⟨#[]⟩) := hy3.cell 8 rfl
  have fq8 := hy3.thaw 8
  have q9 : w3.cell? ⟨(w.heap.size + 1), 9, none⟩ = some (.slice none 0 0) := hy3.cell 9 rfl
  have fq9 := hy3.thaw 9
  dsimp only
  go_wp2_with fail
  exact bodyPost_ret (results_cell_row rfl _ _ (w.heap.size + 1) 33 _ (0, 0) _ rfl (hy3.set10 _ _ _ _ _ _ _ _ _ _) Tryz.underlying33 rfl (by kernel_rfl)) rfl ⟨rfl, set10_below hbw3 (by omega)⟩

set_option maxRecDepth 100000 in
set_option maxHeartbeats 3200000 in
theorem rmap_7_yes {w0 : World} {j : Nat} {m b : Int} {t : ByteArray} {a : Option Addr} {cap : Nat} {kids : List D} (hv : Rep w0 (.agg #[.int .i64 j, .int .i64 m, .int .u64 b, .string t, .slice a kids.length cap]) (.mk j m b t kids)) (hd : FitsIn 0 1 (.mk j m b t kids)) (tp : ByteArray) (htp : tp.size ≤ maxLen) (hf : FitsIn 0 1 (.mk 9 0 0 ⟨#[]⟩ [txtD tp, .mk j m b t kids])) (w : World) (hb0 : Below w0.heap.size w0 w) :
    Calls Tryz.prog 10 #[.int .i64 7, .string tp, (.agg #[.int .i64 j, .int .i64 m, .int .u64 b, .string t, .slice a kids.length cap])] w fun x w' => ∃ v', x = .returned v' ∧ GaveP w' (fun b => w.heap.size ≤ b) v' (.mk 9 0 0 ⟨#[]⟩ [txtD tp, .mk j m b t kids]) ∧ Below w.heap.size w w' := by
  have HC := Lib.hid (fun W hW => copy_any hv (hd.slim (by omega)) W hW)
  have HB := Lib.hid hb0
  have HF := Lib.hid hf
  clear hv hd hb0 hf
  obtain ⟨W1, hW1, hb1, hz, hx1, hx2⟩ := res_worlds w (.int .i64 j) (.int .i64 m) (.int .u64 b) (.string t) (.slice a kids.length cap)
  have hzo := hz.out
  have hr1 := hx1.row
  have p0 : W1.cell? ⟨w.heap.size, 0, none⟩ = some (.int .i64 j) := hr1.cell 0 rfl
  have p1 : W1.cell? ⟨w.heap.size, 1, none⟩ = some (.int .i64 m) := hr1.cell 1 rfl
  have p2 : W1.cell? ⟨w.heap.size, 2, none⟩ = some (.int .u64 b) := hr1.cell 2 rfl
  have p3 : W1.cell? ⟨w.heap.size, 3, none⟩ = some (.string t) := hr1.cell 3 rfl
  have p4 : W1.cell? ⟨w.heap.size, 4, none⟩ = some (.slice a kids.length cap) := hr1.cell 4 rfl
  go_enter Tryz.func10, Tryz.ntmps10
  go_upto_region 1 with fail
  rw [← hW1]
  clear hW1
  go_wp2_with fail
  refine (HC.out _ (HB.out.trans (hb1.mono HB.out.size))).mono ?_
  rintro x w2 ⟨v2, rfl, hq2, hb2⟩
  obtain ⟨k5, m5, b5, t5, a5, n5, cap5, rfl⟩ := hq2.form
  have hy2 := hx2.later hb2
  have hbw2 := hb1.trans (hb2.mono hb1.size)
  have hz12 := hb2.size
  obtain ⟨Wb, hWb⟩ : ∃ Wb, Wb = w2.alloc (.cells #[.int .i64 4, .int .i64 0, .int .u64 0, .string tp, .slice none 0 0, .int .i64 k5, .int .i64 m5, .int .u64 b5, .string t5, .slice a5 n5 cap5] 25) := ⟨_, rfl⟩
  have hbb : Below w2.heap.size w2 Wb := by rw [hWb]; exact (Below.refl _ _).alloc (Nat.le_refl _) _
  have hzb : Row Wb w2.heap.size #[.int .i64 4, .int .i64 0, .int .u64 0, .string tp, .slice none 0 0, .int .i64 k5, .int .i64 m5, .int .u64 b5, .string t5, .slice a5 n5 cap5] 25 := by rw [hWb]; exact Row.new _ _ _
  have hPb := rep_paired htp ((RepP.of_repQ hq2).later hbb) (show W1.heap.size ≤ w2.heap.size from hz12) hzb
  have hyb := hy2.later hbb
  have hbwb := hbw2.trans (hbb.mono hbw2.size)
  clear hq2
  clear p0 p1 p2 p3 p4
  dsimp only
  go_wp2_with fail
  rw [← hWb]
  clear hWb
  refine (rmade_yes hPb.rep HF.out _ (Below.refl _ _)).mono ?_
  rintro x w3 ⟨rfl, hb3⟩
  have hG : GaveP w3 (fun b => W1.heap.size ≤ b) (.agg #[.int .i64 0, .int .i64 0, .int .i64 0, .int .i64 0, .bool true, .int .i64 9, .int .i64 0, .int .u64 0, .string ⟨#[]⟩, .slice (some ⟨w2.heap.size, 0, none⟩) 2 2]) (.mk 9 0 0 ⟨#[]⟩ [txtD tp, .mk j m b t kids]) := ⟨_, _, _, _, _, _, _, rfl, hPb.later hb3⟩
  have hy3 := hyb.later hb3
  have hbw3 := hbwb.trans (hb3.mono hbwb.size)
  have q0 : w3.cell? ⟨(w.heap.size + 1), 0, none⟩ = some (.int .i64 0) := hy3.cell 0 rfl
  have fq0 := hy3.thaw 0
  have q1 : w3.cell? ⟨(w.heap.size + 1), 1, none⟩ = some (.int .i64 0) := hy3.cell 1 rfl
  have fq1 := hy3.thaw 1
  have q2 : w3.cell? ⟨(w.heap.size + 1), 2, none⟩ = some (.int .i64 0) := hy3.cell 2 rfl
  have fq2 := hy3.thaw 2
  have q3 : w3.cell? ⟨(w.heap.size + 1), 3, none⟩ = some (.int .i64 0) := hy3.cell 3 rfl
  have fq3 := hy3.thaw 3
  have q4 : w3.cell? ⟨(w.heap.size + 1), 4, none⟩ = some (.bool false) := hy3.cell 4 rfl
  have fq4 := hy3.thaw 4
  have q5 : w3.cell? ⟨(w.heap.size + 1), 5, none⟩ = some (.int .i64 0) := hy3.cell 5 rfl
  have fq5 := hy3.thaw 5
  have q6 : w3.cell? ⟨(w.heap.size + 1), 6, none⟩ = some (.int .i64 0) := hy3.cell 6 rfl
  have fq6 := hy3.thaw 6
  have q7 : w3.cell? ⟨(w.heap.size + 1), 7, none⟩ = some (.int .u64 0) := hy3.cell 7 rfl
  have fq7 := hy3.thaw 7
  have q8 : w3.cell? ⟨(w.heap.size + 1), 8, none⟩ = some (.string ⟨#[]⟩) := hy3.cell 8 rfl
  have fq8 := hy3.thaw 8
  have q9 : w3.cell? ⟨(w.heap.size + 1), 9, none⟩ = some (.slice none 0 0) := hy3.cell 9 rfl
  have fq9 := hy3.thaw 9
  dsimp only
  go_wp2_with fail
  exact bodyPost_ret (results_cell_row rfl _ _ (w.heap.size + 1) 33 _ (0, 0) _ rfl (hy3.set10 _ _ _ _ _ _ _ _ _ _) Tryz.underlying33 rfl (by kernel_rfl)) rfl ⟨_, rfl, hG.set10x (fun b hq => ⟨by omega, by omega⟩), set10_below hbw3 (by omega)⟩

set_option maxRecDepth 100000 in
set_option maxHeartbeats 3200000 in
theorem rmap_7_no {w0 : World} {j : Nat} {m b : Int} {t : ByteArray} {a : Option Addr} {cap : Nat} {kids : List D} (hv : Rep w0 (.agg #[.int .i64 j, .int .i64 m, .int .u64 b, .string t, .slice a kids.length cap]) (.mk j m b t kids)) (hd : FitsIn 0 1 (.mk j m b t kids)) (tp : ByteArray) (htp : tp.size ≤ maxLen) (hf : ¬ FitsIn 0 1 (.mk 9 0 0 ⟨#[]⟩ [txtD tp, .mk j m b t kids])) (w : World) (hb0 : Below w0.heap.size w0 w) :
    Calls Tryz.prog 10 #[.int .i64 7, .string tp, (.agg #[.int .i64 j, .int .i64 m, .int .u64 b, .string t, .slice a kids.length cap])] w fun x w' => x = .returned (errV 14 (0) (0)) ∧ Below w.heap.size w w' := by
  have HC := Lib.hid (fun W hW => copy_any hv (hd.slim (by omega)) W hW)
  have HB := Lib.hid hb0
  have HF := Lib.hid hf
  clear hv hd hb0 hf
  obtain ⟨W1, hW1, hb1, hz, hx1, hx2⟩ := res_worlds w (.int .i64 j) (.int .i64 m) (.int .u64 b) (.string t) (.slice a kids.length cap)
  have hzo := hz.out
  have hr1 := hx1.row
  have p0 : W1.cell? ⟨w.heap.size, 0, none⟩ = some (.int .i64 j) := hr1.cell 0 rfl
  have p1 : W1.cell? ⟨w.heap.size, 1, none⟩ = some (.int .i64 m) := hr1.cell 1 rfl
  have p2 : W1.cell? ⟨w.heap.size, 2, none⟩ = some (.int .u64 b) := hr1.cell 2 rfl
  have p3 : W1.cell? ⟨w.heap.size, 3, none⟩ = some (.string t) := hr1.cell 3 rfl
  have p4 : W1.cell? ⟨w.heap.size, 4, none⟩ = some (.slice a kids.length cap) := hr1.cell 4 rfl
  go_enter Tryz.func10, Tryz.ntmps10
  go_upto_region 1 with fail
  rw [← hW1]
  clear hW1
  go_wp2_with fail
  refine (HC.out _ (HB.out.trans (hb1.mono HB.out.size))).mono ?_
  rintro x w2 ⟨v2, rfl, hq2, hb2⟩
  obtain ⟨k5, m5, b5, t5, a5, n5, cap5, rfl⟩ := hq2.form
  have hy2 := hx2.later hb2
  have hbw2 := hb1.trans (hb2.mono hb1.size)
  have hz12 := hb2.size
  obtain ⟨Wb, hWb⟩ : ∃ Wb, Wb = w2.alloc (.cells #[.int .i64 4, .int .i64 0, .int .u64 0, .string tp, .slice none 0 0, .int .i64 k5, .int .i64 m5, .int .u64 b5, .string t5, .slice a5 n5 cap5] 25) := ⟨_, rfl⟩
  have hbb : Below w2.heap.size w2 Wb := by rw [hWb]; exact (Below.refl _ _).alloc (Nat.le_refl _) _
  have hzb : Row Wb w2.heap.size #[.int .i64 4, .int .i64 0, .int .u64 0, .string tp, .slice none 0 0, .int .i64 k5, .int .i64 m5, .int .u64 b5, .string t5, .slice a5 n5 cap5] 25 := by rw [hWb]; exact Row.new _ _ _
  have hPb := rep_paired htp ((RepP.of_repQ hq2).later hbb) (show W1.heap.size ≤ w2.heap.size from hz12) hzb
  have hyb := hy2.later hbb
  have hbwb := hbw2.trans (hbb.mono hbw2.size)
  clear hq2
  clear p0 p1 p2 p3 p4
  dsimp only
  go_wp2_with fail
  rw [← hWb]
  clear hWb
  refine (rmade_no hPb.rep HF.out _ (Below.refl _ _)).mono ?_
  rintro x w3 ⟨rfl, hb3⟩
  unfold errV
  have hy3 := hyb.later hb3
  have hbw3 := hbwb.trans (hb3.mono hbwb.size)
  have q0 : w3.cell? ⟨(w.heap.size + 1), 0, none⟩ = some (.int .i64 0) := hy3.cell 0 rfl
  have fq0 := hy3.thaw 0
  have q1 : w3.cell? ⟨(w.heap.size + 1), 1, none⟩ = some (.int .i64 0) := hy3.cell 1 rfl
  have fq1 := hy3.thaw 1
  have q2 : w3.cell? ⟨(w.heap.size + 1), 2, none⟩ = some (.int .i64 0) := hy3.cell 2 rfl
  have fq2 := hy3.thaw 2
  have q3 : w3.cell? ⟨(w.heap.size + 1), 3, none⟩ = some (.int .i64 0) := hy3.cell 3 rfl
  have fq3 := hy3.thaw 3
  have q4 : w3.cell? ⟨(w.heap.size + 1), 4, none⟩ = some (.bool false) := hy3.cell 4 rfl
  have fq4 := hy3.thaw 4
  have q5 : w3.cell? ⟨(w.heap.size + 1), 5, none⟩ = some (.int .i64 0) := hy3.cell 5 rfl
  have fq5 := hy3.thaw 5
  have q6 : w3.cell? ⟨(w.heap.size + 1), 6, none⟩ = some (.int .i64 0) := hy3.cell 6 rfl
  have fq6 := hy3.thaw 6
  have q7 : w3.cell? ⟨(w.heap.size + 1), 7, none⟩ = some (.int .u64 0) := hy3.cell 7 rfl
  have fq7 := hy3.thaw 7
  have q8 : w3.cell? ⟨(w.heap.size + 1), 8, none⟩ = some (.string ⟨#[]⟩) := hy3.cell 8 rfl
  have fq8 := hy3.thaw 8
  have q9 : w3.cell? ⟨(w.heap.size + 1), 9, none⟩ = some (.slice none 0 0) := hy3.cell 9 rfl
  have fq9 := hy3.thaw 9
  dsimp only
  go_wp2_with fail
  exact bodyPost_ret (results_cell_row rfl _ _ (w.heap.size + 1) 33 _ (0, 0) _ rfl (hy3.set10 _ _ _ _ _ _ _ _ _ _) Tryz.underlying33 rfl (by kernel_rfl)) rfl ⟨rfl, set10_below hbw3 (by omega)⟩

set_option maxRecDepth 100000 in
set_option maxHeartbeats 3200000 in
theorem rmap_3_no {w0 : World} {j : Nat} {m b : Int} {t : ByteArray} {a : Option Addr} {cap : Nat} {kids : List D} (_hv : Rep w0 (.agg #[.int .i64 j, .int .i64 m, .int .u64 b, .string t, .slice a kids.length cap]) (.mk j m b t kids)) (hd : FitsIn 0 1 (.mk j m b t kids)) (tp : ByteArray) (h : hasFi j 3 = false) (w : World) (hb0 : Below w0.heap.size w0 w) :
    Calls Tryz.prog 10 #[.int .i64 3, .string tp, (.agg #[.int .i64 j, .int .i64 m, .int .u64 b, .string t, .slice a kids.length cap])] w fun x w' => x = .returned (errV 110 (2) (faceMiss j 3)) ∧ Below w.heap.size w w' := by
  unfold errV
  have h13 : j ≤ 13 := by have := hd.top.2.1; omega
  have HO := Lib.hid (fun (W : World) (_ : Below w0.heap.size w0 W) => rgopen_no h13 (m := m) (b := b) (t := t) (a := a) (l := kids.length) (cap := cap) h W)
  have HB := Lib.hid hb0
  clear _hv hd hb0 h h13
  obtain ⟨W1, hW1, hb1, hz, hx1, hx2⟩ := res_worlds w (.int .i64 j) (.int .i64 m) (.int .u64 b) (.string t) (.slice a kids.length cap)
  have hzo := hz.out
  have hr1 := hx1.row
  have p0 : W1.cell? ⟨w.heap.size, 0, none⟩ = some (.int .i64 j) := hr1.cell 0 rfl
  have p1 : W1.cell? ⟨w.heap.size, 1, none⟩ = some (.int .i64 m) := hr1.cell 1 rfl
  have p2 : W1.cell? ⟨w.heap.size, 2, none⟩ = some (.int .u64 b) := hr1.cell 2 rfl
  have p3 : W1.cell? ⟨w.heap.size, 3, none⟩ = some (.string t) := hr1.cell 3 rfl
  have p4 : W1.cell? ⟨w.heap.size, 4, none⟩ = some (.slice a kids.length cap) := hr1.cell 4 rfl
  go_enter Tryz.func10, Tryz.ntmps10
  go_upto_region 1 with fail
  rw [← hW1]
  clear hW1
  go_wp2_with fail
  refine (HO.out _ (HB.out.trans (hb1.mono HB.out.size))).mono ?_
  rintro x w2 ⟨v2, rfl, hr2, hb2⟩
  obtain rfl : v2 = _ := hr2
  have hy2 := hx2.later hb2
  have hbw2 := hb1.trans (hb2.mono hb1.size)
  clear p0 p1 p2 p3 p4
  have q0 : w2.cell? ⟨(w.heap.size + 1), 0, none⟩ = some (.int .i64 0) := hy2.cell 0 rfl
  have fq0 := hy2.thaw 0
  have q1 : w2.cell? ⟨(w.heap.size + 1), 1, none⟩ = some (.int .i64 0) := hy2.cell 1 rfl
  have fq1 := hy2.thaw 1
  have q2 : w2.cell? ⟨(w.heap.size + 1), 2, none⟩ = some (.int .i64 0) := hy2.cell 2 rfl
  have fq2 := hy2.thaw 2
  have q3 : w2.cell? ⟨(w.heap.size + 1), 3, none⟩ = some (.int .i64 0) := hy2.cell 3 rfl
  have fq3 := hy2.thaw 3
  have q4 : w2.cell? ⟨(w.heap.size + 1), 4, none⟩ = some (.bool false) := hy2.cell 4 rfl
  have fq4 := hy2.thaw 4
  have q5 : w2.cell? ⟨(w.heap.size + 1), 5, none⟩ = some (.int .i64 0) := hy2.cell 5 rfl
  have fq5 := hy2.thaw 5
  have q6 : w2.cell? ⟨(w.heap.size + 1), 6, none⟩ = some (.int .i64 0) := hy2.cell 6 rfl
  have fq6 := hy2.thaw 6
  have q7 : w2.cell? ⟨(w.heap.size + 1), 7, none⟩ = some (.int .u64 0) := hy2.cell 7 rfl
  have fq7 := hy2.thaw 7
  have q8 : w2.cell? ⟨(w.heap.size + 1), 8, none⟩ = some (.string ⟨#[]⟩) := hy2.cell 8 rfl
  have fq8 := hy2.thaw 8
  have q9 : w2.cell? ⟨(w.heap.size + 1), 9, none⟩ = some (.slice none 0 0) := hy2.cell 9 rfl
  have fq9 := hy2.thaw 9
  dsimp only
  go_wp2_with fail
  exact bodyPost_ret (results_cell_row rfl _ _ (w.heap.size + 1) 33 _ (0, 0) _ rfl (hy2.set10 _ _ _ _ _ _ _ _ _ _) Tryz.underlying33 rfl (by kernel_rfl)) rfl ⟨rfl, set10_below hbw2 (by omega)⟩

set_option maxRecDepth 100000 in
set_option maxHeartbeats 3200000 in
theorem rmap_3_nil {w0 : World} {j : Nat} {m b : Int} {t : ByteArray} {a : Option Addr} {cap : Nat} {kids : List D} (hv : Rep w0 (.agg #[.int .i64 j, .int .i64 m, .int .u64 b, .string t, .slice a kids.length cap]) (.mk j m b t kids)) (hd : FitsIn 0 1 (.mk j m b t kids)) (tp : ByteArray) (h : hasFi j 3 = true) (h12 : j = 12) (w : World) (hb0 : Below w0.heap.size w0 w) :
    Calls Tryz.prog 10 #[.int .i64 3, .string tp, (.agg #[.int .i64 j, .int .i64 m, .int .u64 b, .string t, .slice a kids.length cap])] w fun x w' => x = .returned (errV 110 (3) (0)) ∧ Below w.heap.size w w' := by
  unfold errV
  have h13 : j ≤ 13 := by have := hd.top.2.1; omega
  have HO := Lib.hid (fun (W : World) (hW : Below w0.heap.size w0 W) => rgopen_nil h13 hv (hd.slim (by omega)) h h12 W hW)
  have HB := Lib.hid hb0
  clear hv hd hb0 h h13 h12
  obtain ⟨W1, hW1, hb1, hz, hx1, hx2⟩ := res_worlds w (.int .i64 j) (.int .i64 m) (.int .u64 b) (.string t) (.slice a kids.length cap)
  have hzo := hz.out
  have hr1 := hx1.row
  have p0 : W1.cell? ⟨w.heap.size, 0, none⟩ = some (.int .i64 j) := hr1.cell 0 rfl
  have p1 : W1.cell? ⟨w.heap.size, 1, none⟩ = some (.int .i64 m) := hr1.cell 1 rfl
  have p2 : W1.cell? ⟨w.heap.size, 2, none⟩ = some (.int .u64 b) := hr1.cell 2 rfl
  have p3 : W1.cell? ⟨w.heap.size, 3, none⟩ = some (.string t) := hr1.cell 3 rfl
  have p4 : W1.cell? ⟨w.heap.size, 4, none⟩ = some (.slice a kids.length cap) := hr1.cell 4 rfl
  go_enter Tryz.func10, Tryz.ntmps10
  go_upto_region 1 with fail
  rw [← hW1]
  clear hW1
  go_wp2_with fail
  refine (HO.out _ (HB.out.trans (hb1.mono HB.out.size))).mono ?_
  rintro x w2 ⟨v2, rfl, hr2, hb2⟩
  obtain rfl : v2 = _ := hr2
  have hy2 := hx2.later hb2
  have hbw2 := hb1.trans (hb2.mono hb1.size)
  clear p0 p1 p2 p3 p4
  have q0 : w2.cell? ⟨(w.heap.size + 1), 0, none⟩ = some (.int .i64 0) := hy2.cell 0 rfl
  have fq0 := hy2.thaw 0
  have q1 : w2.cell? ⟨(w.heap.size + 1), 1, none⟩ = some (.int .i64 0) := hy2.cell 1 rfl
  have fq1 := hy2.thaw 1
  have q2 : w2.cell? ⟨(w.heap.size + 1), 2, none⟩ = some (.int .i64 0) := hy2.cell 2 rfl
  have fq2 := hy2.thaw 2
  have q3 : w2.cell? ⟨(w.heap.size + 1), 3, none⟩ = some (.int .i64 0) := hy2.cell 3 rfl
  have fq3 := hy2.thaw 3
  have q4 : w2.cell? ⟨(w.heap.size + 1), 4, none⟩ = some (.bool false) := hy2.cell 4 rfl
  have fq4 := hy2.thaw 4
  have q5 : w2.cell? ⟨(w.heap.size + 1), 5, none⟩ = some (.int .i64 0) := hy2.cell 5 rfl
  have fq5 := hy2.thaw 5
  have q6 : w2.cell? ⟨(w.heap.size + 1), 6, none⟩ = some (.int .i64 0) := hy2.cell 6 rfl
  have fq6 := hy2.thaw 6
  have q7 : w2.cell? ⟨(w.heap.size + 1), 7, none⟩ = some (.int .u64 0) := hy2.cell 7 rfl
  have fq7 := hy2.thaw 7
  have q8 : w2.cell? ⟨(w.heap.size + 1), 8, none⟩ = some (.string ⟨#[]⟩) := hy2.cell 8 rfl
  have fq8 := hy2.thaw 8
  have q9 : w2.cell? ⟨(w.heap.size + 1), 9, none⟩ = some (.slice none 0 0) := hy2.cell 9 rfl
  have fq9 := hy2.thaw 9
  dsimp only
  go_wp2_with fail
  exact bodyPost_ret (results_cell_row rfl _ _ (w.heap.size + 1) 33 _ (0, 0) _ rfl (hy2.set10 _ _ _ _ _ _ _ _ _ _) Tryz.underlying33 rfl (by kernel_rfl)) rfl ⟨rfl, set10_below hbw2 (by omega)⟩

set_option maxRecDepth 100000 in
set_option maxHeartbeats 3200000 in
theorem rmap_3_box {w0 : World} {j : Nat} {m b : Int} {t : ByteArray} {a : Option Addr} {cap : Nat} {kids : List D} (hv : Rep w0 (.agg #[.int .i64 j, .int .i64 m, .int .u64 b, .string t, .slice a kids.length cap]) (.mk j m b t kids)) (hd : FitsIn 0 1 (.mk j m b t kids)) (tp : ByteArray) (h : hasFi j 3 = true) (h11 : j = 11) {y : D} (hi : kids[0]? = some y) (w : World) (hb0 : Below w0.heap.size w0 w) :
    Calls Tryz.prog 10 #[.int .i64 3, .string tp, (.agg #[.int .i64 j, .int .i64 m, .int .u64 b, .string t, .slice a kids.length cap])] w fun x w' => ∃ v', x = .returned v' ∧ GaveP w' (fun b => w.heap.size ≤ b) v' (y) ∧ Below w.heap.size w w' := by
  have h13 : j ≤ 13 := by have := hd.top.2.1; omega
  have HO := Lib.hid (fun (W : World) (hW : Below w0.heap.size w0 W) => rgopen_box h13 hv (hd.slim (by omega)) h (x := y) h11 hi W hW)
  have HB := Lib.hid hb0
  clear hv hd hb0 h h13 h11 hi
  obtain ⟨W1, hW1, hb1, hz, hx1, hx2⟩ := res_worlds w (.int .i64 j) (.int .i64 m) (.int .u64 b) (.string t) (.slice a kids.length cap)
  have hzo := hz.out
  have hr1 := hx1.row
  have p0 : W1.cell? ⟨w.heap.size, 0, none⟩ = some (.int .i64 j) := hr1.cell 0 rfl
  have p1 : W1.cell? ⟨w.heap.size, 1, none⟩ = some (.int .i64 m) := hr1.cell 1 rfl
  have p2 : W1.cell? ⟨w.heap.size, 2, none⟩ = some (.int .u64 b) := hr1.cell 2 rfl
  have p3 : W1.cell? ⟨w.heap.size, 3, none⟩ = some (.string t) := hr1.cell 3 rfl
  have p4 : W1.cell? ⟨w.heap.size, 4, none⟩ = some (.slice a kids.length cap) := hr1.cell 4 rfl
  go_enter Tryz.func10, Tryz.ntmps10
  go_upto_region 1 with fail
  rw [← hW1]
  clear hW1
  go_wp2_with fail
  refine (HO.out _ (HB.out.trans (hb1.mono HB.out.size))).mono ?_
  rintro x w2 ⟨v2, rfl, hr2, hb2⟩
  have hG := GaveP.of_resV hr2
  obtain ⟨k5, m5, b5, t5, a5, n5, cap5, rfl, -⟩ := hr2
  have hy2 := hx2.later hb2
  have hbw2 := hb1.trans (hb2.mono hb1.size)
  clear p0 p1 p2 p3 p4
  have q0 : w2.cell? ⟨(w.heap.size + 1), 0, none⟩ = some (.int .i64 0) := hy2.cell 0 rfl
  have fq0 := hy2.thaw 0
  have q1 : w2.cell? ⟨(w.heap.size + 1), 1, none⟩ = some (.int .i64 0) := hy2.cell 1 rfl
  have fq1 := hy2.thaw 1
  have q2 : w2.cell? ⟨(w.heap.size + 1), 2, none⟩ = some (.int .i64 0) := hy2.cell 2 rfl
  have fq2 := hy2.thaw 2
  have q3 : w2.cell? ⟨(w.heap.size + 1), 3, none⟩ = some (.int .i64 0) := hy2.cell 3 rfl
  have fq3 := hy2.thaw 3
  have q4 : w2.cell? ⟨(w.heap.size + 1), 4, none⟩ = some (.bool false) := hy2.cell 4 rfl
  have fq4 := hy2.thaw 4
  have q5 : w2.cell? ⟨(w.heap.size + 1), 5, none⟩ = some (.int .i64 0) := hy2.cell 5 rfl
  have fq5 := hy2.thaw 5
  have q6 : w2.cell? ⟨(w.heap.size + 1), 6, none⟩ = some (.int .i64 0) := hy2.cell 6 rfl
  have fq6 := hy2.thaw 6
  have q7 : w2.cell? ⟨(w.heap.size + 1), 7, none⟩ = some (.int .u64 0) := hy2.cell 7 rfl
  have fq7 := hy2.thaw 7
  have q8 : w2.cell? ⟨(w.heap.size + 1), 8, none⟩ = some (.string ⟨#[]⟩) := hy2.cell 8 rfl
  have fq8 := hy2.thaw 8
  have q9 : w2.cell? ⟨(w.heap.size + 1), 9, none⟩ = some (.slice none 0 0) := hy2.cell 9 rfl
  have fq9 := hy2.thaw 9
  dsimp only
  go_wp2_with fail
  exact bodyPost_ret (results_cell_row rfl _ _ (w.heap.size + 1) 33 _ (0, 0) _ rfl (hy2.set10 _ _ _ _ _ _ _ _ _ _) Tryz.underlying33 rfl (by kernel_rfl)) rfl ⟨_, rfl, hG.set10x (fun b hq => ⟨by omega, by omega⟩), set10_below hbw2 (by omega)⟩

end Go.Proofs.YtecdniimikfbhaaGreatDoor
