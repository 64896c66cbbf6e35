/- Shape: the reference's Map, a map each (3). -/
import Derived.Test.YtecdniimikfbhaaGreatDoorD1
namespace Go.Proofs.YtecdniimikfbhaaGreatDoor
open Go Go.RowKit Go.ChangeShapes Go.WideShapes

set_option maxRecDepth 100000 in
set_option maxHeartbeats 3200000 in
theorem rmap_4_yes {w0 : World} {j : Nat} {m b : Int} {t : ByteArray} {a : Option Addr} {cap : Nat} {kids : List D} (_hv : Rep w0 (.agg #[.int .i64 j, .int .i64 m, .int .u64 b, .string t, .slice a kids.length cap]) (.mk j m b t kids)) (hd : FitsIn 0 1 (.mk j m b t kids)) (tp : ByteArray) (n : Int) (hn : lenD (.mk j m b t kids) = some n) (w : World) (_hb0 : Below w0.heap.size w0 w) :
    Calls Tryz.prog 10 #[.int .i64 4, .string tp, (.agg #[.int .i64 j, .int .i64 m, .int .u64 b, .string t, .slice a kids.length cap])] w fun x w' => ∃ v', x = .returned v' ∧ GaveP w' (fun b => w.heap.size ≤ b) v' (numD n) ∧ Below w.heap.size w w' := by
  have h13 : j ≤ 13 := by have := hd.top.2.1; omega
  have hwf := lenD_wf hd hn
  have HL := Lib.hid (fun W => rlength_some h13 (m := m) (b := b) (t := t) (a := a) (cap := cap) (kids := kids) rfl n hn W)
  clear _hv hd _hb0 h13 hn
  obtain ⟨W1, hW1, hb1, hz, hx1, hx2⟩ := res_worlds w (.int .i64 j) (.int .i64 m) (.int .u64 b) (.string t) (.slice a kids.length cap)
  have hzo := hz.out
  have hr1 := hx1.row
  have p0 : W1.cell? ⟨w.heap.size, 0, none⟩ = some (.int .i64 j) := hr1.cell 0 rfl
  have p1 : W1.cell? ⟨w.heap.size, 1, none⟩ = some (.int .i64 m) := hr1.cell 1 rfl
  have p2 : W1.cell? ⟨w.heap.size, 2, none⟩ = some (.int .u64 b) := hr1.cell 2 rfl
  have p3 : W1.cell? ⟨w.heap.size, 3, none⟩ = some (.string t) := hr1.cell 3 rfl
  have p4 : W1.cell? ⟨w.heap.size, 4, none⟩ = some (.slice a kids.length cap) := hr1.cell 4 rfl
  go_enter Tryz.func10, Tryz.ntmps10
  go_upto_region 1 with fail
  rw [← hW1]
  clear hW1
  go_wp2_with fail
  refine (HL.out _).mono ?_
  rintro x w2 ⟨rfl, hb2⟩
  have hy2 := hx2.later hb2
  have hbw2 := hb1.trans (hb2.mono hb1.size)
  clear p0 p1 p2 p3 p4
  dsimp only
  go_wp2_with fail
  refine (rgave_v _ _ _ _ _ _ _ _).mono ?_
  rintro x w3 ⟨rfl, hb3⟩
  have hy3 := hy2.later hb3
  have hbw3 := hbw2.trans (hb3.mono hbw2.size)
  have q0 : w3.cell? ⟨(w.heap.size + 1), 0, none⟩ = some (.int .i64 0) := hy3.cell 0 rfl
  have fq0 := hy3.thaw 0
  have q1 : w3.cell? ⟨(w.heap.size + 1), 1, none⟩ = some (.int .i64 0) := hy3.cell 1 rfl
  have fq1 := hy3.thaw 1
  have q2 : w3.cell? ⟨(w.heap.size + 1), 2, none⟩ = some (.int .i64 0) := hy3.cell 2 rfl
  have fq2 := hy3.thaw 2
  have q3 : w3.cell? ⟨(w.heap.size + 1), 3, none⟩ = some (.int .i64 0) := hy3.cell 3 rfl
  have fq3 := hy3.thaw 3
  have q4 : w3.cell? ⟨(w.heap.size + 1), 4, none⟩ = some (.bool false) := hy3.cell 4 rfl
  have fq4 := hy3.thaw 4
  have q5 : w3.cell? ⟨(w.heap.size + 1), 5, none⟩ = some (.int .i64 0) := hy3.cell 5 rfl
  have fq5 := hy3.thaw 5
  have q6 : w3.cell? ⟨(w.heap.size + 1), 6, none⟩ = some (.int .i64 0) := hy3.cell 6 rfl
  have fq6 := hy3.thaw 6
  have q7 : w3.cell? ⟨(w.heap.size + 1), 7, none⟩ = some (.int .u64 0) := hy3.cell 7 rfl
  have fq7 := hy3.thaw 7
  have q8 : w3.cell? ⟨(w.heap.size + 1), 8, none⟩ = some (.string ⟨#[]⟩) := hy3.cell 8 rfl
  have fq8 := hy3.thaw 8
  have q9 : w3.cell? ⟨(w.heap.size + 1), 9, none⟩ = some (.slice none 0 0) := hy3.cell 9 rfl
  have fq9 := hy3.thaw 9
  dsimp only
  go_wp2_with fail
  exact bodyPost_ret (results_cell_row rfl _ _ (w.heap.size + 1) 33 _ (0, 0) _ rfl (hy3.set10 _ _ _ _ _ _ _ _ _ _) Tryz.underlying33 rfl (by kernel_rfl)) rfl ⟨_, rfl, gaveP_leaf ⟨by decide, hwf, by decide, by decide⟩, set10_below hbw3 (by omega)⟩

set_option maxRecDepth 100000 in
set_option maxHeartbeats 3200000 in
theorem rmap_4_no {w0 : World} {j : Nat} {m b : Int} {t : ByteArray} {a : Option Addr} {cap : Nat} {kids : List D} (_hv : Rep w0 (.agg #[.int .i64 j, .int .i64 m, .int .u64 b, .string t, .slice a kids.length cap]) (.mk j m b t kids)) (hd : FitsIn 0 1 (.mk j m b t kids)) (tp : ByteArray) (hn : lenD (.mk j m b t kids) = none) (w : World) (_hb0 : Below w0.heap.size w0 w) :
    Calls Tryz.prog 10 #[.int .i64 4, .string tp, (.agg #[.int .i64 j, .int .i64 m, .int .u64 b, .string t, .slice a kids.length cap])] w fun x w' => x = .returned (errV 12 (0) (0)) ∧ Below w.heap.size w w' := by
  unfold errV
  have h13 : j ≤ 13 := by have := hd.top.2.1; omega
  have HL := Lib.hid (fun W => rlength_none h13 (m := m) (b := b) (t := t) (a := a) (l := kids.length) (cap := cap) (kids := kids) hn W)
  clear _hv hd _hb0 h13 hn
  obtain ⟨W1, hW1, hb1, hz, hx1, hx2⟩ := res_worlds w (.int .i64 j) (.int .i64 m) (.int .u64 b) (.string t) (.slice a kids.length cap)
  have hzo := hz.out
  have hr1 := hx1.row
  have p0 : W1.cell? ⟨w.heap.size, 0, none⟩ = some (.int .i64 j) := hr1.cell 0 rfl
  have p1 : W1.cell? ⟨w.heap.size, 1, none⟩ = some (.int .i64 m) := hr1.cell 1 rfl
  have p2 : W1.cell? ⟨w.heap.size, 2, none⟩ = some (.int .u64 b) := hr1.cell 2 rfl
  have p3 : W1.cell? ⟨w.heap.size, 3, none⟩ = some (.string t) := hr1.cell 3 rfl
  have p4 : W1.cell? ⟨w.heap.size, 4, none⟩ = some (.slice a kids.length cap) := hr1.cell 4 rfl
  go_enter Tryz.func10, Tryz.ntmps10
  go_upto_region 1 with fail
  rw [← hW1]
  clear hW1
  go_wp2_with fail
  refine (HL.out _).mono ?_
  rintro x w2 ⟨rfl, hb2⟩
  have hy2 := hx2.later hb2
  have hbw2 := hb1.trans (hb2.mono hb1.size)
  clear p0 p1 p2 p3 p4
  have q0 : w2.cell? ⟨(w.heap.size + 1), 0, none⟩ = some (.int .i64 0) := hy2.cell 0 rfl
  have fq0 := hy2.thaw 0
  have q1 : w2.cell? ⟨(w.heap.size + 1), 1, none⟩ = some (.int .i64 0) := hy2.cell 1 rfl
  have fq1 := hy2.thaw 1
  have q2 : w2.cell? ⟨(w.heap.size + 1), 2, none⟩ = some (.int .i64 0) := hy2.cell 2 rfl
  have fq2 := hy2.thaw 2
  have q3 : w2.cell? ⟨(w.heap.size + 1), 3, none⟩ = some (.int .i64 0) := hy2.cell 3 rfl
  have fq3 := hy2.thaw 3
  have q4 : w2.cell? ⟨(w.heap.size + 1), 4, none⟩ = some (.bool false) := hy2.cell 4 rfl
  have fq4 := hy2.thaw 4
  have q5 : w2.cell? ⟨(w.heap.size + 1), 5, none⟩ = some (.int .i64 0) := hy2.cell 5 rfl
  have fq5 := hy2.thaw 5
  have q6 : w2.cell? ⟨(w.heap.size + 1), 6, none⟩ = some (.int .i64 0) := hy2.cell 6 rfl
  have fq6 := hy2.thaw 6
  have q7 : w2.cell? ⟨(w.heap.size + 1), 7, none⟩ = some (.int .u64 0) := hy2.cell 7 rfl
  have fq7 := hy2.thaw 7
  have q8 : w2.cell? ⟨(w.heap.size + 1), 8, none⟩ = some (.string ⟨#[]⟩) := hy2.cell 8 rfl
  have fq8 := hy2.thaw 8
  have q9 : w2.cell? ⟨(w.heap.size + 1), 9, none⟩ = some (.slice none 0 0) := hy2.cell 9 rfl
  have fq9 := hy2.thaw 9
  dsimp only
  go_wp2_with fail
  exact bodyPost_ret (results_cell_row rfl _ _ (w.heap.size + 1) 33 _ (0, 0) _ rfl (hy2.set10 _ _ _ _ _ _ _ _ _ _) Tryz.underlying33 rfl (by kernel_rfl)) rfl ⟨rfl, set10_below hbw2 (by omega)⟩

set_option maxRecDepth 100000 in
set_option maxHeartbeats 3200000 in
theorem rmap_5_yes (tp : ByteArray) {k m b : Int} {t : ByteArray} {a : Option Addr} {l cap : Nat} {P : ByteArray → Prop} (w : World) (HL : ∀ W, Below w.heap.size w W → Calls Tryz.prog 26 #[(.agg #[.int .i64 k, .int .i64 m, .int .u64 b, .string t, .slice a l cap])] W fun x w' => LabelPost P W x w') :
    Calls Tryz.prog 10 #[.int .i64 5, .string tp, (.agg #[.int .i64 k, .int .i64 m, .int .u64 b, .string t, .slice a l cap])] w fun x w' => ∃ s, x = .returned (.agg #[.int .i64 0, .int .i64 0, .int .i64 0, .int .i64 0, .bool true, .int .i64 4, .int .i64 0, .int .u64 0, .string s, .slice none 0 0]) ∧ P s ∧ Below w.heap.size w w' := by
  have HH := Lib.hid HL
  clear HL
  obtain ⟨W1, hW1, hb1, hz, hx1, hx2⟩ := res_worlds w (.int .i64 k) (.int .i64 m) (.int .u64 b) (.string t) (.slice a l cap)
  have hzo := hz.out
  have hr1 := hx1.row
  have p0 : W1.cell? ⟨w.heap.size, 0, none⟩ = some (.int .i64 k) := hr1.cell 0 rfl
  have p1 : W1.cell? ⟨w.heap.size, 1, none⟩ = some (.int .i64 m) := hr1.cell 1 rfl
  have p2 : W1.cell? ⟨w.heap.size, 2, none⟩ = some (.int .u64 b) := hr1.cell 2 rfl
  have p3 : W1.cell? ⟨w.heap.size, 3, none⟩ = some (.string t) := hr1.cell 3 rfl
  have p4 : W1.cell? ⟨w.heap.size, 4, none⟩ = some (.slice a l cap) := hr1.cell 4 rfl
  go_enter Tryz.func10, Tryz.ntmps10
  go_upto_region 1 with fail
  rw [← hW1]
  clear hW1
  go_wp2_with fail
  refine (HH.out _ hb1).mono ?_
  rintro x w2 ⟨s, rfl, hs, hb2⟩
  have hy2 := hx2.later hb2
  have hbw2 := hb1.trans (hb2.mono hb1.size)
  clear p0 p1 p2 p3 p4
  dsimp only
  go_wp2_with fail
  refine (rgave_v _ _ _ _ _ _ _ _).mono ?_
  rintro x w3 ⟨rfl, hb3⟩
  have hy3 := hy2.later hb3
  have hbw3 := hbw2.trans (hb3.mono hbw2.size)
  have q0 : w3.cell? ⟨(w.heap.size + 1), 0, none⟩ = some (.int .i64 0) := hy3.cell 0 rfl
  have fq0 := hy3.thaw 0
  have q1 : w3.cell? ⟨(w.heap.size + 1), 1, none⟩ = some (.int .i64 0) := hy3.cell 1 rfl
  have fq1 := hy3.thaw 1
  have q2 : w3.cell? ⟨(w.heap.size + 1), 2, none⟩ = some (.int .i64 0) := hy3.cell 2 rfl
  have fq2 := hy3.thaw 2
  have q3 : w3.cell? ⟨(w.heap.size + 1), 3, none⟩ = some (.int .i64 0) := hy3.cell 3 rfl
  have fq3 := hy3.thaw 3
  have q4 : w3.cell? ⟨(w.heap.size + 1), 4, none⟩ = some (.bool false) := hy3.cell 4 rfl
  have fq4 := hy3.thaw 4
  have q5 : w3.cell? ⟨(w.heap.size + 1), 5, none⟩ = some (.int .i64 0) := hy3.cell 5 rfl
  have fq5 := hy3.thaw 5
  have q6 : w3.cell? ⟨(w.heap.size + 1), 6, none⟩ = some (.int .i64 0) := hy3.cell 6 rfl
  have fq6 := hy3.thaw 6
  have q7 : w3.cell? ⟨(w.heap.size + 1), 7, none⟩ = some (.int .u64 0) := hy3.cell 7 rfl
  have fq7 := hy3.thaw 7
  have q8 : w3.cell? ⟨(w.heap.size + 1), 8, none⟩ = some (.string ⟨#[]⟩) := hy3.cell 8 rfl
  have fq8 := hy3.thaw 8
  have q9 : w3.cell? ⟨(w.heap.size + 1), 9, none⟩ = some (.slice none 0 0) := hy3.cell 9 rfl
  have fq9 := hy3.thaw 9
  dsimp only
  go_wp2_with fail
  exact bodyPost_ret (results_cell_row rfl _ _ (w.heap.size + 1) 33 _ (0, 0) _ rfl (hy3.set10 _ _ _ _ _ _ _ _ _ _) Tryz.underlying33 rfl (by kernel_rfl)) rfl ⟨s, rfl, hs, set10_below hbw3 (by omega)⟩

set_option maxRecDepth 100000 in
set_option maxHeartbeats 3200000 in
theorem rmap_5_no (tp : ByteArray) {k m b : Int} {t : ByteArray} {a : Option Addr} {l cap : Nat} (w : World) (HL : ∀ W, Below w.heap.size w W → Calls Tryz.prog 26 #[(.agg #[.int .i64 k, .int .i64 m, .int .u64 b, .string t, .slice a l cap])] W fun x w' => x = .returned (.tuple #[.string ⟨#[]⟩, .int .i64 12]) ∧ Below W.heap.size W w') :
    Calls Tryz.prog 10 #[.int .i64 5, .string tp, (.agg #[.int .i64 k, .int .i64 m, .int .u64 b, .string t, .slice a l cap])] w fun x w' => x = .returned (errV 12 0 0) ∧ Below w.heap.size w w' := by
  unfold errV
  have HH := Lib.hid HL
  clear HL
  obtain ⟨W1, hW1, hb1, hz, hx1, hx2⟩ := res_worlds w (.int .i64 k) (.int .i64 m) (.int .u64 b) (.string t) (.slice a l cap)
  have hzo := hz.out
  have hr1 := hx1.row
  have p0 : W1.cell? ⟨w.heap.size, 0, none⟩ = some (.int .i64 k) := hr1.cell 0 rfl
  have p1 : W1.cell? ⟨w.heap.size, 1, none⟩ = some (.int .i64 m) := hr1.cell 1 rfl
  have p2 : W1.cell? ⟨w.heap.size, 2, none⟩ = some (.int .u64 b) := hr1.cell 2 rfl
  have p3 : W1.cell? ⟨w.heap.size, 3, none⟩ = some (.string t) := hr1.cell 3 rfl
  have p4 : W1.cell? ⟨w.heap.size, 4, none⟩ = some (.slice a l cap) := hr1.cell 4 rfl
  go_enter Tryz.func10, Tryz.ntmps10
  go_upto_region 1 with fail
  rw [← hW1]
  clear hW1
  go_wp2_with fail
  refine (HH.out _ hb1).mono ?_
  rintro x w2 ⟨rfl, hb2⟩
  have hy2 := hx2.later hb2
  have hbw2 := hb1.trans (hb2.mono hb1.size)
  clear p0 p1 p2 p3 p4
  have q0 : w2.cell? ⟨(w.heap.size + 1), 0, none⟩ = some (.int .i64 0) := hy2.cell 0 rfl
  have fq0 := hy2.thaw 0
  have q1 : w2.cell? ⟨(w.heap.size + 1), 1, none⟩ = some (.int .i64 0) := hy2.cell 1 rfl
  have fq1 := hy2.thaw 1
  have q2 : w2.cell? ⟨(w.heap.size + 1), 2, none⟩ = some (.int .i64 0) := hy2.cell 2 rfl
  have fq2 := hy2.thaw 2
  have q3 : w2.cell? ⟨(w.heap.size + 1), 3, none⟩ = some (.int .i64 0) := hy2.cell 3 rfl
  have fq3 := hy2.thaw 3
  have q4 : w2.cell? ⟨(w.heap.size + 1), 4, none⟩ = some (.bool false) := hy2.cell 4 rfl
  have fq4 := hy2.thaw 4
  have q5 : w2.cell? ⟨(w.heap.size + 1), 5, none⟩ = some (.int .i64 0) := hy2.cell 5 rfl
  have fq5 := hy2.thaw 5
  have q6 : w2.cell? ⟨(w.heap.size + 1), 6, none⟩ = some (.int .i64 0) := hy2.cell 6 rfl
  have fq6 := hy2.thaw 6
  have q7 : w2.cell? ⟨(w.heap.size + 1), 7, none⟩ = some (.int .u64 0) := hy2.cell 7 rfl
  have fq7 := hy2.thaw 7
  have q8 : w2.cell? ⟨(w.heap.size + 1), 8, none⟩ = some (.string ⟨#[]⟩) := hy2.cell 8 rfl
  have fq8 := hy2.thaw 8
  have q9 : w2.cell? ⟨(w.heap.size + 1), 9, none⟩ = some (.slice none 0 0) := hy2.cell 9 rfl
  have fq9 := hy2.thaw 9
  dsimp only
  go_wp2_with fail
  exact bodyPost_ret (results_cell_row rfl _ _ (w.heap.size + 1) 33 _ (0, 0) _ rfl (hy2.set10 _ _ _ _ _ _ _ _ _ _) Tryz.underlying33 rfl (by kernel_rfl)) rfl ⟨rfl, set10_below hbw2 (by omega)⟩

set_option maxRecDepth 100000 in
set_option maxHeartbeats 3200000 in
theorem rmap_6_yes {w0 : World} {m b : Int} {t : ByteArray} {a : Option Addr} {cap : Nat} {kids : List D} (hv : Rep w0 (.agg #[.int .i64 6, .int .i64 m, .int .u64 b, .string t, .slice a kids.length cap]) (.mk 6 m b t kids)) (hd : FitsIn 0 1 (.mk 6 m b t kids)) (tp : ByteArray) (w : World) (hb0 : Below w0.heap.size w0 w) :
    Calls Tryz.prog 10 #[.int .i64 6, .string tp, (.agg #[.int .i64 6, .int .i64 m, .int .u64 b, .string t, .slice a kids.length cap])] w fun x w' => ∃ v', x = .returned v' ∧ GaveP w' (fun b => w.heap.size ≤ b) v' (.mk 6 (1 - m) 0 ⟨#[]⟩ []) ∧ Below w.heap.size w w' := by
  obtain ⟨g1, g2, g3, g4, g5, g6, g7, g8, g9, g10, g11⟩ := hd.top
  obtain rfl : b = 0 := by omega
  obtain rfl : t = ⟨#[]⟩ := by
    have h := g9.resolve_left (by omega)
    exact bytes_inj (by rw [← ByteArray.toList_eq, h])
  obtain rfl : kids = [] := List.length_eq_zero_iff.1 (by omega)
  have hm : m = 0 ∨ m = 1 := g10 rfl
  have HK := Lib.hid (fun W hW => rkind_yes (k := 6) (by omega) hv (hd.slim (by omega)) 6 (by decide) (by omega) W hW)
  have HB := Lib.hid hb0
  clear hv hd hb0 g1 g2 g3 g4 g5 g6 g7 g8 g9 g10 g11
  obtain ⟨W1, hW1, hb1, hz, hx1, hx2⟩ := res_worlds w (.int .i64 6) (.int .i64 m) (.int .u64 0) (.string ⟨#[]⟩) (.slice a 0 cap)
  have hzo := hz.out
  have hr1 := hx1.row
  have p0 : W1.cell? ⟨w.heap.size, 0, none⟩ = some (.int .i64 6) := hr1.cell 0 rfl
  have p1 : W1.cell? ⟨w.heap.size, 1, none⟩ = some (.int .i64 m) := hr1.cell 1 rfl
  have p2 : W1.cell? ⟨w.heap.size, 2, none⟩ = some (.int .u64 0) := hr1.cell 2 rfl
  have p3 : W1.cell? ⟨w.heap.size, 3, none⟩ = some (.string ⟨#[]⟩) := hr1.cell 3 rfl
  have p4 : W1.cell? ⟨w.heap.size, 4, none⟩ = some (.slice a 0 cap) := hr1.cell 4 rfl
  go_enter Tryz.func10, Tryz.ntmps10
  go_upto_region 1 with fail
  rw [← hW1]
  clear hW1
  go_wp2_with fail
  refine (HK.out _ (HB.out.trans (hb1.mono HB.out.size))).mono ?_
  rintro x w2 ⟨v', rfl, hv', hb2⟩
  obtain ⟨k5, m5, b5, t5, a5, n5, cap5, rfl, hq⟩ := hv'
  obtain ⟨kids5, e5, hl5⟩ := hq.rep.shape'
  simp only [D.mk.injEq] at e5
  obtain ⟨rfl, rfl, rfl, rfl, rfl⟩ := e5
  obtain rfl : n5 = 0 := hl5.symm
  have hy2 := hx2.later hb2
  have hbw2 := hb1.trans (hb2.mono hb1.size)
  clear hq
  obtain ⟨W3, hW3⟩ : ∃ W', W' = w2.alloc (.cells #[.int .i64 0, .int .i64 0, .int .i64 0, .int .i64 0, .bool true, .int .i64 6, .int .i64 m, .int .u64 0, .string ⟨#[]⟩, .slice a5 0 cap5] 33) := ⟨_, rfl⟩
  have hb3 : Below w2.heap.size w2 W3 := by rw [hW3]; exact (Below.refl _ _).alloc (Nat.le_refl _) _
  have hz3 : Row W3 w2.heap.size #[.int .i64 0, .int .i64 0, .int .i64 0, .int .i64 0, .bool true, .int .i64 6, .int .i64 m, .int .u64 0, .string ⟨#[]⟩, .slice a5 0 cap5] 33 := by rw [hW3]; exact Row.new _ _ _
  have hy3 := hy2.later hb3
  have hbw3 := hbw2.trans (hb3.mono hbw2.size)
  have hlt2 := hy2.lt
  clear p0 p1 p2 p3 p4
  have z0 : W3.cell? ⟨w2.heap.size, 0, none⟩ = some (.int .i64 0) := hz3.cell 0 rfl
  have z6 : W3.cell? ⟨w2.heap.size, 6, none⟩ = some (.int .i64 m) := hz3.cell 6 rfl
  have fz6 := hz3.thaw 6
  obtain ⟨W4, hW4⟩ : ∃ W4, W4 = W3.setCell ⟨w2.heap.size, 6, none⟩ (.int .i64 (1 - m)) := ⟨_, rfl⟩
  have hz4 : Row W4 w2.heap.size #[.int .i64 0, .int .i64 0, .int .i64 0, .int .i64 0, .bool true, .int .i64 6, .int .i64 (1 - m), .int .u64 0, .string ⟨#[]⟩, .slice a5 0 cap5] 33 := by
    rw [hW4]
    have h := hz3.set 6 (.int .i64 (1 - m))
    simpa using h
  have hy4 : Row W4 (w.heap.size + 1) #[.int .i64 0, .int .i64 0, .int .i64 0, .int .i64 0, .bool false, .int .i64 0, .int .i64 0, .int .u64 0, .string ⟨#[]⟩, .slice none 0 0] 33 := by rw [hW4]; exact hy3.other 6 _ (by omega)
  have hbw4 : Below w.heap.size w W4 := by rw [hW4]; exact hbw3.setCell (p := ⟨w2.heap.size, 6, none⟩) (by have := hbw2.size; simp; omega) _
  dsimp only
  go_upto_region 22 with fail
  rw [← hW3]
  clear hW3
  rcases hm with rfl | rfl
  all_goals
    go_upto_region 24 with fail
    first | rw [← hW4] | (simp only [Int.sub_zero, Int.sub_self] at hW4; rw [← hW4])
    clear hW4
    have r0 : W4.cell? ⟨w2.heap.size, 0, none⟩ = some (.int .i64 0) := hz4.cell 0 rfl
    have r1 : W4.cell? ⟨w2.heap.size, 1, none⟩ = some (.int .i64 0) := hz4.cell 1 rfl
    have r2 : W4.cell? ⟨w2.heap.size, 2, none⟩ = some (.int .i64 0) := hz4.cell 2 rfl
    have r3 : W4.cell? ⟨w2.heap.size, 3, none⟩ = some (.int .i64 0) := hz4.cell 3 rfl
    have r4 : W4.cell? ⟨w2.heap.size, 4, none⟩ = some (.bool true) := hz4.cell 4 rfl
    have r5 : W4.cell? ⟨w2.heap.size, 5, none⟩ = some (.int .i64 6) := hz4.cell 5 rfl
    have y0 : W4.cell? ⟨(w.heap.size + 1), 0, none⟩ = some (.int .i64 0) := hy4.cell 0 rfl
    have fy0 := hy4.thaw 0
    have y1 : W4.cell? ⟨(w.heap.size + 1), 1, none⟩ = some (.int .i64 0) := hy4.cell 1 rfl
    have fy1 := hy4.thaw 1
    have y2 : W4.cell? ⟨(w.heap.size + 1), 2, none⟩ = some (.int .i64 0) := hy4.cell 2 rfl
    have fy2 := hy4.thaw 2
    have y3 : W4.cell? ⟨(w.heap.size + 1), 3, none⟩ = some (.int .i64 0) := hy4.cell 3 rfl
    have fy3 := hy4.thaw 3
    have y4 : W4.cell? ⟨(w.heap.size + 1), 4, none⟩ = some (.bool false) := hy4.cell 4 rfl
    have fy4 := hy4.thaw 4
    have y5 : W4.cell? ⟨(w.heap.size + 1), 5, none⟩ = some (.int .i64 0) := hy4.cell 5 rfl
    have fy5 := hy4.thaw 5
    have y6 : W4.cell? ⟨(w.heap.size + 1), 6, none⟩ = some (.int .i64 0) := hy4.cell 6 rfl
    have fy6 := hy4.thaw 6
    have y7 : W4.cell? ⟨(w.heap.size + 1), 7, none⟩ = some (.int .u64 0) := hy4.cell 7 rfl
    have fy7 := hy4.thaw 7
    have y8 : W4.cell? ⟨(w.heap.size + 1), 8, none⟩ = some (.string ⟨#[]⟩) := hy4.cell 8 rfl
    have fy8 := hy4.thaw 8
    have y9 : W4.cell? ⟨(w.heap.size + 1), 9, none⟩ = some (.slice none 0 0) := hy4.cell 9 rfl
    have fy9 := hy4.thaw 9
    have r6 : W4.cell? ⟨w2.heap.size, 6, none⟩ = some _ := hz4.cell 6 rfl
    have r7 : W4.cell? ⟨w2.heap.size, 7, none⟩ = some (.int .u64 0) := hz4.cell 7 rfl
    have r8 : W4.cell? ⟨w2.heap.size, 8, none⟩ = some (.string ⟨#[]⟩) := hz4.cell 8 rfl
    have r9 : W4.cell? ⟨w2.heap.size, 9, none⟩ = some (.slice a5 0 cap5) := hz4.cell 9 rfl
    go_wp2_with fail
    exact bodyPost_ret (results_cell_row rfl _ _ (w.heap.size + 1) 33 _ (0, 0) _ rfl (hy4.set10 _ _ _ _ _ _ _ _ _ _) Tryz.underlying33 rfl (by kernel_rfl)) rfl ⟨_, rfl, ⟨_, _, _, _, _, _, _, rfl, RepP.mk _ _ _ _ a5 cap5 0 0 (fun _ _ => .bool false) [] ⟨by decide, by decide, by decide, by decide⟩ (fun h => absurd h (by simp)) (fun i hi => absurd hi (by simp)) (fun i x hx => by simp at hx)⟩, set10_below hbw4 (by omega)⟩

set_option maxRecDepth 100000 in
set_option maxHeartbeats 3200000 in
theorem rmap_6_no {w0 : World} {j : Nat} {m b : Int} {t : ByteArray} {a : Option Addr} {cap : Nat} {kids : List D} (_hv : Rep w0 (.agg #[.int .i64 j, .int .i64 m, .int .u64 b, .string t, .slice a kids.length cap]) (.mk j m b t kids)) (hd : FitsIn 0 1 (.mk j m b t kids)) (tp : ByteArray) (h : isB j 6 = false) (w : World) (_hb0 : Below w0.heap.size w0 w) :
    Calls Tryz.prog 10 #[.int .i64 6, .string tp, (.agg #[.int .i64 j, .int .i64 m, .int .u64 b, .string t, .slice a kids.length cap])] w fun x w' => x = .returned (errV 110 (2) (j)) ∧ Below w.heap.size w w' := by
  unfold errV
  have h13 : j ≤ 13 := by have := hd.top.2.1; omega
  have HK := Lib.hid (fun W => rkind_no h13 (m := m) (b := b) (t := t) (a := a) (l := kids.length) (cap := cap) 6 h W)
  clear _hv hd _hb0 h h13
  obtain ⟨W1, hW1, hb1, hz, hx1, hx2⟩ := res_worlds w (.int .i64 j) (.int .i64 m) (.int .u64 b) (.string t) (.slice a kids.length cap)
  have hzo := hz.out
  have hr1 := hx1.row
  have p0 : W1.cell? ⟨w.heap.size, 0, none⟩ = some (.int .i64 j) := hr1.cell 0 rfl
  have p1 : W1.cell? ⟨w.heap.size, 1, none⟩ = some (.int .i64 m) := hr1.cell 1 rfl
  have p2 : W1.cell? ⟨w.heap.size, 2, none⟩ = some (.int .u64 b) := hr1.cell 2 rfl
  have p3 : W1.cell? ⟨w.heap.size, 3, none⟩ = some (.string t) := hr1.cell 3 rfl
  have p4 : W1.cell? ⟨w.heap.size, 4, none⟩ = some (.slice a kids.length cap) := hr1.cell 4 rfl
  go_enter Tryz.func10, Tryz.ntmps10
  go_upto_region 1 with fail
  rw [← hW1]
  clear hW1
  go_wp2_with fail
  refine (HK.out _).mono ?_
  rintro x w2 ⟨v', rfl, hv', hb2⟩
  obtain rfl : v' = _ := hv'
  have hy2 := hx2.later hb2
  have hbw2 := hb1.trans (hb2.mono hb1.size)
  obtain ⟨W3, hW3⟩ : ∃ W', W' = w2.alloc (.cells #[.int .i64 110, .int .i64 0, .int .i64 2, .int .i64 j, .bool false, .int .i64 0, .int .i64 0, .int .u64 0, .string ⟨#[]⟩, .slice none 0 0] 33) := ⟨_, rfl⟩
  have hb3 : Below w2.heap.size w2 W3 := by rw [hW3]; exact (Below.refl _ _).alloc (Nat.le_refl _) _
  have hz3 : Row W3 w2.heap.size #[.int .i64 110, .int .i64 0, .int .i64 2, .int .i64 j, .bool false, .int .i64 0, .int .i64 0, .int .u64 0, .string ⟨#[]⟩, .slice none 0 0] 33 := by rw [hW3]; exact Row.new _ _ _
  have hy3 := hy2.later hb3
  have hbw3 := hbw2.trans (hb3.mono hbw2.size)
  clear p0 p1 p2 p3 p4
  dsimp only
  go_upto_region 22 with fail
  rw [← hW3]
  clear hW3
  have z0 : W3.cell? ⟨w2.heap.size, 0, none⟩ = some (.int .i64 110) := hz3.cell 0 rfl
  have z1 : W3.cell? ⟨w2.heap.size, 1, none⟩ = some (.int .i64 0) := hz3.cell 1 rfl
  have z2 : W3.cell? ⟨w2.heap.size, 2, none⟩ = some (.int .i64 2) := hz3.cell 2 rfl
  have z3 : W3.cell? ⟨w2.heap.size, 3, none⟩ = some (.int .i64 j) := hz3.cell 3 rfl
  have z4 : W3.cell? ⟨w2.heap.size, 4, none⟩ = some (.bool false) := hz3.cell 4 rfl
  have z5 : W3.cell? ⟨w2.heap.size, 5, none⟩ = some (.int .i64 0) := hz3.cell 5 rfl
  have z6 : W3.cell? ⟨w2.heap.size, 6, none⟩ = some (.int .i64 0) := hz3.cell 6 rfl
  have z7 : W3.cell? ⟨w2.heap.size, 7, none⟩ = some (.int .u64 0) := hz3.cell 7 rfl
  have z8 : W3.cell? ⟨w2.heap.size, 8, none⟩ = some (.string ⟨#[]⟩) := hz3.cell 8 rfl
  have z9 : W3.cell? ⟨w2.heap.size, 9, none⟩ = some (.slice none 0 0) := hz3.cell 9 rfl
  have q0 : W3.cell? ⟨(w.heap.size + 1), 0, none⟩ = some (.int .i64 0) := hy3.cell 0 rfl
  have fq0 := hy3.thaw 0
  have q1 : W3.cell? ⟨(w.heap.size + 1), 1, none⟩ = some (.int .i64 0) := hy3.cell 1 rfl
  have fq1 := hy3.thaw 1
  have q2 : W3.cell? ⟨(w.heap.size + 1), 2, none⟩ = some (.int .i64 0) := hy3.cell 2 rfl
  have fq2 := hy3.thaw 2
  have q3 : W3.cell? ⟨(w.heap.size + 1), 3, none⟩ = some (.int .i64 0) := hy3.cell 3 rfl
  have fq3 := hy3.thaw 3
  have q4 : W3.cell? ⟨(w.heap.size + 1), 4, none⟩ = some (.bool false) := hy3.cell 4 rfl
  have fq4 := hy3.thaw 4
  have q5 : W3.cell? ⟨(w.heap.size + 1), 5, none⟩ = some (.int .i64 0) := hy3.cell 5 rfl
  have fq5 := hy3.thaw 5
  have q6 : W3.cell? ⟨(w.heap.size + 1), 6, none⟩ = some (.int .i64 0) := hy3.cell 6 rfl
  have fq6 := hy3.thaw 6
  have q7 : W3.cell? ⟨(w.heap.size + 1), 7, none⟩ = some (.int .u64 0) := hy3.cell 7 rfl
  have fq7 := hy3.thaw 7
  have q8 : W3.cell? ⟨(w.heap.size + 1), 8, none⟩ = some (.string ⟨#[]⟩) := hy3.cell 8 rfl
  have fq8 := hy3.thaw 8
  have q9 : W3.cell? ⟨(w.heap.size + 1), 9, none⟩ = some (.slice none 0 0) := hy3.cell 9 rfl
  have fq9 := hy3.thaw 9
  go_wp2_with fail
  exact bodyPost_ret (results_cell_row rfl _ _ (w.heap.size + 1) 33 _ (0, 0) _ rfl (hy3.set10 _ _ _ _ _ _ _ _ _ _) Tryz.underlying33 rfl (by kernel_rfl)) rfl ⟨rfl, set10_below hbw3 (by omega)⟩

theorem RepP.rekind {w : World} {P : Nat → Prop} {k k' m b : Int} {t : ByteArray} {a : Option Addr} {cap : Nat} {kids : List D} (h : RepP w P (.agg #[.int .i64 k, .int .i64 m, .int .u64 b, .string t, .slice a kids.length cap]) (.mk k m b t kids)) (hk : (Lit.int .i64 k').wf = true) : GaveP w P (.agg #[.int .i64 0, .int .i64 0, .int .i64 0, .int .i64 0, .bool true, .int .i64 k', .int .i64 m, .int .u64 b, .string t, .slice a kids.length cap]) (.mk k' m b t kids) := by
  refine ⟨_, _, _, _, _, _, _, rfl, ?_⟩
  obtain ⟨k0, m0, b0, t0, a0, cap0, g, o, c, kids0, e, e2, hw, ha, hc, hk0⟩ := h.inv
  simp only [D.mk.injEq] at e2
  obtain ⟨rfl, rfl, rfl, rfl, rfl⟩ := e2
  simp only [Value.agg.injEq, Array.mk.injEq, List.cons.injEq, Value.slice.injEq, true_and, and_true] at e
  obtain ⟨rfl, rfl⟩ := e
  exact RepP.mk k' m b t a cap g o c kids ⟨hk, hw.2⟩ ha hc hk0

set_option maxRecDepth 100000 in
set_option maxHeartbeats 3200000 in
theorem rmap_8_int {w0 : World} {m b : Int} {t : ByteArray} {a : Option Addr} {cap : Nat} {kids : List D} (hv : Rep w0 (.agg #[.int .i64 1, .int .i64 m, .int .u64 b, .string t, .slice a kids.length cap]) (.mk 1 m b t kids)) (hd : FitsIn 0 1 (.mk 1 m b t kids)) (tp : ByteArray) (w : World) (hb0 : Below w0.heap.size w0 w) :
    Calls Tryz.prog 10 #[.int .i64 8, .string tp, (.agg #[.int .i64 1, .int .i64 m, .int .u64 b, .string t, .slice a kids.length cap])] w fun x w' => ∃ v', x = .returned v' ∧ GaveP w' (fun b => w.heap.size ≤ b) v' (.mk 2 m b t kids) ∧ Below w.heap.size w w' := by
  have HC := Lib.hid (fun W hW => copy_any hv (hd.slim (by omega)) W hW)
  have HB := Lib.hid hb0
  clear hv hd hb0
  obtain ⟨W1, hW1, hb1, hz, hx1, hx2⟩ := res_worlds w (.int .i64 1) (.int .i64 m) (.int .u64 b) (.string t) (.slice a kids.length cap)
  have hzo := hz.out
  have hr1 := hx1.row
  have p0 : W1.cell? ⟨w.heap.size, 0, none⟩ = some (.int .i64 1) := hr1.cell 0 rfl
  have p1 : W1.cell? ⟨w.heap.size, 1, none⟩ = some (.int .i64 m) := hr1.cell 1 rfl
  have p2 : W1.cell? ⟨w.heap.size, 2, none⟩ = some (.int .u64 b) := hr1.cell 2 rfl
  have p3 : W1.cell? ⟨w.heap.size, 3, none⟩ = some (.string t) := hr1.cell 3 rfl
  have p4 : W1.cell? ⟨w.heap.size, 4, none⟩ = some (.slice a kids.length cap) := hr1.cell 4 rfl
  go_enter Tryz.func10, Tryz.ntmps10
  go_upto_region 1 with fail
  rw [← hW1]
  clear hW1
  go_wp2_with fail
  refine (HC.out _ (HB.out.trans (hb1.mono HB.out.size))).mono ?_
  rintro x w2 ⟨v2, rfl, hq2, hb2⟩
  obtain ⟨k5, m5, b5, t5, a5, n5, cap5, rfl⟩ := hq2.form
  obtain ⟨kids5, e5, hl5⟩ := hq2.rep.shape'
  simp only [D.mk.injEq] at e5
  obtain ⟨rfl, rfl, rfl, rfl, rfl⟩ := e5
  subst hl5
  have hr2 := hr1.later hb2
  have hy2 := hx2.later hb2
  have hbw2 := hb1.trans (hb2.mono hb1.size)
  have hsz := hb2.size
  have hP2 := RepP.of_repQ hq2
  clear hq2
  obtain ⟨W3, hW3, hb3, hz3⟩ := boxes1r w2 (.int .i64 1) (.int .i64 m) (.int .u64 b) (.string t) (.slice a5 kids.length cap5)
  have hr3 := hr2.later hb3
  have hy3 := hy2.later hb3
  have hP3 := hP2.later hb3
  have hbw3 := hbw2.trans (hb3.mono hbw2.size)
  clear p0 p1 p2 p3 p4
  have p0 : W3.cell? ⟨w.heap.size, 0, none⟩ = some (.int .i64 1) := hr3.cell 0 rfl
  have fz0 := hz3.thaw 0
  have hne : w.heap.size ≠ w2.heap.size := by omega
  dsimp only
  go_upto_region 29 with fail
  rw [← hW3]
  clear hW3
  obtain ⟨W4, hW4⟩ : ∃ W4, W4 = W3.setCell ⟨w2.heap.size, 0, none⟩ (.int .i64 2) := ⟨_, rfl⟩
  have z0 : W3.cell? ⟨w2.heap.size, 0, none⟩ = some (.int .i64 1) := hz3.cell 0 rfl
  have hz4 : Row W4 w2.heap.size #[.int .i64 2, .int .i64 m, .int .u64 b, .string t, .slice a5 kids.length cap5] 25 := by
    rw [hW4]
    have h := hz3.set 0 (.int .i64 2)
    simpa using h
  have hr4 : Row W4 w.heap.size #[.int .i64 1, .int .i64 m, .int .u64 b, .string t, .slice a kids.length cap] 25 := by rw [hW4]; exact hr3.other 0 _ (by omega)
  have hy4 : Row W4 (w.heap.size + 1) #[.int .i64 0, .int .i64 0, .int .i64 0, .int .i64 0, .bool false, .int .i64 0, .int .i64 0, .int .u64 0, .string ⟨#[]⟩, .slice none 0 0] 33 := by rw [hW4]; exact hy3.other 0 _ (by omega)
  have hbw4 : Below w.heap.size w W4 := by rw [hW4]; exact hbw3.setCell (p := ⟨w2.heap.size, 0, none⟩) (by have := hbw2.size; simp; omega) _
  have hP4 : RepP W4 (fun i => W1.heap.size ≤ i) (.agg #[.int .i64 1, .int .i64 m, .int .u64 b, .string t, .slice a5 kids.length cap5]) (.mk 1 m b t kids) := by
    rw [hW4]
    exact hP2.carry (fun i hi hl => ⟨(heap_setCell_other _ _ _ _ (by simp; omega)).trans (hb3.block i hl), hi⟩) (by have := hb3.size; simp; omega)
  go_upto_region 31 with fail
  rw [← hW4]
  clear hW4 z0 fz0 p0
  have p0 : W4.cell? ⟨w.heap.size, 0, none⟩ = some (.int .i64 1) := hr4.cell 0 rfl
  have z0 : W4.cell? ⟨w2.heap.size, 0, none⟩ = some (.int .i64 2) := hz4.cell 0 rfl
  have z1 : W4.cell? ⟨w2.heap.size, 1, none⟩ = some (.int .i64 m) := hz4.cell 1 rfl
  have z2 : W4.cell? ⟨w2.heap.size, 2, none⟩ = some (.int .u64 b) := hz4.cell 2 rfl
  have z3 : W4.cell? ⟨w2.heap.size, 3, none⟩ = some (.string t) := hz4.cell 3 rfl
  have z4 : W4.cell? ⟨w2.heap.size, 4, none⟩ = some (.slice a5 kids.length cap5) := hz4.cell 4 rfl
  go_wp2_with fail
  refine (rgave_v _ _ _ _ _ _ _ _).mono ?_
  rintro x w5 ⟨rfl, hb5⟩
  have hy5 := hy4.later hb5
  have hP5 := hP4.later hb5
  have hbw5 := hbw4.trans (hb5.mono hbw4.size)
  have hG : GaveP w5 (fun i => W1.heap.size ≤ i) (.agg #[.int .i64 0, .int .i64 0, .int .i64 0, .int .i64 0, .bool true, .int .i64 2, .int .i64 m, .int .u64 b, .string t, .slice a5 kids.length cap5]) (.mk 2 m b t kids) := hP5.rekind (by decide)
  have q0 : w5.cell? ⟨(w.heap.size + 1), 0, none⟩ = some (.int .i64 0) := hy5.cell 0 rfl
  have fq0 := hy5.thaw 0
  have q1 : w5.cell? ⟨(w.heap.size + 1), 1, none⟩ = some (.int .i64 0) := hy5.cell 1 rfl
  have fq1 := hy5.thaw 1
  have q2 : w5.cell? ⟨(w.heap.size + 1), 2, none⟩ = some (.int .i64 0) := hy5.cell 2 rfl
  have fq2 := hy5.thaw 2
  have q3 : w5.cell? ⟨(w.heap.size + 1), 3, none⟩ = some (.int .i64 0) := hy5.cell 3 rfl
  have fq3 := hy5.thaw 3
  have q4 : w5.cell? ⟨(w.heap.size + 1), 4, none⟩ = some (.bool false) := hy5.cell 4 rfl
  have fq4 := hy5.thaw 4
  have q5 : w5.cell? ⟨(w.heap.size + 1), 5, none⟩ = some (.int .i64 0) := hy5.cell 5 rfl
  have fq5 := hy5.thaw 5
  have q6 : w5.cell? ⟨(w.heap.size + 1), 6, none⟩ = some (.int .i64 0) := hy5.cell 6 rfl
  have fq6 := hy5.thaw 6
  have q7 : w5.cell? ⟨(w.heap.size + 1), 7, none⟩ = some (.int .u64 0) := hy5.cell 7 rfl
  have fq7 := hy5.thaw 7
  have q8 : w5.cell? ⟨(w.heap.size + 1), 8, none⟩ = some (.string ⟨#[]⟩) := hy5.cell 8 rfl
  have fq8 := hy5.thaw 8
  have q9 : w5.cell? ⟨(w.heap.size + 1), 9, none⟩ = some (.slice none 0 0) := hy5.cell 9 rfl
  have fq9 := hy5.thaw 9
  dsimp only
  go_wp2_with fail
  exact bodyPost_ret (results_cell_row rfl _ _ (w.heap.size + 1) 33 _ (0, 0) _ rfl (hy5.set10 _ _ _ _ _ _ _ _ _ _) Tryz.underlying33 rfl (by kernel_rfl)) rfl ⟨_, rfl, hG.set10x (fun i hq => ⟨by omega, by omega⟩), set10_below hbw5 (by omega)⟩

set_option maxRecDepth 100000 in
set_option maxHeartbeats 3200000 in
theorem rmap_8_text {w0 : World} {m b : Int} {t : ByteArray} {a : Option Addr} {cap : Nat} {kids : List D} (hv : Rep w0 (.agg #[.int .i64 4, .int .i64 m, .int .u64 b, .string t, .slice a kids.length cap]) (.mk 4 m b t kids)) (hd : FitsIn 0 1 (.mk 4 m b t kids)) (tp : ByteArray) (w : World) (hb0 : Below w0.heap.size w0 w) :
    Calls Tryz.prog 10 #[.int .i64 8, .string tp, (.agg #[.int .i64 4, .int .i64 m, .int .u64 b, .string t, .slice a kids.length cap])] w fun x w' => ∃ v', x = .returned v' ∧ GaveP w' (fun b => w.heap.size ≤ b) v' (.mk 5 m b t kids) ∧ Below w.heap.size w w' := by
  have HC := Lib.hid (fun W hW => copy_any hv (hd.slim (by omega)) W hW)
  have HB := Lib.hid hb0
  clear hv hd hb0
  obtain ⟨W1, hW1, hb1, hz, hx1, hx2⟩ := res_worlds w (.int .i64 4) (.int .i64 m) (.int .u64 b) (.string t) (.slice a kids.length cap)
  have hzo := hz.out
  have hr1 := hx1.row
  have p0 : W1.cell? ⟨w.heap.size, 0, none⟩ = some (.int .i64 4) := hr1.cell 0 rfl
  have p1 : W1.cell? ⟨w.heap.size, 1, none⟩ = some (.int .i64 m) := hr1.cell 1 rfl
  have p2 : W1.cell? ⟨w.heap.size, 2, none⟩ = some (.int .u64 b) := hr1.cell 2 rfl
  have p3 : W1.cell? ⟨w.heap.size, 3, none⟩ = some (.string t) := hr1.cell 3 rfl
  have p4 : W1.cell? ⟨w.heap.size, 4, none⟩ = some (.slice a kids.length cap) := hr1.cell 4 rfl
  go_enter Tryz.func10, Tryz.ntmps10
  go_upto_region 1 with fail
  rw [← hW1]
  clear hW1
  go_wp2_with fail
  refine (HC.out _ (HB.out.trans (hb1.mono HB.out.size))).mono ?_
  rintro x w2 ⟨v2, rfl, hq2, hb2⟩
  obtain ⟨k5, m5, b5, t5, a5, n5, cap5, rfl⟩ := hq2.form
  obtain ⟨kids5, e5, hl5⟩ := hq2.rep.shape'
  simp only [D.mk.injEq] at e5
  obtain ⟨rfl, rfl, rfl, rfl, rfl⟩ := e5
  subst hl5
  have hr2 := hr1.later hb2
  have hy2 := hx2.later hb2
  have hbw2 := hb1.trans (hb2.mono hb1.size)
  have hsz := hb2.size
  have hP2 := RepP.of_repQ hq2
  clear hq2
  obtain ⟨W3, hW3, hb3, hz3⟩ := boxes1r w2 (.int .i64 4) (.int .i64 m) (.int .u64 b) (.string t) (.slice a5 kids.length cap5)
  have hr3 := hr2.later hb3
  have hy3 := hy2.later hb3
  have hP3 := hP2.later hb3
  have hbw3 := hbw2.trans (hb3.mono hbw2.size)
  clear p0 p1 p2 p3 p4
  have p0 : W3.cell? ⟨w.heap.size, 0, none⟩ = some (.int .i64 4) := hr3.cell 0 rfl
  have fz0 := hz3.thaw 0
  have hne : w.heap.size ≠ w2.heap.size := by omega
  dsimp only
  go_upto_region 29 with fail
  rw [← hW3]
  clear hW3
  obtain ⟨W4, hW4⟩ : ∃ W4, W4 = W3.setCell ⟨w2.heap.size, 0, none⟩ (.int .i64 5) := ⟨_, rfl⟩
  have z0 : W3.cell? ⟨w2.heap.size, 0, none⟩ = some (.int .i64 4) := hz3.cell 0 rfl
  have hz4 : Row W4 w2.heap.size #[.int .i64 5, .int .i64 m, .int .u64 b, .string t, .slice a5 kids.length cap5] 25 := by
    rw [hW4]
    have h := hz3.set 0 (.int .i64 5)
    simpa using h
  have hr4 : Row W4 w.heap.size #[.int .i64 4, .int .i64 m, .int .u64 b, .string t, .slice a kids.length cap] 25 := by rw [hW4]; exact hr3.other 0 _ (by omega)
  have hy4 : Row W4 (w.heap.size + 1) #[.int .i64 0, .int .i64 0, .int .i64 0, .int .i64 0, .bool false, .int .i64 0, .int .i64 0, .int .u64 0, .string ⟨#[]⟩, .slice none 0 0] 33 := by rw [hW4]; exact hy3.other 0 _ (by omega)
  have hbw4 : Below w.heap.size w W4 := by rw [hW4]; exact hbw3.setCell (p := ⟨w2.heap.size, 0, none⟩) (by have := hbw2.size; simp; omega) _
  have hP4 : RepP W4 (fun i => W1.heap.size ≤ i) (.agg #[.int .i64 4, .int .i64 m, .int .u64 b, .string t, .slice a5 kids.length cap5]) (.mk 4 m b t kids) := by
    rw [hW4]
    exact hP2.carry (fun i hi hl => ⟨(heap_setCell_other _ _ _ _ (by simp; omega)).trans (hb3.block i hl), hi⟩) (by have := hb3.size; simp; omega)
  go_upto_region 33 with fail
  rw [← hW4]
  clear hW4 z0 fz0 p0
  have p0 : W4.cell? ⟨w.heap.size, 0, none⟩ = some (.int .i64 4) := hr4.cell 0 rfl
  have z0 : W4.cell? ⟨w2.heap.size, 0, none⟩ = some (.int .i64 5) := hz4.cell 0 rfl
  have z1 : W4.cell? ⟨w2.heap.size, 1, none⟩ = some (.int .i64 m) := hz4.cell 1 rfl
  have z2 : W4.cell? ⟨w2.heap.size, 2, none⟩ = some (.int .u64 b) := hz4.cell 2 rfl
  have z3 : W4.cell? ⟨w2.heap.size, 3, none⟩ = some (.string t) := hz4.cell 3 rfl
  have z4 : W4.cell? ⟨w2.heap.size, 4, none⟩ = some (.slice a5 kids.length cap5) := hz4.cell 4 rfl
  go_wp2_with fail
  refine (rgave_v _ _ _ _ _ _ _ _).mono ?_
  rintro x w5 ⟨rfl, hb5⟩
  have hy5 := hy4.later hb5
  have hP5 := hP4.later hb5
  have hbw5 := hbw4.trans (hb5.mono hbw4.size)
  have hG : GaveP w5 (fun i => W1.heap.size ≤ i) (.agg #[.int .i64 0, .int .i64 0, .int .i64 0, .int .i64 0, .bool true, .int .i64 5, .int .i64 m, .int .u64 b, .string t, .slice a5 kids.length cap5]) (.mk 5 m b t kids) := hP5.rekind (by decide)
  have q0 : w5.cell? ⟨(w.heap.size + 1), 0, none⟩ = some (.int .i64 0) := hy5.cell 0 rfl
  have fq0 := hy5.thaw 0
  have q1 : w5.cell? ⟨(w.heap.size + 1), 1, none⟩ = some (.int .i64 0) := hy5.cell 1 rfl
  have fq1 := hy5.thaw 1
  have q2 : w5.cell? ⟨(w.heap.size + 1), 2, none⟩ = some (.int .i64 0) := hy5.cell 2 rfl
  have fq2 := hy5.thaw 2
  have q3 : w5.cell? ⟨(w.heap.size + 1), 3, none⟩ = some (.int .i64 0) := hy5.cell 3 rfl
  have fq3 := hy5.thaw 3
  have q4 : w5.cell? ⟨(w.heap.size + 1), 4, none⟩ = some (.bool false) := hy5.cell 4 rfl
  have fq4 := hy5.thaw 4
  have q5 : w5.cell? ⟨(w.heap.size + 1), 5, none⟩ = some (.int .i64 0) := hy5.cell 5 rfl
  have fq5 := hy5.thaw 5
  have q6 : w5.cell? ⟨(w.heap.size + 1), 6, none⟩ = some (.int .i64 0) := hy5.cell 6 rfl
  have fq6 := hy5.thaw 6
  have q7 : w5.cell? ⟨(w.heap.size + 1), 7, none⟩ = some (.int .u64 0) := hy5.cell 7 rfl
  have fq7 := hy5.thaw 7
  have q8 : w5.cell? ⟨(w.heap.size + 1), 8, none⟩ = some (.string ⟨#[]⟩) := hy5.cell 8 rfl
  have fq8 := hy5.thaw 8
  have q9 : w5.cell? ⟨(w.heap.size + 1), 9, none⟩ = some (.slice none 0 0) := hy5.cell 9 rfl
  have fq9 := hy5.thaw 9
  dsimp only
  go_wp2_with fail
  exact bodyPost_ret (results_cell_row rfl _ _ (w.heap.size + 1) 33 _ (0, 0) _ rfl (hy5.set10 _ _ _ _ _ _ _ _ _ _) Tryz.underlying33 rfl (by kernel_rfl)) rfl ⟨_, rfl, hG.set10x (fun i hq => ⟨by omega, by omega⟩), set10_below hbw5 (by omega)⟩

set_option maxRecDepth 100000 in
set_option maxHeartbeats 3200000 in
theorem rmap_8_else {w0 : World} {j : Nat} {m b : Int} {t : ByteArray} {a : Option Addr} {cap : Nat} {kids : List D} (hv : Rep w0 (.agg #[.int .i64 j, .int .i64 m, .int .u64 b, .string t, .slice a kids.length cap]) (.mk j m b t kids)) (hd : FitsIn 0 1 (.mk j m b t kids)) (tp : ByteArray) (h1 : j ≠ 1) (h4 : j ≠ 4) (w : World) (hb0 : Below w0.heap.size w0 w) :
    Calls Tryz.prog 10 #[.int .i64 8, .string tp, (.agg #[.int .i64 j, .int .i64 m, .int .u64 b, .string t, .slice a kids.length cap])] w fun x w' => ∃ v', x = .returned v' ∧ GaveP w' (fun b => w.heap.size ≤ b) v' (.mk j m b t kids) ∧ Below w.heap.size w w' := by
  have e1 : ((j : Int) == 1) = false := by simp; omega
  have e4 : ((j : Int) == 4) = false := by simp; omega
  clear h1 h4
  have HC := Lib.hid (fun W hW => copy_any hv (hd.slim (by omega)) W hW)
  have HB := Lib.hid hb0
  clear hv hd hb0
  obtain ⟨W1, hW1, hb1, hz, hx1, hx2⟩ := res_worlds w (.int .i64 j) (.int .i64 m) (.int .u64 b) (.string t) (.slice a kids.length cap)
  have hzo := hz.out
  have hr1 := hx1.row
  have p0 : W1.cell? ⟨w.heap.size, 0, none⟩ = some (.int .i64 j) := hr1.cell 0 rfl
  have p1 : W1.cell? ⟨w.heap.size, 1, none⟩ = some (.int .i64 m) := hr1.cell 1 rfl
  have p2 : W1.cell? ⟨w.heap.size, 2, none⟩ = some (.int .u64 b) := hr1.cell 2 rfl
  have p3 : W1.cell? ⟨w.heap.size, 3, none⟩ = some (.string t) := hr1.cell 3 rfl
  have p4 : W1.cell? ⟨w.heap.size, 4, none⟩ = some (.slice a kids.length cap) := hr1.cell 4 rfl
  go_enter Tryz.func10, Tryz.ntmps10
  go_upto_region 1 with fail
  rw [← hW1]
  clear hW1
  go_wp2_with fail
  refine (HC.out _ (HB.out.trans (hb1.mono HB.out.size))).mono ?_
  rintro x w2 ⟨v2, rfl, hq2, hb2⟩
  obtain ⟨k5, m5, b5, t5, a5, n5, cap5, rfl⟩ := hq2.form
  obtain ⟨kids5, e5, hl5⟩ := hq2.rep.shape'
  simp only [D.mk.injEq] at e5
  obtain ⟨rfl, rfl, rfl, rfl, rfl⟩ := e5
  subst hl5
  have hr2 := hr1.later hb2
  have hy2 := hx2.later hb2
  have hbw2 := hb1.trans (hb2.mono hb1.size)
  have hsz := hb2.size
  have hP2 := RepP.of_repQ hq2
  clear hq2
  obtain ⟨W3, hW3, hb3, hz3⟩ := boxes1r w2 (.int .i64 j) (.int .i64 m) (.int .u64 b) (.string t) (.slice a5 kids.length cap5)
  have hr3 := hr2.later hb3
  have hy3 := hy2.later hb3
  have hP3 := hP2.later hb3
  have hbw3 := hbw2.trans (hb3.mono hbw2.size)
  clear p0 p1 p2 p3 p4
  have p0 : W3.cell? ⟨w.heap.size, 0, none⟩ = some (.int .i64 j) := hr3.cell 0 rfl
  dsimp only
  go_upto_region 29 with fail
  rw [← hW3]
  clear hW3
  have z0 : W3.cell? ⟨w2.heap.size, 0, none⟩ = some (.int .i64 j) := hz3.cell 0 rfl
  have z1 : W3.cell? ⟨w2.heap.size, 1, none⟩ = some (.int .i64 m) := hz3.cell 1 rfl
  have z2 : W3.cell? ⟨w2.heap.size, 2, none⟩ = some (.int .u64 b) := hz3.cell 2 rfl
  have z3 : W3.cell? ⟨w2.heap.size, 3, none⟩ = some (.string t) := hz3.cell 3 rfl
  have z4 : W3.cell? ⟨w2.heap.size, 4, none⟩ = some (.slice a5 kids.length cap5) := hz3.cell 4 rfl
  go_wp2_with fail
  refine (rgave_v _ _ _ _ _ _ _ _).mono ?_
  rintro x w5 ⟨rfl, hb5⟩
  have hy5 := hy3.later hb5
  have hP5 := hP3.later hb5
  have hbw5 := hbw3.trans (hb5.mono hbw3.size)
  have hG : GaveP w5 (fun i => W1.heap.size ≤ i) (.agg #[.int .i64 0, .int .i64 0, .int .i64 0, .int .i64 0, .bool true, .int .i64 j, .int .i64 m, .int .u64 b, .string t, .slice a5 kids.length cap5]) (.mk j m b t kids) := ⟨_, _, _, _, _, _, _, rfl, hP5⟩
  have q0 : w5.cell? ⟨(w.heap.size + 1), 0, none⟩ = some (.int .i64 0) := hy5.cell 0 rfl
  have fq0 := hy5.thaw 0
  have q1 : w5.cell? ⟨(w.heap.size + 1), 1, none⟩ = some (.int .i64 0) := hy5.cell 1 rfl
  have fq1 := hy5.thaw 1
  have q2 : w5.cell? ⟨(w.heap.size + 1), 2, none⟩ = some (.int .i64 0) := hy5.cell 2 rfl
  have fq2 := hy5.thaw 2
  have q3 : w5.cell? ⟨(w.heap.size + 1), 3, none⟩ = some (.int .i64 0) := hy5.cell 3 rfl
  have fq3 := hy5.thaw 3
  have q4 : w5.cell? ⟨(w.heap.size + 1), 4, none⟩ = some (.bool false) := hy5.cell 4 rfl
  have fq4 := hy5.thaw 4
  have q5 : w5.cell? ⟨(w.heap.size + 1), 5, none⟩ = some (.int .i64 0) := hy5.cell 5 rfl
  have fq5 := hy5.thaw 5
  have q6 : w5.cell? ⟨(w.heap.size + 1), 6, none⟩ = some (.int .i64 0) := hy5.cell 6 rfl
  have fq6 := hy5.thaw 6
  have q7 : w5.cell? ⟨(w.heap.size + 1), 7, none⟩ = some (.int .u64 0) := hy5.cell 7 rfl
  have fq7 := hy5.thaw 7
  have q8 : w5.cell? ⟨(w.heap.size + 1), 8, none⟩ = some (.string ⟨#[]⟩) := hy5.cell 8 rfl
  have fq8 := hy5.thaw 8
  have q9 : w5.cell? ⟨(w.heap.size + 1), 9, none⟩ = some (.slice none 0 0) := hy5.cell 9 rfl
  have fq9 := hy5.thaw 9
  dsimp only
  go_wp2_with fail
  exact bodyPost_ret (results_cell_row rfl _ _ (w.heap.size + 1) 33 _ (0, 0) _ rfl (hy5.set10 _ _ _ _ _ _ _ _ _ _) Tryz.underlying33 rfl (by kernel_rfl)) rfl ⟨_, rfl, hG.set10x (fun i hq => ⟨by omega, by omega⟩), set10_below hbw5 (by omega)⟩

end Go.Proofs.YtecdniimikfbhaaGreatDoor
