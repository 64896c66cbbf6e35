/- The walk of the law BreakerTurns: it returns true. -/
import Derived.Test.YteplhhlgceppkaaB5
import Derived.Lib.Hide
namespace Go.Proofs.Yteplhhlgceppkaa
open Go.RowKit

set_option maxHeartbeats 1600000 in
theorem turns_corea (f u a b now f2 u2 e c pk pn bb k i uu s l) (w : World) (hfit : Fitting f u a b now)
    (hd : ∀ w, Calls Try.prog 14 #[.agg #[.int .i64 f, .int .i64 u], .int .i64 a, .int .i64 b, .int .i64 now, .agg #[.int .i64 e, c, pk, pn, bb, k, i, uu, s, l]] w fun x w' => x = .returned (.agg #[.int .i64 f2, .int .i64 u2]) ∧ Below w.heap.size w w')
    (hr : ∀ w, Calls Try.prog 15 #[.agg #[.int .i64 f, .int .i64 u], .int .i64 a, .int .i64 b, .int .i64 now, .agg #[.int .i64 e, c, pk, pn, bb, k, i, uu, s, l]] w fun x w' => x = .returned (.agg #[.int .i64 f2, .int .i64 u2]) ∧ Below w.heap.size w w')
    (g1 : 0 ≤ f2) (g2 : f2 ≤ a) (g3 : 0 ≤ u2) (g4 : u2 ≤ 2199023255552) (hk : (kindB e != 0) = true) :
    Calls Try.prog 4 #[.agg #[.int .i64 f, .int .i64 u], .int .i64 a, .int .i64 b, .int .i64 now, .agg #[.int .i64 e, c, pk, pn, bb, k, i, uu, s, l]] w fun x w' => x = .returned (.bool true) ∧ Below w.heap.size w w' := by
  have HD := Lib.hid hd
  have HR := Lib.hid hr
  clear hd hr
  go_enter Try.func4, Try.ntmps4
  go_wp2_with fail
  refine (fit_yes _ _ _ _ _ _ hfit).mono ?_
  rintro x w1 ⟨rfl, hb⟩
  have cw1_0 : w1.cell? ⟨w.heap.size, 0, none⟩ = some (.int .i64 f) := (hb.cell (p := ⟨w.heap.size, 0, none⟩) (by go_size)).trans (by go_cell)
  have cw1_1 : w1.cell? ⟨w.heap.size, 1, none⟩ = some (.int .i64 u) := (hb.cell (p := ⟨w.heap.size, 1, none⟩) (by go_size)).trans (by go_cell)
  have cw1_2 : w1.cell? ⟨w.heap.size + 1, 0, none⟩ = some (.int .i64 e) := (hb.cell (p := ⟨w.heap.size + 1, 0, none⟩) (by go_size)).trans (by go_cell)
  have cw1_3 : w1.cell? ⟨w.heap.size + 1, 1, none⟩ = some (c) := (hb.cell (p := ⟨w.heap.size + 1, 1, none⟩) (by go_size)).trans (by go_cell)
  have cw1_4 : w1.cell? ⟨w.heap.size + 1, 2, none⟩ = some (pk) := (hb.cell (p := ⟨w.heap.size + 1, 2, none⟩) (by go_size)).trans (by go_cell)
  have cw1_5 : w1.cell? ⟨w.heap.size + 1, 3, none⟩ = some (pn) := (hb.cell (p := ⟨w.heap.size + 1, 3, none⟩) (by go_size)).trans (by go_cell)
  have cw1_6 : w1.cell? ⟨w.heap.size + 1, 4, none⟩ = some (bb) := (hb.cell (p := ⟨w.heap.size + 1, 4, none⟩) (by go_size)).trans (by go_cell)
  have cw1_7 : w1.cell? ⟨w.heap.size + 1, 5, none⟩ = some (k) := (hb.cell (p := ⟨w.heap.size + 1, 5, none⟩) (by go_size)).trans (by go_cell)
  have cw1_8 : w1.cell? ⟨w.heap.size + 1, 6, none⟩ = some (i) := (hb.cell (p := ⟨w.heap.size + 1, 6, none⟩) (by go_size)).trans (by go_cell)
  have cw1_9 : w1.cell? ⟨w.heap.size + 1, 7, none⟩ = some (uu) := (hb.cell (p := ⟨w.heap.size + 1, 7, none⟩) (by go_size)).trans (by go_cell)
  have cw1_10 : w1.cell? ⟨w.heap.size + 1, 8, none⟩ = some (s) := (hb.cell (p := ⟨w.heap.size + 1, 8, none⟩) (by go_size)).trans (by go_cell)
  have cw1_11 : w1.cell? ⟨w.heap.size + 1, 9, none⟩ = some (l) := (hb.cell (p := ⟨w.heap.size + 1, 9, none⟩) (by go_size)).trans (by go_cell)
  have hzw1 : w.heap.size + 2 ≤ w1.heap.size := Nat.le_trans (by go_size) hb.size
  have hBw1 : Below w.heap.size w w1 := Below.trans (by go_grown) (hb.mono (by go_size))
  clear hb
  go_wp2_with fail
  refine (HD.out _).mono ?_
  rintro x w2 ⟨rfl, hb⟩
  have cw2_0 : w2.cell? ⟨w.heap.size, 0, none⟩ = some (.int .i64 f) := (hb.cell (p := ⟨w.heap.size, 0, none⟩) (by go_size)).trans cw1_0
  have cw2_1 : w2.cell? ⟨w.heap.size, 1, none⟩ = some (.int .i64 u) := (hb.cell (p := ⟨w.heap.size, 1, none⟩) (by go_size)).trans cw1_1
  have cw2_2 : w2.cell? ⟨w.heap.size + 1, 0, none⟩ = some (.int .i64 e) := (hb.cell (p := ⟨w.heap.size + 1, 0, none⟩) (by go_size)).trans cw1_2
  have cw2_3 : w2.cell? ⟨w.heap.size + 1, 1, none⟩ = some (c) := (hb.cell (p := ⟨w.heap.size + 1, 1, none⟩) (by go_size)).trans cw1_3
  have cw2_4 : w2.cell? ⟨w.heap.size + 1, 2, none⟩ = some (pk) := (hb.cell (p := ⟨w.heap.size + 1, 2, none⟩) (by go_size)).trans cw1_4
  have cw2_5 : w2.cell? ⟨w.heap.size + 1, 3, none⟩ = some (pn) := (hb.cell (p := ⟨w.heap.size + 1, 3, none⟩) (by go_size)).trans cw1_5
  have cw2_6 : w2.cell? ⟨w.heap.size + 1, 4, none⟩ = some (bb) := (hb.cell (p := ⟨w.heap.size + 1, 4, none⟩) (by go_size)).trans cw1_6
  have cw2_7 : w2.cell? ⟨w.heap.size + 1, 5, none⟩ = some (k) := (hb.cell (p := ⟨w.heap.size + 1, 5, none⟩) (by go_size)).trans cw1_7
  have cw2_8 : w2.cell? ⟨w.heap.size + 1, 6, none⟩ = some (i) := (hb.cell (p := ⟨w.heap.size + 1, 6, none⟩) (by go_size)).trans cw1_8
  have cw2_9 : w2.cell? ⟨w.heap.size + 1, 7, none⟩ = some (uu) := (hb.cell (p := ⟨w.heap.size + 1, 7, none⟩) (by go_size)).trans cw1_9
  have cw2_10 : w2.cell? ⟨w.heap.size + 1, 8, none⟩ = some (s) := (hb.cell (p := ⟨w.heap.size + 1, 8, none⟩) (by go_size)).trans cw1_10
  have cw2_11 : w2.cell? ⟨w.heap.size + 1, 9, none⟩ = some (l) := (hb.cell (p := ⟨w.heap.size + 1, 9, none⟩) (by go_size)).trans cw1_11
  have hzw2 : w.heap.size + 2 ≤ w2.heap.size := Nat.le_trans (by go_size) hb.size
  have hBw2 : Below w.heap.size w w2 := hBw1.trans (hb.mono (by go_size))
  clear cw1_0 cw1_1 cw1_2 cw1_3 cw1_4 cw1_5 cw1_6 cw1_7 cw1_8 cw1_9 cw1_10 cw1_11  hzw1 hBw1
  clear hb
  go_upto_region 4 with fail
  obtain ⟨m, hm⟩ : ∃ m, m = w2.heap.size := ⟨_, rfl⟩
  rw [← hm]
  have hcm0 : (w2.alloc (.cells #[.int .i64 f2, .int .i64 u2] 23)).cell? ⟨m, 0, none⟩ = some (.int .i64 f2) := by rw [hm]; go_cell
  have hcm1 : (w2.alloc (.cells #[.int .i64 f2, .int .i64 u2] 23)).cell? ⟨m, 1, none⟩ = some (.int .i64 u2) := by rw [hm]; go_cell
  have hms : m < w2.heap.size + 1 := by omega
  clear hm
  go_region_held3 (fun w' => w'.cell? ⟨w.heap.size, 0, none⟩ = some (.int .i64 f) ∧ w'.cell? ⟨w.heap.size, 1, none⟩ = some (.int .i64 u) ∧ w'.cell? ⟨w.heap.size + 1, 0, none⟩ = some (.int .i64 e) ∧ w'.cell? ⟨w.heap.size + 1, 1, none⟩ = some (c) ∧ w'.cell? ⟨w.heap.size + 1, 2, none⟩ = some (pk) ∧ w'.cell? ⟨w.heap.size + 1, 3, none⟩ = some (pn) ∧ w'.cell? ⟨w.heap.size + 1, 4, none⟩ = some (bb) ∧ w'.cell? ⟨w.heap.size + 1, 5, none⟩ = some (k) ∧ w'.cell? ⟨w.heap.size + 1, 6, none⟩ = some (i) ∧ w'.cell? ⟨w.heap.size + 1, 7, none⟩ = some (uu) ∧ w'.cell? ⟨w.heap.size + 1, 8, none⟩ = some (s) ∧ w'.cell? ⟨w.heap.size + 1, 9, none⟩ = some (l) ∧ w'.cell? ⟨m, 0, none⟩ = some (.int .i64 f2) ∧ w'.cell? ⟨m, 1, none⟩ = some (.int .i64 u2)) (first | (refine ⟨?_, ?_, ?_, ?_, ?_, ?_, ?_, ?_, ?_, ?_, ?_, ?_, ?_, ?_⟩ <;> (with_reducible assumption)) | (refine ⟨?_, ?_, ?_, ?_, ?_, ?_, ?_, ?_, ?_, ?_, ?_, ?_, ?_, ?_⟩ <;> (go_cell; done)) | go_keep | fail)
    (first | (go_at_call 15; refine (HR.out _).mono ?_; rintro x w3 ⟨rfl, hb⟩; have cw3_0 : w3.cell? ⟨w.heap.size, 0, none⟩ = some (.int .i64 f) := (hb.cell (p := ⟨w.heap.size, 0, none⟩) (by go_size)).trans (by go_cell); have cw3_1 : w3.cell? ⟨w.heap.size, 1, none⟩ = some (.int .i64 u) := (hb.cell (p := ⟨w.heap.size, 1, none⟩) (by go_size)).trans (by go_cell); have cw3_2 : w3.cell? ⟨w.heap.size + 1, 0, none⟩ = some (.int .i64 e) := (hb.cell (p := ⟨w.heap.size + 1, 0, none⟩) (by go_size)).trans (by go_cell); have cw3_3 : w3.cell? ⟨w.heap.size + 1, 1, none⟩ = some (c) := (hb.cell (p := ⟨w.heap.size + 1, 1, none⟩) (by go_size)).trans (by go_cell); have cw3_4 : w3.cell? ⟨w.heap.size + 1, 2, none⟩ = some (pk) := (hb.cell (p := ⟨w.heap.size + 1, 2, none⟩) (by go_size)).trans (by go_cell); have cw3_5 : w3.cell? ⟨w.heap.size + 1, 3, none⟩ = some (pn) := (hb.cell (p := ⟨w.heap.size + 1, 3, none⟩) (by go_size)).trans (by go_cell); have cw3_6 : w3.cell? ⟨w.heap.size + 1, 4, none⟩ = some (bb) := (hb.cell (p := ⟨w.heap.size + 1, 4, none⟩) (by go_size)).trans (by go_cell); have cw3_7 : w3.cell? ⟨w.heap.size + 1, 5, none⟩ = some (k) := (hb.cell (p := ⟨w.heap.size + 1, 5, none⟩) (by go_size)).trans (by go_cell); have cw3_8 : w3.cell? ⟨w.heap.size + 1, 6, none⟩ = some (i) := (hb.cell (p := ⟨w.heap.size + 1, 6, none⟩) (by go_size)).trans (by go_cell); have cw3_9 : w3.cell? ⟨w.heap.size + 1, 7, none⟩ = some (uu) := (hb.cell (p := ⟨w.heap.size + 1, 7, none⟩) (by go_size)).trans (by go_cell); have cw3_10 : w3.cell? ⟨w.heap.size + 1, 8, none⟩ = some (s) := (hb.cell (p := ⟨w.heap.size + 1, 8, none⟩) (by go_size)).trans (by go_cell); have cw3_11 : w3.cell? ⟨w.heap.size + 1, 9, none⟩ = some (l) := (hb.cell (p := ⟨w.heap.size + 1, 9, none⟩) (by go_size)).trans (by go_cell); have cw3_12 : w3.cell? ⟨m, 0, none⟩ = some (.int .i64 f2) := (hb.cell (p := ⟨m, 0, none⟩) (by go_size)).trans (by go_cell); have cw3_13 : w3.cell? ⟨m, 1, none⟩ = some (.int .i64 u2) := (hb.cell (p := ⟨m, 1, none⟩) (by go_size)).trans (by go_cell); have hmw3_m : m < w3.heap.size := Nat.lt_of_lt_of_le (by go_size) hb.size; have hzw3 : w.heap.size + 2 ≤ w3.heap.size := Nat.le_trans (by go_size) hb.size; have hBw3 : Below w.heap.size w w3 := Below.trans (by go_grown) (hb.mono (by go_size)); clear hb) | (go_at_call 16; refine (rfit_yes _ _ _ _ g1 g2 g3 g4).mono ?_; rintro x w4 ⟨rfl, hb⟩; have cw4_0 : w4.cell? ⟨w.heap.size, 0, none⟩ = some (.int .i64 f) := (hb.cell (p := ⟨w.heap.size, 0, none⟩) (by go_size)).trans (by go_cell); have cw4_1 : w4.cell? ⟨w.heap.size, 1, none⟩ = some (.int .i64 u) := (hb.cell (p := ⟨w.heap.size, 1, none⟩) (by go_size)).trans (by go_cell); have cw4_2 : w4.cell? ⟨w.heap.size + 1, 0, none⟩ = some (.int .i64 e) := (hb.cell (p := ⟨w.heap.size + 1, 0, none⟩) (by go_size)).trans (by go_cell); have cw4_3 : w4.cell? ⟨w.heap.size + 1, 1, none⟩ = some (c) := (hb.cell (p := ⟨w.heap.size + 1, 1, none⟩) (by go_size)).trans (by go_cell); have cw4_4 : w4.cell? ⟨w.heap.size + 1, 2, none⟩ = some (pk) := (hb.cell (p := ⟨w.heap.size + 1, 2, none⟩) (by go_size)).trans (by go_cell); have cw4_5 : w4.cell? ⟨w.heap.size + 1, 3, none⟩ = some (pn) := (hb.cell (p := ⟨w.heap.size + 1, 3, none⟩) (by go_size)).trans (by go_cell); have cw4_6 : w4.cell? ⟨w.heap.size + 1, 4, none⟩ = some (bb) := (hb.cell (p := ⟨w.heap.size + 1, 4, none⟩) (by go_size)).trans (by go_cell); have cw4_7 : w4.cell? ⟨w.heap.size + 1, 5, none⟩ = some (k) := (hb.cell (p := ⟨w.heap.size + 1, 5, none⟩) (by go_size)).trans (by go_cell); have cw4_8 : w4.cell? ⟨w.heap.size + 1, 6, none⟩ = some (i) := (hb.cell (p := ⟨w.heap.size + 1, 6, none⟩) (by go_size)).trans (by go_cell); have cw4_9 : w4.cell? ⟨w.heap.size + 1, 7, none⟩ = some (uu) := (hb.cell (p := ⟨w.heap.size + 1, 7, none⟩) (by go_size)).trans (by go_cell); have cw4_10 : w4.cell? ⟨w.heap.size + 1, 8, none⟩ = some (s) := (hb.cell (p := ⟨w.heap.size + 1, 8, none⟩) (by go_size)).trans (by go_cell); have cw4_11 : w4.cell? ⟨w.heap.size + 1, 9, none⟩ = some (l) := (hb.cell (p := ⟨w.heap.size + 1, 9, none⟩) (by go_size)).trans (by go_cell); have cw4_12 : w4.cell? ⟨m, 0, none⟩ = some (.int .i64 f2) := (hb.cell (p := ⟨m, 0, none⟩) (by go_size)).trans (by go_cell); have cw4_13 : w4.cell? ⟨m, 1, none⟩ = some (.int .i64 u2) := (hb.cell (p := ⟨m, 1, none⟩) (by go_size)).trans (by go_cell); have hmw4_m : m < w4.heap.size := Nat.lt_of_lt_of_le (by go_size) hb.size; have hzw4 : w.heap.size + 2 ≤ w4.heap.size := Nat.le_trans (by go_size) hb.size; have hBw4 : Below w.heap.size w w4 := Below.trans (by go_grown) (hb.mono (by go_size)); clear hb))
  go_wp2_with fail
  refine (kind_any _ _ _ _ _ _ _ _ _ _ _).mono ?_
  rintro x w5 ⟨rfl, hb⟩
  have cw5_0 : w5.cell? ⟨w.heap.size, 0, none⟩ = some (.int .i64 f) := (hb.cell (p := ⟨w.heap.size, 0, none⟩) (by go_size)).trans cw4_0
  have cw5_1 : w5.cell? ⟨w.heap.size, 1, none⟩ = some (.int .i64 u) := (hb.cell (p := ⟨w.heap.size, 1, none⟩) (by go_size)).trans cw4_1
  have cw5_2 : w5.cell? ⟨w.heap.size + 1, 0, none⟩ = some (.int .i64 e) := (hb.cell (p := ⟨w.heap.size + 1, 0, none⟩) (by go_size)).trans cw4_2
  have cw5_3 : w5.cell? ⟨w.heap.size + 1, 1, none⟩ = some (c) := (hb.cell (p := ⟨w.heap.size + 1, 1, none⟩) (by go_size)).trans cw4_3
  have cw5_4 : w5.cell? ⟨w.heap.size + 1, 2, none⟩ = some (pk) := (hb.cell (p := ⟨w.heap.size + 1, 2, none⟩) (by go_size)).trans cw4_4
  have cw5_5 : w5.cell? ⟨w.heap.size + 1, 3, none⟩ = some (pn) := (hb.cell (p := ⟨w.heap.size + 1, 3, none⟩) (by go_size)).trans cw4_5
  have cw5_6 : w5.cell? ⟨w.heap.size + 1, 4, none⟩ = some (bb) := (hb.cell (p := ⟨w.heap.size + 1, 4, none⟩) (by go_size)).trans cw4_6
  have cw5_7 : w5.cell? ⟨w.heap.size + 1, 5, none⟩ = some (k) := (hb.cell (p := ⟨w.heap.size + 1, 5, none⟩) (by go_size)).trans cw4_7
  have cw5_8 : w5.cell? ⟨w.heap.size + 1, 6, none⟩ = some (i) := (hb.cell (p := ⟨w.heap.size + 1, 6, none⟩) (by go_size)).trans cw4_8
  have cw5_9 : w5.cell? ⟨w.heap.size + 1, 7, none⟩ = some (uu) := (hb.cell (p := ⟨w.heap.size + 1, 7, none⟩) (by go_size)).trans cw4_9
  have cw5_10 : w5.cell? ⟨w.heap.size + 1, 8, none⟩ = some (s) := (hb.cell (p := ⟨w.heap.size + 1, 8, none⟩) (by go_size)).trans cw4_10
  have cw5_11 : w5.cell? ⟨w.heap.size + 1, 9, none⟩ = some (l) := (hb.cell (p := ⟨w.heap.size + 1, 9, none⟩) (by go_size)).trans cw4_11
  have cw5_12 : w5.cell? ⟨m, 0, none⟩ = some (.int .i64 f2) := (hb.cell (p := ⟨m, 0, none⟩) (by go_size)).trans cw4_12
  have cw5_13 : w5.cell? ⟨m, 1, none⟩ = some (.int .i64 u2) := (hb.cell (p := ⟨m, 1, none⟩) (by go_size)).trans cw4_13
  have hmw5_m : m < w5.heap.size := Nat.lt_of_lt_of_le (by go_size) hb.size
  have hzw5 : w.heap.size + 2 ≤ w5.heap.size := Nat.le_trans (by go_size) hb.size
  have hBw5 : Below w.heap.size w w5 := hBw4.trans (hb.mono (by go_size))
  clear hb
  go_wp2_with fail
  refine (awake_any _).mono ?_
  rintro x w6 ⟨rfl, hb⟩
  have cw6_0 : w6.cell? ⟨w.heap.size, 0, none⟩ = some (.int .i64 f) := (hb.cell (p := ⟨w.heap.size, 0, none⟩) (by go_size)).trans cw5_0
  have cw6_1 : w6.cell? ⟨w.heap.size, 1, none⟩ = some (.int .i64 u) := (hb.cell (p := ⟨w.heap.size, 1, none⟩) (by go_size)).trans cw5_1
  have hzw6 : w.heap.size + 2 ≤ w6.heap.size := Nat.le_trans (by go_size) hb.size
  have hBw6 : Below w.heap.size w w6 := hBw5.trans (hb.mono (by go_size))
  clear hb
  go_wp2
  go_ret
  exact ⟨rfl, hBw6⟩

set_option maxHeartbeats 1600000 in
theorem turns_coreb (f u a b now e c pk pn bb k i uu s l) (w : World) (hfit : Fitting f u a b now)
    (hd : ∀ w, Calls Try.prog 14 #[.agg #[.int .i64 f, .int .i64 u], .int .i64 a, .int .i64 b, .int .i64 now, .agg #[.int .i64 e, c, pk, pn, bb, k, i, uu, s, l]] w fun x w' => x = .returned (.agg #[.int .i64 f, .int .i64 u]) ∧ Below w.heap.size w w')
    (hr : ∀ w, Calls Try.prog 15 #[.agg #[.int .i64 f, .int .i64 u], .int .i64 a, .int .i64 b, .int .i64 now, .agg #[.int .i64 e, c, pk, pn, bb, k, i, uu, s, l]] w fun x w' => x = .returned (.agg #[.int .i64 f, .int .i64 u]) ∧ Below w.heap.size w w')
    (g1 : 0 ≤ f) (g2 : f ≤ a) (g3 : 0 ≤ u) (g4 : u ≤ 2199023255552) (hk : kindB e = 0) :
    Calls Try.prog 4 #[.agg #[.int .i64 f, .int .i64 u], .int .i64 a, .int .i64 b, .int .i64 now, .agg #[.int .i64 e, c, pk, pn, bb, k, i, uu, s, l]] w fun x w' => x = .returned (.bool true) ∧ Below w.heap.size w w' := by
  have HD := Lib.hid hd
  have HR := Lib.hid hr
  clear hd hr
  go_enter Try.func4, Try.ntmps4
  go_wp2_with fail
  refine (fit_yes _ _ _ _ _ _ hfit).mono ?_
  rintro x w1 ⟨rfl, hb⟩
  have cw1_0 : w1.cell? ⟨w.heap.size, 0, none⟩ = some (.int .i64 f) := (hb.cell (p := ⟨w.heap.size, 0, none⟩) (by go_size)).trans (by go_cell)
  have cw1_1 : w1.cell? ⟨w.heap.size, 1, none⟩ = some (.int .i64 u) := (hb.cell (p := ⟨w.heap.size, 1, none⟩) (by go_size)).trans (by go_cell)
  have cw1_2 : w1.cell? ⟨w.heap.size + 1, 0, none⟩ = some (.int .i64 e) := (hb.cell (p := ⟨w.heap.size + 1, 0, none⟩) (by go_size)).trans (by go_cell)
  have cw1_3 : w1.cell? ⟨w.heap.size + 1, 1, none⟩ = some (c) := (hb.cell (p := ⟨w.heap.size + 1, 1, none⟩) (by go_size)).trans (by go_cell)
  have cw1_4 : w1.cell? ⟨w.heap.size + 1, 2, none⟩ = some (pk) := (hb.cell (p := ⟨w.heap.size + 1, 2, none⟩) (by go_size)).trans (by go_cell)
  have cw1_5 : w1.cell? ⟨w.heap.size + 1, 3, none⟩ = some (pn) := (hb.cell (p := ⟨w.heap.size + 1, 3, none⟩) (by go_size)).trans (by go_cell)
  have cw1_6 : w1.cell? ⟨w.heap.size + 1, 4, none⟩ = some (bb) := (hb.cell (p := ⟨w.heap.size + 1, 4, none⟩) (by go_size)).trans (by go_cell)
  have cw1_7 : w1.cell? ⟨w.heap.size + 1, 5, none⟩ = some (k) := (hb.cell (p := ⟨w.heap.size + 1, 5, none⟩) (by go_size)).trans (by go_cell)
  have cw1_8 : w1.cell? ⟨w.heap.size + 1, 6, none⟩ = some (i) := (hb.cell (p := ⟨w.heap.size + 1, 6, none⟩) (by go_size)).trans (by go_cell)
  have cw1_9 : w1.cell? ⟨w.heap.size + 1, 7, none⟩ = some (uu) := (hb.cell (p := ⟨w.heap.size + 1, 7, none⟩) (by go_size)).trans (by go_cell)
  have cw1_10 : w1.cell? ⟨w.heap.size + 1, 8, none⟩ = some (s) := (hb.cell (p := ⟨w.heap.size + 1, 8, none⟩) (by go_size)).trans (by go_cell)
  have cw1_11 : w1.cell? ⟨w.heap.size + 1, 9, none⟩ = some (l) := (hb.cell (p := ⟨w.heap.size + 1, 9, none⟩) (by go_size)).trans (by go_cell)
  have hzw1 : w.heap.size + 2 ≤ w1.heap.size := Nat.le_trans (by go_size) hb.size
  have hBw1 : Below w.heap.size w w1 := Below.trans (by go_grown) (hb.mono (by go_size))
  clear hb
  go_wp2_with fail
  refine (HD.out _).mono ?_
  rintro x w2 ⟨rfl, hb⟩
  have cw2_0 : w2.cell? ⟨w.heap.size, 0, none⟩ = some (.int .i64 f) := (hb.cell (p := ⟨w.heap.size, 0, none⟩) (by go_size)).trans cw1_0
  have cw2_1 : w2.cell? ⟨w.heap.size, 1, none⟩ = some (.int .i64 u) := (hb.cell (p := ⟨w.heap.size, 1, none⟩) (by go_size)).trans cw1_1
  have cw2_2 : w2.cell? ⟨w.heap.size + 1, 0, none⟩ = some (.int .i64 e) := (hb.cell (p := ⟨w.heap.size + 1, 0, none⟩) (by go_size)).trans cw1_2
  have cw2_3 : w2.cell? ⟨w.heap.size + 1, 1, none⟩ = some (c) := (hb.cell (p := ⟨w.heap.size + 1, 1, none⟩) (by go_size)).trans cw1_3
  have cw2_4 : w2.cell? ⟨w.heap.size + 1, 2, none⟩ = some (pk) := (hb.cell (p := ⟨w.heap.size + 1, 2, none⟩) (by go_size)).trans cw1_4
  have cw2_5 : w2.cell? ⟨w.heap.size + 1, 3, none⟩ = some (pn) := (hb.cell (p := ⟨w.heap.size + 1, 3, none⟩) (by go_size)).trans cw1_5
  have cw2_6 : w2.cell? ⟨w.heap.size + 1, 4, none⟩ = some (bb) := (hb.cell (p := ⟨w.heap.size + 1, 4, none⟩) (by go_size)).trans cw1_6
  have cw2_7 : w2.cell? ⟨w.heap.size + 1, 5, none⟩ = some (k) := (hb.cell (p := ⟨w.heap.size + 1, 5, none⟩) (by go_size)).trans cw1_7
  have cw2_8 : w2.cell? ⟨w.heap.size + 1, 6, none⟩ = some (i) := (hb.cell (p := ⟨w.heap.size + 1, 6, none⟩) (by go_size)).trans cw1_8
  have cw2_9 : w2.cell? ⟨w.heap.size + 1, 7, none⟩ = some (uu) := (hb.cell (p := ⟨w.heap.size + 1, 7, none⟩) (by go_size)).trans cw1_9
  have cw2_10 : w2.cell? ⟨w.heap.size + 1, 8, none⟩ = some (s) := (hb.cell (p := ⟨w.heap.size + 1, 8, none⟩) (by go_size)).trans cw1_10
  have cw2_11 : w2.cell? ⟨w.heap.size + 1, 9, none⟩ = some (l) := (hb.cell (p := ⟨w.heap.size + 1, 9, none⟩) (by go_size)).trans cw1_11
  have hzw2 : w.heap.size + 2 ≤ w2.heap.size := Nat.le_trans (by go_size) hb.size
  have hBw2 : Below w.heap.size w w2 := hBw1.trans (hb.mono (by go_size))
  clear cw1_0 cw1_1 cw1_2 cw1_3 cw1_4 cw1_5 cw1_6 cw1_7 cw1_8 cw1_9 cw1_10 cw1_11  hzw1 hBw1
  clear hb
  go_upto_region 4 with fail
  obtain ⟨m, hm⟩ : ∃ m, m = w2.heap.size := ⟨_, rfl⟩
  rw [← hm]
  have hcm0 : (w2.alloc (.cells #[.int .i64 f, .int .i64 u] 23)).cell? ⟨m, 0, none⟩ = some (.int .i64 f) := by rw [hm]; go_cell
  have hcm1 : (w2.alloc (.cells #[.int .i64 f, .int .i64 u] 23)).cell? ⟨m, 1, none⟩ = some (.int .i64 u) := by rw [hm]; go_cell
  have hms : m < w2.heap.size + 1 := by omega
  clear hm
  go_region_held3 (fun w' => w'.cell? ⟨w.heap.size, 0, none⟩ = some (.int .i64 f) ∧ w'.cell? ⟨w.heap.size, 1, none⟩ = some (.int .i64 u) ∧ w'.cell? ⟨w.heap.size + 1, 0, none⟩ = some (.int .i64 e) ∧ w'.cell? ⟨w.heap.size + 1, 1, none⟩ = some (c) ∧ w'.cell? ⟨w.heap.size + 1, 2, none⟩ = some (pk) ∧ w'.cell? ⟨w.heap.size + 1, 3, none⟩ = some (pn) ∧ w'.cell? ⟨w.heap.size + 1, 4, none⟩ = some (bb) ∧ w'.cell? ⟨w.heap.size + 1, 5, none⟩ = some (k) ∧ w'.cell? ⟨w.heap.size + 1, 6, none⟩ = some (i) ∧ w'.cell? ⟨w.heap.size + 1, 7, none⟩ = some (uu) ∧ w'.cell? ⟨w.heap.size + 1, 8, none⟩ = some (s) ∧ w'.cell? ⟨w.heap.size + 1, 9, none⟩ = some (l) ∧ w'.cell? ⟨m, 0, none⟩ = some (.int .i64 f) ∧ w'.cell? ⟨m, 1, none⟩ = some (.int .i64 u)) (first | (refine ⟨?_, ?_, ?_, ?_, ?_, ?_, ?_, ?_, ?_, ?_, ?_, ?_, ?_, ?_⟩ <;> (with_reducible assumption)) | (refine ⟨?_, ?_, ?_, ?_, ?_, ?_, ?_, ?_, ?_, ?_, ?_, ?_, ?_, ?_⟩ <;> (go_cell; done)) | go_keep | fail)
    (first | (go_at_call 15; refine (HR.out _).mono ?_; rintro x w3 ⟨rfl, hb⟩; have cw3_0 : w3.cell? ⟨w.heap.size, 0, none⟩ = some (.int .i64 f) := (hb.cell (p := ⟨w.heap.size, 0, none⟩) (by go_size)).trans (by go_cell); have cw3_1 : w3.cell? ⟨w.heap.size, 1, none⟩ = some (.int .i64 u) := (hb.cell (p := ⟨w.heap.size, 1, none⟩) (by go_size)).trans (by go_cell); have cw3_2 : w3.cell? ⟨w.heap.size + 1, 0, none⟩ = some (.int .i64 e) := (hb.cell (p := ⟨w.heap.size + 1, 0, none⟩) (by go_size)).trans (by go_cell); have cw3_3 : w3.cell? ⟨w.heap.size + 1, 1, none⟩ = some (c) := (hb.cell (p := ⟨w.heap.size + 1, 1, none⟩) (by go_size)).trans (by go_cell); have cw3_4 : w3.cell? ⟨w.heap.size + 1, 2, none⟩ = some (pk) := (hb.cell (p := ⟨w.heap.size + 1, 2, none⟩) (by go_size)).trans (by go_cell); have cw3_5 : w3.cell? ⟨w.heap.size + 1, 3, none⟩ = some (pn) := (hb.cell (p := ⟨w.heap.size + 1, 3, none⟩) (by go_size)).trans (by go_cell); have cw3_6 : w3.cell? ⟨w.heap.size + 1, 4, none⟩ = some (bb) := (hb.cell (p := ⟨w.heap.size + 1, 4, none⟩) (by go_size)).trans (by go_cell); have cw3_7 : w3.cell? ⟨w.heap.size + 1, 5, none⟩ = some (k) := (hb.cell (p := ⟨w.heap.size + 1, 5, none⟩) (by go_size)).trans (by go_cell); have cw3_8 : w3.cell? ⟨w.heap.size + 1, 6, none⟩ = some (i) := (hb.cell (p := ⟨w.heap.size + 1, 6, none⟩) (by go_size)).trans (by go_cell); have cw3_9 : w3.cell? ⟨w.heap.size + 1, 7, none⟩ = some (uu) := (hb.cell (p := ⟨w.heap.size + 1, 7, none⟩) (by go_size)).trans (by go_cell); have cw3_10 : w3.cell? ⟨w.heap.size + 1, 8, none⟩ = some (s) := (hb.cell (p := ⟨w.heap.size + 1, 8, none⟩) (by go_size)).trans (by go_cell); have cw3_11 : w3.cell? ⟨w.heap.size + 1, 9, none⟩ = some (l) := (hb.cell (p := ⟨w.heap.size + 1, 9, none⟩) (by go_size)).trans (by go_cell); have cw3_12 : w3.cell? ⟨m, 0, none⟩ = some (.int .i64 f) := (hb.cell (p := ⟨m, 0, none⟩) (by go_size)).trans (by go_cell); have cw3_13 : w3.cell? ⟨m, 1, none⟩ = some (.int .i64 u) := (hb.cell (p := ⟨m, 1, none⟩) (by go_size)).trans (by go_cell); have hmw3_m : m < w3.heap.size := Nat.lt_of_lt_of_le (by go_size) hb.size; have hzw3 : w.heap.size + 2 ≤ w3.heap.size := Nat.le_trans (by go_size) hb.size; have hBw3 : Below w.heap.size w w3 := Below.trans (by go_grown) (hb.mono (by go_size)); clear hb) | (go_at_call 16; refine (rfit_yes _ _ _ _ g1 g2 g3 g4).mono ?_; rintro x w4 ⟨rfl, hb⟩; have cw4_0 : w4.cell? ⟨w.heap.size, 0, none⟩ = some (.int .i64 f) := (hb.cell (p := ⟨w.heap.size, 0, none⟩) (by go_size)).trans (by go_cell); have cw4_1 : w4.cell? ⟨w.heap.size, 1, none⟩ = some (.int .i64 u) := (hb.cell (p := ⟨w.heap.size, 1, none⟩) (by go_size)).trans (by go_cell); have cw4_2 : w4.cell? ⟨w.heap.size + 1, 0, none⟩ = some (.int .i64 e) := (hb.cell (p := ⟨w.heap.size + 1, 0, none⟩) (by go_size)).trans (by go_cell); have cw4_3 : w4.cell? ⟨w.heap.size + 1, 1, none⟩ = some (c) := (hb.cell (p := ⟨w.heap.size + 1, 1, none⟩) (by go_size)).trans (by go_cell); have cw4_4 : w4.cell? ⟨w.heap.size + 1, 2, none⟩ = some (pk) := (hb.cell (p := ⟨w.heap.size + 1, 2, none⟩) (by go_size)).trans (by go_cell); have cw4_5 : w4.cell? ⟨w.heap.size + 1, 3, none⟩ = some (pn) := (hb.cell (p := ⟨w.heap.size + 1, 3, none⟩) (by go_size)).trans (by go_cell); have cw4_6 : w4.cell? ⟨w.heap.size + 1, 4, none⟩ = some (bb) := (hb.cell (p := ⟨w.heap.size + 1, 4, none⟩) (by go_size)).trans (by go_cell); have cw4_7 : w4.cell? ⟨w.heap.size + 1, 5, none⟩ = some (k) := (hb.cell (p := ⟨w.heap.size + 1, 5, none⟩) (by go_size)).trans (by go_cell); have cw4_8 : w4.cell? ⟨w.heap.size + 1, 6, none⟩ = some (i) := (hb.cell (p := ⟨w.heap.size + 1, 6, none⟩) (by go_size)).trans (by go_cell); have cw4_9 : w4.cell? ⟨w.heap.size + 1, 7, none⟩ = some (uu) := (hb.cell (p := ⟨w.heap.size + 1, 7, none⟩) (by go_size)).trans (by go_cell); have cw4_10 : w4.cell? ⟨w.heap.size + 1, 8, none⟩ = some (s) := (hb.cell (p := ⟨w.heap.size + 1, 8, none⟩) (by go_size)).trans (by go_cell); have cw4_11 : w4.cell? ⟨w.heap.size + 1, 9, none⟩ = some (l) := (hb.cell (p := ⟨w.heap.size + 1, 9, none⟩) (by go_size)).trans (by go_cell); have cw4_12 : w4.cell? ⟨m, 0, none⟩ = some (.int .i64 f) := (hb.cell (p := ⟨m, 0, none⟩) (by go_size)).trans (by go_cell); have cw4_13 : w4.cell? ⟨m, 1, none⟩ = some (.int .i64 u) := (hb.cell (p := ⟨m, 1, none⟩) (by go_size)).trans (by go_cell); have hmw4_m : m < w4.heap.size := Nat.lt_of_lt_of_le (by go_size) hb.size; have hzw4 : w.heap.size + 2 ≤ w4.heap.size := Nat.le_trans (by go_size) hb.size; have hBw4 : Below w.heap.size w w4 := Below.trans (by go_grown) (hb.mono (by go_size)); clear hb))
  go_wp2_with fail
  refine (kind_any _ _ _ _ _ _ _ _ _ _ _).mono ?_
  rintro x w5 ⟨rfl, hb⟩
  have cw5_0 : w5.cell? ⟨w.heap.size, 0, none⟩ = some (.int .i64 f) := (hb.cell (p := ⟨w.heap.size, 0, none⟩) (by go_size)).trans cw4_0
  have cw5_1 : w5.cell? ⟨w.heap.size, 1, none⟩ = some (.int .i64 u) := (hb.cell (p := ⟨w.heap.size, 1, none⟩) (by go_size)).trans cw4_1
  have cw5_2 : w5.cell? ⟨w.heap.size + 1, 0, none⟩ = some (.int .i64 e) := (hb.cell (p := ⟨w.heap.size + 1, 0, none⟩) (by go_size)).trans cw4_2
  have cw5_3 : w5.cell? ⟨w.heap.size + 1, 1, none⟩ = some (c) := (hb.cell (p := ⟨w.heap.size + 1, 1, none⟩) (by go_size)).trans cw4_3
  have cw5_4 : w5.cell? ⟨w.heap.size + 1, 2, none⟩ = some (pk) := (hb.cell (p := ⟨w.heap.size + 1, 2, none⟩) (by go_size)).trans cw4_4
  have cw5_5 : w5.cell? ⟨w.heap.size + 1, 3, none⟩ = some (pn) := (hb.cell (p := ⟨w.heap.size + 1, 3, none⟩) (by go_size)).trans cw4_5
  have cw5_6 : w5.cell? ⟨w.heap.size + 1, 4, none⟩ = some (bb) := (hb.cell (p := ⟨w.heap.size + 1, 4, none⟩) (by go_size)).trans cw4_6
  have cw5_7 : w5.cell? ⟨w.heap.size + 1, 5, none⟩ = some (k) := (hb.cell (p := ⟨w.heap.size + 1, 5, none⟩) (by go_size)).trans cw4_7
  have cw5_8 : w5.cell? ⟨w.heap.size + 1, 6, none⟩ = some (i) := (hb.cell (p := ⟨w.heap.size + 1, 6, none⟩) (by go_size)).trans cw4_8
  have cw5_9 : w5.cell? ⟨w.heap.size + 1, 7, none⟩ = some (uu) := (hb.cell (p := ⟨w.heap.size + 1, 7, none⟩) (by go_size)).trans cw4_9
  have cw5_10 : w5.cell? ⟨w.heap.size + 1, 8, none⟩ = some (s) := (hb.cell (p := ⟨w.heap.size + 1, 8, none⟩) (by go_size)).trans cw4_10
  have cw5_11 : w5.cell? ⟨w.heap.size + 1, 9, none⟩ = some (l) := (hb.cell (p := ⟨w.heap.size + 1, 9, none⟩) (by go_size)).trans cw4_11
  have cw5_12 : w5.cell? ⟨m, 0, none⟩ = some (.int .i64 f) := (hb.cell (p := ⟨m, 0, none⟩) (by go_size)).trans cw4_12
  have cw5_13 : w5.cell? ⟨m, 1, none⟩ = some (.int .i64 u) := (hb.cell (p := ⟨m, 1, none⟩) (by go_size)).trans cw4_13
  have hmw5_m : m < w5.heap.size := Nat.lt_of_lt_of_le (by go_size) hb.size
  have hzw5 : w.heap.size + 2 ≤ w5.heap.size := Nat.le_trans (by go_size) hb.size
  have hBw5 : Below w.heap.size w w5 := hBw4.trans (hb.mono (by go_size))
  clear hb
  go_wp2_with fail
  refine (awake_any _).mono ?_
  rintro x w6 ⟨rfl, hb⟩
  have cw6_0 : w6.cell? ⟨w.heap.size, 0, none⟩ = some (.int .i64 f) := (hb.cell (p := ⟨w.heap.size, 0, none⟩) (by go_size)).trans cw5_0
  have cw6_1 : w6.cell? ⟨w.heap.size, 1, none⟩ = some (.int .i64 u) := (hb.cell (p := ⟨w.heap.size, 1, none⟩) (by go_size)).trans cw5_1
  have hzw6 : w.heap.size + 2 ≤ w6.heap.size := Nat.le_trans (by go_size) hb.size
  have hBw6 : Below w.heap.size w w6 := hBw5.trans (hb.mono (by go_size))
  clear hb
  go_wp2
  go_ret
  exact ⟨rfl, hBw6⟩

theorem kindB_cases (e : Int) : kindB e = 1 ∨ kindB e = -1 ∨ kindB e = 0 := by
  unfold kindB
  split
  · exact Or.inl rfl
  · split
    · exact Or.inr (Or.inl rfl)
    · split
      · exact Or.inr (Or.inl rfl)
      · split
        · exact Or.inr (Or.inl rfl)
        · exact Or.inr (Or.inr rfl)

theorem turns_no (f u a b now e c pk pn bb k i uu s l) (w : World) (hfit : ¬ Fitting f u a b now) :
    Calls Try.prog 4 #[.agg #[.int .i64 f, .int .i64 u], .int .i64 a, .int .i64 b, .int .i64 now, .agg #[.int .i64 e, c, pk, pn, bb, k, i, uu, s, l]] w fun x w' => x = .returned (.bool true) ∧ Below w.heap.size w w' := by
  go_enter Try.func4, Try.ntmps4
  go_wp2_with fail
  refine (fit_no _ _ _ _ _ _ hfit).mono ?_
  rintro x w1 ⟨rfl, hb⟩
  have cw1_0 : w1.cell? ⟨w.heap.size, 0, none⟩ = some (.int .i64 f) := (hb.cell (p := ⟨w.heap.size, 0, none⟩) (by go_size)).trans (by go_cell)
  have hzw1 : w.heap.size + 2 ≤ w1.heap.size := Nat.le_trans (by go_size) hb.size
  have hBw1 : Below w.heap.size w w1 := Below.trans (by go_grown) (hb.mono (by go_size))
  clear hb

  go_wp2_with fail
  refine (awake_any _).mono ?_
  rintro x w2 ⟨rfl, hb⟩
  have cw2_0 : w2.cell? ⟨w.heap.size, 0, none⟩ = some (.int .i64 f) := (hb.cell (p := ⟨w.heap.size, 0, none⟩) (by go_size)).trans cw1_0
  have hzw2 : w.heap.size + 2 ≤ w2.heap.size := Nat.le_trans (by go_size) hb.size
  have hBw2 : Below w.heap.size w w2 := hBw1.trans (hb.mono (by go_size))
  clear cw1_0  hzw1 hBw1
  clear hb
  go_wp2
  go_ret
  exact ⟨rfl, hBw2⟩

theorem turns_any (f u a b now e c pk pn bb k i uu s l) (w : World) :
    Calls Try.prog 4 #[.agg #[.int .i64 f, .int .i64 u], .int .i64 a, .int .i64 b, .int .i64 now, .agg #[.int .i64 e, c, pk, pn, bb, k, i, uu, s, l]] w fun x w' => x = .returned (.bool true) ∧ Below w.heap.size w w' := by
  by_cases hfit : Fitting f u a b now
  · have ⟨h1, h2, h3, h4, h5, h6, h7, h8, h9, h10⟩ := hfit
    have hk : kindB e = 1 ∨ kindB e = -1 ∨ kindB e = 0 := kindB_cases e
    rcases hk with hk | hk | hk
    · exact turns_corea f u a b now 0 0 e c pk pn bb k i uu s l w hfit (fun w => done_good _ _ _ _ _ _ _ _ _ _ _ _ _ _ _ w hk) (fun w => rdone_good _ _ _ _ _ _ _ _ _ _ _ _ _ _ _ w hk) (by omega) (by omega) (by omega) (by omega) (by rw [hk]; rfl)
    · have hkb : (kindB e != 0) = true := by rw [hk]; rfl
      by_cases hf : f < a
      · by_cases h3 : f + 1 < a
        · exact turns_corea f u a b now (f + 1) u e c pk pn bb k i uu s l w hfit (fun w => done_bad0 _ _ _ _ _ _ _ _ _ _ _ _ _ _ _ _ w (by unfold Hid; rw [if_pos h3]) hk h7 h2 hf (by omega) h4 h5 h6) (fun w => rdone_bad0a _ _ _ _ _ _ _ _ _ _ _ _ _ _ _ w hk h7 h2 hf h3) (by omega) (by omega) (by omega) (by omega) hkb
        · exact turns_corea f u a b now (f + 1) (now + b) e c pk pn bb k i uu s l w hfit (fun w => done_bad0 _ _ _ _ _ _ _ _ _ _ _ _ _ _ _ _ w (by unfold Hid; rw [if_neg h3]) hk h7 h2 hf (by omega) h4 h5 h6) (fun w => rdone_bad0b _ _ _ _ _ _ _ _ _ _ _ _ _ _ _ w hk h7 h2 hf (by omega) (by omega) h4 h5 h6) (by omega) (by omega) (by omega) (by omega) hkb
      · by_cases hu : now < u
        · exact turns_corea f u a b now f u e c pk pn bb k i uu s l w hfit (fun w => done_bad1 _ _ _ _ _ _ _ _ _ _ _ _ _ _ _ w hk (by omega) hu) (fun w => rdone_bad1 _ _ _ _ _ _ _ _ _ _ _ _ _ _ _ w hk (by omega) hu) (by omega) (by omega) (by omega) (by omega) hkb
        · exact turns_corea f u a b now f (now + b) e c pk pn bb k i uu s l w hfit (fun w => done_bad2 _ _ _ _ _ _ _ _ _ _ _ _ _ _ _ w hk (by omega) (by omega) (by omega) h4 h5 h6) (fun w => rdone_bad2 _ _ _ _ _ _ _ _ _ _ _ _ _ _ _ w hk (by omega) (by omega) (by omega) h4 h5 h6) (by omega) (by omega) (by omega) (by omega) hkb
    · exact turns_coreb f u a b now e c pk pn bb k i uu s l w hfit (fun w => done_none _ _ _ _ _ _ _ _ _ _ _ _ _ _ _ w hk) (fun w => rdone_none _ _ _ _ _ _ _ _ _ _ _ _ _ _ _ w hk) (by omega) (by omega) (by omega) (by omega) hk
  · exact turns_no f u a b now e c pk pn bb k i uu s l w hfit

end Go.Proofs.Yteplhhlgceppkaa
