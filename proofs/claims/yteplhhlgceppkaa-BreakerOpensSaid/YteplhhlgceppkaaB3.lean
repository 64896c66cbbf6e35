/- Contracts of the reference's Done and Fit, of the law's fit. -/
import Derived.Test.YteplhhlgceppkaaB2
namespace Go.Proofs.Yteplhhlgceppkaa
open Go.RowKit

set_option maxHeartbeats 800000 in
theorem rdone_good (f u a b now e c pk pn bb k i uu s l) (w : World) (hk : kindB e = 1)  :
    Calls Try.prog 15 #[.agg #[.int .i64 f, .int .i64 u], .int .i64 a, .int .i64 b, .int .i64 now, .agg #[.int .i64 e, c, pk, pn, bb, k, i, uu, s, l]] w fun x w' => x = .returned (.agg #[.int .i64 0, .int .i64 0]) ∧ Below w.heap.size w w' := by
  go_enter Try.func15, Try.ntmps15
  go_wp2_with fail
  refine (rkind_any _ _ _ _ _ _ _ _ _ _ _).mono ?_
  rintro x w1 ⟨rfl, hb⟩
  have cw1_0 : w1.cell? ⟨w.heap.size, 0, none⟩ = some (.int .i64 f) := (hb.cell (p := ⟨w.heap.size, 0, none⟩) (by go_size)).trans (by go_cell)
  have fw1_0 : w1.frozen? ⟨w.heap.size, 0, none⟩ = false := (hb.frozen (p := ⟨w.heap.size, 0, none⟩) (by go_size)).trans (by go_cell)
  have cw1_1 : w1.cell? ⟨w.heap.size, 1, none⟩ = some (.int .i64 u) := (hb.cell (p := ⟨w.heap.size, 1, none⟩) (by go_size)).trans (by go_cell)
  have fw1_1 : w1.frozen? ⟨w.heap.size, 1, none⟩ = false := (hb.frozen (p := ⟨w.heap.size, 1, none⟩) (by go_size)).trans (by go_cell)
  have cw1_2 : w1.cell? ⟨w.heap.size + 1 + 1, 0, none⟩ = some (.int .i64 0) := (hb.cell (p := ⟨w.heap.size + 1 + 1, 0, none⟩) (by go_size)).trans (by go_cell)
  have fw1_2 : w1.frozen? ⟨w.heap.size + 1 + 1, 0, none⟩ = false := (hb.frozen (p := ⟨w.heap.size + 1 + 1, 0, none⟩) (by go_size)).trans (by go_cell)
  have cw1_3 : w1.cell? ⟨w.heap.size + 1 + 1, 1, none⟩ = some (.int .i64 0) := (hb.cell (p := ⟨w.heap.size + 1 + 1, 1, none⟩) (by go_size)).trans (by go_cell)
  have fw1_3 : w1.frozen? ⟨w.heap.size + 1 + 1, 1, none⟩ = false := (hb.frozen (p := ⟨w.heap.size + 1 + 1, 1, none⟩) (by go_size)).trans (by go_cell)
  have hzw1 : w.heap.size + 3 ≤ w1.heap.size := Nat.le_trans (by go_size) hb.size
  have hBw1 : Below w.heap.size w w1 := Below.trans (by go_grown) (hb.mono (by go_size))
  clear hb
  go_wp2
  refine bodyPost_ret (v := .agg #[.int .i64 0, .int .i64 0]) (by simp [results, Try.results15, go_sem, cw1_2, cw1_3]) rfl ⟨rfl, ?_⟩
  repeat' (first | (with_reducible exact hBw1) | (with_reducible refine Below.setCell ?_ ?_ _) | go_size)

set_option maxHeartbeats 800000 in
theorem rdone_none (f u a b now e c pk pn bb k i uu s l) (w : World) (hk : kindB e = 0)  :
    Calls Try.prog 15 #[.agg #[.int .i64 f, .int .i64 u], .int .i64 a, .int .i64 b, .int .i64 now, .agg #[.int .i64 e, c, pk, pn, bb, k, i, uu, s, l]] w fun x w' => x = .returned (.agg #[.int .i64 f, .int .i64 u]) ∧ Below w.heap.size w w' := by
  go_enter Try.func15, Try.ntmps15
  go_wp2_with fail
  refine (rkind_any _ _ _ _ _ _ _ _ _ _ _).mono ?_
  rintro x w1 ⟨rfl, hb⟩
  have cw1_0 : w1.cell? ⟨w.heap.size, 0, none⟩ = some (.int .i64 f) := (hb.cell (p := ⟨w.heap.size, 0, none⟩) (by go_size)).trans (by go_cell)
  have fw1_0 : w1.frozen? ⟨w.heap.size, 0, none⟩ = false := (hb.frozen (p := ⟨w.heap.size, 0, none⟩) (by go_size)).trans (by go_cell)
  have cw1_1 : w1.cell? ⟨w.heap.size, 1, none⟩ = some (.int .i64 u) := (hb.cell (p := ⟨w.heap.size, 1, none⟩) (by go_size)).trans (by go_cell)
  have fw1_1 : w1.frozen? ⟨w.heap.size, 1, none⟩ = false := (hb.frozen (p := ⟨w.heap.size, 1, none⟩) (by go_size)).trans (by go_cell)
  have cw1_2 : w1.cell? ⟨w.heap.size + 1 + 1, 0, none⟩ = some (.int .i64 0) := (hb.cell (p := ⟨w.heap.size + 1 + 1, 0, none⟩) (by go_size)).trans (by go_cell)
  have fw1_2 : w1.frozen? ⟨w.heap.size + 1 + 1, 0, none⟩ = false := (hb.frozen (p := ⟨w.heap.size + 1 + 1, 0, none⟩) (by go_size)).trans (by go_cell)
  have cw1_3 : w1.cell? ⟨w.heap.size + 1 + 1, 1, none⟩ = some (.int .i64 0) := (hb.cell (p := ⟨w.heap.size + 1 + 1, 1, none⟩) (by go_size)).trans (by go_cell)
  have fw1_3 : w1.frozen? ⟨w.heap.size + 1 + 1, 1, none⟩ = false := (hb.frozen (p := ⟨w.heap.size + 1 + 1, 1, none⟩) (by go_size)).trans (by go_cell)
  have hzw1 : w.heap.size + 3 ≤ w1.heap.size := Nat.le_trans (by go_size) hb.size
  have hBw1 : Below w.heap.size w w1 := Below.trans (by go_grown) (hb.mono (by go_size))
  clear hb
  go_wp2
  refine bodyPost_ret (v := .agg #[.int .i64 f, .int .i64 u]) (by simp [results, Try.results15, go_sem, cw1_2, cw1_3]) rfl ⟨rfl, ?_⟩
  repeat' (first | (with_reducible exact hBw1) | (with_reducible refine Below.setCell ?_ ?_ _) | go_size)

set_option maxHeartbeats 800000 in
theorem rdone_bad0a (f u a b now e c pk pn bb k i uu s l) (w : World) (hk : kindB e = -1) (hf : 0 ≤ f) (ha : a ≤ 1000) (h : f < a) (h3 : f + 1 < a) :
    Calls Try.prog 15 #[.agg #[.int .i64 f, .int .i64 u], .int .i64 a, .int .i64 b, .int .i64 now, .agg #[.int .i64 e, c, pk, pn, bb, k, i, uu, s, l]] w fun x w' => x = .returned (.agg #[.int .i64 (f + 1), .int .i64 u]) ∧ Below w.heap.size w w' := by
  have hs : stateB f u a now = 0 := stateB0 h
  go_enter Try.func15, Try.ntmps15
  go_wp2_with fail
  refine (rkind_any _ _ _ _ _ _ _ _ _ _ _).mono ?_
  rintro x w1 ⟨rfl, hb⟩
  have cw1_0 : w1.cell? ⟨w.heap.size, 0, none⟩ = some (.int .i64 f) := (hb.cell (p := ⟨w.heap.size, 0, none⟩) (by go_size)).trans (by go_cell)
  have fw1_0 : w1.frozen? ⟨w.heap.size, 0, none⟩ = false := (hb.frozen (p := ⟨w.heap.size, 0, none⟩) (by go_size)).trans (by go_cell)
  have cw1_1 : w1.cell? ⟨w.heap.size, 1, none⟩ = some (.int .i64 u) := (hb.cell (p := ⟨w.heap.size, 1, none⟩) (by go_size)).trans (by go_cell)
  have fw1_1 : w1.frozen? ⟨w.heap.size, 1, none⟩ = false := (hb.frozen (p := ⟨w.heap.size, 1, none⟩) (by go_size)).trans (by go_cell)
  have cw1_2 : w1.cell? ⟨w.heap.size + 1 + 1, 0, none⟩ = some (.int .i64 0) := (hb.cell (p := ⟨w.heap.size + 1 + 1, 0, none⟩) (by go_size)).trans (by go_cell)
  have fw1_2 : w1.frozen? ⟨w.heap.size + 1 + 1, 0, none⟩ = false := (hb.frozen (p := ⟨w.heap.size + 1 + 1, 0, none⟩) (by go_size)).trans (by go_cell)
  have cw1_3 : w1.cell? ⟨w.heap.size + 1 + 1, 1, none⟩ = some (.int .i64 0) := (hb.cell (p := ⟨w.heap.size + 1 + 1, 1, none⟩) (by go_size)).trans (by go_cell)
  have fw1_3 : w1.frozen? ⟨w.heap.size + 1 + 1, 1, none⟩ = false := (hb.frozen (p := ⟨w.heap.size + 1 + 1, 1, none⟩) (by go_size)).trans (by go_cell)
  have hzw1 : w.heap.size + 3 ≤ w1.heap.size := Nat.le_trans (by go_size) hb.size
  have hBw1 : Below w.heap.size w w1 := Below.trans (by go_grown) (hb.mono (by go_size))
  clear hb
  go_wp2_with fail
  refine (rstate_any _ _ _ _ _).mono ?_
  rintro x w2 ⟨rfl, hb⟩
  have cw2_0 : w2.cell? ⟨w.heap.size, 0, none⟩ = some (.int .i64 f) := (hb.cell (p := ⟨w.heap.size, 0, none⟩) (by go_size)).trans cw1_0
  have fw2_0 : w2.frozen? ⟨w.heap.size, 0, none⟩ = false := (hb.frozen (p := ⟨w.heap.size, 0, none⟩) (by go_size)).trans fw1_0
  have cw2_1 : w2.cell? ⟨w.heap.size, 1, none⟩ = some (.int .i64 u) := (hb.cell (p := ⟨w.heap.size, 1, none⟩) (by go_size)).trans cw1_1
  have fw2_1 : w2.frozen? ⟨w.heap.size, 1, none⟩ = false := (hb.frozen (p := ⟨w.heap.size, 1, none⟩) (by go_size)).trans fw1_1
  have cw2_2 : w2.cell? ⟨w.heap.size + 1 + 1, 0, none⟩ = some (.int .i64 0) := (hb.cell (p := ⟨w.heap.size + 1 + 1, 0, none⟩) (by go_size)).trans cw1_2
  have fw2_2 : w2.frozen? ⟨w.heap.size + 1 + 1, 0, none⟩ = false := (hb.frozen (p := ⟨w.heap.size + 1 + 1, 0, none⟩) (by go_size)).trans fw1_2
  have cw2_3 : w2.cell? ⟨w.heap.size + 1 + 1, 1, none⟩ = some (.int .i64 0) := (hb.cell (p := ⟨w.heap.size + 1 + 1, 1, none⟩) (by go_size)).trans cw1_3
  have fw2_3 : w2.frozen? ⟨w.heap.size + 1 + 1, 1, none⟩ = false := (hb.frozen (p := ⟨w.heap.size + 1 + 1, 1, none⟩) (by go_size)).trans fw1_3
  have hzw2 : w.heap.size + 3 ≤ w2.heap.size := Nat.le_trans (by go_size) hb.size
  have hBw2 : Below w.heap.size w w2 := hBw1.trans (hb.mono (by go_size))
  clear cw1_0 fw1_0 cw1_1 fw1_1 cw1_2 fw1_2 cw1_3 fw1_3  hzw1 hBw1
  clear hb
  go_wp2_with fail
  refine (rstate_any _ _ _ _ _).mono ?_
  rintro x w3 ⟨rfl, hb⟩
  have cw3_0 : w3.cell? ⟨w.heap.size, 0, none⟩ = some (.int .i64 f) := (hb.cell (p := ⟨w.heap.size, 0, none⟩) (by go_size)).trans cw2_0
  have fw3_0 : w3.frozen? ⟨w.heap.size, 0, none⟩ = false := (hb.frozen (p := ⟨w.heap.size, 0, none⟩) (by go_size)).trans fw2_0
  have cw3_1 : w3.cell? ⟨w.heap.size, 1, none⟩ = some (.int .i64 u) := (hb.cell (p := ⟨w.heap.size, 1, none⟩) (by go_size)).trans cw2_1
  have fw3_1 : w3.frozen? ⟨w.heap.size, 1, none⟩ = false := (hb.frozen (p := ⟨w.heap.size, 1, none⟩) (by go_size)).trans fw2_1
  have cw3_2 : w3.cell? ⟨w.heap.size + 1 + 1, 0, none⟩ = some (.int .i64 0) := (hb.cell (p := ⟨w.heap.size + 1 + 1, 0, none⟩) (by go_size)).trans cw2_2
  have fw3_2 : w3.frozen? ⟨w.heap.size + 1 + 1, 0, none⟩ = false := (hb.frozen (p := ⟨w.heap.size + 1 + 1, 0, none⟩) (by go_size)).trans fw2_2
  have cw3_3 : w3.cell? ⟨w.heap.size + 1 + 1, 1, none⟩ = some (.int .i64 0) := (hb.cell (p := ⟨w.heap.size + 1 + 1, 1, none⟩) (by go_size)).trans cw2_3
  have fw3_3 : w3.frozen? ⟨w.heap.size + 1 + 1, 1, none⟩ = false := (hb.frozen (p := ⟨w.heap.size + 1 + 1, 1, none⟩) (by go_size)).trans fw2_3
  have hzw3 : w.heap.size + 3 ≤ w3.heap.size := Nat.le_trans (by go_size) hb.size
  have hBw3 : Below w.heap.size w w3 := hBw2.trans (hb.mono (by go_size))
  clear cw2_0 fw2_0 cw2_1 fw2_1 cw2_2 fw2_2 cw2_3 fw2_3  hzw2 hBw2
  clear hb
  go_wp2
  refine bodyPost_ret (v := .agg #[.int .i64 (f + 1), .int .i64 u]) (by simp [results, Try.results15, go_sem, cw3_2, cw3_3]) rfl ⟨rfl, ?_⟩
  repeat' (first | (with_reducible exact hBw3) | (with_reducible refine Below.setCell ?_ ?_ _) | go_size)

set_option maxHeartbeats 800000 in
theorem rdone_bad0b (f u a b now e c pk pn bb k i uu s l) (w : World) (hk : kindB e = -1) (hf : 0 ≤ f) (ha : a ≤ 1000) (h : f < a) (h3 : a ≤ f + 1) (hb1 : 0 ≤ b) (hb2 : b ≤ 1000000) (hn1 : 0 ≤ now) (hn2 : now ≤ 1099511627776) :
    Calls Try.prog 15 #[.agg #[.int .i64 f, .int .i64 u], .int .i64 a, .int .i64 b, .int .i64 now, .agg #[.int .i64 e, c, pk, pn, bb, k, i, uu, s, l]] w fun x w' => x = .returned (.agg #[.int .i64 (f + 1), .int .i64 (now + b)]) ∧ Below w.heap.size w w' := by
  have hs : stateB f u a now = 0 := stateB0 h
  go_enter Try.func15, Try.ntmps15
  go_wp2_with fail
  refine (rkind_any _ _ _ _ _ _ _ _ _ _ _).mono ?_
  rintro x w1 ⟨rfl, hb⟩
  have cw1_0 : w1.cell? ⟨w.heap.size, 0, none⟩ = some (.int .i64 f) := (hb.cell (p := ⟨w.heap.size, 0, none⟩) (by go_size)).trans (by go_cell)
  have fw1_0 : w1.frozen? ⟨w.heap.size, 0, none⟩ = false := (hb.frozen (p := ⟨w.heap.size, 0, none⟩) (by go_size)).trans (by go_cell)
  have cw1_1 : w1.cell? ⟨w.heap.size, 1, none⟩ = some (.int .i64 u) := (hb.cell (p := ⟨w.heap.size, 1, none⟩) (by go_size)).trans (by go_cell)
  have fw1_1 : w1.frozen? ⟨w.heap.size, 1, none⟩ = false := (hb.frozen (p := ⟨w.heap.size, 1, none⟩) (by go_size)).trans (by go_cell)
  have cw1_2 : w1.cell? ⟨w.heap.size + 1 + 1, 0, none⟩ = some (.int .i64 0) := (hb.cell (p := ⟨w.heap.size + 1 + 1, 0, none⟩) (by go_size)).trans (by go_cell)
  have fw1_2 : w1.frozen? ⟨w.heap.size + 1 + 1, 0, none⟩ = false := (hb.frozen (p := ⟨w.heap.size + 1 + 1, 0, none⟩) (by go_size)).trans (by go_cell)
  have cw1_3 : w1.cell? ⟨w.heap.size + 1 + 1, 1, none⟩ = some (.int .i64 0) := (hb.cell (p := ⟨w.heap.size + 1 + 1, 1, none⟩) (by go_size)).trans (by go_cell)
  have fw1_3 : w1.frozen? ⟨w.heap.size + 1 + 1, 1, none⟩ = false := (hb.frozen (p := ⟨w.heap.size + 1 + 1, 1, none⟩) (by go_size)).trans (by go_cell)
  have hzw1 : w.heap.size + 3 ≤ w1.heap.size := Nat.le_trans (by go_size) hb.size
  have hBw1 : Below w.heap.size w w1 := Below.trans (by go_grown) (hb.mono (by go_size))
  clear hb
  go_wp2_with fail
  refine (rstate_any _ _ _ _ _).mono ?_
  rintro x w2 ⟨rfl, hb⟩
  have cw2_0 : w2.cell? ⟨w.heap.size, 0, none⟩ = some (.int .i64 f) := (hb.cell (p := ⟨w.heap.size, 0, none⟩) (by go_size)).trans cw1_0
  have fw2_0 : w2.frozen? ⟨w.heap.size, 0, none⟩ = false := (hb.frozen (p := ⟨w.heap.size, 0, none⟩) (by go_size)).trans fw1_0
  have cw2_1 : w2.cell? ⟨w.heap.size, 1, none⟩ = some (.int .i64 u) := (hb.cell (p := ⟨w.heap.size, 1, none⟩) (by go_size)).trans cw1_1
  have fw2_1 : w2.frozen? ⟨w.heap.size, 1, none⟩ = false := (hb.frozen (p := ⟨w.heap.size, 1, none⟩) (by go_size)).trans fw1_1
  have cw2_2 : w2.cell? ⟨w.heap.size + 1 + 1, 0, none⟩ = some (.int .i64 0) := (hb.cell (p := ⟨w.heap.size + 1 + 1, 0, none⟩) (by go_size)).trans cw1_2
  have fw2_2 : w2.frozen? ⟨w.heap.size + 1 + 1, 0, none⟩ = false := (hb.frozen (p := ⟨w.heap.size + 1 + 1, 0, none⟩) (by go_size)).trans fw1_2
  have cw2_3 : w2.cell? ⟨w.heap.size + 1 + 1, 1, none⟩ = some (.int .i64 0) := (hb.cell (p := ⟨w.heap.size + 1 + 1, 1, none⟩) (by go_size)).trans cw1_3
  have fw2_3 : w2.frozen? ⟨w.heap.size + 1 + 1, 1, none⟩ = false := (hb.frozen (p := ⟨w.heap.size + 1 + 1, 1, none⟩) (by go_size)).trans fw1_3
  have hzw2 : w.heap.size + 3 ≤ w2.heap.size := Nat.le_trans (by go_size) hb.size
  have hBw2 : Below w.heap.size w w2 := hBw1.trans (hb.mono (by go_size))
  clear cw1_0 fw1_0 cw1_1 fw1_1 cw1_2 fw1_2 cw1_3 fw1_3  hzw1 hBw1
  clear hb
  go_wp2_with fail
  refine (rstate_any _ _ _ _ _).mono ?_
  rintro x w3 ⟨rfl, hb⟩
  have cw3_0 : w3.cell? ⟨w.heap.size, 0, none⟩ = some (.int .i64 f) := (hb.cell (p := ⟨w.heap.size, 0, none⟩) (by go_size)).trans cw2_0
  have fw3_0 : w3.frozen? ⟨w.heap.size, 0, none⟩ = false := (hb.frozen (p := ⟨w.heap.size, 0, none⟩) (by go_size)).trans fw2_0
  have cw3_1 : w3.cell? ⟨w.heap.size, 1, none⟩ = some (.int .i64 u) := (hb.cell (p := ⟨w.heap.size, 1, none⟩) (by go_size)).trans cw2_1
  have fw3_1 : w3.frozen? ⟨w.heap.size, 1, none⟩ = false := (hb.frozen (p := ⟨w.heap.size, 1, none⟩) (by go_size)).trans fw2_1
  have cw3_2 : w3.cell? ⟨w.heap.size + 1 + 1, 0, none⟩ = some (.int .i64 0) := (hb.cell (p := ⟨w.heap.size + 1 + 1, 0, none⟩) (by go_size)).trans cw2_2
  have fw3_2 : w3.frozen? ⟨w.heap.size + 1 + 1, 0, none⟩ = false := (hb.frozen (p := ⟨w.heap.size + 1 + 1, 0, none⟩) (by go_size)).trans fw2_2
  have cw3_3 : w3.cell? ⟨w.heap.size + 1 + 1, 1, none⟩ = some (.int .i64 0) := (hb.cell (p := ⟨w.heap.size + 1 + 1, 1, none⟩) (by go_size)).trans cw2_3
  have fw3_3 : w3.frozen? ⟨w.heap.size + 1 + 1, 1, none⟩ = false := (hb.frozen (p := ⟨w.heap.size + 1 + 1, 1, none⟩) (by go_size)).trans fw2_3
  have hzw3 : w.heap.size + 3 ≤ w3.heap.size := Nat.le_trans (by go_size) hb.size
  have hBw3 : Below w.heap.size w w3 := hBw2.trans (hb.mono (by go_size))
  clear cw2_0 fw2_0 cw2_1 fw2_1 cw2_2 fw2_2 cw2_3 fw2_3  hzw2 hBw2
  clear hb
  go_wp2
  refine bodyPost_ret (v := .agg #[.int .i64 (f + 1), .int .i64 (now + b)]) (by simp [results, Try.results15, go_sem, cw3_2, cw3_3]) rfl ⟨rfl, ?_⟩
  repeat' (first | (with_reducible exact hBw3) | (with_reducible refine Below.setCell ?_ ?_ _) | go_size)

set_option maxHeartbeats 800000 in
theorem rdone_bad1 (f u a b now e c pk pn bb k i uu s l) (w : World) (hk : kindB e = -1) (h : a ≤ f) (h2 : now < u) :
    Calls Try.prog 15 #[.agg #[.int .i64 f, .int .i64 u], .int .i64 a, .int .i64 b, .int .i64 now, .agg #[.int .i64 e, c, pk, pn, bb, k, i, uu, s, l]] w fun x w' => x = .returned (.agg #[.int .i64 f, .int .i64 u]) ∧ Below w.heap.size w w' := by
  have hs : stateB f u a now = 1 := stateB1 (by omega) h2
  go_enter Try.func15, Try.ntmps15
  go_wp2_with fail
  refine (rkind_any _ _ _ _ _ _ _ _ _ _ _).mono ?_
  rintro x w1 ⟨rfl, hb⟩
  have cw1_0 : w1.cell? ⟨w.heap.size, 0, none⟩ = some (.int .i64 f) := (hb.cell (p := ⟨w.heap.size, 0, none⟩) (by go_size)).trans (by go_cell)
  have fw1_0 : w1.frozen? ⟨w.heap.size, 0, none⟩ = false := (hb.frozen (p := ⟨w.heap.size, 0, none⟩) (by go_size)).trans (by go_cell)
  have cw1_1 : w1.cell? ⟨w.heap.size, 1, none⟩ = some (.int .i64 u) := (hb.cell (p := ⟨w.heap.size, 1, none⟩) (by go_size)).trans (by go_cell)
  have fw1_1 : w1.frozen? ⟨w.heap.size, 1, none⟩ = false := (hb.frozen (p := ⟨w.heap.size, 1, none⟩) (by go_size)).trans (by go_cell)
  have cw1_2 : w1.cell? ⟨w.heap.size + 1 + 1, 0, none⟩ = some (.int .i64 0) := (hb.cell (p := ⟨w.heap.size + 1 + 1, 0, none⟩) (by go_size)).trans (by go_cell)
  have fw1_2 : w1.frozen? ⟨w.heap.size + 1 + 1, 0, none⟩ = false := (hb.frozen (p := ⟨w.heap.size + 1 + 1, 0, none⟩) (by go_size)).trans (by go_cell)
  have cw1_3 : w1.cell? ⟨w.heap.size + 1 + 1, 1, none⟩ = some (.int .i64 0) := (hb.cell (p := ⟨w.heap.size + 1 + 1, 1, none⟩) (by go_size)).trans (by go_cell)
  have fw1_3 : w1.frozen? ⟨w.heap.size + 1 + 1, 1, none⟩ = false := (hb.frozen (p := ⟨w.heap.size + 1 + 1, 1, none⟩) (by go_size)).trans (by go_cell)
  have hzw1 : w.heap.size + 3 ≤ w1.heap.size := Nat.le_trans (by go_size) hb.size
  have hBw1 : Below w.heap.size w w1 := Below.trans (by go_grown) (hb.mono (by go_size))
  clear hb
  go_wp2_with fail
  refine (rstate_any _ _ _ _ _).mono ?_
  rintro x w2 ⟨rfl, hb⟩
  have cw2_0 : w2.cell? ⟨w.heap.size, 0, none⟩ = some (.int .i64 f) := (hb.cell (p := ⟨w.heap.size, 0, none⟩) (by go_size)).trans cw1_0
  have fw2_0 : w2.frozen? ⟨w.heap.size, 0, none⟩ = false := (hb.frozen (p := ⟨w.heap.size, 0, none⟩) (by go_size)).trans fw1_0
  have cw2_1 : w2.cell? ⟨w.heap.size, 1, none⟩ = some (.int .i64 u) := (hb.cell (p := ⟨w.heap.size, 1, none⟩) (by go_size)).trans cw1_1
  have fw2_1 : w2.frozen? ⟨w.heap.size, 1, none⟩ = false := (hb.frozen (p := ⟨w.heap.size, 1, none⟩) (by go_size)).trans fw1_1
  have cw2_2 : w2.cell? ⟨w.heap.size + 1 + 1, 0, none⟩ = some (.int .i64 0) := (hb.cell (p := ⟨w.heap.size + 1 + 1, 0, none⟩) (by go_size)).trans cw1_2
  have fw2_2 : w2.frozen? ⟨w.heap.size + 1 + 1, 0, none⟩ = false := (hb.frozen (p := ⟨w.heap.size + 1 + 1, 0, none⟩) (by go_size)).trans fw1_2
  have cw2_3 : w2.cell? ⟨w.heap.size + 1 + 1, 1, none⟩ = some (.int .i64 0) := (hb.cell (p := ⟨w.heap.size + 1 + 1, 1, none⟩) (by go_size)).trans cw1_3
  have fw2_3 : w2.frozen? ⟨w.heap.size + 1 + 1, 1, none⟩ = false := (hb.frozen (p := ⟨w.heap.size + 1 + 1, 1, none⟩) (by go_size)).trans fw1_3
  have hzw2 : w.heap.size + 3 ≤ w2.heap.size := Nat.le_trans (by go_size) hb.size
  have hBw2 : Below w.heap.size w w2 := hBw1.trans (hb.mono (by go_size))
  clear cw1_0 fw1_0 cw1_1 fw1_1 cw1_2 fw1_2 cw1_3 fw1_3  hzw1 hBw1
  clear hb
  go_wp2
  refine bodyPost_ret (v := .agg #[.int .i64 f, .int .i64 u]) (by simp [results, Try.results15, go_sem, cw2_2, cw2_3]) rfl ⟨rfl, ?_⟩
  repeat' (first | (with_reducible exact hBw2) | (with_reducible refine Below.setCell ?_ ?_ _) | go_size)

set_option maxHeartbeats 800000 in
theorem rdone_bad2 (f u a b now e c pk pn bb k i uu s l) (w : World) (hk : kindB e = -1) (h : a ≤ f) (h2 : u ≤ now) (hb1 : 0 ≤ b) (hb2 : b ≤ 1000000) (hn1 : 0 ≤ now) (hn2 : now ≤ 1099511627776) :
    Calls Try.prog 15 #[.agg #[.int .i64 f, .int .i64 u], .int .i64 a, .int .i64 b, .int .i64 now, .agg #[.int .i64 e, c, pk, pn, bb, k, i, uu, s, l]] w fun x w' => x = .returned (.agg #[.int .i64 f, .int .i64 (now + b)]) ∧ Below w.heap.size w w' := by
  have hs : stateB f u a now = 2 := stateB2 (by omega) (by omega)
  go_enter Try.func15, Try.ntmps15
  go_wp2_with fail
  refine (rkind_any _ _ _ _ _ _ _ _ _ _ _).mono ?_
  rintro x w1 ⟨rfl, hb⟩
  have cw1_0 : w1.cell? ⟨w.heap.size, 0, none⟩ = some (.int .i64 f) := (hb.cell (p := ⟨w.heap.size, 0, none⟩) (by go_size)).trans (by go_cell)
  have fw1_0 : w1.frozen? ⟨w.heap.size, 0, none⟩ = false := (hb.frozen (p := ⟨w.heap.size, 0, none⟩) (by go_size)).trans (by go_cell)
  have cw1_1 : w1.cell? ⟨w.heap.size, 1, none⟩ = some (.int .i64 u) := (hb.cell (p := ⟨w.heap.size, 1, none⟩) (by go_size)).trans (by go_cell)
  have fw1_1 : w1.frozen? ⟨w.heap.size, 1, none⟩ = false := (hb.frozen (p := ⟨w.heap.size, 1, none⟩) (by go_size)).trans (by go_cell)
  have cw1_2 : w1.cell? ⟨w.heap.size + 1 + 1, 0, none⟩ = some (.int .i64 0) := (hb.cell (p := ⟨w.heap.size + 1 + 1, 0, none⟩) (by go_size)).trans (by go_cell)
  have fw1_2 : w1.frozen? ⟨w.heap.size + 1 + 1, 0, none⟩ = false := (hb.frozen (p := ⟨w.heap.size + 1 + 1, 0, none⟩) (by go_size)).trans (by go_cell)
  have cw1_3 : w1.cell? ⟨w.heap.size + 1 + 1, 1, none⟩ = some (.int .i64 0) := (hb.cell (p := ⟨w.heap.size + 1 + 1, 1, none⟩) (by go_size)).trans (by go_cell)
  have fw1_3 : w1.frozen? ⟨w.heap.size + 1 + 1, 1, none⟩ = false := (hb.frozen (p := ⟨w.heap.size + 1 + 1, 1, none⟩) (by go_size)).trans (by go_cell)
  have hzw1 : w.heap.size + 3 ≤ w1.heap.size := Nat.le_trans (by go_size) hb.size
  have hBw1 : Below w.heap.size w w1 := Below.trans (by go_grown) (hb.mono (by go_size))
  clear hb
  go_wp2_with fail
  refine (rstate_any _ _ _ _ _).mono ?_
  rintro x w2 ⟨rfl, hb⟩
  have cw2_0 : w2.cell? ⟨w.heap.size, 0, none⟩ = some (.int .i64 f) := (hb.cell (p := ⟨w.heap.size, 0, none⟩) (by go_size)).trans cw1_0
  have fw2_0 : w2.frozen? ⟨w.heap.size, 0, none⟩ = false := (hb.frozen (p := ⟨w.heap.size, 0, none⟩) (by go_size)).trans fw1_0
  have cw2_1 : w2.cell? ⟨w.heap.size, 1, none⟩ = some (.int .i64 u) := (hb.cell (p := ⟨w.heap.size, 1, none⟩) (by go_size)).trans cw1_1
  have fw2_1 : w2.frozen? ⟨w.heap.size, 1, none⟩ = false := (hb.frozen (p := ⟨w.heap.size, 1, none⟩) (by go_size)).trans fw1_1
  have cw2_2 : w2.cell? ⟨w.heap.size + 1 + 1, 0, none⟩ = some (.int .i64 0) := (hb.cell (p := ⟨w.heap.size + 1 + 1, 0, none⟩) (by go_size)).trans cw1_2
  have fw2_2 : w2.frozen? ⟨w.heap.size + 1 + 1, 0, none⟩ = false := (hb.frozen (p := ⟨w.heap.size + 1 + 1, 0, none⟩) (by go_size)).trans fw1_2
  have cw2_3 : w2.cell? ⟨w.heap.size + 1 + 1, 1, none⟩ = some (.int .i64 0) := (hb.cell (p := ⟨w.heap.size + 1 + 1, 1, none⟩) (by go_size)).trans cw1_3
  have fw2_3 : w2.frozen? ⟨w.heap.size + 1 + 1, 1, none⟩ = false := (hb.frozen (p := ⟨w.heap.size + 1 + 1, 1, none⟩) (by go_size)).trans fw1_3
  have hzw2 : w.heap.size + 3 ≤ w2.heap.size := Nat.le_trans (by go_size) hb.size
  have hBw2 : Below w.heap.size w w2 := hBw1.trans (hb.mono (by go_size))
  clear cw1_0 fw1_0 cw1_1 fw1_1 cw1_2 fw1_2 cw1_3 fw1_3  hzw1 hBw1
  clear hb
  go_wp2_with fail
  refine (rstate_any _ _ _ _ _).mono ?_
  rintro x w3 ⟨rfl, hb⟩
  have cw3_0 : w3.cell? ⟨w.heap.size, 0, none⟩ = some (.int .i64 f) := (hb.cell (p := ⟨w.heap.size, 0, none⟩) (by go_size)).trans cw2_0
  have fw3_0 : w3.frozen? ⟨w.heap.size, 0, none⟩ = false := (hb.frozen (p := ⟨w.heap.size, 0, none⟩) (by go_size)).trans fw2_0
  have cw3_1 : w3.cell? ⟨w.heap.size, 1, none⟩ = some (.int .i64 u) := (hb.cell (p := ⟨w.heap.size, 1, none⟩) (by go_size)).trans cw2_1
  have fw3_1 : w3.frozen? ⟨w.heap.size, 1, none⟩ = false := (hb.frozen (p := ⟨w.heap.size, 1, none⟩) (by go_size)).trans fw2_1
  have cw3_2 : w3.cell? ⟨w.heap.size + 1 + 1, 0, none⟩ = some (.int .i64 0) := (hb.cell (p := ⟨w.heap.size + 1 + 1, 0, none⟩) (by go_size)).trans cw2_2
  have fw3_2 : w3.frozen? ⟨w.heap.size + 1 + 1, 0, none⟩ = false := (hb.frozen (p := ⟨w.heap.size + 1 + 1, 0, none⟩) (by go_size)).trans fw2_2
  have cw3_3 : w3.cell? ⟨w.heap.size + 1 + 1, 1, none⟩ = some (.int .i64 0) := (hb.cell (p := ⟨w.heap.size + 1 + 1, 1, none⟩) (by go_size)).trans cw2_3
  have fw3_3 : w3.frozen? ⟨w.heap.size + 1 + 1, 1, none⟩ = false := (hb.frozen (p := ⟨w.heap.size + 1 + 1, 1, none⟩) (by go_size)).trans fw2_3
  have hzw3 : w.heap.size + 3 ≤ w3.heap.size := Nat.le_trans (by go_size) hb.size
  have hBw3 : Below w.heap.size w w3 := hBw2.trans (hb.mono (by go_size))
  clear cw2_0 fw2_0 cw2_1 fw2_1 cw2_2 fw2_2 cw2_3 fw2_3  hzw2 hBw2
  clear hb
  go_wp2
  refine bodyPost_ret (v := .agg #[.int .i64 f, .int .i64 (now + b)]) (by simp [results, Try.results15, go_sem, cw3_2, cw3_3]) rfl ⟨rfl, ?_⟩
  repeat' (first | (with_reducible exact hBw3) | (with_reducible refine Below.setCell ?_ ?_ _) | go_size)


theorem rfit_yes (f u a : Int) (w : World) (h1 : 0 ≤ f) (h2 : f ≤ a) (h3 : 0 ≤ u) (h4 : u ≤ 2199023255552) :
    Calls Try.prog 16 #[.agg #[.int .i64 f, .int .i64 u], .int .i64 a] w fun x w' => x = .returned (.bool true) ∧ Below w.heap.size w w' := by
  go_enter Try.func16, Try.ntmps16
  go_wp2
  go_ret
  exact ⟨rfl, by go_grown⟩

def fitB (f u a : Int) : Bool := decide (0 ≤ f) && (decide (f ≤ a) && (decide (0 ≤ u) && decide (u ≤ 2199023255552)))
theorem rfit_any (f u a : Int) (w : World) :
    Calls Try.prog 16 #[.agg #[.int .i64 f, .int .i64 u], .int .i64 a] w fun x w' => x = .returned (.bool (fitB f u a)) ∧ Below w.heap.size w w' := by
  by_cases h1 : 0 ≤ f
  · by_cases h2 : f ≤ a
    · by_cases h3 : 0 ≤ u
      · by_cases h4 : u ≤ 2199023255552
        all_goals
          go_enter Try.func16, Try.ntmps16
          go_wp2
          go_ret
          exact ⟨by simp [fitB, *]; try omega, by go_grown⟩
      · go_enter Try.func16, Try.ntmps16
        go_wp2
        go_ret
        exact ⟨by simp [fitB, *]; try omega, by go_grown⟩
    · go_enter Try.func16, Try.ntmps16
      go_wp2
      go_ret
      exact ⟨by simp [fitB, *]; try omega, by go_grown⟩
  · go_enter Try.func16, Try.ntmps16
    go_wp2
    go_ret
    exact ⟨by simp [fitB, *]; try omega, by go_grown⟩

end Go.Proofs.Yteplhhlgceppkaa
