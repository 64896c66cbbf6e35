/- The walk of the law BreakerOpens: it returns true. -/
import Derived.Test.YteplhhlgceppkaaB6
namespace Go.Proofs.Yteplhhlgceppkaa
open Go.RowKit

set_option maxRecDepth 100000 in
theorem opens_no (a b now sl1 sl2) (w : World) (hfit : ¬ Fitting 0 0 a b now) :
    Calls Try.prog 5 #[.int .i64 a, .int .i64 b, .int .i64 now, sl1, sl2] w fun x w' => x = .returned (.bool true) ∧ Below w.heap.size w w' := by
  go_enter Try.func5, Try.ntmps5
  go_wp2_with fail
  refine (fit_no _ _ _ _ _ _ hfit).mono ?_
  rintro x w1 ⟨rfl, hb⟩
  have hzw1 : w.heap.size + 0 ≤ w1.heap.size := Nat.le_trans (by go_size) hb.size
  have hBw1 : Below w.heap.size w w1 := Below.trans (by go_grown) (hb.mono (by go_size))
  clear hb
  go_wp2_with fail
  refine (awake_any _).mono ?_
  rintro x w2 ⟨rfl, hb⟩
  have hzw2 : w.heap.size + 0 ≤ w2.heap.size := Nat.le_trans (by go_size) hb.size
  have hBw2 : Below w.heap.size w w2 := hBw1.trans (hb.mono (by go_size))
  clear   hzw1 hBw1
  clear hb
  go_wp2
  go_ret
  exact ⟨rfl, hBw2⟩

set_option maxRecDepth 100000 in
theorem opens_a (a b now sl1 sl2) (w : World) (hfit : Fitting 0 0 a b now) (h : 50 < a) :
    Calls Try.prog 5 #[.int .i64 a, .int .i64 b, .int .i64 now, sl1, sl2] w fun x w' => x = .returned (.bool true) ∧ Below w.heap.size w w' := by
  go_enter Try.func5, Try.ntmps5
  go_wp2_with fail
  refine (fit_yes _ _ _ _ _ _ hfit).mono ?_
  rintro x w1 ⟨rfl, hb⟩
  have hzw1 : w.heap.size + 0 ≤ w1.heap.size := Nat.le_trans (by go_size) hb.size
  have hBw1 : Below w.heap.size w w1 := Below.trans (by go_grown) (hb.mono (by go_size))
  clear hb
  go_wp2_with fail
  refine (awake_any _).mono ?_
  rintro x w2 ⟨rfl, hb⟩
  have hzw2 : w.heap.size + 0 ≤ w2.heap.size := Nat.le_trans (by go_size) hb.size
  have hBw2 : Below w.heap.size w w2 := hBw1.trans (hb.mono (by go_size))
  clear   hzw1 hBw1
  clear hb
  go_wp2
  go_ret
  exact ⟨rfl, hBw2⟩

set_option maxRecDepth 100000 in
theorem opens_n (a b now sl1 sl2) (w : World) (hfit : Fitting 0 0 a b now) (h : a ≤ 50) (h2 : 1099511627776 < now + b) :
    Calls Try.prog 5 #[.int .i64 a, .int .i64 b, .int .i64 now, sl1, sl2] w fun x w' => x = .returned (.bool true) ∧ Below w.heap.size w w' := by
  have ⟨_, h2', h3, h4, h5, h6, h7, h8, h9, h10⟩ := hfit
  go_enter Try.func5, Try.ntmps5
  go_wp2_with fail
  refine (fit_yes _ _ _ _ _ _ hfit).mono ?_
  rintro x w1 ⟨rfl, hb⟩
  have hzw1 : w.heap.size + 0 ≤ w1.heap.size := Nat.le_trans (by go_size) hb.size
  have hBw1 : Below w.heap.size w w1 := Below.trans (by go_grown) (hb.mono (by go_size))
  clear hb
  go_wp2_with fail
  refine (awake_any _).mono ?_
  rintro x w2 ⟨rfl, hb⟩
  have hzw2 : w.heap.size + 0 ≤ w2.heap.size := Nat.le_trans (by go_size) hb.size
  have hBw2 : Below w.heap.size w w2 := hBw1.trans (hb.mono (by go_size))
  clear   hzw1 hBw1
  clear hb
  go_wp2
  go_ret
  exact ⟨rfl, hBw2⟩

def untB (a b now : Int) (i : Nat) : Int := if (i : Int) < a then 0 else now + b
theorem untB0 {a b now : Int} {i : Nat} (h : (i : Int) < a) : untB a b now i = 0 := by unfold untB; rw [if_pos h]
theorem untB1 {a b now : Int} {i : Nat} (h : ¬ (i : Int) < a) : untB a b now i = now + b := by unfold untB; rw [if_neg h]
/-- What a slice of numbers that came in holds: nothing, or its cells lie below. -/
def InRow (w : World) (a : Option Addr) (n : Nat) : Prop := n = 0 ∨ ∃ b off, a = some ⟨b, off, none⟩ ∧ b < w.heap.size ∧ ∀ j, j < n → ∃ z : Int, -9223372036854775808 ≤ z ∧ z ≤ 9223372036854775807 ∧ w.cell? ⟨b, off + j, none⟩ = some (.int .i64 z)
def badAt : Nat → Int | 0 => 100 | 1 => 101 | _ => 110
theorem badAt_kind (k : Nat) : kindB (badAt k) = -1 := by
  match k with
  | 0 => rfl
  | 1 => rfl
  | _ + 2 => rfl
theorem badAt_cell {w : World} {B k : Nat} (hk : k < 3) (h0 : w.cell? ⟨B, 0, none⟩ = some (.int .i64 100)) (h1 : w.cell? ⟨B, 1, none⟩ = some (.int .i64 101)) (h2 : w.cell? ⟨B, 2, none⟩ = some (.int .i64 110)) : w.cell? ⟨B, k, none⟩ = some (.int .i64 (badAt k)) := by
  match k, hk with
  | 0, _ => exact h0
  | 1, _ => exact h1
  | 2, _ => exact h2

theorem set2 {w : World} {n : Nat} {x y v0 v1 : Value} (h0 : w.cell? ⟨n, 0, none⟩ = some x) (h1 : w.cell? ⟨n, 1, none⟩ = some y) :
    ((w.setCell ⟨n, 0, none⟩ v0).setCell ⟨n, 1, none⟩ v1).cell? ⟨n, 0, none⟩ = some v0 ∧ ((w.setCell ⟨n, 0, none⟩ v0).setCell ⟨n, 1, none⟩ v1).cell? ⟨n, 1, none⟩ = some v1 :=
  ⟨(World.cell?_setCell_other _ _ _ _ (by simp)).trans (World.cell?_setCell_same _ _ _ h0), World.cell?_setCell_same _ _ _ ((World.cell?_setCell_other _ _ _ _ (by simp)).trans h1)⟩

theorem mod3 (z : Int) : ∃ kk : Nat, kk < 3 ∧ Value.int .i64 (wrap64 ((IntKind.u64.wrap z).tmod 3)) = .int .i64 kk := by
  have h0 : 0 ≤ IntKind.u64.wrap z := by rw [IntKind.wrap_u64]; omega
  refine ⟨((IntKind.u64.wrap z) % 3).toNat, by omega, ?_⟩
  rw [Int.tmod_eq_emod_of_nonneg h0]
  have e : wrap64 ((IntKind.u64.wrap z) % 3) = (IntKind.u64.wrap z) % 3 := IntWalk.wrap64_in _ (by omega)
  rw [e]
  congr 1
  omega

set_option maxRecDepth 100000 in
set_option maxHeartbeats 1600000 in
theorem opens_main (a b now : Int) (w : World) (a1 a2 : Option Addr) (n1 c1 n2 c2 : Nat) (hfit : Fitting 0 0 a b now) (h : a ≤ 50) (h2 : now + b ≤ 1099511627776) (r1 : InRow w a1 n1) (r2 : InRow w a2 n2) (m1 : n1 ≤ 9223372036854775807) :
    Calls Try.prog 5 #[.int .i64 a, .int .i64 b, .int .i64 now, .slice a1 n1 c1, .slice a2 n2 c2] w fun x w' => x = .returned (.bool true) ∧ Below w.heap.size w w' := by
  have ⟨_, h2', h3, h4, h5, h6, h7, h8, h9, h10⟩ := hfit
  go_enter Try.func5, Try.ntmps5
  go_wp2_with fail
  refine (fit_yes _ _ _ _ _ _ hfit).mono ?_
  rintro x w1 ⟨rfl, hb⟩
  have hzw1 : w.heap.size + 0 ≤ w1.heap.size := Nat.le_trans (by go_size) hb.size
  have hBw1 : Below w.heap.size w w1 := Below.trans (by go_grown) (hb.mono (by go_size))
  clear hb
  go_wp2_with fail
  obtain ⟨B, hB, hwB⟩ : ∃ B, B = w1.heap.size ∧ w.heap.size ≤ B := ⟨_, rfl, by omega⟩
  rw [← hB]
  obtain ⟨C, hC⟩ : ∃ C, C = B + 1 := ⟨_, rfl⟩
  rw [← hC]
  go_loopw [13] (fun v wr => ∃ i : Nat, (i : Int) ≤ a ∧ v = .int .i64 i ∧ wr.cell? ⟨B, 0, none⟩ = some (.int .i64 100) ∧ wr.cell? ⟨B, 1, none⟩ = some (.int .i64 101) ∧ wr.cell? ⟨B, 2, none⟩ = some (.int .i64 110) ∧
      wr.cell? ⟨C, 0, none⟩ = some (.int .i64 i) ∧ wr.cell? ⟨C, 1, none⟩ = some (.int .i64 (untB a b now i)) ∧ wr.frozen? ⟨C, 0, none⟩ = false ∧ wr.frozen? ⟨C, 1, none⟩ = false ∧ B < C ∧ C < wr.heap.size ∧ Below w.heap.size w wr)
    (fun v _ => (a - intOf v).toNat)
  case atStart =>
    subst hC hB
    exact ⟨0, by omega, rfl, by go_cell, by go_cell, by go_cell, by go_cell, by rw [untB0 (by omega)]; go_cell, by go_cell, by go_cell, by omega, by go_size, by go_grown⟩
  case round =>
    obtain ⟨i, hi, rfl, cwr_0, cwr_1, cwr_2, cwr_3, cwr_4, fwr_3, fwr_4, hBC, hmwr_C, hBwr⟩ := hrel
    clear hB hC hBw1 hzw1
    have hmwr_B : B < wr.heap.size := by omega
    have hzwr : w.heap.size + 0 ≤ wr.heap.size := by omega
    by_cases hlt : (i : Int) < a
    · rw [untB0 hlt] at cwr_4
      have hs : stateB i 0 a now = 0 := stateB0 hlt
      go_wp2_with fail
      refine (state_any _ _ _ _ _).mono ?_
      rintro x w2 ⟨rfl, hb⟩
      have cw2_0 : w2.cell? ⟨B, 0, none⟩ = some (.int .i64 100) := (hb.cell (p := ⟨B, 0, none⟩) (by go_size)).trans cwr_0
      have cw2_1 : w2.cell? ⟨B, 1, none⟩ = some (.int .i64 101) := (hb.cell (p := ⟨B, 1, none⟩) (by go_size)).trans cwr_1
      have cw2_2 : w2.cell? ⟨B, 2, none⟩ = some (.int .i64 110) := (hb.cell (p := ⟨B, 2, none⟩) (by go_size)).trans cwr_2
      have cw2_3 : w2.cell? ⟨C, 0, none⟩ = some (.int .i64 i) := (hb.cell (p := ⟨C, 0, none⟩) (by go_size)).trans cwr_3
      have fw2_3 : w2.frozen? ⟨C, 0, none⟩ = false := (hb.frozen (p := ⟨C, 0, none⟩) (by go_size)).trans fwr_3
      have cw2_4 : w2.cell? ⟨C, 1, none⟩ = some (.int .i64 0) := (hb.cell (p := ⟨C, 1, none⟩) (by go_size)).trans cwr_4
      have fw2_4 : w2.frozen? ⟨C, 1, none⟩ = false := (hb.frozen (p := ⟨C, 1, none⟩) (by go_size)).trans fwr_4
      have hmw2_B : B < w2.heap.size := Nat.lt_of_lt_of_le (by go_size) hb.size
      have hmw2_C : C < w2.heap.size := Nat.lt_of_lt_of_le (by go_size) hb.size
      have hzw2 : w.heap.size + 0 ≤ w2.heap.size := Nat.le_trans (by go_size) hb.size
      have hBw2 : Below w.heap.size w w2 := hBwr.trans (hb.mono (by go_size))
      clear hb
      go_upto_if 48 with fail
      go_cut [14] (fun k wx => ∃ kk : Nat, kk < 3 ∧ k = .int .i64 kk ∧ w2 = wx)
      case first =>
        rcases r1 with r1 | ⟨b1, o1, rfl, hb1, hr1⟩
        · subst r1
          go_wp2_with fail
          go_meet
          exact ⟨0, by omega, rfl, rfl⟩
        · by_cases hi1 : i < n1
          · obtain ⟨z, hz1, hz2, hz⟩ := hr1 i hi1
            have hzc : w2.cell? ⟨b1, o1 + i, none⟩ = some (.int .i64 z) := (hBw2.cell (p := ⟨b1, o1 + i, none⟩) hb1).trans hz
            go_wp2_with fail
            go_meet
            obtain ⟨kk, hk1, hk2⟩ := mod3 z
            exact ⟨kk, hk1, hk2, rfl⟩
          · go_wp2_with fail
            go_meet
            exact ⟨0, by omega, rfl, rfl⟩
      case rest =>
        obtain ⟨kk, hkk, rfl, rfl⟩ := hcut
        have ck := badAt_cell hkk cw2_0 cw2_1 cw2_2
        obtain ⟨U, hU⟩ : ∃ U, Hid (U = if (i : Int) + 1 < a then 0 else now + b) := ⟨_, rfl⟩
        have hk0 : (0 : Int) ≤ kk := by omega
        have hk3 : (kk : Int) < 3 := by omega
        go_upto_region 13 with fail
        go_cut [] (fun wx => wx.cell? ⟨B, 0, none⟩ = some (.int .i64 100) ∧ wx.cell? ⟨B, 1, none⟩ = some (.int .i64 101) ∧ wx.cell? ⟨B, 2, none⟩ = some (.int .i64 110) ∧ wx.cell? ⟨C, 0, none⟩ = some (.int .i64 ((i : Int) + 1)) ∧ wx.cell? ⟨C, 1, none⟩ = some (.int .i64 U) ∧ wx.frozen? ⟨C, 0, none⟩ = false ∧ wx.frozen? ⟨C, 1, none⟩ = false ∧ C < wx.heap.size ∧ Below w.heap.size w wx)
        case first =>
          go_region_with ((go_at_call 14; refine (done_bad0 _ _ _ _ _ _ _ _ _ _ _ _ _ _ _ _ _ hU (badAt_kind kk) (by omega) (by omega) hlt (by omega) h4 h5 h6).mono ?_; rintro x w3 ⟨rfl, hb⟩; have cw3_0 : w3.cell? ⟨B, 0, none⟩ = some (.int .i64 100) := (hb.cell (p := ⟨B, 0, none⟩) (by go_size)).trans (by go_cell); have cw3_1 : w3.cell? ⟨B, 1, none⟩ = some (.int .i64 101) := (hb.cell (p := ⟨B, 1, none⟩) (by go_size)).trans (by go_cell); have cw3_2 : w3.cell? ⟨B, 2, none⟩ = some (.int .i64 110) := (hb.cell (p := ⟨B, 2, none⟩) (by go_size)).trans (by go_cell); have cw3_3 : w3.cell? ⟨C, 0, none⟩ = some (.int .i64 i) := (hb.cell (p := ⟨C, 0, none⟩) (by go_size)).trans (by go_cell); have fw3_3 : w3.frozen? ⟨C, 0, none⟩ = false := (hb.frozen (p := ⟨C, 0, none⟩) (by go_size)).trans (by go_cell); have cw3_4 : w3.cell? ⟨C, 1, none⟩ = some (.int .i64 0) := (hb.cell (p := ⟨C, 1, none⟩) (by go_size)).trans (by go_cell); have fw3_4 : w3.frozen? ⟨C, 1, none⟩ = false := (hb.frozen (p := ⟨C, 1, none⟩) (by go_size)).trans (by go_cell); have cw3_5 : w3.cell? ⟨B, kk, none⟩ = some (.int .i64 (badAt kk)) := (hb.cell (p := ⟨B, kk, none⟩) (by go_size)).trans (by go_cell); have hmw3_B : B < w3.heap.size := Nat.lt_of_lt_of_le (by go_size) hb.size; have hmw3_C : C < w3.heap.size := Nat.lt_of_lt_of_le (by go_size) hb.size; have hzw3 : w.heap.size + 0 ≤ w3.heap.size := Nat.le_trans (by go_size) hb.size; have hBw3 : Below w.heap.size w w3 := Below.trans (by go_grown) (hb.mono (by go_size)); clear hb))
          all_goals
            go_wp2_with fail
            go_meet
            obtain ⟨e0, e1⟩ := set2 (v0 := .int .i64 ((i : Int) + 1)) (v1 := .int .i64 U) cw3_3 cw3_4
            exact ⟨(set2_ne _ (by omega)).trans cw3_0, (set2_ne _ (by omega)).trans cw3_1, (set2_ne _ (by omega)).trans cw3_2, e0, e1, by go_cell, by go_cell, by go_size, (hBw3.setCell (by simp; omega) _).setCell (by simp; omega) _⟩
        case rest =>
          obtain ⟨cwc_0, cwc_1, cwc_2, cwc_3, cwc_4, fwc_3, fwc_4, hmwc_C, hBwc⟩ := hcut
          have ei : ((i + 1 : Nat) : Int) = (i : Int) + 1 := by omega
          have eU : untB a b now (i + 1) = U := by rw [hU.out]; unfold untB; rw [ei]
          have HI := Lib.hid ei
          have HE := Lib.hid eU
          clear ei eU
          have hmwc_B : B < wc.heap.size := by omega
          have hzwc : w.heap.size + 0 ≤ wc.heap.size := by omega
          by_cases hi2 : i < n2
          · rcases r2 with r2 | ⟨b2, o2, rfl, hb2, hr2⟩
            · omega
            · obtain ⟨z, hz1, hz2, hz⟩ := hr2 i hi2
              have hzc : wc.cell? ⟨b2, o2 + i, none⟩ = some (.int .i64 z) := (hBwc.cell (p := ⟨b2, o2 + i, none⟩) hb2).trans hz
              go_wp2_with fail
              refine (rkind_any _ _ _ _ _ _ _ _ _ _ _).mono ?_
              rintro x w4 ⟨rfl, hb⟩
              have cw4_0 : w4.cell? ⟨B, 0, none⟩ = some (.int .i64 100) := (hb.cell (p := ⟨B, 0, none⟩) (by go_size)).trans cwc_0
              have cw4_1 : w4.cell? ⟨B, 1, none⟩ = some (.int .i64 101) := (hb.cell (p := ⟨B, 1, none⟩) (by go_size)).trans cwc_1
              have cw4_2 : w4.cell? ⟨B, 2, none⟩ = some (.int .i64 110) := (hb.cell (p := ⟨B, 2, none⟩) (by go_size)).trans cwc_2
              have cw4_3 : w4.cell? ⟨C, 0, none⟩ = some (.int .i64 ((i : Int) + 1)) := (hb.cell (p := ⟨C, 0, none⟩) (by go_size)).trans cwc_3
              have fw4_3 : w4.frozen? ⟨C, 0, none⟩ = false := (hb.frozen (p := ⟨C, 0, none⟩) (by go_size)).trans fwc_3
              have cw4_4 : w4.cell? ⟨C, 1, none⟩ = some (.int .i64 U) := (hb.cell (p := ⟨C, 1, none⟩) (by go_size)).trans cwc_4
              have fw4_4 : w4.frozen? ⟨C, 1, none⟩ = false := (hb.frozen (p := ⟨C, 1, none⟩) (by go_size)).trans fwc_4
              have hmw4_B : B < w4.heap.size := Nat.lt_of_lt_of_le (by go_size) hb.size
              have hmw4_C : C < w4.heap.size := Nat.lt_of_lt_of_le (by go_size) hb.size
              have hzw4 : w.heap.size + 0 ≤ w4.heap.size := Nat.le_trans (by go_size) hb.size
              have hBw4 : Below w.heap.size w w4 := hBwc.trans (hb.mono (by go_size))
              clear hb
              have hzc4 : w4.cell? ⟨b2, o2 + i, none⟩ = some (.int .i64 z) := (hBw4.cell (p := ⟨b2, o2 + i, none⟩) hb2).trans hz
              by_cases hx : kindB z = 0
              · go_upto_region 15 with fail
                go_region_with ((go_at_call 14; refine (done_none _ _ _ _ _ _ _ _ _ _ _ _ _ _ _ _ hx).mono ?_; rintro x w5 ⟨rfl, hb⟩; have cw5_0 : w5.cell? ⟨B, 0, none⟩ = some (.int .i64 100) := (hb.cell (p := ⟨B, 0, none⟩) (by go_size)).trans (by go_cell); have cw5_1 : w5.cell? ⟨B, 1, none⟩ = some (.int .i64 101) := (hb.cell (p := ⟨B, 1, none⟩) (by go_size)).trans (by go_cell); have cw5_2 : w5.cell? ⟨B, 2, none⟩ = some (.int .i64 110) := (hb.cell (p := ⟨B, 2, none⟩) (by go_size)).trans (by go_cell); have cw5_3 : w5.cell? ⟨C, 0, none⟩ = some (.int .i64 ((i : Int) + 1)) := (hb.cell (p := ⟨C, 0, none⟩) (by go_size)).trans (by go_cell); have fw5_3 : w5.frozen? ⟨C, 0, none⟩ = false := (hb.frozen (p := ⟨C, 0, none⟩) (by go_size)).trans (by go_cell); have cw5_4 : w5.cell? ⟨C, 1, none⟩ = some (.int .i64 U) := (hb.cell (p := ⟨C, 1, none⟩) (by go_size)).trans (by go_cell); have fw5_4 : w5.frozen? ⟨C, 1, none⟩ = false := (hb.frozen (p := ⟨C, 1, none⟩) (by go_size)).trans (by go_cell); have hmw5_B : B < w5.heap.size := Nat.lt_of_lt_of_le (by go_size) hb.size; have hmw5_C : C < w5.heap.size := Nat.lt_of_lt_of_le (by go_size) hb.size; have hzw5 : w.heap.size + 0 ≤ w5.heap.size := Nat.le_trans (by go_size) hb.size; have hBw5 : Below w.heap.size w w5 := Below.trans (by go_grown) (hb.mono (by go_size)); clear hb))
                all_goals
                  obtain ⟨e0, e1⟩ := set2 (v0 := .int .i64 ((i : Int) + 1)) (v1 := .int .i64 U) cw5_3 cw5_4
                  go_wp2_with fail
                  go_roundw
                  case rel => exact ⟨i + 1, by omega, by go_num, (set2_ne _ (by omega)).trans cw5_0, (set2_ne _ (by omega)).trans cw5_1, (set2_ne _ (by omega)).trans cw5_2, by rw [HI.out]; exact e0, by rw [HE.out]; exact e1, by go_cell, by go_cell, hBC, by go_size, (hBw5.setCell (by simp; omega) _).setCell (by simp; omega) _⟩
                  case measure => simp [intOf]; omega
              · have hxb : (kindB z == 0) = false := by simp [hx]
                go_wp2_with fail
                go_roundw
                case rel => exact ⟨i + 1, by omega, by go_num, cw4_0, cw4_1, cw4_2, by rw [HI.out]; exact cw4_3, by rw [HE.out]; exact cw4_4, fw4_3, fw4_4, hBC, hmw4_C, hBw4⟩
                case measure => simp [intOf]; omega
          · go_wp2_with fail
            go_roundw
            case rel => exact ⟨i + 1, by omega, by go_num, cwc_0, cwc_1, cwc_2, by rw [HI.out]; exact cwc_3, by rw [HE.out]; exact cwc_4, fwc_3, fwc_4, hBC, hmwc_C, hBwc⟩
            case measure => simp [intOf]; omega
    · obtain rfl : a = (i : Int) := by omega
      rw [untB1 hlt] at cwr_4
      have hs1 : stateB i (now + b) i now = 1 := stateB1 (by omega) (by omega)
      have hs2 : stateB i (now + b) i (now + b - 1) = 1 := stateB1 (by omega) (by omega)
      have hs3 : stateB i (now + b) i (now + b) = 2 := stateB2 (by omega) (by omega)
      have hs4 : stateB i (now + b + b) i (now + b) = 1 := stateB1 (by omega) (by omega)
      have hs5 : stateB 0 0 i (now + b) = 0 := stateB0 (by omega)
      go_wp2_with fail
      refine (state_any _ _ _ _ _).mono ?_
      rintro x v1 ⟨rfl, hb⟩
      have cv1_0 : v1.cell? ⟨C, 0, none⟩ = some (.int .i64 i) := (hb.cell (p := ⟨C, 0, none⟩) (by go_size)).trans (by go_cell)
      have cv1_1 : v1.cell? ⟨C, 1, none⟩ = some (.int .i64 (now + b)) := (hb.cell (p := ⟨C, 1, none⟩) (by go_size)).trans (by go_cell)
      have hmv1_C : C < v1.heap.size := Nat.lt_of_lt_of_le (by go_size) hb.size
      have hzv1 : w.heap.size + 0 ≤ v1.heap.size := Nat.le_trans (by go_size) hb.size
      have hBv1 : Below w.heap.size w v1 := Below.trans (by go_grown) (hb.mono (by go_size))
      clear hb
      go_wp2_with fail
      refine (state_any _ _ _ _ _).mono ?_
      rintro x v2 ⟨rfl, hb⟩
      have cv2_0 : v2.cell? ⟨C, 0, none⟩ = some (.int .i64 i) := (hb.cell (p := ⟨C, 0, none⟩) (by go_size)).trans cv1_0
      have cv2_1 : v2.cell? ⟨C, 1, none⟩ = some (.int .i64 (now + b)) := (hb.cell (p := ⟨C, 1, none⟩) (by go_size)).trans cv1_1
      have hmv2_C : C < v2.heap.size := Nat.lt_of_lt_of_le (by go_size) hb.size
      have hzv2 : w.heap.size + 0 ≤ v2.heap.size := Nat.le_trans (by go_size) hb.size
      have hBv2 : Below w.heap.size w v2 := hBv1.trans (hb.mono (by go_size))
      clear cv1_0 cv1_1 hmv1_C hzv1 hBv1
      clear hb
      go_wp2_with fail
      refine (state_any _ _ _ _ _).mono ?_
      rintro x v3 ⟨rfl, hb⟩
      have cv3_0 : v3.cell? ⟨C, 0, none⟩ = some (.int .i64 i) := (hb.cell (p := ⟨C, 0, none⟩) (by go_size)).trans cv2_0
      have cv3_1 : v3.cell? ⟨C, 1, none⟩ = some (.int .i64 (now + b)) := (hb.cell (p := ⟨C, 1, none⟩) (by go_size)).trans cv2_1
      have hmv3_C : C < v3.heap.size := Nat.lt_of_lt_of_le (by go_size) hb.size
      have hzv3 : w.heap.size + 0 ≤ v3.heap.size := Nat.le_trans (by go_size) hb.size
      have hBv3 : Below w.heap.size w v3 := hBv2.trans (hb.mono (by go_size))
      clear cv2_0 cv2_1 hmv2_C hzv2 hBv2
      clear hb
      go_wp2_with fail
      refine (ask_any _ _ _ _ _).mono ?_
      rintro x v4 ⟨rfl, hb⟩
      have cv4_0 : v4.cell? ⟨C, 0, none⟩ = some (.int .i64 i) := (hb.cell (p := ⟨C, 0, none⟩) (by go_size)).trans cv3_0
      have cv4_1 : v4.cell? ⟨C, 1, none⟩ = some (.int .i64 (now + b)) := (hb.cell (p := ⟨C, 1, none⟩) (by go_size)).trans cv3_1
      have hmv4_C : C < v4.heap.size := Nat.lt_of_lt_of_le (by go_size) hb.size
      have hzv4 : w.heap.size + 0 ≤ v4.heap.size := Nat.le_trans (by go_size) hb.size
      have hBv4 : Below w.heap.size w v4 := hBv3.trans (hb.mono (by go_size))
      clear cv3_0 cv3_1 hmv3_C hzv3 hBv3
      clear hb
      go_wp2_with fail
      refine (done_bad2 _ _ _ _ _ _ _ _ _ _ _ _ _ _ _ _ (by decide : kindB 110 = -1) (by omega) (by omega) (by omega) (by omega) (by omega) (by omega)).mono ?_
      rintro x v5 ⟨rfl, hb⟩
      have cv5_0 : v5.cell? ⟨C, 0, none⟩ = some (.int .i64 i) := (hb.cell (p := ⟨C, 0, none⟩) (by go_size)).trans cv4_0
      have cv5_1 : v5.cell? ⟨C, 1, none⟩ = some (.int .i64 (now + b)) := (hb.cell (p := ⟨C, 1, none⟩) (by go_size)).trans cv4_1
      have hmv5_C : C < v5.heap.size := Nat.lt_of_lt_of_le (by go_size) hb.size
      have hzv5 : w.heap.size + 0 ≤ v5.heap.size := Nat.le_trans (by go_size) hb.size
      have hBv5 : Below w.heap.size w v5 := hBv4.trans (hb.mono (by go_size))
      clear cv4_0 cv4_1 hmv4_C hzv4 hBv4
      clear hb
      go_wp2_with fail
      obtain ⟨m1, hm1⟩ : ∃ m, m = v5.heap.size := ⟨_, rfl⟩
      rw [← hm1]
      have hx1 : m1 < v5.heap.size + 1 := by omega
      have ha0 : (v5.alloc (.cells #[.int .i64 i, .int .i64 (now + b + b)] 23)).cell? ⟨m1, 0, none⟩ = some (.int .i64 i) := by rw [hm1]; go_cell
      have ha1 : (v5.alloc (.cells #[.int .i64 i, .int .i64 (now + b + b)] 23)).cell? ⟨m1, 1, none⟩ = some (.int .i64 (now + b + b)) := by rw [hm1]; go_cell
      clear hm1
      refine (done_good _ _ _ _ _ _ _ _ _ _ _ _ _ _ _ _ (by decide : kindB 0 = 1)).mono ?_
      rintro x v6 ⟨rfl, hb⟩
      have cv6_0 : v6.cell? ⟨C, 0, none⟩ = some (.int .i64 i) := (hb.cell (p := ⟨C, 0, none⟩) (by go_size)).trans (by go_cell)
      have cv6_1 : v6.cell? ⟨C, 1, none⟩ = some (.int .i64 (now + b)) := (hb.cell (p := ⟨C, 1, none⟩) (by go_size)).trans (by go_cell)
      have cv6_2 : v6.cell? ⟨m1, 0, none⟩ = some (.int .i64 i) := (hb.cell (p := ⟨m1, 0, none⟩) (by go_size)).trans (by go_cell)
      have cv6_3 : v6.cell? ⟨m1, 1, none⟩ = some (.int .i64 (now + b + b)) := (hb.cell (p := ⟨m1, 1, none⟩) (by go_size)).trans (by go_cell)
      have hmv6_C : C < v6.heap.size := Nat.lt_of_lt_of_le (by go_size) hb.size
      have hmv6_m1 : m1 < v6.heap.size := Nat.lt_of_lt_of_le (by go_size) hb.size
      have hzv6 : w.heap.size + 0 ≤ v6.heap.size := Nat.le_trans (by go_size) hb.size
      have hBv6 : Below w.heap.size w v6 := Below.trans (by go_grown) (hb.mono (by go_size))
      clear hb
      clear ha0 ha1 hx1
      go_wp2_with fail
      obtain ⟨m2, hm2⟩ : ∃ m, m = v6.heap.size := ⟨_, rfl⟩
      rw [← hm2]
      have hx2 : m2 < v6.heap.size + 1 := by omega
      have ha0 : (v6.alloc (.cells #[.int .i64 0, .int .i64 0] 23)).cell? ⟨m2, 0, none⟩ = some (.int .i64 0) := by rw [hm2]; go_cell
      have ha1 : (v6.alloc (.cells #[.int .i64 0, .int .i64 0] 23)).cell? ⟨m2, 1, none⟩ = some (.int .i64 0) := by rw [hm2]; go_cell
      clear hm2
      refine (state_any _ _ _ _ _).mono ?_
      rintro x v7 ⟨rfl, hb⟩
      have cv7_0 : v7.cell? ⟨m1, 0, none⟩ = some (.int .i64 i) := (hb.cell (p := ⟨m1, 0, none⟩) (by go_size)).trans (by go_cell)
      have cv7_1 : v7.cell? ⟨m1, 1, none⟩ = some (.int .i64 (now + b + b)) := (hb.cell (p := ⟨m1, 1, none⟩) (by go_size)).trans (by go_cell)
      have cv7_2 : v7.cell? ⟨m2, 0, none⟩ = some (.int .i64 0) := (hb.cell (p := ⟨m2, 0, none⟩) (by go_size)).trans (by go_cell)
      have cv7_3 : v7.cell? ⟨m2, 1, none⟩ = some (.int .i64 0) := (hb.cell (p := ⟨m2, 1, none⟩) (by go_size)).trans (by go_cell)
      have hmv7_m1 : m1 < v7.heap.size := Nat.lt_of_lt_of_le (by go_size) hb.size
      have hmv7_m2 : m2 < v7.heap.size := Nat.lt_of_lt_of_le (by go_size) hb.size
      have hzv7 : w.heap.size + 0 ≤ v7.heap.size := Nat.le_trans (by go_size) hb.size
      have hBv7 : Below w.heap.size w v7 := Below.trans (by go_grown) (hb.mono (by go_size))
      clear hb
      clear ha0 ha1 hx2
      go_wp2_with fail
      refine (ask_any _ _ _ _ _).mono ?_
      rintro x v8 ⟨rfl, hb⟩
      have cv8_0 : v8.cell? ⟨m1, 0, none⟩ = some (.int .i64 i) := (hb.cell (p := ⟨m1, 0, none⟩) (by go_size)).trans cv7_0
      have cv8_1 : v8.cell? ⟨m1, 1, none⟩ = some (.int .i64 (now + b + b)) := (hb.cell (p := ⟨m1, 1, none⟩) (by go_size)).trans cv7_1
      have cv8_2 : v8.cell? ⟨m2, 0, none⟩ = some (.int .i64 0) := (hb.cell (p := ⟨m2, 0, none⟩) (by go_size)).trans cv7_2
      have cv8_3 : v8.cell? ⟨m2, 1, none⟩ = some (.int .i64 0) := (hb.cell (p := ⟨m2, 1, none⟩) (by go_size)).trans cv7_3
      have hmv8_m1 : m1 < v8.heap.size := Nat.lt_of_lt_of_le (by go_size) hb.size
      have hmv8_m2 : m2 < v8.heap.size := Nat.lt_of_lt_of_le (by go_size) hb.size
      have hzv8 : w.heap.size + 0 ≤ v8.heap.size := Nat.le_trans (by go_size) hb.size
      have hBv8 : Below w.heap.size w v8 := hBv7.trans (hb.mono (by go_size))
      clear cv7_0 cv7_1 cv7_2 cv7_3 hmv7_m1 hmv7_m2 hzv7 hBv7
      clear hb
      go_wp2_with fail
      refine (awake_any _).mono ?_
      rintro x v9 ⟨rfl, hb⟩
      have cv9_0 : v9.cell? ⟨m1, 0, none⟩ = some (.int .i64 i) := (hb.cell (p := ⟨m1, 0, none⟩) (by go_size)).trans cv8_0
      have cv9_1 : v9.cell? ⟨m1, 1, none⟩ = some (.int .i64 (now + b + b)) := (hb.cell (p := ⟨m1, 1, none⟩) (by go_size)).trans cv8_1
      have cv9_2 : v9.cell? ⟨m2, 0, none⟩ = some (.int .i64 0) := (hb.cell (p := ⟨m2, 0, none⟩) (by go_size)).trans cv8_2
      have cv9_3 : v9.cell? ⟨m2, 1, none⟩ = some (.int .i64 0) := (hb.cell (p := ⟨m2, 1, none⟩) (by go_size)).trans cv8_3
      have hmv9_m1 : m1 < v9.heap.size := Nat.lt_of_lt_of_le (by go_size) hb.size
      have hmv9_m2 : m2 < v9.heap.size := Nat.lt_of_lt_of_le (by go_size) hb.size
      have hzv9 : w.heap.size + 0 ≤ v9.heap.size := Nat.le_trans (by go_size) hb.size
      have hBv9 : Below w.heap.size w v9 := hBv8.trans (hb.mono (by go_size))
      clear cv8_0 cv8_1 cv8_2 cv8_3 hmv8_m1 hmv8_m2 hzv8 hBv8
      clear hb
      go_wp2
      go_ret
      exact ⟨rfl, hBv9⟩
end Go.Proofs.Yteplhhlgceppkaa
