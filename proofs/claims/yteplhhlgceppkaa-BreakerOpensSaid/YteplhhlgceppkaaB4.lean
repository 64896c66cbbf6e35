/- Contracts of the law's fit and awake. -/
import Derived.Test.YteplhhlgceppkaaB3
import Derived.Deep.DeepCutAuto
namespace Go.Proofs.Yteplhhlgceppkaa
open Go.RowKit

theorem lay (T : Prop) {Q : Prop} (h : T) (k : T → Q) : Q := k h

structure Fitting (f u a b now : Int) : Prop where
  a1 : 1 ≤ a
  a2 : a ≤ 1000
  b1 : 1 ≤ b
  b2 : b ≤ 1000000
  n1 : 0 ≤ now
  n2 : now ≤ 1099511627776
  f1 : 0 ≤ f
  f2 : f ≤ a
  u1 : 0 ≤ u
  u2 : u ≤ 2199023255552

set_option maxHeartbeats 400000 in
theorem fit_yes (f u a b now : Int) (w : World) (h : Fitting f u a b now) :
    Calls Try.prog 8 #[.agg #[.int .i64 f, .int .i64 u], .int .i64 a, .int .i64 b, .int .i64 now] w fun x w' => x = .returned (.bool true) ∧ Below w.heap.size w w' := by
  obtain ⟨h1, h2, h3, h4, h5, h6, h7, h8, h9, h10⟩ := h
  go_enter Try.func8, Try.ntmps8
  go_wp2_with fail
  refine (rfit_yes _ _ _ _ h7 h8 h9 h10).mono ?_
  rintro x w1 ⟨rfl, hb⟩
  have hB : Below w.heap.size w w1 := Below.trans (by go_grown) (hb.mono (by go_size))
  go_wp2
  go_ret
  exact ⟨rfl, hB⟩

set_option maxHeartbeats 400000 in
theorem fit_no0 (f u a b now : Int) (w : World)  (h0 : a < 1) :
    Calls Try.prog 8 #[.agg #[.int .i64 f, .int .i64 u], .int .i64 a, .int .i64 b, .int .i64 now] w fun x w' => x = .returned (.bool false) ∧ Below w.heap.size w w' := by
  go_enter Try.func8, Try.ntmps8
  go_wp2
  go_ret
  exact ⟨rfl, by go_grown⟩

set_option maxHeartbeats 400000 in
theorem fit_no1 (f u a b now : Int) (w : World) (h0 : 1 ≤ a) (h1 : 1000 < a) :
    Calls Try.prog 8 #[.agg #[.int .i64 f, .int .i64 u], .int .i64 a, .int .i64 b, .int .i64 now] w fun x w' => x = .returned (.bool false) ∧ Below w.heap.size w w' := by
  go_enter Try.func8, Try.ntmps8
  go_wp2
  go_ret
  exact ⟨rfl, by go_grown⟩

set_option maxHeartbeats 400000 in
theorem fit_no2 (f u a b now : Int) (w : World) (h0 : 1 ≤ a) (h1 : a ≤ 1000) (h2 : b < 1) :
    Calls Try.prog 8 #[.agg #[.int .i64 f, .int .i64 u], .int .i64 a, .int .i64 b, .int .i64 now] w fun x w' => x = .returned (.bool false) ∧ Below w.heap.size w w' := by
  go_enter Try.func8, Try.ntmps8
  go_wp2
  go_ret
  exact ⟨rfl, by go_grown⟩

set_option maxHeartbeats 400000 in
theorem fit_no3 (f u a b now : Int) (w : World) (h0 : 1 ≤ a) (h1 : a ≤ 1000) (h2 : 1 ≤ b) (h3 : 1000000 < b) :
    Calls Try.prog 8 #[.agg #[.int .i64 f, .int .i64 u], .int .i64 a, .int .i64 b, .int .i64 now] w fun x w' => x = .returned (.bool false) ∧ Below w.heap.size w w' := by
  go_enter Try.func8, Try.ntmps8
  go_wp2
  go_ret
  exact ⟨rfl, by go_grown⟩

set_option maxHeartbeats 400000 in
theorem fit_no4 (f u a b now : Int) (w : World) (h0 : 1 ≤ a) (h1 : a ≤ 1000) (h2 : 1 ≤ b) (h3 : b ≤ 1000000) (h4 : now < 0) :
    Calls Try.prog 8 #[.agg #[.int .i64 f, .int .i64 u], .int .i64 a, .int .i64 b, .int .i64 now] w fun x w' => x = .returned (.bool false) ∧ Below w.heap.size w w' := by
  go_enter Try.func8, Try.ntmps8
  go_wp2
  go_ret
  exact ⟨rfl, by go_grown⟩

set_option maxHeartbeats 400000 in
theorem fit_no5 (f u a b now : Int) (w : World) (h0 : 1 ≤ a) (h1 : a ≤ 1000) (h2 : 1 ≤ b) (h3 : b ≤ 1000000) (h4 : 0 ≤ now) (h5 : 1099511627776 < now) :
    Calls Try.prog 8 #[.agg #[.int .i64 f, .int .i64 u], .int .i64 a, .int .i64 b, .int .i64 now] w fun x w' => x = .returned (.bool false) ∧ Below w.heap.size w w' := by
  go_enter Try.func8, Try.ntmps8
  go_wp2
  go_ret
  exact ⟨rfl, by go_grown⟩

set_option maxHeartbeats 400000 in
theorem fit_no6 (f u a b now : Int) (w : World) (h0 : 1 ≤ a) (h1 : a ≤ 1000) (h2 : 1 ≤ b) (h3 : b ≤ 1000000) (h4 : 0 ≤ now) (h5 : now ≤ 1099511627776) (h6 : fitB f u a = false) :
    Calls Try.prog 8 #[.agg #[.int .i64 f, .int .i64 u], .int .i64 a, .int .i64 b, .int .i64 now] w fun x w' => x = .returned (.bool false) ∧ Below w.heap.size w w' := by
  go_enter Try.func8, Try.ntmps8
  go_wp2_with fail
  refine (rfit_any _ _ _ _).mono ?_
  rintro x w1 ⟨rfl, hb⟩
  have hB : Below w.heap.size w w1 := Below.trans (by go_grown) (hb.mono (by go_size))
  go_wp2
  go_ret
  exact ⟨rfl, hB⟩

theorem fit_no (f u a b now : Int) (w : World) (h : ¬ Fitting f u a b now) :
    Calls Try.prog 8 #[.agg #[.int .i64 f, .int .i64 u], .int .i64 a, .int .i64 b, .int .i64 now] w fun x w' => x = .returned (.bool false) ∧ Below w.heap.size w w' := by
  by_cases h0 : 1 ≤ a
  · by_cases h1 : a ≤ 1000
    · by_cases h2 : 1 ≤ b
      · by_cases h3 : b ≤ 1000000
        · by_cases h4 : 0 ≤ now
          · by_cases h5 : now ≤ 1099511627776
            · refine fit_no6 f u a b now w h0 h1 h2 h3 h4 h5 ?_
              cases hx : fitB f u a with
              | false => rfl
              | true =>
                simp [fitB] at hx
                exact (h ⟨h0, h1, h2, h3, h4, h5, by omega, by omega, by omega, by omega⟩).elim
            · exact fit_no5 f u a b now w h0 h1 h2 h3 h4 (by omega)
          · exact fit_no4 f u a b now w h0 h1 h2 h3 (by omega)
        · exact fit_no3 f u a b now w h0 h1 h2 (by omega)
      · exact fit_no2 f u a b now w h0 h1 (by omega)
    · exact fit_no1 f u a b now w h0 (by omega)
  · exact fit_no0 f u a b now w (by omega)

theorem k101 : kindB 101 = -1 := by decide
theorem awake_done1 (w : World) : Calls Try.prog 14 #[.agg #[.int .i64 0, .int .i64 0], .int .i64 2, .int .i64 10, .int .i64 5, .agg #[.int .i64 101, .int .i64 0, .int .i64 0, .int .i64 0, .bool false, .int .i64 0, .int .i64 0, .int .u64 0, .string ⟨#[]⟩, .slice none 0 0]] w fun x w' => x = .returned (.agg #[.int .i64 1, .int .i64 0]) ∧ Below w.heap.size w w' :=
  done_bad0 0 0 2 10 5 0 101 _ _ _ _ _ _ _ _ _ w (by unfold Hid; rfl) k101 (by decide) (by decide) (by decide) (by decide) (by decide) (by decide) (by decide)
theorem awake_done2 (w : World) : Calls Try.prog 14 #[.agg #[.int .i64 1, .int .i64 0], .int .i64 2, .int .i64 10, .int .i64 6, .agg #[.int .i64 101, .int .i64 0, .int .i64 0, .int .i64 0, .bool false, .int .i64 0, .int .i64 0, .int .u64 0, .string ⟨#[]⟩, .slice none 0 0]] w fun x w' => x = .returned (.agg #[.int .i64 2, .int .i64 16]) ∧ Below w.heap.size w w' :=
  done_bad0 1 0 2 10 6 16 101 _ _ _ _ _ _ _ _ _ w (by unfold Hid; rfl) k101 (by decide) (by decide) (by decide) (by decide) (by decide) (by decide) (by decide)

set_option maxHeartbeats 1600000 in
theorem awake_any (w : World) : Calls Try.prog 9 #[] w fun x w' => x = .returned (.bool true) ∧ Below w.heap.size w w' := by
  have k1 := k101
  go_enter Try.func9, Try.ntmps9
  go_upto_region 2 with fail
  go_cut [2] (fun s2 wx => ∃ m : Nat, s2 = .pointer (some ⟨m, 0, none⟩) ∧ m < wx.heap.size ∧ wx.cell? ⟨m, 0, none⟩ = some (.int .i64 2) ∧ wx.cell? ⟨m, 1, none⟩ = some (.int .i64 16) ∧ w.heap.size + 1 ≤ wx.heap.size ∧ Below w.heap.size w wx ∧ wx.cell? ⟨w.heap.size, 0, none⟩ = some (.int .i64 101) ∧ wx.cell? ⟨w.heap.size, 1, none⟩ = some (.int .i64 0) ∧ wx.cell? ⟨w.heap.size, 2, none⟩ = some (.int .i64 0) ∧ wx.cell? ⟨w.heap.size, 3, none⟩ = some (.int .i64 0) ∧ wx.cell? ⟨w.heap.size, 4, none⟩ = some (.bool false) ∧ wx.cell? ⟨w.heap.size, 5, none⟩ = some (.int .i64 0) ∧ wx.cell? ⟨w.heap.size, 6, none⟩ = some (.int .i64 0) ∧ wx.cell? ⟨w.heap.size, 7, none⟩ = some (.int .u64 0) ∧ wx.cell? ⟨w.heap.size, 8, none⟩ = some (.string ⟨#[]⟩) ∧ wx.cell? ⟨w.heap.size, 9, none⟩ = some (.slice none 0 0))
  case first =>
    go_region_held3 (fun w' => w'.cell? ⟨w.heap.size, 0, none⟩ = some (.int .i64 101) ∧ w'.cell? ⟨w.heap.size, 1, none⟩ = some (.int .i64 0) ∧ w'.cell? ⟨w.heap.size, 2, none⟩ = some (.int .i64 0) ∧ w'.cell? ⟨w.heap.size, 3, none⟩ = some (.int .i64 0) ∧ w'.cell? ⟨w.heap.size, 4, none⟩ = some (.bool false) ∧ w'.cell? ⟨w.heap.size, 5, none⟩ = some (.int .i64 0) ∧ w'.cell? ⟨w.heap.size, 6, none⟩ = some (.int .i64 0) ∧ w'.cell? ⟨w.heap.size, 7, none⟩ = some (.int .u64 0) ∧ w'.cell? ⟨w.heap.size, 8, none⟩ = some (.string ⟨#[]⟩) ∧ w'.cell? ⟨w.heap.size, 9, none⟩ = some (.slice none 0 0)) (first | (refine ⟨?_, ?_, ?_, ?_, ?_, ?_, ?_, ?_, ?_, ?_⟩ <;> (with_reducible assumption)) | (refine ⟨?_, ?_, ?_, ?_, ?_, ?_, ?_, ?_, ?_, ?_⟩ <;> (first | (go_cell; done) | (refine (set2_ne _ ?_).trans ?_ <;> (first | omega | go_cell)))) | go_keep | fail)
      (first | (go_at_call_of 14 (Value.int IntKind.i64 5); refine (awake_done1 _).mono ?_; rintro x w1 ⟨rfl, hb⟩; obtain ⟨hcw1, hfw1⟩ := bcell hb; have hsw1 := hb.size; (try simp only [World.size_alloc, World.size_drew, Nat.add_one_le_iff] at hsw1); (try (refine lay (w1.cell? ⟨w.heap.size + 1, 0, none⟩ = some (.int .i64 0)) ?_ (fun qw10 => ?_); (focus (refine (hb.cell (p := ⟨w.heap.size + 1, 0, none⟩) ?_).trans ?_ <;> (first | (go_size; done) | (go_cell; done)))))); (try (refine lay (w1.frozen? ⟨w.heap.size + 1, 0, none⟩ = false) ?_ (fun rw10 => ?_); (focus (refine (hb.frozen (p := ⟨w.heap.size + 1, 0, none⟩) ?_).trans ?_ <;> (first | (go_size; done) | (go_cell; done)))))); (try (refine lay (w1.cell? ⟨w.heap.size + 1, 1, none⟩ = some (.int .i64 0)) ?_ (fun qw11 => ?_); (focus (refine (hb.cell (p := ⟨w.heap.size + 1, 1, none⟩) ?_).trans ?_ <;> (first | (go_size; done) | (go_cell; done)))))); (try (refine lay (w1.frozen? ⟨w.heap.size + 1, 1, none⟩ = false) ?_ (fun rw11 => ?_); (focus (refine (hb.frozen (p := ⟨w.heap.size + 1, 1, none⟩) ?_).trans ?_ <;> (first | (go_size; done) | (go_cell; done)))))); have cw1_0 : w1.cell? ⟨w.heap.size, 0, none⟩ = some (.int .i64 101) := (hb.cell (p := ⟨w.heap.size, 0, none⟩) (by go_size)).trans (by go_cell); have cw1_1 : w1.cell? ⟨w.heap.size, 1, none⟩ = some (.int .i64 0) := (hb.cell (p := ⟨w.heap.size, 1, none⟩) (by go_size)).trans (by go_cell); have cw1_2 : w1.cell? ⟨w.heap.size, 2, none⟩ = some (.int .i64 0) := (hb.cell (p := ⟨w.heap.size, 2, none⟩) (by go_size)).trans (by go_cell); have cw1_3 : w1.cell? ⟨w.heap.size, 3, none⟩ = some (.int .i64 0) := (hb.cell (p := ⟨w.heap.size, 3, none⟩) (by go_size)).trans (by go_cell); have cw1_4 : w1.cell? ⟨w.heap.size, 4, none⟩ = some (.bool false) := (hb.cell (p := ⟨w.heap.size, 4, none⟩) (by go_size)).trans (by go_cell); have cw1_5 : w1.cell? ⟨w.heap.size, 5, none⟩ = some (.int .i64 0) := (hb.cell (p := ⟨w.heap.size, 5, none⟩) (by go_size)).trans (by go_cell); have cw1_6 : w1.cell? ⟨w.heap.size, 6, none⟩ = some (.int .i64 0) := (hb.cell (p := ⟨w.heap.size, 6, none⟩) (by go_size)).trans (by go_cell); have cw1_7 : w1.cell? ⟨w.heap.size, 7, none⟩ = some (.int .u64 0) := (hb.cell (p := ⟨w.heap.size, 7, none⟩) (by go_size)).trans (by go_cell); have cw1_8 : w1.cell? ⟨w.heap.size, 8, none⟩ = some (.string ⟨#[]⟩) := (hb.cell (p := ⟨w.heap.size, 8, none⟩) (by go_size)).trans (by go_cell); have cw1_9 : w1.cell? ⟨w.heap.size, 9, none⟩ = some (.slice none 0 0) := (hb.cell (p := ⟨w.heap.size, 9, none⟩) (by go_size)).trans (by go_cell); have hzw1 : w.heap.size + 1 ≤ w1.heap.size := Nat.le_trans (by go_size) hb.size; have hBw1 : Below w.heap.size w w1 := Below.trans (by go_grown) (hb.mono (by go_size)); clear hb) | (go_at_call_of 14 (Value.int IntKind.i64 6); refine (awake_done2 _).mono ?_; rintro x w2 ⟨rfl, hb⟩; obtain ⟨hcw2, hfw2⟩ := bcell hb; have hsw2 := hb.size; (try simp only [World.size_alloc, Nat.add_one_le_iff] at hsw2); (try (refine lay (w2.cell? ⟨w.heap.size + 1, 0, none⟩ = some (.int .i64 0)) ?_ (fun qw20 => ?_); (focus (refine (hb.cell (p := ⟨w.heap.size + 1, 0, none⟩) ?_).trans ?_ <;> (first | (go_size; done) | (go_cell; done)))))); (try (refine lay (w2.frozen? ⟨w.heap.size + 1, 0, none⟩ = false) ?_ (fun rw20 => ?_); (focus (refine (hb.frozen (p := ⟨w.heap.size + 1, 0, none⟩) ?_).trans ?_ <;> (first | (go_size; done) | (go_cell; done)))))); (try (refine lay (w2.cell? ⟨w.heap.size + 1, 1, none⟩ = some (.int .i64 0)) ?_ (fun qw21 => ?_); (focus (refine (hb.cell (p := ⟨w.heap.size + 1, 1, none⟩) ?_).trans ?_ <;> (first | (go_size; done) | (go_cell; done)))))); (try (refine lay (w2.frozen? ⟨w.heap.size + 1, 1, none⟩ = false) ?_ (fun rw21 => ?_); (focus (refine (hb.frozen (p := ⟨w.heap.size + 1, 1, none⟩) ?_).trans ?_ <;> (first | (go_size; done) | (go_cell; done)))))); have cw2_0 : w2.cell? ⟨w.heap.size, 0, none⟩ = some (.int .i64 101) := (hb.cell (p := ⟨w.heap.size, 0, none⟩) (by go_size)).trans (by go_cell); have cw2_1 : w2.cell? ⟨w.heap.size, 1, none⟩ = some (.int .i64 0) := (hb.cell (p := ⟨w.heap.size, 1, none⟩) (by go_size)).trans (by go_cell); have cw2_2 : w2.cell? ⟨w.heap.size, 2, none⟩ = some (.int .i64 0) := (hb.cell (p := ⟨w.heap.size, 2, none⟩) (by go_size)).trans (by go_cell); have cw2_3 : w2.cell? ⟨w.heap.size, 3, none⟩ = some (.int .i64 0) := (hb.cell (p := ⟨w.heap.size, 3, none⟩) (by go_size)).trans (by go_cell); have cw2_4 : w2.cell? ⟨w.heap.size, 4, none⟩ = some (.bool false) := (hb.cell (p := ⟨w.heap.size, 4, none⟩) (by go_size)).trans (by go_cell); have cw2_5 : w2.cell? ⟨w.heap.size, 5, none⟩ = some (.int .i64 0) := (hb.cell (p := ⟨w.heap.size, 5, none⟩) (by go_size)).trans (by go_cell); have cw2_6 : w2.cell? ⟨w.heap.size, 6, none⟩ = some (.int .i64 0) := (hb.cell (p := ⟨w.heap.size, 6, none⟩) (by go_size)).trans (by go_cell); have cw2_7 : w2.cell? ⟨w.heap.size, 7, none⟩ = some (.int .u64 0) := (hb.cell (p := ⟨w.heap.size, 7, none⟩) (by go_size)).trans (by go_cell); have cw2_8 : w2.cell? ⟨w.heap.size, 8, none⟩ = some (.string ⟨#[]⟩) := (hb.cell (p := ⟨w.heap.size, 8, none⟩) (by go_size)).trans (by go_cell); have cw2_9 : w2.cell? ⟨w.heap.size, 9, none⟩ = some (.slice none 0 0) := (hb.cell (p := ⟨w.heap.size, 9, none⟩) (by go_size)).trans (by go_cell); have hzw2 : w.heap.size + 1 ≤ w2.heap.size := Nat.le_trans (by go_size) hb.size; have hBw2 : Below w.heap.size w w2 := Below.trans (by go_grown) (hb.mono (by go_size)); clear hb))
    all_goals go_wp2_with fail
    all_goals go_meet
    all_goals (refine ⟨_, rfl, ?_, ?_, ?_, ?_, ?_, ?_, ?_, ?_, ?_, ?_, ?_, ?_, ?_, ?_, ?_⟩ <;> (first | (go_cell; done) | (refine (set2_ne _ ?_).trans ?_ <;> (first | omega | go_cell)) | go_size | (repeat' (first | (with_reducible assumption) | (with_reducible refine Below.setCell ?_ ?_ _) | (with_reducible refine Below.alloc ?_ ?_ _) | go_size))))
  case rest =>
    obtain ⟨m, rfl, hmwc_m, cwc_10, cwc_11, hzwc, hBwc, cwc_0, cwc_1, cwc_2, cwc_3, cwc_4, cwc_5, cwc_6, cwc_7, cwc_8, cwc_9⟩ := hcut
    go_wp2_with fail
    refine (kind_any _ _ _ _ _ _ _ _ _ _ _).mono ?_
    rintro x v1 ⟨rfl, hb⟩
    have cv1_0 : v1.cell? ⟨w.heap.size, 0, none⟩ = some (.int .i64 101) := (hb.cell (p := ⟨w.heap.size, 0, none⟩) (by go_size)).trans cwc_0
    have cv1_1 : v1.cell? ⟨w.heap.size, 1, none⟩ = some (.int .i64 0) := (hb.cell (p := ⟨w.heap.size, 1, none⟩) (by go_size)).trans cwc_1
    have cv1_2 : v1.cell? ⟨w.heap.size, 2, none⟩ = some (.int .i64 0) := (hb.cell (p := ⟨w.heap.size, 2, none⟩) (by go_size)).trans cwc_2
    have cv1_3 : v1.cell? ⟨w.heap.size, 3, none⟩ = some (.int .i64 0) := (hb.cell (p := ⟨w.heap.size, 3, none⟩) (by go_size)).trans cwc_3
    have cv1_4 : v1.cell? ⟨w.heap.size, 4, none⟩ = some (.bool false) := (hb.cell (p := ⟨w.heap.size, 4, none⟩) (by go_size)).trans cwc_4
    have cv1_5 : v1.cell? ⟨w.heap.size, 5, none⟩ = some (.int .i64 0) := (hb.cell (p := ⟨w.heap.size, 5, none⟩) (by go_size)).trans cwc_5
    have cv1_6 : v1.cell? ⟨w.heap.size, 6, none⟩ = some (.int .i64 0) := (hb.cell (p := ⟨w.heap.size, 6, none⟩) (by go_size)).trans cwc_6
    have cv1_7 : v1.cell? ⟨w.heap.size, 7, none⟩ = some (.int .u64 0) := (hb.cell (p := ⟨w.heap.size, 7, none⟩) (by go_size)).trans cwc_7
    have cv1_8 : v1.cell? ⟨w.heap.size, 8, none⟩ = some (.string ⟨#[]⟩) := (hb.cell (p := ⟨w.heap.size, 8, none⟩) (by go_size)).trans cwc_8
    have cv1_9 : v1.cell? ⟨w.heap.size, 9, none⟩ = some (.slice none 0 0) := (hb.cell (p := ⟨w.heap.size, 9, none⟩) (by go_size)).trans cwc_9
    have cv1_10 : v1.cell? ⟨m, 0, none⟩ = some (.int .i64 2) := (hb.cell (p := ⟨m, 0, none⟩) (by go_size)).trans cwc_10
    have cv1_11 : v1.cell? ⟨m, 1, none⟩ = some (.int .i64 16) := (hb.cell (p := ⟨m, 1, none⟩) (by go_size)).trans cwc_11
    have hmv1_m : m < v1.heap.size := Nat.lt_of_lt_of_le (by go_size) hb.size
    have hzv1 : w.heap.size + 1 ≤ v1.heap.size := Nat.le_trans (by go_size) hb.size
    have hBv1 : Below w.heap.size w v1 := hBwc.trans (hb.mono (by go_size))
    clear cwc_0 cwc_1 cwc_2 cwc_3 cwc_4 cwc_5 cwc_6 cwc_7 cwc_8 cwc_9 cwc_10 cwc_11 hmwc_m hzwc hBwc
    clear hb
    go_wp2_with fail
    refine (ask_any _ _ _ _ _).mono ?_
    rintro x v2 ⟨rfl, hb⟩
    have cv2_0 : v2.cell? ⟨w.heap.size, 0, none⟩ = some (.int .i64 101) := (hb.cell (p := ⟨w.heap.size, 0, none⟩) (by go_size)).trans cv1_0
    have cv2_1 : v2.cell? ⟨w.heap.size, 1, none⟩ = some (.int .i64 0) := (hb.cell (p := ⟨w.heap.size, 1, none⟩) (by go_size)).trans cv1_1
    have cv2_2 : v2.cell? ⟨w.heap.size, 2, none⟩ = some (.int .i64 0) := (hb.cell (p := ⟨w.heap.size, 2, none⟩) (by go_size)).trans cv1_2
    have cv2_3 : v2.cell? ⟨w.heap.size, 3, none⟩ = some (.int .i64 0) := (hb.cell (p := ⟨w.heap.size, 3, none⟩) (by go_size)).trans cv1_3
    have cv2_4 : v2.cell? ⟨w.heap.size, 4, none⟩ = some (.bool false) := (hb.cell (p := ⟨w.heap.size, 4, none⟩) (by go_size)).trans cv1_4
    have cv2_5 : v2.cell? ⟨w.heap.size, 5, none⟩ = some (.int .i64 0) := (hb.cell (p := ⟨w.heap.size, 5, none⟩) (by go_size)).trans cv1_5
    have cv2_6 : v2.cell? ⟨w.heap.size, 6, none⟩ = some (.int .i64 0) := (hb.cell (p := ⟨w.heap.size, 6, none⟩) (by go_size)).trans cv1_6
    have cv2_7 : v2.cell? ⟨w.heap.size, 7, none⟩ = some (.int .u64 0) := (hb.cell (p := ⟨w.heap.size, 7, none⟩) (by go_size)).trans cv1_7
    have cv2_8 : v2.cell? ⟨w.heap.size, 8, none⟩ = some (.string ⟨#[]⟩) := (hb.cell (p := ⟨w.heap.size, 8, none⟩) (by go_size)).trans cv1_8
    have cv2_9 : v2.cell? ⟨w.heap.size, 9, none⟩ = some (.slice none 0 0) := (hb.cell (p := ⟨w.heap.size, 9, none⟩) (by go_size)).trans cv1_9
    have cv2_10 : v2.cell? ⟨m, 0, none⟩ = some (.int .i64 2) := (hb.cell (p := ⟨m, 0, none⟩) (by go_size)).trans cv1_10
    have cv2_11 : v2.cell? ⟨m, 1, none⟩ = some (.int .i64 16) := (hb.cell (p := ⟨m, 1, none⟩) (by go_size)).trans cv1_11
    have hmv2_m : m < v2.heap.size := Nat.lt_of_lt_of_le (by go_size) hb.size
    have hzv2 : w.heap.size + 1 ≤ v2.heap.size := Nat.le_trans (by go_size) hb.size
    have hBv2 : Below w.heap.size w v2 := hBv1.trans (hb.mono (by go_size))
    clear cv1_0 cv1_1 cv1_2 cv1_3 cv1_4 cv1_5 cv1_6 cv1_7 cv1_8 cv1_9 cv1_10 cv1_11 hmv1_m hzv1 hBv1
    clear hb
    go_wp2_with fail
    refine (ask_any _ _ _ _ _).mono ?_
    rintro x v3 ⟨rfl, hb⟩
    have cv3_0 : v3.cell? ⟨w.heap.size, 0, none⟩ = some (.int .i64 101) := (hb.cell (p := ⟨w.heap.size, 0, none⟩) (by go_size)).trans cv2_0
    have cv3_1 : v3.cell? ⟨w.heap.size, 1, none⟩ = some (.int .i64 0) := (hb.cell (p := ⟨w.heap.size, 1, none⟩) (by go_size)).trans cv2_1
    have cv3_2 : v3.cell? ⟨w.heap.size, 2, none⟩ = some (.int .i64 0) := (hb.cell (p := ⟨w.heap.size, 2, none⟩) (by go_size)).trans cv2_2
    have cv3_3 : v3.cell? ⟨w.heap.size, 3, none⟩ = some (.int .i64 0) := (hb.cell (p := ⟨w.heap.size, 3, none⟩) (by go_size)).trans cv2_3
    have cv3_4 : v3.cell? ⟨w.heap.size, 4, none⟩ = some (.bool false) := (hb.cell (p := ⟨w.heap.size, 4, none⟩) (by go_size)).trans cv2_4
    have cv3_5 : v3.cell? ⟨w.heap.size, 5, none⟩ = some (.int .i64 0) := (hb.cell (p := ⟨w.heap.size, 5, none⟩) (by go_size)).trans cv2_5
    have cv3_6 : v3.cell? ⟨w.heap.size, 6, none⟩ = some (.int .i64 0) := (hb.cell (p := ⟨w.heap.size, 6, none⟩) (by go_size)).trans cv2_6
    have cv3_7 : v3.cell? ⟨w.heap.size, 7, none⟩ = some (.int .u64 0) := (hb.cell (p := ⟨w.heap.size, 7, none⟩) (by go_size)).trans cv2_7
    have cv3_8 : v3.cell? ⟨w.heap.size, 8, none⟩ = some (.string ⟨#[]⟩) := (hb.cell (p := ⟨w.heap.size, 8, none⟩) (by go_size)).trans cv2_8
    have cv3_9 : v3.cell? ⟨w.heap.size, 9, none⟩ = some (.slice none 0 0) := (hb.cell (p := ⟨w.heap.size, 9, none⟩) (by go_size)).trans cv2_9
    have cv3_10 : v3.cell? ⟨m, 0, none⟩ = some (.int .i64 2) := (hb.cell (p := ⟨m, 0, none⟩) (by go_size)).trans cv2_10
    have cv3_11 : v3.cell? ⟨m, 1, none⟩ = some (.int .i64 16) := (hb.cell (p := ⟨m, 1, none⟩) (by go_size)).trans cv2_11
    have hmv3_m : m < v3.heap.size := Nat.lt_of_lt_of_le (by go_size) hb.size
    have hzv3 : w.heap.size + 1 ≤ v3.heap.size := Nat.le_trans (by go_size) hb.size
    have hBv3 : Below w.heap.size w v3 := hBv2.trans (hb.mono (by go_size))
    clear cv2_0 cv2_1 cv2_2 cv2_3 cv2_4 cv2_5 cv2_6 cv2_7 cv2_8 cv2_9 cv2_10 cv2_11 hmv2_m hzv2 hBv2
    clear hb
    go_wp2_with fail
    refine (state_any _ _ _ _ _).mono ?_
    rintro x v4 ⟨rfl, hb⟩
    have cv4_0 : v4.cell? ⟨w.heap.size, 0, none⟩ = some (.int .i64 101) := (hb.cell (p := ⟨w.heap.size, 0, none⟩) (by go_size)).trans cv3_0
    have cv4_1 : v4.cell? ⟨w.heap.size, 1, none⟩ = some (.int .i64 0) := (hb.cell (p := ⟨w.heap.size, 1, none⟩) (by go_size)).trans cv3_1
    have cv4_2 : v4.cell? ⟨w.heap.size, 2, none⟩ = some (.int .i64 0) := (hb.cell (p := ⟨w.heap.size, 2, none⟩) (by go_size)).trans cv3_2
    have cv4_3 : v4.cell? ⟨w.heap.size, 3, none⟩ = some (.int .i64 0) := (hb.cell (p := ⟨w.heap.size, 3, none⟩) (by go_size)).trans cv3_3
    have cv4_4 : v4.cell? ⟨w.heap.size, 4, none⟩ = some (.bool false) := (hb.cell (p := ⟨w.heap.size, 4, none⟩) (by go_size)).trans cv3_4
    have cv4_5 : v4.cell? ⟨w.heap.size, 5, none⟩ = some (.int .i64 0) := (hb.cell (p := ⟨w.heap.size, 5, none⟩) (by go_size)).trans cv3_5
    have cv4_6 : v4.cell? ⟨w.heap.size, 6, none⟩ = some (.int .i64 0) := (hb.cell (p := ⟨w.heap.size, 6, none⟩) (by go_size)).trans cv3_6
    have cv4_7 : v4.cell? ⟨w.heap.size, 7, none⟩ = some (.int .u64 0) := (hb.cell (p := ⟨w.heap.size, 7, none⟩) (by go_size)).trans cv3_7
    have cv4_8 : v4.cell? ⟨w.heap.size, 8, none⟩ = some (.string ⟨#[]⟩) := (hb.cell (p := ⟨w.heap.size, 8, none⟩) (by go_size)).trans cv3_8
    have cv4_9 : v4.cell? ⟨w.heap.size, 9, none⟩ = some (.slice none 0 0) := (hb.cell (p := ⟨w.heap.size, 9, none⟩) (by go_size)).trans cv3_9
    have cv4_10 : v4.cell? ⟨m, 0, none⟩ = some (.int .i64 2) := (hb.cell (p := ⟨m, 0, none⟩) (by go_size)).trans cv3_10
    have cv4_11 : v4.cell? ⟨m, 1, none⟩ = some (.int .i64 16) := (hb.cell (p := ⟨m, 1, none⟩) (by go_size)).trans cv3_11
    have hmv4_m : m < v4.heap.size := Nat.lt_of_lt_of_le (by go_size) hb.size
    have hzv4 : w.heap.size + 1 ≤ v4.heap.size := Nat.le_trans (by go_size) hb.size
    have hBv4 : Below w.heap.size w v4 := hBv3.trans (hb.mono (by go_size))
    clear cv3_0 cv3_1 cv3_2 cv3_3 cv3_4 cv3_5 cv3_6 cv3_7 cv3_8 cv3_9 cv3_10 cv3_11 hmv3_m hzv3 hBv3
    clear hb
    go_wp2
    go_ret
    exact ⟨rfl, hBv4⟩

end Go.Proofs.Yteplhhlgceppkaa
