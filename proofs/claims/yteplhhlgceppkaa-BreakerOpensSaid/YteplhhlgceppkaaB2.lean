/- Contracts of breaker.Done and of the reference's Done, of fit states and numbers. -/
import Derived.Test.YteplhhlgceppkaaB1
import Derived.Deep.RegionHeld3
import Derived.Lib.QuietBelow
namespace Go.Proofs.Yteplhhlgceppkaa
open Go.RowKit

/-- Behind a call that only makes memory: below N all cells and marks are as they were. -/
theorem kept {W w1 : World} {N : Nat} (hb : Below W.heap.size W w1) (hN : N ≤ W.heap.size) : (∀ b o, b < N → w1.cell? ⟨b, o, none⟩ = W.cell? ⟨b, o, none⟩) ∧ (∀ b o, b < N → w1.frozen? ⟨b, o, none⟩ = W.frozen? ⟨b, o, none⟩) ∧ N ≤ w1.heap.size :=
  ⟨fun b o h => hb.cell (p := ⟨b, o, none⟩) (Nat.lt_of_lt_of_le h hN), fun b o h => hb.frozen (p := ⟨b, o, none⟩) (Nat.lt_of_lt_of_le h hN), Nat.le_trans hN hb.size⟩

theorem bcell {W w1 : World} (hb : Below W.heap.size W w1) : (∀ b o, b < W.heap.size → w1.cell? ⟨b, o, none⟩ = W.cell? ⟨b, o, none⟩) ∧ (∀ b o, b < W.heap.size → w1.frozen? ⟨b, o, none⟩ = W.frozen? ⟨b, o, none⟩) :=
  ⟨fun b o h => hb.cell (p := ⟨b, o, none⟩) h, fun b o h => hb.frozen (p := ⟨b, o, none⟩) h⟩

theorem set2_ne (w : World) {n m o : Nat} {v0 v1 : Value} (h : m ≠ n) : ((w.setCell ⟨n, 0, none⟩ v0).setCell ⟨n, 1, none⟩ v1).cell? ⟨m, o, none⟩ = w.cell? ⟨m, o, none⟩ :=
  (World.cell?_setCell_other _ _ _ _ (fun e => h (congrArg Addr.block e).symm)).trans (World.cell?_setCell_other _ _ _ _ (fun e => h (congrArg Addr.block e).symm))

theorem of_shut (f u a now : Int) (w : World) (h : f < a) :
    Calls Try.prog 17 #[.agg #[.int .i64 f, .int .i64 u], .int .i64 a, .int .i64 now] w fun x w' => x = .returned (.iface 51 (.agg #[])) ∧ Below w.heap.size w w' := by
  go_enter Try.func17, Try.ntmps17
  go_wp2
  go_ret
  exact ⟨rfl, by go_grown⟩
theorem of_open (f u a now : Int) (w : World) (h : ¬ f < a) (k : now < u) :
    Calls Try.prog 17 #[.agg #[.int .i64 f, .int .i64 u], .int .i64 a, .int .i64 now] w fun x w' => x = .returned (.iface 48 (.agg #[])) ∧ Below w.heap.size w w' := by
  go_enter Try.func17, Try.ntmps17
  go_wp2
  go_ret
  exact ⟨rfl, by go_grown⟩
theorem of_half (f u a now : Int) (w : World) (h : ¬ f < a) (k : ¬ now < u) :
    Calls Try.prog 17 #[.agg #[.int .i64 f, .int .i64 u], .int .i64 a, .int .i64 now] w fun x w' => x = .returned (.iface 49 (.agg #[])) ∧ Below w.heap.size w w' := by
  go_enter Try.func17, Try.ntmps17
  go_wp2
  go_ret
  exact ⟨rfl, by go_grown⟩

def failB (f u a b now : Int) : Int × Int := if f < a then (if f + 1 < a then (f + 1, u) else (f + 1, now + b)) else if now < u then (f, u) else (f, now + b)

set_option maxHeartbeats 400000 in
theorem fail_open (f u a b now : Int) (w : World) :
    Calls Try.prog 34 #[.agg #[], .agg #[.int .i64 f, .int .i64 u], .int .i64 a, .int .i64 b, .int .i64 now] w fun x w' => x = .returned (.agg #[.int .i64 f, .int .i64 u]) ∧ Below w.heap.size w w' := by
  go_enter Try.func34, Try.ntmps34
  go_wp2
  go_returns
  exact ⟨rfl, by go_grown⟩
set_option maxHeartbeats 400000 in
theorem fail_half (f u a b now : Int) (w : World) (hb1 : 0 ≤ b) (hb2 : b ≤ 1000000) (hn1 : 0 ≤ now) (hn2 : now ≤ 1099511627776) :
    Calls Try.prog 36 #[.agg #[], .agg #[.int .i64 f, .int .i64 u], .int .i64 a, .int .i64 b, .int .i64 now] w fun x w' => x = .returned (.agg #[.int .i64 f, .int .i64 (now + b)]) ∧ Below w.heap.size w w' := by
  go_enter Try.func36, Try.ntmps36
  go_wp2
  go_returns
  exact ⟨rfl, by go_grown⟩
set_option maxHeartbeats 400000 in
theorem fail_shut (f u a b now U : Int) (w : World) (hU : Hid (U = if f + 1 < a then u else now + b)) (hf : 0 ≤ f) (ha : a ≤ 1000) (h : f < a) (hb1 : 0 ≤ b) (hb2 : b ≤ 1000000) (hn1 : 0 ≤ now) (hn2 : now ≤ 1099511627776) :
    Calls Try.prog 38 #[.agg #[], .agg #[.int .i64 f, .int .i64 u], .int .i64 a, .int .i64 b, .int .i64 now] w fun x w' => x = .returned (.agg #[.int .i64 (f + 1), .int .i64 U]) ∧ Below w.heap.size w w' := by
  by_cases k : f + 1 < a
  · have hk : (f + 1 == a) = false := by simp; omega
    obtain rfl : u = U := by rw [hU.out, if_pos k]
    clear k hU
    go_enter Try.func38, Try.ntmps38
    go_wp2
    go_returns
    exact ⟨rfl, by go_grown⟩
  · have hk : (f + 1 == a) = true := by simp; omega
    obtain rfl : now + b = U := by rw [hU.out, if_neg k]
    clear k hU
    go_enter Try.func38, Try.ntmps38
    go_wp2
    go_returns
    exact ⟨rfl, by go_grown⟩


set_option maxHeartbeats 400000 in
theorem done_good (f u a b now e c pk pn bb k i uu s l) (w : World) (hk : kindB e = 1) :
    Calls Try.prog 14 #[.agg #[.int .i64 f, .int .i64 u], .int .i64 a, .int .i64 b, .int .i64 now, .agg #[.int .i64 e, c, pk, pn, bb, k, i, uu, s, l]] w fun x w' => x = .returned (.agg #[.int .i64 0, .int .i64 0]) ∧ Below w.heap.size w w' := by
  go_enter Try.func14, Try.ntmps14
  go_wp2_with fail
  refine (kind_any _ _ _ _ _ _ _ _ _ _ _).mono ?_
  rintro x w1 ⟨rfl, hb⟩
  obtain ⟨hc, hf', hz⟩ := kept (N := w.heap.size + 3) hb (by simp)
  have hB : Below w.heap.size w w1 := Below.trans (by go_grown) (hb.mono (by simp only [World.size_alloc]; omega))
  clear hb
  go_wp2
  exact bodyPost_ret (v := .agg #[.int .i64 0, .int .i64 0]) (by simp [results, Try.results14, go_sem, hc]) rfl ⟨rfl, (hB.setCell (by simp; omega) _).setCell (by simp; omega) _⟩

set_option maxHeartbeats 400000 in
theorem done_none (f u a b now e c pk pn bb k i uu s l) (w : World) (hk : kindB e = 0) :
    Calls Try.prog 14 #[.agg #[.int .i64 f, .int .i64 u], .int .i64 a, .int .i64 b, .int .i64 now, .agg #[.int .i64 e, c, pk, pn, bb, k, i, uu, s, l]] w fun x w' => x = .returned (.agg #[.int .i64 f, .int .i64 u]) ∧ Below w.heap.size w w' := by
  go_enter Try.func14, Try.ntmps14
  go_wp2_with fail
  refine (kind_any _ _ _ _ _ _ _ _ _ _ _).mono ?_
  rintro x w1 ⟨rfl, hb⟩
  obtain ⟨hc, hf', hz⟩ := kept (N := w.heap.size + 3) hb (by simp)
  have hB : Below w.heap.size w w1 := Below.trans (by go_grown) (hb.mono (by simp only [World.size_alloc]; omega))
  clear hb
  go_wp2
  exact bodyPost_ret (v := .agg #[.int .i64 f, .int .i64 u]) (by simp [results, Try.results14, go_sem, hc]) rfl ⟨rfl, (hB.setCell (by simp; omega) _).setCell (by simp; omega) _⟩

set_option maxHeartbeats 800000 in
theorem done_bad0 (f u a b now U e c pk pn bb k i uu s l) (w : World) (hU : Hid (U = if f + 1 < a then u else now + b)) (hk : kindB e = -1) (hf : 0 ≤ f) (ha : a ≤ 1000) (h : f < a) (hb1 : 0 ≤ b) (hb2 : b ≤ 1000000) (hn1 : 0 ≤ now) (hn2 : now ≤ 1099511627776) :
    Calls Try.prog 14 #[.agg #[.int .i64 f, .int .i64 u], .int .i64 a, .int .i64 b, .int .i64 now, .agg #[.int .i64 e, c, pk, pn, bb, k, i, uu, s, l]] w fun x w' => x = .returned (.agg #[.int .i64 (f + 1), .int .i64 U]) ∧ Below w.heap.size w w' := by
  go_enter Try.func14, Try.ntmps14
  go_wp2_with fail
  refine (kind_any _ _ _ _ _ _ _ _ _ _ _).mono ?_
  rintro x w1 ⟨rfl, hb⟩
  obtain ⟨hc, hf', hz⟩ := kept (N := w.heap.size + 3) hb (by simp)
  have hB : Below w.heap.size w w1 := Below.trans (by go_grown) (hb.mono (by simp only [World.size_alloc]; omega))
  clear hb
  go_wp2
  go_region_held3 (fun w' => w'.cell? ⟨w.heap.size, 0, none⟩ = some (.int .i64 f) ∧ w'.cell? ⟨w.heap.size, 1, none⟩ = some (.int .i64 u)) (first | go_keep | (simp only [set2_ne _ (show w.heap.size ≠ w.heap.size + 1 + 1 by omega)]; assumption))
    (first | (go_at_call 17; refine (of_shut _ _ _ _ _ h).mono ?_; rintro x w2 ⟨rfl, hb⟩; obtain ⟨hc2, hf2, hz2⟩ := kept (N := w.heap.size + 3) hb hz; have hB2 : Below w.heap.size w w2 := hB.drew.trans (hb.mono (by simp; omega)); clear hb) | (go_at_call 38; refine (fail_shut _ _ _ _ _ _ _ hU hf ha h hb1 hb2 hn1 hn2).mono ?_; rintro x w3 ⟨rfl, hb⟩; obtain ⟨hc3, hf3, hz3⟩ := kept (N := w.heap.size + 3) hb (by assumption); have hB3 : Below w.heap.size w w3 := Below.trans (by assumption) (hb.mono (by omega)); clear hb))
  go_wp2
  exact bodyPost_ret (v := .agg #[.int .i64 (f + 1), .int .i64 U]) (by simp [results, Try.results14, go_sem, hc, hc2, hc3]) rfl ⟨rfl, (hB3.setCell (by simp; omega) _).setCell (by simp; omega) _⟩

set_option maxHeartbeats 800000 in
theorem done_bad1 (f u a b now e c pk pn bb k i uu s l) (w : World)  (hk : kindB e = -1) (h : a ≤ f) (h2 : now < u) :
    Calls Try.prog 14 #[.agg #[.int .i64 f, .int .i64 u], .int .i64 a, .int .i64 b, .int .i64 now, .agg #[.int .i64 e, c, pk, pn, bb, k, i, uu, s, l]] w fun x w' => x = .returned (.agg #[.int .i64 f, .int .i64 u]) ∧ Below w.heap.size w w' := by
  go_enter Try.func14, Try.ntmps14
  go_wp2_with fail
  refine (kind_any _ _ _ _ _ _ _ _ _ _ _).mono ?_
  rintro x w1 ⟨rfl, hb⟩
  obtain ⟨hc, hf', hz⟩ := kept (N := w.heap.size + 3) hb (by simp)
  have hB : Below w.heap.size w w1 := Below.trans (by go_grown) (hb.mono (by simp only [World.size_alloc]; omega))
  clear hb
  go_wp2
  go_region_held3 (fun w' => w'.cell? ⟨w.heap.size, 0, none⟩ = some (.int .i64 f) ∧ w'.cell? ⟨w.heap.size, 1, none⟩ = some (.int .i64 u)) (first | go_keep | (simp only [set2_ne _ (show w.heap.size ≠ w.heap.size + 1 + 1 by omega)]; assumption))
    (first | (go_at_call 17; refine (of_open _ _ _ _ _ (by omega) h2).mono ?_; rintro x w2 ⟨rfl, hb⟩; obtain ⟨hc2, hf2, hz2⟩ := kept (N := w.heap.size + 3) hb hz; have hB2 : Below w.heap.size w w2 := hB.drew.trans (hb.mono (by simp; omega)); clear hb) | (go_at_call 34; refine (fail_open _ _ _ _ _ _).mono ?_; rintro x w3 ⟨rfl, hb⟩; obtain ⟨hc3, hf3, hz3⟩ := kept (N := w.heap.size + 3) hb (by assumption); have hB3 : Below w.heap.size w w3 := Below.trans (by assumption) (hb.mono (by omega)); clear hb))
  go_wp2
  exact bodyPost_ret (v := .agg #[.int .i64 f, .int .i64 u]) (by simp [results, Try.results14, go_sem, hc, hc2, hc3]) rfl ⟨rfl, (hB3.setCell (by simp; omega) _).setCell (by simp; omega) _⟩

set_option maxHeartbeats 800000 in
theorem done_bad2 (f u a b now e c pk pn bb k i uu s l) (w : World)  (hk : kindB e = -1) (h : a ≤ f) (h2 : u ≤ now) (hb1 : 0 ≤ b) (hb2 : b ≤ 1000000) (hn1 : 0 ≤ now) (hn2 : now ≤ 1099511627776) :
    Calls Try.prog 14 #[.agg #[.int .i64 f, .int .i64 u], .int .i64 a, .int .i64 b, .int .i64 now, .agg #[.int .i64 e, c, pk, pn, bb, k, i, uu, s, l]] w fun x w' => x = .returned (.agg #[.int .i64 f, .int .i64 (now + b)]) ∧ Below w.heap.size w w' := by
  go_enter Try.func14, Try.ntmps14
  go_wp2_with fail
  refine (kind_any _ _ _ _ _ _ _ _ _ _ _).mono ?_
  rintro x w1 ⟨rfl, hb⟩
  obtain ⟨hc, hf', hz⟩ := kept (N := w.heap.size + 3) hb (by simp)
  have hB : Below w.heap.size w w1 := Below.trans (by go_grown) (hb.mono (by simp only [World.size_alloc]; omega))
  clear hb
  go_wp2
  go_region_held3 (fun w' => w'.cell? ⟨w.heap.size, 0, none⟩ = some (.int .i64 f) ∧ w'.cell? ⟨w.heap.size, 1, none⟩ = some (.int .i64 u)) (first | go_keep | (simp only [set2_ne _ (show w.heap.size ≠ w.heap.size + 1 + 1 by omega)]; assumption))
    (first | (go_at_call 17; refine (of_half _ _ _ _ _ (by omega) (by omega)).mono ?_; rintro x w2 ⟨rfl, hb⟩; obtain ⟨hc2, hf2, hz2⟩ := kept (N := w.heap.size + 3) hb hz; have hB2 : Below w.heap.size w w2 := hB.drew.trans (hb.mono (by simp; omega)); clear hb) | (go_at_call 36; refine (fail_half _ _ _ _ _ _ hb1 hb2 hn1 hn2).mono ?_; rintro x w3 ⟨rfl, hb⟩; obtain ⟨hc3, hf3, hz3⟩ := kept (N := w.heap.size + 3) hb (by assumption); have hB3 : Below w.heap.size w w3 := Below.trans (by assumption) (hb.mono (by omega)); clear hb))
  go_wp2
  exact bodyPost_ret (v := .agg #[.int .i64 f, .int .i64 (now + b)]) (by simp [results, Try.results14, go_sem, hc, hc2, hc3]) rfl ⟨rfl, (hB3.setCell (by simp; omega) _).setCell (by simp; omega) _⟩

end Go.Proofs.Yteplhhlgceppkaa
