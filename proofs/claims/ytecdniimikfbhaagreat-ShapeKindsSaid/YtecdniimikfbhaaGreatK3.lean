/- Shape: both Kinds of any map and any set are one. -/
import Derived.Test.YtecdniimikfbhaaGreatK2
namespace Go.Proofs.YtecdniimikfbhaaGreat
open Go Go.RowKit Go.ChangeShapes Go.WideShapes

theorem kindsTo_none {op : Int} (h : op ≤ 0 ∨ 9 ≤ op) (mask : Int) : ∀ n, kindsTo op mask n = 0
  | 0 => rfl
  | n + 1 => by
    have ho : outK op n = 0 := by
      unfold outK
      rw [if_neg (by omega), if_neg (by omega), if_neg (by omega), if_neg (by omega), if_neg (by omega), if_neg (by omega), if_neg (by omega), if_neg (by omega)]
    unfold kindsTo
    rw [kindsTo_none h mask n, ho]
    split
    · decide
    · rfl
set_option maxRecDepth 100000 in
set_option maxHeartbeats 400000 in
theorem skinds_no {op : Int} (h : op ≤ 0 ∨ 9 ≤ op) (mask : Int) (w : World) : Calls Tryz.prog 5 #[.int .i64 op, .int .u32 mask] w fun x w' => x = .returned (.int .u32 (kindsTo op mask 14)) ∧ Below w.heap.size w w' := by
  rw [kindsTo_none h]
  have HG := Lib.hid (fun W => find_no op h W)
  clear h
  go_enter Tryz.func5, Tryz.ntmps5
  go_wp2_with fail
  refine (HG.out _).mono ?_
  rintro e w2 ⟨rfl, hb2⟩
  dsimp only
  go_wp2_with fail
  go_ret
  exact ⟨rfl, hb2.trans (((Below.refl _ _).alloc (Nat.le_refl _) _).mono hb2.size)⟩
theorem skinds_any (op mask : Int) (w : World) : Calls Tryz.prog 5 #[.int .i64 op, .int .u32 mask] w fun x w' => x = .returned (.int .u32 (kindsTo op mask 14)) ∧ Below w.heap.size w w' := by
  by_cases h : op ≤ 0 ∨ 9 ≤ op
  · exact skinds_no h mask w
  · have h8 : op = 1 ∨ op = 2 ∨ op = 3 ∨ op = 4 ∨ op = 5 ∨ op = 6 ∨ op = 7 ∨ op = 8 := by omega
    rcases h8 with rfl | rfl | rfl | rfl | rfl | rfl | rfl | rfl
    · exact skinds_found kfinds_1 mask w
    · exact skinds_found kfinds_2 mask w
    · exact skinds_found kfinds_3 mask w
    · exact skinds_found kfinds_4 mask w
    · exact skinds_found kfinds_5 mask w
    · exact skinds_found kfinds_6 mask w
    · exact skinds_found kfinds_7 mask w
    · exact skinds_found kfinds_8 mask w

set_option maxRecDepth 100000 in
set_option maxHeartbeats 1600000 in
theorem rkinds_any (op mask : Int) (w : World) : Calls Tryz.prog 6 #[.int .i64 op, .int .u32 mask] w fun x w' => x = .returned (.int .u32 (kindsTo op mask 14)) ∧ Below w.heap.size w w' := by
  go_enter Tryz.func6, Tryz.ntmps6
  go_wp2_with fail
  go_loopw [5, 6] (fun o i wr => ∃ j : Nat, j ≤ 14 ∧ o = .int .u32 (kindsTo op mask j) ∧ i = .int .i64 j ∧ Below w.heap.size w wr) (fun _ i _ => 14 - (intOf i).toNat)
  case atStart => exact ⟨0, by omega, rfl, rfl, Below.refl _ _⟩
  case round =>
    obtain ⟨j, hj, rfl, rfl, hbr⟩ := hrel
    by_cases hlt : j < 14
    · have e0 : decide ((j : Int) < 14) = true := by simp; omega
      have eu : ((j : Int) % 18446744073709551616) = j := by omega
      have HC := Lib.hid (rout_any op j (by omega) wr)
      obtain ⟨q, hq⟩ : ∃ q, inSet mask j = q := ⟨_, rfl⟩
      have hk : kindsTo op mask (j + 1) = if q = true then bits .or .u32 (kindsTo op mask j) (outK op j) else kindsTo op mask j := by rw [← hq]; rfl
      unfold inSet at hq
      cases q
      · go_wp2_with fail
        go_roundw
        case rel => exact ⟨j + 1, by omega, by rw [hk]; rfl, by go_num, hbr⟩
        case measure => simp [intOf]; omega
      · go_wp2_with fail
        refine (HC.out).mono ?_
        rintro e w3 ⟨rfl, hb3⟩
        dsimp only
        go_wp2_with fail
        go_roundw
        case rel => exact ⟨j + 1, by omega, by rw [hk]; rfl, by go_num, hbr.trans (hb3.mono hbr.size)⟩
        case measure => simp [intOf]; omega
    · obtain rfl : j = 14 := by omega
      go_wp2_with fail
      go_ret
      exact ⟨rfl, hbr⟩
end Go.Proofs.YtecdniimikfbhaaGreat
