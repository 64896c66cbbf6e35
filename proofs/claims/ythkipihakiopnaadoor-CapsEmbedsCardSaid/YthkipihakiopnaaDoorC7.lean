/- Contracts of the reference's Fix and Grow: folds over all sets. -/
import Derived.Test.YthkipihakiopnaaDoorC6
namespace Go.Proofs.YthkipihakiopnaaDoor
open Go.RowKit

def rfixIn (c : Int) (k : Nat) : Bool := bits .andNot .u32 (k : Int) c == 0
def rgrowIn (c : Int) (k : Nat) : Bool := bits .andNot .u32 (bits .and .u32 c 2047) (k : Int) == 0
def rfixTo (c : Int) : Nat → Int
  | 0 => 0
  | k + 1 => if rfixIn c k = true ∧ properB (k : Int) = true then bits .or .u32 (rfixTo c k) (k : Int) else rfixTo c k
def rgrowTo (c : Int) : Nat → Int
  | 0 => 2047
  | k + 1 => if rgrowIn c k = true ∧ properB (k : Int) = true then bits .and .u32 (rgrowTo c k) (k : Int) else rgrowTo c k

set_option maxHeartbeats 800000 in
theorem rfix_any (c : Int) (w : World) : Calls Tryd.prog 24 #[.int .u32 c] w fun x w' => x = .returned (.int .u32 (rfixTo c 2048)) ∧ w = w' := by
  go_enter Tryd.func24, Tryd.ntmps24
  go_wp2_with fail
  go_loopw [3, 4] (fun v i wr => ∃ k : Nat, k ≤ 2048 ∧ i = .int .u32 k ∧ v = .int .u32 (rfixTo c k) ∧ w = wr) (fun _ i _ => 2048 - (intOf i).toNat)
  case atStart => exact ⟨0, by omega, rfl, rfl, rfl⟩
  case round =>
    obtain ⟨k, hk, rfl, rfl, rfl⟩ := hrel
    by_cases hlt : k < 2048
    · have hle : (k : Int) ≤ 2047 := by omega
      by_cases h1 : (bits BinOp.andNot IntKind.u32 (k : Int) c == 0) = true
      · by_cases h2 : properB (k : Int) = true
        · have HE := Lib.hid (show rfixTo c (k + 1) = _ from if_pos ⟨(show rfixIn c k = true from h1), h2⟩)
          generalize rfixTo c k = z at *
          go_wp2_with fail
          refine (proper_any _ _).mono ?_
          rintro x w1 ⟨rfl, rfl⟩
          go_wp2_with fail
          go_roundw
          case rel => exact ⟨k + 1, by omega, by go_num, by rw [HE.out], trivial⟩
          case measure => simp [intOf]; omega
        · have HE := Lib.hid (show rfixTo c (k + 1) = _ from if_neg (fun h => h2 h.2))
          have h2' : properB (k : Int) = false := by simpa using h2
          clear h2
          generalize rfixTo c k = z at *
          go_wp2_with fail
          refine (proper_any _ _).mono ?_
          rintro x w1 ⟨rfl, rfl⟩
          go_wp2_with fail
          go_roundw
          case rel => exact ⟨k + 1, by omega, by go_num, by rw [HE.out], trivial⟩
          case measure => simp [intOf]; omega
      · have HE := Lib.hid (show rfixTo c (k + 1) = _ from if_neg (fun h => h1 h.1))
        have h1' : (bits BinOp.andNot IntKind.u32 (k : Int) c == 0) = false := by simpa using h1
        clear h1
        generalize rfixTo c k = z at *
        go_wp2_with fail
        go_roundw
        case rel => exact ⟨k + 1, by omega, by go_num, by rw [HE.out], trivial⟩
        case measure => simp [intOf]; omega
    · obtain rfl : k = 2048 := by omega
      go_wp2_with fail
      go_ret
      exact ⟨rfl, rfl⟩

set_option maxHeartbeats 800000 in
theorem rgrow_any (c : Int) (w : World) : Calls Tryd.prog 26 #[.int .u32 c] w fun x w' => x = .returned (.int .u32 (rgrowTo c 2048)) ∧ w = w' := by
  go_enter Tryd.func26, Tryd.ntmps26
  go_wp2_with fail
  go_loopw [3, 4] (fun v i wr => ∃ k : Nat, k ≤ 2048 ∧ i = .int .u32 k ∧ v = .int .u32 (rgrowTo c k) ∧ w = wr) (fun _ i _ => 2048 - (intOf i).toNat)
  case atStart => exact ⟨0, by omega, rfl, rfl, rfl⟩
  case round =>
    obtain ⟨k, hk, rfl, rfl, rfl⟩ := hrel
    by_cases hlt : k < 2048
    · have hle : (k : Int) ≤ 2047 := by omega
      by_cases h1 : (bits BinOp.andNot IntKind.u32 (bits BinOp.and IntKind.u32 c 2047) (k : Int) == 0) = true
      · by_cases h2 : properB (k : Int) = true
        · have HE := Lib.hid (show rgrowTo c (k + 1) = _ from if_pos ⟨(show rgrowIn c k = true from h1), h2⟩)
          generalize rgrowTo c k = z at *
          go_wp2_with fail
          refine (proper_any _ _).mono ?_
          rintro x w1 ⟨rfl, rfl⟩
          go_wp2_with fail
          go_roundw
          case rel => exact ⟨k + 1, by omega, by go_num, by rw [HE.out], trivial⟩
          case measure => simp [intOf]; omega
        · have HE := Lib.hid (show rgrowTo c (k + 1) = _ from if_neg (fun h => h2 h.2))
          have h2' : properB (k : Int) = false := by simpa using h2
          clear h2
          generalize rgrowTo c k = z at *
          go_wp2_with fail
          refine (proper_any _ _).mono ?_
          rintro x w1 ⟨rfl, rfl⟩
          go_wp2_with fail
          go_roundw
          case rel => exact ⟨k + 1, by omega, by go_num, by rw [HE.out], trivial⟩
          case measure => simp [intOf]; omega
      · have HE := Lib.hid (show rgrowTo c (k + 1) = _ from if_neg (fun h => h1 h.1))
        have h1' : (bits BinOp.andNot IntKind.u32 (bits BinOp.and IntKind.u32 c 2047) (k : Int) == 0) = false := by simpa using h1
        clear h1
        generalize rgrowTo c k = z at *
        go_wp2_with fail
        go_roundw
        case rel => exact ⟨k + 1, by omega, by go_num, by rw [HE.out], trivial⟩
        case measure => simp [intOf]; omega
    · obtain rfl : k = 2048 := by omega
      go_wp2_with fail
      go_ret
      exact ⟨rfl, rfl⟩

end Go.Proofs.YthkipihakiopnaaDoor
