/- Contracts of caps.Fix and caps.Grow, and of the reference's Has and proper. -/
import Derived.Test.YthkipihakiopnaaDoorC4
namespace Go.Proofs.YthkipihakiopnaaDoor
open Go.RowKit

/-- What the listed rules hold. -/
def whoAt : Nat → Int | 0 => 4 | 1 => 128 | 2 => 8 | _ => 32
def mustAt : Nat → Int | 0 => 1 | 1 => 64 | 2 => 512 | _ => 16
def rulesV : Array Value := #[.int .u32 4, .int .u32 1, .int .u32 128, .int .u32 64, .int .u32 8, .int .u32 512, .int .u32 32, .int .u32 16]
structure Gr (w : World) : Prop where
  r0 : w.cell? ⟨1, 0, none⟩ = some (.int .u32 4)
  r1 : w.cell? ⟨1, 1, none⟩ = some (.int .u32 1)
  r2 : w.cell? ⟨1, 2, none⟩ = some (.int .u32 128)
  r3 : w.cell? ⟨1, 3, none⟩ = some (.int .u32 64)
  r4 : w.cell? ⟨1, 4, none⟩ = some (.int .u32 8)
  r5 : w.cell? ⟨1, 5, none⟩ = some (.int .u32 512)
  r6 : w.cell? ⟨1, 6, none⟩ = some (.int .u32 32)
  r7 : w.cell? ⟨1, 7, none⟩ = some (.int .u32 16)
theorem Gr.below {w w1 : World} {B : Nat} (h : Gr w) (hb : Below B w w1) (hB : 3 ≤ B) : Gr w1 where
  r0 := (hb.cell (p := ⟨1, 0, none⟩) (by simp; omega)).trans h.r0
  r1 := (hb.cell (p := ⟨1, 1, none⟩) (by simp; omega)).trans h.r1
  r2 := (hb.cell (p := ⟨1, 2, none⟩) (by simp; omega)).trans h.r2
  r3 := (hb.cell (p := ⟨1, 3, none⟩) (by simp; omega)).trans h.r3
  r4 := (hb.cell (p := ⟨1, 4, none⟩) (by simp; omega)).trans h.r4
  r5 := (hb.cell (p := ⟨1, 5, none⟩) (by simp; omega)).trans h.r5
  r6 := (hb.cell (p := ⟨1, 6, none⟩) (by simp; omega)).trans h.r6
  r7 := (hb.cell (p := ⟨1, 7, none⟩) (by simp; omega)).trans h.r7
theorem index_rule : ∀ (k : Nat) (_ : k < 4) (w : World), (Instr.index 62 (.agg rulesV) (.int .i64 k)).run Tryd.prog w = .ok (.agg #[.int .u32 (whoAt k), .int .u32 (mustAt k)]) w
  | 0, _, w => by kernel_rfl
  | 1, _, w => by kernel_rfl
  | 2, _, w => by kernel_rfl
  | 3, _, w => by kernel_rfl
  | n + 4, h, _ => absurd h (by omega)

def fixZ (z : Int) (k : Nat) : Int := if (bits .and .u32 z (mustAt k) == 0) = true then bits .andNot .u32 z (whoAt k) else z
def growZ (z : Int) (k : Nat) : Int := if (bits .and .u32 z (whoAt k) != 0) = true then bits .or .u32 z (mustAt k) else z
def fixTo (c : Int) : Nat → Int
  | 0 => bits .and .u32 c 2047
  | k + 1 => fixZ (fixTo c k) k
def growTo (c : Int) : Nat → Int
  | 0 => bits .and .u32 c 2047
  | k + 1 => growZ (growTo c k) k

set_option maxHeartbeats 800000 in
theorem fix_any (c : Int) (w : World) (hg : Gr w) : Calls Tryd.prog 23 #[.int .u32 c] w fun x w' => x = .returned (.int .u32 (fixTo c 4)) ∧ Below w.heap.size w w' := by
  obtain ⟨r0, r1, r2, r3, r4, r5, r6, r7⟩ := hg
  go_enter Tryd.func23, Tryd.ntmps23
  go_wp2_with fail
  clear r0 r1 r2 r3 r4 r5 r6 r7
  go_loopw [0, 8] (fun v i wr => ∃ k : Nat, k ≤ 4 ∧ i = .int .i64 k ∧ v = .int .u32 (fixTo c k) ∧ Below w.heap.size w wr) (fun _ i _ => 4 - (intOf i).toNat)
  case atStart => exact ⟨0, by omega, rfl, rfl, Below.refl _ _⟩
  case round =>
    obtain ⟨k, hk, rfl, rfl, hB⟩ := hrel
    have hzw := hB.size
    by_cases hlt : k < 4
    · have hix := index_rule k hlt
      unfold rulesV at hix
      by_cases hh : (bits BinOp.and IntKind.u32 (fixTo c k) (mustAt k) == 0) = true
      · have HE := Lib.hid (show fixTo c (k + 1) = fixZ (fixTo c k) k from rfl)
        have HF := Lib.hid (show fixZ (fixTo c k) k = _ from if_pos hh)
        generalize fixTo c k = z at *
        go_wp2_with fail
        go_roundw
        case rel => exact ⟨k + 1, by omega, by go_num, by rw [HE.out, HF.out], hB.alloc hzw _⟩
        case measure => simp [intOf]; omega
      · have HE := Lib.hid (show fixTo c (k + 1) = fixZ (fixTo c k) k from rfl)
        have HF := Lib.hid (show fixZ (fixTo c k) k = _ from if_neg hh)
        have hh' : (bits BinOp.and IntKind.u32 (fixTo c k) (mustAt k) == 0) = false := by simpa using hh
        clear hh
        generalize fixTo c k = z at *
        go_wp2_with fail
        go_roundw
        case rel => exact ⟨k + 1, by omega, by go_num, by rw [HE.out, HF.out], hB.alloc hzw _⟩
        case measure => simp [intOf]; omega
    · obtain rfl : k = 4 := by omega
      go_wp2_with fail
      go_ret
      exact ⟨rfl, hB⟩

set_option maxHeartbeats 800000 in
theorem grow_any (c : Int) (w : World) (hg : Gr w) : Calls Tryd.prog 25 #[.int .u32 c] w fun x w' => x = .returned (.int .u32 (growTo c 4)) ∧ Below w.heap.size w w' := by
  obtain ⟨r0, r1, r2, r3, r4, r5, r6, r7⟩ := hg
  go_enter Tryd.func25, Tryd.ntmps25
  go_wp2_with fail
  clear r0 r1 r2 r3 r4 r5 r6 r7
  go_loopw [0, 8] (fun v i wr => ∃ k : Nat, k ≤ 4 ∧ i = .int .i64 k ∧ v = .int .u32 (growTo c k) ∧ Below w.heap.size w wr) (fun _ i _ => 4 - (intOf i).toNat)
  case atStart => exact ⟨0, by omega, rfl, rfl, Below.refl _ _⟩
  case round =>
    obtain ⟨k, hk, rfl, rfl, hB⟩ := hrel
    have hzw := hB.size
    by_cases hlt : k < 4
    · have hix := index_rule k hlt
      unfold rulesV at hix
      by_cases hh : (bits BinOp.and IntKind.u32 (growTo c k) (whoAt k) != 0) = true
      · have HE := Lib.hid (show growTo c (k + 1) = growZ (growTo c k) k from rfl)
        have HF := Lib.hid (show growZ (growTo c k) k = _ from if_pos hh)
        generalize growTo c k = z at *
        go_wp2_with fail
        go_roundw
        case rel => exact ⟨k + 1, by omega, by go_num, by rw [HE.out, HF.out], hB.alloc hzw _⟩
        case measure => simp [intOf]; omega
      · have HE := Lib.hid (show growTo c (k + 1) = growZ (growTo c k) k from rfl)
        have HF := Lib.hid (show growZ (growTo c k) k = _ from if_neg hh)
        have hh' : (bits BinOp.and IntKind.u32 (growTo c k) (whoAt k) != 0) = false := by simpa using hh
        clear hh
        generalize growTo c k = z at *
        go_wp2_with fail
        go_roundw
        case rel => exact ⟨k + 1, by omega, by go_num, by rw [HE.out, HF.out], hB.alloc hzw _⟩
        case measure => simp [intOf]; omega
    · obtain rfl : k = 4 := by omega
      go_wp2_with fail
      go_ret
      exact ⟨rfl, hB⟩

theorem has_any (x : Int) (k : Nat) (hk : k < 11) (w : World) : Calls Tryd.prog 34 #[.int .u32 x, .int .i64 k] w fun e w' => e = .returned (.bool (bitB x k)) ∧ w = w' := by
  have h1 : (k : Int) < 11 := by omega
  have h0 : (0 : Int) ≤ k := by omega
  go_enter Tryd.func34, Tryd.ntmps34
  go_wp2
  go_ret
  exact ⟨rfl, rfl⟩

def properB (x : Int) : Bool := (!(bitB x 2) || bitB x 0) && ((!(bitB x 7) || bitB x 6) && ((!(bitB x 3) || bitB x 9) && (!(bitB x 5) || bitB x 4)))
set_option maxHeartbeats 3200000 in
theorem proper_core (x : Int) (b2 b0 b7 b6 b3 b9 b5 b4 : Bool) (w : World) (h2 : Hid (∀ w, Calls Tryd.prog 34 #[.int .u32 x, .int .i64 2] w fun e w' => e = .returned (.bool b2) ∧ w = w')) (h0 : Hid (∀ w, Calls Tryd.prog 34 #[.int .u32 x, .int .i64 0] w fun e w' => e = .returned (.bool b0) ∧ w = w')) (h7 : Hid (∀ w, Calls Tryd.prog 34 #[.int .u32 x, .int .i64 7] w fun e w' => e = .returned (.bool b7) ∧ w = w')) (h6 : Hid (∀ w, Calls Tryd.prog 34 #[.int .u32 x, .int .i64 6] w fun e w' => e = .returned (.bool b6) ∧ w = w')) (h3 : Hid (∀ w, Calls Tryd.prog 34 #[.int .u32 x, .int .i64 3] w fun e w' => e = .returned (.bool b3) ∧ w = w')) (h9 : Hid (∀ w, Calls Tryd.prog 34 #[.int .u32 x, .int .i64 9] w fun e w' => e = .returned (.bool b9) ∧ w = w')) (h5 : Hid (∀ w, Calls Tryd.prog 34 #[.int .u32 x, .int .i64 5] w fun e w' => e = .returned (.bool b5) ∧ w = w')) (h4 : Hid (∀ w, Calls Tryd.prog 34 #[.int .u32 x, .int .i64 4] w fun e w' => e = .returned (.bool b4) ∧ w = w')) :
    Calls Tryd.prog 35 #[.int .u32 x] w fun e w' => e = .returned (.bool ((!b2 || b0) && ((!b7 || b6) && ((!b3 || b9) && (!b5 || b4))))) ∧ w = w' := by
  go_enter Tryd.func35, Tryd.ntmps35
  go_wp2_with (first | (go_at_call_of 34 (Value.int IntKind.i64 2); refine (h2.out _).mono ?_; rintro e w1 ⟨rfl, rfl⟩) | (go_at_call_of 34 (Value.int IntKind.i64 0); refine (h0.out _).mono ?_; rintro e w1 ⟨rfl, rfl⟩) | (go_at_call_of 34 (Value.int IntKind.i64 7); refine (h7.out _).mono ?_; rintro e w1 ⟨rfl, rfl⟩) | (go_at_call_of 34 (Value.int IntKind.i64 6); refine (h6.out _).mono ?_; rintro e w1 ⟨rfl, rfl⟩) | (go_at_call_of 34 (Value.int IntKind.i64 3); refine (h3.out _).mono ?_; rintro e w1 ⟨rfl, rfl⟩) | (go_at_call_of 34 (Value.int IntKind.i64 9); refine (h9.out _).mono ?_; rintro e w1 ⟨rfl, rfl⟩) | (go_at_call_of 34 (Value.int IntKind.i64 5); refine (h5.out _).mono ?_; rintro e w1 ⟨rfl, rfl⟩) | (go_at_call_of 34 (Value.int IntKind.i64 4); refine (h4.out _).mono ?_; rintro e w1 ⟨rfl, rfl⟩))
  all_goals (go_ret; exact ⟨by simp [*], rfl⟩)
theorem proper_any (x : Int) (w : World) : Calls Tryd.prog 35 #[.int .u32 x] w fun e w' => e = .returned (.bool (properB x)) ∧ w = w' :=
  proper_core x _ _ _ _ _ _ _ _ w (has_any x 2 (by decide)) (has_any x 0 (by decide)) (has_any x 7 (by decide)) (has_any x 6 (by decide)) (has_any x 3 (by decide)) (has_any x 9 (by decide)) (has_any x 5 (by decide)) (has_any x 4 (by decide))
end Go.Proofs.YthkipihakiopnaaDoor
