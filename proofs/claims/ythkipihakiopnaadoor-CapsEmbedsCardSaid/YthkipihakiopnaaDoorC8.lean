/- The walks of the laws CapsFixes and CapsOrders: they return true. -/
import Derived.Test.YthkipihakiopnaaDoorC7
import Derived.Test.YthkipihakiopnaaDoorPlain
namespace Go.Proofs.YthkipihakiopnaaDoor
open Go.RowKit Plain

theorem bits_and (a b : Nat) (ha : a < 4294967296) (hb : b < 4294967296) : bits .and .u32 (a : Int) (b : Int) = ((a &&& b : Nat) : Int) := u32_and_nat a b ha hb
theorem and_lt {a b : Nat} (hb : b < 4294967296) : a &&& b < 4294967296 := Nat.lt_of_le_of_lt Nat.and_le_right hb
theorem and_lt' {a b : Nat} (ha : a < 4294967296) : a &&& b < 4294967296 := Nat.lt_of_le_of_lt Nat.and_le_left ha
theorem or_lt {a b : Nat} (ha : a < 4294967296) (hb : b < 4294967296) : a ||| b < 4294967296 := Nat.or_lt_two_pow (n := 32) ha hb
theorem cast_beq (a b : Nat) : ((a : Int) == (b : Int)) = (a == b) := by
  rw [Bool.eq_iff_iff, beq_iff_eq, beq_iff_eq]; omega
theorem whoN (k : Nat) : ∃ a b : Nat, whoAt k = (a : Int) ∧ mustAt k = (b : Int) ∧ a < 4294967296 ∧ b < 4294967296 := by
  match k with
  | 0 => exact ⟨4, 1, rfl, rfl, by omega, by omega⟩
  | 1 => exact ⟨128, 64, rfl, rfl, by omega, by omega⟩
  | 2 => exact ⟨8, 512, rfl, rfl, by omega, by omega⟩
  | _ + 3 => exact ⟨32, 16, rfl, rfl, by omega, by omega⟩
theorem fixZ_nat (z a b : Nat) (k : Nat) (hz : z < 4294967296) (ha : a < 4294967296) (hb : b < 4294967296) (ea : whoAt k = (a : Int)) (eb : mustAt k = (b : Int)) : fixZ (z : Int) k = ((fixStep z a b : Nat) : Int) ∧ fixStep z a b < 4294967296 := by
  unfold fixZ fixStep
  rw [ea, eb, u32_and_nat z b hz hb, u32_andNot_nat z a hz ha]
  have e : ((((z &&& b : Nat) : Int) == 0) = true) ↔ ((z &&& b) = 0) := by rw [beq_iff_eq]; omega
  by_cases h : (z &&& b) = 0
  · rw [if_pos (e.2 h), if_pos h]; exact ⟨rfl, and_lt' hz⟩
  · rw [if_neg (fun x => h (e.1 x)), if_neg h]; exact ⟨rfl, hz⟩
theorem growZ_nat (z a b : Nat) (k : Nat) (hz : z < 4294967296) (ha : a < 4294967296) (hb : b < 4294967296) (ea : whoAt k = (a : Int)) (eb : mustAt k = (b : Int)) : growZ (z : Int) k = ((growStep z a b : Nat) : Int) ∧ growStep z a b < 4294967296 := by
  unfold growZ growStep
  rw [ea, eb, u32_and_nat z a hz ha, u32_or_nat z b hz hb]
  have e : ((((z &&& a : Nat) : Int) != 0) = true) ↔ ¬ ((z &&& a) = 0) := by rw [bne_iff_ne]; omega
  by_cases h : (z &&& a) = 0
  · rw [if_neg (fun x => (e.1 x) h), if_pos h]; exact ⟨rfl, hz⟩
  · rw [if_pos (e.2 h), if_neg h]; exact ⟨rfl, or_lt hz hb⟩
theorem fixTo_nat (n : Nat) (hn : n < 4294967296) : fixTo (n : Int) 4 = ((fixP n : Nat) : Int) := by
  have e0 : fixTo (n : Int) 0 = ((n &&& 2047 : Nat) : Int) := u32_and_nat n 2047 hn (by omega)
  have b0 : n &&& 2047 < 4294967296 := and_lt (by omega)
  have s1 := fixZ_nat _ 4 1 0 b0 (by omega) (by omega) rfl rfl
  have s2 := fixZ_nat _ 128 64 1 s1.2 (by omega) (by omega) rfl rfl
  have s3 := fixZ_nat _ 8 512 2 s2.2 (by omega) (by omega) rfl rfl
  have s4 := fixZ_nat _ 32 16 3 s3.2 (by omega) (by omega) rfl rfl
  show fixZ (fixZ (fixZ (fixZ (fixTo n 0) 0) 1) 2) 3 = _
  rw [e0, s1.1, s2.1, s3.1, s4.1]
  rfl
theorem growTo_nat (n : Nat) (hn : n < 4294967296) : growTo (n : Int) 4 = ((growP n : Nat) : Int) := by
  have e0 : growTo (n : Int) 0 = ((n &&& 2047 : Nat) : Int) := u32_and_nat n 2047 hn (by omega)
  have b0 : n &&& 2047 < 4294967296 := and_lt (by omega)
  have s1 := growZ_nat _ 4 1 0 b0 (by omega) (by omega) rfl rfl
  have s2 := growZ_nat _ 128 64 1 s1.2 (by omega) (by omega) rfl rfl
  have s3 := growZ_nat _ 8 512 2 s2.2 (by omega) (by omega) rfl rfl
  have s4 := growZ_nat _ 32 16 3 s3.2 (by omega) (by omega) rfl rfl
  show growZ (growZ (growZ (growZ (growTo n 0) 0) 1) 2) 3 = _
  rw [e0, s1.1, s2.1, s3.1, s4.1]
  rfl
theorem bitB_nat (n k : Nat) (hn : n < 4294967296) : bitB (n : Int) k = n.testBit k := by
  unfold bitB
  have e : (n : Int) / 2 ^ k = ((n / 2 ^ k : Nat) : Int) := by simp
  rw [e]
  have hd : n / 2 ^ k < 4294967296 := Nat.lt_of_le_of_lt (Nat.div_le_self _ _) hn
  have h1 : bits .and .u32 ((n / 2 ^ k : Nat) : Int) 1 = ((n / 2 ^ k &&& 1 : Nat) : Int) := u32_and_nat _ 1 hd (by omega)
  rw [h1, Nat.testBit_eq_decide_div_mod_eq, Nat.and_one_is_mod]
  rw [Bool.eq_iff_iff, beq_iff_eq, decide_eq_true_eq]
  omega
theorem properB_nat (n : Nat) (hn : n < 4294967296) : properB (n : Int) = proper n := by
  unfold properB proper
  simp only [bitB_nat _ _ hn]
theorem rfixTo_nat (n : Nat) (hn : n < 4294967296) : ∀ K, K ≤ 2048 → rfixTo (n : Int) K = ((rfixN n K : Nat) : Int) ∧ rfixN n K < 4294967296
  | 0, _ => ⟨rfl, by simp [rfixN]⟩
  | K + 1, h => by
    obtain ⟨h1, h2⟩ := rfixTo_nat n hn K (by omega)
    unfold rfixTo rfixN rfixIn
    rw [h1, u32_andNot_nat K n (by omega) hn, properB_nat K (by omega)]
    have e : ((((K &&& (4294967295 - n) : Nat) : Int) == 0) = true ∧ proper K = true) ↔ ((K &&& (4294967295 - n)) = 0 ∧ proper K = true) := by rw [beq_iff_eq]; exact and_congr (by omega) Iff.rfl
    by_cases hc : (K &&& (4294967295 - n)) = 0 ∧ proper K = true
    · rw [if_pos (e.2 hc), if_pos hc, u32_or_nat _ K h2 (by omega)]; exact ⟨rfl, or_lt h2 (by omega)⟩
    · rw [if_neg (fun x => hc (e.1 x)), if_neg hc]; exact ⟨rfl, h2⟩
theorem rgrowTo_nat (n : Nat) (hn : n < 4294967296) : ∀ K, K ≤ 2048 → rgrowTo (n : Int) K = ((rgrowN n K : Nat) : Int) ∧ rgrowN n K < 4294967296
  | 0, _ => ⟨rfl, by simp [rgrowN]⟩
  | K + 1, h => by
    obtain ⟨h1, h2⟩ := rgrowTo_nat n hn K (by omega)
    have e2 : bits .and .u32 (n : Int) 2047 = ((n &&& 2047 : Nat) : Int) := u32_and_nat n 2047 hn (by omega)
    have hl : n &&& 2047 < 4294967296 := and_lt (by omega)
    unfold rgrowTo rgrowN rgrowIn
    rw [h1, e2, u32_andNot_nat _ K hl (by omega), properB_nat K (by omega)]
    have e : (((((n &&& 2047) &&& (4294967295 - K) : Nat) : Int) == 0) = true ∧ proper K = true) ↔ (((n &&& 2047) &&& (4294967295 - K)) = 0 ∧ proper K = true) := by rw [beq_iff_eq]; exact and_congr (by omega) Iff.rfl
    by_cases hc : ((n &&& 2047) &&& (4294967295 - K)) = 0 ∧ proper K = true
    · rw [if_pos (e.2 hc), if_pos hc, u32_and_nat _ K h2 (by omega)]; exact ⟨rfl, and_lt (by omega)⟩
    · rw [if_neg (fun x => hc (e.1 x)), if_neg hc]; exact ⟨rfl, h2⟩
theorem fixes_eq (n : Nat) (hn : n < 4294967296) : fixTo (n : Int) 4 = rfixTo (n : Int) 2048 := by
  rw [fixTo_nat n hn, (rfixTo_nat n hn 2048 (by omega)).1, rfix_eq hn]
theorem grows_eq (n : Nat) (hn : n < 4294967296) : growTo (n : Int) 4 = rgrowTo (n : Int) 2048 := by
  rw [growTo_nat n hn, (rgrowTo_nat n hn 2048 (by omega)).1, rgrow_eq]

set_option maxHeartbeats 800000 in
theorem law_fixes_core (c f g : Int) (w : World) (hg : Gl w) (hr : Gr w) (ef : Hid (fixTo c 4 = f)) (ef2 : Hid (rfixTo c 2048 = f)) (eg : Hid (growTo c 4 = g)) (eg2 : Hid (rgrowTo c 2048 = g)) : Calls Tryd.prog 6 #[.int .u32 c] w fun x w' => x = .returned (.bool true) ∧ Below w.heap.size w w' := by
  have hs := hg.size
  go_enter Tryd.func6, Tryd.ntmps6
  go_wp2_with fail
  refine (fix_any _ _ hr).mono ?_
  rintro x w1 ⟨rfl, hb⟩
  rw [ef.out]
  go_wp2_with fail
  refine (rfix_any _ _).mono ?_
  rintro x w2 ⟨rfl, rfl⟩
  rw [ef2.out]
  have hr1 := hr.below hb hs
  go_wp2_with fail
  refine (grow_any _ _ hr1).mono ?_
  rintro x w2 ⟨rfl, hb2⟩
  rw [eg.out]
  have hb3 : Below w.heap.size w w2 := hb.trans (hb2.mono hb.size)
  clear hb hb2 hr1
  go_wp2_with fail
  refine (rgrow_any _ _).mono ?_
  rintro x w3 ⟨rfl, rfl⟩
  rw [eg2.out]
  have hg1 := hg.below hb3 hs
  go_wp2_with fail
  refine (awake_any _ hg1).mono ?_
  rintro x w3 ⟨rfl, hb4⟩
  have hb5 : Below w.heap.size w w3 := hb3.trans (hb4.mono hb3.size)
  go_wp2_with fail
  go_ret
  exact ⟨rfl, hb5⟩
theorem law_fixes (c : Int) (w : World) (hc0 : 0 ≤ c) (hc1 : c < 4294967296) (hg : Gl w) (hr : Gr w) : Calls Tryd.prog 6 #[.int .u32 c] w fun x w' => x = .returned (.bool true) ∧ Below w.heap.size w w' := by
  obtain ⟨n, rfl⟩ := Int.eq_ofNat_of_zero_le hc0
  have hn : n < 4294967296 := by omega
  exact law_fixes_core _ _ _ w hg hr rfl (fixes_eq n hn).symm rfl (grows_eq n hn).symm
end Go.Proofs.YthkipihakiopnaaDoor
