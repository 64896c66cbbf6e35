/- The walk of the law CapsOrders: it returns true. -/
import Derived.Test.YthkipihakiopnaaDoorC8
namespace Go.Proofs.YthkipihakiopnaaDoor
open Go.RowKit Plain

set_option maxHeartbeats 1600000 in
theorem law_orders_core (c d m bo f g fb gb : Int) (b : Bool) (w : World) (hg : Gl w) (hr : Gr w)
    (hm : bits .and .u32 c 2047 = m) (hbo : bits .and .u32 m d = bo)
    (e1 : Hid (fixTo m 4 = f)) (e2 : Hid (growTo m 4 = g)) (e3 : Hid (fixTo f 4 = f)) (e4 : Hid (growTo g 4 = g)) (e5 : Hid (fixTo g 4 = g)) (e6 : Hid (growTo f 4 = f)) (e7 : Hid (fixTo bo 4 = fb)) (e8 : Hid (growTo bo 4 = gb))
    (t1 : (bits .andNot .u32 f m != 0) = false) (t2 : (bits .andNot .u32 m g != 0) = false) (t3 : (bits .andNot .u32 fb f == 0) = true) (t4 : (bits .andNot .u32 gb g == 0) = true) (t5 : (f == m) = b) (t6 : (g == m) = b) :
    Calls Tryd.prog 7 #[.int .u32 c, .int .u32 d] w fun x w' => x = .returned (.bool true) ∧ Below w.heap.size w w' := by
  have hs := hg.size
  have hb0 := Below.refl w.heap.size w
  go_enter Tryd.func7, Tryd.ntmps7
  have hr1 := hr.below hb0 hs
  go_wp2_with fail
  refine (fix_any _ _ hr1).mono ?_
  rintro x w1 ⟨rfl, hx⟩
  rw [e1.out]
  have hb1 : Below w.heap.size w w1 := hb0.trans (hx.mono hb0.size)
  clear hb0 hx hr1
  have hr2 := hr.below hb1 hs
  go_wp2_with fail
  refine (grow_any _ _ hr2).mono ?_
  rintro x w2 ⟨rfl, hx⟩
  rw [e2.out]
  have hb2 : Below w.heap.size w w2 := hb1.trans (hx.mono hb1.size)
  clear hb1 hx hr2
  have hr3 := hr.below hb2 hs
  go_wp2_with fail
  refine (fix_any _ _ hr3).mono ?_
  rintro x w3 ⟨rfl, hx⟩
  rw [e3.out]
  have hb3 : Below w.heap.size w w3 := hb2.trans (hx.mono hb2.size)
  clear hb2 hx hr3
  have hr4 := hr.below hb3 hs
  go_wp2_with fail
  refine (grow_any _ _ hr4).mono ?_
  rintro x w4 ⟨rfl, hx⟩
  rw [e4.out]
  have hb4 : Below w.heap.size w w4 := hb3.trans (hx.mono hb3.size)
  clear hb3 hx hr4
  have hr5 := hr.below hb4 hs
  go_wp2_with fail
  refine (fix_any _ _ hr5).mono ?_
  rintro x w5 ⟨rfl, hx⟩
  rw [e5.out]
  have hb5 : Below w.heap.size w w5 := hb4.trans (hx.mono hb4.size)
  clear hb4 hx hr5
  have hr6 := hr.below hb5 hs
  go_wp2_with fail
  refine (grow_any _ _ hr6).mono ?_
  rintro x w6 ⟨rfl, hx⟩
  rw [e6.out]
  have hb6 : Below w.heap.size w w6 := hb5.trans (hx.mono hb5.size)
  clear hb5 hx hr6
  have hr7 := hr.below hb6 hs
  go_wp2_with fail
  refine (fix_any _ _ hr7).mono ?_
  rintro x w7 ⟨rfl, hx⟩
  rw [e7.out]
  have hb7 : Below w.heap.size w w7 := hb6.trans (hx.mono hb6.size)
  clear hb6 hx hr7
  have hr8 := hr.below hb7 hs
  go_wp2_with fail
  refine (grow_any _ _ hr8).mono ?_
  rintro x w8 ⟨rfl, hx⟩
  rw [e8.out]
  have hb8 : Below w.heap.size w w8 := hb7.trans (hx.mono hb7.size)
  clear hb7 hx hr8
  have hg1 := hg.below hb8 hs
  go_wp2_with fail
  refine (awake_any _ hg1).mono ?_
  rintro x w9 ⟨rfl, hx⟩
  have hb9 : Below w.heap.size w w9 := hb8.trans (hx.mono hb8.size)
  go_wp2_with fail
  go_ret
  exact ⟨rfl, hb9⟩

theorem sub_trans {a b c : Nat} (h : sub a b) (k : sub b c) : sub a c := fun j hj => k j (h j hj)
theorem sub_anti {a b : Nat} (h : sub a b) (k : sub b a) : a = b := by
  apply Nat.eq_of_testBit_eq
  intro j
  rw [Bool.eq_iff_iff]
  exact ⟨h j, k j⟩
theorem low_of_lt {a : Nat} (h : a < 2048) : a &&& 2047 = a := by
  rw [show (2047 : Nat) = 2 ^ 11 - 1 from rfl, Nat.and_two_pow_sub_one_eq_mod, Nat.mod_eq_of_lt (by omega)]
theorem fix_self {a : Nat} (h : a < 2048) (hp : proper a = true) : fixP a = a := (fix_char h).2.2.2 hp
theorem grow_self {a : Nat} (h : a < 2048) (hp : proper a = true) : growP a = a := (grow_char h).2.2.2 hp
theorem sub_and (a b : Nat) : sub (a &&& b) a := fun j hj => by rw [Nat.testBit_and, Bool.and_eq_true] at hj; exact hj.1
theorem fix_mono {a b : Nat} (h : sub a b) : sub (fixP a) (fixP b) := fix_most (fix_lt a) (fix_proper a) (sub_trans (fix_sub a) h)
theorem grow_mono {a b : Nat} (ha : a < 2048) (hb : b < 2048) (h : sub a b) : sub (growP a) (growP b) := by
  refine grow_least (grow_proper b) ?_
  have h1 := grow_sub b
  rw [low_of_lt hb] at h1
  rw [low_of_lt ha]
  exact sub_trans h h1

theorem law_orders (c d : Int) (w : World) (hc0 : 0 ≤ c) (hc1 : c < 4294967296) (hd0 : 0 ≤ d) (hd1 : d < 4294967296) (hg : Gl w) (hr : Gr w) : Calls Tryd.prog 7 #[.int .u32 c, .int .u32 d] w fun x w' => x = .returned (.bool true) ∧ Below w.heap.size w w' := by
  obtain ⟨n, rfl⟩ := Int.eq_ofNat_of_zero_le hc0
  obtain ⟨k, rfl⟩ := Int.eq_ofNat_of_zero_le hd0
  have hn : n < 4294967296 := by omega
  have hk : k < 4294967296 := by omega
  have e0 : bits .and .u32 (n : Int) 2047 = ((n &&& 2047 : Nat) : Int) := u32_and_nat n 2047 hn (by omega)
  have hm := low_lt n
  generalize n &&& 2047 = m at e0 hm
  have eb : bits .and .u32 (m : Int) (k : Int) = ((m &&& k : Nat) : Int) := u32_and_nat m k (by omega) hk
  have hbm : m &&& k < 2048 := Nat.lt_of_le_of_lt Nat.and_le_left hm
  have hsb : sub (m &&& k) m := sub_and m k
  generalize m &&& k = o at eb hbm hsb
  have f1 := fix_lt m; have g1 := grow_lt m; have f2 := fix_lt o; have g2 := grow_lt o
  have pf := fix_proper m; have pg := grow_proper m
  have gs := grow_sub m
  rw [low_of_lt hm] at gs
  have z1 : ∀ {a b : Nat}, a < 2048 → b < 2048 → sub a b → (bits .andNot .u32 (a : Int) (b : Int) == 0) = true := fun {a b} ha hb h => by
    rw [u32_andNot_nat a b (by omega) (by omega), (sub_iff (by omega) (by omega)).2 h]; rfl
  have z2 : ∀ {a b : Nat}, a < 2048 → b < 2048 → sub a b → (bits .andNot .u32 (a : Int) (b : Int) != 0) = false := fun {a b} ha hb h => by
    rw [u32_andNot_nat a b (by omega) (by omega), (sub_iff (by omega) (by omega)).2 h]; rfl
  refine law_orders_core n k m o (fixP m : Nat) (growP m : Nat) (fixP o : Nat) (growP o : Nat) (fixP m == m) w hg hr e0 eb (fixTo_nat m (by omega)) (growTo_nat m (by omega)) ?_ ?_ ?_ ?_ (fixTo_nat o (by omega)) (growTo_nat o (by omega))
    (z2 f1 hm (fix_sub m)) (z2 hm g1 gs) (z1 f2 f1 (fix_mono hsb)) (z1 g2 g1 (grow_mono hbm hm hsb)) (cast_beq _ _) ?_
  · exact (fixTo_nat _ (by omega)).trans (by rw [fix_self f1 pf])
  · exact (growTo_nat _ (by omega)).trans (by rw [grow_self g1 pg])
  · exact (fixTo_nat _ (by omega)).trans (by rw [fix_self g1 pg])
  · exact (growTo_nat _ (by omega)).trans (by rw [grow_self f1 pf])
  · rw [cast_beq, Bool.eq_iff_iff, beq_iff_eq, beq_iff_eq]
    constructor
    · intro h; rw [h] at pg; exact fix_self hm pg
    · intro h; rw [h] at pf; exact grow_self hm pf
end Go.Proofs.YthkipihakiopnaaDoor
