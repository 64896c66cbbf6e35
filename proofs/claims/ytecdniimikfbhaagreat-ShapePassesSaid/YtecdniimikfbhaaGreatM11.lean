/- Guard: contracts, joined texts (G38, G39). -/
import Derived.Test.YtecdniimikfbhaaGreatM09

/- Contracts of the reference's Match, of kinds and of interfaces. -/
namespace Go.Proofs.YtecdniimikfbhaaGreat
open Go Go.RowKit Go.ChangeShapes Go.WideShapes

theorem bit_nat (n k : Nat) (hn : n < 4294967296) : (bits BinOp.and IntKind.u32 ((n : Int) / 2 ^ k) 1 == 1) = n.testBit k := by
  have e : (n : Int) / 2 ^ k = ((n / 2 ^ k : Nat) : Int) := by simp
  have hd : n / 2 ^ k < 4294967296 := Nat.lt_of_le_of_lt (Nat.div_le_self _ _) hn
  rw [e, show (1 : Int) = ((1 : Nat) : Int) from rfl, u32_and_nat _ 1 hd (by omega), Bool.eq_iff_iff, beq_iff_eq, Nat.testBit, Nat.shiftRight_eq_div_pow]
  rw [Nat.and_comm, bne_iff_ne]
  have := Nat.one_and_eq_mod_two (n / 2 ^ k)
  rw [this]
  omega
set_option maxHeartbeats 800000 in
theorem match_of (op n : Int) (s : Nat) (hs : s < 4294967296) (k : Nat) (hk : k ≤ 13) (m b t sl : Value) (w : World) (HK : ∀ W, Below w.heap.size w W → Calls Tryz.prog 22 #[.agg #[.int .i64 op, .int .i64 n, .slice none 0 0]] W fun x w' => x = .returned (.int .u32 s) ∧ Below W.heap.size W w') :
    Calls Tryz.prog 12 #[.agg #[.int .i64 op, .int .i64 n, .slice none 0 0], .agg #[.int .i64 k, m, b, t, sl]] w fun x w' => x = .returned (.bool (s.testBit k)) ∧ Below w.heap.size w w' := by
  have HK1 := Lib.hid HK
  clear HK
  obtain ⟨W1, hW1⟩ : ∃ W1, W1 = (w.alloc (.cells #[.int .i64 op, .int .i64 n, .slice none 0 0] 40)).alloc (.cells #[.int .i64 k, m, b, t, sl] 26) := ⟨_, rfl⟩
  have hb1 : Below w.heap.size w W1 := by rw [hW1]; exact ((Below.refl _ _).alloc (Nat.le_refl _) _).alloc (by simp) _
  have hx1 : Row W1 w.heap.size #[.int .i64 op, .int .i64 n, .slice none 0 0] 40 := by rw [hW1]; exact (Row.new w _ _).old _
  have hx2 : Row W1 (w.heap.size + 1) #[.int .i64 k, m, b, t, sl] 26 := by
    rw [hW1]; have h := Row.new (w.alloc (.cells #[.int .i64 op, .int .i64 n, .slice none 0 0] 40)) #[.int .i64 k, m, b, t, sl] 26; simpa using h
  have hx2d : Row W1.drew (w.heap.size + 1) #[.int .i64 k, m, b, t, sl] 26 := hx2
  have p0 : W1.cell? ⟨w.heap.size, 0, none⟩ = some (.int .i64 op) := hx1.cell 0 rfl
  have p1 : W1.cell? ⟨w.heap.size, 1, none⟩ = some (.int .i64 n) := hx1.cell 1 rfl
  have p2 : W1.cell? ⟨w.heap.size, 2, none⟩ = some (.slice none 0 0) := hx1.cell 2 rfl
  have q0 : W1.cell? ⟨w.heap.size + 1, 0, none⟩ = some (.int .i64 k) := hx2.cell 0 rfl
  go_enter Tryz.func12, Tryz.ntmps12
  go_upto_region 1 with fail
  rw [← hW1]
  clear hW1
  go_region_with (go_at_call 22; refine (HK1.out _ hb1.drew).mono ?_; rintro e w2 ⟨rfl, hb2⟩; have q1 : w2.cell? ⟨w.heap.size + 1, 0, none⟩ = some (.int .i64 k) := (hx2d.later hb2).cell 0 rfl; dsimp only)
  all_goals
    go_wp2_with fail
    refine bodyPost_ret (results_tmp rfl _ _ _) rfl ⟨?_, hb1.drew.trans (hb2.mono hb1.size)⟩
    go_simp
    exact bit_nat s k hs

theorem hasFi_eq (k : Nat) (f : Int) (hf : 0 ≤ f ∧ f < 10) : hasFi k f = decide (missN k (methsI f) = -1) := by
  have hm : ∀ l : List Nat, (l.all (hasM k)) = decide (missN k l = -1) := fun l => by
    induction l with
    | nil => rfl
    | cons m l ih =>
      cases h : hasM k m
      · simp [missN, h]
      · simp [missN, h, ih]
  obtain ⟨n, rfl⟩ : ∃ n : Nat, f = n := ⟨f.toNat, by omega⟩
  rw [methsI_nat n (by omega), ← hm]
  simp [hasFi, hasF, hf]
  omega
theorem hasFi_out (k : Nat) (f : Int) (hf : ¬ (0 ≤ f ∧ f < 10)) : hasFi k f = false := by
  unfold hasFi
  rw [decide_eq_false hf]
  rfl
theorem methsI_pos (f : Int) (hf : 0 ≤ f ∧ f < 10) : 0 < (methsI f).length := by
  obtain ⟨n, rfl⟩ : ∃ n : Nat, f = n := ⟨f.toNat, by omega⟩
  rw [methsI_nat n (by omega)]
  have hn : n < 10 := by omega
  have h : ∀ n, n < 10 → 0 < (meths n).length := by decide
  exact h n hn
theorem hasFi_0 (f : Int) : hasFi 0 f = false := by
  by_cases hf : 0 ≤ f ∧ f < 10
  · obtain ⟨n, rfl⟩ : ∃ n : Nat, f = n := ⟨f.toNat, by omega⟩
    have hn : n < 10 := by omega
    have h : ∀ n, n < 10 → hasF 0 n = false := by decide
    simp [hasFi, h n hn]
  · exact hasFi_out 0 f hf

set_option maxHeartbeats 800000 in
theorem rimpl_any (k : Nat) (hk : k ≤ 13) (f : Int) (w : World) : Calls Tryz.prog 28 #[.int .i64 k, .int .i64 f] w fun x w' => x = .returned (.bool (hasFi k f)) ∧ Below w.heap.size w w' := by
  have HM := Lib.hid (fun w => rmeths_any f w)
  have HL := Lib.hid (fun w => lacks_any k hk f w)
  by_cases h0 : k = 0
  · subst h0
    rw [hasFi_0]
    clear HM HL
    go_enter Tryz.func28, Tryz.ntmps28
    go_wp2_with fail
    go_ret
    exact ⟨rfl, Below.refl _ _⟩
  · have k1 : decide ((0 : Int) < k) = true := by simp; omega
    have k2 : decide ((k : Int) < 14) = true := by simp; omega
    have k3 : 0 < k := by omega
    clear h0
    by_cases hf : 0 ≤ f ∧ f < 10
    · have hpos := methsI_pos f hf
      rw [hasFi_eq k f hf]
      generalize methsI f = ms at *
      generalize missN k ms = mm at *
      clear hf
      go_enter Tryz.func28, Tryz.ntmps28
      go_wp2_with (first | (go_at_call 45; refine (HM.out _).mono ?_; rintro e w1 ⟨v, rfl, ⟨a, b, rfl, hab, hcl⟩, hb1⟩; clear hab hcl) | (go_at_call 46; refine (HL.out _).mono ?_; rintro e w2 ⟨rfl, hb2⟩))
      go_ret
      exact ⟨by congr 2, hb1.trans (hb2.mono hb1.size)⟩
    · rw [hasFi_out k f hf]
      rw [methsI_no f hf] at HM
      clear HL hf
      go_enter Tryz.func28, Tryz.ntmps28
      go_wp2_with (go_at_call 45; refine (HM.out _).mono ?_; rintro e w1 ⟨v, rfl, ⟨a, b, rfl, hab, hcl⟩, hb1⟩; clear hab hcl)
      go_ret
      exact ⟨rfl, hb1⟩
end Go.Proofs.YtecdniimikfbhaaGreat

/- Contracts of the reference's Kinds, of kinds and of interfaces; and what Match answers. -/
namespace Go.Proofs.YtecdniimikfbhaaGreat
open Go Go.RowKit Go.ChangeShapes Go.WideShapes

/-- The kinds that an assertion to a kind asks for, as a number. -/
def kmask (n : Nat) : Nat := if n = 11 then 6144 else 2 ^ n
/-- The kinds below j that have an interface. -/
def fmask (f : Nat) : Nat → Nat
  | 0 => 0
  | j + 1 => if hasF j f = true then fmask f j ||| 2 ^ j else fmask f j
theorem kinds_k1 (w : World) : Calls Tryz.prog 22 #[.agg #[.int .i64 2, .int .i64 1, .slice none 0 0]] w fun x w' => x = .returned (.int .u32 (kmask 1 : Nat)) ∧ Below w.heap.size w w' := by
  go_enter Tryz.func22, Tryz.ntmps22
  go_wp2
  go_ret
  exact ⟨rfl, by go_grown⟩
theorem kinds_k2 (w : World) : Calls Tryz.prog 22 #[.agg #[.int .i64 2, .int .i64 2, .slice none 0 0]] w fun x w' => x = .returned (.int .u32 (kmask 2 : Nat)) ∧ Below w.heap.size w w' := by
  go_enter Tryz.func22, Tryz.ntmps22
  go_wp2
  go_ret
  exact ⟨rfl, by go_grown⟩
theorem kinds_k3 (w : World) : Calls Tryz.prog 22 #[.agg #[.int .i64 2, .int .i64 3, .slice none 0 0]] w fun x w' => x = .returned (.int .u32 (kmask 3 : Nat)) ∧ Below w.heap.size w w' := by
  go_enter Tryz.func22, Tryz.ntmps22
  go_wp2
  go_ret
  exact ⟨rfl, by go_grown⟩
theorem kinds_k4 (w : World) : Calls Tryz.prog 22 #[.agg #[.int .i64 2, .int .i64 4, .slice none 0 0]] w fun x w' => x = .returned (.int .u32 (kmask 4 : Nat)) ∧ Below w.heap.size w w' := by
  go_enter Tryz.func22, Tryz.ntmps22
  go_wp2
  go_ret
  exact ⟨rfl, by go_grown⟩
theorem kinds_k5 (w : World) : Calls Tryz.prog 22 #[.agg #[.int .i64 2, .int .i64 5, .slice none 0 0]] w fun x w' => x = .returned (.int .u32 (kmask 5 : Nat)) ∧ Below w.heap.size w w' := by
  go_enter Tryz.func22, Tryz.ntmps22
  go_wp2
  go_ret
  exact ⟨rfl, by go_grown⟩
theorem kinds_k6 (w : World) : Calls Tryz.prog 22 #[.agg #[.int .i64 2, .int .i64 6, .slice none 0 0]] w fun x w' => x = .returned (.int .u32 (kmask 6 : Nat)) ∧ Below w.heap.size w w' := by
  go_enter Tryz.func22, Tryz.ntmps22
  go_wp2
  go_ret
  exact ⟨rfl, by go_grown⟩
theorem kinds_k7 (w : World) : Calls Tryz.prog 22 #[.agg #[.int .i64 2, .int .i64 7, .slice none 0 0]] w fun x w' => x = .returned (.int .u32 (kmask 7 : Nat)) ∧ Below w.heap.size w w' := by
  go_enter Tryz.func22, Tryz.ntmps22
  go_wp2
  go_ret
  exact ⟨rfl, by go_grown⟩
theorem kinds_k8 (w : World) : Calls Tryz.prog 22 #[.agg #[.int .i64 2, .int .i64 8, .slice none 0 0]] w fun x w' => x = .returned (.int .u32 (kmask 8 : Nat)) ∧ Below w.heap.size w w' := by
  go_enter Tryz.func22, Tryz.ntmps22
  go_wp2
  go_ret
  exact ⟨rfl, by go_grown⟩
theorem kinds_k9 (w : World) : Calls Tryz.prog 22 #[.agg #[.int .i64 2, .int .i64 9, .slice none 0 0]] w fun x w' => x = .returned (.int .u32 (kmask 9 : Nat)) ∧ Below w.heap.size w w' := by
  go_enter Tryz.func22, Tryz.ntmps22
  go_wp2
  go_ret
  exact ⟨rfl, by go_grown⟩
theorem kinds_k10 (w : World) : Calls Tryz.prog 22 #[.agg #[.int .i64 2, .int .i64 10, .slice none 0 0]] w fun x w' => x = .returned (.int .u32 (kmask 10 : Nat)) ∧ Below w.heap.size w w' := by
  go_enter Tryz.func22, Tryz.ntmps22
  go_wp2
  go_ret
  exact ⟨rfl, by go_grown⟩
theorem kinds_k11 (w : World) : Calls Tryz.prog 22 #[.agg #[.int .i64 2, .int .i64 11, .slice none 0 0]] w fun x w' => x = .returned (.int .u32 (kmask 11 : Nat)) ∧ Below w.heap.size w w' := by
  go_enter Tryz.func22, Tryz.ntmps22
  go_wp2
  go_ret
  exact ⟨rfl, by go_grown⟩
theorem kinds_k12 (w : World) : Calls Tryz.prog 22 #[.agg #[.int .i64 2, .int .i64 12, .slice none 0 0]] w fun x w' => x = .returned (.int .u32 (kmask 12 : Nat)) ∧ Below w.heap.size w w' := by
  go_enter Tryz.func22, Tryz.ntmps22
  go_wp2
  go_ret
  exact ⟨rfl, by go_grown⟩
theorem kinds_k13 (w : World) : Calls Tryz.prog 22 #[.agg #[.int .i64 2, .int .i64 13, .slice none 0 0]] w fun x w' => x = .returned (.int .u32 (kmask 13 : Nat)) ∧ Below w.heap.size w w' := by
  go_enter Tryz.func22, Tryz.ntmps22
  go_wp2
  go_ret
  exact ⟨rfl, by go_grown⟩
theorem hasFi_nat {f : Nat} (hf : f < 10) (j : Nat) : hasFi j f = hasF j f := by
  unfold hasFi
  rw [decide_eq_true (by omega), Int.toNat_natCast]
  rfl
theorem fmask_no {f j : Nat} (hf : f < 10) (h : hasFi j f = false) : fmask f (j + 1) = fmask f j := by
  rw [hasFi_nat hf] at h
  simp [fmask, h]
theorem fmask_lt (f : Nat) : ∀ j, j ≤ 14 → fmask f j < 4294967296
  | 0, _ => by show 0 < 4294967296; decide
  | j + 1, h => by
    have h1 := fmask_lt f j (by omega)
    have h2 : 2 ^ j < 4294967296 := Nat.pow_lt_pow_right (by omega) (show j < 32 by omega)
    unfold fmask
    split
    · exact Nat.or_lt_two_pow (n := 32) h1 h2
    · exact h1
theorem fmask_yes {f j : Nat} (hf : f < 10) (hj : j < 14) (h : hasFi j f = true) : bits BinOp.or IntKind.u32 (fmask f j : Nat) (2 ^ j % 4294967296) = (fmask f (j + 1) : Nat) := by
  rw [hasFi_nat hf] at h
  have h2 : 2 ^ j < 4294967296 := Nat.pow_lt_pow_right (by omega) (show j < 32 by omega)
  have e : ((2 : Int) ^ j % 4294967296) = ((2 ^ j : Nat) : Int) := by
    have e1 : ((2 : Int) ^ j) = ((2 ^ j : Nat) : Int) := by simp
    rw [e1]
    generalize 2 ^ j = z at h2 ⊢
    omega
  rw [e, u32_or_nat _ _ (fmask_lt f j (by omega)) h2]
  simp [fmask, h]
set_option maxHeartbeats 1600000 in
theorem kinds_face (f : Nat) (hf : f < 10) (w : World) : Calls Tryz.prog 22 #[.agg #[.int .i64 3, .int .i64 f, .slice none 0 0]] w fun x w' => x = .returned (.int .u32 (fmask f 14 : Nat)) ∧ Below w.heap.size w w' := by
  have HI := Lib.hid (fun (k : Nat) (hk : k ≤ 13) w => rimpl_any k hk f w)
  obtain ⟨W1, hW1⟩ : ∃ W1, W1 = w.alloc (.cells #[.int .i64 3, .int .i64 f, .slice none 0 0] 40) := ⟨_, rfl⟩
  have hb1 : Below w.heap.size w W1 := by rw [hW1]; exact (Below.refl _ _).alloc (Nat.le_refl _) _
  have hx1 : Row W1 w.heap.size #[.int .i64 3, .int .i64 f, .slice none 0 0] 40 := by rw [hW1]; exact Row.new w _ _
  have p0 : W1.cell? ⟨w.heap.size, 0, none⟩ = some (.int .i64 3) := hx1.cell 0 rfl
  go_enter Tryz.func22, Tryz.ntmps22
  go_upto_region 1 with fail
  rw [← hW1]
  clear hW1
  go_wp2_with fail
  go_loopw [3, 4] (fun s i wr => ∃ j : Nat, j ≤ 14 ∧ i = .int .i64 j ∧ s = .int .u32 (fmask f j : Nat) ∧ Below W1.heap.size W1 wr) (fun _ i _ => 14 - (intOf i).toNat)
  case atStart => exact ⟨0, by omega, rfl, rfl, Below.refl _ _⟩
  case round =>
    obtain ⟨j, hj, rfl, rfl, hbr⟩ := hrel
    have q1 : wr.cell? ⟨w.heap.size, 1, none⟩ = some (.int .i64 f) := (hx1.later hbr).cell 1 rfl
    by_cases hlt : j < 14
    · have HIj := Lib.hid (HI.out j (by omega))
      have hlt' : decide ((j : Int) < 14) = true := by simp; omega
      cases h : hasFi j f
      · rw [h] at HIj
        go_wp2_with (go_at_call 28; refine (HIj.out _).mono ?_; rintro e w2 ⟨rfl, hb2⟩)
        go_roundw
        case rel => exact ⟨j + 1, by omega, by go_num, by rw [fmask_no hf h], hbr.trans (hb2.mono hbr.size)⟩
        case measure => simp [intOf]; omega
      · rw [h] at HIj
        go_wp2_with (go_at_call 28; refine (HIj.out _).mono ?_; rintro e w2 ⟨rfl, hb2⟩)
        go_roundw
        case rel => exact ⟨j + 1, by omega, by go_num, by rw [fmask_yes hf hlt h], hbr.trans (hb2.mono hbr.size)⟩
        case measure => simp [intOf]; omega
    · obtain rfl : j = 14 := by omega
      go_wp2_with fail
      go_ret
      exact ⟨rfl, hb1.trans (hbr.mono hb1.size)⟩

theorem kmask_bit : ∀ n, n < 14 → 1 ≤ n → ∀ k, k < 14 → (kmask n).testBit k = isB k n := by decide +kernel
theorem fmask_bit : ∀ f, f < 10 → ∀ k, k < 14 → (fmask f 14).testBit k = hasF k f := by decide +kernel
theorem kmask_lt (n : Nat) (hn : n < 14) : kmask n < 4294967296 := by
  have h : ∀ n, n < 14 → kmask n < 4294967296 := by decide +kernel
  exact h n hn
theorem match_kind (n k : Nat) (hn : 1 ≤ n ∧ n < 14) (hk : k ≤ 13) (m b t sl : Value) (w : World) : Calls Tryz.prog 12 #[.agg #[.int .i64 2, .int .i64 n, .slice none 0 0], .agg #[.int .i64 k, m, b, t, sl]] w fun x w' => x = .returned (.bool (isB k n)) ∧ Below w.heap.size w w' := by
  rw [← kmask_bit n hn.2 hn.1 k (by omega)]
  refine match_of 2 n (kmask n) (kmask_lt n hn.2) k hk m b t sl w (fun W _ => ?_)
  have hn' := hn.2
  match n, hn' with
  | 0, _ => omega
  | 1, _ => exact kinds_k1 W
  | 2, _ => exact kinds_k2 W
  | 3, _ => exact kinds_k3 W
  | 4, _ => exact kinds_k4 W
  | 5, _ => exact kinds_k5 W
  | 6, _ => exact kinds_k6 W
  | 7, _ => exact kinds_k7 W
  | 8, _ => exact kinds_k8 W
  | 9, _ => exact kinds_k9 W
  | 10, _ => exact kinds_k10 W
  | 11, _ => exact kinds_k11 W
  | 12, _ => exact kinds_k12 W
  | 13, _ => exact kinds_k13 W
  | n + 14, h => omega
theorem match_face (f k : Nat) (hf : f < 10) (hk : k ≤ 13) (m b t sl : Value) (w : World) : Calls Tryz.prog 12 #[.agg #[.int .i64 3, .int .i64 f, .slice none 0 0], .agg #[.int .i64 k, m, b, t, sl]] w fun x w' => x = .returned (.bool (hasF k f)) ∧ Below w.heap.size w w' := by
  rw [← fmask_bit f hf k (by omega)]
  exact match_of 3 f (fmask f 14) (fmask_lt f 14 (by omega)) k hk m b t sl w (fun W _ => kinds_face f hf W)
end Go.Proofs.YtecdniimikfbhaaGreat
