/- Guard: contracts, joined texts (G66, G38, G39, G8). -/
import Derived.Test.YteplhhlgceppkabGreatM02
import Derived.Test.YteplhhlgceppkabGreatM09
import Derived.Test.YteplhhlgceppkabGreatM10

/- Contracts of the reference's Gave, Panicked, quotient. -/
namespace Go.Proofs.YteplhhlgceppkabGreat
open Go Go.RowKit Go.ChangeShapes Go.WideShapes

theorem res1_world (w : World) : ∃ W1, W1 = w.alloc (.cells #[.int .i64 0, .int .i64 0, .int .i64 0, .int .i64 0, .bool false, .int .i64 0, .int .i64 0, .int .u64 0, .string ⟨#[]⟩, .slice none 0 0] 42) ∧ Below w.heap.size w W1 ∧ Row W1 w.heap.size #[.int .i64 0, .int .i64 0, .int .i64 0, .int .i64 0, .bool false, .int .i64 0, .int .i64 0, .int .u64 0, .string ⟨#[]⟩, .slice none 0 0] 42 := ⟨_, rfl, by go_grown, Row.new _ _ _⟩
/-- The quotient. -/
def quoI (a b : Int) : Int := wrap64 (a.tdiv b)

set_option maxRecDepth 100000 in
set_option maxHeartbeats 800000 in
theorem rgave_v (k m b : Int) (t : ByteArray) (a : Option Addr) (l cap : Nat) (w : World) :
    Calls Tryz.prog 21 #[(.agg #[.int .i64 k, .int .i64 m, .int .u64 b, .string t, .slice a l cap])] w fun x w' => x = .returned (.agg #[.int .i64 0, .int .i64 0, .int .i64 0, .int .i64 0, .bool true, .int .i64 k, .int .i64 m, .int .u64 b, .string t, .slice a l cap]) ∧ Below w.heap.size w w' := by
  obtain ⟨W1, hW1, hb1, hz, hx1, hx2⟩ := res_worlds w (.int .i64 k) (.int .i64 m) (.int .u64 b) (.string t) (.slice a l cap)
  obtain ⟨p0, p1, p2, p3, p4⟩ := hx1.cells
  have q0 : W1.cell? ⟨w.heap.size + 1, 0, none⟩ = some (.int .i64 0) := hx2.cell 0 rfl
  have fq0 := hx2.thaw 0
  have q1 : W1.cell? ⟨w.heap.size + 1, 1, none⟩ = some (.int .i64 0) := hx2.cell 1 rfl
  have fq1 := hx2.thaw 1
  have q2 : W1.cell? ⟨w.heap.size + 1, 2, none⟩ = some (.int .i64 0) := hx2.cell 2 rfl
  have fq2 := hx2.thaw 2
  have q3 : W1.cell? ⟨w.heap.size + 1, 3, none⟩ = some (.int .i64 0) := hx2.cell 3 rfl
  have fq3 := hx2.thaw 3
  have q4 : W1.cell? ⟨w.heap.size + 1, 4, none⟩ = some (.bool false) := hx2.cell 4 rfl
  have fq4 := hx2.thaw 4
  have q5 : W1.cell? ⟨w.heap.size + 1, 5, none⟩ = some (.int .i64 0) := hx2.cell 5 rfl
  have fq5 := hx2.thaw 5
  have q6 : W1.cell? ⟨w.heap.size + 1, 6, none⟩ = some (.int .i64 0) := hx2.cell 6 rfl
  have fq6 := hx2.thaw 6
  have q7 : W1.cell? ⟨w.heap.size + 1, 7, none⟩ = some (.int .u64 0) := hx2.cell 7 rfl
  have fq7 := hx2.thaw 7
  have q8 : W1.cell? ⟨w.heap.size + 1, 8, none⟩ = some (.string ⟨#[]⟩) := hx2.cell 8 rfl
  have fq8 := hx2.thaw 8
  have q9 : W1.cell? ⟨w.heap.size + 1, 9, none⟩ = some (.slice none 0 0) := hx2.cell 9 rfl
  have fq9 := hx2.thaw 9
  go_enter Tryz.func21, Tryz.ntmps21
  go_upto_region 1 with fail
  rw [← hW1]
  clear hW1
  go_wp2_with fail
  exact bodyPost_ret (results_cell_row rfl _ _ (w.heap.size + 1) 42 _ (0, 0) _ rfl (hx2.set10 _ _ _ _ _ _ _ _ _ _) Tryz.underlying42 rfl (by kernel_rfl)) rfl ⟨rfl, set10_below hb1 (by omega)⟩

set_option maxRecDepth 100000 in
set_option maxHeartbeats 800000 in
theorem rpan_v (p n : Int) (w : World) :
    Calls Tryz.prog 25 #[.int .i64 p, .int .i64 n] w fun x w' => x = .returned (.agg #[.int .i64 110, .int .i64 0, .int .i64 p, .int .i64 n, .bool false, .int .i64 0, .int .i64 0, .int .u64 0, .string ⟨#[]⟩, .slice none 0 0]) ∧ Below w.heap.size w w' := by
  obtain ⟨W1, hW1, hb1, hx2⟩ := res1_world w
  have q0 : W1.cell? ⟨w.heap.size, 0, none⟩ = some (.int .i64 0) := hx2.cell 0 rfl
  have fq0 := hx2.thaw 0
  have q1 : W1.cell? ⟨w.heap.size, 1, none⟩ = some (.int .i64 0) := hx2.cell 1 rfl
  have fq1 := hx2.thaw 1
  have q2 : W1.cell? ⟨w.heap.size, 2, none⟩ = some (.int .i64 0) := hx2.cell 2 rfl
  have fq2 := hx2.thaw 2
  have q3 : W1.cell? ⟨w.heap.size, 3, none⟩ = some (.int .i64 0) := hx2.cell 3 rfl
  have fq3 := hx2.thaw 3
  have q4 : W1.cell? ⟨w.heap.size, 4, none⟩ = some (.bool false) := hx2.cell 4 rfl
  have fq4 := hx2.thaw 4
  have q5 : W1.cell? ⟨w.heap.size, 5, none⟩ = some (.int .i64 0) := hx2.cell 5 rfl
  have fq5 := hx2.thaw 5
  have q6 : W1.cell? ⟨w.heap.size, 6, none⟩ = some (.int .i64 0) := hx2.cell 6 rfl
  have fq6 := hx2.thaw 6
  have q7 : W1.cell? ⟨w.heap.size, 7, none⟩ = some (.int .u64 0) := hx2.cell 7 rfl
  have fq7 := hx2.thaw 7
  have q8 : W1.cell? ⟨w.heap.size, 8, none⟩ = some (.string ⟨#[]⟩) := hx2.cell 8 rfl
  have fq8 := hx2.thaw 8
  have q9 : W1.cell? ⟨w.heap.size, 9, none⟩ = some (.slice none 0 0) := hx2.cell 9 rfl
  have fq9 := hx2.thaw 9
  go_enter Tryz.func25, Tryz.ntmps25
  go_upto_region 1 with fail
  rw [← hW1]
  clear hW1
  go_wp2_with fail
  exact bodyPost_ret (results_cell_row rfl _ _ w.heap.size 42 _ (0, 0) _ rfl (hx2.set10 _ _ _ _ _ _ _ _ _ _) Tryz.underlying42 rfl (by kernel_rfl)) rfl ⟨rfl, set10_below hb1 (Nat.le_refl _)⟩

theorem quot_any (a b : Int) (hb : b ≠ 0) (w : World) : Calls Tryz.prog 29 #[.int .i64 a, .int .i64 b] w fun x w' => x = .returned (.int .i64 (quoI a b)) ∧ w = w' := by
  go_enter Tryz.func29, Tryz.ntmps29
  by_cases h : b = -1
  · subst h
    have e : quoI a (-1) = wrap64 (-a) := by
      unfold quoI
      rw [Int.tdiv_neg, Int.tdiv_one]
    rw [e]
    go_wp2_with fail
    go_ret
    exact ⟨rfl, rfl⟩
  · unfold quoI
    go_wp2_with fail
    go_ret
    exact ⟨rfl, rfl⟩
end Go.Proofs.YteplhhlgceppkabGreat

/- Contracts of the reference's Match, of kinds and of interfaces. -/
namespace Go.Proofs.YteplhhlgceppkabGreat
open Go Go.RowKit Go.ChangeShapes Go.WideShapes

theorem bit_nat (n k : Nat) (hn : n < 4294967296) : (bits BinOp.and IntKind.u32 ((n : Int) / 2 ^ k) 1 == 1) = n.testBit k := by
  have e : (n : Int) / 2 ^ k = ((n / 2 ^ k : Nat) : Int) := by simp
  have hd : n / 2 ^ k < 4294967296 := Nat.lt_of_le_of_lt (Nat.div_le_self _ _) hn
  rw [e, show (1 : Int) = ((1 : Nat) : Int) from rfl, u32_and_nat _ 1 hd (by omega), Bool.eq_iff_iff, beq_iff_eq, Nat.testBit, Nat.shiftRight_eq_div_pow]
  rw [Nat.and_comm, bne_iff_ne]
  have := Nat.one_and_eq_mod_two (n / 2 ^ k)
  rw [this]
  omega
set_option maxHeartbeats 800000 in
theorem match_of (op n : Int) (s : Nat) (hs : s < 4294967296) (k : Nat) (hk : k ≤ 13) (m b t sl : Value) (w : World) (HK : ∀ W, Below w.heap.size w W → Calls Tryz.prog 51 #[.agg #[.int .i64 op, .int .i64 n, .slice none 0 0]] W fun x w' => x = .returned (.int .u32 s) ∧ Below W.heap.size W w') :
    Calls Tryz.prog 40 #[.agg #[.int .i64 op, .int .i64 n, .slice none 0 0], .agg #[.int .i64 k, m, b, t, sl]] w fun x w' => x = .returned (.bool (s.testBit k)) ∧ Below w.heap.size w w' := by
  have HK1 := Lib.hid HK
  clear HK
  obtain ⟨W1, hW1⟩ : ∃ W1, W1 = (w.alloc (.cells #[.int .i64 op, .int .i64 n, .slice none 0 0] 79)).alloc (.cells #[.int .i64 k, m, b, t, sl] 26) := ⟨_, rfl⟩
  have hb1 : Below w.heap.size w W1 := by rw [hW1]; exact ((Below.refl _ _).alloc (Nat.le_refl _) _).alloc (by simp) _
  have hx1 : Row W1 w.heap.size #[.int .i64 op, .int .i64 n, .slice none 0 0] 79 := by rw [hW1]; exact (Row.new w _ _).old _
  have hx2 : Row W1 (w.heap.size + 1) #[.int .i64 k, m, b, t, sl] 26 := by
    rw [hW1]; have h := Row.new (w.alloc (.cells #[.int .i64 op, .int .i64 n, .slice none 0 0] 79)) #[.int .i64 k, m, b, t, sl] 26; simpa using h
  have hx2d : Row W1.drew (w.heap.size + 1) #[.int .i64 k, m, b, t, sl] 26 := hx2
  have p0 : W1.cell? ⟨w.heap.size, 0, none⟩ = some (.int .i64 op) := hx1.cell 0 rfl
  have p1 : W1.cell? ⟨w.heap.size, 1, none⟩ = some (.int .i64 n) := hx1.cell 1 rfl
  have p2 : W1.cell? ⟨w.heap.size, 2, none⟩ = some (.slice none 0 0) := hx1.cell 2 rfl
  have q0 : W1.cell? ⟨w.heap.size + 1, 0, none⟩ = some (.int .i64 k) := hx2.cell 0 rfl
  go_enter Tryz.func40, Tryz.ntmps40
  go_upto_region 1 with fail
  rw [← hW1]
  clear hW1
  go_region_with (go_at_call 51; refine (HK1.out _ hb1.drew).mono ?_; rintro e w2 ⟨rfl, hb2⟩; have q1 : w2.cell? ⟨w.heap.size + 1, 0, none⟩ = some (.int .i64 k) := (hx2d.later hb2).cell 0 rfl; dsimp only)
  all_goals
    go_wp2_with fail
    refine bodyPost_ret (results_tmp rfl _ _ _) rfl ⟨?_, hb1.drew.trans (hb2.mono hb1.size)⟩
    go_simp
    exact bit_nat s k hs

theorem hasFi_eq (k : Nat) (f : Int) (hf : 0 ≤ f ∧ f < 10) : hasFi k f = decide (missN k (methsI f) = -1) := by
  have hm : ∀ l : List Nat, (l.all (hasM k)) = decide (missN k l = -1) := fun l => by
    induction l with
    | nil => rfl
    | cons m l ih =>
      cases h : hasM k m
      · simp [missN, h]
      · simp [missN, h, ih]
  obtain ⟨n, rfl⟩ : ∃ n : Nat, f = n := ⟨f.toNat, by omega⟩
  rw [methsI_nat n (by omega), ← hm]
  simp [hasFi, hasF, hf]
  omega
theorem hasFi_out (k : Nat) (f : Int) (hf : ¬ (0 ≤ f ∧ f < 10)) : hasFi k f = false := by
  unfold hasFi
  rw [decide_eq_false hf]
  rfl
theorem methsI_pos (f : Int) (hf : 0 ≤ f ∧ f < 10) : 0 < (methsI f).length := by
  obtain ⟨n, rfl⟩ : ∃ n : Nat, f = n := ⟨f.toNat, by omega⟩
  rw [methsI_nat n (by omega)]
  have hn : n < 10 := by omega
  have h : ∀ n, n < 10 → 0 < (meths n).length := by decide
  exact h n hn
theorem hasFi_0 (f : Int) : hasFi 0 f = false := by
  by_cases hf : 0 ≤ f ∧ f < 10
  · obtain ⟨n, rfl⟩ : ∃ n : Nat, f = n := ⟨f.toNat, by omega⟩
    have hn : n < 10 := by omega
    have h : ∀ n, n < 10 → hasF 0 n = false := by decide
    simp [hasFi, h n hn]
  · exact hasFi_out 0 f hf

set_option maxHeartbeats 800000 in
theorem rimpl_any (k : Nat) (hk : k ≤ 13) (f : Int) (w : World) : Calls Tryz.prog 65 #[.int .i64 k, .int .i64 f] w fun x w' => x = .returned (.bool (hasFi k f)) ∧ Below w.heap.size w w' := by
  have HM := Lib.hid (fun w => rmeths_any f w)
  have HL := Lib.hid (fun w => lacks_any k hk f w)
  by_cases h0 : k = 0
  · subst h0
    rw [hasFi_0]
    clear HM HL
    go_enter Tryz.func65, Tryz.ntmps65
    go_wp2_with fail
    go_ret
    exact ⟨rfl, Below.refl _ _⟩
  · have k1 : decide ((0 : Int) < k) = true := by simp; omega
    have k2 : decide ((k : Int) < 14) = true := by simp; omega
    have k3 : 0 < k := by omega
    clear h0
    by_cases hf : 0 ≤ f ∧ f < 10
    · have hpos := methsI_pos f hf
      rw [hasFi_eq k f hf]
      generalize methsI f = ms at *
      generalize missN k ms = mm at *
      clear hf
      go_enter Tryz.func65, Tryz.ntmps65
      go_wp2_with (first | (go_at_call 52; refine (HM.out _).mono ?_; rintro e w1 ⟨v, rfl, ⟨a, b, rfl, hab, hcl⟩, hb1⟩; clear hab hcl) | (go_at_call 41; refine (HL.out _).mono ?_; rintro e w2 ⟨rfl, hb2⟩))
      go_ret
      exact ⟨by congr 2, hb1.trans (hb2.mono hb1.size)⟩
    · rw [hasFi_out k f hf]
      rw [methsI_no f hf] at HM
      clear HL hf
      go_enter Tryz.func65, Tryz.ntmps65
      go_wp2_with (go_at_call 52; refine (HM.out _).mono ?_; rintro e w1 ⟨v, rfl, ⟨a, b, rfl, hab, hcl⟩, hb1⟩; clear hab hcl)
      go_ret
      exact ⟨rfl, hb1⟩
end Go.Proofs.YteplhhlgceppkabGreat

/- Contracts of the reference's Kinds, of kinds and of interfaces; and what Match answers. -/
namespace Go.Proofs.YteplhhlgceppkabGreat
open Go Go.RowKit Go.ChangeShapes Go.WideShapes

/-- The kinds that an assertion to a kind asks for, as a number. -/
def kmask (n : Nat) : Nat := if n = 11 then 6144 else 2 ^ n
/-- The kinds below j that have an interface. -/
def fmask (f : Nat) : Nat → Nat
  | 0 => 0
  | j + 1 => if hasF j f = true then fmask f j ||| 2 ^ j else fmask f j
theorem kinds_k1 (w : World) : Calls Tryz.prog 51 #[.agg #[.int .i64 2, .int .i64 1, .slice none 0 0]] w fun x w' => x = .returned (.int .u32 (kmask 1 : Nat)) ∧ Below w.heap.size w w' := by
  go_enter Tryz.func51, Tryz.ntmps51
  go_wp2
  go_ret
  exact ⟨rfl, by go_grown⟩
theorem kinds_k2 (w : World) : Calls Tryz.prog 51 #[.agg #[.int .i64 2, .int .i64 2, .slice none 0 0]] w fun x w' => x = .returned (.int .u32 (kmask 2 : Nat)) ∧ Below w.heap.size w w' := by
  go_enter Tryz.func51, Tryz.ntmps51
  go_wp2
  go_ret
  exact ⟨rfl, by go_grown⟩
theorem kinds_k3 (w : World) : Calls Tryz.prog 51 #[.agg #[.int .i64 2, .int .i64 3, .slice none 0 0]] w fun x w' => x = .returned (.int .u32 (kmask 3 : Nat)) ∧ Below w.heap.size w w' := by
  go_enter Tryz.func51, Tryz.ntmps51
  go_wp2
  go_ret
  exact ⟨rfl, by go_grown⟩
theorem kinds_k4 (w : World) : Calls Tryz.prog 51 #[.agg #[.int .i64 2, .int .i64 4, .slice none 0 0]] w fun x w' => x = .returned (.int .u32 (kmask 4 : Nat)) ∧ Below w.heap.size w w' := by
  go_enter Tryz.func51, Tryz.ntmps51
  go_wp2
  go_ret
  exact ⟨rfl, by go_grown⟩
theorem kinds_k5 (w : World) : Calls Tryz.prog 51 #[.agg #[.int .i64 2, .int .i64 5, .slice none 0 0]] w fun x w' => x = .returned (.int .u32 (kmask 5 : Nat)) ∧ Below w.heap.size w w' := by
  go_enter Tryz.func51, Tryz.ntmps51
  go_wp2
  go_ret
  exact ⟨rfl, by go_grown⟩
theorem kinds_k6 (w : World) : Calls Tryz.prog 51 #[.agg #[.int .i64 2, .int .i64 6, .slice none 0 0]] w fun x w' => x = .returned (.int .u32 (kmask 6 : Nat)) ∧ Below w.heap.size w w' := by
  go_enter Tryz.func51, Tryz.ntmps51
  go_wp2
  go_ret
  exact ⟨rfl, by go_grown⟩
theorem kinds_k7 (w : World) : Calls Tryz.prog 51 #[.agg #[.int .i64 2, .int .i64 7, .slice none 0 0]] w fun x w' => x = .returned (.int .u32 (kmask 7 : Nat)) ∧ Below w.heap.size w w' := by
  go_enter Tryz.func51, Tryz.ntmps51
  go_wp2
  go_ret
  exact ⟨rfl, by go_grown⟩
theorem kinds_k8 (w : World) : Calls Tryz.prog 51 #[.agg #[.int .i64 2, .int .i64 8, .slice none 0 0]] w fun x w' => x = .returned (.int .u32 (kmask 8 : Nat)) ∧ Below w.heap.size w w' := by
  go_enter Tryz.func51, Tryz.ntmps51
  go_wp2
  go_ret
  exact ⟨rfl, by go_grown⟩
theorem kinds_k9 (w : World) : Calls Tryz.prog 51 #[.agg #[.int .i64 2, .int .i64 9, .slice none 0 0]] w fun x w' => x = .returned (.int .u32 (kmask 9 : Nat)) ∧ Below w.heap.size w w' := by
  go_enter Tryz.func51, Tryz.ntmps51
  go_wp2
  go_ret
  exact ⟨rfl, by go_grown⟩
theorem kinds_k10 (w : World) : Calls Tryz.prog 51 #[.agg #[.int .i64 2, .int .i64 10, .slice none 0 0]] w fun x w' => x = .returned (.int .u32 (kmask 10 : Nat)) ∧ Below w.heap.size w w' := by
  go_enter Tryz.func51, Tryz.ntmps51
  go_wp2
  go_ret
  exact ⟨rfl, by go_grown⟩
theorem kinds_k11 (w : World) : Calls Tryz.prog 51 #[.agg #[.int .i64 2, .int .i64 11, .slice none 0 0]] w fun x w' => x = .returned (.int .u32 (kmask 11 : Nat)) ∧ Below w.heap.size w w' := by
  go_enter Tryz.func51, Tryz.ntmps51
  go_wp2
  go_ret
  exact ⟨rfl, by go_grown⟩
theorem kinds_k12 (w : World) : Calls Tryz.prog 51 #[.agg #[.int .i64 2, .int .i64 12, .slice none 0 0]] w fun x w' => x = .returned (.int .u32 (kmask 12 : Nat)) ∧ Below w.heap.size w w' := by
  go_enter Tryz.func51, Tryz.ntmps51
  go_wp2
  go_ret
  exact ⟨rfl, by go_grown⟩
theorem kinds_k13 (w : World) : Calls Tryz.prog 51 #[.agg #[.int .i64 2, .int .i64 13, .slice none 0 0]] w fun x w' => x = .returned (.int .u32 (kmask 13 : Nat)) ∧ Below w.heap.size w w' := by
  go_enter Tryz.func51, Tryz.ntmps51
  go_wp2
  go_ret
  exact ⟨rfl, by go_grown⟩
theorem hasFi_nat {f : Nat} (hf : f < 10) (j : Nat) : hasFi j f = hasF j f := by
  unfold hasFi
  rw [decide_eq_true (by omega), Int.toNat_natCast]
  rfl
theorem fmask_no {f j : Nat} (hf : f < 10) (h : hasFi j f = false) : fmask f (j + 1) = fmask f j := by
  rw [hasFi_nat hf] at h
  simp [fmask, h]
theorem fmask_lt (f : Nat) : ∀ j, j ≤ 14 → fmask f j < 4294967296
  | 0, _ => by show 0 < 4294967296; decide
  | j + 1, h => by
    have h1 := fmask_lt f j (by omega)
    have h2 : 2 ^ j < 4294967296 := Nat.pow_lt_pow_right (by omega) (show j < 32 by omega)
    unfold fmask
    split
    · exact Nat.or_lt_two_pow (n := 32) h1 h2
    · exact h1
theorem fmask_yes {f j : Nat} (hf : f < 10) (hj : j < 14) (h : hasFi j f = true) : bits BinOp.or IntKind.u32 (fmask f j : Nat) (2 ^ j % 4294967296) = (fmask f (j + 1) : Nat) := by
  rw [hasFi_nat hf] at h
  have h2 : 2 ^ j < 4294967296 := Nat.pow_lt_pow_right (by omega) (show j < 32 by omega)
  have e : ((2 : Int) ^ j % 4294967296) = ((2 ^ j : Nat) : Int) := by
    have e1 : ((2 : Int) ^ j) = ((2 ^ j : Nat) : Int) := by simp
    rw [e1]
    generalize 2 ^ j = z at h2 ⊢
    omega
  rw [e, u32_or_nat _ _ (fmask_lt f j (by omega)) h2]
  simp [fmask, h]
set_option maxHeartbeats 1600000 in
theorem kinds_face (f : Nat) (hf : f < 10) (w : World) : Calls Tryz.prog 51 #[.agg #[.int .i64 3, .int .i64 f, .slice none 0 0]] w fun x w' => x = .returned (.int .u32 (fmask f 14 : Nat)) ∧ Below w.heap.size w w' := by
  have HI := Lib.hid (fun (k : Nat) (hk : k ≤ 13) w => rimpl_any k hk f w)
  obtain ⟨W1, hW1⟩ : ∃ W1, W1 = w.alloc (.cells #[.int .i64 3, .int .i64 f, .slice none 0 0] 79) := ⟨_, rfl⟩
  have hb1 : Below w.heap.size w W1 := by rw [hW1]; exact (Below.refl _ _).alloc (Nat.le_refl _) _
  have hx1 : Row W1 w.heap.size #[.int .i64 3, .int .i64 f, .slice none 0 0] 79 := by rw [hW1]; exact Row.new w _ _
  have p0 : W1.cell? ⟨w.heap.size, 0, none⟩ = some (.int .i64 3) := hx1.cell 0 rfl
  go_enter Tryz.func51, Tryz.ntmps51
  go_upto_region 1 with fail
  rw [← hW1]
  clear hW1
  go_wp2_with fail
  go_loopw [3, 4] (fun s i wr => ∃ j : Nat, j ≤ 14 ∧ i = .int .i64 j ∧ s = .int .u32 (fmask f j : Nat) ∧ Below W1.heap.size W1 wr) (fun _ i _ => 14 - (intOf i).toNat)
  case atStart => exact ⟨0, by omega, rfl, rfl, Below.refl _ _⟩
  case round =>
    obtain ⟨j, hj, rfl, rfl, hbr⟩ := hrel
    have q1 : wr.cell? ⟨w.heap.size, 1, none⟩ = some (.int .i64 f) := (hx1.later hbr).cell 1 rfl
    by_cases hlt : j < 14
    · have HIj := Lib.hid (HI.out j (by omega))
      have hlt' : decide ((j : Int) < 14) = true := by simp; omega
      cases h : hasFi j f
      · rw [h] at HIj
        go_wp2_with (go_at_call 65; refine (HIj.out _).mono ?_; rintro e w2 ⟨rfl, hb2⟩)
        go_roundw
        case rel => exact ⟨j + 1, by omega, by go_num, by rw [fmask_no hf h], hbr.trans (hb2.mono hbr.size)⟩
        case measure => simp [intOf]; omega
      · rw [h] at HIj
        go_wp2_with (go_at_call 65; refine (HIj.out _).mono ?_; rintro e w2 ⟨rfl, hb2⟩)
        go_roundw
        case rel => exact ⟨j + 1, by omega, by go_num, by rw [fmask_yes hf hlt h], hbr.trans (hb2.mono hbr.size)⟩
        case measure => simp [intOf]; omega
    · obtain rfl : j = 14 := by omega
      go_wp2_with fail
      go_ret
      exact ⟨rfl, hb1.trans (hbr.mono hb1.size)⟩

theorem kmask_bit : ∀ n, n < 14 → 1 ≤ n → ∀ k, k < 14 → (kmask n).testBit k = isB k n := by decide +kernel
theorem fmask_bit : ∀ f, f < 10 → ∀ k, k < 14 → (fmask f 14).testBit k = hasF k f := by decide +kernel
theorem kmask_lt (n : Nat) (hn : n < 14) : kmask n < 4294967296 := by
  have h : ∀ n, n < 14 → kmask n < 4294967296 := by decide +kernel
  exact h n hn
theorem match_kind (n k : Nat) (hn : 1 ≤ n ∧ n < 14) (hk : k ≤ 13) (m b t sl : Value) (w : World) : Calls Tryz.prog 40 #[.agg #[.int .i64 2, .int .i64 n, .slice none 0 0], .agg #[.int .i64 k, m, b, t, sl]] w fun x w' => x = .returned (.bool (isB k n)) ∧ Below w.heap.size w w' := by
  rw [← kmask_bit n hn.2 hn.1 k (by omega)]
  refine match_of 2 n (kmask n) (kmask_lt n hn.2) k hk m b t sl w (fun W _ => ?_)
  have hn' := hn.2
  match n, hn' with
  | 0, _ => omega
  | 1, _ => exact kinds_k1 W
  | 2, _ => exact kinds_k2 W
  | 3, _ => exact kinds_k3 W
  | 4, _ => exact kinds_k4 W
  | 5, _ => exact kinds_k5 W
  | 6, _ => exact kinds_k6 W
  | 7, _ => exact kinds_k7 W
  | 8, _ => exact kinds_k8 W
  | 9, _ => exact kinds_k9 W
  | 10, _ => exact kinds_k10 W
  | 11, _ => exact kinds_k11 W
  | 12, _ => exact kinds_k12 W
  | 13, _ => exact kinds_k13 W
  | n + 14, h => omega
theorem match_face (f k : Nat) (hf : f < 10) (hk : k ≤ 13) (m b t sl : Value) (w : World) : Calls Tryz.prog 40 #[.agg #[.int .i64 3, .int .i64 f, .slice none 0 0], .agg #[.int .i64 k, m, b, t, sl]] w fun x w' => x = .returned (.bool (hasF k f)) ∧ Below w.heap.size w w' := by
  rw [← fmask_bit f hf k (by omega)]
  exact match_of 3 f (fmask f 14) (fmask_lt f 14 (by omega)) k hk m b t sl w (fun W _ => kinds_face f hf W)
end Go.Proofs.YteplhhlgceppkabGreat

/- The contract of the reference's Copy. -/
namespace Go.Proofs.YteplhhlgceppkabGreat
open Go Go.RowKit Go.ChangeShapes Go.WideShapes

set_option maxRecDepth 100000 in
set_option maxHeartbeats 3200000 in
theorem copy_any {w0 : World} {v : Value} {d : D} (h : Rep w0 v d) : Slim d → ∀ (w : World), Below w0.heap.size w0 w →
    Calls Tryz.prog 22 #[v] w fun x w' => ∃ v', x = .returned v' ∧ RepQ w' (fun b => w.heap.size ≤ b) v' d ∧ Below w.heap.size w w' := by
  induction h with
  | mk k m b t a cap g o c kids hw ha hc hk ih =>
    intro hsl w hb
    obtain ⟨hn, hks⟩ := hsl.inv
    obtain ⟨i0, hi, hz0, hz1, hz2⟩ := info_parts info25
    have HI := Lib.hid ih
    have HA := Lib.hid ha
    have HC := Lib.hid hc
    have HW := Lib.hid hw
    have HS := Lib.hid hks
    have HK := Lib.hid hk
    clear ih ha hc hk hw hsl hks
    obtain ⟨W1, hW1⟩ : ∃ W1, W1 = ((w.alloc (.cells #[.int .i64 k, .int .i64 m, .int .u64 b, .string t, .slice a kids.length cap] 26)).alloc (.cells #[.int .i64 0, .int .i64 0, .int .u64 0, .string ⟨#[]⟩, .slice none 0 0] 26)).alloc (.cells #[.int .i64 k, .int .i64 m, .int .u64 b, .string t, .slice none 0 0] 26) := ⟨_, rfl⟩
    have hbW : Below w.heap.size w W1 := by rw [hW1]; exact (((Below.refl _ _).alloc (Nat.le_refl _) _).alloc (by simp) _).alloc (by simp; omega) _
    have hzW : W1.heap.size = w.heap.size + 3 := by rw [hW1]; simp
    have hx0 : Box5 W1 w.heap.size (.int .i64 k) (.int .i64 m) (.int .u64 b) (.string t) (.slice a kids.length cap) := by
      rw [hW1]
      unfold Box5
      rw [heap_alloc_old _ _ (by simp; omega), heap_alloc_old _ _ (by simp)]
      exact heap_alloc_new w _
    have hx2 : Box5 W1 (w.heap.size + 1) (.int .i64 0) (.int .i64 0) (.int .u64 0) (.string ⟨#[]⟩) (.slice none 0 0) := by
      rw [hW1]
      unfold Box5
      rw [heap_alloc_old _ _ (by simp)]
      exact heap_alloc2_new w _ _
    have hx1 : Box5 W1 (w.heap.size + 1 + 1) (.int .i64 k) (.int .i64 m) (.int .u64 b) (.string t) (.slice none 0 0) := by
      rw [hW1]
      have h := heap_alloc_new ((w.alloc (.cells #[.int .i64 k, .int .i64 m, .int .u64 b, .string t, .slice a kids.length cap] 26)).alloc (.cells #[.int .i64 0, .int .i64 0, .int .u64 0, .string ⟨#[]⟩, .slice none 0 0] 26)) (.cells #[.int .i64 k, .int .i64 m, .int .u64 b, .string t, .slice none 0 0] 26)
      simpa [Box5] using h
    have hB0 : Below w0.heap.size w0 W1 := hb.trans (hbW.mono hb.size)
    go_enter Tryz.func22, Tryz.ntmps22
    go_wp2_with fail
    rw [← hW1]
    clear hW1
    go_loopw [10] (fun i wr => ∃ (j : Nat) (a2 : Option Addr) (cap2 : Nat), j ≤ kids.length ∧ i = .int .i64 j ∧ Box5 wr w.heap.size (.int .i64 k) (.int .i64 m) (.int .u64 b) (.string t) (.slice a kids.length cap) ∧ Box5 wr (w.heap.size + 1 + 1) (.int .i64 k) (.int .i64 m) (.int .u64 b) (.string t) (.slice a2 j cap2) ∧
      Box5 wr (w.heap.size + 1) (.int .i64 0) (.int .i64 0) (.int .u64 0) (.string ⟨#[]⟩) (.slice none 0 0) ∧ OwnQ wr (w.heap.size + 3) (.slice a2 j cap2) (kids.take j) ∧ Below w.heap.size w wr ∧ w.heap.size + 3 ≤ wr.heap.size) (fun i _ => kids.length - (intOf i).toNat)
    case atStart => exact ⟨0, none, 0, by omega, rfl, hx0, hx1, hx2, OwnQ.nil _ _, hbW, by omega⟩
    case round =>
      obtain ⟨j, a2, cap2, hj, rfl, hy0, hy1, hy2, hO, hbr, hzr⟩ := hrel
      clear hx0 hx1 hx2 hbW hzW
      by_cases hlt : j < kids.length
      · obtain ⟨rfl, hg, hcp, hcm⟩ := HA.out (by omega)
        have hB1 : Below w0.heap.size w0 wr := hb.trans (hbr.mono hb.size)
        obtain ⟨q0, q1, q2, q3, q4⟩ := (HC.out.below hg hB1) j hlt
        have hx : kids[j]? = some kids[j] := List.getElem?_eq_getElem hlt
        have HX := Lib.hid (HI.out j _ hx (HS.out _ (List.getElem_mem hlt)))
        obtain ⟨k2, m2, b2, t2, a3, cap3, g3, o3, c3, kids3, e5, e6, hw3, _⟩ := (HK.out j _ hx).inv
        obtain ⟨f0, f1, f2, f3, f4⟩ := five_inv e5
        rw [f0] at q0
        rw [f1] at q1
        rw [f2] at q2
        rw [f3] at q3
        rw [f4] at q4
        rw [e5] at HX
        generalize hkj : kids[j] = x at *
        generalize kids3.length = n3 at *
        clear hx e6 f0 f1 f2 f3 f4 e5
        obtain ⟨W3, hW3⟩ : ∃ W3, W3 = wr := ⟨_, rfl⟩
        have hv0 := hy0
        have hv1 := hy1
        have hv2 := hy2
        have hO3 := hO
        have hB3 := hB1
        have hbw3 := hbr
        have HX2 := Lib.hid (fun w' (h : Below wr.heap.size wr w') => HX.out w' (hB1.trans (h.mono hB1.size)))
        go_upto_region 6 with fail
        subst hW3
        obtain ⟨_, _, _, _, x4⟩ := hv0.cells
        obtain ⟨_, _, _, _, p4⟩ := hv1.cells
        have pf := hv1.thaw 4
        obtain ⟨cc, hown, hkk⟩ := hO3
        have htl : (kids.take j).length = j := by rw [List.length_take]; omega
        rw [htl] at hown
        have HKK := Lib.hid hkk
        clear hkk
        clear hy0 hy1 hy2 hO HX
        have hone : ∀ (k5 m5 b5 : Int) (t5 : ByteArray) (a5 : Option Addr) (n5 cap5 : Nat), ∀ u ∈ [Value.int .i64 k5, .int .i64 m5, .int .u64 b5, .string t5, .slice a5 n5 cap5], u.oneCell' = true := fun k5 m5 b5 t5 a5 n5 cap5 u hu => by
          simp at hu
          rcases hu with rfl | rfl | rfl | rfl | rfl <;> rfl
        have hj1 : j + 1 ≤ maxLen := by unfold maxLen; omega
        have hj2 : (j + 1) * 64 ≤ 140737488355328 := by omega
        have hO1 := Lib.hid hone
        clear hone
        go_region_law (first
          | (refine step_append_lies _ (by rfl) (.tmp 14) (.tmp 21) 24 (by rfl) (w.heap.size + 3) 26 i0 (.agg #[.int .i64 0, .int .i64 0, .int .u64 0, .string ⟨#[]⟩, .slice none 0 0]) 5 64 Tryz.underlying24 hi hz0 hz1 hz2 (by rfl) (by decide) _ _ _ (by rfl) (World.ownsRow.alloc hown4 _) ⟨ww.heap.size, 0, none⟩ 1 1 [.int .i64 k5, .int .i64 m5, .int .u64 b5, .string t5, .slice a5 n5 cap5] (by rfl) (by rfl) (World.news_of_block (heap_alloc_new ww _)) (hO1.out _ _ _ _ _ _ _) (by decide) hj1 hj2 (hbase _) _ (by rfl) ?_; intro g5 cap6 w5 hown5 hgrow hat hlt5; have hbx := Box5.behind hv1 hb4 hown4 hgrow (by omega); have hp5 := hbx.cells.2.2.2.2; have hpf := hbx.thaw 4)
          | (go_simp; go_at_call 22; refine (HX2.out _ (by go_grown)).mono ?_; rintro x ww ⟨v', rfl, hv', hb2⟩; obtain ⟨k5, m5, b5, t5, a5, n5, cap5, rfl⟩ := hv'.form; have hb4 : Below W3.heap.size W3 ww := Below.trans (by go_grown) hb2; have hown4 := owns_below hown hb4; have hz4 := hb4.size; have hbase : ∀ ob, w.heap.size + 3 ≤ (ww.alloc ob).heap.size := (fun ob => by simp; omega); have hp4 : ww.cell? ⟨w.heap.size + 1 + 1, 4, none⟩ = some (.slice a2 j cap2) := (hb4.cell (p := ⟨w.heap.size + 1 + 1, 4, none⟩) (by simp; omega)).trans p4; have hp6 : ∀ ob, (ww.alloc ob).cell? ⟨w.heap.size + 1 + 1, 4, none⟩ = some (.slice a2 j cap2) := (fun ob => (World.cell?_of_block (w := ww) (heap_alloc_old ww ob (show w.heap.size + 1 + 1 < ww.heap.size by omega))).trans hp4); (try dsimp only)))
        all_goals (
          have hO5 := OwnQ.behind htl hown HKK.out hb4 (by rfl) (by omega) hv' hown5 hgrow hat
          have hbx0 := Box5.behind hv0 hb4 hown4 hgrow (by omega)
          have hbx2 := Box5.behind hv2 hb4 hown4 hgrow (by omega)
          have hz5 := hgrow.size
          have hbw5 : Below w.heap.size w w5 := Below.grown ((hbw3.trans (hb4.mono (by omega))).alloc (by omega) _) hgrow (by simp; omega) (fun r hr => Nat.le_trans (by omega) (World.ownsRow.lt hown4 r hr).1)
          have hO6 := hO5.carry (w1 := w5.setCell ⟨w.heap.size + 1 + 1, 4, none⟩ (.slice (some ⟨g5, 0, none⟩) (j + 1) cap6)) (fun b hb _ => heap_setCell_other _ _ _ _ (by simp; omega)) (by simp)
          have htk : kids.take (j + 1) = kids.take j ++ [x] := by rw [List.take_succ_eq_append_getElem hlt, hkj]
          rw [← htk] at hO6
          have hbx3 := hbx.set4 (.slice (some ⟨g5, 0, none⟩) (j + 1) cap6)
          have hbx4 := hbx2.keep (w1 := w5.setCell ⟨w.heap.size + 1 + 1, 4, none⟩ (.slice (some ⟨g5, 0, none⟩) (j + 1) cap6)) (heap_setCell_other _ _ _ _ (by first | (simp; done) | (simp; omega)))
          have hbx5 := hbx0.keep (w1 := w5.setCell ⟨w.heap.size + 1 + 1, 4, none⟩ (.slice (some ⟨g5, 0, none⟩) (j + 1) cap6)) (heap_setCell_other _ _ _ _ (by first | (simp; done) | (simp; omega)))
          have hbw6 := hbw5.setCell (p := ⟨w.heap.size + 1 + 1, 4, none⟩) (show w.heap.size ≤ w.heap.size + 1 + 1 by omega) (.slice (some ⟨g5, 0, none⟩) (j + 1) cap6)
          have hz6 : w.heap.size + 3 ≤ (w5.setCell ⟨w.heap.size + 1 + 1, 4, none⟩ (.slice (some ⟨g5, 0, none⟩) (j + 1) cap6)).heap.size := by simp at hz5 ⊢; omega
          generalize w5.setCell ⟨w.heap.size + 1 + 1, 4, none⟩ (.slice (some ⟨g5, 0, none⟩) (j + 1) cap6) = w6 at *
          clear hgrow hat hown5 hown4 hown hv' hO5 hbx hbx0 hbx2 hv0 hv1 hv2 x4 hp4 hp5 hp6 hpf p4 pf hbase hlt5
          go_wp2_with fail
          go_roundw
          case rel => exact ⟨j + 1, _, cap6, by omega, by go_num, hbx5, hbx3, hbx4, hO6, hbw6, hz6⟩
          case measure => simp [intOf]; omega)
      · obtain rfl : j = kids.length := by omega
        rw [List.take_length] at hO
        obtain ⟨z0, z1, z2, z3, z4⟩ := hy1.cells
        have zf := hy2.thaw
        obtain ⟨y0, y1, y2, y3, y4⟩ := hy2.cells
        have hne : w.heap.size + 1 ≠ w.heap.size + 1 + 1 := by omega
        go_wp2_with fail
        have hF := hy2.set5 (.int .i64 k) (.int .i64 m) (.int .u64 b) (.string t) (.slice a2 kids.length cap2)
        have hFo := set5_other wr (w.heap.size + 1) (.int .i64 k) (.int .i64 m) (.int .u64 b) (.string t) (.slice a2 kids.length cap2)
        have hFs := set5_size wr (w.heap.size + 1) (.int .i64 k) (.int .i64 m) (.int .u64 b) (.string t) (.slice a2 kids.length cap2)
        have hFb : Below w.heap.size w (((((wr.setCell ⟨w.heap.size + 1, 0, none⟩ (.int .i64 k)).setCell ⟨w.heap.size + 1, 1, none⟩ (.int .i64 m)).setCell ⟨w.heap.size + 1, 2, none⟩ (.int .u64 b)).setCell ⟨w.heap.size + 1, 3, none⟩ (.string t)).setCell ⟨w.heap.size + 1, 4, none⟩ (.slice a2 kids.length cap2)) :=
          ((((hbr.setCell (p := ⟨w.heap.size + 1, 0, none⟩) (by simp) _).setCell (p := ⟨w.heap.size + 1, 1, none⟩) (by simp) _).setCell (p := ⟨w.heap.size + 1, 2, none⟩) (by simp) _).setCell (p := ⟨w.heap.size + 1, 3, none⟩) (by simp) _).setCell (p := ⟨w.heap.size + 1, 4, none⟩) (by simp) _
        generalize ((((wr.setCell ⟨w.heap.size + 1, 0, none⟩ (.int .i64 k)).setCell ⟨w.heap.size + 1, 1, none⟩ (.int .i64 m)).setCell ⟨w.heap.size + 1, 2, none⟩ (.int .u64 b)).setCell ⟨w.heap.size + 1, 3, none⟩ (.string t)).setCell ⟨w.heap.size + 1, 4, none⟩ (.slice a2 kids.length cap2) = Wf at *
        obtain ⟨r0, r1, r2, r3, r4⟩ := hF.cells
        have hO2 : OwnQ Wf (w.heap.size + 3) (.slice a2 kids.length cap2) kids := hO.carry (fun b hb _ => hFo b (by omega)) (by omega)
        have hR := (hO2.repQ HW.out).carry (Q1 := fun b => w.heap.size ≤ b) (fun b hb _ => ⟨rfl, by omega⟩) (Nat.le_refl _)
        refine bodyPost_ret (v := .agg #[.int .i64 k, .int .i64 m, .int .u64 b, .string t, .slice a2 kids.length cap2]) ?_ rfl ?_
        · exact results_cell_row rfl _ Wf (w.heap.size + 1) 26 _ (0, 0) _ rfl hF Tryz.underlying26 rfl (by kernel_rfl)
        · exact ⟨_, rfl, hR, hFb⟩

end Go.Proofs.YteplhhlgceppkabGreat
