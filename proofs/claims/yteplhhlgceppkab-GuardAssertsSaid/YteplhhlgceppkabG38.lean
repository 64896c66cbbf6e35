/- Contracts of the reference's Match, of kinds and of interfaces. -/
import Derived.Test.YteplhhlgceppkabG37
namespace Go.Proofs.Yteplhhlgceppkab
open Go Go.RowKit Go.ChangeShapes Go.WideShapes

theorem bit_nat (n k : Nat) (hn : n < 4294967296) : (bits BinOp.and IntKind.u32 ((n : Int) / 2 ^ k) 1 == 1) = n.testBit k := by
  have e : (n : Int) / 2 ^ k = ((n / 2 ^ k : Nat) : Int) := by simp
  have hd : n / 2 ^ k < 4294967296 := Nat.lt_of_le_of_lt (Nat.div_le_self _ _) hn
  rw [e, show (1 : Int) = ((1 : Nat) : Int) from rfl, u32_and_nat _ 1 hd (by omega), Bool.eq_iff_iff, beq_iff_eq, Nat.testBit, Nat.shiftRight_eq_div_pow]
  rw [Nat.and_comm, bne_iff_ne]
  have := Nat.one_and_eq_mod_two (n / 2 ^ k)
  rw [this]
  omega
set_option maxHeartbeats 800000 in
theorem match_of (op n : Int) (s : Nat) (hs : s < 4294967296) (k : Nat) (hk : k ≤ 13) (m b t sl : Value) (w : World) (HK : ∀ W, Below w.heap.size w W → Calls Try.prog 29 #[.agg #[.int .i64 op, .int .i64 n, .slice none 0 0]] W fun x w' => x = .returned (.int .u32 s) ∧ Below W.heap.size W w') :
    Calls Try.prog 14 #[.agg #[.int .i64 op, .int .i64 n, .slice none 0 0], .agg #[.int .i64 k, m, b, t, sl]] w fun x w' => x = .returned (.bool (s.testBit k)) ∧ Below w.heap.size w w' := by
  have HK1 := Lib.hid HK
  clear HK
  obtain ⟨W1, hW1⟩ : ∃ W1, W1 = (w.alloc (.cells #[.int .i64 op, .int .i64 n, .slice none 0 0] 43)).alloc (.cells #[.int .i64 k, m, b, t, sl] 25) := ⟨_, rfl⟩
  have hb1 : Below w.heap.size w W1 := by rw [hW1]; exact ((Below.refl _ _).alloc (Nat.le_refl _) _).alloc (by simp) _
  have hx1 : Row W1 w.heap.size #[.int .i64 op, .int .i64 n, .slice none 0 0] 43 := by rw [hW1]; exact (Row.new w _ _).old _
  have hx2 : Row W1 (w.heap.size + 1) #[.int .i64 k, m, b, t, sl] 25 := by
    rw [hW1]; have h := Row.new (w.alloc (.cells #[.int .i64 op, .int .i64 n, .slice none 0 0] 43)) #[.int .i64 k, m, b, t, sl] 25; simpa using h
  have hx2d : Row W1.drew (w.heap.size + 1) #[.int .i64 k, m, b, t, sl] 25 := hx2
  have p0 : W1.cell? ⟨w.heap.size, 0, none⟩ = some (.int .i64 op) := hx1.cell 0 rfl
  have p1 : W1.cell? ⟨w.heap.size, 1, none⟩ = some (.int .i64 n) := hx1.cell 1 rfl
  have p2 : W1.cell? ⟨w.heap.size, 2, none⟩ = some (.slice none 0 0) := hx1.cell 2 rfl
  have q0 : W1.cell? ⟨w.heap.size + 1, 0, none⟩ = some (.int .i64 k) := hx2.cell 0 rfl
  go_enter Try.func14, Try.ntmps14
  go_upto_region 1 with fail
  rw [← hW1]
  clear hW1
  go_region_with (go_at_call 29; refine (HK1.out _ hb1.drew).mono ?_; rintro e w2 ⟨rfl, hb2⟩; have q1 : w2.cell? ⟨w.heap.size + 1, 0, none⟩ = some (.int .i64 k) := (hx2d.later hb2).cell 0 rfl; dsimp only)
  all_goals
    go_wp2_with fail
    refine bodyPost_ret (results_tmp rfl _ _ _) rfl ⟨?_, hb1.drew.trans (hb2.mono hb1.size)⟩
    go_simp
    exact bit_nat s k hs

theorem hasFi_eq (k : Nat) (f : Int) (hf : 0 ≤ f ∧ f < 10) : hasFi k f = decide (missN k (methsI f) = -1) := by
  have hm : ∀ l : List Nat, (l.all (hasM k)) = decide (missN k l = -1) := fun l => by
    induction l with
    | nil => rfl
    | cons m l ih =>
      cases h : hasM k m
      · simp [missN, h]
      · simp [missN, h, ih]
  obtain ⟨n, rfl⟩ : ∃ n : Nat, f = n := ⟨f.toNat, by omega⟩
  rw [methsI_nat n (by omega), ← hm]
  simp [hasFi, hasF, hf]
  omega
theorem hasFi_out (k : Nat) (f : Int) (hf : ¬ (0 ≤ f ∧ f < 10)) : hasFi k f = false := by
  unfold hasFi
  rw [decide_eq_false hf]
  rfl
theorem methsI_pos (f : Int) (hf : 0 ≤ f ∧ f < 10) : 0 < (methsI f).length := by
  obtain ⟨n, rfl⟩ : ∃ n : Nat, f = n := ⟨f.toNat, by omega⟩
  rw [methsI_nat n (by omega)]
  have hn : n < 10 := by omega
  have h : ∀ n, n < 10 → 0 < (meths n).length := by decide
  exact h n hn
theorem hasFi_0 (f : Int) : hasFi 0 f = false := by
  by_cases hf : 0 ≤ f ∧ f < 10
  · obtain ⟨n, rfl⟩ : ∃ n : Nat, f = n := ⟨f.toNat, by omega⟩
    have hn : n < 10 := by omega
    have h : ∀ n, n < 10 → hasF 0 n = false := by decide
    simp [hasFi, h n hn]
  · exact hasFi_out 0 f hf

set_option maxHeartbeats 800000 in
theorem rimpl_any (k : Nat) (hk : k ≤ 13) (f : Int) (w : World) : Calls Try.prog 43 #[.int .i64 k, .int .i64 f] w fun x w' => x = .returned (.bool (hasFi k f)) ∧ Below w.heap.size w w' := by
  have HM := Lib.hid (fun w => rmeths_any f w)
  have HL := Lib.hid (fun w => lacks_any k hk f w)
  by_cases h0 : k = 0
  · subst h0
    rw [hasFi_0]
    clear HM HL
    go_enter Try.func43, Try.ntmps43
    go_wp2_with fail
    go_ret
    exact ⟨rfl, Below.refl _ _⟩
  · have k1 : decide ((0 : Int) < k) = true := by simp; omega
    have k2 : decide ((k : Int) < 14) = true := by simp; omega
    have k3 : 0 < k := by omega
    clear h0
    by_cases hf : 0 ≤ f ∧ f < 10
    · have hpos := methsI_pos f hf
      rw [hasFi_eq k f hf]
      generalize methsI f = ms at *
      generalize missN k ms = mm at *
      clear hf
      go_enter Try.func43, Try.ntmps43
      go_wp2_with (first | (go_at_call 51; refine (HM.out _).mono ?_; rintro e w1 ⟨v, rfl, ⟨a, b, rfl, hab, hcl⟩, hb1⟩; clear hab hcl) | (go_at_call 39; refine (HL.out _).mono ?_; rintro e w2 ⟨rfl, hb2⟩))
      go_ret
      exact ⟨by congr 2, hb1.trans (hb2.mono hb1.size)⟩
    · rw [hasFi_out k f hf]
      rw [methsI_no f hf] at HM
      clear HL hf
      go_enter Try.func43, Try.ntmps43
      go_wp2_with (go_at_call 51; refine (HM.out _).mono ?_; rintro e w1 ⟨v, rfl, ⟨a, b, rfl, hab, hcl⟩, hb1⟩; clear hab hcl)
      go_ret
      exact ⟨rfl, hb1⟩
end Go.Proofs.Yteplhhlgceppkab
