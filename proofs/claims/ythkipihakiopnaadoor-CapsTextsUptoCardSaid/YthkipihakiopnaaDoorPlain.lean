/- Plain laws on sets of capabilities as numbers: no program in sight. -/
namespace Go.Proofs.YthkipihakiopnaaDoor.Plain

def fixStep (c who must : Nat) : Nat := if c &&& must = 0 then c &&& (4294967295 - who) else c
def growStep (c who must : Nat) : Nat := if c &&& who = 0 then c else c ||| must
def fixP (c : Nat) : Nat := fixStep (fixStep (fixStep (fixStep (c &&& 2047) 4 1) 128 64) 8 512) 32 16
def growP (c : Nat) : Nat := growStep (growStep (growStep (growStep (c &&& 2047) 4 1) 128 64) 8 512) 32 16
/-- What a capability needs: itself where it needs none. -/
def need (j : Nat) : Nat := if j = 2 then 0 else if j = 7 then 6 else if j = 3 then 9 else if j = 5 then 4 else j
def needed (j : Nat) : Nat := if j = 0 then 2 else if j = 6 then 7 else if j = 9 then 3 else if j = 4 then 5 else j
def proper (x : Nat) : Bool := (!(x.testBit 2) || x.testBit 0) && ((!(x.testBit 7) || x.testBit 6) && ((!(x.testBit 3) || x.testBit 9) && (!(x.testBit 5) || x.testBit 4)))
def all2 (p : Nat → Bool) : Nat → Bool | 0 => true | n + 1 => p n && all2 p n
theorem all2_spec {p : Nat → Bool} : ∀ {n : Nat}, all2 p n = true → ∀ i, i < n → p i = true
  | n + 1, h, i, hi => by
    simp only [all2, Bool.and_eq_true] at h
    rcases Nat.lt_succ_iff_lt_or_eq.1 hi with h' | rfl
    · exact all2_spec h.2 i h'
    · exact h.1
theorem fix_char0 : all2 (fun c => all2 (fun j => (fixP c).testBit j == (c.testBit j && c.testBit (need j))) 11 && (decide (fixP c < 2048) && (proper (fixP c) && (!(proper c) || fixP c == c)))) 2048 = true := by decide +kernel
theorem grow_char0 : all2 (fun c => all2 (fun j => (growP c).testBit j == (c.testBit j || c.testBit (needed j))) 11 && (decide (growP c < 2048) && (proper (growP c) && (!(proper c) || growP c == c)))) 2048 = true := by decide +kernel

theorem fix_char {c : Nat} (hc : c < 2048) : (∀ j, j < 11 → (fixP c).testBit j = (c.testBit j && c.testBit (need j))) ∧ fixP c < 2048 ∧ proper (fixP c) = true ∧ (proper c = true → fixP c = c) := by
  have h := all2_spec fix_char0 c hc
  simp only [Bool.and_eq_true, decide_eq_true_eq, Bool.or_eq_true, Bool.not_eq_true', beq_iff_eq] at h
  obtain ⟨h1, h2, h3, h4⟩ := h
  refine ⟨fun j hj => ?_, h2, h3, fun hp => ?_⟩
  · have := all2_spec h1 j hj
    simpa using this
  · rcases h4 with h4 | h4
    · rw [hp] at h4; cases h4
    · exact h4
theorem grow_char {c : Nat} (hc : c < 2048) : (∀ j, j < 11 → (growP c).testBit j = (c.testBit j || c.testBit (needed j))) ∧ growP c < 2048 ∧ proper (growP c) = true ∧ (proper c = true → growP c = c) := by
  have h := all2_spec grow_char0 c hc
  simp only [Bool.and_eq_true, decide_eq_true_eq, Bool.or_eq_true, Bool.not_eq_true', beq_iff_eq] at h
  obtain ⟨h1, h2, h3, h4⟩ := h
  refine ⟨fun j hj => ?_, h2, h3, fun hp => ?_⟩
  · have := all2_spec h1 j hj
    simpa using this
  · rcases h4 with h4 | h4
    · rw [hp] at h4; cases h4
    · exact h4

theorem low_lt (c : Nat) : c &&& 2047 < 2048 := Nat.lt_of_le_of_lt Nat.and_le_right (by omega)
theorem low_bit (c j : Nat) : (c &&& 2047).testBit j = (c.testBit j && decide (j < 11)) := by
  rw [Nat.testBit_and, show (2047 : Nat) = 2 ^ 11 - 1 from rfl, Nat.testBit_two_pow_sub_one]
theorem low_low (c : Nat) : (c &&& 2047) &&& 2047 = c &&& 2047 := by
  apply Nat.eq_of_testBit_eq
  intro j
  rw [low_bit, low_bit, Bool.and_assoc, Bool.and_self]
theorem fixP_low (c : Nat) : fixP (c &&& 2047) = fixP c := by unfold fixP; rw [low_low]
theorem growP_low (c : Nat) : growP (c &&& 2047) = growP c := by unfold growP; rw [low_low]

theorem bit_lt {k j : Nat} (hk : k < 2048) (h : k.testBit j = true) : j < 11 := by
  rcases Nat.lt_or_ge j 11 with h' | h'
  · exact h'
  · rw [Nat.testBit_lt_two_pow (Nat.lt_of_lt_of_le hk (Nat.pow_le_pow_right (n := 2) (by omega) h' : 2 ^ 11 ≤ 2 ^ j))] at h
    cases h

/-- Within: each bit of k is one of n. -/
def sub (k n : Nat) : Prop := ∀ j, k.testBit j = true → n.testBit j = true
theorem sub_iff {k n : Nat} (hk : k < 4294967296) (hn : n < 4294967296) : (k &&& (4294967295 - n)) = 0 ↔ sub k n := by
  have e : 4294967295 - n = 2 ^ 32 - (n + 1) := by omega
  constructor
  · intro h j hj
    have h1 := congrArg (Nat.testBit · j) h
    simp only [Nat.testBit_and, hj, Bool.true_and, Nat.zero_testBit] at h1
    rw [e, Nat.testBit_two_pow_sub_succ (by omega)] at h1
    have hj32 : j < 32 := by
      rcases Nat.lt_or_ge j 32 with h' | h'
      · exact h'
      · rw [Nat.testBit_lt_two_pow (Nat.lt_of_lt_of_le hk (Nat.pow_le_pow_right (n := 2) (by omega) h' : 2 ^ 32 ≤ 2 ^ j))] at hj
        cases hj
    simpa [hj32] using h1
  · intro h
    apply Nat.eq_of_testBit_eq
    intro j
    rw [Nat.testBit_and, e, Nat.testBit_two_pow_sub_succ (by omega), Nat.zero_testBit]
    cases hk : k.testBit j with
    | false => rfl
    | true => rw [h j hk]; simp

theorem proper_need {k : Nat} (h : proper k = true) : ∀ j, j < 11 → k.testBit j = true → k.testBit (need j) = true := by
  unfold proper at h
  simp only [Bool.and_eq_true, Bool.or_eq_true, Bool.not_eq_true'] at h
  obtain ⟨h1, h2, h3, h4⟩ := h
  intro j hj hb
  unfold need
  split
  · subst_vars; rcases h1 with h1 | h1
    · rw [h1] at hb; cases hb
    · exact h1
  · split
    · subst_vars; rcases h2 with h2 | h2
      · rw [h2] at hb; cases hb
      · exact h2
    · split
      · subst_vars; rcases h3 with h3 | h3
        · rw [h3] at hb; cases hb
        · exact h3
      · split
        · subst_vars; rcases h4 with h4 | h4
          · rw [h4] at hb; cases hb
          · exact h4
        · exact hb

/-- fixP n is within n, proper, and holds all that is. -/
theorem fix_sub (n : Nat) : sub (fixP n) n := by
  intro j hj
  have hc := fix_char (low_lt n)
  rw [fixP_low] at hc
  have hj11 := bit_lt hc.2.1 hj
  rw [hc.1 j hj11, low_bit, Bool.and_eq_true] at hj
  have := hj.1
  simp only [Bool.and_eq_true] at this
  exact this.1
theorem fix_lt (n : Nat) : fixP n < 2048 := by have hc := fix_char (low_lt n); rw [fixP_low] at hc; exact hc.2.1
theorem fix_proper (n : Nat) : proper (fixP n) = true := by have hc := fix_char (low_lt n); rw [fixP_low] at hc; exact hc.2.2.1
theorem need_lt {j : Nat} (h : j < 11) : need j < 11 := by unfold need; (repeat' split) <;> omega
theorem needed_lt {j : Nat} (h : j < 11) : needed j < 11 := by unfold needed; (repeat' split) <;> omega
theorem fix_most {n k : Nat} (hk : k < 2048) (hp : proper k = true) (hs : sub k n) : sub k (fixP n) := by
  intro j hj
  have hc := fix_char (low_lt n)
  rw [fixP_low] at hc
  have hj11 := bit_lt hk hj
  have h2 := proper_need hp j hj11 hj
  rw [hc.1 j hj11, low_bit, low_bit, hs j hj, hs _ h2]
  simp [hj11, need_lt hj11]
theorem grow_sub (n : Nat) : sub (n &&& 2047) (growP n) := by
  intro j hj
  have hc := grow_char (low_lt n)
  rw [growP_low] at hc
  have hj11 := bit_lt (low_lt n) hj
  rw [hc.1 j hj11, hj]
  rfl
theorem grow_lt (n : Nat) : growP n < 2048 := by have hc := grow_char (low_lt n); rw [growP_low] at hc; exact hc.2.1
theorem grow_proper (n : Nat) : proper (growP n) = true := by have hc := grow_char (low_lt n); rw [growP_low] at hc; exact hc.2.2.1
theorem need_needed (j : Nat) : needed j = j ∨ need (needed j) = j := by
  unfold needed
  split
  · subst_vars; exact Or.inr rfl
  · split
    · subst_vars; exact Or.inr rfl
    · split
      · subst_vars; exact Or.inr rfl
      · split
        · subst_vars; exact Or.inr rfl
        · exact Or.inl rfl
theorem grow_least {n k : Nat} (hp : proper k = true) (hs : sub (n &&& 2047) k) : sub (growP n) k := by
  intro j hj
  have hc := grow_char (low_lt n)
  rw [growP_low] at hc
  have hj11 := bit_lt hc.2.1 hj
  rw [hc.1 j hj11, Bool.or_eq_true] at hj
  rcases hj with hj | hj
  · exact hs j hj
  · rcases need_needed j with e | e
    · rw [e] at hj; exact hs j hj
    · have := proper_need hp _ (needed_lt hj11) (hs _ hj)
      rw [e] at this
      exact this

/-- The folds. -/
def rfixN (n : Nat) : Nat → Nat
  | 0 => 0
  | k + 1 => if (k &&& (4294967295 - n)) = 0 ∧ proper k = true then rfixN n k ||| k else rfixN n k
def rgrowN (n : Nat) : Nat → Nat
  | 0 => 2047
  | k + 1 => if ((n &&& 2047) &&& (4294967295 - k)) = 0 ∧ proper k = true then rgrowN n k &&& k else rgrowN n k
theorem rfixN_bit {n : Nat} (hn : n < 4294967296) (j : Nat) : ∀ K, K ≤ 2048 → ((rfixN n K).testBit j = true ↔ ∃ k, k < K ∧ sub k n ∧ proper k = true ∧ k.testBit j = true)
  | 0, _ => by simp [rfixN]
  | K + 1, h => by
    have ih := rfixN_bit hn j K (by omega)
    unfold rfixN
    split
    · rename_i hc
      rw [sub_iff (by omega) hn] at hc
      rw [Nat.testBit_or, Bool.or_eq_true, ih]
      constructor
      · rintro (⟨k, h1, h2⟩ | h1)
        · exact ⟨k, by omega, h2⟩
        · exact ⟨K, by omega, hc.1, hc.2, h1⟩
      · rintro ⟨k, h1, h2, h3, h4⟩
        rcases Nat.lt_succ_iff_lt_or_eq.1 h1 with h1 | rfl
        · exact Or.inl ⟨k, h1, h2, h3, h4⟩
        · exact Or.inr h4
    · rename_i hc
      rw [sub_iff (by omega) hn] at hc
      rw [ih]
      constructor
      · rintro ⟨k, h1, h2⟩; exact ⟨k, by omega, h2⟩
      · rintro ⟨k, h1, h2, h3, h4⟩
        rcases Nat.lt_succ_iff_lt_or_eq.1 h1 with h1 | rfl
        · exact ⟨k, h1, h2, h3, h4⟩
        · exact absurd ⟨h2, h3⟩ hc
theorem rgrowN_bit (n j : Nat) : ∀ K, K ≤ 2048 → ((rgrowN n K).testBit j = true ↔ (2047 : Nat).testBit j = true ∧ ∀ k, k < K → sub (n &&& 2047) k → proper k = true → k.testBit j = true)
  | 0, _ => by simp [rgrowN]
  | K + 1, h => by
    have ih := rgrowN_bit n j K (by omega)
    have hl := low_lt n
    unfold rgrowN
    split
    · rename_i hc
      rw [sub_iff (by omega) (by omega)] at hc
      rw [Nat.testBit_and, Bool.and_eq_true, ih]
      constructor
      · rintro ⟨⟨h0, h1⟩, h2⟩
        refine ⟨h0, fun k hk h3 h4 => ?_⟩
        rcases Nat.lt_succ_iff_lt_or_eq.1 hk with hk | rfl
        · exact h1 k hk h3 h4
        · exact h2
      · rintro ⟨h0, h1⟩
        exact ⟨⟨h0, fun k hk => h1 k (by omega)⟩, h1 K (by omega) hc.1 hc.2⟩
    · rename_i hc
      rw [sub_iff (by omega) (by omega)] at hc
      rw [ih]
      constructor
      · rintro ⟨h0, h1⟩
        refine ⟨h0, fun k hk h3 h4 => ?_⟩
        rcases Nat.lt_succ_iff_lt_or_eq.1 hk with hk | rfl
        · exact h1 k hk h3 h4
        · exact absurd ⟨h3, h4⟩ hc
      · rintro ⟨h0, h1⟩
        exact ⟨h0, fun k hk => h1 k (by omega)⟩
theorem rfix_eq {n : Nat} (hn : n < 4294967296) : rfixN n 2048 = fixP n := by
  apply Nat.eq_of_testBit_eq
  intro j
  rw [Bool.eq_iff_iff, rfixN_bit hn j 2048 (Nat.le_refl _)]
  constructor
  · rintro ⟨k, hk, hs, hp, hb⟩; exact fix_most hk hp hs j hb
  · intro h; exact ⟨fixP n, fix_lt n, fix_sub n, fix_proper n, h⟩
theorem rgrow_eq (n : Nat) : rgrowN n 2048 = growP n := by
  apply Nat.eq_of_testBit_eq
  intro j
  rw [Bool.eq_iff_iff, rgrowN_bit n j 2048 (Nat.le_refl _)]
  constructor
  · rintro ⟨_, h⟩; exact h (growP n) (grow_lt n) (grow_sub n) (grow_proper n)
  · intro h
    refine ⟨?_, fun k _ hs hp => grow_least hp hs j h⟩
    have := bit_lt (grow_lt n) h
    rw [show (2047 : Nat) = 2 ^ 11 - 1 from rfl, Nat.testBit_two_pow_sub_one]
    simpa using this
end Go.Proofs.YthkipihakiopnaaDoor.Plain
