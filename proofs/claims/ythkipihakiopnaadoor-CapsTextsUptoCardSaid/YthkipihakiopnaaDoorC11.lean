/- What Parse makes of a text, in plain Lean: the set whose text it is, and nothing else. -/
import Derived.Test.YthkipihakiopnaaDoorC4
import Derived.Test.YthkipihakiopnaaDoorPlain
import Derived.Lib.SplitLaws
namespace Go.Proofs.YthkipihakiopnaaDoor
open Go.RowKit Plain

theorem join_cons2 (x y : List UInt8) (r : List (List UInt8)) : Lib.join (x :: y :: r) [32] = x ++ 32 :: Lib.join (y :: r) [32] := by
  rw [Lib.join_cons, Lib.join_cons]
  simp [Lib.joinTail]
theorem indexByte_at : ∀ (x t : List UInt8), (32 : UInt8) ∉ x → Lib.indexByte (x ++ 32 :: t) 32 = x.length
  | [], t, _ => by simp [Lib.indexByte]
  | b :: x, t, h => by
    have hb : ¬ (b = 32) := fun e => h (by simp [e])
    have ih := indexByte_at x t (fun e => h (by simp [e]))
    show (if (b == 32) = true then (0 : Int) else if (Lib.indexByte (x ++ 32 :: t) 32 == -1) = true then -1 else Lib.indexByte (x ++ 32 :: t) 32 + 1) = _
    rw [if_neg (by simpa using hb), ih, if_neg (by simp)]
    simp
theorem split_join : ∀ (l : List (List UInt8)), l ≠ [] → (∀ x ∈ l, (32 : UInt8) ∉ x) → Lib.splitK [32] 0 (Lib.count (Lib.join l [32]) [32]) (Lib.join l [32]) = l
  | [], h, _ => absurd rfl h
  | [x], _, h => by
    rw [Lib.join_one, Lib.count_one, List.count_eq_zero.2 (h x (by simp))]
    rfl
  | x :: y :: r, _, h => by
    have hx := h x (by simp)
    have ih := split_join (y :: r) (by simp) (fun z hz => h z (by simp [List.mem_cons] at hz ⊢; exact Or.inr hz))
    have hi : Lib.index (x ++ 32 :: Lib.join (y :: r) [32]) [32] = x.length := by rw [Lib.index_one]; exact indexByte_at _ _ hx
    rw [join_cons2, Lib.count_hit (by simp) hi]
    have hd : (x ++ 32 :: Lib.join (y :: r) [32]).drop (x.length + 1) = Lib.join (y :: r) [32] := by
      rw [show x.length + 1 = x.length + 1 from rfl, List.drop_append]
      simp
    have ht : (x ++ 32 :: Lib.join (y :: r) [32]).take (x.length + 0) = x := by simp
    rw [Nat.add_comm 1]
    unfold Lib.splitK
    rw [if_neg (by rw [hi]; simp), hi]
    simp only [Int.toNat_natCast, List.length_singleton]
    rw [hd, ht, ih]
theorem splitK_ne (n : Nat) (s : List UInt8) : Lib.splitK [32] 0 n s ≠ [] := by
  cases n with
  | zero => simp [Lib.splitK]
  | succ n => unfold Lib.splitK; split <;> simp
theorem join_split : ∀ (n : Nat) (s : List UInt8), Lib.join (Lib.splitK [32] 0 n s) [32] = s
  | 0, s => Lib.join_one _ _
  | n + 1, s => by
    unfold Lib.splitK
    by_cases h : Lib.index s [32] = -1
    · rw [if_pos (by simp [h]), Lib.join_one]
    · have hge := Lib.index_ge s [32]
      obtain ⟨i, hi⟩ : ∃ i : Nat, Lib.index s [32] = i := ⟨(Lib.index s [32]).toNat, by omega⟩
      rw [if_neg (by simpa using h), hi]
      simp only [Int.toNat_natCast, List.length_singleton, Nat.add_zero]
      have ih := join_split n (s.drop (i + 1))
      have h1 := (Lib.indexByte_some (l := s) (c := 32) (o := i) (by rw [← Lib.index_one]; exact hi)).1
      cases hk : Lib.splitK [32] 0 n (s.drop (i + 1)) with
      | nil => exact absurd hk (splitK_ne _ _)
      | cons y r =>
        rw [hk] at ih
        rw [join_cons2, ih]
        have hlt : i < s.length := (List.getElem?_eq_some_iff.1 h1).1
        have he : s[i] = 32 := (List.getElem?_eq_some_iff.1 h1).2
        conv => rhs; rw [← List.take_append_drop i s, List.drop_eq_getElem_cons hlt, he]

/-- The numbers of a set, of the first k. -/
def idx (n : Nat) : Nat → List Nat
  | 0 => []
  | k + 1 => if n.testBit k = true then idx n k ++ [k] else idx n k
theorem idx_lt (n : Nat) : ∀ k, ∀ x ∈ idx n k, x < k
  | 0, x, h => by simp [idx] at h
  | k + 1, x, h => by
    unfold idx at h
    split at h
    · rcases List.mem_append.1 h with h | h
      · have := idx_lt n k x h; omega
      · simp at h; omega
    · have := idx_lt n k x h; omega
theorem idx_low (n : Nat) : ∀ k, k ≤ 11 → idx (n &&& 2047) k = idx n k
  | 0, _ => rfl
  | k + 1, h => by
    unfold idx
    rw [idx_low n k (by omega), low_bit]
    simp [show k < 11 by omega]
theorem bitB_nat (n k : Nat) (hn : n < 4294967296) : bitB (n : Int) k = n.testBit k := by
  unfold bitB
  have e : (n : Int) / 2 ^ k = ((n / 2 ^ k : Nat) : Int) := by simp
  have hd : n / 2 ^ k < 4294967296 := Nat.lt_of_le_of_lt (Nat.div_le_self _ _) hn
  rw [e, show (1 : Int) = ((1 : Nat) : Int) from rfl, u32_and_nat _ 1 hd (by omega), Bool.eq_iff_iff, beq_iff_eq, Nat.testBit, Nat.shiftRight_eq_div_pow]
  rw [Nat.and_comm, bne_iff_ne]
  have := Nat.one_and_eq_mod_two (n / 2 ^ k)
  rw [this]
  omega
theorem textL_nat (n : Nat) (hn : n < 4294967296) : ∀ k, textL (n : Int) k = (idx n k).map wordAt
  | 0 => rfl
  | k + 1 => by
    unfold textL idx
    rw [bitB_nat n k hn, textL_nat n hn k]
    split <;> simp
theorem textS_nat (n : Nat) (hn : n < 4294967296) : textS (n : Int) = Lib.join (((idx n 11).map wordAt).map (·.data.toList)) [32] := by
  unfold textS
  rw [textL_nat n hn]
theorem textS_low (n : Nat) (hn : n < 4294967296) : textS ((n &&& 2047 : Nat) : Int) = textS (n : Int) := by
  rw [textS_nat n hn, textS_nat _ (by have := low_lt n; omega), idx_low n 11 (by omega)]

theorem idx_step0 : all2 (fun k => all2 (fun z => idx (z ||| 2 ^ k) 11 == idx z 11 ++ [k]) (2 ^ k)) 11 = true := by decide +kernel
theorem idx_step {z k : Nat} (hk : k < 11) (hz : z < 2 ^ k) : idx (z ||| 2 ^ k) 11 = idx z 11 ++ [k] := by
  have := all2_spec (all2_spec idx_step0 k hk) z hz
  simpa using this
def parseI (z : Nat) : List Nat → Option Nat
  | [] => some z
  | k :: r => if z / 2 ^ k ≠ 0 then none else parseI (z ||| 2 ^ k) r
theorem parseI_idx0 : all2 (fun n => parseI 0 (idx n 11) == some n) 2048 = true := by decide +kernel
theorem parseI_idx {n : Nat} (h : n < 2048) : parseI 0 (idx n 11) = some n := by simpa using all2_spec parseI_idx0 n h

theorem bytes_ext {a b : ByteArray} (h : (a.toList == b.toList) = true) : a = b := by
  rw [Lib.toList_data, Lib.toList_data, beq_iff_eq] at h
  cases a; cases b
  exact congrArg ByteArray.mk (Array.toList_inj.1 h)
theorem numberFrom_word (s : ByteArray) : ∀ (n k j : Nat), numberFrom s n k = (j : Int) → s = wordAt j
  | 0, _, j, h => by unfold numberFrom at h; omega
  | n + 1, k, j, h => by
    unfold numberFrom at h
    split at h
    · rename_i he
      obtain rfl : k = j := by omega
      exact (bytes_ext he).symm
    · exact numberFrom_word s n (k + 1) j h
theorem number_word : ∀ k, k < 11 → numberL (wordAt k) = (k : Int)
  | 0, _ => by decide +kernel
  | 1, _ => by decide +kernel
  | 2, _ => by decide +kernel
  | 3, _ => by decide +kernel
  | 4, _ => by decide +kernel
  | 5, _ => by decide +kernel
  | 6, _ => by decide +kernel
  | 7, _ => by decide +kernel
  | 8, _ => by decide +kernel
  | 9, _ => by decide +kernel
  | 10, _ => by decide +kernel
  | n + 11, h => absurd h (by omega)
theorem or_pow (z k : Nat) (hz : z < 4294967296) (hk : k < 11) : bits .or .u32 (z : Int) (2 ^ k % 4294967296) = ((z ||| 2 ^ k : Nat) : Int) := by
  have hk2 : 2 ^ k < 4294967296 := Nat.lt_of_lt_of_le (Nat.pow_lt_pow_right (by omega) hk) (by decide)
  have e : (2 : Int) ^ k % 4294967296 = ((2 ^ k : Nat) : Int) := by
    rw [show (2 : Int) ^ k = ((2 ^ k : Nat) : Int) by simp]
    generalize (2 : Nat) ^ k = t at hk2
    omega
  rw [e, u32_or_nat z _ hz hk2]
theorem div_pow (z k : Nat) : ((z : Int) / 2 ^ k != 0) = true ↔ z / 2 ^ k ≠ 0 := by
  have e : (z : Int) / 2 ^ k = ((z / 2 ^ k : Nat) : Int) := by simp
  rw [e, bne_iff_ne]
  omega
theorem lt_of_div {z k : Nat} (h : ¬ z / 2 ^ k ≠ 0) : z < 2 ^ k := by
  have : z / 2 ^ k = 0 := Classical.not_not.1 h
  exact (Nat.div_eq_zero_iff.1 this).resolve_left (by have := Nat.two_pow_pos k; omega)

theorem parseL_some : ∀ (ps : List ByteArray) (z : Nat) (c : Int), z < 2048 → parseL (z : Int) ps = some c → ∃ m l, m < 2048 ∧ c = ((m : Nat) : Int) ∧ ps = l.map wordAt ∧ idx m 11 = idx z 11 ++ l
  | [], z, c, hz, h => ⟨z, [], hz, by unfold parseL at h; exact (Option.some.inj h).symm, rfl, by simp⟩
  | p :: r, z, c, hz, h => by
    unfold parseL at h
    rcases numberL_cases p with hm | ⟨k, hk, hm⟩
    · rw [hm, if_pos (by decide)] at h; cases h
    · rw [hm, if_neg (by omega), Int.toNat_natCast] at h
      by_cases hd : z / 2 ^ k ≠ 0
      · rw [if_pos ((div_pow z k).2 hd)] at h; cases h
      · rw [if_neg (fun e => hd ((div_pow z k).1 e)), or_pow z k (by omega) hk] at h
        have hz2 := lt_of_div hd
        have hz3 : z ||| 2 ^ k < 2048 := Nat.or_lt_two_pow (n := 11) hz (Nat.pow_lt_pow_right (by omega) hk)
        obtain ⟨m, l, h1, h2, h3, h4⟩ := parseL_some r (z ||| 2 ^ k) c hz3 h
        have hp : p = wordAt k := numberFrom_word p 11 0 k hm
        refine ⟨m, k :: l, h1, h2, by rw [h3, hp]; rfl, ?_⟩
        rw [h4, idx_step hk hz2]
        simp
theorem parseL_words : ∀ (l : List Nat) (z : Nat), z < 2048 → (∀ k ∈ l, k < 11) → parseL (z : Int) (l.map wordAt) = (parseI z l).map fun n => ((n : Nat) : Int)
  | [], z, _, _ => rfl
  | k :: r, z, hz, h => by
    have hk := h k (by simp)
    rw [List.map_cons]
    unfold parseL parseI
    rw [number_word k hk, if_neg (by omega), Int.toNat_natCast]
    by_cases hd : z / 2 ^ k ≠ 0
    · rw [if_pos ((div_pow z k).2 hd), if_pos hd]; rfl
    · rw [if_neg (fun e => hd ((div_pow z k).1 e)), if_neg hd, or_pow z k (by omega) hk]
      exact parseL_words r _ (Nat.or_lt_two_pow (n := 11) hz (Nat.pow_lt_pow_right (by omega) hk)) (fun j hj => h j (by simp [hj]))

theorem wordAt_no (k : Nat) : (32 : UInt8) ∉ (wordAt k).data.toList := by
  match k with
  | 0 | 1 | 2 | 3 | 4 | 5 | 6 | 7 | 8 | 9 | 10 => decide
  | n + 11 => exact List.not_mem_nil
theorem wordAt_ne {k : Nat} (h : k < 11) : (wordAt k).data.toList ≠ [] := by
  match k, h with
  | 0, _ | 1, _ | 2, _ | 3, _ | 4, _ | 5, _ | 6, _ | 7, _ | 8, _ | 9, _ | 10, _ => decide
  | n + 11, h => omega

theorem bytes_inj {a b : List ByteArray} (h : a.map (·.data.toList) = b.map (·.data.toList)) : a = b := by
  refine (List.map_inj_right (f := fun x : ByteArray => x.data.toList) ?_).1 h
  intro x y e
  cases x; cases y
  exact congrArg ByteArray.mk (Array.toList_inj.1 e)

theorem pieces_data (s : ByteArray) : (pieces s).map (·.data.toList) = Lib.splitK [32] 0 (Lib.count s.data.toList [32]) s.data.toList := Lib.splitB_data _ _ _ _

theorem parse_text (n : Nat) (h : n < 2048) (s : ByteArray) (hs : s.data.toList = textS (n : Int)) : parseV s = .tuple #[.int .u32 n, .bool true] := by
  rw [textS_nat n (by omega)] at hs
  have hi := parseI_idx h
  have hl := idx_lt n 11
  unfold parseV
  rw [Lib.toList_data]
  cases hx : idx n 11 with
  | nil =>
    rw [hx] at hs hi
    rw [hs]
    show Value.tuple #[.int .u32 0, .bool true] = _
    have : (0 : Nat) = n := Option.some.inj hi
    rw [← this]
    rfl
  | cons k r =>
    have hne : s.data.toList.isEmpty = false := by
      rw [hs, hx, List.map_cons, List.map_cons, Lib.join_cons]
      have := wordAt_ne (hl k (by rw [hx]; simp))
      cases hw : (wordAt k).data.toList with
      | nil => exact absurd hw this
      | cons a b => rfl
    have hp : pieces s = (idx n 11).map wordAt := by
      apply bytes_inj
      rw [pieces_data, hs]
      refine split_join _ (by rw [hx]; simp) ?_
      intro x hxm
      obtain ⟨y, hy, rfl⟩ := List.mem_map.1 hxm
      obtain ⟨j, _, rfl⟩ := List.mem_map.1 hy
      exact wordAt_no j
    rw [hne, if_neg (by decide), hp]
    have := parseL_words (idx n 11) 0 (by omega) hl
    rw [show ((0 : Nat) : Int) = 0 from rfl] at this
    rw [this, hi]
    rfl

theorem parse_none (s : ByteArray) (h : ∀ j, j < 2048 → textS ((j : Nat) : Int) ≠ s.data.toList) : parseV s = .tuple #[.int .u32 0, .bool false] := by
  unfold parseV
  cases he : s.toList.isEmpty with
  | true =>
    rw [Lib.toList_data, List.isEmpty_iff] at he
    refine absurd ?_ (h 0 (by omega))
    rw [he]
    exact textS_nat 0 (by omega)
  | false =>
    rw [if_neg (by decide)]
    cases hp : parseL 0 (pieces s) with
    | none => rfl
    | some c =>
      obtain ⟨m, l, h1, rfl, h3, h4⟩ := parseL_some (pieces s) 0 c (by omega) hp
      refine absurd ?_ (h m h1)
      have h5 : idx m 11 = l := h4
      rw [textS_nat m (by omega), h5, ← h3, pieces_data]
      exact join_split _ _
end Go.Proofs.YthkipihakiopnaaDoor
