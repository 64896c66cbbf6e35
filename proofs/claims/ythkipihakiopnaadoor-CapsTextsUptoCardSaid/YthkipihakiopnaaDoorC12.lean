/- Contracts of what CapsTexts calls: Valid, Word, the reference's Words, Number, Has, Text, Parse. -/
import Derived.Test.YthkipihakiopnaaDoorC11
namespace Go.Proofs.YthkipihakiopnaaDoor
open Go.RowKit Plain

theorem valid_any (c : Int) (w : World) : Calls Tryd.prog 16 #[.int .u32 c] w fun x w' => x = .returned (.bool (decide (c ≤ 2047))) ∧ Below w.heap.size w w' := by
  go_enter Tryd.func16, Tryd.ntmps16
  go_wp2
  go_ret
  exact ⟨rfl, by go_grown⟩
theorem rvalid_any (c : Int) (w : World) : Calls Tryd.prog 17 #[.int .u32 c] w fun x w' => x = .returned (.bool (decide (c ≤ 2047))) ∧ Below w.heap.size w w' := by
  go_enter Tryd.func17, Tryd.ntmps17
  go_wp2
  go_ret
  exact ⟨rfl, by go_grown⟩

theorem rwords_any (w : World) : Calls Tryd.prog 33 #[] w fun x w' => x = .returned (.slice (some ⟨w.heap.size, 0, none⟩) 11 11) ∧ (∀ k, k < 11 → w'.cell? ⟨w.heap.size, k, none⟩ = some (.string (wordAt k))) ∧ w.heap.size + 1 ≤ w'.heap.size ∧ Below w.heap.size w w' := by
  go_enter Tryd.func33, Tryd.ntmps33
  go_wp2
  go_ret
  refine ⟨rfl, fun k hk => ?_, by go_size, by go_grown⟩
  match k, hk with
  | 0, _ => exact Eq.trans (b := some (Value.string ⟨#[102, 108, 117, 115, 104]⟩)) (by go_cell) rfl
  | 1, _ => exact Eq.trans (b := some (Value.string ⟨#[99, 108, 111, 115, 101]⟩)) (by go_cell) rfl
  | 2, _ => exact Eq.trans (b := some (Value.string ⟨#[98, 97, 116, 99, 104]⟩)) (by go_cell) rfl
  | 3, _ => exact Eq.trans (b := some (Value.string ⟨#[97, 99, 107]⟩)) (by go_cell) rfl
  | 4, _ => exact Eq.trans (b := some (Value.string ⟨#[112, 105, 110, 103]⟩)) (by go_cell) rfl
  | 5, _ => exact Eq.trans (b := some (Value.string ⟨#[114, 101, 115, 101, 116]⟩)) (by go_cell) rfl
  | 6, _ => exact Eq.trans (b := some (Value.string ⟨#[115, 97, 118, 101]⟩)) (by go_cell) rfl
  | 7, _ => exact Eq.trans (b := some (Value.string ⟨#[108, 111, 97, 100]⟩)) (by go_cell) rfl
  | 8, _ => exact Eq.trans (b := some (Value.string ⟨#[110, 97, 109, 101]⟩)) (by go_cell) rfl
  | 9, _ => exact Eq.trans (b := some (Value.string ⟨#[117, 110, 116, 105, 108]⟩)) (by go_cell) rfl
  | 10, _ => exact Eq.trans (b := some (Value.string ⟨#[111, 112, 101, 110]⟩)) (by go_cell) rfl
  | n + 11, h => omega

def wordP (k : Int) : ByteArray := if 0 ≤ k ∧ k < 11 then wordAt k.toNat else ⟨#[]⟩
theorem word_out (k : Int) (w : World) (h : ¬ (0 ≤ k ∧ k < 11)) : Calls Tryd.prog 18 #[.int .i64 k] w fun x w' => x = .returned (.string ⟨#[]⟩) ∧ Below w.heap.size w w' := by
  have hd : (decide (k < 0) = true) ∨ (decide (k < 0) = false ∧ decide (11 ≤ k) = true) := by
    by_cases h0 : k < 0
    · exact Or.inl (by simp [h0])
    · exact Or.inr ⟨by simpa using h0, by simp; omega⟩
  go_enter Tryd.func18, Tryd.ntmps18
  rcases hd with h1 | ⟨h1, h2⟩ <;> clear h
  · go_wp2_with fail
    go_ret
    exact ⟨rfl, by go_grown⟩
  · go_wp2_with fail
    go_ret
    exact ⟨rfl, by go_grown⟩
theorem word_in (k : Nat) (w : World) (hk : k < 11) (hg : Gl w) : Calls Tryd.prog 18 #[.int .i64 k] w fun x w' => x = .returned (.string (wordAt k)) ∧ Below w.heap.size w w' := by
  have hc := hg.words k hk
  have h1 : decide ((k : Int) < 0) = false := by simp; done
  have h2 : decide ((11 : Int) ≤ (k : Int)) = false := by simp; omega
  generalize wordAt k = s at hc
  go_enter Tryd.func18, Tryd.ntmps18
  go_wp2_with fail
  go_ret
  exact ⟨rfl, by go_grown⟩

theorem rword_out (k : Int) (w : World) (h : ¬ (0 ≤ k ∧ k < 11)) : Calls Tryd.prog 19 #[.int .i64 k] w fun x w' => x = .returned (.string ⟨#[]⟩) ∧ Below w.heap.size w w' := by
  have hd : (decide (k < 0) = true) ∨ (decide (k < 0) = false ∧ decide (11 ≤ k) = true) := by
    by_cases h0 : k < 0
    · exact Or.inl (by simp [h0])
    · exact Or.inr ⟨by simpa using h0, by simp; omega⟩
  go_enter Tryd.func19, Tryd.ntmps19
  rcases hd with h1 | ⟨h1, h2⟩ <;> clear h
  · go_wp2_with fail
    go_ret
    exact ⟨rfl, by go_grown⟩
  · go_wp2_with fail
    go_ret
    exact ⟨rfl, by go_grown⟩
theorem rword_in (k : Nat) (w : World) (hk : k < 11) : Calls Tryd.prog 19 #[.int .i64 k] w fun x w' => x = .returned (.string (wordAt k)) ∧ Below w.heap.size w w' := by
  have h1 : decide ((k : Int) < 0) = false := by simp; done
  have h2 : decide ((11 : Int) ≤ (k : Int)) = false := by simp; omega
  go_enter Tryd.func19, Tryd.ntmps19
  go_wp2_with fail
  refine (rwords_any _).mono ?_
  rintro x w1 ⟨rfl, hc, hz, hb⟩
  have hk1 := hc k hk
  clear hc
  go_wp2_with fail
  go_ret
  exact ⟨rfl, hb⟩
theorem word_any (k : Int) (w : World) (hg : Gl w) : Calls Tryd.prog 18 #[.int .i64 k] w fun x w' => x = .returned (.string (wordP k)) ∧ Below w.heap.size w w' := by
  unfold wordP
  by_cases h : 0 ≤ k ∧ k < 11
  · rw [if_pos h]
    obtain ⟨n, rfl⟩ := Int.eq_ofNat_of_zero_le h.1
    exact word_in n w (by omega) hg
  · rw [if_neg h]; exact word_out k w h
theorem rword_any (k : Int) (w : World) : Calls Tryd.prog 19 #[.int .i64 k] w fun x w' => x = .returned (.string (wordP k)) ∧ Below w.heap.size w w' := by
  unfold wordP
  by_cases h : 0 ≤ k ∧ k < 11
  · rw [if_pos h]
    obtain ⟨n, rfl⟩ := Int.eq_ofNat_of_zero_le h.1
    exact rword_in n w (by omega)
  · rw [if_neg h]; exact rword_out k w h

set_option maxHeartbeats 800000 in
theorem rnumber_any (s : ByteArray) (w : World) : Calls Tryd.prog 21 #[.string s] w fun x w' => x = .returned (.int .i64 (numberL s)) ∧ Below w.heap.size w w' := by
  go_enter Tryd.func21, Tryd.ntmps21
  go_wp2_with fail
  refine (rwords_any _).mono ?_
  rintro x w1 ⟨rfl, hc, hz, hb⟩
  have HC := Lib.hid hc
  clear hc
  go_wp2_with fail
  go_loopw [7] (fun i wr => ∃ k : Nat, k ≤ 11 ∧ i = .int .i64 k ∧ wr = w1 ∧ Hid (numberL s = numberFrom s (11 - k) k)) (fun i _ => 11 - (intOf i).toNat)
  case atStart => exact ⟨0, by omega, rfl, rfl, rfl⟩
  case round =>
    obtain ⟨k, hk, rfl, rfl, hn⟩ := hrel
    by_cases hlt : k < 11
    · have hck := HC.out k hlt
      by_cases he : ((wordAt k).toList == s.toList) = true
      · have HE := Lib.hid (show numberL s = (k : Int) by rw [hn.out, show 11 - k = (11 - (k + 1)) + 1 by omega, numberFrom, if_pos he])
        clear hn
        go_wp2_with fail
        go_ret
        exact ⟨by rw [HE.out]; rfl, by first | exact hb | go_grown⟩
      · have HE := Lib.hid (show numberL s = numberFrom s (11 - (k + 1)) (k + 1) by rw [hn.out, show 11 - k = (11 - (k + 1)) + 1 by omega, numberFrom, if_neg he])
        have he' : ((wordAt k).toList == s.toList) = false := by simpa using he
        clear hn he
        go_wp2_with fail
        go_roundw
        case rel => exact ⟨k + 1, by omega, by go_num, by first | rfl | trivial, HE⟩
        case measure => simp [intOf]; omega
    · obtain rfl : k = 11 := by omega
      go_wp2_with fail
      go_ret
      exact ⟨by rw [hn.out]; rfl, by first | exact hb | go_grown⟩

theorem rhas_any (c : Int) (k : Nat) (hk : k < 11) (w : World) : Calls Tryd.prog 34 #[.int .u32 c, .int .i64 k] w fun x w' => x = .returned (.bool (bitB c k)) ∧ Below w.heap.size w w' := by
  have h1 : decide ((0 : Int) ≤ (k : Int)) = true := by simp; done
  have h2 : decide ((k : Int) < 11) = true := by simp; omega
  have h3 : decide ((k : Int) < 32) = true := by simp; omega
  go_enter Tryd.func34, Tryd.ntmps34
  go_wp2_with fail
  go_ret
  exact ⟨rfl, by go_grown⟩

/-- The text of the first k, as the reference builds it. -/
def textK (c : Int) (k : Nat) : ByteArray := ⟨(Lib.join ((textL c k).map (·.data.toList)) [32]).toArray⟩
theorem textK_le (c : Int) (k : Nat) (hk : k ≤ 11) : (textK c k).size ≤ 66 := by
  show (Lib.join _ [32]).toArray.size ≤ 66
  have h1 := join_le _ (textL_lens c k)
  have h2 := textL_len c k
  simp at h1 h2 ⊢
  omega
theorem join_snoc : ∀ (l : List (List UInt8)) (x : List UInt8), l ≠ [] → Lib.join (l ++ [x]) [32] = Lib.join l [32] ++ 32 :: x
  | [], x, h => absurd rfl h
  | [a], x, _ => by show Lib.join [a, x] [32] = _; rw [join_cons2, Lib.join_one, Lib.join_one]
  | a :: b :: r, x, _ => by
    have ih := join_snoc (b :: r) x (by simp)
    rw [List.cons_append, List.cons_append, join_cons2, join_cons2]
    rw [List.cons_append] at ih
    rw [ih]
    simp
theorem textL_words (c : Int) : ∀ k, k ≤ 11 → ∀ x ∈ textL c k, x.data.toList ≠ []
  | 0, _, x, h => by cases h
  | k + 1, hk, x, h => by
    unfold textL at h
    split at h
    · rcases List.mem_append.1 h with h | h
      · exact textL_words c k (by omega) x h
      · simp at h; subst h; exact wordAt_ne (by omega)
    · exact textL_words c k (by omega) x h
theorem textK_empty (c : Int) (k : Nat) (hk : k ≤ 11) : (textK c k).toList = [] ↔ textL c k = [] := by
  rw [Lib.toList_data]
  show (Lib.join ((textL c k).map (·.data.toList)) [32]) = [] ↔ _
  have hw := textL_words c k hk
  cases h : textL c k with
  | nil => simp [Lib.join_nil]
  | cons a r =>
    rw [h] at hw
    have := hw a (by simp)
    rw [List.map_cons, Lib.join_cons]
    simp [this]
theorem textK_next0 (c : Int) (k : Nat) (hb : bitB c k = false) : textK c (k + 1) = textK c k := by
  have hx : textL c (k + 1) = textL c k := by rw [textL, if_neg (by simp [hb])]
  unfold textK
  rw [hx]
theorem textK_next1 (c : Int) (k : Nat) (hb : bitB c k = true) (he : textL c k = []) : textK c (k + 1) = textK c k ++ wordAt k := by
  have hx : textL c (k + 1) = [wordAt k] := by rw [textL, if_pos hb, he]; rfl
  unfold textK
  rw [hx, he]
  show ByteArray.mk (Lib.join [(wordAt k).data.toList] [32]).toArray = ByteArray.mk #[] ++ wordAt k
  rw [Lib.join_one]
  apply ByteArray.ext
  simp
theorem textK_next2 (c : Int) (k : Nat) (hb : bitB c k = true) (he : textL c k ≠ []) : textK c (k + 1) = (textK c k ++ ⟨#[32]⟩) ++ wordAt k := by
  have hx : textL c (k + 1) = textL c k ++ [wordAt k] := by rw [textL, if_pos hb]
  unfold textK
  rw [hx, List.map_append, List.map_singleton, join_snoc _ _ (by simpa using he)]
  apply ByteArray.ext
  simp

set_option maxHeartbeats 1600000 in
theorem rtext_any (c : Int) (w : World) : Calls Tryd.prog 22 #[.int .u32 c] w fun x w' => x = .returned (.string (textK c 11)) ∧ Below w.heap.size w w' := by
  go_enter Tryd.func22, Tryd.ntmps22
  go_wp2_with fail
  refine (rwords_any _).mono ?_
  rintro x w1 ⟨rfl, hc, hz, hb⟩
  have HC := Lib.hid hc
  clear hc
  go_wp2_with fail
  go_loopw [3, 8] (fun v i wr => ∃ k : Nat, k ≤ 11 ∧ i = .int .i64 k ∧ v = .string (textK c k) ∧ Below w1.heap.size w1 wr) (fun _ i _ => 11 - (intOf i).toNat)
  case atStart => exact ⟨0, by omega, rfl, rfl, Below.refl _ _⟩
  case round =>
    obtain ⟨k, hk, rfl, rfl, hB⟩ := hrel
    by_cases hlt : k < 11
    · have hck : wr.cell? ⟨w.heap.size, k, none⟩ = some (.string (wordAt k)) := (hB.cell (p := ⟨w.heap.size, k, none⟩) hz).trans (HC.out k hlt)
      have hs1 := textK_le c k hk
      have hs2 : (wordAt k).size ≤ 5 := by have := wordAt_len k; rwa [← Lib.size_eq] at this
      have hk1 := textK_next0 c k
      have hk2 := textK_next1 c k
      have hk3 := textK_next2 c k
      have hem := textK_empty c k hk
      have HH := Lib.hid (And.intro hk1 (And.intro hk2 (And.intro hk3 hem)))
      clear hk1 hk2 hk3 hem
      go_wp2_with fail
      refine (rhas_any c k hlt _).mono ?_
      rintro x w2 ⟨rfl, hb2⟩
      have hB2 : Below w1.heap.size w1 w2 := hB.trans (hb2.mono hB.size)
      clear hB hb2 hck
      cases hb : bitB c k with
      | false =>
        go_wp2_with fail
        go_roundw
        case rel => exact ⟨k + 1, by omega, by go_num, by rw [HH.out.1 hb], hB2⟩
        case measure => simp [intOf]; omega
      | true =>
        by_cases he : textL c k = []
        · have h1 : ((textK c k).toList == []) = true := by rw [beq_iff_eq]; exact HH.out.2.2.2.2 he
          go_wp2_with fail
          go_roundw
          case rel => exact ⟨k + 1, by omega, by go_num, by rw [HH.out.2.1 hb he], hB2⟩
          case measure => simp [intOf]; omega
        · have h1 : ((textK c k).toList == []) = false := by
            rw [Bool.eq_false_iff, ne_eq, beq_iff_eq]
            exact fun h => he (HH.out.2.2.2.1 h)
          go_wp2_with fail
          go_roundw
          case rel => exact ⟨k + 1, by omega, by go_num, by rw [HH.out.2.2.1 hb he], hB2⟩
          case measure => simp [intOf]; omega
    · obtain rfl : k = 11 := by omega
      go_wp2_with fail
      go_ret
      exact ⟨rfl, hb.trans (hB.mono hb.size)⟩

set_option maxHeartbeats 1600000 in
theorem rparse_core (s : ByteArray) (V : Value) (w : World) (h1 : Hid (∀ k : Nat, k < 2048 → ((textK (k : Int) 11).toList == s.toList) = true → V = .tuple #[.int .u32 k, .bool true]))
    (h2 : Hid ((∀ k : Nat, k < 2048 → ((textK (k : Int) 11).toList == s.toList) = false) → V = .tuple #[.int .u32 0, .bool false])) : Calls Tryd.prog 14 #[.string s] w fun x w' => x = .returned V ∧ Below w.heap.size w w' := by
  go_enter Tryd.func14, Tryd.ntmps14
  go_wp2_with fail
  go_loopw [4] (fun i wr => ∃ k : Nat, k ≤ 2048 ∧ i = .int .u32 k ∧ Below w.heap.size w wr ∧ Hid (∀ j : Nat, j < k → ((textK (j : Int) 11).toList == s.toList) = false)) (fun i _ => 2048 - (intOf i).toNat)
  case atStart => exact ⟨0, by omega, rfl, by go_grown, fun j hj => absurd hj (by omega)⟩
  case round =>
    obtain ⟨k, hk, rfl, hB, hn⟩ := hrel
    by_cases hlt : k < 2048
    · have hd : decide ((k : Int) ≤ 2047) = true := by simp; omega
      go_wp2_with fail
      refine (rtext_any _ _).mono ?_
      rintro x w2 ⟨rfl, hb2⟩
      have hB2 : Below w.heap.size w w2 := hB.trans (hb2.mono hB.size)
      clear hB hb2
      cases he : ((textK (k : Int) 11).toList == s.toList) with
      | true =>
        have hV := Lib.hid (h1.out k hlt he)
        clear hn
        go_wp2_with fail
        go_ret2
        exact ⟨by rw [hV.out]; rfl, hB2⟩
      | false =>
        have hn2 := Lib.hid (show ∀ j : Nat, j < k + 1 → ((textK (j : Int) 11).toList == s.toList) = false from fun j hj => by
          by_cases e : j = k
          · subst e; exact he
          · exact hn.out j (by omega))
        clear hn
        go_wp2_with fail
        go_roundw
        case rel => exact ⟨k + 1, by omega, by go_num, hB2, hn2⟩
        case measure => simp [intOf]; omega
    · obtain rfl : k = 2048 := by omega
      have hV := Lib.hid (h2.out hn.out)
      clear hn
      go_wp2_with fail
      go_ret2
      exact ⟨by rw [hV.out]; rfl, hB⟩

theorem rparse_any (s : ByteArray) (w : World) : Calls Tryd.prog 14 #[.string s] w fun x w' => x = .returned (parseV s) ∧ Below w.heap.size w w' := by
  have hT : ∀ k : Nat, (textK (k : Int) 11).toList = textS (k : Int) := fun k => by rw [Lib.toList_data]; rfl
  refine rparse_core s _ w ?_ ?_
  · intro k hk h
    refine parse_text k hk s ?_
    rw [beq_iff_eq, hT, Lib.toList_data] at h
    exact h.symm
  · intro h
    refine parse_none s fun j hj e => ?_
    have := h j hj
    rw [Bool.eq_false_iff, ne_eq, beq_iff_eq, hT, Lib.toList_data] at this
    exact this e
end Go.Proofs.YthkipihakiopnaaDoor
