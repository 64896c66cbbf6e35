/- Contracts of the reference's Groups, of caps.Number and caps.Text: what a set's text is. -/
import Derived.Test.YthkipihakiopnaaDoorC2
import Derived.Test.YthkipihakiopnaaDoorShelf
namespace Go.Proofs.YthkipihakiopnaaDoor
open Go.RowKit

set_option maxHeartbeats 800000 in
theorem rgroups_any (c : Int) (w : World) : Calls Tryd.prog 9 #[.int .u32 c] w fun x w' => ∃ v, x = .returned v ∧ Made w' w.heap.size v (groupsL c 5) ∧ Below w.heap.size w w' := by
  obtain ⟨i0, hi, hz0, hz1, hz2⟩ := info_parts info3
  go_enter Tryd.func9, Tryd.ntmps9
  go_wp2_with fail
  go_loopw [3, 4] (fun v i wr => ∃ k : Nat, k ≤ 5 ∧ i = .int .i64 k ∧ Made wr w.heap.size v (groupsL c k) ∧ Below w.heap.size w wr) (fun _ i _ => 5 - (intOf i).toNat)
  case atStart => exact ⟨0, by omega, rfl, World.ownsRow_nil _ _ _ _, Below.refl _ _⟩
  case round =>
    obtain ⟨k, hk, rfl, hown, hB⟩ := hrel
    by_cases hlt : k < 5
    · go_wp2_with fail
      refine (rparts_any _ _).mono ?_
      rintro x w0 ⟨rfl, hb0⟩
      go_wp2_with fail
      refine (rparts_any _ _).mono ?_
      rintro x w1 ⟨rfl, hb1⟩
      have hb : Below wr.heap.size wr w1 := hb0.trans (hb1.mono hb0.size)
      clear hb0 hb1
      have hB1 : Below w.heap.size w w1 := hB.trans (hb.mono hB.size)
      have hM1 := Made.below hown hb
      have hl := groupsL_len c k
      have hz1' := hb.size
      have hzw := hB1.size
      clear hown hb hB
      by_cases hh : hasB c k = true
      · have ht : (bits BinOp.and IntKind.u32 c (partsP ↑k) == partsP ↑k) = true := hh
        have HE := Lib.hid (show groupsL c (k + 1) = groupsL c k ++ [(k : Int)] by rw [groupsL, if_pos hh])
        clear hh
        go_wp2_with (at_builtin; refine wpList_append_own _ rfl (.tmp 16) (.tmp 18) 24 rfl w.heap.size 3 i0 (.int .i64 0) 1 8 Tryd.underlying24 hi hz0 hz1 hz2 rfl (by decide) _ _ _ rfl (World.ownsRow.alloc hM1 _) ⟨w1.heap.size, 0, none⟩ 1 1 [.int .i64 k] rfl rfl ?c1 ?c2 ?c3 ?c4 ?c5 ?_)
        case c1 =>
          intro j u hj
          match j, hj with
          | 0, hj => simp at hj; subst hj; simp [Addr.add]
        case c2 => intro u hu; simp at hu; subst hu; rfl
        case c3 => unfold maxLen; omega
        case c4 => omega
        case c5 => simp; omega
        intro v' w2 hown' hgrow _
        have hM2 : Made w2 w.heap.size v' (groupsL c (k + 1)) := Made.snoc hown' HE.out
        have hB2 : Below w.heap.size w w2 := Below.grown (hB1.alloc hzw _) hgrow (by simp; omega) (fun r hr => (World.ownsRow.lt hM1 r hr).1)
        clear hown' hgrow hM1 hB1
        go_wp2_with fail
        go_roundw
        case rel => exact ⟨k + 1, by omega, by go_num, hM2, hB2⟩
        case measure => simp [intOf]; omega
      · have ht : (bits BinOp.and IntKind.u32 c (partsP ↑k) == partsP ↑k) = false := by
          have := hh
          unfold hasB at this
          simpa using this
        have HE : groupsL c (k + 1) = groupsL c k := by rw [groupsL, if_neg hh]
        rw [← HE] at hM1
        clear hh HE
        go_wp2_with fail
        go_roundw
        case rel => exact ⟨k + 1, by omega, by go_num, hM1, hB1⟩
        case measure => simp [intOf]; omega
    · obtain rfl : k = 5 := by omega
      go_wp2_with fail
      go_ret
      exact ⟨_, rfl, hown, hB⟩
/-- The words, by their numbers. -/
def wordAt : Nat → ByteArray
  | 0 => ⟨#[102, 108, 117, 115, 104]⟩
  | 1 => ⟨#[99, 108, 111, 115, 101]⟩
  | 2 => ⟨#[98, 97, 116, 99, 104]⟩
  | 3 => ⟨#[97, 99, 107]⟩
  | 4 => ⟨#[112, 105, 110, 103]⟩
  | 5 => ⟨#[114, 101, 115, 101, 116]⟩
  | 6 => ⟨#[115, 97, 118, 101]⟩
  | 7 => ⟨#[108, 111, 97, 100]⟩
  | 8 => ⟨#[110, 97, 109, 101]⟩
  | 9 => ⟨#[117, 110, 116, 105, 108]⟩
  | 10 => ⟨#[111, 112, 101, 110]⟩
  | _ => ⟨#[]⟩
def wordsV : Array Value := #[.string ⟨#[102, 108, 117, 115, 104]⟩, .string ⟨#[99, 108, 111, 115, 101]⟩, .string ⟨#[98, 97, 116, 99, 104]⟩, .string ⟨#[97, 99, 107]⟩, .string ⟨#[112, 105, 110, 103]⟩, .string ⟨#[114, 101, 115, 101, 116]⟩, .string ⟨#[115, 97, 118, 101]⟩, .string ⟨#[108, 111, 97, 100]⟩, .string ⟨#[110, 97, 109, 101]⟩, .string ⟨#[117, 110, 116, 105, 108]⟩, .string ⟨#[111, 112, 101, 110]⟩]

/-- What the listed variables hold, as far as these functions read them. -/
structure Gl (w : World) : Prop where
  words : ∀ k, k < 11 → w.cell? ⟨0, k, none⟩ = some (.string (wordAt k))
  maxLen : ∃ m, w.cell? ⟨2, 0, none⟩ = some (.int .i64 m)
  size : 3 ≤ w.heap.size
theorem Gl.below {w w1 : World} {B : Nat} (h : Gl w) (hb : Below B w w1) (hB : 3 ≤ B) : Gl w1 where
  words := fun k hk => (hb.cell (p := ⟨0, k, none⟩) (by simp; omega)).trans (h.words k hk)
  maxLen := by obtain ⟨m, hm⟩ := h.maxLen; exact ⟨m, (hb.cell (p := ⟨2, 0, none⟩) (by simp; omega)).trans hm⟩
  size := Nat.le_trans h.size hb.size
theorem Gl.at {w : World} (h : Gl w) : w.cell? ⟨0, 0, none⟩ = some (.string ⟨#[102, 108, 117, 115, 104]⟩) ∧ w.cell? ⟨0, 1, none⟩ = some (.string ⟨#[99, 108, 111, 115, 101]⟩) ∧ w.cell? ⟨0, 2, none⟩ = some (.string ⟨#[98, 97, 116, 99, 104]⟩) ∧ w.cell? ⟨0, 3, none⟩ = some (.string ⟨#[97, 99, 107]⟩) ∧ w.cell? ⟨0, 4, none⟩ = some (.string ⟨#[112, 105, 110, 103]⟩) ∧ w.cell? ⟨0, 5, none⟩ = some (.string ⟨#[114, 101, 115, 101, 116]⟩) ∧ w.cell? ⟨0, 6, none⟩ = some (.string ⟨#[115, 97, 118, 101]⟩) ∧ w.cell? ⟨0, 7, none⟩ = some (.string ⟨#[108, 111, 97, 100]⟩) ∧ w.cell? ⟨0, 8, none⟩ = some (.string ⟨#[110, 97, 109, 101]⟩) ∧ w.cell? ⟨0, 9, none⟩ = some (.string ⟨#[117, 110, 116, 105, 108]⟩) ∧ w.cell? ⟨0, 10, none⟩ = some (.string ⟨#[111, 112, 101, 110]⟩) :=
  ⟨h.words 0 (by omega), h.words 1 (by omega), h.words 2 (by omega), h.words 3 (by omega), h.words 4 (by omega), h.words 5 (by omega), h.words 6 (by omega), h.words 7 (by omega), h.words 8 (by omega), h.words 9 (by omega), h.words 10 (by omega)⟩

theorem index_word : ∀ (k : Nat) (_ : k < 11) (w : World), (Instr.index 57 (.agg wordsV) (.int .i64 k)).run Tryd.prog w = .ok (.string (wordAt k)) w
  | 0, _, w => by kernel_rfl
  | 1, _, w => by kernel_rfl
  | 2, _, w => by kernel_rfl
  | 3, _, w => by kernel_rfl
  | 4, _, w => by kernel_rfl
  | 5, _, w => by kernel_rfl
  | 6, _, w => by kernel_rfl
  | 7, _, w => by kernel_rfl
  | 8, _, w => by kernel_rfl
  | 9, _, w => by kernel_rfl
  | 10, _, w => by kernel_rfl
  | n + 11, h, _ => absurd h (by omega)

/-- The number of a word; -1 where it is none. -/
def numberFrom (s : ByteArray) : Nat → Nat → Int
  | 0, _ => -1
  | n + 1, k => if (wordAt k).toList == s.toList then (k : Int) else numberFrom s n (k + 1)
def numberL (s : ByteArray) : Int := numberFrom s 11 0

set_option maxHeartbeats 800000 in
theorem number_any (s : ByteArray) (w : World) (hg : Gl w) : Calls Tryd.prog 20 #[.string s] w fun x w' => x = .returned (.int .i64 (numberL s)) ∧ Below w.heap.size w w' := by
  obtain ⟨g0, g1, g2, g3, g4, g5, g6, g7, g8, g9, g10⟩ := hg.at
  go_enter Tryd.func20, Tryd.ntmps20
  go_wp2_with fail
  go_loop [6] (fun i => ∃ k : Nat, k ≤ 11 ∧ i = .int .i64 k ∧ Hid (numberL s = numberFrom s (11 - k) k)) (fun i => 11 - (intOf i).toNat)
  case atStart => exact ⟨0, by omega, rfl, rfl⟩
  case round =>
    obtain ⟨k, hk, rfl, hn⟩ := hrel
    by_cases hlt : k < 11
    · have hix := index_word k hlt
      unfold wordsV at hix
      by_cases he : ((wordAt k).toList == s.toList) = true
      · have HE := Lib.hid (show numberL s = (k : Int) by rw [hn.out, show 11 - k = (11 - (k + 1)) + 1 by omega, numberFrom, if_pos he])
        clear hn
        go_wp2
        go_ret
        exact ⟨by rw [HE.out]; rfl, by go_grown⟩
      · have HE := Lib.hid (show numberL s = numberFrom s (11 - (k + 1)) (k + 1) by rw [hn.out, show 11 - k = (11 - (k + 1)) + 1 by omega, numberFrom, if_neg he])
        have he' : ((wordAt k).toList == s.toList) = false := by simpa using he
        clear hn he
        go_wp2
        go_round
        case rel => exact ⟨k + 1, by omega, by go_num, HE⟩
        case measure => simp [intOf]; omega
    · obtain rfl : k = 11 := by omega
      go_wp2
      go_ret
      exact ⟨by rw [hn.out]; rfl, by go_grown⟩
theorem info9 : (Tryd.prog.info? 9).map (fun i => (i.zero, i.size, i.bytes)) = some (some (.string ⟨#[]⟩), 1, 16) := by kernel_rfl
def bitB (c : Int) (k : Nat) : Bool := bits .and .u32 (c / 2 ^ k) 1 == 1
def textL (c : Int) : Nat → List ByteArray
  | 0 => []
  | k + 1 => if bitB c k = true then textL c k ++ [wordAt k] else textL c k
def textS (c : Int) : List UInt8 := Lib.join ((textL c 11).map (·.data.toList)) [32]
theorem textL_len (c : Int) : ∀ k, (textL c k).length ≤ k
  | 0 => Nat.le_refl _
  | k + 1 => by
    have := textL_len c k
    unfold textL
    split <;> simp <;> omega
theorem wordAt_len (k : Nat) : (wordAt k).data.toList.length ≤ 5 := by
  match k with
  | 0 | 1 | 2 | 3 | 4 | 5 | 6 | 7 | 8 | 9 | 10 => decide
  | _ + 11 => exact Nat.zero_le _
theorem textL_lens (c : Int) : ∀ k, ∀ x ∈ (textL c k).map (·.data.toList), x.length ≤ 5
  | 0, x, hx => by cases hx
  | k + 1, x, hx => by
    unfold textL at hx
    split at hx
    · rw [List.map_append, List.mem_append] at hx
      rcases hx with hx | hx
      · exact textL_lens c k x hx
      · simp at hx; subst hx; exact wordAt_len k
    · exact textL_lens c k x hx
theorem lens_le : ∀ (l : List (List UInt8)), (∀ x ∈ l, x.length ≤ 5) → Lib.lens l ≤ 5 * l.length
  | [], _ => Nat.le_refl _
  | a :: l, h => by
    have h1 := h a (by simp)
    have h2 := lens_le l (fun x hx => h x (by simp [hx]))
    simp only [Lib.lens, List.map_cons, List.sum_cons, List.length_cons] at h2 ⊢
    omega
theorem join_le : ∀ (l : List (List UInt8)), (∀ x ∈ l, x.length ≤ 5) → (Lib.join l [32]).length ≤ 6 * l.length
  | [], _ => Nat.zero_le _
  | a :: l, h => by
    rw [Lib.join_length]
    have := lens_le (a :: l) h
    simp at this ⊢
    omega
theorem textS_len (c : Int) : (textS c).length ≤ 66 := by
  unfold textS
  have h1 := join_le _ (textL_lens c 11)
  have h2 := textL_len c 11
  simp at h1 h2
  omega

/-- A slice of strings that the call has made. -/
def MadeS (w : World) (B : Nat) (v : Value) (l : List ByteArray) : Prop := w.ownsRow B 9 1 v l.length (l.map Value.string)
theorem MadeS.below {w w1 : World} {B : Nat} {v : Value} {l : List ByteArray} (h : MadeS w B v l) (hb : Below w.heap.size w w1) : MadeS w1 B v l := by
  obtain ⟨h1, h2⟩ := h
  refine ⟨h1, ?_⟩
  rcases h2 with h2 | ⟨g, cap, cur, hv, hg, hh, r⟩
  · exact Or.inl h2
  · exact Or.inr ⟨g, cap, cur, hv, hg, by rw [hb.block g (Array.getElem?_eq_some_iff.1 hh).1]; exact hh, r⟩
theorem MadeS.snoc {w : World} {B : Nat} {v : Value} {l l' : List ByteArray} {x : ByteArray} (h : w.ownsRow B 9 1 v (l.length + 1) (l.map Value.string ++ [.string x])) (e : l' = l ++ [x]) : MadeS w B v l' := by
  subst e
  unfold MadeS
  rw [List.length_append, List.map_append]
  exact h

/-- strings.Join of a slice that the call has made. -/
theorem join_made (w : World) (B : Nat) (v : Value) (l : List ByteArray) (hM : MadeS w B v l) (hl : l.length ≤ 11) (hj : (Lib.join (l.map (·.data.toList)) [32]).length ≤ 66) :
    Calls Tryd.prog 32 #[v, .string ⟨#[32]⟩] w fun x w' => x = .returned (.string ⟨(Lib.join (l.map (·.data.toList)) [32]).toArray⟩) ∧ Below w.heap.size w w' := by
  have hM0 := hM
  obtain ⟨h1, h2⟩ := hM
  rcases h2 with ⟨rfl, h0⟩ | ⟨g, cap, cur, rfl, hg, hh, hn, hc, hs, ht⟩
  · obtain rfl := List.length_eq_zero_iff.1 h0
    exact (Tryd.strings_Join_none none 0 ⟨#[32]⟩ w).mono fun _ _ ⟨he, hw⟩ => ⟨he, hw ▸ Below.refl _ _⟩
  · refine (Tryd.strings_Join g 0 cap l ⟨#[32]⟩ w (fun j x hx => ?_) (Array.getElem?_eq_some_iff.1 hh).1 (by omega) hn (by show (Lib.join _ [32]).length ≤ _; omega)).mono fun _ _ h => h
    have hj' : j < l.length := (List.getElem?_eq_some_iff.1 hx).1
    have := World.ownsRow.cellAt hM0 j (by omega)
    rw [Nat.zero_add, this, List.getElem?_map, hx]
    rfl

set_option maxHeartbeats 800000 in
theorem text_any (c : Int) (w : World) (hg : Gl w) : Calls Tryd.prog 15 #[.int .u32 c] w fun x w' => x = .returned (.string ⟨(textS c).toArray⟩) ∧ Below w.heap.size w w' := by
  obtain ⟨g0, g1, g2, g3, g4, g5, g6, g7, g8, g9, g10⟩ := hg.at
  obtain ⟨i0, hi, hz0, hz1, hz2⟩ := info_parts info9
  have hT := Lib.hid (textS_len c)
  go_enter Tryd.func15, Tryd.ntmps15
  go_wp2_with fail
  go_loopw [3, 7] (fun v i wr => ∃ k : Nat, k ≤ 11 ∧ i = .int .i64 k ∧ MadeS wr w.heap.size v (textL c k) ∧ Below w.heap.size w wr) (fun _ i _ => 11 - (intOf i).toNat)
  case atStart => exact ⟨0, by omega, rfl, World.ownsRow_nil _ _ _ _, Below.refl _ _⟩
  case round =>
    obtain ⟨k, hk, rfl, hM, hB⟩ := hrel
    have hl := textL_len c k
    have hzw := hB.size
    by_cases hlt : k < 11
    · have hix := index_word k hlt
      unfold wordsV at hix
      by_cases hh : bitB c k = true
      · have ht : (bits BinOp.and IntKind.u32 (c / 2 ^ k) 1 == 1) = true := hh
        have HE := Lib.hid (show textL c (k + 1) = textL c k ++ [wordAt k] by rw [textL, if_pos hh])
        clear hh
        go_wp2_with (at_builtin; refine wpList_append_own _ rfl (.tmp 16) (.tmp 18) 55 rfl w.heap.size 9 i0 (.string ⟨#[]⟩) 1 16 Tryd.underlying55 hi hz0 hz1 hz2 rfl (by decide) _ _ _ rfl (World.ownsRow.alloc hM _) ⟨wr.heap.size, 0, none⟩ 1 1 [.string (wordAt k)] rfl rfl ?c1 ?c2 ?c3 ?c4 ?c5 ?_)
        case c1 =>
          intro j u hj
          match j, hj with
          | 0, hj => simp at hj; subst hj; simp [Addr.add]
        case c2 => intro u hu; simp at hu; subst hu; rfl
        case c3 => unfold maxLen; omega
        case c4 => omega
        case c5 => simp; omega
        intro v' w2 hown' hgrow _
        have hM2 : MadeS w2 w.heap.size v' (textL c (k + 1)) := MadeS.snoc hown' HE.out
        have hB2 : Below w.heap.size w w2 := Below.grown (hB.alloc hzw _) hgrow (by simp; omega) (fun r hr => (World.ownsRow.lt hM r hr).1)
        clear hown' hgrow hM hB
        go_wp2_with fail
        go_roundw
        case rel => exact ⟨k + 1, by omega, by go_num, hM2, hB2⟩
        case measure => simp [intOf]; omega
      · have ht : (bits BinOp.and IntKind.u32 (c / 2 ^ k) 1 == 1) = false := by
          have := hh
          unfold bitB at this
          simpa using this
        have HE : textL c (k + 1) = textL c k := by rw [textL, if_neg hh]
        rw [← HE] at hM
        clear hh HE
        go_wp2_with fail
        go_roundw
        case rel => exact ⟨k + 1, by omega, by go_num, hM, hB⟩
        case measure => simp [intOf]; omega
    · obtain rfl : k = 11 := by omega
      go_wp2_with fail
      refine (join_made _ _ _ _ hM hl hT.out).mono ?_
      rintro x w2 ⟨rfl, hb⟩
      have hB2 : Below w.heap.size w w2 := hB.trans (hb.mono hzw)
      go_wp2_with fail
      go_ret
      exact ⟨rfl, hB2⟩
end Go.Proofs.YthkipihakiopnaaDoor
