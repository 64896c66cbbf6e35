/- Contracts of the reference's Parts; what the groups of a set are. -/
import Derived.Test.YthkipihakiopnaaDoorC1
namespace Go.Proofs.YthkipihakiopnaaDoor
open Go.RowKit

set_option maxHeartbeats 400000 in
theorem rbits_01 (b : Nat) (w : World) (c0 : w.cell? ⟨b, 0, none⟩ = some (.int .i64 0)) (c1 : w.cell? ⟨b, 1, none⟩ = some (.int .i64 1)) :
    Calls Tryd.prog 30 #[.slice (some ⟨b, 0, none⟩) 2 2] w fun e w' => e = .returned (.int .u32 3) ∧ Below w.heap.size w w' := by
  go_enter Tryd.func30, Tryd.ntmps30
  go_wp2
  refine wp_loop_rounds 3 ?_
  repeat any_goals (rw [rounds_succ]; go_wp2)
  go_ret
  exact ⟨(show Ending.returned (.int .u32 (bits .or .u32 (bits .or .u32 0 1) 2)) = _ from by rw [(by decide +kernel : bits .or .u32 (bits .or .u32 0 1) 2 = 3)]), by go_grown⟩

set_option maxHeartbeats 400000 in
theorem rbits_67 (b : Nat) (w : World) (c0 : w.cell? ⟨b, 0, none⟩ = some (.int .i64 6)) (c1 : w.cell? ⟨b, 1, none⟩ = some (.int .i64 7)) :
    Calls Tryd.prog 30 #[.slice (some ⟨b, 0, none⟩) 2 2] w fun e w' => e = .returned (.int .u32 192) ∧ Below w.heap.size w w' := by
  go_enter Tryd.func30, Tryd.ntmps30
  go_wp2
  refine wp_loop_rounds 3 ?_
  repeat any_goals (rw [rounds_succ]; go_wp2)
  go_ret
  exact ⟨(show Ending.returned (.int .u32 (bits .or .u32 (bits .or .u32 0 64) 128)) = _ from by rw [(by decide +kernel : bits .or .u32 (bits .or .u32 0 64) 128 = 192)]), by go_grown⟩

set_option maxHeartbeats 400000 in
theorem rbits_45 (b : Nat) (w : World) (c0 : w.cell? ⟨b, 0, none⟩ = some (.int .i64 4)) (c1 : w.cell? ⟨b, 1, none⟩ = some (.int .i64 5)) :
    Calls Tryd.prog 30 #[.slice (some ⟨b, 0, none⟩) 2 2] w fun e w' => e = .returned (.int .u32 48) ∧ Below w.heap.size w w' := by
  go_enter Tryd.func30, Tryd.ntmps30
  go_wp2
  refine wp_loop_rounds 3 ?_
  repeat any_goals (rw [rounds_succ]; go_wp2)
  go_ret
  exact ⟨(show Ending.returned (.int .u32 (bits .or .u32 (bits .or .u32 0 16) 32)) = _ from by rw [(by decide +kernel : bits .or .u32 (bits .or .u32 0 16) 32 = 48)]), by go_grown⟩

set_option maxHeartbeats 400000 in
theorem rparts_0 (w : World) : Calls Tryd.prog 11 #[.int .i64 0] w fun x w' => x = .returned (.int .u32 3) ∧ Below w.heap.size w w' := by
  go_enter Tryd.func11, Tryd.ntmps11
  go_wp2_with fail
  refine (rbits_01 _ _ (by go_cell) (by go_cell)).mono ?_
  rintro x w1 ⟨rfl, hb⟩
  have hB : Below w.heap.size w w1 := Below.trans (by go_grown) (hb.mono (by go_size))
  go_wp2
  go_ret
  exact ⟨rfl, hB⟩

set_option maxHeartbeats 400000 in
theorem rparts_1 (w : World) : Calls Tryd.prog 11 #[.int .i64 1] w fun x w' => x = .returned (.int .u32 192) ∧ Below w.heap.size w w' := by
  go_enter Tryd.func11, Tryd.ntmps11
  go_wp2_with fail
  refine (rbits_67 _ _ (by go_cell) (by go_cell)).mono ?_
  rintro x w1 ⟨rfl, hb⟩
  have hB : Below w.heap.size w w1 := Below.trans (by go_grown) (hb.mono (by go_size))
  go_wp2
  go_ret
  exact ⟨rfl, hB⟩

set_option maxHeartbeats 400000 in
theorem rparts_2 (w : World) : Calls Tryd.prog 11 #[.int .i64 2] w fun x w' => x = .returned (.int .u32 48) ∧ Below w.heap.size w w' := by
  go_enter Tryd.func11, Tryd.ntmps11
  go_wp2_with fail
  refine (rbits_45 _ _ (by go_cell) (by go_cell)).mono ?_
  rintro x w1 ⟨rfl, hb⟩
  have hB : Below w.heap.size w w1 := Below.trans (by go_grown) (hb.mono (by go_size))
  go_wp2
  go_ret
  exact ⟨rfl, hB⟩

set_option maxHeartbeats 400000 in
theorem rparts_3 (w : World) : Calls Tryd.prog 11 #[.int .i64 3] w fun x w' => x = .returned (.int .u32 240) ∧ Below w.heap.size w w' := by
  go_enter Tryd.func11, Tryd.ntmps11
  go_wp2_with fail
  refine (rparts_1 _).mono ?_
  rintro x w1 ⟨rfl, hb⟩
  go_wp2_with fail
  refine (rparts_2 _).mono ?_
  rintro x w2 ⟨rfl, hb2⟩
  have hB : Below w.heap.size w w2 := hb.trans (hb2.mono hb.size)
  go_wp2_with fail
  go_ret
  exact ⟨(show Ending.returned (.int .u32 (bits .or .u32 192 48)) = _ from by rw [(by decide +kernel : bits .or .u32 192 48 = 240)]), hB⟩

set_option maxHeartbeats 400000 in
theorem rparts_4 (w : World) : Calls Tryd.prog 11 #[.int .i64 4] w fun x w' => x = .returned (.int .u32 243) ∧ Below w.heap.size w w' := by
  go_enter Tryd.func11, Tryd.ntmps11
  go_wp2_with fail
  refine (rparts_0 _).mono ?_
  rintro x w1 ⟨rfl, hb⟩
  go_wp2_with fail
  refine (rparts_3 _).mono ?_
  rintro x w2 ⟨rfl, hb2⟩
  have hB : Below w.heap.size w w2 := hb.trans (hb2.mono hb.size)
  go_wp2_with fail
  go_ret
  exact ⟨(show Ending.returned (.int .u32 (bits .or .u32 3 240)) = _ from by rw [(by decide +kernel : bits .or .u32 3 240 = 243)]), hB⟩

theorem rparts_else (g : Int) (w : World) (h0 : (g == 0) = false) (h1 : (g == 1) = false) (h2 : (g == 2) = false) (h3 : (g == 3) = false) (h4 : (g == 4) = false) : Calls Tryd.prog 11 #[.int .i64 g] w fun x w' => x = .returned (.int .u32 0) ∧ Below w.heap.size w w' := by
  go_enter Tryd.func11, Tryd.ntmps11
  go_wp2_with fail
  go_ret
  exact ⟨rfl, by go_grown⟩

theorem rparts_any (g : Int) (w : World) : Calls Tryd.prog 11 #[.int .i64 g] w fun x w' => x = .returned (.int .u32 (partsP g)) ∧ Below w.heap.size w w' := by
  unfold partsP
  by_cases h0 : g = 0
  · subst h0; exact rparts_0 w
  · by_cases h1 : g = 1
    · subst h1; exact rparts_1 w
    · by_cases h2 : g = 2
      · subst h2; exact rparts_2 w
      · by_cases h3 : g = 3
        · subst h3; exact rparts_3 w
        · by_cases h4 : g = 4
          · subst h4; exact rparts_4 w
          · rw [if_neg h0, if_neg h1, if_neg h2, if_neg h3, if_neg h4]
            exact rparts_else g w (by simp [h0]) (by simp [h1]) (by simp [h2]) (by simp [h3]) (by simp [h4])

/-- The groups that a set has, of the first k. -/
def hasB (c : Int) (g : Nat) : Bool := bits .and .u32 c (partsP g) == partsP g
def groupsL (c : Int) : Nat → List Int
  | 0 => []
  | k + 1 => if hasB c k = true then groupsL c k ++ [(k : Int)] else groupsL c k
theorem groupsL_len (c : Int) : ∀ k, (groupsL c k).length ≤ k
  | 0 => Nat.le_refl _
  | k + 1 => by
    have := groupsL_len c k
    unfold groupsL
    split <;> simp <;> omega

theorem info3 : (Tryd.prog.info? 3).map (fun i => (i.zero, i.size, i.bytes)) = some (some (.int .i64 0), 1, 8) := by kernel_rfl

/-- A slice of ints that the call has made: it owns its cells from block B on. -/
def Made (w : World) (B : Nat) (v : Value) (l : List Int) : Prop := w.ownsRow B 3 1 v l.length (l.map (Value.int .i64))

theorem Made.below {w w1 : World} {B : Nat} {v : Value} {l : List Int} (h : Made w B v l) (hb : Below w.heap.size w w1) : Made w1 B v l := by
  obtain ⟨h1, h2⟩ := h
  refine ⟨h1, ?_⟩
  rcases h2 with h2 | ⟨g, cap, cur, hv, hg, hh, r⟩
  · exact Or.inl h2
  · exact Or.inr ⟨g, cap, cur, hv, hg, by rw [hb.block g (Array.getElem?_eq_some_iff.1 hh).1]; exact hh, r⟩
theorem Made.snoc {w : World} {B : Nat} {v : Value} {l l' : List Int} {x : Int} (h : w.ownsRow B 3 1 v (l.length + 1) (l.map (Value.int .i64) ++ [.int .i64 x])) (e : l' = l ++ [x]) : Made w B v l' := by
  subst e
  unfold Made
  rw [List.length_append, List.map_append]
  exact h

set_option maxHeartbeats 800000 in
theorem groups_any (c : Int) (w : World) : Calls Tryd.prog 8 #[.int .u32 c] w fun x w' => ∃ v, x = .returned v ∧ Made w' w.heap.size v (groupsL c 5) ∧ Below w.heap.size w w' := by
  obtain ⟨i0, hi, hz0, hz1, hz2⟩ := info_parts info3
  go_enter Tryd.func8, Tryd.ntmps8
  go_wp2_with fail
  go_loopw [3, 6] (fun v i wr => ∃ k : Nat, k ≤ 5 ∧ i = .int .i64 k ∧ Made wr w.heap.size v (groupsL c k) ∧ Below w.heap.size w wr) (fun _ i _ => 5 - (intOf i).toNat)
  case atStart => exact ⟨0, by omega, rfl, World.ownsRow_nil _ _ _ _, Below.refl _ _⟩
  case round =>
    obtain ⟨k, hk, rfl, hown, hB⟩ := hrel
    by_cases hlt : k < 5
    · go_wp2_with fail
      refine (parts_any _ _).mono ?_
      rintro x w1 ⟨rfl, hb⟩
      have hB1 : Below w.heap.size w w1 := hB.trans (hb.mono hB.size)
      have hM1 := Made.below hown hb
      have hl := groupsL_len c k
      have hz1' := hb.size
      have hzw := hB1.size
      clear hown hb hB
      by_cases hh : hasB c k = true
      · have ht : (bits BinOp.and IntKind.u32 c (partsP ↑k) == partsP ↑k) = true := hh
        have HE := Lib.hid (show groupsL c (k + 1) = groupsL c k ++ [(k : Int)] by rw [groupsL, if_pos hh])
        clear hh
        go_wp2_with (at_builtin; refine wpList_append_own _ rfl (.tmp 16) (.tmp 18) 24 rfl w.heap.size 3 i0 (.int .i64 0) 1 8 Tryd.underlying24 hi hz0 hz1 hz2 rfl (by decide) _ _ _ rfl (World.ownsRow.alloc hM1 _) ⟨w1.heap.size, 0, none⟩ 1 1 [.int .i64 k] rfl rfl ?c1 ?c2 ?c3 ?c4 ?c5 ?_)
        case c1 =>
          intro j u hj
          match j, hj with
          | 0, hj => simp at hj; subst hj; simp [Addr.add]
        case c2 => intro u hu; simp at hu; subst hu; rfl
        case c3 => unfold maxLen; omega
        case c4 => omega
        case c5 => simp; omega
        intro v' w2 hown' hgrow _
        have hM2 : Made w2 w.heap.size v' (groupsL c (k + 1)) := Made.snoc hown' HE.out
        have hB2 : Below w.heap.size w w2 := Below.grown (hB1.alloc hzw _) hgrow (by simp; omega) (fun r hr => (World.ownsRow.lt hM1 r hr).1)
        clear hown' hgrow hM1 hB1
        go_wp2_with fail
        go_roundw
        case rel => exact ⟨k + 1, by omega, by go_num, hM2, hB2⟩
        case measure => simp [intOf]; omega
      · have ht : (bits BinOp.and IntKind.u32 c (partsP ↑k) == partsP ↑k) = false := by
          have := hh
          unfold hasB at this
          simpa using this
        have HE : groupsL c (k + 1) = groupsL c k := by rw [groupsL, if_neg hh]
        rw [← HE] at hM1
        clear hh HE
        go_wp2_with fail
        go_roundw
        case rel => exact ⟨k + 1, by omega, by go_num, hM1, hB1⟩
        case measure => simp [intOf]; omega
    · obtain rfl : k = 5 := by omega
      go_wp2_with fail
      go_ret
      exact ⟨_, rfl, hown, hB⟩
end Go.Proofs.YthkipihakiopnaaDoor
