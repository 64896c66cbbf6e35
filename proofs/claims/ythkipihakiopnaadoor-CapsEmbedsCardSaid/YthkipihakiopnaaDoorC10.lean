/- The walk of the law CapsEmbeds: it returns true. -/
import Derived.Test.YthkipihakiopnaaDoorC9
import Derived.Test.YthkipihakiopnaaDoorC5
namespace Go.Proofs.YthkipihakiopnaaDoor
open Go.RowKit Plain

/-- The cells of a row of five bools. -/
def Has (w : World) (B : Nat) (f : Nat → Bool) : Prop := ∀ j, j < 5 → w.cell? ⟨B, j, none⟩ = some (.bool (f j)) ∧ w.frozen? ⟨B, j, none⟩ = false
theorem Has.below {w w1 : World} {B : Nat} {f : Nat → Bool} (h : Has w B f) (hB : B < w.heap.size) (hb : Below w.heap.size w w1) : Has w1 B f :=
  fun j hj => ⟨(hb.cell (p := ⟨B, j, none⟩) hB).trans (h j hj).1, (hb.frozen (p := ⟨B, j, none⟩) hB).trans (h j hj).2⟩
theorem Has.set {w : World} {B t : Nat} {f : Nat → Bool} (h : Has w B f) (ht : t < 5) (b : Bool) : Has (w.setCell ⟨B, t, none⟩ (.bool b)) B (fun j => if j = t then b else f j) := fun j hj => by
  refine ⟨?_, (World.frozen?_setCell _ _ _ _).trans (h j hj).2⟩
  show _ = some (Value.bool (if j = t then b else f j))
  by_cases e : j = t
  · subst e
    rw [if_pos rfl]
    exact World.cell?_setCell_same _ _ _ (h j hj).1
  · rw [if_neg e]
    exact (World.cell?_setCell_other _ _ _ _ (fun e' => e (congrArg Addr.off e').symm)).trans (h j hj).1
theorem Made.rowB {w : World} {B : Nat} {v : Value} {l : List Int} (h : Made w B v l) : ∃ a c, v = .slice a l.length c ∧ (0 < l.length → ∃ g, a = some ⟨g, 0, none⟩ ∧ B ≤ g ∧ g < w.heap.size ∧ l.length ≤ c ∧ c ≤ 9223372036854775807 ∧ ∀ j, j < l.length → w.cell? ⟨g, j, none⟩ = some (.int .i64 (l.getD j 0))) := by
  have h0 := h
  rcases h.2 with ⟨h1, h2⟩ | ⟨g, cap, cur, rfl, hg, hh, hn, hc, hs, ht⟩
  · exact ⟨none, 0, by rw [h1, h2], fun h3 => absurd h2 (by omega)⟩
  · refine ⟨_, _, rfl, fun _ => ⟨g, rfl, hg, (Array.getElem?_eq_some_iff.1 hh).1, hn, by unfold maxLen at hc; omega, fun j hj => ?_⟩⟩
    rw [World.ownsRow.cellAt h0 j (by omega), List.getElem?_map, List.getD_eq_getElem?_getD, List.getElem?_eq_getElem hj]
    rfl

theorem make5 : ∀ w, (Instr.makeSlice 29 (.int .i64 5) (.int .i64 5)).run Tryd.prog w = .ok (.slice (some ⟨w.heap.size, 0, none⟩) 5 5) (w.alloc (.cells #[.bool false, .bool false, .bool false, .bool false, .bool false] 4)) := fun _ => by kernel_rfl

theorem take_contains {L : List Int} {k t : Nat} (hk : k < L.length) (ht : L.getD k 0 = (t : Int)) (j : Nat) : (L.take (k + 1)).contains (j : Int) = if j = t then true else (L.take k).contains (j : Int) := by
  have hg : L[k] = (t : Int) := by rw [← ht, List.getD_eq_getElem?_getD, List.getElem?_eq_getElem hk]; rfl
  rw [List.take_succ_eq_append_getElem hk, hg, Bool.eq_iff_iff]
  by_cases e : j = t <;> simp [e]
  intro h; omega

theorem has_step {B k : Nat} {v : Value} {W w1 w2 : World} (hB : B + 1 ≤ W.heap.size) (h : w1.cell? ⟨B, k, none⟩ = some v ∧ Below W.heap.size W w1) (hb : Below w1.heap.size w1 w2) : w2.cell? ⟨B, k, none⟩ = some v ∧ Below W.heap.size W w2 :=
  ⟨(hb.cell (p := ⟨B, k, none⟩) (Nat.lt_of_lt_of_le hB h.2.size)).trans h.1, h.2.trans (hb.mono h.2.size)⟩

set_option maxHeartbeats 3200000 in
theorem law_embeds_core (c d : Int) (L M : List Int) (e : Nat → Bool) (w : World) (hg : Gl w)
    (hL : Hid (groupsL c 5 = L)) (hM : Hid (groupsL (bits .or .u32 c d) 5 = M))
    (hLb : Hid (∀ j, j < L.length → 0 ≤ L.getD j 0 ∧ L.getD j 0 < 5))
    (hMb : Hid (∀ j, j < M.length → 0 ≤ M.getD j 0 ∧ M.getD j 0 < 5))
    (hLe : Hid (∀ j : Nat, j < 5 → L.contains (j : Int) = e j)) (hMe : Hid (∀ j : Nat, j < 5 → e j = true → M.contains (j : Int) = true))
    (hpe : Hid (∀ j : Nat, j < 5 → (bits .and .u32 c (partsP j) == partsP j) = e j)) (he3 : Hid (e 3 = (e 1 && e 2))) (he4 : Hid (e 4 = (e 0 && e 3))) :
    Calls Tryd.prog 4 #[.int .u32 c, .int .u32 d] w fun x w' => x = .returned (.bool true) ∧ Below w.heap.size w w' := by
  have hs := hg.size
  have hmk := make5
  go_enter Tryd.func4, Tryd.ntmps4
  go_wp2_with fail
  refine (groups_any _ _).mono ?_
  rintro x w1 ⟨v1, rfl, hM1, hb1⟩
  obtain ⟨a1, c1, rfl, hr1⟩ := Made.rowB hM1
  rw [hL.out] at hr1 ⊢
  have hz1 := hb1.size
  simp at hz1
  have hb2 : Below w.heap.size w w1 := Below.trans (by go_grown) (hb1.mono (by go_size))
  have hh1 : Has w1 w.heap.size (fun _ => false) := fun j hj => by
    refine ⟨(hb1.cell (p := ⟨w.heap.size, j, none⟩) (by simp)).trans ?_, (hb1.frozen (p := ⟨w.heap.size, j, none⟩) (by simp)).trans ?_⟩ <;>
    (match j, hj with
    | 0, _ => go_cell
    | 1, _ => go_cell
    | 2, _ => go_cell
    | 3, _ => go_cell
    | 4, _ => go_cell)
  have hr2 : 0 < L.length → ∃ g, a1 = some ⟨g, 0, none⟩ ∧ w.heap.size + 1 ≤ g ∧ g < w1.heap.size ∧ L.length ≤ c1 ∧ c1 ≤ 9223372036854775807 ∧ ∀ j, j < L.length → w1.cell? ⟨g, j, none⟩ = some (.int .i64 (L.getD j 0)) := fun h => by simpa using hr1 h
  clear hr1 hb1 hM1 hmk
  generalize hBB : w.heap.size = B at *
  have H1 := Lib.hid hr2
  clear hr2
  go_wp2_with fail
  go_loopw [16] (fun i wr => ∃ (k : Nat) (f : Nat → Bool), k ≤ L.length ∧ i = .int .i64 k ∧ Below B w wr ∧ B + 1 ≤ wr.heap.size ∧ Has wr B f ∧ Hid (∀ j : Nat, f j = (L.take k).contains (j : Int)) ∧
      Hid (0 < L.length → ∃ g, a1 = some ⟨g, 0, none⟩ ∧ B + 1 ≤ g ∧ g < wr.heap.size ∧ L.length ≤ c1 ∧ c1 ≤ 9223372036854775807 ∧ ∀ j, j < L.length → wr.cell? ⟨g, j, none⟩ = some (.int .i64 (L.getD j 0)))) (fun i _ => L.length - (intOf i).toNat)
  case atStart => exact ⟨0, fun _ => false, by omega, rfl, hb2, hz1, hh1, fun j => by simp, H1⟩
  case round =>
    obtain ⟨k, f, hk, rfl, hb3, hz3, hh3, hf, H3⟩ := hrel
    clear H1 hh1 hz1 hb2
    by_cases hlt : k < L.length
    · obtain ⟨g, rfl, hg1, hg2, hc1, hc2, hX⟩ := H3.out (by omega)
      have e1 : wr.cell? ⟨g, k, none⟩ = some (.int .i64 (L.getD k 0)) := hX k hlt
      obtain ⟨hq0, hq1⟩ := hLb.out k hlt
      have HX := Lib.hid hX
      clear hX H3
      obtain ⟨t, hQ⟩ := Int.eq_ofNat_of_zero_le hq0
      have HQ := Lib.hid hQ
      rw [hQ] at e1 hq1
      clear hq0 hQ
      obtain ⟨hcq, hfq⟩ := hh3 t (by omega)
      have e2 : decide ((t : Int) < 0) = false := by simp; done
      have e3 : decide ((5 : Int) ≤ (t : Int)) = false := by simp; omega
      have hqt : t < 5 := by omega
      go_wp2_with fail
      go_roundw
      case rel => 
        refine ⟨k + 1, fun j => if j = t then true else f j, by omega, by go_num, hb3.setCell (p := ⟨B, t, none⟩) (Nat.le_refl _) _, by simpa using hz3, hh3.set hqt true, fun j => ?_, fun _ => ⟨g, rfl, hg1, by simpa using hg2, hc1, hc2, fun j hj => ?_⟩⟩
        · show (if j = t then true else f j) = _
          rw [take_contains hlt HQ.out, hf.out]
        · exact (World.cell?_setCell_other _ _ _ _ (fun e' => absurd (congrArg Addr.block e') (by simp; omega))).trans (HX.out j hj)
      case measure => simp [intOf]; omega
    · obtain rfl : k = L.length := by omega
      have hfe : ∀ j : Nat, j < 5 → f j = e j := fun j hj => by rw [hf.out, List.take_length, hLe.out j hj]
      have hh4 : Has wr B e := fun j hj => by rw [← hfe j hj]; exact hh3 j hj
      clear H3 hf hfe hh3 hlt hk hL hLb hLe
      obtain ⟨ws, hws⟩ : ∃ ws, ws = wr := ⟨_, rfl⟩
      subst hws
      go_wp2_with fail
      go_loopw [32] (fun i wr => ∃ (k : Nat), k ≤ 5 ∧ i = .int .i64 k ∧ Below ws.heap.size ws wr) (fun i _ => 5 - (intOf i).toNat)
      case atStart => exact ⟨0, by omega, rfl, Below.refl _ _⟩
      case round =>
        obtain ⟨k, hk, rfl, hb4⟩ := hrel
        by_cases hlt : k < 5
        · have hcq : wr.cell? ⟨B, k, none⟩ = some (.bool (e k)) := (hh4.below hz3 hb4 k hlt).1
          have hpk := hpe.out k hlt
          generalize e k = b at hcq hpk
          have hzs : B + 1 ≤ wr.heap.size := Nat.le_trans hz3 hb4.size
          have hbb : (b != b) = false := by cases b <;> rfl
          go_wp2_with fail
          go_region_held3 (fun w' => w'.cell? ⟨B, k, none⟩ = some (.bool b) ∧ Below wr.heap.size wr w')
            (first | (exact ⟨hcq, by go_grown⟩) | (exact has_step hzs (by assumption) (by assumption)) | fail)
            (try (go_at_call 10; refine (parts_any _ _).mono ?_; rintro x w1 ⟨rfl, hb⟩))
          have hq := (by assumption : _ ∧ Below wr.heap.size wr _).2
          go_wp2_with fail
          go_roundw
          case rel => exact ⟨k + 1, by omega, by go_num, hb4.trans (hq.mono hb4.size)⟩
          case measure => simp [intOf]; omega
        · obtain rfl : k = 5 := by omega
          have hzs : B + 1 ≤ wr.heap.size := Nat.le_trans hz3 hb4.size
          have hB5 : Below B w wr := hb3.trans (hb4.mono (Nat.le_of_lt hz3))
          have hh5 : Has wr B e := hh4.below hz3 hb4
          obtain ⟨q0, f0⟩ := hh5 0 (by omega)
          obtain ⟨q1, f1⟩ := hh5 1 (by omega)
          obtain ⟨q2, f2⟩ := hh5 2 (by omega)
          obtain ⟨q3, f3⟩ := hh5 3 (by omega)
          obtain ⟨q4, f4⟩ := hh5 4 (by omega)
          have hE3 := he3.out
          have hE4 := he4.out
          clear hb3 hb4 hz3 hh4 hpe hlt hk he3 he4
          generalize e 0 = b0 at q0 hE4
          generalize e 1 = b1 at q1 hE3
          generalize e 2 = b2 at q2 hE3
          generalize e 3 = b3 at q3 hE3 hE4
          generalize e 4 = b4 at q4 hE4
          subst hE3 hE4
          go_upto_region 15 with fail
          go_cut [73] (fun v wx => v = .bool false ∧ ∃ nq, wx = wr.drewN nq)
          case first =>
            cases b0 <;> cases b1 <;> cases b2
            all_goals go_quiet (fail)
            all_goals (rename_i hKK; refine hKK _ _ ?_; go_meet; exact ⟨rfl, _, rfl⟩)
          case rest =>
            obtain ⟨rfl, nq, rfl⟩ := hcut
            obtain ⟨wy, hwy⟩ : ∃ wy, wy = wr.drewN nq := ⟨_, rfl⟩
            have hh6 : Has wy B e := by rw [hwy]; exact fun j hj => hh5 j hj
            have hB6 : Below B w wy := by rw [hwy]; exact hB5.trans ⟨rfl, rfl, rfl, Nat.le_refl _, fun _ _ => rfl⟩
            have hz6 : B + 1 ≤ wy.heap.size := by rw [hwy]; exact hzs
            rw [← hwy]
            clear hwy hh5 hB5 hzs q0 q1 q2 q3 q4 f0 f1 f2 f3 f4
            go_wp2_with fail
            refine (groups_any _ _).mono ?_
            rintro x w5 ⟨v5, rfl, hM5, hb5⟩
            obtain ⟨a2, c2, rfl, hr5⟩ := Made.rowB hM5
            rw [hM.out] at hr5 ⊢
            have hz7 : B + 1 ≤ w5.heap.size := Nat.le_trans hz6 hb5.size
            have hB7 : Below B w w5 := hB6.trans (hb5.mono (Nat.le_of_lt hz6))
            have hh7 : Has w5 B e := hh6.below hz6 hb5
            have hr6 : 0 < M.length → ∃ g, a2 = some ⟨g, 0, none⟩ ∧ B + 1 ≤ g ∧ g < w5.heap.size ∧ M.length ≤ c2 ∧ c2 ≤ 9223372036854775807 ∧ ∀ j, j < M.length → w5.cell? ⟨g, j, none⟩ = some (.int .i64 (M.getD j 0)) := fun h => by
              obtain ⟨g, r1, r2, r3⟩ := hr5 h
              exact ⟨g, r1, by omega, r3⟩
            have H1 := Lib.hid hr6
            clear hr5 hr6 hM5 hb5 hh6 hB6 hz6 hM
            go_wp2_with fail
            go_loopw [79] (fun i wr => ∃ (k : Nat) (f : Nat → Bool), k ≤ M.length ∧ i = .int .i64 k ∧ Below B w wr ∧ B + 1 ≤ wr.heap.size ∧ Has wr B f ∧ Hid (∀ j : Nat, f j = if (M.take k).contains (j : Int) = true then false else e j) ∧
                Hid (0 < M.length → ∃ g, a2 = some ⟨g, 0, none⟩ ∧ B + 1 ≤ g ∧ g < wr.heap.size ∧ M.length ≤ c2 ∧ c2 ≤ 9223372036854775807 ∧ ∀ j, j < M.length → wr.cell? ⟨g, j, none⟩ = some (.int .i64 (M.getD j 0)))) (fun i _ => M.length - (intOf i).toNat)
            case atStart => exact ⟨0, e, by omega, rfl, hB7, hz7, hh7, fun j => by simp, H1⟩
            case round =>
              obtain ⟨k, f, hk, rfl, hb3, hz3, hh3, hf, H3⟩ := hrel
              clear H1 hh7 hz7 hB7
              by_cases hlt : k < M.length
              · obtain ⟨g, rfl, hg1, hg2, hc1, hc2, hX⟩ := H3.out (by omega)
                have e1 : wr.cell? ⟨g, k, none⟩ = some (.int .i64 (M.getD k 0)) := hX k hlt
                obtain ⟨hq0, hq1⟩ := hMb.out k hlt
                have HX := Lib.hid hX
                clear hX H3
                obtain ⟨t, hQ⟩ := Int.eq_ofNat_of_zero_le hq0
                have HQ := Lib.hid hQ
                rw [hQ] at e1 hq1
                clear hq0 hQ
                obtain ⟨hcq, hfq⟩ := hh3 t (by omega)
                have hqt : t < 5 := by omega
                go_wp2_with fail
                go_roundw
                case rel =>
                  refine ⟨k + 1, fun j => if j = t then false else f j, by omega, by go_num, hb3.setCell (p := ⟨B, t, none⟩) (Nat.le_refl _) _, by simpa using hz3, hh3.set hqt false, fun j => ?_, fun _ => ⟨g, rfl, hg1, by simpa using hg2, hc1, hc2, fun j hj => ?_⟩⟩
                  · show (if j = t then false else f j) = _
                    rw [take_contains hlt HQ.out, hf.out]
                    by_cases h : j = t <;> simp [h]
                  · exact (World.cell?_setCell_other _ _ _ _ (fun e' => absurd (congrArg Addr.block e') (by simp; omega))).trans (HX.out j hj)
                case measure => simp [intOf]; omega
              · obtain rfl : k = M.length := by omega
                have hfe : ∀ j : Nat, j < 5 → f j = false := fun j hj => by
                  rw [hf.out, List.take_length]
                  by_cases h : e j = true
                  · rw [if_pos (hMe.out j hj h)]
                  · split
                    · rfl
                    · simpa using h
                have hh4 : Has wr B (fun _ => false) := fun j hj => by have h := hh3 j hj; rw [hfe j hj] at h; exact h
                clear H3 hf hfe hh3 hlt hk hMb hMe
                obtain ⟨ws, hws⟩ : ∃ ws, ws = wr := ⟨_, rfl⟩
                subst hws
                go_wp2_with fail
                go_loopw [89] (fun i wr => ∃ (k : Nat), k ≤ 5 ∧ i = .int .i64 k ∧ Below ws.heap.size ws wr) (fun i _ => 5 - (intOf i).toNat)
                case atStart => exact ⟨0, by omega, rfl, Below.refl _ _⟩
                case round =>
                  obtain ⟨k, hk, rfl, hb4⟩ := hrel
                  by_cases hlt : k < 5
                  · have hcq : wr.cell? ⟨B, k, none⟩ = some (.bool false) := (hh4.below hz3 hb4 k hlt).1
                    go_wp2_with fail
                    go_roundw
                    case rel => exact ⟨k + 1, by omega, by go_num, by first | exact hb4 | exact hb4.trans ⟨rfl, rfl, rfl, Nat.le_refl _, fun _ _ => rfl⟩⟩
                    case measure => simp [intOf]; omega
                  · obtain rfl : k = 5 := by omega
                    have hB9 : Below B w wr := hb3.trans (hb4.mono (Nat.le_of_lt hz3))
                    have hgr := hg.below hB9 hs
                    clear hh4 hb4 hb3
                    go_wp2_with fail
                    refine (awake_any _ hgr).mono ?_
                    rintro x w9 ⟨rfl, hb9⟩
                    have hB10 : Below B w w9 := hB9.trans (hb9.mono (by have := hB9.size; omega))
                    rw [← hBB] at hB10
                    go_wp2_with fail
                    go_ret
                    exact ⟨rfl, hB10⟩

theorem groupsL_contains (c : Int) (j : Nat) : ∀ k, (groupsL c k).contains (j : Int) = (decide (j < k) && hasB c j)
  | 0 => by simp [groupsL]
  | k + 1 => by
    unfold groupsL
    have ih := groupsL_contains c j k
    by_cases h : hasB c k = true
    · rw [if_pos h, List.contains_eq_any_beq, List.any_append, ← List.contains_eq_any_beq, ih]
      by_cases e : j = k
      · subst e; simp [h]
      · have : ¬ ((j : Int) = (k : Int)) := by omega
        have e2 : decide (j < k + 1) = decide (j < k) := by rw [Bool.eq_iff_iff, decide_eq_true_iff, decide_eq_true_iff]; omega
        simp [e2]
        intro h; exact absurd h (by omega)
    · rw [if_neg h, ih]
      by_cases e : j = k
      · subst e
        have : hasB c j = false := by simpa using h
        simp [this]
      · have e2 : decide (j < k + 1) = decide (j < k) := by rw [Bool.eq_iff_iff, decide_eq_true_iff, decide_eq_true_iff]; omega
        rw [e2]
theorem groupsL_mem (c : Int) : ∀ k x, x ∈ groupsL c k → 0 ≤ x ∧ x < (k : Int)
  | 0, x, h => by simp [groupsL] at h
  | k + 1, x, h => by
    unfold groupsL at h
    split at h
    · rcases List.mem_append.1 h with h | h
      · have := groupsL_mem c k x h; omega
      · simp at h; omega
    · have := groupsL_mem c k x h; omega
theorem groupsL_getD (c : Int) (j : Nat) (h : j < (groupsL c 5).length) : 0 ≤ (groupsL c 5).getD j 0 ∧ (groupsL c 5).getD j 0 < 5 := by
  rw [List.getD_eq_getElem?_getD, List.getElem?_eq_getElem h]
  exact groupsL_mem c 5 _ (List.getElem_mem h)
theorem and_eq_sub {n p : Nat} : n &&& p = p ↔ sub p n := by
  constructor
  · intro h j hj
    have h2 := congrArg (fun x => x.testBit j) h
    simp only [Nat.testBit_and] at h2
    rw [hj] at h2
    simpa using h2
  · intro h
    apply Nat.eq_of_testBit_eq
    intro j
    rw [Nat.testBit_and, Bool.eq_iff_iff, Bool.and_eq_true]
    exact ⟨fun x => x.2, fun x => ⟨h j x, x⟩⟩
theorem sub_or {a b n : Nat} : sub (a ||| b) n ↔ sub a n ∧ sub b n := by
  unfold sub
  simp only [Nat.testBit_or, Bool.or_eq_true]
  exact ⟨fun h => ⟨fun j hj => h j (Or.inl hj), fun j hj => h j (Or.inr hj)⟩, fun h j hj => hj.elim (h.1 j) (h.2 j)⟩
def partsN (g : Nat) : Nat := if g = 0 then 3 else if g = 1 then 192 else if g = 2 then 48 else if g = 3 then 240 else if g = 4 then 243 else 0
theorem partsN_eq : ∀ j : Nat, j < 5 → partsP (j : Int) = (partsN j : Int)
  | 0, _ => rfl
  | 1, _ => rfl
  | 2, _ => rfl
  | 3, _ => rfl
  | 4, _ => rfl
  | n + 5, h => absurd h (by omega)
theorem partsN_lt (j : Nat) : partsN j < 4294967296 := by unfold partsN; (repeat' split) <;> omega
theorem hasB_iff (n j : Nat) (hn : n < 4294967296) (hj : j < 5) : hasB (n : Int) j = true ↔ sub (partsN j) n := by
  unfold hasB
  rw [partsN_eq j hj, u32_and_nat n (partsN j) hn (partsN_lt j), cast_beq, beq_iff_eq]
  exact and_eq_sub

theorem law_embeds (c d : Int) (w : World) (hc0 : 0 ≤ c) (hc1 : c < 4294967296) (hd0 : 0 ≤ d) (hd1 : d < 4294967296) (hg : Gl w) : Calls Tryd.prog 4 #[.int .u32 c, .int .u32 d] w fun x w' => x = .returned (.bool true) ∧ Below w.heap.size w w' := by
  obtain ⟨n, rfl⟩ := Int.eq_ofNat_of_zero_le hc0
  obtain ⟨k, rfl⟩ := Int.eq_ofNat_of_zero_le hd0
  have hn : n < 4294967296 := by omega
  have hk : k < 4294967296 := by omega
  have ho : n ||| k < 4294967296 := Nat.or_lt_two_pow (n := 32) hn hk
  have eo : bits .or .u32 (n : Int) (k : Int) = ((n ||| k : Nat) : Int) := u32_or_nat n k hn hk
  refine law_embeds_core n k _ _ (hasB (n : Int)) w hg rfl rfl (groupsL_getD _) (groupsL_getD _) ?_ ?_ (fun _ _ => rfl) ?_ ?_
  · intro j hj
    rw [groupsL_contains]
    simp [hj]
  · intro j hj he
    rw [groupsL_contains, eo]
    have h1 := (hasB_iff n j hn hj).1 he
    have h2 : hasB ((n ||| k : Nat) : Int) j = true := (hasB_iff _ j ho hj).2 (fun i hi => by rw [Nat.testBit_or, h1 i hi]; rfl)
    simp [hj, h2]
  · show hasB (n : Int) 3 = (hasB (n : Int) 1 && hasB (n : Int) 2)
    rw [Bool.eq_iff_iff, Bool.and_eq_true, hasB_iff n 3 hn (by omega), hasB_iff n 1 hn (by omega), hasB_iff n 2 hn (by omega)]
    exact sub_or (a := 192) (b := 48)
  · show hasB (n : Int) 4 = (hasB (n : Int) 0 && hasB (n : Int) 3)
    rw [Bool.eq_iff_iff, Bool.and_eq_true, hasB_iff n 4 hn (by omega), hasB_iff n 0 hn (by omega), hasB_iff n 3 hn (by omega)]
    exact sub_or (a := 3) (b := 240)
end Go.Proofs.YthkipihakiopnaaDoor
