/- Contract of the reference's count, exact: how many parts and how deep where these are few, else one more than there may be. -/
import Derived.Test.YtecdniimikfbhaaGreatDoorV2
namespace Go.Proofs.YtecdniimikfbhaaGreatDoor
open Go Go.RowKit Go.ChangeShapes Go.WideShapes

theorem D.tall_pos (d : D) : 1 ≤ d.tall := by
  cases d; simp only [D.tall]; omega
theorem D.tall_mem {l : List D} {j : Nat} {x : D} (hx : l[j]? = some x) : D.tall x ≤ D.tallL l := by
  induction l generalizing j with
  | nil => simp at hx
  | cons y l ih =>
    cases j with
    | zero => simp at hx; subst hx; simp only [D.tallL]; omega
    | succ j => simp only [List.getElem?_cons_succ] at hx; have := ih hx; simp only [D.tallL]; omega
/-- Few parts, and not deep. -/
def CountFits (deep left : Int) (d : D) : Prop := (d.parts : Int) ≤ left ∧ deep + (d.tall : Int) ≤ 17
/-- What stands behind a call of count. -/
def CountX (deep left : Int) (d : D) (w : World) (x : Ending) (w' : World) : Prop :=
  ∃ n m : Int, x = .returned (.tuple #[.int .i64 n, .int .i64 m]) ∧ ((d.parts : Int) ≤ left ∧ deep + (d.tall : Int) ≤ 17 → n = d.parts ∧ m = deep + d.tall - 1) ∧ (¬ ((d.parts : Int) ≤ left ∧ deep + (d.tall : Int) ≤ 17) → n = 4097) ∧ Below w.heap.size w w'
theorem CountX.no {deep left : Int} {d : D} {w : World} {x : Ending} {w' : World} (m : Int) (hx : x = .returned (.tuple #[.int .i64 4097, .int .i64 m])) (h : ¬ CountFits deep left d) (hb : Below w.heap.size w w') : CountX deep left d w x w' := ⟨4097, m, hx, fun hf => absurd hf h, fun _ => rfl, hb⟩
theorem CountX.yes {deep left : Int} {d : D} {w : World} {x : Ending} {w' : World} (n m : Int) (hx : x = .returned (.tuple #[.int .i64 n, .int .i64 m])) (hn : n = d.parts) (hm : m = deep + d.tall - 1) (h : CountFits deep left d) (hb : Below w.heap.size w w') : CountX deep left d w x w' := ⟨n, m, hx, fun _ => ⟨hn, hm⟩, fun hf => absurd h hf, hb⟩
theorem countL_fails {deep left : Int} {k m b : Int} {t : ByteArray} {kids : List D} {j : Nat} {x : D} (hx : kids[j]? = some x) (h : ¬ (1 + (D.partsL (kids.take j) : Int) + x.parts ≤ left ∧ deep + 1 + (x.tall : Int) ≤ 17)) : ¬ CountFits deep left (.mk k m b t kids) := fun hf => by
  obtain ⟨h1, h2⟩ := hf
  apply h
  have h3 : D.partsL (kids.take (j + 1)) ≤ D.partsL kids := by
    have := D.partsL_append (kids.take (j + 1)) (kids.drop (j + 1))
    rw [List.take_append_drop] at this
    omega
  rw [D.partsL_take hx] at h3
  have h4 := D.tall_mem hx
  simp only [D.parts, D.tall] at h1 h2
  omega

set_option maxHeartbeats 1600000 in
theorem countx_any {w0 : World} {v : Value} {d : D} (h : Rep w0 v d) : ∀ (deep left : Int) (w : World), Below w0.heap.size w0 w → 0 ≤ deep → deep ≤ 17 → -9000 ≤ left → left ≤ 4096 →
    Calls Tryz.prog 14 #[v, .int .i64 deep, .int .i64 left] w fun x w' => CountX deep left d w x w' := by
  induction h with
  | mk k m b t a cap g o c kids hw ha hc hk ih =>
    intro deep left w hb hd0 hd1 hl0 hl1
    by_cases h1 : 16 < deep
    · exact (count_early _ deep left w (Or.inl (by simpa using h1)) ⟨_, _, _, _, _, rfl⟩).mono fun x w' ⟨hx, hb'⟩ => CountX.no deep hx (fun h => by have := D.tall_pos (.mk k m b t kids); have := h.2; omega) hb'
    by_cases h2 : left ≤ 0
    · exact (count_early _ deep left w (Or.inr ⟨by simpa using h1, by simpa using h2⟩) ⟨_, _, _, _, _, rfl⟩).mono fun x w' ⟨hx, hb'⟩ => CountX.no deep hx (fun h => by have := D.parts_pos (.mk k m b t kids); have := h.1; omega) hb'
    have e1 : decide (16 < deep) = false := by simpa using h1
    have e2 : decide (left ≤ 0) = false := by simpa using h2
    have HI := Lib.hid ih
    have HA := Lib.hid ha
    have HC := Lib.hid hc
    clear ih ha hc hk hw
    obtain ⟨W1, hW1⟩ : ∃ W1, W1 = w.alloc (.cells #[.int .i64 k, .int .i64 m, .int .u64 b, .string t, .slice a kids.length cap] 25) := ⟨_, rfl⟩
    have hbW : Below w.heap.size w W1 := by rw [hW1]; exact (Below.refl _ _).alloc (Nat.le_refl _) _
    have hzW : w.heap.size + 1 ≤ W1.heap.size := by rw [hW1]; simp
    have hc4 : W1.cell? ⟨w.heap.size, 4, none⟩ = some (.slice a kids.length cap) := by rw [hW1]; go_cell
    have hB0 : Below w0.heap.size w0 W1 := hb.trans (hbW.mono hb.size)
    go_enter Tryz.func14, Tryz.ntmps14
    go_wp2_with fail
    rw [← hW1]
    clear hW1
    go_loopw [8, 9, 24] (fun n' mo i wr => ∃ (k : Nat) (nn mm : Int), k ≤ kids.length ∧ i = .int .i64 k ∧ n' = .int .i64 nn ∧ mo = .int .i64 mm ∧ (k : Int) + 1 ≤ nn ∧ nn ≤ left ∧ 0 ≤ mm ∧ mm ≤ 16 ∧ Below W1.heap.size W1 wr ∧ Hid (mm = deep + (D.tallL (kids.take k) : Int)) ∧ Hid (nn = 1 + (D.partsL (kids.take k) : Int))) (fun _ _ i _ => kids.length - (intOf i).toNat)
    case atStart => exact ⟨0, 1, deep, by omega, rfl, rfl, rfl, by omega, by omega, by omega, by omega, Below.refl _ _, (show deep = deep + ((D.tallL [] : Nat) : Int) by simp [D.tallL]), (show (1 : Int) = 1 + (D.partsL [] : Int) from rfl)⟩
    case round =>
      obtain ⟨j, nn, mm, hj, rfl, rfl, rfl, hn0, hn1, hm0, hm1, hbr, hS, hP⟩ := hrel
      by_cases hlt : j < kids.length
      · obtain ⟨rfl, hg, hcp, hcm⟩ := HA.out (by omega)
        have hc4' : wr.cell? ⟨w.heap.size, 4, none⟩ = some (.slice (some ⟨g, o, none⟩) kids.length cap) := (hbr.cell (p := ⟨w.heap.size, 4, none⟩) hzW).trans hc4
        have hB1 : Below w0.heap.size w0 wr := hB0.trans (hbr.mono hB0.size)
        obtain ⟨q0, q1, q2, q3, q4⟩ := (HC.out.below hg hB1) j hlt
        have hx : kids[j]? = some kids[j] := List.getElem?_eq_getElem hlt
        have HX := Lib.hid (HI.out j _ hx)
        have HP2 := Lib.hid (D.partsL_take hx)
        have HS2 := Lib.hid (D.tallL_take hx)
        have HN := Lib.hid (countL_fails (deep := deep) (left := left) (k := k) (m := m) (b := b) (t := t) hx)
        clear hx
        unfold five at HX
        generalize c j 0 = v0 at q0 HX
        generalize c j 1 = v1 at q1 HX
        generalize c j 2 = v2 at q2 HX
        generalize c j 3 = v3 at q3 HX
        generalize c j 4 = v4 at q4 HX
        generalize kids[j] = kj at HX HP2 HS2 HN
        go_wp2_with fail
        refine (HX.out (deep + 1) (left - nn) wr hB1 (by omega) (by omega) (by omega) (by omega)).mono ?_
        rintro x w2 ⟨n', m', rfl, hor, hno, hb2⟩
        have hbr2 : Below W1.heap.size W1 w2 := hbr.trans (hb2.mono hbr.size)
        have hbw2 : Below w.heap.size w w2 := hbW.trans (hbr2.mono hbW.size)
        clear HX hb2 hbr q0 q1 q2 q3 q4 hc4'
        have hPo := hP.out
        have hSo := hS.out
        have hP2 := HP2.out
        have hS2 := HS2.out
        by_cases hf : (kj.parts : Int) ≤ left - nn ∧ deep + 1 + (kj.tall : Int) ≤ 17
        · obtain ⟨rfl, rfl⟩ := hor hf
          clear hor hno HN
          have e3 : decide (left < nn + (kj.parts : Int)) = false := by simp; omega
          obtain ⟨pp, hpp⟩ : ∃ pp : Int, (kj.parts : Int) = pp := ⟨_, rfl⟩
          obtain ⟨tt, htt⟩ : ∃ tt : Int, deep + 1 + (kj.tall : Int) - 1 = tt := ⟨_, rfl⟩
          rw [hpp] at e3
          rw [hpp, htt]
          have hpo := D.parts_pos kj
          have hto : 0 ≤ tt ∧ tt ≤ 16 := by omega
          by_cases hmx : mm < tt
          · have e4 : decide (mm < tt) = true := by simpa using hmx
            have e5 : decide (16 < tt) = false := by simp; omega
            have e6 : decide (16 < mm) = false := by simp; omega
            go_wp2_with fail
            go_roundw
            case rel => exact ⟨j + 1, _, _, by omega, by go_num, rfl, rfl, by omega, by omega, by first | omega | (split <;> omega), by first | omega | (split <;> omega), hbr2, Lib.hid (by first | omega | (split <;> omega)), Lib.hid (by omega)⟩
            case measure => simp [intOf]; omega
          · have e4 : decide (mm < tt) = false := by simpa using hmx
            have e5 : decide (16 < tt) = false := by simp; omega
            have e6 : decide (16 < mm) = false := by simp; omega
            go_wp2_with fail
            go_roundw
            case rel => exact ⟨j + 1, _, _, by omega, by go_num, rfl, rfl, by omega, by omega, by first | omega | (split <;> omega), by first | omega | (split <;> omega), hbr2, Lib.hid (by first | omega | (split <;> omega)), Lib.hid (by omega)⟩
            case measure => simp [intOf]; omega
        · obtain rfl := hno hf
          have e3 : decide (left < nn + 4097) = true := by simp; omega
          have hnf : ¬ CountFits deep left (.mk k m b t kids) := HN.out (fun h => hf (by omega))
          clear hor hno HN
          go_wp2_with fail
          all_goals go_ret2
          all_goals exact CountX.no _ rfl hnf hbw2
      · obtain rfl : j = kids.length := by omega
        have hbw2 : Below w.heap.size w wr := hbW.trans (hbr.mono hbW.size)
        have hPo := hP.out
        have hSo := hS.out
        rw [List.take_length] at hPo hSo
        go_wp2_with fail
        go_ret2
        exact CountX.yes nn mm rfl (by simp only [D.parts]; omega) (by simp only [D.tall]; omega) ⟨by simp only [D.parts]; omega, by simp only [D.tall]; omega⟩ hbw2
end Go.Proofs.YtecdniimikfbhaaGreatDoor
