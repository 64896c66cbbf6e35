/- Contract of the reference's right, exact: each part is as its kind has it, no more and no less. -/
import Derived.Test.YtecdniimikfbhaaGreatDoorV4
namespace Go.Proofs.YtecdniimikfbhaaGreatDoor
open Go Go.RowKit Go.ChangeShapes Go.WideShapes

/-- What the kind says of the fields, as the reference says it. -/
def kindFlagsR (k m : Int) (r3 r4 r5 : Bool) (p : Int) : Prop :=
  0 ≤ k ∧ k ≤ 13 ∧ (r3 = true ↔ k = 1 ∨ k = 2 ∨ k = 6 ∨ k = 10 ∨ k = 11) ∧ (r4 = true ↔ k = 3) ∧ (r5 = true ↔ k = 4 ∨ k = 5 ∨ k = 7 ∨ k = 10) ∧ (p = -1 ∧ k = 8 ∨ p = 2 ∧ k = 9 ∨ p = 1 ∧ k = 11 ∨ p = 0 ∧ k ≠ 8 ∧ k ≠ 9 ∧ k ≠ 11) ∧ (k = 6 → m = 0 ∨ m = 1) ∧ (k = 11 → 1 ≤ m)
theorem flagsR_ok {k m b : Int} {t : ByteArray} {l : Nat} {r3 r4 r5 : Bool} {p : Int} (h : kindFlagsR k m r3 r4 r5 p) :
    okTop k m b t l ↔ (r3 = true ∨ (m != 0) = false) ∧ (r4 = true ∨ (b != 0) = false) ∧ (r5 = true ∨ t.toList = []) ∧ (decide (0 ≤ p) = false ∨ ((l : Int) != p) = false) ∧ decide (65535 < (t.size : Int)) = false := by
  obtain ⟨f1, f2, f3, f4, f5, f6, f7, f8⟩ := h
  simp only [f3, f4, f5, bne_eq_false_iff_eq, decide_eq_false_iff_not]
  constructor
  · rintro ⟨-, -, g3, g4, g5, g6, g7, g8, g9, -, -⟩
    refine ⟨g7, g8, g9, by omega, by omega⟩
  · rintro ⟨g7, g8, g9, g4, g6⟩
    refine ⟨f1, f2, by omega, by omega, by omega, by omega, g7, g8, g9, f7, f8⟩

set_option maxRecDepth 100000 in
set_option maxHeartbeats 3200000 in
theorem rightx_any {w0 : World} {v : Value} {d : D} (h : Rep w0 v d) : ∀ (w : World), Below w0.heap.size w0 w →
    Calls Tryz.prog 15 #[v] w fun x w' => ∃ r : Bool, x = .returned (.bool r) ∧ (r = true ↔ Right d) ∧ Below w.heap.size w w' := by
  induction h with
  | mk k m b t a cap g o c kids hw ha hc hk ih =>
    intro w hb
    have HI := Lib.hid ih
    have HA := Lib.hid ha
    have HC := Lib.hid hc
    clear ih ha hc hk hw
    obtain ⟨W1, hW1⟩ : ∃ W1, W1 = w.alloc (.cells #[.int .i64 k, .int .i64 m, .int .u64 b, .string t, .slice a kids.length cap] 25) := ⟨_, rfl⟩
    have hbW : Below w.heap.size w W1 := by rw [hW1]; exact (Below.refl _ _).alloc (Nat.le_refl _) _
    have hzW : w.heap.size + 1 ≤ W1.heap.size := by rw [hW1]; simp
    have hc0 : W1.cell? ⟨w.heap.size, 0, none⟩ = some (.int .i64 k) := by rw [hW1]; go_cell
    have hc1 : W1.cell? ⟨w.heap.size, 1, none⟩ = some (.int .i64 m) := by rw [hW1]; go_cell
    have hc2 : W1.cell? ⟨w.heap.size, 2, none⟩ = some (.int .u64 b) := by rw [hW1]; go_cell
    have hc3 : W1.cell? ⟨w.heap.size, 3, none⟩ = some (.string t) := by rw [hW1]; go_cell
    have hc4 : W1.cell? ⟨w.heap.size, 4, none⟩ = some (.slice a kids.length cap) := by rw [hW1]; go_cell
    have hB0 : Below w0.heap.size w0 W1 := hb.trans (hbW.mono hb.size)
    go_enter Tryz.func15, Tryz.ntmps15
    go_upto_block 0 with fail
    rw [← hW1]
    clear hW1
    go_cut [3, 4, 5, 6] (fun f3 f4 f5 f6 wx => ∃ (r3 r4 r5 : Bool) (p : Int), f3 = .bool r3 ∧ f4 = .bool r4 ∧ f5 = .bool r5 ∧ f6 = .int .i64 p ∧ W1 = wx ∧ Hid (kindFlagsR k m r3 r4 r5 p))
    case first =>
      clear HI HA HC hB0
      have hm : (m != 0) = false ∨ ((m != 0) = true ∧ (m != 1) = false) ∨ ((m != 0) = true ∧ (m != 1) = true) := by
        cases m != 0 <;> cases m != 1 <;> simp
      rcases hm with hm0 | ⟨hm0, hm1⟩ | ⟨hm0, hm1⟩
      all_goals go_wp2_with fail
      all_goals first
        | (go_ret; refine ⟨false, rfl, ⟨fun h => (by cases h), fun h => ?_⟩, hbW⟩; obtain ⟨g1, g2, -, -, -, -, -, -, -, g10, g11⟩ := h.inv.1; simp only [beq_iff_eq, beq_eq_false_iff_ne, ne_eq, bne_iff_ne, bne_eq_false_iff_eq] at *; omega)
        | (go_meet; refine ⟨_, _, _, _, rfl, rfl, rfl, rfl, rfl, ?_⟩; unfold Hid; simp only [beq_iff_eq, beq_eq_false_iff_ne, ne_eq, bne_iff_ne, bne_eq_false_iff_eq] at *; refine ⟨?_, ?_, ?_, ?_, ?_, ?_, ?_, ?_⟩ <;> first | omega | (simp; done) | (simp; omega) | (intro h; cases h))
    case rest =>
      obtain ⟨r3, r4, r5, p, rfl, rfl, rfl, rfl, hW, HF⟩ := hcut
      subst hW
      go_upto_region 32 with fail
      go_cut [3, 4, 5, 6, 85] (fun _ _ _ _ f wx => ∃ r : Bool, f = .bool r ∧ W1 = wx ∧ Hid (r = false ↔ okTop k m b t kids.length))
      case first =>
        clear HI HA HC hB0
        have HO := Lib.hid (flagsR_ok (b := b) (t := t) (l := kids.length) HF.out)
        clear HF
        obtain ⟨q1, e1⟩ : ∃ q, (m != 0) = q := ⟨_, rfl⟩
        obtain ⟨q2, e2⟩ : ∃ q, (b != 0) = q := ⟨_, rfl⟩
        obtain ⟨q4, e4⟩ : ∃ q, ((kids.length : Int) != p) = q := ⟨_, rfl⟩
        obtain ⟨q5, e5⟩ : ∃ q, decide (65535 < (t.size : Int)) = q := ⟨_, rfl⟩
        obtain ⟨q6, e6⟩ : ∃ q, decide (0 ≤ p) = q := ⟨_, rfl⟩
        rw [e1, e2, e4, e5, e6] at HO
        go_wp2_with fail
        all_goals go_meet
        all_goals refine ⟨_, rfl, rfl, ?_⟩
        all_goals refine Lib.hid (Iff.trans ?_ HO.out.symm)
        all_goals clear HO
        all_goals simp_all
      case rest =>
        obtain ⟨r, rfl, hW, HO⟩ := hcut
        subst hW
        cases r with
        | true =>
          go_wp2_with fail
          go_ret
          exact ⟨false, rfl, ⟨fun h => (by cases h), fun h => absurd (HO.out.2 h.inv.1) (by decide)⟩, hbW⟩
        | false =>
          have HT := Lib.hid (HO.out.1 rfl)
          clear HO HF
          go_wp2_with fail
          go_loopw [89] (fun i wr => ∃ j : Nat, j ≤ kids.length ∧ i = .int .i64 j ∧ Below W1.heap.size W1 wr ∧ Hid (∀ i, i < j → ∀ x, kids[i]? = some x → Right x)) (fun i _ => kids.length - (intOf i).toNat)
          case atStart => exact ⟨0, by omega, rfl, Below.refl _ _, fun j hj => absurd hj (by omega)⟩
          case round =>
            obtain ⟨j, hj, rfl, hbr, hS⟩ := hrel
            by_cases hlt : j < kids.length
            · obtain ⟨rfl, hg, hcp, hcm⟩ := HA.out (by omega)
              have hc4' : wr.cell? ⟨w.heap.size, 4, none⟩ = some (.slice (some ⟨g, o, none⟩) kids.length cap) := (hbr.cell (p := ⟨w.heap.size, 4, none⟩) hzW).trans hc4
              have hB1 : Below w0.heap.size w0 wr := hB0.trans (hbr.mono hB0.size)
              obtain ⟨q0, q1, q2, q3, q4⟩ := (HC.out.below hg hB1) j hlt
              have hx : kids[j]? = some kids[j] := List.getElem?_eq_getElem hlt
              have HX := Lib.hid (HI.out j _ hx)
              have HS2 := Lib.hid (show Right kids[j] → ∀ i, i < j + 1 → ∀ x, kids[i]? = some x → Right x from fun h i hi x hx' => by
                by_cases e : i = j
                · subst e; rw [hx] at hx'; rw [← Option.some.inj hx']; exact h
                · exact hS.out i (by omega) x hx')
              clear hS hx
              unfold five at HX
              generalize c j 0 = v0 at q0 HX
              generalize c j 1 = v1 at q1 HX
              generalize c j 2 = v2 at q2 HX
              generalize c j 3 = v3 at q3 HX
              generalize c j 4 = v4 at q4 HX
              go_wp2_with fail
              refine (HX.out wr hB1).mono ?_
              rintro x w2 ⟨r, rfl, hr, hb2⟩
              have hbr2 : Below W1.heap.size W1 w2 := hbr.trans (hb2.mono hbr.size)
              have hbw2 : Below w.heap.size w w2 := hbW.trans (hbr2.mono hbW.size)
              clear HX hb2 hbr q0 q1 q2 q3 q4 hc4'
              cases r with
              | false =>
                go_wp2_with fail
                go_ret
                exact ⟨false, rfl, ⟨fun h => (by cases h), fun h => absurd (hr.2 (h.inv.2 _ (List.getElem_mem hlt))) (by decide)⟩, hbw2⟩
              | true =>
                have HS3 := Lib.hid (HS2.out (hr.1 rfl))
                clear HS2 hr
                go_wp2_with fail
                go_roundw
                case rel => exact ⟨j + 1, by omega, by go_num, hbr2, HS3⟩
                case measure => simp [intOf]; omega
            · obtain rfl : j = kids.length := by omega
              have hbw2 : Below w.heap.size w wr := hbW.trans (hbr.mono hbW.size)
              have hR : Right (.mk k m b t kids) := .mk _ _ _ _ _ HT.out (fun x hx => by
                obtain ⟨i, hi, e⟩ := List.getElem_of_mem hx
                exact hS.out i hi x (by rw [← e]; exact List.getElem?_eq_getElem hi))
              go_wp2_with fail
              go_ret
              exact ⟨true, rfl, ⟨fun _ => hR, fun _ => rfl⟩, hbw2⟩
end Go.Proofs.YtecdniimikfbhaaGreatDoor
