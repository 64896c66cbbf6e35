/- Shape: fits: as its kind has it, no more and no less. -/
import Derived.Test.YtecdniimikfbhaaGreatDoorS1
namespace Go.Proofs.YtecdniimikfbhaaGreatDoor
open Go Go.RowKit Go.ChangeShapes Go.WideShapes

/-- What the kind says of the fields. -/
def kindFlags (k m : Int) (l : Nat) (r3 r4 r5 : Bool) (p : Int) : Prop :=
  0 ≤ k ∧ k ≤ 13 ∧ (r3 = true ↔ k = 1 ∨ k = 2 ∨ k = 6 ∨ k = 10 ∨ k = 11) ∧ (r4 = true ↔ k = 3) ∧ (r5 = true ↔ k = 4 ∨ k = 5 ∨ k = 7 ∨ k = 10) ∧ (p = l ∧ k = 8 ∨ p = 2 ∧ k = 9 ∨ p = 1 ∧ k = 11 ∨ p = 0 ∧ k ≠ 8 ∧ k ≠ 9 ∧ k ≠ 11) ∧ (k = 6 → m = 0 ∨ m = 1) ∧ (k = 11 → 1 ≤ m)
theorem flags_ok {k m b : Int} {t : ByteArray} {l : Nat} {r3 r4 r5 : Bool} {p : Int} (h : kindFlags k m l r3 r4 r5 p) :
    okTop k m b t l ↔ (r3 = true ∨ (m == 0) = true) ∧ (r4 = true ∨ (b == 0) = true) ∧ (r5 = true ∨ t.toList = []) ∧ decide ((t.size : Int) ≤ 65535) = true ∧ ((l : Int) == p) = true := by
  obtain ⟨f1, f2, f3, f4, f5, f6, f7, f8⟩ := h
  simp only [f3, f4, f5, beq_iff_eq, decide_eq_true_eq]
  constructor
  · rintro ⟨-, -, g3, g4, g5, g6, g7, g8, g9, -, -⟩
    refine ⟨g7, g8, g9, by omega, by omega⟩
  · rintro ⟨g7, g8, g9, g6, g4⟩
    refine ⟨f1, f2, by omega, by omega, by omega, by omega, g7, g8, g9, f7, f8⟩

set_option maxRecDepth 100000 in
set_option maxHeartbeats 3200000 in
theorem fits_any (k m b : Int) (t : ByteArray) (a : Option Addr) (l cap : Nat) (w : World) : Calls Tryz.prog 53 #[(.agg #[.int .i64 k, .int .i64 m, .int .u64 b, .string t, .slice a l cap])] w fun x w' => ∃ r : Bool, x = .returned (.bool r) ∧ (r = true ↔ okTop k m b t l) ∧ Below w.heap.size w w' := by
  obtain ⟨W1, hW1, hb1, hx1⟩ := boxes1r w (.int .i64 k) (.int .i64 m) (.int .u64 b) (.string t) (.slice a l cap)
  have p0 : W1.cell? ⟨w.heap.size, 0, none⟩ = some (.int .i64 k) := hx1.cell 0 rfl
  have p1 : W1.cell? ⟨w.heap.size, 1, none⟩ = some (.int .i64 m) := hx1.cell 1 rfl
  have p2 : W1.cell? ⟨w.heap.size, 2, none⟩ = some (.int .u64 b) := hx1.cell 2 rfl
  have p3 : W1.cell? ⟨w.heap.size, 3, none⟩ = some (.string t) := hx1.cell 3 rfl
  have p4 : W1.cell? ⟨w.heap.size, 4, none⟩ = some (.slice a l cap) := hx1.cell 4 rfl
  go_enter Tryz.func53, Tryz.ntmps53
  go_upto_region 1 with fail
  rw [← hW1]
  clear hW1
  go_upto_block 0 with fail
  go_cut [3, 4, 5, 6] (fun f3 f4 f5 f6 wx => ∃ (r3 r4 r5 : Bool) (p : Int), f3 = .bool r3 ∧ f4 = .bool r4 ∧ f5 = .bool r5 ∧ f6 = .int .i64 p ∧ W1 = wx ∧ Hid (kindFlags k m l r3 r4 r5 p))
  case first =>
    have hm : (m != 0) = false ∨ ((m != 0) = true ∧ (m != 1) = false) ∨ ((m != 0) = true ∧ (m != 1) = true) := by
      cases m != 0 <;> cases m != 1 <;> simp
    rcases hm with hm0 | ⟨hm0, hm1⟩ | ⟨hm0, hm1⟩
    all_goals go_wp2_with fail
    all_goals first
      | (go_ret; refine ⟨false, rfl, ⟨fun h => (by cases h), fun h => ?_⟩, hb1⟩; obtain ⟨g1, g2, -, -, -, -, -, -, -, g10, g11⟩ := h; simp only [beq_iff_eq, beq_eq_false_iff_ne, ne_eq, bne_iff_ne, bne_eq_false_iff_eq] at *; omega)
      | (go_meet; refine ⟨_, _, _, _, rfl, rfl, rfl, rfl, rfl, ?_⟩; unfold Hid; simp only [beq_iff_eq, beq_eq_false_iff_ne, ne_eq, bne_iff_ne, bne_eq_false_iff_eq] at *; refine ⟨?_, ?_, ?_, ?_, ?_, ?_, ?_, ?_⟩ <;> first | omega | (simp; done) | (simp; omega) | (intro h; cases h))
  case rest =>
    obtain ⟨r3, r4, r5, p, rfl, rfl, rfl, rfl, hW, HF⟩ := hcut
    subst hW
    have HO := Lib.hid (flags_ok (b := b) (t := t) HF.out)
    clear HF
    obtain ⟨q1, e1⟩ : ∃ q, (m == 0) = q := ⟨_, rfl⟩
    obtain ⟨q2, e2⟩ : ∃ q, (b == 0) = q := ⟨_, rfl⟩
    obtain ⟨q4, e4⟩ : ∃ q, ((l : Int) == p) = q := ⟨_, rfl⟩
    obtain ⟨q5, e5⟩ : ∃ q, decide ((t.size : Int) ≤ 65535) = q := ⟨_, rfl⟩
    rw [e1, e2, e4, e5] at HO
    go_wp2_with fail
    all_goals go_ret
    all_goals refine ⟨_, rfl, ?_, hb1⟩
    all_goals refine Iff.trans ?_ HO.out.symm
    all_goals clear HO
    all_goals simp_all
end Go.Proofs.YtecdniimikfbhaaGreatDoor
