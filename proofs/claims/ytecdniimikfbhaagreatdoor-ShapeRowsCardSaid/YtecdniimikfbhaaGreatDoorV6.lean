/- Contract of the reference's Valid, exact. -/
import Derived.Test.YtecdniimikfbhaaGreatDoorV5
namespace Go.Proofs.YtecdniimikfbhaaGreatDoor
open Go Go.RowKit Go.ChangeShapes Go.WideShapes

set_option maxHeartbeats 800000 in
theorem validx_any {w0 : World} {v : Value} {d : D} (h : Rep w0 v d) (w : World) (hb : Below w0.heap.size w0 w) :
    Calls Tryz.prog 5 #[v] w fun x w' => ∃ r : Bool, x = .returned (.bool r) ∧ (r = true ↔ FitsIn 0 1 d) ∧ Below w.heap.size w w' := by
  have HC := Lib.hid (countx_any h)
  have HR := Lib.hid (rightx_any h)
  obtain ⟨c0, c1, c2, c3, c4, rfl⟩ := h.five
  clear h
  obtain ⟨W1, hW1⟩ : ∃ W1, W1 = w.alloc (.cells #[c0, c1, c2, c3, c4] 25) := ⟨_, rfl⟩
  have hbW : Below w.heap.size w W1 := by rw [hW1]; exact (Below.refl _ _).alloc (Nat.le_refl _) _
  have hzW : w.heap.size < W1.heap.size := by rw [hW1]; simp
  have hB0 : Below w0.heap.size w0 W1 := hb.trans (hbW.mono hb.size)
  have u0 : W1.cell? ⟨w.heap.size, 0, none⟩ = some c0 := by rw [hW1]; go_cell
  have u1 : W1.cell? ⟨w.heap.size, 1, none⟩ = some c1 := by rw [hW1]; go_cell
  have u2 : W1.cell? ⟨w.heap.size, 2, none⟩ = some c2 := by rw [hW1]; go_cell
  have u3 : W1.cell? ⟨w.heap.size, 3, none⟩ = some c3 := by rw [hW1]; go_cell
  have u4 : W1.cell? ⟨w.heap.size, 4, none⟩ = some c4 := by rw [hW1]; go_cell
  go_enter Tryz.func5, Tryz.ntmps5
  go_upto_region 1 with fail
  rw [← hW1]
  clear hW1
  go_wp2_with fail
  refine (HC.out 1 4096 W1 hB0 (by omega) (by omega) (by omega) (by omega)).mono ?_
  rintro x w2 ⟨n, m, rfl, hor, hno, hb2⟩
  have hB2 : Below w0.heap.size w0 w2 := hB0.trans (hb2.mono hB0.size)
  have hbw2 : Below w.heap.size w w2 := hbW.trans (hb2.mono hbW.size)
  have u0 : w2.cell? ⟨w.heap.size, 0, none⟩ = some c0 := (hb2.cell (p := ⟨w.heap.size, 0, none⟩) hzW).trans u0
  have u1 : w2.cell? ⟨w.heap.size, 1, none⟩ = some c1 := (hb2.cell (p := ⟨w.heap.size, 1, none⟩) hzW).trans u1
  have u2 : w2.cell? ⟨w.heap.size, 2, none⟩ = some c2 := (hb2.cell (p := ⟨w.heap.size, 2, none⟩) hzW).trans u2
  have u3 : w2.cell? ⟨w.heap.size, 3, none⟩ = some c3 := (hb2.cell (p := ⟨w.heap.size, 3, none⟩) hzW).trans u3
  have u4 : w2.cell? ⟨w.heap.size, 4, none⟩ = some c4 := (hb2.cell (p := ⟨w.heap.size, 4, none⟩) hzW).trans u4
  by_cases hf : (d.parts : Int) ≤ 4096 ∧ 1 + (d.tall : Int) ≤ 17
  · obtain ⟨rfl, rfl⟩ := hor hf
    clear hor hno
    have e1 : decide ((d.parts : Int) ≤ 4096) = true := by simpa using hf.1
    have e2 : decide (1 + (d.tall : Int) - 1 ≤ 16) = true := by simp; omega
    generalize (d.parts : Int) = pp at e1
    generalize 1 + (d.tall : Int) - 1 = tt at e2
    go_wp2_with fail
    refine (HR.out w2 hB2).mono ?_
    rintro x w3 ⟨r, rfl, hr, hb3⟩
    have hbw3 : Below w.heap.size w w3 := hbw2.trans (hb3.mono hbw2.size)
    have HRR := Lib.hid hr
    clear hr
    go_wp2_with fail
    go_ret
    exact ⟨r, rfl, ⟨fun h => ⟨by omega, by omega, HRR.out.1 h⟩, fun h => HRR.out.2 h.2.2⟩, hbw3⟩
  · obtain rfl := hno hf
    clear hor hno
    go_wp2_with fail
    go_ret
    exact ⟨false, rfl, ⟨fun h => (by cases h), fun h => absurd ⟨by have := h.1; omega, h.2.1⟩ hf⟩, hbw2⟩
end Go.Proofs.YtecdniimikfbhaaGreatDoor
