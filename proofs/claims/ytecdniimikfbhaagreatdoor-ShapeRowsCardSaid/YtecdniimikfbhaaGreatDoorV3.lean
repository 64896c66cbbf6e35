/- Shape: Valid: few parts, not deep, each as its kind has it. -/
import Derived.Test.YtecdniimikfbhaaGreatDoorV2
namespace Go.Proofs.YtecdniimikfbhaaGreatDoor
open Go Go.RowKit Go.ChangeShapes Go.WideShapes

set_option maxRecDepth 100000 in
set_option maxHeartbeats 1600000 in
theorem dvalid_any {w0 : World} {v : Value} {d : D} (h : Rep w0 v d) (w : World) (hb : Below w0.heap.size w0 w) : Calls Tryz.prog 18 #[v] w fun x w' => ∃ r : Bool, x = .returned (.bool r) ∧ (r = true ↔ FitsIn 0 1 d) ∧ Below w.heap.size w w' := by
  have HL := Lib.hid (look_any h)
  obtain ⟨k, m, b, t, a, cap, g, o, c, kids, rfl, rfl, _⟩ := h.inv
  clear h
  generalize kids.length = l at *
  obtain ⟨W1, hW1, hb1, hx1⟩ := boxes1r w (.int .i64 k) (.int .i64 m) (.int .u64 b) (.string t) (.slice a l cap)
  obtain ⟨W2, hW2⟩ : ∃ W2, W2 = (W1.alloc (.cells #[.int .i64 0] 3)).alloc (.cells #[.int .i64 0] 3) := ⟨_, rfl⟩
  have hb2 : Below W1.heap.size W1 W2 := by rw [hW2]; go_grown
  have hP : Row W2 W1.heap.size #[.int .i64 0] 3 := by rw [hW2]; exact (Row.new _ _ _).old _
  have hQ : Row W2 (W1.heap.size + 1) #[.int .i64 0] 3 := by
    rw [hW2]
    have h := Row.new (W1.alloc (.cells #[.int .i64 0] 3)) #[.int .i64 0] 3
    simpa using h
  have hx2 := hx1.later hb2
  have hz := hb1.size
  have hz0 := hb.size
  have hbw := hb1.trans (hb2.mono hz)
  go_enter Tryz.func18, Tryz.ntmps18
  go_upto_region 1 with fail
  rw [← hW1]
  clear hW1
  go_upto_region 2 with fail
  rw [← hW2]
  clear hW2
  have p0 : W2.cell? ⟨w.heap.size, 0, none⟩ = some (.int .i64 k) := hx2.cell 0 rfl
  have p1 : W2.cell? ⟨w.heap.size, 1, none⟩ = some (.int .i64 m) := hx2.cell 1 rfl
  have p2 : W2.cell? ⟨w.heap.size, 2, none⟩ = some (.int .u64 b) := hx2.cell 2 rfl
  have p3 : W2.cell? ⟨w.heap.size, 3, none⟩ = some (.string t) := hx2.cell 3 rfl
  have p4 : W2.cell? ⟨w.heap.size, 4, none⟩ = some (.slice a l cap) := hx2.cell 4 rfl
  go_wp2_with fail
  refine (HL.out 1 0 0 W1.heap.size (W1.heap.size + 1) W2 (by omega) (by omega) (by omega) (hb.trans (hbw.mono hz0)) (by omega) (by omega) (by omega) (by omega) hP hQ).mono ?_
  rintro e w3 ⟨r, n', q', rfl, hr, -, -, -, -, -, hB⟩
  dsimp only
  go_wp2_with fail
  go_ret
  exact ⟨r, rfl, hr, hB _ _ hbw hz (by omega)⟩
theorem FitsIn.slim {n deep : Int} {d : D} (h : FitsIn n deep d) (h0 : 0 ≤ n) : Slim d := by
  have hp : d.parts ≤ 4096 := by have := h.1; omega
  clear h h0
  induction d using D.rec (motive_2 := fun l => D.partsL l ≤ 4096 → ∀ x ∈ l, Slim x) with
  | mk k m b t l ih =>
    simp only [D.parts] at hp
    exact .mk _ _ _ _ _ (Nat.le_trans (D.length_le_partsL l) (by omega)) (ih (by omega))
  | nil => rename_i hx; cases hx
  | cons x l h1 h2 =>
    rename_i hp y hy
    simp only [D.partsL] at hp
    rcases List.mem_cons.1 hy with rfl | hy
    · exact h1 (by omega)
    · exact h2 (by omega) y hy
end Go.Proofs.YtecdniimikfbhaaGreatDoor
