/- Shape: an int is valid. -/
import Derived.Test.YtecdniimikfbhaaGreatDoorS1
namespace Go.Proofs.YtecdniimikfbhaaGreatDoor
open Go Go.RowKit Go.ChangeShapes Go.WideShapes

set_option maxRecDepth 100000 in
set_option maxHeartbeats 1600000 in
theorem fits_int (m : Int) (a : Option Addr) (cap : Nat) (w : World) : Calls Tryz.prog 53 #[(.agg #[.int .i64 1, .int .i64 m, .int .u64 0, .string ⟨#[]⟩, .slice a 0 cap])] w fun x w' => x = .returned (.bool true) ∧ Below w.heap.size w w' := by
  obtain ⟨W1, hW1, hb1, hx1⟩ := boxes1r w (.int .i64 1) (.int .i64 m) (.int .u64 0) (.string ⟨#[]⟩) (.slice a 0 cap)
  have p0 : W1.cell? ⟨w.heap.size, 0, none⟩ = some (.int .i64 1) := hx1.cell 0 rfl
  have p1 : W1.cell? ⟨w.heap.size, 1, none⟩ = some (.int .i64 m) := hx1.cell 1 rfl
  have p2 : W1.cell? ⟨w.heap.size, 2, none⟩ = some (.int .u64 0) := hx1.cell 2 rfl
  have p3 : W1.cell? ⟨w.heap.size, 3, none⟩ = some (.string ⟨#[]⟩) := hx1.cell 3 rfl
  have p4 : W1.cell? ⟨w.heap.size, 4, none⟩ = some (.slice a 0 cap) := hx1.cell 4 rfl
  go_enter Tryz.func53, Tryz.ntmps53
  go_upto_region 1 with fail
  rw [← hW1]
  clear hW1
  go_wp2_with fail
  go_ret
  exact ⟨rfl, hb1⟩

set_option maxRecDepth 100000 in
set_option maxHeartbeats 1600000 in
theorem look_int (m : Int) (a : Option Addr) (cap : Nat) (P Q : Nat) (hPQ : P ≠ Q) (w : World) (hP : Row w P #[.int .i64 0] 3) (hQ : Row w Q #[.int .i64 0] 3) :
    Calls Tryz.prog 30 #[(.agg #[.int .i64 1, .int .i64 m, .int .u64 0, .string ⟨#[]⟩, .slice a 0 cap]), .int .i64 1, .pointer (some ⟨P, 0, none⟩), .pointer (some ⟨Q, 0, none⟩)] w fun x w' => x = .returned (.bool true) ∧ ∀ B w0, Below B w0 w → B ≤ P → B ≤ Q → Below B w0 w' := by
  obtain ⟨W1, hW1, hb1, hx1⟩ := boxes1r w (.int .i64 1) (.int .i64 m) (.int .u64 0) (.string ⟨#[]⟩) (.slice a 0 cap)
  have hP1 := hP.later hb1
  have hQ1 := hQ.later hb1
  have hltP := hP.lt
  have hltQ := hQ.lt
  have u0 : W1.cell? ⟨P, 0, none⟩ = some (.int .i64 0) := hP1.cell 0 rfl
  have fu0 := hP1.thaw 0
  have v0 : W1.cell? ⟨Q, 0, none⟩ = some (.int .i64 0) := hQ1.cell 0 rfl
  have fv0 := hQ1.thaw 0
  have hQP := hPQ.symm
  obtain ⟨W2, hW2⟩ : ∃ W2, W2 = (W1.setCell ⟨P, 0, none⟩ (.int .i64 1)).setCell ⟨Q, 0, none⟩ (.int .i64 1) := ⟨_, rfl⟩
  have hx2 : Row W2 w.heap.size #[.int .i64 1, .int .i64 m, .int .u64 0, .string ⟨#[]⟩, .slice a 0 cap] 25 := by rw [hW2]; exact (hx1.other _ _ (by omega)).other _ _ (by omega)
  have hP2 : Row W2 P #[.int .i64 1] 3 := by rw [hW2]; exact (hP1.set 0 _).other _ _ hPQ
  have hQ2 : Row W2 Q #[.int .i64 1] 3 := by rw [hW2]; exact (hQ1.other _ _ hQP).set 0 _
  have hB2 : ∀ B w0, Below B w0 w → B ≤ P → B ≤ Q → Below B w0 W2 := fun B w0 hb h1 h2 => by
    rw [hW2]
    exact ((hb.trans (hb1.mono (by omega))).setCell (p := ⟨P, 0, none⟩) h1 _).setCell (p := ⟨Q, 0, none⟩) h2 _
  have p0 : W1.cell? ⟨w.heap.size, 0, none⟩ = some (.int .i64 1) := hx1.cell 0 rfl
  have p1 : W1.cell? ⟨w.heap.size, 1, none⟩ = some (.int .i64 m) := hx1.cell 1 rfl
  have p2 : W1.cell? ⟨w.heap.size, 2, none⟩ = some (.int .u64 0) := hx1.cell 2 rfl
  have p3 : W1.cell? ⟨w.heap.size, 3, none⟩ = some (.string ⟨#[]⟩) := hx1.cell 3 rfl
  have p4 : W1.cell? ⟨w.heap.size, 4, none⟩ = some (.slice a 0 cap) := hx1.cell 4 rfl
  go_enter Tryz.func30, Tryz.ntmps30
  go_upto_region 1 with fail
  rw [← hW1]
  clear hW1
  go_upto_region 3 with fail
  rw [← hW2]
  clear hW2 p0 p1 p2 p3 p4 u0 v0
  have u0 : W2.cell? ⟨P, 0, none⟩ = some (.int .i64 1) := hP2.cell 0 rfl
  have p0 : W2.cell? ⟨w.heap.size, 0, none⟩ = some (.int .i64 1) := hx2.cell 0 rfl
  have p1 : W2.cell? ⟨w.heap.size, 1, none⟩ = some (.int .i64 m) := hx2.cell 1 rfl
  have p2 : W2.cell? ⟨w.heap.size, 2, none⟩ = some (.int .u64 0) := hx2.cell 2 rfl
  have p3 : W2.cell? ⟨w.heap.size, 3, none⟩ = some (.string ⟨#[]⟩) := hx2.cell 3 rfl
  have p4 : W2.cell? ⟨w.heap.size, 4, none⟩ = some (.slice a 0 cap) := hx2.cell 4 rfl
  go_wp2_with fail
  refine (fits_int _ _ _ _).mono ?_
  rintro e w3 ⟨rfl, hb3⟩
  have hx3 := hx2.later hb3
  clear p0 p1 p2 p3 p4
  have p4 : w3.cell? ⟨w.heap.size, 4, none⟩ = some (.slice a 0 cap) := hx3.cell 4 rfl
  dsimp only
  go_wp2_with fail
  go_loopw [39] (fun i wr => i = .int .i64 0 ∧ wr = w3) (fun _ _ => 0)
  case atStart => exact ⟨rfl, rfl⟩
  case round =>
    obtain ⟨rfl, rfl⟩ := hrel
    go_wp2_with fail
    go_ret
    exact ⟨rfl, fun B w0 hb h1 h2 => (hB2 B w0 hb h1 h2).trans (hb3.mono (by have := hP2.lt; omega))⟩

set_option maxRecDepth 100000 in
set_option maxHeartbeats 1600000 in
theorem dvalid_int (m : Int) (a : Option Addr) (cap : Nat) (w : World) : Calls Tryz.prog 18 #[(.agg #[.int .i64 1, .int .i64 m, .int .u64 0, .string ⟨#[]⟩, .slice a 0 cap])] w fun x w' => x = .returned (.bool true) ∧ Below w.heap.size w w' := by
  obtain ⟨W1, hW1, hb1, hx1⟩ := boxes1r w (.int .i64 1) (.int .i64 m) (.int .u64 0) (.string ⟨#[]⟩) (.slice a 0 cap)
  obtain ⟨W2, hW2⟩ : ∃ W2, W2 = (W1.alloc (.cells #[.int .i64 0] 3)).alloc (.cells #[.int .i64 0] 3) := ⟨_, rfl⟩
  have hb2 : Below W1.heap.size W1 W2 := by rw [hW2]; go_grown
  have hP : Row W2 W1.heap.size #[.int .i64 0] 3 := by rw [hW2]; exact (Row.new _ _ _).old _
  have hQ : Row W2 (W1.heap.size + 1) #[.int .i64 0] 3 := by
    rw [hW2]
    have h := Row.new (W1.alloc (.cells #[.int .i64 0] 3)) #[.int .i64 0] 3
    simpa using h
  have hx2 := hx1.later hb2
  have hz := hb1.size
  go_enter Tryz.func18, Tryz.ntmps18
  go_upto_region 1 with fail
  rw [← hW1]
  clear hW1
  go_upto_region 2 with fail
  rw [← hW2]
  clear hW2
  have p0 : W2.cell? ⟨w.heap.size, 0, none⟩ = some (.int .i64 1) := hx2.cell 0 rfl
  have p1 : W2.cell? ⟨w.heap.size, 1, none⟩ = some (.int .i64 m) := hx2.cell 1 rfl
  have p2 : W2.cell? ⟨w.heap.size, 2, none⟩ = some (.int .u64 0) := hx2.cell 2 rfl
  have p3 : W2.cell? ⟨w.heap.size, 3, none⟩ = some (.string ⟨#[]⟩) := hx2.cell 3 rfl
  have p4 : W2.cell? ⟨w.heap.size, 4, none⟩ = some (.slice a 0 cap) := hx2.cell 4 rfl
  go_wp2_with (go_at_call 30; refine (look_int m _ _ _ _ (by omega) _ hP hQ).mono ?_; rintro e w3 ⟨rfl, hB⟩)
  go_ret
  exact ⟨rfl, hB _ _ (hb1.trans (hb2.mono hz)) hz (by omega)⟩
end Go.Proofs.YtecdniimikfbhaaGreatDoor
