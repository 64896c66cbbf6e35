/- Shape: a map is found. -/
import Derived.Test.YtecdniimikfbhaaGreatDoorS2
namespace Go.Proofs.YtecdniimikfbhaaGreatDoor
open Go Go.RowKit Go.ChangeShapes Go.WideShapes

theorem find_end {W : World} {g : Nat} {tmps : Array Value} {x y e : Value} (hx : Row W g #[x, y] 46) (h4 : tmps.getD 2 undef = .pointer (some ⟨g, 0, none⟩)) (h5 : tmps.getD 3 undef = e) :
    (results Tryz.f16 tmps).run Tryz.prog W = .ok (.tuple #[.agg #[x, y], e]) W := by
  have a0 : W.cell? ⟨g, 0, none⟩ = some x := hx.cell 0 rfl
  have a1 : W.cell? ⟨g, 1, none⟩ = some y := hx.cell 1 rfl
  have h4' : tmps[2]?.getD undef = .pointer (some ⟨g, 0, none⟩) := by simpa using h4
  have h5' : tmps[3]?.getD undef = e := by simpa using h5
  simp [results, Tryz.results16, asAddr, a0, a1, h4', h5', go_sem]
theorem Row.set2 {w : World} {g : Nat} {T : TypeId} {c0 c1 : Value} (h : Row w g #[c0, c1] T) (s0 s1 : Value) : Row ((w.setCell ⟨g, 0, none⟩ s0).setCell ⟨g, 1, none⟩ s1) g #[s0, s1] T := by
  have h1 := (h.set 0 s0).set 1 s1
  simpa using h1
theorem Row.oth2 {w : World} {g b : Nat} {T : TypeId} {cs : Array Value} (h : Row w b cs T) (hb : b ≠ g) (s0 s1 : Value) : Row ((w.setCell ⟨g, 0, none⟩ s0).setCell ⟨g, 1, none⟩ s1) b cs T := (h.other 0 s0 hb).other 1 s1 hb
theorem below2 {B g : Nat} {w0 w : World} (h : Below B w0 w) (hb : B ≤ g) (s0 s1 : Value) : Below B w0 ((w.setCell ⟨g, 0, none⟩ s0).setCell ⟨g, 1, none⟩ s1) := (h.setCell (p := ⟨g, 0, none⟩) hb _).setCell (p := ⟨g, 1, none⟩) hb _
theorem tab_ne {w : World} {b g : Nat} {x : Int} (h : Row w b #[.int .i64 x] 3) (h2 : Row w g #[.nilFunc, .nilFunc] 46) : b ≠ g := fun e => by
  subst e
  have h3 : (some (Obj.cells #[.int .i64 x] 3 (0, 0))) = some (Obj.cells #[.nilFunc, .nilFunc] 46 (0, 0)) := h.symm.trans h2
  simp at h3
theorem find_no (op : Int) (h : op ≤ 0 ∨ 9 ≤ op) (w : World) : Calls Tryz.prog 16 #[.int .i64 op] w fun x w' => x = .returned (.tuple #[.agg #[.nilFunc, .nilFunc], .bool false]) ∧ Below w.heap.size w w' := by
  obtain ⟨W1, hW1⟩ : ∃ W1, W1 = w.alloc (.cells #[.nilFunc, .nilFunc] 46) := ⟨_, rfl⟩
  have hb1 : Below w.heap.size w W1 := by rw [hW1]; go_grown
  have hx1 : Row W1 w.heap.size #[.nilFunc, .nilFunc] 46 := by rw [hW1]; exact Row.new _ _ _
  have q0 : W1.cell? ⟨w.heap.size, 0, none⟩ = some .nilFunc := hx1.cell 0 rfl
  have fq0 := hx1.thaw 0
  have q1 : W1.cell? ⟨w.heap.size, 1, none⟩ = some .nilFunc := hx1.cell 1 rfl
  have fq1 := hx1.thaw 1
  go_enter Tryz.func16, Tryz.ntmps16
  go_upto_region 1 with fail
  rw [← hW1]
  clear hW1
  by_cases h0 : op ≤ 0
  · have e0 : decide (op ≤ 0) = true := by simp [h0]
    go_wp2_with fail
    exact bodyPost_ret (find_end (hx1.set2 _ _) rfl rfl) rfl ⟨rfl, below2 hb1 (Nat.le_refl _) _ _⟩
  · have e0 : decide (op ≤ 0) = false := by simp; omega
    have e1 : decide (9 ≤ op) = true := by simp; omega
    go_wp2_with fail
    exact bodyPost_ret (find_end (hx1.set2 _ _) rfl rfl) rfl ⟨rfl, below2 hb1 (Nat.le_refl _) _ _⟩

theorem idx_1 (g1 g2 g3 g4 g5 : Nat) (w : World) : (Instr.index 59 (.agg #[.nilFunc, .nilFunc, .func (.func 39) #[] #[], .func (.func 59) #[] #[.pointer (some ⟨g1, 0, none⟩), .pointer (some ⟨g1 + 1, 0, none⟩)], .func (.func 41) #[] #[], .func (.func 61) #[] #[.pointer (some ⟨g2, 0, none⟩)], .func (.func 43) #[] #[], .func (.func 44) #[] #[], .func (.func 45) #[] #[], .func (.func 59) #[] #[.pointer (some ⟨g3, 0, none⟩), .pointer (some ⟨g3 + 1, 0, none⟩)], .func (.func 46) #[] #[], .func (.func 59) #[] #[.pointer (some ⟨g4, 0, none⟩), .pointer (some ⟨g4 + 1, 0, none⟩)], .func (.func 47) #[] #[], .func (.func 48) #[] #[], .func (.func 50) #[] #[], .func (.func 61) #[] #[.pointer (some ⟨g5, 0, none⟩)], .func (.func 51) #[] #[], .func (.func 52) #[] #[]]) (.int .i64 1)).run Tryz.prog w = .ok (.agg #[.func (.func 39) #[] #[], .func (.func 59) #[] #[.pointer (some ⟨g1, 0, none⟩), .pointer (some ⟨g1 + 1, 0, none⟩)]]) w := by kernel_rfl

set_option maxRecDepth 100000 in
set_option maxHeartbeats 1600000 in
theorem find_1 (w : World) : Calls Tryz.prog 16 #[.int .i64 1] w fun x w' => ∃ g1 g2 g3 g4 g5, x = .returned (.tuple #[.agg #[.func (.func 39) #[] #[], .func (.func 59) #[] #[.pointer (some ⟨g1, 0, none⟩), .pointer (some ⟨g1 + 1, 0, none⟩)]], .bool true]) ∧ Row w' g1 #[.int .i64 5] 3 ∧ Row w' (g1 + 1) #[.int .i64 (-1)] 3 ∧ Row w' g3 #[.int .i64 0] 3 ∧ Row w' (g3 + 1) #[.int .i64 1] 3 ∧ Row w' g4 #[.int .i64 1] 3 ∧ Row w' (g4 + 1) #[.int .i64 4] 3 ∧ Row w' g2 #[.int .i64 8] 3 ∧ Row w' g5 #[.int .i64 9] 3 ∧ Below w.heap.size w w' := by
  obtain ⟨W1, hW1⟩ : ∃ W1, W1 = w.alloc (.cells #[.nilFunc, .nilFunc] 46) := ⟨_, rfl⟩
  have hb1 : Below w.heap.size w W1 := by rw [hW1]; go_grown
  have hx1 : Row W1 w.heap.size #[.nilFunc, .nilFunc] 46 := by rw [hW1]; exact Row.new _ _ _
  go_enter Tryz.func16, Tryz.ntmps16
  go_upto_region 1 with fail
  rw [← hW1]
  clear hW1
  go_wp2_with fail
  refine (mappings_any _).mono ?_
  rintro e w2 ⟨g1, g2, g3, g4, g5, rfl, ha1, ha2, hd1, hd2, he1, he2, hc1, hf1, hb2⟩
  have hx2 := hx1.later hb2
  have q0 : w2.cell? ⟨w.heap.size, 0, none⟩ = some .nilFunc := hx2.cell 0 rfl
  have fq0 := hx2.thaw 0
  have q1 : w2.cell? ⟨w.heap.size, 1, none⟩ = some .nilFunc := hx2.cell 1 rfl
  have fq1 := hx2.thaw 1
  have hlt := hx1.lt
  have n1 := tab_ne ha1 hx2
  have n2 := tab_ne ha2 hx2
  have n3 := tab_ne hd1 hx2
  have n4 := tab_ne hd2 hx2
  have n5 := tab_ne he1 hx2
  have n6 := tab_ne he2 hx2
  have n7 := tab_ne hc1 hx2
  have n8 := tab_ne hf1 hx2
  have hix := idx_1 g1 g2 g3 g4 g5
  unfold tabV
  dsimp only
  go_wp2_with fail
  exact bodyPost_ret (find_end (hx2.set2 _ _) rfl rfl) rfl ⟨g1, g2, g3, g4, g5, rfl, ha1.oth2 n1 _ _, ha2.oth2 n2 _ _, hd1.oth2 n3 _ _, hd2.oth2 n4 _ _, he1.oth2 n5 _ _, he2.oth2 n6 _ _, hc1.oth2 n7 _ _, hf1.oth2 n8 _ _, below2 (hb1.trans (hb2.mono hb1.size)) (Nat.le_refl _) _ _⟩

theorem idx_2 (g1 g2 g3 g4 g5 : Nat) (w : World) : (Instr.index 59 (.agg #[.nilFunc, .nilFunc, .func (.func 39) #[] #[], .func (.func 59) #[] #[.pointer (some ⟨g1, 0, none⟩), .pointer (some ⟨g1 + 1, 0, none⟩)], .func (.func 41) #[] #[], .func (.func 61) #[] #[.pointer (some ⟨g2, 0, none⟩)], .func (.func 43) #[] #[], .func (.func 44) #[] #[], .func (.func 45) #[] #[], .func (.func 59) #[] #[.pointer (some ⟨g3, 0, none⟩), .pointer (some ⟨g3 + 1, 0, none⟩)], .func (.func 46) #[] #[], .func (.func 59) #[] #[.pointer (some ⟨g4, 0, none⟩), .pointer (some ⟨g4 + 1, 0, none⟩)], .func (.func 47) #[] #[], .func (.func 48) #[] #[], .func (.func 50) #[] #[], .func (.func 61) #[] #[.pointer (some ⟨g5, 0, none⟩)], .func (.func 51) #[] #[], .func (.func 52) #[] #[]]) (.int .i64 2)).run Tryz.prog w = .ok (.agg #[.func (.func 41) #[] #[], .func (.func 61) #[] #[.pointer (some ⟨g2, 0, none⟩)]]) w := by kernel_rfl

set_option maxRecDepth 100000 in
set_option maxHeartbeats 1600000 in
theorem find_2 (w : World) : Calls Tryz.prog 16 #[.int .i64 2] w fun x w' => ∃ g1 g2 g3 g4 g5, x = .returned (.tuple #[.agg #[.func (.func 41) #[] #[], .func (.func 61) #[] #[.pointer (some ⟨g2, 0, none⟩)]], .bool true]) ∧ Row w' g1 #[.int .i64 5] 3 ∧ Row w' (g1 + 1) #[.int .i64 (-1)] 3 ∧ Row w' g3 #[.int .i64 0] 3 ∧ Row w' (g3 + 1) #[.int .i64 1] 3 ∧ Row w' g4 #[.int .i64 1] 3 ∧ Row w' (g4 + 1) #[.int .i64 4] 3 ∧ Row w' g2 #[.int .i64 8] 3 ∧ Row w' g5 #[.int .i64 9] 3 ∧ Below w.heap.size w w' := by
  obtain ⟨W1, hW1⟩ : ∃ W1, W1 = w.alloc (.cells #[.nilFunc, .nilFunc] 46) := ⟨_, rfl⟩
  have hb1 : Below w.heap.size w W1 := by rw [hW1]; go_grown
  have hx1 : Row W1 w.heap.size #[.nilFunc, .nilFunc] 46 := by rw [hW1]; exact Row.new _ _ _
  go_enter Tryz.func16, Tryz.ntmps16
  go_upto_region 1 with fail
  rw [← hW1]
  clear hW1
  go_wp2_with fail
  refine (mappings_any _).mono ?_
  rintro e w2 ⟨g1, g2, g3, g4, g5, rfl, ha1, ha2, hd1, hd2, he1, he2, hc1, hf1, hb2⟩
  have hx2 := hx1.later hb2
  have q0 : w2.cell? ⟨w.heap.size, 0, none⟩ = some .nilFunc := hx2.cell 0 rfl
  have fq0 := hx2.thaw 0
  have q1 : w2.cell? ⟨w.heap.size, 1, none⟩ = some .nilFunc := hx2.cell 1 rfl
  have fq1 := hx2.thaw 1
  have hlt := hx1.lt
  have n1 := tab_ne ha1 hx2
  have n2 := tab_ne ha2 hx2
  have n3 := tab_ne hd1 hx2
  have n4 := tab_ne hd2 hx2
  have n5 := tab_ne he1 hx2
  have n6 := tab_ne he2 hx2
  have n7 := tab_ne hc1 hx2
  have n8 := tab_ne hf1 hx2
  have hix := idx_2 g1 g2 g3 g4 g5
  unfold tabV
  dsimp only
  go_wp2_with fail
  exact bodyPost_ret (find_end (hx2.set2 _ _) rfl rfl) rfl ⟨g1, g2, g3, g4, g5, rfl, ha1.oth2 n1 _ _, ha2.oth2 n2 _ _, hd1.oth2 n3 _ _, hd2.oth2 n4 _ _, he1.oth2 n5 _ _, he2.oth2 n6 _ _, hc1.oth2 n7 _ _, hf1.oth2 n8 _ _, below2 (hb1.trans (hb2.mono hb1.size)) (Nat.le_refl _) _ _⟩

theorem idx_3 (g1 g2 g3 g4 g5 : Nat) (w : World) : (Instr.index 59 (.agg #[.nilFunc, .nilFunc, .func (.func 39) #[] #[], .func (.func 59) #[] #[.pointer (some ⟨g1, 0, none⟩), .pointer (some ⟨g1 + 1, 0, none⟩)], .func (.func 41) #[] #[], .func (.func 61) #[] #[.pointer (some ⟨g2, 0, none⟩)], .func (.func 43) #[] #[], .func (.func 44) #[] #[], .func (.func 45) #[] #[], .func (.func 59) #[] #[.pointer (some ⟨g3, 0, none⟩), .pointer (some ⟨g3 + 1, 0, none⟩)], .func (.func 46) #[] #[], .func (.func 59) #[] #[.pointer (some ⟨g4, 0, none⟩), .pointer (some ⟨g4 + 1, 0, none⟩)], .func (.func 47) #[] #[], .func (.func 48) #[] #[], .func (.func 50) #[] #[], .func (.func 61) #[] #[.pointer (some ⟨g5, 0, none⟩)], .func (.func 51) #[] #[], .func (.func 52) #[] #[]]) (.int .i64 3)).run Tryz.prog w = .ok (.agg #[.func (.func 43) #[] #[], .func (.func 44) #[] #[]]) w := by kernel_rfl

set_option maxRecDepth 100000 in
set_option maxHeartbeats 1600000 in
theorem find_3 (w : World) : Calls Tryz.prog 16 #[.int .i64 3] w fun x w' => ∃ g1 g2 g3 g4 g5, x = .returned (.tuple #[.agg #[.func (.func 43) #[] #[], .func (.func 44) #[] #[]], .bool true]) ∧ Row w' g1 #[.int .i64 5] 3 ∧ Row w' (g1 + 1) #[.int .i64 (-1)] 3 ∧ Row w' g3 #[.int .i64 0] 3 ∧ Row w' (g3 + 1) #[.int .i64 1] 3 ∧ Row w' g4 #[.int .i64 1] 3 ∧ Row w' (g4 + 1) #[.int .i64 4] 3 ∧ Row w' g2 #[.int .i64 8] 3 ∧ Row w' g5 #[.int .i64 9] 3 ∧ Below w.heap.size w w' := by
  obtain ⟨W1, hW1⟩ : ∃ W1, W1 = w.alloc (.cells #[.nilFunc, .nilFunc] 46) := ⟨_, rfl⟩
  have hb1 : Below w.heap.size w W1 := by rw [hW1]; go_grown
  have hx1 : Row W1 w.heap.size #[.nilFunc, .nilFunc] 46 := by rw [hW1]; exact Row.new _ _ _
  go_enter Tryz.func16, Tryz.ntmps16
  go_upto_region 1 with fail
  rw [← hW1]
  clear hW1
  go_wp2_with fail
  refine (mappings_any _).mono ?_
  rintro e w2 ⟨g1, g2, g3, g4, g5, rfl, ha1, ha2, hd1, hd2, he1, he2, hc1, hf1, hb2⟩
  have hx2 := hx1.later hb2
  have q0 : w2.cell? ⟨w.heap.size, 0, none⟩ = some .nilFunc := hx2.cell 0 rfl
  have fq0 := hx2.thaw 0
  have q1 : w2.cell? ⟨w.heap.size, 1, none⟩ = some .nilFunc := hx2.cell 1 rfl
  have fq1 := hx2.thaw 1
  have hlt := hx1.lt
  have n1 := tab_ne ha1 hx2
  have n2 := tab_ne ha2 hx2
  have n3 := tab_ne hd1 hx2
  have n4 := tab_ne hd2 hx2
  have n5 := tab_ne he1 hx2
  have n6 := tab_ne he2 hx2
  have n7 := tab_ne hc1 hx2
  have n8 := tab_ne hf1 hx2
  have hix := idx_3 g1 g2 g3 g4 g5
  unfold tabV
  dsimp only
  go_wp2_with fail
  exact bodyPost_ret (find_end (hx2.set2 _ _) rfl rfl) rfl ⟨g1, g2, g3, g4, g5, rfl, ha1.oth2 n1 _ _, ha2.oth2 n2 _ _, hd1.oth2 n3 _ _, hd2.oth2 n4 _ _, he1.oth2 n5 _ _, he2.oth2 n6 _ _, hc1.oth2 n7 _ _, hf1.oth2 n8 _ _, below2 (hb1.trans (hb2.mono hb1.size)) (Nat.le_refl _) _ _⟩

theorem idx_4 (g1 g2 g3 g4 g5 : Nat) (w : World) : (Instr.index 59 (.agg #[.nilFunc, .nilFunc, .func (.func 39) #[] #[], .func (.func 59) #[] #[.pointer (some ⟨g1, 0, none⟩), .pointer (some ⟨g1 + 1, 0, none⟩)], .func (.func 41) #[] #[], .func (.func 61) #[] #[.pointer (some ⟨g2, 0, none⟩)], .func (.func 43) #[] #[], .func (.func 44) #[] #[], .func (.func 45) #[] #[], .func (.func 59) #[] #[.pointer (some ⟨g3, 0, none⟩), .pointer (some ⟨g3 + 1, 0, none⟩)], .func (.func 46) #[] #[], .func (.func 59) #[] #[.pointer (some ⟨g4, 0, none⟩), .pointer (some ⟨g4 + 1, 0, none⟩)], .func (.func 47) #[] #[], .func (.func 48) #[] #[], .func (.func 50) #[] #[], .func (.func 61) #[] #[.pointer (some ⟨g5, 0, none⟩)], .func (.func 51) #[] #[], .func (.func 52) #[] #[]]) (.int .i64 4)).run Tryz.prog w = .ok (.agg #[.func (.func 45) #[] #[], .func (.func 59) #[] #[.pointer (some ⟨g3, 0, none⟩), .pointer (some ⟨g3 + 1, 0, none⟩)]]) w := by kernel_rfl

set_option maxRecDepth 100000 in
set_option maxHeartbeats 1600000 in
theorem find_4 (w : World) : Calls Tryz.prog 16 #[.int .i64 4] w fun x w' => ∃ g1 g2 g3 g4 g5, x = .returned (.tuple #[.agg #[.func (.func 45) #[] #[], .func (.func 59) #[] #[.pointer (some ⟨g3, 0, none⟩), .pointer (some ⟨g3 + 1, 0, none⟩)]], .bool true]) ∧ Row w' g1 #[.int .i64 5] 3 ∧ Row w' (g1 + 1) #[.int .i64 (-1)] 3 ∧ Row w' g3 #[.int .i64 0] 3 ∧ Row w' (g3 + 1) #[.int .i64 1] 3 ∧ Row w' g4 #[.int .i64 1] 3 ∧ Row w' (g4 + 1) #[.int .i64 4] 3 ∧ Row w' g2 #[.int .i64 8] 3 ∧ Row w' g5 #[.int .i64 9] 3 ∧ Below w.heap.size w w' := by
  obtain ⟨W1, hW1⟩ : ∃ W1, W1 = w.alloc (.cells #[.nilFunc, .nilFunc] 46) := ⟨_, rfl⟩
  have hb1 : Below w.heap.size w W1 := by rw [hW1]; go_grown
  have hx1 : Row W1 w.heap.size #[.nilFunc, .nilFunc] 46 := by rw [hW1]; exact Row.new _ _ _
  go_enter Tryz.func16, Tryz.ntmps16
  go_upto_region 1 with fail
  rw [← hW1]
  clear hW1
  go_wp2_with fail
  refine (mappings_any _).mono ?_
  rintro e w2 ⟨g1, g2, g3, g4, g5, rfl, ha1, ha2, hd1, hd2, he1, he2, hc1, hf1, hb2⟩
  have hx2 := hx1.later hb2
  have q0 : w2.cell? ⟨w.heap.size, 0, none⟩ = some .nilFunc := hx2.cell 0 rfl
  have fq0 := hx2.thaw 0
  have q1 : w2.cell? ⟨w.heap.size, 1, none⟩ = some .nilFunc := hx2.cell 1 rfl
  have fq1 := hx2.thaw 1
  have hlt := hx1.lt
  have n1 := tab_ne ha1 hx2
  have n2 := tab_ne ha2 hx2
  have n3 := tab_ne hd1 hx2
  have n4 := tab_ne hd2 hx2
  have n5 := tab_ne he1 hx2
  have n6 := tab_ne he2 hx2
  have n7 := tab_ne hc1 hx2
  have n8 := tab_ne hf1 hx2
  have hix := idx_4 g1 g2 g3 g4 g5
  unfold tabV
  dsimp only
  go_wp2_with fail
  exact bodyPost_ret (find_end (hx2.set2 _ _) rfl rfl) rfl ⟨g1, g2, g3, g4, g5, rfl, ha1.oth2 n1 _ _, ha2.oth2 n2 _ _, hd1.oth2 n3 _ _, hd2.oth2 n4 _ _, he1.oth2 n5 _ _, he2.oth2 n6 _ _, hc1.oth2 n7 _ _, hf1.oth2 n8 _ _, below2 (hb1.trans (hb2.mono hb1.size)) (Nat.le_refl _) _ _⟩

theorem idx_5 (g1 g2 g3 g4 g5 : Nat) (w : World) : (Instr.index 59 (.agg #[.nilFunc, .nilFunc, .func (.func 39) #[] #[], .func (.func 59) #[] #[.pointer (some ⟨g1, 0, none⟩), .pointer (some ⟨g1 + 1, 0, none⟩)], .func (.func 41) #[] #[], .func (.func 61) #[] #[.pointer (some ⟨g2, 0, none⟩)], .func (.func 43) #[] #[], .func (.func 44) #[] #[], .func (.func 45) #[] #[], .func (.func 59) #[] #[.pointer (some ⟨g3, 0, none⟩), .pointer (some ⟨g3 + 1, 0, none⟩)], .func (.func 46) #[] #[], .func (.func 59) #[] #[.pointer (some ⟨g4, 0, none⟩), .pointer (some ⟨g4 + 1, 0, none⟩)], .func (.func 47) #[] #[], .func (.func 48) #[] #[], .func (.func 50) #[] #[], .func (.func 61) #[] #[.pointer (some ⟨g5, 0, none⟩)], .func (.func 51) #[] #[], .func (.func 52) #[] #[]]) (.int .i64 5)).run Tryz.prog w = .ok (.agg #[.func (.func 46) #[] #[], .func (.func 59) #[] #[.pointer (some ⟨g4, 0, none⟩), .pointer (some ⟨g4 + 1, 0, none⟩)]]) w := by kernel_rfl

set_option maxRecDepth 100000 in
set_option maxHeartbeats 1600000 in
theorem find_5 (w : World) : Calls Tryz.prog 16 #[.int .i64 5] w fun x w' => ∃ g1 g2 g3 g4 g5, x = .returned (.tuple #[.agg #[.func (.func 46) #[] #[], .func (.func 59) #[] #[.pointer (some ⟨g4, 0, none⟩), .pointer (some ⟨g4 + 1, 0, none⟩)]], .bool true]) ∧ Row w' g1 #[.int .i64 5] 3 ∧ Row w' (g1 + 1) #[.int .i64 (-1)] 3 ∧ Row w' g3 #[.int .i64 0] 3 ∧ Row w' (g3 + 1) #[.int .i64 1] 3 ∧ Row w' g4 #[.int .i64 1] 3 ∧ Row w' (g4 + 1) #[.int .i64 4] 3 ∧ Row w' g2 #[.int .i64 8] 3 ∧ Row w' g5 #[.int .i64 9] 3 ∧ Below w.heap.size w w' := by
  obtain ⟨W1, hW1⟩ : ∃ W1, W1 = w.alloc (.cells #[.nilFunc, .nilFunc] 46) := ⟨_, rfl⟩
  have hb1 : Below w.heap.size w W1 := by rw [hW1]; go_grown
  have hx1 : Row W1 w.heap.size #[.nilFunc, .nilFunc] 46 := by rw [hW1]; exact Row.new _ _ _
  go_enter Tryz.func16, Tryz.ntmps16
  go_upto_region 1 with fail
  rw [← hW1]
  clear hW1
  go_wp2_with fail
  refine (mappings_any _).mono ?_
  rintro e w2 ⟨g1, g2, g3, g4, g5, rfl, ha1, ha2, hd1, hd2, he1, he2, hc1, hf1, hb2⟩
  have hx2 := hx1.later hb2
  have q0 : w2.cell? ⟨w.heap.size, 0, none⟩ = some .nilFunc := hx2.cell 0 rfl
  have fq0 := hx2.thaw 0
  have q1 : w2.cell? ⟨w.heap.size, 1, none⟩ = some .nilFunc := hx2.cell 1 rfl
  have fq1 := hx2.thaw 1
  have hlt := hx1.lt
  have n1 := tab_ne ha1 hx2
  have n2 := tab_ne ha2 hx2
  have n3 := tab_ne hd1 hx2
  have n4 := tab_ne hd2 hx2
  have n5 := tab_ne he1 hx2
  have n6 := tab_ne he2 hx2
  have n7 := tab_ne hc1 hx2
  have n8 := tab_ne hf1 hx2
  have hix := idx_5 g1 g2 g3 g4 g5
  unfold tabV
  dsimp only
  go_wp2_with fail
  exact bodyPost_ret (find_end (hx2.set2 _ _) rfl rfl) rfl ⟨g1, g2, g3, g4, g5, rfl, ha1.oth2 n1 _ _, ha2.oth2 n2 _ _, hd1.oth2 n3 _ _, hd2.oth2 n4 _ _, he1.oth2 n5 _ _, he2.oth2 n6 _ _, hc1.oth2 n7 _ _, hf1.oth2 n8 _ _, below2 (hb1.trans (hb2.mono hb1.size)) (Nat.le_refl _) _ _⟩

theorem idx_6 (g1 g2 g3 g4 g5 : Nat) (w : World) : (Instr.index 59 (.agg #[.nilFunc, .nilFunc, .func (.func 39) #[] #[], .func (.func 59) #[] #[.pointer (some ⟨g1, 0, none⟩), .pointer (some ⟨g1 + 1, 0, none⟩)], .func (.func 41) #[] #[], .func (.func 61) #[] #[.pointer (some ⟨g2, 0, none⟩)], .func (.func 43) #[] #[], .func (.func 44) #[] #[], .func (.func 45) #[] #[], .func (.func 59) #[] #[.pointer (some ⟨g3, 0, none⟩), .pointer (some ⟨g3 + 1, 0, none⟩)], .func (.func 46) #[] #[], .func (.func 59) #[] #[.pointer (some ⟨g4, 0, none⟩), .pointer (some ⟨g4 + 1, 0, none⟩)], .func (.func 47) #[] #[], .func (.func 48) #[] #[], .func (.func 50) #[] #[], .func (.func 61) #[] #[.pointer (some ⟨g5, 0, none⟩)], .func (.func 51) #[] #[], .func (.func 52) #[] #[]]) (.int .i64 6)).run Tryz.prog w = .ok (.agg #[.func (.func 47) #[] #[], .func (.func 48) #[] #[]]) w := by kernel_rfl

set_option maxRecDepth 100000 in
set_option maxHeartbeats 1600000 in
theorem find_6 (w : World) : Calls Tryz.prog 16 #[.int .i64 6] w fun x w' => ∃ g1 g2 g3 g4 g5, x = .returned (.tuple #[.agg #[.func (.func 47) #[] #[], .func (.func 48) #[] #[]], .bool true]) ∧ Row w' g1 #[.int .i64 5] 3 ∧ Row w' (g1 + 1) #[.int .i64 (-1)] 3 ∧ Row w' g3 #[.int .i64 0] 3 ∧ Row w' (g3 + 1) #[.int .i64 1] 3 ∧ Row w' g4 #[.int .i64 1] 3 ∧ Row w' (g4 + 1) #[.int .i64 4] 3 ∧ Row w' g2 #[.int .i64 8] 3 ∧ Row w' g5 #[.int .i64 9] 3 ∧ Below w.heap.size w w' := by
  obtain ⟨W1, hW1⟩ : ∃ W1, W1 = w.alloc (.cells #[.nilFunc, .nilFunc] 46) := ⟨_, rfl⟩
  have hb1 : Below w.heap.size w W1 := by rw [hW1]; go_grown
  have hx1 : Row W1 w.heap.size #[.nilFunc, .nilFunc] 46 := by rw [hW1]; exact Row.new _ _ _
  go_enter Tryz.func16, Tryz.ntmps16
  go_upto_region 1 with fail
  rw [← hW1]
  clear hW1
  go_wp2_with fail
  refine (mappings_any _).mono ?_
  rintro e w2 ⟨g1, g2, g3, g4, g5, rfl, ha1, ha2, hd1, hd2, he1, he2, hc1, hf1, hb2⟩
  have hx2 := hx1.later hb2
  have q0 : w2.cell? ⟨w.heap.size, 0, none⟩ = some .nilFunc := hx2.cell 0 rfl
  have fq0 := hx2.thaw 0
  have q1 : w2.cell? ⟨w.heap.size, 1, none⟩ = some .nilFunc := hx2.cell 1 rfl
  have fq1 := hx2.thaw 1
  have hlt := hx1.lt
  have n1 := tab_ne ha1 hx2
  have n2 := tab_ne ha2 hx2
  have n3 := tab_ne hd1 hx2
  have n4 := tab_ne hd2 hx2
  have n5 := tab_ne he1 hx2
  have n6 := tab_ne he2 hx2
  have n7 := tab_ne hc1 hx2
  have n8 := tab_ne hf1 hx2
  have hix := idx_6 g1 g2 g3 g4 g5
  unfold tabV
  dsimp only
  go_wp2_with fail
  exact bodyPost_ret (find_end (hx2.set2 _ _) rfl rfl) rfl ⟨g1, g2, g3, g4, g5, rfl, ha1.oth2 n1 _ _, ha2.oth2 n2 _ _, hd1.oth2 n3 _ _, hd2.oth2 n4 _ _, he1.oth2 n5 _ _, he2.oth2 n6 _ _, hc1.oth2 n7 _ _, hf1.oth2 n8 _ _, below2 (hb1.trans (hb2.mono hb1.size)) (Nat.le_refl _) _ _⟩

theorem idx_7 (g1 g2 g3 g4 g5 : Nat) (w : World) : (Instr.index 59 (.agg #[.nilFunc, .nilFunc, .func (.func 39) #[] #[], .func (.func 59) #[] #[.pointer (some ⟨g1, 0, none⟩), .pointer (some ⟨g1 + 1, 0, none⟩)], .func (.func 41) #[] #[], .func (.func 61) #[] #[.pointer (some ⟨g2, 0, none⟩)], .func (.func 43) #[] #[], .func (.func 44) #[] #[], .func (.func 45) #[] #[], .func (.func 59) #[] #[.pointer (some ⟨g3, 0, none⟩), .pointer (some ⟨g3 + 1, 0, none⟩)], .func (.func 46) #[] #[], .func (.func 59) #[] #[.pointer (some ⟨g4, 0, none⟩), .pointer (some ⟨g4 + 1, 0, none⟩)], .func (.func 47) #[] #[], .func (.func 48) #[] #[], .func (.func 50) #[] #[], .func (.func 61) #[] #[.pointer (some ⟨g5, 0, none⟩)], .func (.func 51) #[] #[], .func (.func 52) #[] #[]]) (.int .i64 7)).run Tryz.prog w = .ok (.agg #[.func (.func 50) #[] #[], .func (.func 61) #[] #[.pointer (some ⟨g5, 0, none⟩)]]) w := by kernel_rfl

set_option maxRecDepth 100000 in
set_option maxHeartbeats 1600000 in
theorem find_7 (w : World) : Calls Tryz.prog 16 #[.int .i64 7] w fun x w' => ∃ g1 g2 g3 g4 g5, x = .returned (.tuple #[.agg #[.func (.func 50) #[] #[], .func (.func 61) #[] #[.pointer (some ⟨g5, 0, none⟩)]], .bool true]) ∧ Row w' g1 #[.int .i64 5] 3 ∧ Row w' (g1 + 1) #[.int .i64 (-1)] 3 ∧ Row w' g3 #[.int .i64 0] 3 ∧ Row w' (g3 + 1) #[.int .i64 1] 3 ∧ Row w' g4 #[.int .i64 1] 3 ∧ Row w' (g4 + 1) #[.int .i64 4] 3 ∧ Row w' g2 #[.int .i64 8] 3 ∧ Row w' g5 #[.int .i64 9] 3 ∧ Below w.heap.size w w' := by
  obtain ⟨W1, hW1⟩ : ∃ W1, W1 = w.alloc (.cells #[.nilFunc, .nilFunc] 46) := ⟨_, rfl⟩
  have hb1 : Below w.heap.size w W1 := by rw [hW1]; go_grown
  have hx1 : Row W1 w.heap.size #[.nilFunc, .nilFunc] 46 := by rw [hW1]; exact Row.new _ _ _
  go_enter Tryz.func16, Tryz.ntmps16
  go_upto_region 1 with fail
  rw [← hW1]
  clear hW1
  go_wp2_with fail
  refine (mappings_any _).mono ?_
  rintro e w2 ⟨g1, g2, g3, g4, g5, rfl, ha1, ha2, hd1, hd2, he1, he2, hc1, hf1, hb2⟩
  have hx2 := hx1.later hb2
  have q0 : w2.cell? ⟨w.heap.size, 0, none⟩ = some .nilFunc := hx2.cell 0 rfl
  have fq0 := hx2.thaw 0
  have q1 : w2.cell? ⟨w.heap.size, 1, none⟩ = some .nilFunc := hx2.cell 1 rfl
  have fq1 := hx2.thaw 1
  have hlt := hx1.lt
  have n1 := tab_ne ha1 hx2
  have n2 := tab_ne ha2 hx2
  have n3 := tab_ne hd1 hx2
  have n4 := tab_ne hd2 hx2
  have n5 := tab_ne he1 hx2
  have n6 := tab_ne he2 hx2
  have n7 := tab_ne hc1 hx2
  have n8 := tab_ne hf1 hx2
  have hix := idx_7 g1 g2 g3 g4 g5
  unfold tabV
  dsimp only
  go_wp2_with fail
  exact bodyPost_ret (find_end (hx2.set2 _ _) rfl rfl) rfl ⟨g1, g2, g3, g4, g5, rfl, ha1.oth2 n1 _ _, ha2.oth2 n2 _ _, hd1.oth2 n3 _ _, hd2.oth2 n4 _ _, he1.oth2 n5 _ _, he2.oth2 n6 _ _, hc1.oth2 n7 _ _, hf1.oth2 n8 _ _, below2 (hb1.trans (hb2.mono hb1.size)) (Nat.le_refl _) _ _⟩

theorem idx_8 (g1 g2 g3 g4 g5 : Nat) (w : World) : (Instr.index 59 (.agg #[.nilFunc, .nilFunc, .func (.func 39) #[] #[], .func (.func 59) #[] #[.pointer (some ⟨g1, 0, none⟩), .pointer (some ⟨g1 + 1, 0, none⟩)], .func (.func 41) #[] #[], .func (.func 61) #[] #[.pointer (some ⟨g2, 0, none⟩)], .func (.func 43) #[] #[], .func (.func 44) #[] #[], .func (.func 45) #[] #[], .func (.func 59) #[] #[.pointer (some ⟨g3, 0, none⟩), .pointer (some ⟨g3 + 1, 0, none⟩)], .func (.func 46) #[] #[], .func (.func 59) #[] #[.pointer (some ⟨g4, 0, none⟩), .pointer (some ⟨g4 + 1, 0, none⟩)], .func (.func 47) #[] #[], .func (.func 48) #[] #[], .func (.func 50) #[] #[], .func (.func 61) #[] #[.pointer (some ⟨g5, 0, none⟩)], .func (.func 51) #[] #[], .func (.func 52) #[] #[]]) (.int .i64 8)).run Tryz.prog w = .ok (.agg #[.func (.func 51) #[] #[], .func (.func 52) #[] #[]]) w := by kernel_rfl

set_option maxRecDepth 100000 in
set_option maxHeartbeats 1600000 in
theorem find_8 (w : World) : Calls Tryz.prog 16 #[.int .i64 8] w fun x w' => ∃ g1 g2 g3 g4 g5, x = .returned (.tuple #[.agg #[.func (.func 51) #[] #[], .func (.func 52) #[] #[]], .bool true]) ∧ Row w' g1 #[.int .i64 5] 3 ∧ Row w' (g1 + 1) #[.int .i64 (-1)] 3 ∧ Row w' g3 #[.int .i64 0] 3 ∧ Row w' (g3 + 1) #[.int .i64 1] 3 ∧ Row w' g4 #[.int .i64 1] 3 ∧ Row w' (g4 + 1) #[.int .i64 4] 3 ∧ Row w' g2 #[.int .i64 8] 3 ∧ Row w' g5 #[.int .i64 9] 3 ∧ Below w.heap.size w w' := by
  obtain ⟨W1, hW1⟩ : ∃ W1, W1 = w.alloc (.cells #[.nilFunc, .nilFunc] 46) := ⟨_, rfl⟩
  have hb1 : Below w.heap.size w W1 := by rw [hW1]; go_grown
  have hx1 : Row W1 w.heap.size #[.nilFunc, .nilFunc] 46 := by rw [hW1]; exact Row.new _ _ _
  go_enter Tryz.func16, Tryz.ntmps16
  go_upto_region 1 with fail
  rw [← hW1]
  clear hW1
  go_wp2_with fail
  refine (mappings_any _).mono ?_
  rintro e w2 ⟨g1, g2, g3, g4, g5, rfl, ha1, ha2, hd1, hd2, he1, he2, hc1, hf1, hb2⟩
  have hx2 := hx1.later hb2
  have q0 : w2.cell? ⟨w.heap.size, 0, none⟩ = some .nilFunc := hx2.cell 0 rfl
  have fq0 := hx2.thaw 0
  have q1 : w2.cell? ⟨w.heap.size, 1, none⟩ = some .nilFunc := hx2.cell 1 rfl
  have fq1 := hx2.thaw 1
  have hlt := hx1.lt
  have n1 := tab_ne ha1 hx2
  have n2 := tab_ne ha2 hx2
  have n3 := tab_ne hd1 hx2
  have n4 := tab_ne hd2 hx2
  have n5 := tab_ne he1 hx2
  have n6 := tab_ne he2 hx2
  have n7 := tab_ne hc1 hx2
  have n8 := tab_ne hf1 hx2
  have hix := idx_8 g1 g2 g3 g4 g5
  unfold tabV
  dsimp only
  go_wp2_with fail
  exact bodyPost_ret (find_end (hx2.set2 _ _) rfl rfl) rfl ⟨g1, g2, g3, g4, g5, rfl, ha1.oth2 n1 _ _, ha2.oth2 n2 _ _, hd1.oth2 n3 _ _, hd2.oth2 n4 _ _, he1.oth2 n5 _ _, he2.oth2 n6 _ _, hc1.oth2 n7 _ _, hf1.oth2 n8 _ _, below2 (hb1.trans (hb2.mono hb1.size)) (Nat.le_refl _) _ _⟩
end Go.Proofs.YtecdniimikfbhaaGreatDoor
