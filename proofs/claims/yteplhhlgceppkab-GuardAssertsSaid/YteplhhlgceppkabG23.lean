/- Contract of guard's Try, from the act's. -/
import Derived.Test.YteplhhlgceppkabG22
namespace Go.Proofs.Yteplhhlgceppkab
open Go Go.RowKit Go.ChangeShapes Go.WideShapes

theorem act_worlds (w : World) (a0 a1 a2 a3 a4 a5 a6 a7 a8 a9 a10 a11 : Value) : ∃ W1, W1 = (w.alloc (.cells #[a0, a1, a2, a3, a4, a5, a6, a7, a8, a9, a10, a11] 27)).alloc (.cells #[.int .i64 0, .int .i64 0, .int .i64 0, .int .i64 0, .bool false, .int .i64 0, .int .i64 0, .int .u64 0, .string ⟨#[]⟩, .slice none 0 0] 35) ∧ Below w.heap.size w W1 ∧ Hid (W1.heap.size = w.heap.size + 2) ∧ Row W1 w.heap.size #[a0, a1, a2, a3, a4, a5, a6, a7, a8, a9, a10, a11] 27 ∧ Row W1 (w.heap.size + 1) #[.int .i64 0, .int .i64 0, .int .i64 0, .int .i64 0, .bool false, .int .i64 0, .int .i64 0, .int .u64 0, .string ⟨#[]⟩, .slice none 0 0] 35 := by
  refine ⟨_, rfl, by go_grown, Lib.hid (by simp), (Row.new w _ _).old _, ?_⟩
  have h := Row.new (w.alloc (.cells #[a0, a1, a2, a3, a4, a5, a6, a7, a8, a9, a10, a11] 27)) #[.int .i64 0, .int .i64 0, .int .i64 0, .int .i64 0, .bool false, .int .i64 0, .int .i64 0, .int .u64 0, .string ⟨#[]⟩, .slice none 0 0] 35
  simpa using h

set_option maxHeartbeats 800000 in
theorem try_ret (a0 a1 a2 a3 a4 a5 a6 a7 a8 a9 a10 a11 : Value) (o : Out) (w : World) (H : ∀ W, Below w.heap.size w W → Calls Try.prog 17 #[.agg #[a0, a1, a2, a3, a4, a5, a6, a7, a8, a9, a10, a11]] W fun x w' => ∃ v', x = .returned v' ∧ ResV w' (fun b => W.heap.size ≤ b) v' o ∧ Below W.heap.size W w') :
    Calls Try.prog 9 #[.agg #[a0, a1, a2, a3, a4, a5, a6, a7, a8, a9, a10, a11]] w fun x w' => ∃ v', x = .returned v' ∧ ResV w' (fun b => w.heap.size ≤ b) v' o ∧ Below w.heap.size w w' := by
  have HA := Lib.hid H
  have hmf := hmf
  clear H
  obtain ⟨W1, hW1, hb1, hz, hx1, hx2⟩ := act_worlds w a0 a1 a2 a3 a4 a5 a6 a7 a8 a9 a10 a11
  have p0 : W1.cell? ⟨w.heap.size, 0, none⟩ = some a0 := hx1.cell 0 rfl
  have p1 : W1.cell? ⟨w.heap.size, 1, none⟩ = some a1 := hx1.cell 1 rfl
  have p2 : W1.cell? ⟨w.heap.size, 2, none⟩ = some a2 := hx1.cell 2 rfl
  have p3 : W1.cell? ⟨w.heap.size, 3, none⟩ = some a3 := hx1.cell 3 rfl
  have p4 : W1.cell? ⟨w.heap.size, 4, none⟩ = some a4 := hx1.cell 4 rfl
  have p5 : W1.cell? ⟨w.heap.size, 5, none⟩ = some a5 := hx1.cell 5 rfl
  have p6 : W1.cell? ⟨w.heap.size, 6, none⟩ = some a6 := hx1.cell 6 rfl
  have p7 : W1.cell? ⟨w.heap.size, 7, none⟩ = some a7 := hx1.cell 7 rfl
  have p8 : W1.cell? ⟨w.heap.size, 8, none⟩ = some a8 := hx1.cell 8 rfl
  have p9 : W1.cell? ⟨w.heap.size, 9, none⟩ = some a9 := hx1.cell 9 rfl
  have p10 : W1.cell? ⟨w.heap.size, 10, none⟩ = some a10 := hx1.cell 10 rfl
  have p11 : W1.cell? ⟨w.heap.size, 11, none⟩ = some a11 := hx1.cell 11 rfl
  go_enter_defers Try.func9, Try.ntmps9
  go_upto_region 1 with fail
  rw [← hW1]
  clear hW1
  go_wp2_with (go_at_call 17; refine (HA.out _ hb1).mono ?_; rintro e w2 ⟨v', rfl, hv', hb2⟩; obtain ⟨r0, r1, r2, r3, r4, k5, m5, b5, t5, a5, n5, cap5, rfl⟩ := hv'.form; have hy := hx2.later hb2; have q0 : w2.cell? ⟨w.heap.size + 1, 0, none⟩ = some (.int .i64 0) := hy.cell 0 rfl; have f0 := hy.thaw 0; have q1 : w2.cell? ⟨w.heap.size + 1, 1, none⟩ = some (.int .i64 0) := hy.cell 1 rfl; have f1 := hy.thaw 1; have q2 : w2.cell? ⟨w.heap.size + 1, 2, none⟩ = some (.int .i64 0) := hy.cell 2 rfl; have f2 := hy.thaw 2; have q3 : w2.cell? ⟨w.heap.size + 1, 3, none⟩ = some (.int .i64 0) := hy.cell 3 rfl; have f3 := hy.thaw 3; have q4 : w2.cell? ⟨w.heap.size + 1, 4, none⟩ = some (.bool false) := hy.cell 4 rfl; have f4 := hy.thaw 4; have q5 : w2.cell? ⟨w.heap.size + 1, 5, none⟩ = some (.int .i64 0) := hy.cell 5 rfl; have f5 := hy.thaw 5; have q6 : w2.cell? ⟨w.heap.size + 1, 6, none⟩ = some (.int .i64 0) := hy.cell 6 rfl; have f6 := hy.thaw 6; have q7 : w2.cell? ⟨w.heap.size + 1, 7, none⟩ = some (.int .u64 0) := hy.cell 7 rfl; have f7 := hy.thaw 7; have q8 : w2.cell? ⟨w.heap.size + 1, 8, none⟩ = some (.string ⟨#[]⟩) := hy.cell 8 rfl; have f8 := hy.thaw 8; have q9 : w2.cell? ⟨w.heap.size + 1, 9, none⟩ = some (.slice none 0 0) := hy.cell 9 rfl; have f9 := hy.thaw 9; dsimp only)
  have hzo := hz.out
  refine leaves_cons (f := 15) (args := #[.pointer (some ⟨w.heap.size + 1, 0, none⟩)]) (by simp) (by simp [go_sem]) ?_
  refine (try1_idle _ _).mono ?_
  rintro e u' W' ⟨rfl, rfl, rfl⟩
  exact ⟨_, results_cell_row rfl _ _ (w.heap.size + 1) 35 _ (0, 0) _ rfl (hy.set10 _ _ _ _ _ _ _ _ _ _) Try.underlying35 rfl (by kernel_rfl), _, rfl, hv'.set10 (by omega) (by omega), set10_below (hb1.trans (hb2.mono (by omega))) (by omega)⟩

set_option maxHeartbeats 800000 in
theorem try_pan (a0 a1 a2 a3 a4 a5 a6 a7 a8 a9 a10 a11 : Value) (T : TypeId) (v : Value) (k n : Int) (hT : ThrP T v k n) (w : World) (H : ∀ W, Below w.heap.size w W → Calls Try.prog 17 #[.agg #[a0, a1, a2, a3, a4, a5, a6, a7, a8, a9, a10, a11]] W fun x w' => x = .panicked (thrown T v) ∧ Below W.heap.size W w') :
    Calls Try.prog 9 #[.agg #[a0, a1, a2, a3, a4, a5, a6, a7, a8, a9, a10, a11]] w fun x w' => ∃ v', x = .returned v' ∧ ResV w' (fun b => w.heap.size ≤ b) v' (.pan k n) ∧ Below w.heap.size w w' := by
  have HA := Lib.hid H
  have hmf := hmf
  have HT := Lib.hid hT
  clear H hT
  obtain ⟨W1, hW1, hb1, hz, hx1, hx2⟩ := act_worlds w a0 a1 a2 a3 a4 a5 a6 a7 a8 a9 a10 a11
  have p0 : W1.cell? ⟨w.heap.size, 0, none⟩ = some a0 := hx1.cell 0 rfl
  have p1 : W1.cell? ⟨w.heap.size, 1, none⟩ = some a1 := hx1.cell 1 rfl
  have p2 : W1.cell? ⟨w.heap.size, 2, none⟩ = some a2 := hx1.cell 2 rfl
  have p3 : W1.cell? ⟨w.heap.size, 3, none⟩ = some a3 := hx1.cell 3 rfl
  have p4 : W1.cell? ⟨w.heap.size, 4, none⟩ = some a4 := hx1.cell 4 rfl
  have p5 : W1.cell? ⟨w.heap.size, 5, none⟩ = some a5 := hx1.cell 5 rfl
  have p6 : W1.cell? ⟨w.heap.size, 6, none⟩ = some a6 := hx1.cell 6 rfl
  have p7 : W1.cell? ⟨w.heap.size, 7, none⟩ = some a7 := hx1.cell 7 rfl
  have p8 : W1.cell? ⟨w.heap.size, 8, none⟩ = some a8 := hx1.cell 8 rfl
  have p9 : W1.cell? ⟨w.heap.size, 9, none⟩ = some a9 := hx1.cell 9 rfl
  have p10 : W1.cell? ⟨w.heap.size, 10, none⟩ = some a10 := hx1.cell 10 rfl
  have p11 : W1.cell? ⟨w.heap.size, 11, none⟩ = some a11 := hx1.cell 11 rfl
  go_enter_defers Try.func9, Try.ntmps9
  go_upto_region 1 with fail
  rw [← hW1]
  clear hW1
  go_wp2_with (go_at_call 17; refine (HA.out _ hb1).mono ?_; rintro e w2 ⟨rfl, hb2⟩; have hy := hx2.later hb2)
  have hzo := hz.out
  refine leaves_cons (f := 15) (args := #[.pointer (some ⟨w.heap.size + 1, 0, none⟩)]) (by simp) (by simp [go_sem]) ?_
  refine (try1_panicking (w.heap.size + 1) T v k n HT.out [] _ _ _ _ _ _ _ _ _ _ _ hy).mono ?_
  rintro e u' W' ⟨rfl, rfl, hR, hB⟩
  exact ⟨_, results_cell_row rfl _ _ (w.heap.size + 1) 35 _ (0, 0) _ rfl hR Try.underlying35 rfl (by kernel_rfl), _, rfl, rfl, hB _ _ (hb1.trans (hb2.mono (by omega))) (by omega)⟩
end Go.Proofs.Yteplhhlgceppkab
