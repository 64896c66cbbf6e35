/- Shape: the law's awake. -/
import Derived.Test.YtecdniimikfbhaaGreatDoorS7
import Derived.Laws.StructEq
namespace Go.Proofs.YtecdniimikfbhaaGreatDoor
open Go Go.RowKit Go.ChangeShapes Go.WideShapes

theorem Rep.shape' {w : World} {k m b : Int} {t : ByteArray} {a : Option Addr} {l cap : Nat} {d : D} (h : Rep w (.agg #[.int .i64 k, .int .i64 m, .int .u64 b, .string t, .slice a l cap]) d) : ∃ kids, d = .mk k m b t kids ∧ kids.length = l := by
  obtain ⟨k0, m0, b0, t0, a0, cap0, g, o, c, kids, e, rfl, _⟩ := h.inv
  simp only [Value.agg.injEq, Array.mk.injEq, List.cons.injEq, Value.int.injEq, Value.slice.injEq, Value.string.injEq, true_and, and_true] at e
  obtain ⟨rfl, rfl, rfl, rfl, rfl, rfl, rfl⟩ := e
  exact ⟨kids, rfl, rfl⟩
theorem Rep.numForm {w : World} {v : Value} {n : Int} (h : Rep w v (numD n)) : ∃ a cap, v = .agg #[.int .i64 1, .int .i64 n, .int .u64 0, .string ⟨#[]⟩, .slice a 0 cap] := by
  obtain ⟨k, m, b, t, a, cap, g, o, c, kids, rfl, e, _⟩ := h.inv
  cases e
  exact ⟨a, cap, rfl⟩
theorem numD_valid {n : Int} (W : World) (v : Value) (h : Rep W v (numD n)) : Calls Tryz.prog 18 #[v] W fun x w' => x = .returned (.bool true) ∧ Below W.heap.size W w' := by
  obtain ⟨a, cap, rfl⟩ := h.numForm
  exact dvalid_int n a cap W
theorem map_int5 (w : World) : Calls Tryz.prog 8 #[.int .i64 1, .string ⟨#[116]⟩, .agg #[.int .i64 1, .int .i64 5, .int .u64 0, .string ⟨#[]⟩, .slice none 0 0]] w fun x w' => ∃ v', x = .returned v' ∧ ResV w' (fun b => w.heap.size ≤ b) v' (.gave (numD 10)) ∧ Below w.heap.size w w' := by
  refine map_1_gave _ (slim_plain _ _ _ _) w (fun W _ => ?_) (fun W v h => numD_valid W v h)
  have h := double_int ⟨#[116]⟩ 5 (by decide) W
  rw [show wrap64 (5 + 5) = 10 by unfold wrap64; omega] at h
  refine h.mono fun x w' ⟨hx, hb⟩ => ⟨_, hx, ⟨_, _, _, _, _, _, _, rfl, ?_⟩, hb⟩
  exact RepQ.mk 1 10 0 ⟨#[]⟩ none 0 0 0 (fun _ _ => .bool false) [] ⟨by decide, by decide, by decide, by decide⟩ (fun h => absurd h (by simp)) (fun i hi => absurd hi (by simp)) (fun i x hx => by simp at hx)
theorem map_textA (w : World) : Calls Tryz.prog 8 #[.int .i64 1, .string ⟨#[116]⟩, .agg #[.int .i64 4, .int .i64 0, .int .u64 0, .string ⟨#[97]⟩, .slice none 0 0]] w fun x w' => ∃ v', x = .returned v' ∧ ResV w' (fun b => w.heap.size ≤ b) v' (.pan 2 5) ∧ Below w.heap.size w w' := by
  refine map_1_pan _ w (fun W _ => ?_)
  exact double_no ⟨#[116]⟩ (k := 4) (by omega) (by decide) 0 0 ⟨#[97]⟩ none 0 0 W

set_option maxRecDepth 100000 in
set_option maxHeartbeats 1600000 in
theorem sawake_any (w : World) : Calls Tryz.prog 6 #[] w fun x w' => x = .returned (.bool true) ∧ Below w.heap.size w w' := by
  go_enter Tryz.func6, Tryz.ntmps6
  go_wp2_with fail
  refine (map_int5 _).mono ?_
  rintro e w1 ⟨v1, rfl, hr1, hb1⟩
  obtain ⟨k5, m5, b5, t5, a5, n5, cap5, rfl, hq⟩ := hr1
  obtain ⟨kids, e5, -⟩ := hq.rep.shape'
  have e10 : m5 = 10 := by
    have := congrArg D.num e5
    exact this.symm
  subst e10
  have hx := Row.new w1 #[.int .i64 0, .int .i64 0, .int .i64 0, .int .i64 0, .bool true, .int .i64 k5, .int .i64 10, .int .u64 b5, .string t5, .slice a5 n5 cap5] 33
  dsimp only
  go_wp2_with fail
  refine (map_textA _).mono ?_
  rintro e w2 ⟨v2, rfl, hr2, hb2⟩
  obtain rfl : v2 = _ := hr2
  have hy := hx.later hb2
  have hbw := ((hb1.alloc hb1.size (.cells #[.int .i64 0, .int .i64 0, .int .i64 0, .int .i64 0, .bool true, .int .i64 k5, .int .i64 10, .int .u64 b5, .string t5, .slice a5 n5 cap5] 33))).trans (hb2.mono (by have := hb1.size; simp; omega))
  obtain ⟨Wb, hWb⟩ : ∃ Wb, Wb = w2.alloc (.cells #[.int .i64 110, .int .i64 0, .int .i64 2, .int .i64 5, .bool false, .int .i64 0, .int .i64 0, .int .u64 0, .string ⟨#[]⟩, .slice none 0 0] 33) := ⟨_, rfl⟩
  have hbb : Below w2.heap.size w2 Wb := by rw [hWb]; exact (Below.refl _ _).alloc (Nat.le_refl _) _
  have hz : Row Wb w2.heap.size #[.int .i64 110, .int .i64 0, .int .i64 2, .int .i64 5, .bool false, .int .i64 0, .int .i64 0, .int .u64 0, .string ⟨#[]⟩, .slice none 0 0] 33 := by rw [hWb]; exact Row.new _ _ _
  have hy2 := hy.later hbb
  dsimp only
  go_upto_region 3 with fail
  rw [← hWb]
  clear hWb
  have p0 : Wb.cell? ⟨w1.heap.size, 0, none⟩ = some (.int .i64 0) := hy2.cell 0 rfl
  have p1 : Wb.cell? ⟨w1.heap.size, 1, none⟩ = some (.int .i64 0) := hy2.cell 1 rfl
  have p2 : Wb.cell? ⟨w1.heap.size, 2, none⟩ = some (.int .i64 0) := hy2.cell 2 rfl
  have p3 : Wb.cell? ⟨w1.heap.size, 3, none⟩ = some (.int .i64 0) := hy2.cell 3 rfl
  have p4 : Wb.cell? ⟨w1.heap.size, 4, none⟩ = some (.bool true) := hy2.cell 4 rfl
  have p5 : Wb.cell? ⟨w1.heap.size, 5, none⟩ = some (.int .i64 k5) := hy2.cell 5 rfl
  have p6 : Wb.cell? ⟨w1.heap.size, 6, none⟩ = some (.int .i64 10) := hy2.cell 6 rfl
  have p7 : Wb.cell? ⟨w1.heap.size, 7, none⟩ = some (.int .u64 b5) := hy2.cell 7 rfl
  have p8 : Wb.cell? ⟨w1.heap.size, 8, none⟩ = some (.string t5) := hy2.cell 8 rfl
  have p9 : Wb.cell? ⟨w1.heap.size, 9, none⟩ = some (.slice a5 n5 cap5) := hy2.cell 9 rfl
  have q0 : Wb.cell? ⟨w2.heap.size, 0, none⟩ = some (.int .i64 110) := hz.cell 0 rfl
  have q1 : Wb.cell? ⟨w2.heap.size, 1, none⟩ = some (.int .i64 0) := hz.cell 1 rfl
  have q2 : Wb.cell? ⟨w2.heap.size, 2, none⟩ = some (.int .i64 2) := hz.cell 2 rfl
  have q3 : Wb.cell? ⟨w2.heap.size, 3, none⟩ = some (.int .i64 5) := hz.cell 3 rfl
  have q4 : Wb.cell? ⟨w2.heap.size, 4, none⟩ = some (.bool false) := hz.cell 4 rfl
  have q5 : Wb.cell? ⟨w2.heap.size, 5, none⟩ = some (.int .i64 0) := hz.cell 5 rfl
  have q6 : Wb.cell? ⟨w2.heap.size, 6, none⟩ = some (.int .i64 0) := hz.cell 6 rfl
  have q7 : Wb.cell? ⟨w2.heap.size, 7, none⟩ = some (.int .u64 0) := hz.cell 7 rfl
  have q8 : Wb.cell? ⟨w2.heap.size, 8, none⟩ = some (.string ⟨#[]⟩) := hz.cell 8 rfl
  have q9 : Wb.cell? ⟨w2.heap.size, 9, none⟩ = some (.slice none 0 0) := hz.cell 9 rfl
  go_wp2_with fail
  go_ret
  exact ⟨rfl, hbw.trans (hbb.mono hbw.size)⟩
end Go.Proofs.YtecdniimikfbhaaGreatDoor
