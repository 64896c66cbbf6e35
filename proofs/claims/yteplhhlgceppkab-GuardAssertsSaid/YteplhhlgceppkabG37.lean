/- Contracts of guard's number and boolean, of act's size, and of the law's awake. -/
import Derived.Test.YteplhhlgceppkabG36
import Derived.Test.YteplhhlgceppkabG24
namespace Go.Proofs.Yteplhhlgceppkab
open Go Go.RowKit Go.ChangeShapes Go.WideShapes

/-- A number. -/
def numD (n : Int) : D := .mk 1 n 0 ⟨#[]⟩ []
def numV (n : Int) : Value := .agg #[.int .i64 1, .int .i64 n, .int .u64 0, .string ⟨#[]⟩, .slice none 0 0]
theorem rep_plain (w : World) (k m : Int) (hk : (Lit.int .i64 k).wf = true) (hm : (Lit.int .i64 m).wf = true) : Rep w (.agg #[.int .i64 k, .int .i64 m, .int .u64 0, .string ⟨#[]⟩, .slice none 0 0]) (.mk k m 0 ⟨#[]⟩ []) :=
  .mk k m 0 ⟨#[]⟩ none 0 0 0 (fun _ _ => .bool false) [] ⟨hk, hm, by decide, by decide⟩ (fun h => absurd h (by simp)) (fun i hi => absurd hi (by simp)) (fun i x hx => by simp at hx)
theorem slim_plain (k m b : Int) (t : ByteArray) : Slim (.mk k m b t []) := .mk _ _ _ _ _ (by simp) (fun x hx => by cases hx)
theorem wf_small {n : Int} (h0 : -9223372036854775808 ≤ n) (h1 : n ≤ 9223372036854775807) : (Lit.int .i64 n).wf = true := by
  have e1 : IntKind.i64.min = -9223372036854775808 := by decide
  have e2 : IntKind.i64.max = 9223372036854775807 := by decide
  simp only [Lit.wf, e1, e2, Bool.and_eq_true, decide_eq_true_eq]
  exact ⟨h0, h1⟩
theorem gnumber_any (n : Int) (w : World) : Calls Try.prog 38 #[.int .i64 n] w fun x w' => x = .returned (numV n) ∧ Below w.heap.size w w' := by
  go_enter Try.func38, Try.ntmps38
  go_wp2_with fail
  exact bodyPost_ret (results_cell_row rfl _ _ w.heap.size 25 _ (0, 0) _ rfl (heap_alloc_new w _) Try.underlying25 rfl (by kernel_rfl)) rfl ⟨rfl, by go_grown⟩
theorem rnumber_any (n : Int) (w : World) : Calls Try.prog 24 #[.int .i64 n] w fun x w' => x = .returned (numV n) ∧ Below w.heap.size w w' := by
  go_enter Try.func24, Try.ntmps24
  go_wp2_with fail
  exact bodyPost_ret (results_cell_row rfl _ _ w.heap.size 25 _ (0, 0) _ rfl (heap_alloc_new w _) Try.underlying25 rfl (by kernel_rfl)) rfl ⟨rfl, by go_grown⟩
theorem gboolean_true (w : World) : Calls Try.prog 49 #[.bool true] w fun x w' => x = .returned (.agg #[.int .i64 6, .int .i64 1, .int .u64 0, .string ⟨#[]⟩, .slice none 0 0]) ∧ Below w.heap.size w w' := by
  go_enter Try.func49, Try.ntmps49
  go_wp2_with fail
  exact bodyPost_ret (results_cell_row rfl _ _ w.heap.size 25 _ (0, 0) _ rfl (heap_alloc_new w _) Try.underlying25 rfl (by kernel_rfl)) rfl ⟨rfl, by go_grown⟩
theorem gboolean_false (w : World) : Calls Try.prog 49 #[.bool false] w fun x w' => x = .returned (.agg #[.int .i64 6, .int .i64 0, .int .u64 0, .string ⟨#[]⟩, .slice none 0 0]) ∧ Below w.heap.size w w' := by
  go_enter Try.func49, Try.ntmps49
  go_wp2_with fail
  exact bodyPost_ret (results_cell_row rfl _ _ w.heap.size 25 _ (0, 0) _ rfl (heap_alloc_new w _) Try.underlying25 rfl (by kernel_rfl)) rfl ⟨rfl, by go_grown⟩

set_option maxRecDepth 100000 in
set_option maxHeartbeats 1600000 in
theorem act_size {w0 : World} {k m b : Int} {t : ByteArray} {a : Option Addr} {l cap : Nat} {d : D} (hv : Rep w0 (.agg #[.int .i64 k, .int .i64 m, .int .u64 b, .string t, .slice a l cap]) d) (hR : Right d) (hp : d.parts ≤ 4096) (s : Int) (hn : lenD d = some s) (hw : (Lit.int .i64 s).wf = true) (b0 b1 b2 b3 b4 : Value) (n : Int) (w : World) (hb0 : Below w0.heap.size w0 w) :
    Calls Try.prog 17 #[.agg #[.int .i64 10, .int .i64 k, .int .i64 m, .int .u64 b, .string t, .slice a l cap, b0, b1, b2, b3, b4, .int .i64 n]] w fun x w' => ∃ v', x = .returned v' ∧ ResV w' (fun b => w.heap.size ≤ b) v' (.gave (numD s)) ∧ Below w.heap.size w w' := by
  have HL := Lib.hid (fun W h => length_some hv hR hp s hn W h)
  have HG := Lib.hid (fun W => gave_any (rep_plain W 1 s (by decide) hw) (slim_plain _ _ _ _) W (Below.refl _ _))
  clear hv hR hp hn hw
  have HB := Lib.hid hb0
  clear hb0
  obtain ⟨W1, hW1, hb1, hz, hx1, hx2⟩ := act_worlds w (.int .i64 10) (.int .i64 k) (.int .i64 m) (.int .u64 b) (.string t) (.slice a l cap) (b0) (b1) (b2) (b3) (b4) (.int .i64 n)
  have p0 : W1.cell? ⟨w.heap.size, 0, none⟩ = some (.int .i64 10) := hx1.cell 0 rfl
  have p1 : W1.cell? ⟨w.heap.size, 1, none⟩ = some (.int .i64 k) := hx1.cell 1 rfl
  have p2 : W1.cell? ⟨w.heap.size, 2, none⟩ = some (.int .i64 m) := hx1.cell 2 rfl
  have p3 : W1.cell? ⟨w.heap.size, 3, none⟩ = some (.int .u64 b) := hx1.cell 3 rfl
  have p4 : W1.cell? ⟨w.heap.size, 4, none⟩ = some (.string t) := hx1.cell 4 rfl
  have p5 : W1.cell? ⟨w.heap.size, 5, none⟩ = some (.slice a l cap) := hx1.cell 5 rfl
  have p6 : W1.cell? ⟨w.heap.size, 6, none⟩ = some (b0) := hx1.cell 6 rfl
  have p7 : W1.cell? ⟨w.heap.size, 7, none⟩ = some (b1) := hx1.cell 7 rfl
  have p8 : W1.cell? ⟨w.heap.size, 8, none⟩ = some (b2) := hx1.cell 8 rfl
  have p9 : W1.cell? ⟨w.heap.size, 9, none⟩ = some (b3) := hx1.cell 9 rfl
  have p10 : W1.cell? ⟨w.heap.size, 10, none⟩ = some (b4) := hx1.cell 10 rfl
  have p11 : W1.cell? ⟨w.heap.size, 11, none⟩ = some (.int .i64 n) := hx1.cell 11 rfl
  go_enter Try.func17, Try.ntmps17
  go_upto_region 1 with fail
  rw [← hW1]
  clear hW1
  go_wp2_with (first | (go_at_call 37; refine (HL.out _ (HB.out.trans (hb1.mono HB.out.size))).mono ?_; rintro e w2 ⟨rfl, hb2⟩) | (go_at_call 38; refine (gnumber_any _ _).mono ?_; rintro e w3 ⟨rfl, hb3⟩; unfold numV) | (go_at_call 30; refine (HG.out _).mono ?_; rintro e w4 ⟨v', rfl, hv', hb4⟩; obtain ⟨r0, r1, r2, r3, r4, k5, m5, b5, t5, a5, n5, cap5, rfl⟩ := hv'.form; have hb23 : Below W1.heap.size W1 w4 := (hb2.trans (hb3.mono hb2.size)).trans (hb4.mono (Nat.le_trans hb2.size hb3.size)); have hzl := Nat.le_trans hb2.size hb3.size; have hy := hx2.later hb23; have q0 : w4.cell? ⟨w.heap.size + 1, 0, none⟩ = some (.int .i64 0) := hy.cell 0 rfl; have f0 := hy.thaw 0; have q1 : w4.cell? ⟨w.heap.size + 1, 1, none⟩ = some (.int .i64 0) := hy.cell 1 rfl; have f1 := hy.thaw 1; have q2 : w4.cell? ⟨w.heap.size + 1, 2, none⟩ = some (.int .i64 0) := hy.cell 2 rfl; have f2 := hy.thaw 2; have q3 : w4.cell? ⟨w.heap.size + 1, 3, none⟩ = some (.int .i64 0) := hy.cell 3 rfl; have f3 := hy.thaw 3; have q4 : w4.cell? ⟨w.heap.size + 1, 4, none⟩ = some (.bool false) := hy.cell 4 rfl; have f4 := hy.thaw 4; have q5 : w4.cell? ⟨w.heap.size + 1, 5, none⟩ = some (.int .i64 0) := hy.cell 5 rfl; have f5 := hy.thaw 5; have q6 : w4.cell? ⟨w.heap.size + 1, 6, none⟩ = some (.int .i64 0) := hy.cell 6 rfl; have f6 := hy.thaw 6; have q7 : w4.cell? ⟨w.heap.size + 1, 7, none⟩ = some (.int .u64 0) := hy.cell 7 rfl; have f7 := hy.thaw 7; have q8 : w4.cell? ⟨w.heap.size + 1, 8, none⟩ = some (.string ⟨#[]⟩) := hy.cell 8 rfl; have f8 := hy.thaw 8; have q9 : w4.cell? ⟨w.heap.size + 1, 9, none⟩ = some (.slice none 0 0) := hy.cell 9 rfl; have f9 := hy.thaw 9; dsimp only))
  have hzo := hz.out
  exact bodyPost_ret (results_cell_row rfl _ _ (w.heap.size + 1) 35 _ (0, 0) _ rfl (hy.set10 _ _ _ _ _ _ _ _ _ _) Try.underlying35 rfl (by kernel_rfl)) rfl
    ⟨_, rfl, hv'.set10 (by omega) (by omega), set10_below (hb1.trans (hb23.mono (by omega))) (by omega)⟩

set_option maxRecDepth 100000 in
set_option maxHeartbeats 1600000 in
theorem act_size_no {w0 : World} {k m b : Int} {t : ByteArray} {a : Option Addr} {l cap : Nat} {d : D} (hv : Rep w0 (.agg #[.int .i64 k, .int .i64 m, .int .u64 b, .string t, .slice a l cap]) d) (hR : Right d) (hp : d.parts ≤ 4096) (hn : lenD d = none) (b0 b1 b2 b3 b4 : Value) (n : Int) (w : World) (hb0 : Below w0.heap.size w0 w) :
    Calls Try.prog 17 #[.agg #[.int .i64 10, .int .i64 k, .int .i64 m, .int .u64 b, .string t, .slice a l cap, b0, b1, b2, b3, b4, .int .i64 n]] w fun x w' => ∃ v', x = .returned v' ∧ ResV w' (fun b => w.heap.size ≤ b) v' .err ∧ Below w.heap.size w w' := by
  have HL := Lib.hid (fun W h => length_none hv hR hp hn W h)
  clear hv hR hp hn
  have HB := Lib.hid hb0
  clear hb0
  obtain ⟨W1, hW1, hb1, hz, hx1, hx2⟩ := act_worlds w (.int .i64 10) (.int .i64 k) (.int .i64 m) (.int .u64 b) (.string t) (.slice a l cap) (b0) (b1) (b2) (b3) (b4) (.int .i64 n)
  have p0 : W1.cell? ⟨w.heap.size, 0, none⟩ = some (.int .i64 10) := hx1.cell 0 rfl
  have p1 : W1.cell? ⟨w.heap.size, 1, none⟩ = some (.int .i64 k) := hx1.cell 1 rfl
  have p2 : W1.cell? ⟨w.heap.size, 2, none⟩ = some (.int .i64 m) := hx1.cell 2 rfl
  have p3 : W1.cell? ⟨w.heap.size, 3, none⟩ = some (.int .u64 b) := hx1.cell 3 rfl
  have p4 : W1.cell? ⟨w.heap.size, 4, none⟩ = some (.string t) := hx1.cell 4 rfl
  have p5 : W1.cell? ⟨w.heap.size, 5, none⟩ = some (.slice a l cap) := hx1.cell 5 rfl
  have p6 : W1.cell? ⟨w.heap.size, 6, none⟩ = some (b0) := hx1.cell 6 rfl
  have p7 : W1.cell? ⟨w.heap.size, 7, none⟩ = some (b1) := hx1.cell 7 rfl
  have p8 : W1.cell? ⟨w.heap.size, 8, none⟩ = some (b2) := hx1.cell 8 rfl
  have p9 : W1.cell? ⟨w.heap.size, 9, none⟩ = some (b3) := hx1.cell 9 rfl
  have p10 : W1.cell? ⟨w.heap.size, 10, none⟩ = some (b4) := hx1.cell 10 rfl
  have p11 : W1.cell? ⟨w.heap.size, 11, none⟩ = some (.int .i64 n) := hx1.cell 11 rfl
  go_enter Try.func17, Try.ntmps17
  go_upto_region 1 with fail
  rw [← hW1]
  clear hW1
  go_wp2_with (go_at_call 37; refine (HL.out _ (HB.out.trans (hb1.mono HB.out.size))).mono ?_; rintro e w2 ⟨rfl, hb2⟩; have hy := hx2.later hb2; have q0 : w2.cell? ⟨w.heap.size + 1, 0, none⟩ = some (.int .i64 0) := hy.cell 0 rfl; have f0 := hy.thaw 0; have q1 : w2.cell? ⟨w.heap.size + 1, 1, none⟩ = some (.int .i64 0) := hy.cell 1 rfl; have f1 := hy.thaw 1; have q2 : w2.cell? ⟨w.heap.size + 1, 2, none⟩ = some (.int .i64 0) := hy.cell 2 rfl; have f2 := hy.thaw 2; have q3 : w2.cell? ⟨w.heap.size + 1, 3, none⟩ = some (.int .i64 0) := hy.cell 3 rfl; have f3 := hy.thaw 3; have q4 : w2.cell? ⟨w.heap.size + 1, 4, none⟩ = some (.bool false) := hy.cell 4 rfl; have f4 := hy.thaw 4; have q5 : w2.cell? ⟨w.heap.size + 1, 5, none⟩ = some (.int .i64 0) := hy.cell 5 rfl; have f5 := hy.thaw 5; have q6 : w2.cell? ⟨w.heap.size + 1, 6, none⟩ = some (.int .i64 0) := hy.cell 6 rfl; have f6 := hy.thaw 6; have q7 : w2.cell? ⟨w.heap.size + 1, 7, none⟩ = some (.int .u64 0) := hy.cell 7 rfl; have f7 := hy.thaw 7; have q8 : w2.cell? ⟨w.heap.size + 1, 8, none⟩ = some (.string ⟨#[]⟩) := hy.cell 8 rfl; have f8 := hy.thaw 8; have q9 : w2.cell? ⟨w.heap.size + 1, 9, none⟩ = some (.slice none 0 0) := hy.cell 9 rfl; have f9 := hy.thaw 9)
  have hzo := hz.out
  exact bodyPost_ret (results_cell_row rfl _ _ (w.heap.size + 1) 35 _ (0, 0) _ rfl (hy.set10 _ _ _ _ _ _ _ _ _ _) Try.underlying35 rfl (by kernel_rfl)) rfl
    ⟨_, rfl, rfl, set10_below (hb1.trans (hb2.mono (by omega))) (by omega)⟩

theorem try_own7 (w : World) : Calls Try.prog 9 #[.agg #[.int .i64 8, .int .i64 0, .int .i64 0, .int .u64 0, .string ⟨#[]⟩, .slice none 0 0, .int .i64 0, .int .i64 0, .int .u64 0, .string ⟨#[]⟩, .slice none 0 0, .int .i64 7]] w fun x w' => x = .returned (.agg #[.int .i64 110, .int .i64 0, .int .i64 1, .int .i64 7, .bool false, .int .i64 0, .int .i64 0, .int .u64 0, .string ⟨#[]⟩, .slice none 0 0]) ∧ Below w.heap.size w w' :=
  (try_pan _ _ _ _ _ _ _ _ _ _ _ _ _ _ 1 7 (told_2 7) w (fun W _ => act_own _ _ _ _ _ 7 W)).mono fun x w' ⟨v', hx, hv, hb⟩ => ⟨by rw [hx, show v' = _ from hv], hb⟩
theorem try_give5 (w : World) : Calls Try.prog 9 #[.agg #[.int .i64 1, .int .i64 1, .int .i64 5, .int .u64 0, .string ⟨#[]⟩, .slice none 0 0, .int .i64 0, .int .i64 0, .int .u64 0, .string ⟨#[]⟩, .slice none 0 0, .int .i64 0]] w fun x w' => ∃ b t a l cap, x = .returned (.agg #[.int .i64 0, .int .i64 0, .int .i64 0, .int .i64 0, .bool true, .int .i64 1, .int .i64 5, .int .u64 b, .string t, .slice a l cap]) ∧ Below w.heap.size w w' :=
  (try_ret _ _ _ _ _ _ _ _ _ _ _ _ _ w (fun W hW => act_give (rep_plain w 1 5 (by decide) (by decide)) (slim_plain _ _ _ _) _ _ _ _ _ 0 W hW)).mono fun x w' ⟨v', hx, hv, hb⟩ => by
    obtain ⟨k, m, b, t, a, n, cap, hv1, hv2⟩ := hv
    cases hv2
    exact ⟨0, ⟨#[]⟩, a, _, cap, by rw [hx, hv1], hb⟩
set_option maxRecDepth 100000 in
set_option maxHeartbeats 800000 in
theorem awake_any (w : World) : Calls Try.prog 7 #[] w fun x w' => x = .returned (.bool true) ∧ Below w.heap.size w w' := by
  go_enter Try.func7, Try.ntmps7
  go_wp2_with fail
  refine (try_own7 _).mono ?_
  rintro e w1 ⟨rfl, hb1⟩
  dsimp only
  have hx := Row.new w1 #[.int .i64 110, .int .i64 0, .int .i64 1, .int .i64 7, .bool false, .int .i64 0, .int .i64 0, .int .u64 0, .string ⟨#[]⟩, .slice none 0 0] 35
  go_wp2_with fail
  refine (try_give5 _).mono ?_
  rintro e w2 ⟨b, t, a, l, cap, rfl, hb2⟩
  have hy := hx.later hb2
  have q0 := old1_cell hy.lt (show w2.cell? ⟨w1.heap.size, 0, none⟩ = some (.int .i64 110) from hy.cell 0 rfl)
  have q1 := old1_cell hy.lt (show w2.cell? ⟨w1.heap.size, 1, none⟩ = some (.int .i64 0) from hy.cell 1 rfl)
  have q2 := old1_cell hy.lt (show w2.cell? ⟨w1.heap.size, 2, none⟩ = some (.int .i64 1) from hy.cell 2 rfl)
  have q3 := old1_cell hy.lt (show w2.cell? ⟨w1.heap.size, 3, none⟩ = some (.int .i64 7) from hy.cell 3 rfl)
  have hz := hb2.size
  have HB := Lib.hid hb2
  have HZ := Lib.hid hz
  clear hb2 hz hx hy
  dsimp only
  go_wp2_with fail
  go_ret
  have hz1 := hb1.size
  have hz2 := HZ.out
  simp at hz2
  exact ⟨rfl, ((hb1.alloc hb1.size _).trans (HB.out.mono (by simp; omega))).alloc (by omega) _⟩
end Go.Proofs.Yteplhhlgceppkab
