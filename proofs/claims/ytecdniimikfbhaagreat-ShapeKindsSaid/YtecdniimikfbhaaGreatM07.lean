/- Guard: contracts, joined texts (G62, G30, G31, G32). -/
import Derived.Maps.Own
import Derived.Maps.OwnSet
import Derived.Maps.Views
import Derived.Laws.IdiomStrings
import Derived.Test.YtecdniimikfbhaaGreatM05
import Derived.Test.YtecdniimikfbhaaGreatM06

/- Contracts of guard's act: index, open, compare, divide, each by what its helper does. -/
namespace Go.Proofs.YtecdniimikfbhaaGreat
open Go Go.RowKit Go.ChangeShapes Go.WideShapes

set_option maxRecDepth 100000 in
set_option maxHeartbeats 1600000 in
theorem arm_index {w0 : World} {k m b : Int} {t : ByteArray} {a : Option Addr} {l cap : Nat} {d : D} (hs : Slim d) (b0 b1 b2 b3 b4 : Value) (n : Int) (HO : ∀ W, Below w0.heap.size w0 W → Calls Tryz.prog 69 #[.agg #[.int .i64 k, .int .i64 m, .int .u64 b, .string t, .slice a l cap], .int .i64 n] W fun y w' => ∃ v', y = .returned v' ∧ RepQ w' (fun b => W.heap.size ≤ b) v' d ∧ Below W.heap.size W w') (w : World) (hb0 : Below w0.heap.size w0 w) :
    Calls Tryz.prog 62 #[.agg #[.int .i64 4, .int .i64 k, .int .i64 m, .int .u64 b, .string t, .slice a l cap, b0, b1, b2, b3, b4, .int .i64 n]] w fun x w' => ∃ v', x = .returned v' ∧ ResV w' (fun b => w.heap.size ≤ b) v' (.gave d) ∧ Below w.heap.size w w' := by
  have HK := Lib.hid HO
  have HG := Lib.hid (fun (w1 : World) (v : Value) (hv : Rep w1 v d) W h => gave_any hv hs W h)
  clear HO hs
  have HB := Lib.hid hb0
  clear hb0
  obtain ⟨W1, hW1, hb1, hz, hx1, hx2⟩ := act_worlds w (.int .i64 4) (.int .i64 k) (.int .i64 m) (.int .u64 b) (.string t) (.slice a l cap) (b0) (b1) (b2) (b3) (b4) (.int .i64 n)
  have p0 : W1.cell? ⟨w.heap.size, 0, none⟩ = some (.int .i64 4) := hx1.cell 0 rfl
  have p1 : W1.cell? ⟨w.heap.size, 1, none⟩ = some (.int .i64 k) := hx1.cell 1 rfl
  have p2 : W1.cell? ⟨w.heap.size, 2, none⟩ = some (.int .i64 m) := hx1.cell 2 rfl
  have p3 : W1.cell? ⟨w.heap.size, 3, none⟩ = some (.int .u64 b) := hx1.cell 3 rfl
  have p4 : W1.cell? ⟨w.heap.size, 4, none⟩ = some (.string t) := hx1.cell 4 rfl
  have p5 : W1.cell? ⟨w.heap.size, 5, none⟩ = some (.slice a l cap) := hx1.cell 5 rfl
  have p6 : W1.cell? ⟨w.heap.size, 6, none⟩ = some (b0) := hx1.cell 6 rfl
  have p7 : W1.cell? ⟨w.heap.size, 7, none⟩ = some (b1) := hx1.cell 7 rfl
  have p8 : W1.cell? ⟨w.heap.size, 8, none⟩ = some (b2) := hx1.cell 8 rfl
  have p9 : W1.cell? ⟨w.heap.size, 9, none⟩ = some (b3) := hx1.cell 9 rfl
  have p10 : W1.cell? ⟨w.heap.size, 10, none⟩ = some (b4) := hx1.cell 10 rfl
  have p11 : W1.cell? ⟨w.heap.size, 11, none⟩ = some (.int .i64 n) := hx1.cell 11 rfl
  go_enter Tryz.func62, Tryz.ntmps62
  go_upto_region 1 with fail
  rw [← hW1]
  clear hW1
  go_wp2_with (first | (go_at_call 69; refine (HK.out _ (HB.out.trans (hb1.mono HB.out.size))).mono ?_; rintro e w2 ⟨v', rfl, hv2, hb2⟩) | (go_at_call 66; refine (HG.out _ _ hv2.rep _ (Below.refl _ _)).mono ?_; rintro e w3 ⟨v', rfl, hv', hb3⟩; obtain ⟨r0, r1, r2, r3, r4, k5, m5, b5, t5, a5, n5, cap5, rfl⟩ := hv'.form; have hb23 : Below W1.heap.size W1 w3 := hb2.trans (hb3.mono hb2.size); have hy := hx2.later hb23; have q0 : w3.cell? ⟨w.heap.size + 1, 0, none⟩ = some (.int .i64 0) := hy.cell 0 rfl; have f0 := hy.thaw 0; have q1 : w3.cell? ⟨w.heap.size + 1, 1, none⟩ = some (.int .i64 0) := hy.cell 1 rfl; have f1 := hy.thaw 1; have q2 : w3.cell? ⟨w.heap.size + 1, 2, none⟩ = some (.int .i64 0) := hy.cell 2 rfl; have f2 := hy.thaw 2; have q3 : w3.cell? ⟨w.heap.size + 1, 3, none⟩ = some (.int .i64 0) := hy.cell 3 rfl; have f3 := hy.thaw 3; have q4 : w3.cell? ⟨w.heap.size + 1, 4, none⟩ = some (.bool false) := hy.cell 4 rfl; have f4 := hy.thaw 4; have q5 : w3.cell? ⟨w.heap.size + 1, 5, none⟩ = some (.int .i64 0) := hy.cell 5 rfl; have f5 := hy.thaw 5; have q6 : w3.cell? ⟨w.heap.size + 1, 6, none⟩ = some (.int .i64 0) := hy.cell 6 rfl; have f6 := hy.thaw 6; have q7 : w3.cell? ⟨w.heap.size + 1, 7, none⟩ = some (.int .u64 0) := hy.cell 7 rfl; have f7 := hy.thaw 7; have q8 : w3.cell? ⟨w.heap.size + 1, 8, none⟩ = some (.string ⟨#[]⟩) := hy.cell 8 rfl; have f8 := hy.thaw 8; have q9 : w3.cell? ⟨w.heap.size + 1, 9, none⟩ = some (.slice none 0 0) := hy.cell 9 rfl; have f9 := hy.thaw 9; dsimp only))
  have hzl := hb2.size
  have hzo := hz.out
  exact bodyPost_ret (results_cell_row rfl _ _ (w.heap.size + 1) 35 _ (0, 0) _ rfl (hy.set10 _ _ _ _ _ _ _ _ _ _) Tryz.underlying35 rfl (by kernel_rfl)) rfl
    ⟨_, rfl, hv'.set10 (by omega) (by omega), set10_below (hb1.trans (hb23.mono (by omega))) (by omega)⟩

set_option maxRecDepth 100000 in
set_option maxHeartbeats 1600000 in
theorem arm_index_pan {w0 : World} {k m b : Int} {t : ByteArray} {a : Option Addr} {l cap : Nat} {T : TypeId} {z : Value} (b0 b1 b2 b3 b4 : Value) (n : Int) (HO : ∀ W, Below w0.heap.size w0 W → Calls Tryz.prog 69 #[.agg #[.int .i64 k, .int .i64 m, .int .u64 b, .string t, .slice a l cap], .int .i64 n] W fun y w' => y = .panicked (thrown T z) ∧ Below W.heap.size W w') (w : World) (hb0 : Below w0.heap.size w0 w) :
    Calls Tryz.prog 62 #[.agg #[.int .i64 4, .int .i64 k, .int .i64 m, .int .u64 b, .string t, .slice a l cap, b0, b1, b2, b3, b4, .int .i64 n]] w fun x w' => x = .panicked (thrown T z) ∧ Below w.heap.size w w' := by
  have HK := Lib.hid HO
  clear HO
  have HB := Lib.hid hb0
  clear hb0
  obtain ⟨W1, hW1, hb1, hz, hx1, hx2⟩ := act_worlds w (.int .i64 4) (.int .i64 k) (.int .i64 m) (.int .u64 b) (.string t) (.slice a l cap) (b0) (b1) (b2) (b3) (b4) (.int .i64 n)
  have p0 : W1.cell? ⟨w.heap.size, 0, none⟩ = some (.int .i64 4) := hx1.cell 0 rfl
  have p1 : W1.cell? ⟨w.heap.size, 1, none⟩ = some (.int .i64 k) := hx1.cell 1 rfl
  have p2 : W1.cell? ⟨w.heap.size, 2, none⟩ = some (.int .i64 m) := hx1.cell 2 rfl
  have p3 : W1.cell? ⟨w.heap.size, 3, none⟩ = some (.int .u64 b) := hx1.cell 3 rfl
  have p4 : W1.cell? ⟨w.heap.size, 4, none⟩ = some (.string t) := hx1.cell 4 rfl
  have p5 : W1.cell? ⟨w.heap.size, 5, none⟩ = some (.slice a l cap) := hx1.cell 5 rfl
  have p6 : W1.cell? ⟨w.heap.size, 6, none⟩ = some (b0) := hx1.cell 6 rfl
  have p7 : W1.cell? ⟨w.heap.size, 7, none⟩ = some (b1) := hx1.cell 7 rfl
  have p8 : W1.cell? ⟨w.heap.size, 8, none⟩ = some (b2) := hx1.cell 8 rfl
  have p9 : W1.cell? ⟨w.heap.size, 9, none⟩ = some (b3) := hx1.cell 9 rfl
  have p10 : W1.cell? ⟨w.heap.size, 10, none⟩ = some (b4) := hx1.cell 10 rfl
  have p11 : W1.cell? ⟨w.heap.size, 11, none⟩ = some (.int .i64 n) := hx1.cell 11 rfl
  go_enter Tryz.func62, Tryz.ntmps62
  go_upto_region 1 with fail
  rw [← hW1]
  clear hW1
  go_wp2_with (go_at_call 69; refine (HK.out _ (HB.out.trans (hb1.mono HB.out.size))).mono ?_; rintro e w2 ⟨rfl, hb2⟩)
  exact ⟨rfl, rfl, hb1.trans (hb2.mono hb1.size)⟩

set_option maxRecDepth 100000 in
set_option maxHeartbeats 1600000 in
theorem arm_open {w0 : World} {k m b : Int} {t : ByteArray} {a : Option Addr} {l cap : Nat} {d : D} (hs : Slim d) (b0 b1 b2 b3 b4 : Value) (n : Int) (HO : ∀ W, Below w0.heap.size w0 W → Calls Tryz.prog 70 #[.agg #[.int .i64 k, .int .i64 m, .int .u64 b, .string t, .slice a l cap]] W fun y w' => ∃ v', y = .returned v' ∧ RepQ w' (fun b => W.heap.size ≤ b) v' d ∧ Below W.heap.size W w') (w : World) (hb0 : Below w0.heap.size w0 w) :
    Calls Tryz.prog 62 #[.agg #[.int .i64 5, .int .i64 k, .int .i64 m, .int .u64 b, .string t, .slice a l cap, b0, b1, b2, b3, b4, .int .i64 n]] w fun x w' => ∃ v', x = .returned v' ∧ ResV w' (fun b => w.heap.size ≤ b) v' (.gave d) ∧ Below w.heap.size w w' := by
  have HK := Lib.hid HO
  have HG := Lib.hid (fun (w1 : World) (v : Value) (hv : Rep w1 v d) W h => gave_any hv hs W h)
  clear HO hs
  have HB := Lib.hid hb0
  clear hb0
  obtain ⟨W1, hW1, hb1, hz, hx1, hx2⟩ := act_worlds w (.int .i64 5) (.int .i64 k) (.int .i64 m) (.int .u64 b) (.string t) (.slice a l cap) (b0) (b1) (b2) (b3) (b4) (.int .i64 n)
  have p0 : W1.cell? ⟨w.heap.size, 0, none⟩ = some (.int .i64 5) := hx1.cell 0 rfl
  have p1 : W1.cell? ⟨w.heap.size, 1, none⟩ = some (.int .i64 k) := hx1.cell 1 rfl
  have p2 : W1.cell? ⟨w.heap.size, 2, none⟩ = some (.int .i64 m) := hx1.cell 2 rfl
  have p3 : W1.cell? ⟨w.heap.size, 3, none⟩ = some (.int .u64 b) := hx1.cell 3 rfl
  have p4 : W1.cell? ⟨w.heap.size, 4, none⟩ = some (.string t) := hx1.cell 4 rfl
  have p5 : W1.cell? ⟨w.heap.size, 5, none⟩ = some (.slice a l cap) := hx1.cell 5 rfl
  have p6 : W1.cell? ⟨w.heap.size, 6, none⟩ = some (b0) := hx1.cell 6 rfl
  have p7 : W1.cell? ⟨w.heap.size, 7, none⟩ = some (b1) := hx1.cell 7 rfl
  have p8 : W1.cell? ⟨w.heap.size, 8, none⟩ = some (b2) := hx1.cell 8 rfl
  have p9 : W1.cell? ⟨w.heap.size, 9, none⟩ = some (b3) := hx1.cell 9 rfl
  have p10 : W1.cell? ⟨w.heap.size, 10, none⟩ = some (b4) := hx1.cell 10 rfl
  have p11 : W1.cell? ⟨w.heap.size, 11, none⟩ = some (.int .i64 n) := hx1.cell 11 rfl
  go_enter Tryz.func62, Tryz.ntmps62
  go_upto_region 1 with fail
  rw [← hW1]
  clear hW1
  go_wp2_with (first | (go_at_call 70; refine (HK.out _ (HB.out.trans (hb1.mono HB.out.size))).mono ?_; rintro e w2 ⟨v', rfl, hv2, hb2⟩) | (go_at_call 66; refine (HG.out _ _ hv2.rep _ (Below.refl _ _)).mono ?_; rintro e w3 ⟨v', rfl, hv', hb3⟩; obtain ⟨r0, r1, r2, r3, r4, k5, m5, b5, t5, a5, n5, cap5, rfl⟩ := hv'.form; have hb23 : Below W1.heap.size W1 w3 := hb2.trans (hb3.mono hb2.size); have hy := hx2.later hb23; have q0 : w3.cell? ⟨w.heap.size + 1, 0, none⟩ = some (.int .i64 0) := hy.cell 0 rfl; have f0 := hy.thaw 0; have q1 : w3.cell? ⟨w.heap.size + 1, 1, none⟩ = some (.int .i64 0) := hy.cell 1 rfl; have f1 := hy.thaw 1; have q2 : w3.cell? ⟨w.heap.size + 1, 2, none⟩ = some (.int .i64 0) := hy.cell 2 rfl; have f2 := hy.thaw 2; have q3 : w3.cell? ⟨w.heap.size + 1, 3, none⟩ = some (.int .i64 0) := hy.cell 3 rfl; have f3 := hy.thaw 3; have q4 : w3.cell? ⟨w.heap.size + 1, 4, none⟩ = some (.bool false) := hy.cell 4 rfl; have f4 := hy.thaw 4; have q5 : w3.cell? ⟨w.heap.size + 1, 5, none⟩ = some (.int .i64 0) := hy.cell 5 rfl; have f5 := hy.thaw 5; have q6 : w3.cell? ⟨w.heap.size + 1, 6, none⟩ = some (.int .i64 0) := hy.cell 6 rfl; have f6 := hy.thaw 6; have q7 : w3.cell? ⟨w.heap.size + 1, 7, none⟩ = some (.int .u64 0) := hy.cell 7 rfl; have f7 := hy.thaw 7; have q8 : w3.cell? ⟨w.heap.size + 1, 8, none⟩ = some (.string ⟨#[]⟩) := hy.cell 8 rfl; have f8 := hy.thaw 8; have q9 : w3.cell? ⟨w.heap.size + 1, 9, none⟩ = some (.slice none 0 0) := hy.cell 9 rfl; have f9 := hy.thaw 9; dsimp only))
  have hzl := hb2.size
  have hzo := hz.out
  exact bodyPost_ret (results_cell_row rfl _ _ (w.heap.size + 1) 35 _ (0, 0) _ rfl (hy.set10 _ _ _ _ _ _ _ _ _ _) Tryz.underlying35 rfl (by kernel_rfl)) rfl
    ⟨_, rfl, hv'.set10 (by omega) (by omega), set10_below (hb1.trans (hb23.mono (by omega))) (by omega)⟩

set_option maxRecDepth 100000 in
set_option maxHeartbeats 1600000 in
theorem arm_open_pan {w0 : World} {k m b : Int} {t : ByteArray} {a : Option Addr} {l cap : Nat} {T : TypeId} {z : Value} (b0 b1 b2 b3 b4 : Value) (n : Int) (HO : ∀ W, Below w0.heap.size w0 W → Calls Tryz.prog 70 #[.agg #[.int .i64 k, .int .i64 m, .int .u64 b, .string t, .slice a l cap]] W fun y w' => y = .panicked (thrown T z) ∧ Below W.heap.size W w') (w : World) (hb0 : Below w0.heap.size w0 w) :
    Calls Tryz.prog 62 #[.agg #[.int .i64 5, .int .i64 k, .int .i64 m, .int .u64 b, .string t, .slice a l cap, b0, b1, b2, b3, b4, .int .i64 n]] w fun x w' => x = .panicked (thrown T z) ∧ Below w.heap.size w w' := by
  have HK := Lib.hid HO
  clear HO
  have HB := Lib.hid hb0
  clear hb0
  obtain ⟨W1, hW1, hb1, hz, hx1, hx2⟩ := act_worlds w (.int .i64 5) (.int .i64 k) (.int .i64 m) (.int .u64 b) (.string t) (.slice a l cap) (b0) (b1) (b2) (b3) (b4) (.int .i64 n)
  have p0 : W1.cell? ⟨w.heap.size, 0, none⟩ = some (.int .i64 5) := hx1.cell 0 rfl
  have p1 : W1.cell? ⟨w.heap.size, 1, none⟩ = some (.int .i64 k) := hx1.cell 1 rfl
  have p2 : W1.cell? ⟨w.heap.size, 2, none⟩ = some (.int .i64 m) := hx1.cell 2 rfl
  have p3 : W1.cell? ⟨w.heap.size, 3, none⟩ = some (.int .u64 b) := hx1.cell 3 rfl
  have p4 : W1.cell? ⟨w.heap.size, 4, none⟩ = some (.string t) := hx1.cell 4 rfl
  have p5 : W1.cell? ⟨w.heap.size, 5, none⟩ = some (.slice a l cap) := hx1.cell 5 rfl
  have p6 : W1.cell? ⟨w.heap.size, 6, none⟩ = some (b0) := hx1.cell 6 rfl
  have p7 : W1.cell? ⟨w.heap.size, 7, none⟩ = some (b1) := hx1.cell 7 rfl
  have p8 : W1.cell? ⟨w.heap.size, 8, none⟩ = some (b2) := hx1.cell 8 rfl
  have p9 : W1.cell? ⟨w.heap.size, 9, none⟩ = some (b3) := hx1.cell 9 rfl
  have p10 : W1.cell? ⟨w.heap.size, 10, none⟩ = some (b4) := hx1.cell 10 rfl
  have p11 : W1.cell? ⟨w.heap.size, 11, none⟩ = some (.int .i64 n) := hx1.cell 11 rfl
  go_enter Tryz.func62, Tryz.ntmps62
  go_upto_region 1 with fail
  rw [← hW1]
  clear hW1
  go_wp2_with (go_at_call 70; refine (HK.out _ (HB.out.trans (hb1.mono HB.out.size))).mono ?_; rintro e w2 ⟨rfl, hb2⟩)
  exact ⟨rfl, rfl, hb1.trans (hb2.mono hb1.size)⟩

set_option maxRecDepth 100000 in
set_option maxHeartbeats 1600000 in
theorem arm_compare {w0 : World} {k m b : Int} {t : ByteArray} {a : Option Addr} {l cap : Nat} {k' m' b' : Int} {t' : ByteArray} {a' : Option Addr} {l' cap' : Nat} {d : D} (hs : Slim d) (n : Int) (HO : ∀ W, Below w0.heap.size w0 W → Calls Tryz.prog 71 #[.agg #[.int .i64 k, .int .i64 m, .int .u64 b, .string t, .slice a l cap], .agg #[.int .i64 k', .int .i64 m', .int .u64 b', .string t', .slice a' l' cap']] W fun y w' => ∃ v', y = .returned v' ∧ RepQ w' (fun b => W.heap.size ≤ b) v' d ∧ Below W.heap.size W w') (w : World) (hb0 : Below w0.heap.size w0 w) :
    Calls Tryz.prog 62 #[.agg #[.int .i64 6, .int .i64 k, .int .i64 m, .int .u64 b, .string t, .slice a l cap, .int .i64 k', .int .i64 m', .int .u64 b', .string t', .slice a' l' cap', .int .i64 n]] w fun x w' => ∃ v', x = .returned v' ∧ ResV w' (fun b => w.heap.size ≤ b) v' (.gave d) ∧ Below w.heap.size w w' := by
  have HK := Lib.hid HO
  have HG := Lib.hid (fun (w1 : World) (v : Value) (hv : Rep w1 v d) W h => gave_any hv hs W h)
  clear HO hs
  have HB := Lib.hid hb0
  clear hb0
  obtain ⟨W1, hW1, hb1, hz, hx1, hx2⟩ := act_worlds w (.int .i64 6) (.int .i64 k) (.int .i64 m) (.int .u64 b) (.string t) (.slice a l cap) (.int .i64 k') (.int .i64 m') (.int .u64 b') (.string t') (.slice a' l' cap') (.int .i64 n)
  have p0 : W1.cell? ⟨w.heap.size, 0, none⟩ = some (.int .i64 6) := hx1.cell 0 rfl
  have p1 : W1.cell? ⟨w.heap.size, 1, none⟩ = some (.int .i64 k) := hx1.cell 1 rfl
  have p2 : W1.cell? ⟨w.heap.size, 2, none⟩ = some (.int .i64 m) := hx1.cell 2 rfl
  have p3 : W1.cell? ⟨w.heap.size, 3, none⟩ = some (.int .u64 b) := hx1.cell 3 rfl
  have p4 : W1.cell? ⟨w.heap.size, 4, none⟩ = some (.string t) := hx1.cell 4 rfl
  have p5 : W1.cell? ⟨w.heap.size, 5, none⟩ = some (.slice a l cap) := hx1.cell 5 rfl
  have p6 : W1.cell? ⟨w.heap.size, 6, none⟩ = some (.int .i64 k') := hx1.cell 6 rfl
  have p7 : W1.cell? ⟨w.heap.size, 7, none⟩ = some (.int .i64 m') := hx1.cell 7 rfl
  have p8 : W1.cell? ⟨w.heap.size, 8, none⟩ = some (.int .u64 b') := hx1.cell 8 rfl
  have p9 : W1.cell? ⟨w.heap.size, 9, none⟩ = some (.string t') := hx1.cell 9 rfl
  have p10 : W1.cell? ⟨w.heap.size, 10, none⟩ = some (.slice a' l' cap') := hx1.cell 10 rfl
  have p11 : W1.cell? ⟨w.heap.size, 11, none⟩ = some (.int .i64 n) := hx1.cell 11 rfl
  go_enter Tryz.func62, Tryz.ntmps62
  go_upto_region 1 with fail
  rw [← hW1]
  clear hW1
  go_wp2_with (first | (go_at_call 71; refine (HK.out _ (HB.out.trans (hb1.mono HB.out.size))).mono ?_; rintro e w2 ⟨v', rfl, hv2, hb2⟩) | (go_at_call 66; refine (HG.out _ _ hv2.rep _ (Below.refl _ _)).mono ?_; rintro e w3 ⟨v', rfl, hv', hb3⟩; obtain ⟨r0, r1, r2, r3, r4, k5, m5, b5, t5, a5, n5, cap5, rfl⟩ := hv'.form; have hb23 : Below W1.heap.size W1 w3 := hb2.trans (hb3.mono hb2.size); have hy := hx2.later hb23; have q0 : w3.cell? ⟨w.heap.size + 1, 0, none⟩ = some (.int .i64 0) := hy.cell 0 rfl; have f0 := hy.thaw 0; have q1 : w3.cell? ⟨w.heap.size + 1, 1, none⟩ = some (.int .i64 0) := hy.cell 1 rfl; have f1 := hy.thaw 1; have q2 : w3.cell? ⟨w.heap.size + 1, 2, none⟩ = some (.int .i64 0) := hy.cell 2 rfl; have f2 := hy.thaw 2; have q3 : w3.cell? ⟨w.heap.size + 1, 3, none⟩ = some (.int .i64 0) := hy.cell 3 rfl; have f3 := hy.thaw 3; have q4 : w3.cell? ⟨w.heap.size + 1, 4, none⟩ = some (.bool false) := hy.cell 4 rfl; have f4 := hy.thaw 4; have q5 : w3.cell? ⟨w.heap.size + 1, 5, none⟩ = some (.int .i64 0) := hy.cell 5 rfl; have f5 := hy.thaw 5; have q6 : w3.cell? ⟨w.heap.size + 1, 6, none⟩ = some (.int .i64 0) := hy.cell 6 rfl; have f6 := hy.thaw 6; have q7 : w3.cell? ⟨w.heap.size + 1, 7, none⟩ = some (.int .u64 0) := hy.cell 7 rfl; have f7 := hy.thaw 7; have q8 : w3.cell? ⟨w.heap.size + 1, 8, none⟩ = some (.string ⟨#[]⟩) := hy.cell 8 rfl; have f8 := hy.thaw 8; have q9 : w3.cell? ⟨w.heap.size + 1, 9, none⟩ = some (.slice none 0 0) := hy.cell 9 rfl; have f9 := hy.thaw 9; dsimp only))
  have hzl := hb2.size
  have hzo := hz.out
  exact bodyPost_ret (results_cell_row rfl _ _ (w.heap.size + 1) 35 _ (0, 0) _ rfl (hy.set10 _ _ _ _ _ _ _ _ _ _) Tryz.underlying35 rfl (by kernel_rfl)) rfl
    ⟨_, rfl, hv'.set10 (by omega) (by omega), set10_below (hb1.trans (hb23.mono (by omega))) (by omega)⟩

set_option maxRecDepth 100000 in
set_option maxHeartbeats 1600000 in
theorem arm_compare_pan {w0 : World} {k m b : Int} {t : ByteArray} {a : Option Addr} {l cap : Nat} {k' m' b' : Int} {t' : ByteArray} {a' : Option Addr} {l' cap' : Nat} {T : TypeId} {z : Value} (n : Int) (HO : ∀ W, Below w0.heap.size w0 W → Calls Tryz.prog 71 #[.agg #[.int .i64 k, .int .i64 m, .int .u64 b, .string t, .slice a l cap], .agg #[.int .i64 k', .int .i64 m', .int .u64 b', .string t', .slice a' l' cap']] W fun y w' => y = .panicked (thrown T z) ∧ Below W.heap.size W w') (w : World) (hb0 : Below w0.heap.size w0 w) :
    Calls Tryz.prog 62 #[.agg #[.int .i64 6, .int .i64 k, .int .i64 m, .int .u64 b, .string t, .slice a l cap, .int .i64 k', .int .i64 m', .int .u64 b', .string t', .slice a' l' cap', .int .i64 n]] w fun x w' => x = .panicked (thrown T z) ∧ Below w.heap.size w w' := by
  have HK := Lib.hid HO
  clear HO
  have HB := Lib.hid hb0
  clear hb0
  obtain ⟨W1, hW1, hb1, hz, hx1, hx2⟩ := act_worlds w (.int .i64 6) (.int .i64 k) (.int .i64 m) (.int .u64 b) (.string t) (.slice a l cap) (.int .i64 k') (.int .i64 m') (.int .u64 b') (.string t') (.slice a' l' cap') (.int .i64 n)
  have p0 : W1.cell? ⟨w.heap.size, 0, none⟩ = some (.int .i64 6) := hx1.cell 0 rfl
  have p1 : W1.cell? ⟨w.heap.size, 1, none⟩ = some (.int .i64 k) := hx1.cell 1 rfl
  have p2 : W1.cell? ⟨w.heap.size, 2, none⟩ = some (.int .i64 m) := hx1.cell 2 rfl
  have p3 : W1.cell? ⟨w.heap.size, 3, none⟩ = some (.int .u64 b) := hx1.cell 3 rfl
  have p4 : W1.cell? ⟨w.heap.size, 4, none⟩ = some (.string t) := hx1.cell 4 rfl
  have p5 : W1.cell? ⟨w.heap.size, 5, none⟩ = some (.slice a l cap) := hx1.cell 5 rfl
  have p6 : W1.cell? ⟨w.heap.size, 6, none⟩ = some (.int .i64 k') := hx1.cell 6 rfl
  have p7 : W1.cell? ⟨w.heap.size, 7, none⟩ = some (.int .i64 m') := hx1.cell 7 rfl
  have p8 : W1.cell? ⟨w.heap.size, 8, none⟩ = some (.int .u64 b') := hx1.cell 8 rfl
  have p9 : W1.cell? ⟨w.heap.size, 9, none⟩ = some (.string t') := hx1.cell 9 rfl
  have p10 : W1.cell? ⟨w.heap.size, 10, none⟩ = some (.slice a' l' cap') := hx1.cell 10 rfl
  have p11 : W1.cell? ⟨w.heap.size, 11, none⟩ = some (.int .i64 n) := hx1.cell 11 rfl
  go_enter Tryz.func62, Tryz.ntmps62
  go_upto_region 1 with fail
  rw [← hW1]
  clear hW1
  go_wp2_with (go_at_call 71; refine (HK.out _ (HB.out.trans (hb1.mono HB.out.size))).mono ?_; rintro e w2 ⟨rfl, hb2⟩)
  exact ⟨rfl, rfl, hb1.trans (hb2.mono hb1.size)⟩

set_option maxRecDepth 100000 in
set_option maxHeartbeats 1600000 in
theorem arm_divide {w0 : World} {k m b : Int} {t : ByteArray} {a : Option Addr} {l cap : Nat} {k' m' b' : Int} {t' : ByteArray} {a' : Option Addr} {l' cap' : Nat} {d : D} (hs : Slim d) (n : Int) (HO : ∀ W, Below w0.heap.size w0 W → Calls Tryz.prog 72 #[.agg #[.int .i64 k, .int .i64 m, .int .u64 b, .string t, .slice a l cap], .agg #[.int .i64 k', .int .i64 m', .int .u64 b', .string t', .slice a' l' cap']] W fun y w' => ∃ v', y = .returned v' ∧ RepQ w' (fun b => W.heap.size ≤ b) v' d ∧ Below W.heap.size W w') (w : World) (hb0 : Below w0.heap.size w0 w) :
    Calls Tryz.prog 62 #[.agg #[.int .i64 7, .int .i64 k, .int .i64 m, .int .u64 b, .string t, .slice a l cap, .int .i64 k', .int .i64 m', .int .u64 b', .string t', .slice a' l' cap', .int .i64 n]] w fun x w' => ∃ v', x = .returned v' ∧ ResV w' (fun b => w.heap.size ≤ b) v' (.gave d) ∧ Below w.heap.size w w' := by
  have HK := Lib.hid HO
  have HG := Lib.hid (fun (w1 : World) (v : Value) (hv : Rep w1 v d) W h => gave_any hv hs W h)
  clear HO hs
  have HB := Lib.hid hb0
  clear hb0
  obtain ⟨W1, hW1, hb1, hz, hx1, hx2⟩ := act_worlds w (.int .i64 7) (.int .i64 k) (.int .i64 m) (.int .u64 b) (.string t) (.slice a l cap) (.int .i64 k') (.int .i64 m') (.int .u64 b') (.string t') (.slice a' l' cap') (.int .i64 n)
  have p0 : W1.cell? ⟨w.heap.size, 0, none⟩ = some (.int .i64 7) := hx1.cell 0 rfl
  have p1 : W1.cell? ⟨w.heap.size, 1, none⟩ = some (.int .i64 k) := hx1.cell 1 rfl
  have p2 : W1.cell? ⟨w.heap.size, 2, none⟩ = some (.int .i64 m) := hx1.cell 2 rfl
  have p3 : W1.cell? ⟨w.heap.size, 3, none⟩ = some (.int .u64 b) := hx1.cell 3 rfl
  have p4 : W1.cell? ⟨w.heap.size, 4, none⟩ = some (.string t) := hx1.cell 4 rfl
  have p5 : W1.cell? ⟨w.heap.size, 5, none⟩ = some (.slice a l cap) := hx1.cell 5 rfl
  have p6 : W1.cell? ⟨w.heap.size, 6, none⟩ = some (.int .i64 k') := hx1.cell 6 rfl
  have p7 : W1.cell? ⟨w.heap.size, 7, none⟩ = some (.int .i64 m') := hx1.cell 7 rfl
  have p8 : W1.cell? ⟨w.heap.size, 8, none⟩ = some (.int .u64 b') := hx1.cell 8 rfl
  have p9 : W1.cell? ⟨w.heap.size, 9, none⟩ = some (.string t') := hx1.cell 9 rfl
  have p10 : W1.cell? ⟨w.heap.size, 10, none⟩ = some (.slice a' l' cap') := hx1.cell 10 rfl
  have p11 : W1.cell? ⟨w.heap.size, 11, none⟩ = some (.int .i64 n) := hx1.cell 11 rfl
  go_enter Tryz.func62, Tryz.ntmps62
  go_upto_region 1 with fail
  rw [← hW1]
  clear hW1
  go_wp2_with (first | (go_at_call 72; refine (HK.out _ (HB.out.trans (hb1.mono HB.out.size))).mono ?_; rintro e w2 ⟨v', rfl, hv2, hb2⟩) | (go_at_call 66; refine (HG.out _ _ hv2.rep _ (Below.refl _ _)).mono ?_; rintro e w3 ⟨v', rfl, hv', hb3⟩; obtain ⟨r0, r1, r2, r3, r4, k5, m5, b5, t5, a5, n5, cap5, rfl⟩ := hv'.form; have hb23 : Below W1.heap.size W1 w3 := hb2.trans (hb3.mono hb2.size); have hy := hx2.later hb23; have q0 : w3.cell? ⟨w.heap.size + 1, 0, none⟩ = some (.int .i64 0) := hy.cell 0 rfl; have f0 := hy.thaw 0; have q1 : w3.cell? ⟨w.heap.size + 1, 1, none⟩ = some (.int .i64 0) := hy.cell 1 rfl; have f1 := hy.thaw 1; have q2 : w3.cell? ⟨w.heap.size + 1, 2, none⟩ = some (.int .i64 0) := hy.cell 2 rfl; have f2 := hy.thaw 2; have q3 : w3.cell? ⟨w.heap.size + 1, 3, none⟩ = some (.int .i64 0) := hy.cell 3 rfl; have f3 := hy.thaw 3; have q4 : w3.cell? ⟨w.heap.size + 1, 4, none⟩ = some (.bool false) := hy.cell 4 rfl; have f4 := hy.thaw 4; have q5 : w3.cell? ⟨w.heap.size + 1, 5, none⟩ = some (.int .i64 0) := hy.cell 5 rfl; have f5 := hy.thaw 5; have q6 : w3.cell? ⟨w.heap.size + 1, 6, none⟩ = some (.int .i64 0) := hy.cell 6 rfl; have f6 := hy.thaw 6; have q7 : w3.cell? ⟨w.heap.size + 1, 7, none⟩ = some (.int .u64 0) := hy.cell 7 rfl; have f7 := hy.thaw 7; have q8 : w3.cell? ⟨w.heap.size + 1, 8, none⟩ = some (.string ⟨#[]⟩) := hy.cell 8 rfl; have f8 := hy.thaw 8; have q9 : w3.cell? ⟨w.heap.size + 1, 9, none⟩ = some (.slice none 0 0) := hy.cell 9 rfl; have f9 := hy.thaw 9; dsimp only))
  have hzl := hb2.size
  have hzo := hz.out
  exact bodyPost_ret (results_cell_row rfl _ _ (w.heap.size + 1) 35 _ (0, 0) _ rfl (hy.set10 _ _ _ _ _ _ _ _ _ _) Tryz.underlying35 rfl (by kernel_rfl)) rfl
    ⟨_, rfl, hv'.set10 (by omega) (by omega), set10_below (hb1.trans (hb23.mono (by omega))) (by omega)⟩

set_option maxRecDepth 100000 in
set_option maxHeartbeats 1600000 in
theorem arm_divide_pan {w0 : World} {k m b : Int} {t : ByteArray} {a : Option Addr} {l cap : Nat} {k' m' b' : Int} {t' : ByteArray} {a' : Option Addr} {l' cap' : Nat} {T : TypeId} {z : Value} (n : Int) (HO : ∀ W, Below w0.heap.size w0 W → Calls Tryz.prog 72 #[.agg #[.int .i64 k, .int .i64 m, .int .u64 b, .string t, .slice a l cap], .agg #[.int .i64 k', .int .i64 m', .int .u64 b', .string t', .slice a' l' cap']] W fun y w' => y = .panicked (thrown T z) ∧ Below W.heap.size W w') (w : World) (hb0 : Below w0.heap.size w0 w) :
    Calls Tryz.prog 62 #[.agg #[.int .i64 7, .int .i64 k, .int .i64 m, .int .u64 b, .string t, .slice a l cap, .int .i64 k', .int .i64 m', .int .u64 b', .string t', .slice a' l' cap', .int .i64 n]] w fun x w' => x = .panicked (thrown T z) ∧ Below w.heap.size w w' := by
  have HK := Lib.hid HO
  clear HO
  have HB := Lib.hid hb0
  clear hb0
  obtain ⟨W1, hW1, hb1, hz, hx1, hx2⟩ := act_worlds w (.int .i64 7) (.int .i64 k) (.int .i64 m) (.int .u64 b) (.string t) (.slice a l cap) (.int .i64 k') (.int .i64 m') (.int .u64 b') (.string t') (.slice a' l' cap') (.int .i64 n)
  have p0 : W1.cell? ⟨w.heap.size, 0, none⟩ = some (.int .i64 7) := hx1.cell 0 rfl
  have p1 : W1.cell? ⟨w.heap.size, 1, none⟩ = some (.int .i64 k) := hx1.cell 1 rfl
  have p2 : W1.cell? ⟨w.heap.size, 2, none⟩ = some (.int .i64 m) := hx1.cell 2 rfl
  have p3 : W1.cell? ⟨w.heap.size, 3, none⟩ = some (.int .u64 b) := hx1.cell 3 rfl
  have p4 : W1.cell? ⟨w.heap.size, 4, none⟩ = some (.string t) := hx1.cell 4 rfl
  have p5 : W1.cell? ⟨w.heap.size, 5, none⟩ = some (.slice a l cap) := hx1.cell 5 rfl
  have p6 : W1.cell? ⟨w.heap.size, 6, none⟩ = some (.int .i64 k') := hx1.cell 6 rfl
  have p7 : W1.cell? ⟨w.heap.size, 7, none⟩ = some (.int .i64 m') := hx1.cell 7 rfl
  have p8 : W1.cell? ⟨w.heap.size, 8, none⟩ = some (.int .u64 b') := hx1.cell 8 rfl
  have p9 : W1.cell? ⟨w.heap.size, 9, none⟩ = some (.string t') := hx1.cell 9 rfl
  have p10 : W1.cell? ⟨w.heap.size, 10, none⟩ = some (.slice a' l' cap') := hx1.cell 10 rfl
  have p11 : W1.cell? ⟨w.heap.size, 11, none⟩ = some (.int .i64 n) := hx1.cell 11 rfl
  go_enter Tryz.func62, Tryz.ntmps62
  go_upto_region 1 with fail
  rw [← hW1]
  clear hW1
  go_wp2_with (go_at_call 72; refine (HK.out _ (HB.out.trans (hb1.mono HB.out.size))).mono ?_; rintro e w2 ⟨rfl, hb2⟩)
  exact ⟨rfl, rfl, hb1.trans (hb2.mono hb1.size)⟩
end Go.Proofs.YtecdniimikfbhaaGreat

/- The interface values of Datums, and the map of boxes by their numbers. -/
namespace Go.Proofs.YtecdniimikfbhaaGreat
open Go Go.RowKit Go.ChangeShapes Go.WideShapes

/-- How a pointer to a block reads. -/
def ptrElem : Value → Option (DataW Unit × List MemPlace)
  | .pointer none => some (.lit (.int .i64 0), [])
  | .pointer (some ⟨b, 0, none⟩) => some (.lit (.int .i64 (b + 1)), [])
  | _ => none
theorem ptrElem_inv {v : Value} {x : DataW Unit} {ps : List MemPlace} (h : ptrElem v = some (x, ps)) : (v = .pointer none ∧ x = .lit (.int .i64 0)) ∨ ∃ b : Nat, v = .pointer (some ⟨b, 0, none⟩) ∧ x = .lit (.int .i64 (b + 1)) := by
  unfold ptrElem at h
  split at h
  · simp only [Option.some.injEq, Prod.mk.injEq] at h
    exact Or.inl ⟨rfl, h.1.symm⟩
  · simp only [Option.some.injEq, Prod.mk.injEq] at h
    exact Or.inr ⟨_, rfl, h.1.symm⟩
  · cases h
/-- The box that bears a number. -/
def boxOf (F : DataW Unit) (m : Int) : Option Nat :=
  match F.atKey (.int .i64 m) (.lit (.int .i64 0)) with
  | .lit (.int .i64 n) => if 1 ≤ n then some (n - 1).toNat else none
  | _ => none
theorem boxOf_none {F : DataW Unit} {m : Int} (h : F.atKey (.int .i64 m) (.lit (.int .i64 0)) = .lit (.int .i64 0)) : boxOf F m = none := by
  unfold boxOf; rw [h]; rfl
theorem boxOf_some {F : DataW Unit} {m : Int} {b : Nat} (h : F.atKey (.int .i64 m) (.lit (.int .i64 0)) = .lit (.int .i64 (b + 1))) : boxOf F m = some b := by
  unfold boxOf; rw [h]
  simp only
  rw [if_pos (by omega)]
  congr 1
  omega
theorem boxOf_put_same {F : DataW Unit} (hF : Maps.IsMap F) (m : Int) (b : Nat) : boxOf (F.put (.int .i64 m) (.lit (.int .i64 (b + 1)))) m = some b :=
  boxOf_some (Maps.atKey_put_same hF (by trivial) _ _)
theorem boxOf_put_other {F : DataW Unit} {m m' : Int} (h : m' ≠ m) (x : DataW Unit) : boxOf (F.put (.int .i64 m) x) m' = boxOf F m' := by
  unfold boxOf
  rw [Maps.atKey_put_other (by intro e; exact h (by cases e; rfl))]

/-- Block M is a map of boxes, each of which bears its number. -/
def BoxesAt (w : World) (M n : Nat) (F : DataW Unit) : Prop :=
  w.ownsMap Tryz.prog 2 ptrElem M n F ∧ ∀ m b, boxOf F m = some b → M < b ∧ ∃ x, Row w b #[.int .i64 m, x] 163
theorem BoxesAt.lt {w : World} {M n : Nat} {F : DataW Unit} (h : BoxesAt w M n F) : M < w.heap.size := h.1.lt
theorem BoxesAt.blt {w : World} {M n : Nat} {F : DataW Unit} (h : BoxesAt w M n F) {m : Int} {b : Nat} (hm : boxOf F m = some b) : b < w.heap.size := by
  obtain ⟨_, x, hx⟩ := h.2 m b hm
  exact hx.lt
theorem BoxesAt.inj {w : World} {M n : Nat} {F : DataW Unit} (h : BoxesAt w M n F) {m m' : Int} {b : Nat} (hm : boxOf F m = some b) (hm' : boxOf F m' = some b) : m = m' := by
  obtain ⟨_, x, hx⟩ := h.2 m b hm
  obtain ⟨_, y, hy⟩ := h.2 m' b hm'
  have e := hx.symm.trans hy
  simp at e
  exact e.1
theorem ownsMap_block {w w1 : World} {M n : Nat} {F : DataW Unit} (h : w.ownsMap Tryz.prog 2 ptrElem M n F) (hM : w1.heap[M]? = w.heap[M]?) : w1.ownsMap Tryz.prog 2 ptrElem M n F := by
  obtain ⟨es, clock, hb, r⟩ := h
  exact ⟨es, clock, hM.trans hb, r⟩
theorem BoxesAt.keep {w w1 : World} {M n : Nat} {F : DataW Unit} (h : BoxesAt w M n F) (hM : w1.heap[M]? = w.heap[M]?) (hb : ∀ m b, boxOf F m = some b → w1.heap[b]? = w.heap[b]?) : BoxesAt w1 M n F :=
  ⟨ownsMap_block h.1 hM, fun m b hm => ⟨(h.2 m b hm).1, (h.2 m b hm).2.imp fun _ hx => hx.keep (hb m b hm)⟩⟩
theorem BoxesAt.later {w w1 : World} {M n : Nat} {F : DataW Unit} (h : BoxesAt w M n F) (hb : Below w.heap.size w w1) : BoxesAt w1 M n F :=
  h.keep (hb.block M h.lt) (fun _ b hm => hb.block b (h.blt hm))
theorem BoxesAt.made (w : World) : BoxesAt (w.alloc (.map #[] 0)) w.heap.size 0 (.map []) :=
  ⟨World.ownsMap_made _ _ _ _, fun m b hm => by
    have : boxOf (.map []) m = none := rfl
    rw [this] at hm
    cases hm⟩

/-- What a step that makes values does: below B it writes the map and its boxes alone. -/
structure VStep (M B : Nat) (w w1 : World) (F F1 : DataW Unit) : Prop where
  below : Below M w w1
  frame : ∀ b, b < B → b ≠ M → (∀ m, boxOf F m ≠ some b) → w1.heap[b]? = w.heap[b]?
  ext : ∀ m b, boxOf F m = some b → boxOf F1 m = some b
  new : ∀ m b, boxOf F1 m = some b → boxOf F m = some b ∨ B ≤ b
theorem VStep.of_below {M B : Nat} {w w1 : World} {F : DataW Unit} (h : Below B w w1) (hM : M ≤ B) : VStep M B w w1 F F :=
  ⟨h.mono hM, fun b hb _ _ => h.block b hb, fun _ _ h => h, fun _ _ h => Or.inl h⟩
theorem VStep.trans {M B B1 : Nat} {w w1 w2 : World} {F F1 F2 : DataW Unit} (h : VStep M B w w1 F F1) (k : VStep M B1 w1 w2 F1 F2) (hB : B ≤ B1) : VStep M B w w2 F F2 := by
  refine ⟨h.below.trans k.below, fun b hb hM hF => ?_, fun m b hm => k.ext m b (h.ext m b hm), fun m b hm => ?_⟩
  · refine (k.frame b (Nat.lt_of_lt_of_le hb hB) hM (fun m hm => ?_)).trans (h.frame b hb hM hF)
    rcases h.new m b hm with h1 | h1
    · exact hF m h1
    · omega
  · rcases k.new m b hm with h1 | h1
    · exact h.new m b h1
    · exact Or.inr (Nat.le_trans hB h1)
theorem VStep.mono {M B B1 : Nat} {w w1 : World} {F F1 : DataW Unit} (h : VStep M B1 w w1 F F1) (hB : B ≤ B1) : VStep M B w w1 F F1 :=
  ⟨h.below, fun b hb => h.frame b (Nat.lt_of_lt_of_le hb hB), h.ext, fun m b hm => (h.new m b hm).imp id (Nat.le_trans hB)⟩
/-- A row that is neither the map nor a box stays. -/
theorem VStep.row {M B : Nat} {w w1 : World} {F F1 : DataW Unit} (h : VStep M B w w1 F F1) {b : Nat} {cs : Array Value} {T : TypeId} (hx : Row w b cs T) (hb : b < B) (hM : b ≠ M) (hF : ∀ m, boxOf F m ≠ some b) : Row w1 b cs T :=
  hx.keep (h.frame b hb hM hF)

/-- An interface value is a Datum's; each box by its number. -/
inductive IV (F : DataW Unit) : D → Value → Prop
  | nil (m b t l) : IV F (.mk 0 m b t l) .nilIface
  | int (m b t l) : IV F (.mk 1 m b t l) (.iface 148 (.int .i64 m))
  | key (m b t l) : IV F (.mk 2 m b t l) (.iface 149 (.int .i64 m))
  | float (m b t l) : IV F (.mk 3 m b t l) (.iface 91 (.float .f64 b.toNat))
  | text (m b t l) : IV F (.mk 4 m b t l) (.iface 151 (.string t))
  | name (m b t l) : IV F (.mk 5 m b t l) (.iface 152 (.string t))
  | bool (m b t l) : IV F (.mk 6 m b t l) (.iface 153 (.bool (m == 1)))
  | bytes (m b t l a c) : IV F (.mk 7 m b t l) (.iface 154 (.slice a t.size c))
  | list (m b t l a c) : IV F (.mk 8 m b t l) (.iface 155 (.slice a l.length c))
  | pair (m b t x y u v) (hx : IV F x u) (hy : IV F y v) : IV F (.mk 9 m b t [x, y]) (.iface 158 (.agg #[u, v]))
  | err (m b t l) : IV F (.mk 10 m b t l) (.iface 160 (.agg #[.int .i64 m, .string t]))
  | ptr (m b t l g) (hg : boxOf F m = some g) : IV F (.mk 11 m b t l) (.iface 161 (.pointer (some ⟨g, 0, none⟩)))
  | noptr (m b t l) : IV F (.mk 12 m b t l) (.iface 161 (.pointer none))
  | unit (m b t l) : IV F (.mk 13 m b t l) (.iface 164 (.agg #[]))
theorem IV.ext {F F1 : DataW Unit} (he : ∀ m b, boxOf F m = some b → boxOf F1 m = some b) {d : D} {v : Value} (h : IV F d v) : IV F1 d v := by
  induction h with
  | nil m b t l => exact .nil m b t l
  | int m b t l => exact .int m b t l
  | key m b t l => exact .key m b t l
  | float m b t l => exact .float m b t l
  | text m b t l => exact .text m b t l
  | name m b t l => exact .name m b t l
  | bool m b t l => exact .bool m b t l
  | bytes m b t l a c => exact .bytes m b t l a c
  | list m b t l a c => exact .list m b t l a c
  | pair m b t x y u v _ _ ihx ihy => exact .pair m b t x y u v ihx ihy
  | err m b t l => exact .err m b t l
  | ptr m b t l g hg => exact .ptr m b t l g (he _ _ hg)
  | noptr m b t l => exact .noptr m b t l
  | unit m b t l => exact .unit m b t l

theorem IV.one {F : DataW Unit} {d : D} {v : Value} (h : IV F d v) : v.oneCell' = true := by
  cases h <;> rfl
theorem IV.form {F : DataW Unit} {d : D} {v : Value} (h : IV F d v) : v = .nilIface ∨ ∃ T z, v = .iface T z := by
  cases h <;> first | exact Or.inl rfl | exact Or.inr ⟨_, _, rfl⟩
/-- What value does of a Datum's value v. -/
def ValueSays (w0 : World) (v : Value) (d : D) : Prop := ∀ (w : World) (M n : Nat) (F : DataW Unit), Below w0.heap.size w0 w → w0.heap.size ≤ M → BoxesAt w M n F → n + d.parts ≤ 1000000 →
  Calls Tryz.prog 58 #[.map (some M), v] w fun x w' => ∃ u F1 n1, x = .returned u ∧ IV F1 d u ∧ BoxesAt w' M n1 F1 ∧ n1 ≤ n + d.parts ∧ VStep M w.heap.size w w' F F1
end Go.Proofs.YtecdniimikfbhaaGreat

/- Contract of boxes.values, from value's. -/
namespace Go.Proofs.YtecdniimikfbhaaGreat
open Go Go.RowKit Go.ChangeShapes Go.WideShapes

theorem info20 : (Tryz.prog.info? 20).map (fun i => (i.zero, i.size, i.bytes)) = some (some .nilIface, 1, 16) := by kernel_rfl

theorem owns1_keep {w w1 : World} {B n : Nat} {v : Value} {xs : List Value} (h : w.ownsRow B 20 1 v n xs) (hb : ∀ b, v.ownBlock = some b → w1.heap[b]? = w.heap[b]?) : w1.ownsRow B 20 1 v n xs := by
  obtain ⟨h1, h2⟩ := h
  refine ⟨h1, ?_⟩
  rcases h2 with h2 | ⟨g, cap, cur, rfl, hg, hh, r⟩
  · exact Or.inl h2
  · exact Or.inr ⟨g, cap, cur, rfl, hg, (hb g rfl).trans hh, r⟩

/-- The state of the loop in values. -/
structure ValuesAt (w wr : World) (M n : Nat) (F : DataW Unit) (kids : List D) (j n1 : Nat) (F1 : DataW Unit) (v : Value) (xs : List Value) : Prop where
  owns : wr.ownsRow w.heap.size 20 1 v j xs
  apart : ∀ m b, boxOf F1 m = some b → v.ownBlock ≠ some b
  boxes : BoxesAt wr M n1 F1
  few : n1 ≤ n + D.partsL (kids.take j)
  step : VStep M w.heap.size w wr F F1

theorem ValuesAt.owns4 {w wr w4 : World} {M n j n1 : Nat} {F F1 F2 : DataW Unit} {kids : List D} {v : Value} {xs : List Value} {o1 : Obj}
    (h : ValuesAt w wr M n F kids j n1 F1 v xs) (hM : M < w.heap.size) (hst : VStep M (wr.alloc o1).heap.size (wr.alloc o1) w4 F1 F2) : w4.ownsRow w.heap.size 20 1 v j xs :=
  owns1_keep h.owns fun b hb => by
    obtain ⟨h1, h2⟩ := World.ownsRow.lt h.owns b hb
    rw [hst.frame b (by simp; omega) (by omega) (fun m hm => h.apart m b hm hb), heap_alloc_old wr o1 h2]
/-- Behind a round. -/
theorem ValuesAt.behind {w wr w4 w5 : World} {M n j n1 n2 g5 cap5 : Nat} {F F1 F2 : DataW Unit} {kids : List D} {v u : Value} {xs : List Value} {x : D} {o1 o2 : Obj}
    (h : ValuesAt w wr M n F kids j n1 F1 v xs) (hM : M < w.heap.size) (hx : kids[j]? = some x) (hbx : BoxesAt w4 M n2 F2) (hn2 : n2 ≤ n1 + x.parts) (hst : VStep M (wr.alloc o1).heap.size (wr.alloc o1) w4 F1 F2)
    (hown : w5.ownsRow w.heap.size 20 1 (.slice (some ⟨g5, 0, none⟩) (j + 1) cap5) (j + 1) (xs ++ [u])) (hgr : (w4.alloc o2).grownBy w5 v.ownBlock) (hat : v.ownBlock = some g5 ∨ g5 = (w4.alloc o2).heap.size) :
    ValuesAt w w5 M n F kids (j + 1) n2 F2 (.slice (some ⟨g5, 0, none⟩) (j + 1) cap5) (xs ++ [u]) := by
  have hz1 : (wr.alloc o1).heap.size = wr.heap.size + 1 := by simp
  have hz2 : (w4.alloc o2).heap.size = w4.heap.size + 1 := by simp
  have hz4 := hst.below.size
  have hzr := h.step.below.size
  have hap : ∀ m b, boxOf F2 m = some b → v.ownBlock ≠ some b := fun m b hm e => by
    rcases hst.new m b hm with h1 | h1
    · exact h.apart m b h1 e
    · have := (World.ownsRow.lt h.owns b e).2
      omega
  have hne : ∀ b, v.ownBlock = some b → w.heap.size ≤ b ∧ b < wr.heap.size := World.ownsRow.lt h.owns
  refine ⟨hown, fun m b hm e => ?_, ?_, ?_, ?_⟩
  · have e' : g5 = b := Option.some.inj e
    have hlt := hbx.blt hm
    rcases hat with h1 | h1
    · exact hap m b hm (by rw [h1, e'])
    · omega
  · refine hbx.keep ?_ (fun m b hm => ?_)
    · rw [hgr.block M (by have := hbx.lt; omega) (fun e => by have := (hne M e.symm).1; omega), heap_alloc_old w4 o2 hbx.lt]
    · rw [hgr.block b (by have := hbx.blt hm; omega) (fun e => hap m b hm e.symm), heap_alloc_old w4 o2 (hbx.blt hm)]
  · rw [D.partsL_take hx]
    have := h.few
    omega
  · have s1 : VStep M w.heap.size wr (wr.alloc o1) F1 F1 := VStep.of_below ((Below.refl _ _).alloc hzr _) (by omega)
    have s2 : VStep M w.heap.size w4 (w4.alloc o2) F2 F2 := VStep.of_below ((Below.refl _ _).alloc (by omega) _) (by omega)
    have s3 : VStep M w.heap.size (w4.alloc o2) w5 F2 F2 := VStep.of_below (Below.grown (Below.refl _ _) hgr (by omega) (fun r hr => (hne r hr).1)) (by omega)
    exact (((h.step.trans s1 (Nat.le_refl _)).trans (hst.mono (B := w.heap.size) (by omega)) (Nat.le_refl _)).trans s2 (Nat.le_refl _)).trans s3 (Nat.le_refl _)

set_option maxRecDepth 100000 in
set_option maxHeartbeats 1600000 in
theorem values_of {w0 : World} {kids : List D} {a : Option Addr} {cap g o : Nat} {c : Nat → Nat → Value} (ha : 0 < kids.length → a = some ⟨g, o, none⟩ ∧ g < w0.heap.size ∧ kids.length ≤ cap ∧ cap ≤ 9223372036854775807) (hc : Row5 w0 g o kids.length c)
    (hk : ∀ i x, kids[i]? = some x → Rep w0 (five c i) x) (HK : ∀ i x, kids[i]? = some x → ValueSays w0 (five c i) x) (w : World) (M n : Nat) (F : DataW Unit) (hb : Below w0.heap.size w0 w) (hw0 : w0.heap.size ≤ M) (hbx : BoxesAt w M n F) (hn : n + D.partsL kids ≤ 1000000) :
    Calls Tryz.prog 64 #[.map (some M), .slice a kids.length cap] w fun x w' => ∃ a' c' F1 n1, x = .returned (.slice a' kids.length c') ∧ BoxesAt w' M n1 F1 ∧ n1 ≤ n + D.partsL kids ∧ VStep M w.heap.size w w' F F1 := by
  obtain ⟨i0, hi, hz0, hz1, hz2⟩ := info_parts info20
  have HI := Lib.hid HK
  have HR := Lib.hid hk
  have HA := Lib.hid ha
  have HC := Lib.hid hc
  have hlen : kids.length ≤ 1000000 := by have := D.length_le_partsL kids; omega
  have hMlt : M < w.heap.size := hbx.lt
  have HV := Lib.hid (show ValuesAt w w M n F kids 0 n F (.slice none 0 0) [] from ⟨World.ownsRow_nil _ _ _ _, fun m b hm e => (by cases e), hbx, by omega, VStep.of_below (Below.refl _ _) (by omega)⟩)
  have HN := Lib.hid hn
  have hB := Lib.hid hb
  clear HK hk ha hc hbx hn hb
  go_enter Tryz.func64, Tryz.ntmps64
  go_wp2_with fail
  go_loopw [5, 10] (fun v i wr => ∃ (j n1 : Nat) (F1 : DataW Unit) (a1 : Option Addr) (c1 : Nat) (xs : List Value), j ≤ kids.length ∧ i = .int .i64 j ∧ v = .slice a1 j c1 ∧ Hid (ValuesAt w wr M n F kids j n1 F1 (.slice a1 j c1) xs)) (fun _ i _ => kids.length - (intOf i).toNat)
  case atStart => exact ⟨0, n, F, none, 0, [], by omega, rfl, rfl, HV⟩
  case round =>
    obtain ⟨j, n1, F1, a1, c1, xs, hj, rfl, rfl, HVr⟩ := hrel
    clear HV
    by_cases hlt : j < kids.length
    · obtain ⟨rfl, hg, hcp, hcm⟩ := HA.out (by omega)
      have hB1 : Below w0.heap.size w0 wr := hB.out.trans (HVr.out.step.below.mono hw0)
      obtain ⟨q0, q1, q2, q3, q4⟩ := (HC.out.below hg hB1) j hlt
      have hx : kids[j]? = some kids[j] := List.getElem?_eq_getElem hlt
      have HX := Lib.hid (HI.out j _ hx)
      have HXX := Lib.hid hx
      have hnj : n1 + kids[j].parts ≤ 1000000 := by
        have h1 := HVr.out.few
        have h2 := D.partsL_take hx
        have h3 : D.partsL (kids.take (j + 1)) ≤ D.partsL kids := by
          have h4 := D.partsL_append (kids.take (j + 1)) (kids.drop (j + 1))
          rw [List.take_append_drop] at h4
          omega
        have := HN.out
        omega
      have HNJ := Lib.hid hnj
      clear hx hnj
      obtain ⟨k2, m2, b2, t2, a3, cap3, g3, o3, c3, kids3, e5, e6, hw3, _⟩ := (HR.out j _ HXX.out).inv
      obtain ⟨f0, f1, f2, f3, f4⟩ := five_inv e5
      rw [f0] at q0
      rw [f1] at q1
      rw [f2] at q2
      rw [f3] at q3
      rw [f4] at q4
      rw [e5] at HX
      generalize kids3.length = n3 at *
      clear e6 f0 f1 f2 f3 f4 e5 hw3
      generalize kids[j] = x at *
      have HB1 := Lib.hid hB1
      clear hB1
      have hj1 : j + 1 ≤ maxLen := by unfold maxLen; omega
      have hj2 : (j + 1) * 16 ≤ 140737488355328 := by omega
      go_wp2_with fail
      refine (HX.out _ M n1 F1 (HB1.out.alloc HB1.out.size _) hw0 (HVr.out.boxes.later (by go_grown)) HNJ.out).mono ?_
      rintro e w4 ⟨u, F2, n2, rfl, hiv, hbx4, hn2, hst⟩
      have hown4 := HVr.out.owns4 hMlt hst
      have hzz : w.heap.size ≤ w4.heap.size := (by have h1 := hst.below.size; have h2 := HVr.out.step.below.size; simp at h1; omega)
      have hbase : ∀ ob, w.heap.size ≤ (w4.alloc ob).heap.size := (fun ob => by simp; omega)
      have HIV := Lib.hid hiv
      have HBX := Lib.hid hbx4
      have HST := Lib.hid hst
      have HN2 := Lib.hid hn2
      have hform := hiv.form
      clear hiv hbx4 hst hn2
      rcases hform with rfl | ⟨T, z, rfl⟩
      all_goals
        dsimp only
        go_wp2_with (at_builtin; refine wpList_append_lies _ (by rfl) (.tmp 14) (.tmp 18) 108 (by rfl) w.heap.size 20 i0 .nilIface 1 16 Tryz.underlying108 hi hz0 hz1 hz2 (by rfl) (by decide) _ _ _ (by rfl) (World.ownsRow.alloc hown4 _) ⟨w4.heap.size, 0, none⟩ 1 1 [_] (by rfl) (by rfl) (World.news_of_block (heap_alloc_new w4 _)) (by simp; rfl) (by decide) hj1 hj2 (hbase _) _ (by rfl) ?_; intro g5 cap5 w5 hown5 hgrow hat hlt5)
        go_roundw
        case rel => exact ⟨j + 1, n2, F2, _, cap5, _, by omega, by go_num, rfl, HVr.out.behind hMlt HXX.out HBX.out HN2.out HST.out hown5 hgrow hat⟩
        case measure => simp [intOf]; omega
    · obtain rfl : j = kids.length := by omega
      go_wp2_with fail
      refine bodyPost_ret (results_tmp rfl _ _ _) rfl ⟨_, _, F1, n1, rfl, HVr.out.boxes, ?_, HVr.out.step⟩
      have := HVr.out.few
      rwa [List.take_length] at this
end Go.Proofs.YtecdniimikfbhaaGreat

/- Contracts of boxes.value, of the kinds without parts. -/
namespace Go.Proofs.YtecdniimikfbhaaGreat
open Go Go.RowKit Go.ChangeShapes Go.WideShapes

theorem frombits (b : Int) (w : World) : (callFunc 63 #[.int .u64 b]).run Tryz.prog w = .ok (.value (.float .f64 b.toNat)) w := by kernel_rfl
attribute [local go_sem] frombits
set_option maxRecDepth 100000 in
theorem val_0 (m b : Int) (t : ByteArray) (sl : Value) (M : Nat) (w : World) : Calls Tryz.prog 58 #[.map (some M), .agg #[.int .i64 0, .int .i64 m, .int .u64 b, .string t, sl]] w fun x w' => x = .returned (.nilIface) ∧ Below w.heap.size w w' := by
  go_enter Tryz.func58, Tryz.ntmps58
  go_wp2_with fail
  exact bodyPost_ret (results_tmp rfl _ _ _) rfl ⟨rfl, by go_grown⟩
set_option maxRecDepth 100000 in
theorem val_1 (m b : Int) (t : ByteArray) (sl : Value) (M : Nat) (w : World) : Calls Tryz.prog 58 #[.map (some M), .agg #[.int .i64 1, .int .i64 m, .int .u64 b, .string t, sl]] w fun x w' => x = .returned (.iface 148 (.int .i64 m)) ∧ Below w.heap.size w w' := by
  go_enter Tryz.func58, Tryz.ntmps58
  go_wp2_with fail
  exact bodyPost_ret (results_tmp rfl _ _ _) rfl ⟨rfl, by go_grown⟩
set_option maxRecDepth 100000 in
theorem val_2 (m b : Int) (t : ByteArray) (sl : Value) (M : Nat) (w : World) : Calls Tryz.prog 58 #[.map (some M), .agg #[.int .i64 2, .int .i64 m, .int .u64 b, .string t, sl]] w fun x w' => x = .returned (.iface 149 (.int .i64 m)) ∧ Below w.heap.size w w' := by
  go_enter Tryz.func58, Tryz.ntmps58
  go_wp2_with fail
  exact bodyPost_ret (results_tmp rfl _ _ _) rfl ⟨rfl, by go_grown⟩
set_option maxRecDepth 100000 in
theorem val_3 (m b : Int) (t : ByteArray) (sl : Value) (M : Nat) (w : World) : Calls Tryz.prog 58 #[.map (some M), .agg #[.int .i64 3, .int .i64 m, .int .u64 b, .string t, sl]] w fun x w' => x = .returned (.iface 91 (.float .f64 b.toNat)) ∧ Below w.heap.size w w' := by
  go_enter Tryz.func58, Tryz.ntmps58
  go_wp2_with fail
  exact bodyPost_ret (results_tmp rfl _ _ _) rfl ⟨rfl, by go_grown⟩
set_option maxRecDepth 100000 in
theorem val_4 (m b : Int) (t : ByteArray) (sl : Value) (M : Nat) (w : World) : Calls Tryz.prog 58 #[.map (some M), .agg #[.int .i64 4, .int .i64 m, .int .u64 b, .string t, sl]] w fun x w' => x = .returned (.iface 151 (.string t)) ∧ Below w.heap.size w w' := by
  go_enter Tryz.func58, Tryz.ntmps58
  go_wp2_with fail
  exact bodyPost_ret (results_tmp rfl _ _ _) rfl ⟨rfl, by go_grown⟩
set_option maxRecDepth 100000 in
theorem val_5 (m b : Int) (t : ByteArray) (sl : Value) (M : Nat) (w : World) : Calls Tryz.prog 58 #[.map (some M), .agg #[.int .i64 5, .int .i64 m, .int .u64 b, .string t, sl]] w fun x w' => x = .returned (.iface 152 (.string t)) ∧ Below w.heap.size w w' := by
  go_enter Tryz.func58, Tryz.ntmps58
  go_wp2_with fail
  exact bodyPost_ret (results_tmp rfl _ _ _) rfl ⟨rfl, by go_grown⟩
set_option maxRecDepth 100000 in
theorem val_6 (m b : Int) (t : ByteArray) (sl : Value) (M : Nat) (w : World) : Calls Tryz.prog 58 #[.map (some M), .agg #[.int .i64 6, .int .i64 m, .int .u64 b, .string t, sl]] w fun x w' => x = .returned (.iface 153 (.bool (m == 1))) ∧ Below w.heap.size w w' := by
  go_enter Tryz.func58, Tryz.ntmps58
  go_wp2_with fail
  exact bodyPost_ret (results_tmp rfl _ _ _) rfl ⟨rfl, by go_grown⟩
set_option maxRecDepth 100000 in
theorem val_10 (m b : Int) (t : ByteArray) (sl : Value) (M : Nat) (w : World) : Calls Tryz.prog 58 #[.map (some M), .agg #[.int .i64 10, .int .i64 m, .int .u64 b, .string t, sl]] w fun x w' => x = .returned (.iface 160 (.agg #[.int .i64 m, .string t])) ∧ Below w.heap.size w w' := by
  go_enter Tryz.func58, Tryz.ntmps58
  go_wp2_with fail
  exact bodyPost_ret (results_tmp rfl _ _ _) rfl ⟨rfl, by go_grown⟩
set_option maxRecDepth 100000 in
theorem val_12 (m b : Int) (t : ByteArray) (sl : Value) (M : Nat) (w : World) : Calls Tryz.prog 58 #[.map (some M), .agg #[.int .i64 12, .int .i64 m, .int .u64 b, .string t, sl]] w fun x w' => x = .returned (.iface 161 (.pointer none)) ∧ Below w.heap.size w w' := by
  go_enter Tryz.func58, Tryz.ntmps58
  go_wp2_with fail
  exact bodyPost_ret (results_tmp rfl _ _ _) rfl ⟨rfl, by go_grown⟩
set_option maxRecDepth 100000 in
theorem val_13 (m b : Int) (t : ByteArray) (sl : Value) (M : Nat) (w : World) : Calls Tryz.prog 58 #[.map (some M), .agg #[.int .i64 13, .int .i64 m, .int .u64 b, .string t, sl]] w fun x w' => x = .returned (.iface 164 (.agg #[])) ∧ Below w.heap.size w w' := by
  go_enter Tryz.func58, Tryz.ntmps58
  go_wp2_with fail
  exact bodyPost_ret (results_tmp rfl _ _ _) rfl ⟨rfl, by go_grown⟩
set_option maxRecDepth 100000 in
theorem val_7 (m b : Int) (t : ByteArray) (sl : Value) (M : Nat) (w : World) : Calls Tryz.prog 58 #[.map (some M), .agg #[.int .i64 7, .int .i64 m, .int .u64 b, .string t, sl]] w fun x w' => (∃ a c, x = .returned (.iface 154 (.slice a t.size c))) ∧ Below w.heap.size w w' := by
  have hcv := fun w => run_bytes_of_string (P := Tryz.prog) w 9 154 5 t Tryz.underlying9 Tryz.underlying154 Tryz.underlying5
  go_enter Tryz.func58, Tryz.ntmps58
  go_wp2_with fail
  exact bodyPost_ret (results_tmp rfl _ _ _) rfl ⟨⟨_, _, rfl⟩, by go_grown⟩
end Go.Proofs.YtecdniimikfbhaaGreat
