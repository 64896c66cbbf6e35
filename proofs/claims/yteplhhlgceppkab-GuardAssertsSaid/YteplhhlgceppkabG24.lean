/- Contracts of guard's act, an arm each: give, assert, face, own, error, and no act. -/
import Derived.Test.YteplhhlgceppkabG23
namespace Go.Proofs.Yteplhhlgceppkab
open Go Go.RowKit Go.ChangeShapes Go.WideShapes

set_option maxRecDepth 100000 in
set_option maxHeartbeats 1600000 in
theorem act_give {w0 : World} {k m b : Int} {t : ByteArray} {a : Option Addr} {l cap : Nat} {d : D} (hv : Rep w0 (.agg #[.int .i64 k, .int .i64 m, .int .u64 b, .string t, .slice a l cap]) d) (hs : Slim d) (b0 b1 b2 b3 b4 : Value) (n : Int) (w : World) (hb0 : Below w0.heap.size w0 w) :
    Calls Try.prog 17 #[.agg #[.int .i64 1, .int .i64 k, .int .i64 m, .int .u64 b, .string t, .slice a l cap, b0, b1, b2, b3, b4, .int .i64 n]] w fun x w' => ∃ v', x = .returned v' ∧ ResV w' (fun b => w.heap.size ≤ b) v' (.gave d) ∧ Below w.heap.size w w' := by
  have HG := Lib.hid (fun W h => gave_any hv hs W h)
  clear hv hs
  have HB := Lib.hid hb0
  clear hb0
  obtain ⟨W1, hW1, hb1, hz, hx1, hx2⟩ := act_worlds w (.int .i64 1) (.int .i64 k) (.int .i64 m) (.int .u64 b) (.string t) (.slice a l cap) (b0) (b1) (b2) (b3) (b4) (.int .i64 n)
  have p0 : W1.cell? ⟨w.heap.size, 0, none⟩ = some (.int .i64 1) := hx1.cell 0 rfl
  have p1 : W1.cell? ⟨w.heap.size, 1, none⟩ = some (.int .i64 k) := hx1.cell 1 rfl
  have p2 : W1.cell? ⟨w.heap.size, 2, none⟩ = some (.int .i64 m) := hx1.cell 2 rfl
  have p3 : W1.cell? ⟨w.heap.size, 3, none⟩ = some (.int .u64 b) := hx1.cell 3 rfl
  have p4 : W1.cell? ⟨w.heap.size, 4, none⟩ = some (.string t) := hx1.cell 4 rfl
  have p5 : W1.cell? ⟨w.heap.size, 5, none⟩ = some (.slice a l cap) := hx1.cell 5 rfl
  have p6 : W1.cell? ⟨w.heap.size, 6, none⟩ = some (b0) := hx1.cell 6 rfl
  have p7 : W1.cell? ⟨w.heap.size, 7, none⟩ = some (b1) := hx1.cell 7 rfl
  have p8 : W1.cell? ⟨w.heap.size, 8, none⟩ = some (b2) := hx1.cell 8 rfl
  have p9 : W1.cell? ⟨w.heap.size, 9, none⟩ = some (b3) := hx1.cell 9 rfl
  have p10 : W1.cell? ⟨w.heap.size, 10, none⟩ = some (b4) := hx1.cell 10 rfl
  have p11 : W1.cell? ⟨w.heap.size, 11, none⟩ = some (.int .i64 n) := hx1.cell 11 rfl
  go_enter Try.func17, Try.ntmps17
  go_upto_region 1 with fail
  rw [← hW1]
  clear hW1
  go_wp2_with (go_at_call 30; refine (HG.out _ (HB.out.trans (hb1.mono HB.out.size))).mono ?_; rintro e w2 ⟨v', rfl, hv', hb2⟩; obtain ⟨r0, r1, r2, r3, r4, k5, m5, b5, t5, a5, n5, cap5, rfl⟩ := hv'.form; have hy := hx2.later hb2; have q0 : w2.cell? ⟨w.heap.size + 1, 0, none⟩ = some (.int .i64 0) := hy.cell 0 rfl; have f0 := hy.thaw 0; have q1 : w2.cell? ⟨w.heap.size + 1, 1, none⟩ = some (.int .i64 0) := hy.cell 1 rfl; have f1 := hy.thaw 1; have q2 : w2.cell? ⟨w.heap.size + 1, 2, none⟩ = some (.int .i64 0) := hy.cell 2 rfl; have f2 := hy.thaw 2; have q3 : w2.cell? ⟨w.heap.size + 1, 3, none⟩ = some (.int .i64 0) := hy.cell 3 rfl; have f3 := hy.thaw 3; have q4 : w2.cell? ⟨w.heap.size + 1, 4, none⟩ = some (.bool false) := hy.cell 4 rfl; have f4 := hy.thaw 4; have q5 : w2.cell? ⟨w.heap.size + 1, 5, none⟩ = some (.int .i64 0) := hy.cell 5 rfl; have f5 := hy.thaw 5; have q6 : w2.cell? ⟨w.heap.size + 1, 6, none⟩ = some (.int .i64 0) := hy.cell 6 rfl; have f6 := hy.thaw 6; have q7 : w2.cell? ⟨w.heap.size + 1, 7, none⟩ = some (.int .u64 0) := hy.cell 7 rfl; have f7 := hy.thaw 7; have q8 : w2.cell? ⟨w.heap.size + 1, 8, none⟩ = some (.string ⟨#[]⟩) := hy.cell 8 rfl; have f8 := hy.thaw 8; have q9 : w2.cell? ⟨w.heap.size + 1, 9, none⟩ = some (.slice none 0 0) := hy.cell 9 rfl; have f9 := hy.thaw 9; dsimp only)
  have hzo := hz.out
  exact bodyPost_ret (results_cell_row rfl _ _ (w.heap.size + 1) 35 _ (0, 0) _ rfl (hy.set10 _ _ _ _ _ _ _ _ _ _) Try.underlying35 rfl (by kernel_rfl)) rfl
    ⟨_, rfl, hv'.set10 (by omega) (by omega), set10_below (hb1.trans (hb2.mono (by omega))) (by omega)⟩

set_option maxRecDepth 100000 in
set_option maxHeartbeats 1600000 in
theorem act_kind {w0 : World} {k : Nat} {m b : Int} {t : ByteArray} {a : Option Addr} {l cap : Nat} {d : D} (hk : k ≤ 13) (hv : Rep w0 (.agg #[.int .i64 k, .int .i64 m, .int .u64 b, .string t, .slice a l cap]) d) (hs : Slim d) (b0 b1 b2 b3 b4 : Value) (n : Int) (h : isB k n = true) (w : World) (hb0 : Below w0.heap.size w0 w) :
    Calls Try.prog 17 #[.agg #[.int .i64 2, .int .i64 k, .int .i64 m, .int .u64 b, .string t, .slice a l cap, b0, b1, b2, b3, b4, .int .i64 n]] w fun x w' => ∃ v', x = .returned v' ∧ ResV w' (fun b => w.heap.size ≤ b) v' (.gave d) ∧ Below w.heap.size w w' := by
  have HK := Lib.hid (fun W hb => kind_yes k hk n h hv hs W hb)
  have HG := Lib.hid (fun (w1 : World) (v : Value) (hv : Rep w1 v d) W h => gave_any hv hs W h)
  clear hv hs h
  have HB := Lib.hid hb0
  clear hb0
  obtain ⟨W1, hW1, hb1, hz, hx1, hx2⟩ := act_worlds w (.int .i64 2) (.int .i64 k) (.int .i64 m) (.int .u64 b) (.string t) (.slice a l cap) (b0) (b1) (b2) (b3) (b4) (.int .i64 n)
  have p0 : W1.cell? ⟨w.heap.size, 0, none⟩ = some (.int .i64 2) := hx1.cell 0 rfl
  have p1 : W1.cell? ⟨w.heap.size, 1, none⟩ = some (.int .i64 k) := hx1.cell 1 rfl
  have p2 : W1.cell? ⟨w.heap.size, 2, none⟩ = some (.int .i64 m) := hx1.cell 2 rfl
  have p3 : W1.cell? ⟨w.heap.size, 3, none⟩ = some (.int .u64 b) := hx1.cell 3 rfl
  have p4 : W1.cell? ⟨w.heap.size, 4, none⟩ = some (.string t) := hx1.cell 4 rfl
  have p5 : W1.cell? ⟨w.heap.size, 5, none⟩ = some (.slice a l cap) := hx1.cell 5 rfl
  have p6 : W1.cell? ⟨w.heap.size, 6, none⟩ = some (b0) := hx1.cell 6 rfl
  have p7 : W1.cell? ⟨w.heap.size, 7, none⟩ = some (b1) := hx1.cell 7 rfl
  have p8 : W1.cell? ⟨w.heap.size, 8, none⟩ = some (b2) := hx1.cell 8 rfl
  have p9 : W1.cell? ⟨w.heap.size, 9, none⟩ = some (b3) := hx1.cell 9 rfl
  have p10 : W1.cell? ⟨w.heap.size, 10, none⟩ = some (b4) := hx1.cell 10 rfl
  have p11 : W1.cell? ⟨w.heap.size, 11, none⟩ = some (.int .i64 n) := hx1.cell 11 rfl
  go_enter Try.func17, Try.ntmps17
  go_upto_region 1 with fail
  rw [← hW1]
  clear hW1
  go_wp2_with (first | (go_at_call 31; refine (HK.out _ (HB.out.trans (hb1.mono HB.out.size))).mono ?_; rintro e w2 ⟨v', rfl, hv2, hb2⟩) | (go_at_call 30; refine (HG.out _ _ hv2.rep _ (Below.refl _ _)).mono ?_; rintro e w3 ⟨v', rfl, hv', hb3⟩; obtain ⟨r0, r1, r2, r3, r4, k5, m5, b5, t5, a5, n5, cap5, rfl⟩ := hv'.form; have hb23 : Below W1.heap.size W1 w3 := hb2.trans (hb3.mono hb2.size); have hy := hx2.later hb23; have q0 : w3.cell? ⟨w.heap.size + 1, 0, none⟩ = some (.int .i64 0) := hy.cell 0 rfl; have f0 := hy.thaw 0; have q1 : w3.cell? ⟨w.heap.size + 1, 1, none⟩ = some (.int .i64 0) := hy.cell 1 rfl; have f1 := hy.thaw 1; have q2 : w3.cell? ⟨w.heap.size + 1, 2, none⟩ = some (.int .i64 0) := hy.cell 2 rfl; have f2 := hy.thaw 2; have q3 : w3.cell? ⟨w.heap.size + 1, 3, none⟩ = some (.int .i64 0) := hy.cell 3 rfl; have f3 := hy.thaw 3; have q4 : w3.cell? ⟨w.heap.size + 1, 4, none⟩ = some (.bool false) := hy.cell 4 rfl; have f4 := hy.thaw 4; have q5 : w3.cell? ⟨w.heap.size + 1, 5, none⟩ = some (.int .i64 0) := hy.cell 5 rfl; have f5 := hy.thaw 5; have q6 : w3.cell? ⟨w.heap.size + 1, 6, none⟩ = some (.int .i64 0) := hy.cell 6 rfl; have f6 := hy.thaw 6; have q7 : w3.cell? ⟨w.heap.size + 1, 7, none⟩ = some (.int .u64 0) := hy.cell 7 rfl; have f7 := hy.thaw 7; have q8 : w3.cell? ⟨w.heap.size + 1, 8, none⟩ = some (.string ⟨#[]⟩) := hy.cell 8 rfl; have f8 := hy.thaw 8; have q9 : w3.cell? ⟨w.heap.size + 1, 9, none⟩ = some (.slice none 0 0) := hy.cell 9 rfl; have f9 := hy.thaw 9; dsimp only))
  have hzl := hb2.size
  have hzo := hz.out
  exact bodyPost_ret (results_cell_row rfl _ _ (w.heap.size + 1) 35 _ (0, 0) _ rfl (hy.set10 _ _ _ _ _ _ _ _ _ _) Try.underlying35 rfl (by kernel_rfl)) rfl
    ⟨_, rfl, hv'.set10 (by omega) (by omega), set10_below (hb1.trans (hb23.mono (by omega))) (by omega)⟩

set_option maxRecDepth 100000 in
set_option maxHeartbeats 1600000 in
theorem act_kind_no {k : Nat} {m b : Int} {t : ByteArray} {a : Option Addr} {l cap : Nat} (hk : k ≤ 13) (b0 b1 b2 b3 b4 : Value) (n : Int) (h : isB k n = false) (w : World) :
    Calls Try.prog 17 #[.agg #[.int .i64 2, .int .i64 k, .int .i64 m, .int .u64 b, .string t, .slice a l cap, b0, b1, b2, b3, b4, .int .i64 n]] w fun x w' => x = .panicked (thrown 60 (.agg #[.int .i64 k])) ∧ Below w.heap.size w w' := by
  have HK := Lib.hid (fun W => kind_no k hk n h (.int .i64 m) (.int .u64 b) (.string t) (.slice a l cap) W)
  clear h
  obtain ⟨W1, hW1, hb1, hz, hx1, hx2⟩ := act_worlds w (.int .i64 2) (.int .i64 k) (.int .i64 m) (.int .u64 b) (.string t) (.slice a l cap) (b0) (b1) (b2) (b3) (b4) (.int .i64 n)
  have p0 : W1.cell? ⟨w.heap.size, 0, none⟩ = some (.int .i64 2) := hx1.cell 0 rfl
  have p1 : W1.cell? ⟨w.heap.size, 1, none⟩ = some (.int .i64 k) := hx1.cell 1 rfl
  have p2 : W1.cell? ⟨w.heap.size, 2, none⟩ = some (.int .i64 m) := hx1.cell 2 rfl
  have p3 : W1.cell? ⟨w.heap.size, 3, none⟩ = some (.int .u64 b) := hx1.cell 3 rfl
  have p4 : W1.cell? ⟨w.heap.size, 4, none⟩ = some (.string t) := hx1.cell 4 rfl
  have p5 : W1.cell? ⟨w.heap.size, 5, none⟩ = some (.slice a l cap) := hx1.cell 5 rfl
  have p6 : W1.cell? ⟨w.heap.size, 6, none⟩ = some (b0) := hx1.cell 6 rfl
  have p7 : W1.cell? ⟨w.heap.size, 7, none⟩ = some (b1) := hx1.cell 7 rfl
  have p8 : W1.cell? ⟨w.heap.size, 8, none⟩ = some (b2) := hx1.cell 8 rfl
  have p9 : W1.cell? ⟨w.heap.size, 9, none⟩ = some (b3) := hx1.cell 9 rfl
  have p10 : W1.cell? ⟨w.heap.size, 10, none⟩ = some (b4) := hx1.cell 10 rfl
  have p11 : W1.cell? ⟨w.heap.size, 11, none⟩ = some (.int .i64 n) := hx1.cell 11 rfl
  go_enter Try.func17, Try.ntmps17
  go_upto_region 1 with fail
  rw [← hW1]
  clear hW1
  go_wp2_with (go_at_call 31; refine (HK.out _).mono ?_; rintro e w2 ⟨rfl, hb2⟩)
  exact ⟨rfl, rfl, hb1.trans (hb2.mono hb1.size)⟩

set_option maxRecDepth 100000 in
set_option maxHeartbeats 1600000 in
theorem act_face {w0 : World} {k : Nat} {m b : Int} {t : ByteArray} {a : Option Addr} {l cap : Nat} {d : D} (hk : k ≤ 13) (hv : Rep w0 (.agg #[.int .i64 k, .int .i64 m, .int .u64 b, .string t, .slice a l cap]) d) (hs : Slim d) (b0 b1 b2 b3 b4 : Value) (n : Int) (h : hasFi k n = true) (w : World) (hb0 : Below w0.heap.size w0 w) :
    Calls Try.prog 17 #[.agg #[.int .i64 3, .int .i64 k, .int .i64 m, .int .u64 b, .string t, .slice a l cap, b0, b1, b2, b3, b4, .int .i64 n]] w fun x w' => ∃ v', x = .returned v' ∧ ResV w' (fun b => w.heap.size ≤ b) v' (.gave d) ∧ Below w.heap.size w w' := by
  have HK := Lib.hid (fun W => gface_yes k hk n h m b t a l cap W)
  have HG := Lib.hid (fun W h => gave_any hv hs W h)
  clear hv hs h
  have HB := Lib.hid hb0
  clear hb0
  obtain ⟨W1, hW1, hb1, hz, hx1, hx2⟩ := act_worlds w (.int .i64 3) (.int .i64 k) (.int .i64 m) (.int .u64 b) (.string t) (.slice a l cap) (b0) (b1) (b2) (b3) (b4) (.int .i64 n)
  have p0 : W1.cell? ⟨w.heap.size, 0, none⟩ = some (.int .i64 3) := hx1.cell 0 rfl
  have p1 : W1.cell? ⟨w.heap.size, 1, none⟩ = some (.int .i64 k) := hx1.cell 1 rfl
  have p2 : W1.cell? ⟨w.heap.size, 2, none⟩ = some (.int .i64 m) := hx1.cell 2 rfl
  have p3 : W1.cell? ⟨w.heap.size, 3, none⟩ = some (.int .u64 b) := hx1.cell 3 rfl
  have p4 : W1.cell? ⟨w.heap.size, 4, none⟩ = some (.string t) := hx1.cell 4 rfl
  have p5 : W1.cell? ⟨w.heap.size, 5, none⟩ = some (.slice a l cap) := hx1.cell 5 rfl
  have p6 : W1.cell? ⟨w.heap.size, 6, none⟩ = some (b0) := hx1.cell 6 rfl
  have p7 : W1.cell? ⟨w.heap.size, 7, none⟩ = some (b1) := hx1.cell 7 rfl
  have p8 : W1.cell? ⟨w.heap.size, 8, none⟩ = some (b2) := hx1.cell 8 rfl
  have p9 : W1.cell? ⟨w.heap.size, 9, none⟩ = some (b3) := hx1.cell 9 rfl
  have p10 : W1.cell? ⟨w.heap.size, 10, none⟩ = some (b4) := hx1.cell 10 rfl
  have p11 : W1.cell? ⟨w.heap.size, 11, none⟩ = some (.int .i64 n) := hx1.cell 11 rfl
  go_enter Try.func17, Try.ntmps17
  go_upto_region 1 with fail
  rw [← hW1]
  clear hW1
  go_wp2_with (first | (go_at_call 32; refine (HK.out _).mono ?_; rintro e w2 ⟨rfl, hb2⟩) | (go_at_call 30; refine (HG.out _ (HB.out.trans ((hb1.trans (hb2.mono hb1.size)).mono HB.out.size))).mono ?_; rintro e w3 ⟨v', rfl, hv', hb3⟩; obtain ⟨r0, r1, r2, r3, r4, k5, m5, b5, t5, a5, n5, cap5, rfl⟩ := hv'.form; have hb23 : Below W1.heap.size W1 w3 := hb2.trans (hb3.mono hb2.size); have hy := hx2.later hb23; have q0 : w3.cell? ⟨w.heap.size + 1, 0, none⟩ = some (.int .i64 0) := hy.cell 0 rfl; have f0 := hy.thaw 0; have q1 : w3.cell? ⟨w.heap.size + 1, 1, none⟩ = some (.int .i64 0) := hy.cell 1 rfl; have f1 := hy.thaw 1; have q2 : w3.cell? ⟨w.heap.size + 1, 2, none⟩ = some (.int .i64 0) := hy.cell 2 rfl; have f2 := hy.thaw 2; have q3 : w3.cell? ⟨w.heap.size + 1, 3, none⟩ = some (.int .i64 0) := hy.cell 3 rfl; have f3 := hy.thaw 3; have q4 : w3.cell? ⟨w.heap.size + 1, 4, none⟩ = some (.bool false) := hy.cell 4 rfl; have f4 := hy.thaw 4; have q5 : w3.cell? ⟨w.heap.size + 1, 5, none⟩ = some (.int .i64 0) := hy.cell 5 rfl; have f5 := hy.thaw 5; have q6 : w3.cell? ⟨w.heap.size + 1, 6, none⟩ = some (.int .i64 0) := hy.cell 6 rfl; have f6 := hy.thaw 6; have q7 : w3.cell? ⟨w.heap.size + 1, 7, none⟩ = some (.int .u64 0) := hy.cell 7 rfl; have f7 := hy.thaw 7; have q8 : w3.cell? ⟨w.heap.size + 1, 8, none⟩ = some (.string ⟨#[]⟩) := hy.cell 8 rfl; have f8 := hy.thaw 8; have q9 : w3.cell? ⟨w.heap.size + 1, 9, none⟩ = some (.slice none 0 0) := hy.cell 9 rfl; have f9 := hy.thaw 9; dsimp only))
  have hzl := hb2.size
  have hzo := hz.out
  exact bodyPost_ret (results_cell_row rfl _ _ (w.heap.size + 1) 35 _ (0, 0) _ rfl (hy.set10 _ _ _ _ _ _ _ _ _ _) Try.underlying35 rfl (by kernel_rfl)) rfl
    ⟨_, rfl, hv'.set10 (by omega) (by omega), set10_below (hb1.trans (hb23.mono (by omega))) (by omega)⟩

set_option maxRecDepth 100000 in
set_option maxHeartbeats 1600000 in
theorem act_face_no {k : Nat} {m b : Int} {t : ByteArray} {a : Option Addr} {l cap : Nat} (hk : k ≤ 13) (b0 b1 b2 b3 b4 : Value) (n : Int) (h : hasFi k n = false) (w : World) :
    Calls Try.prog 17 #[.agg #[.int .i64 3, .int .i64 k, .int .i64 m, .int .u64 b, .string t, .slice a l cap, b0, b1, b2, b3, b4, .int .i64 n]] w fun x w' => x = .panicked (thrown 60 (.agg #[.int .i64 (faceMiss k n)])) ∧ Below w.heap.size w w' := by
  have HK := Lib.hid (fun W => gface_no k hk n h (.int .i64 m) (.int .u64 b) (.string t) (.slice a l cap) W)
  clear h
  obtain ⟨W1, hW1, hb1, hz, hx1, hx2⟩ := act_worlds w (.int .i64 3) (.int .i64 k) (.int .i64 m) (.int .u64 b) (.string t) (.slice a l cap) (b0) (b1) (b2) (b3) (b4) (.int .i64 n)
  have p0 : W1.cell? ⟨w.heap.size, 0, none⟩ = some (.int .i64 3) := hx1.cell 0 rfl
  have p1 : W1.cell? ⟨w.heap.size, 1, none⟩ = some (.int .i64 k) := hx1.cell 1 rfl
  have p2 : W1.cell? ⟨w.heap.size, 2, none⟩ = some (.int .i64 m) := hx1.cell 2 rfl
  have p3 : W1.cell? ⟨w.heap.size, 3, none⟩ = some (.int .u64 b) := hx1.cell 3 rfl
  have p4 : W1.cell? ⟨w.heap.size, 4, none⟩ = some (.string t) := hx1.cell 4 rfl
  have p5 : W1.cell? ⟨w.heap.size, 5, none⟩ = some (.slice a l cap) := hx1.cell 5 rfl
  have p6 : W1.cell? ⟨w.heap.size, 6, none⟩ = some (b0) := hx1.cell 6 rfl
  have p7 : W1.cell? ⟨w.heap.size, 7, none⟩ = some (b1) := hx1.cell 7 rfl
  have p8 : W1.cell? ⟨w.heap.size, 8, none⟩ = some (b2) := hx1.cell 8 rfl
  have p9 : W1.cell? ⟨w.heap.size, 9, none⟩ = some (b3) := hx1.cell 9 rfl
  have p10 : W1.cell? ⟨w.heap.size, 10, none⟩ = some (b4) := hx1.cell 10 rfl
  have p11 : W1.cell? ⟨w.heap.size, 11, none⟩ = some (.int .i64 n) := hx1.cell 11 rfl
  go_enter Try.func17, Try.ntmps17
  go_upto_region 1 with fail
  rw [← hW1]
  clear hW1
  go_wp2_with (go_at_call 32; refine (HK.out _).mono ?_; rintro e w2 ⟨rfl, hb2⟩)
  exact ⟨rfl, rfl, hb1.trans (hb2.mono hb1.size)⟩

set_option maxRecDepth 100000 in
set_option maxHeartbeats 1600000 in
theorem act_own {k m b : Int} {t : ByteArray} {a : Option Addr} {l cap : Nat} (b0 b1 b2 b3 b4 : Value) (n : Int) (w : World) :
    Calls Try.prog 17 #[.agg #[.int .i64 8, .int .i64 k, .int .i64 m, .int .u64 b, .string t, .slice a l cap, b0, b1, b2, b3, b4, .int .i64 n]] w fun x w' => x = .panicked (thrown 62 (.int .i64 n)) ∧ Below w.heap.size w w' := by
  obtain ⟨W1, hW1, hb1, hz, hx1, hx2⟩ := act_worlds w (.int .i64 8) (.int .i64 k) (.int .i64 m) (.int .u64 b) (.string t) (.slice a l cap) (b0) (b1) (b2) (b3) (b4) (.int .i64 n)
  have p0 : W1.cell? ⟨w.heap.size, 0, none⟩ = some (.int .i64 8) := hx1.cell 0 rfl
  have p1 : W1.cell? ⟨w.heap.size, 1, none⟩ = some (.int .i64 k) := hx1.cell 1 rfl
  have p2 : W1.cell? ⟨w.heap.size, 2, none⟩ = some (.int .i64 m) := hx1.cell 2 rfl
  have p3 : W1.cell? ⟨w.heap.size, 3, none⟩ = some (.int .u64 b) := hx1.cell 3 rfl
  have p4 : W1.cell? ⟨w.heap.size, 4, none⟩ = some (.string t) := hx1.cell 4 rfl
  have p5 : W1.cell? ⟨w.heap.size, 5, none⟩ = some (.slice a l cap) := hx1.cell 5 rfl
  have p6 : W1.cell? ⟨w.heap.size, 6, none⟩ = some (b0) := hx1.cell 6 rfl
  have p7 : W1.cell? ⟨w.heap.size, 7, none⟩ = some (b1) := hx1.cell 7 rfl
  have p8 : W1.cell? ⟨w.heap.size, 8, none⟩ = some (b2) := hx1.cell 8 rfl
  have p9 : W1.cell? ⟨w.heap.size, 9, none⟩ = some (b3) := hx1.cell 9 rfl
  have p10 : W1.cell? ⟨w.heap.size, 10, none⟩ = some (b4) := hx1.cell 10 rfl
  have p11 : W1.cell? ⟨w.heap.size, 11, none⟩ = some (.int .i64 n) := hx1.cell 11 rfl
  go_enter Try.func17, Try.ntmps17
  go_upto_region 1 with fail
  rw [← hW1]
  clear hW1
  go_wp2_with fail
  exact ⟨rfl, rfl, hb1⟩

set_option maxRecDepth 100000 in
set_option maxHeartbeats 1600000 in
theorem act_error {k m b : Int} {t : ByteArray} {a : Option Addr} {l cap : Nat} (b0 b1 b2 b3 b4 : Value) (n : Int) (w : World) :
    Calls Try.prog 17 #[.agg #[.int .i64 9, .int .i64 k, .int .i64 m, .int .u64 b, .string t, .slice a l cap, b0, b1, b2, b3, b4, .int .i64 n]] w fun x w' => x = .panicked (thrown 70 (.int .i64 n)) ∧ Below w.heap.size w w' := by
  obtain ⟨W1, hW1, hb1, hz, hx1, hx2⟩ := act_worlds w (.int .i64 9) (.int .i64 k) (.int .i64 m) (.int .u64 b) (.string t) (.slice a l cap) (b0) (b1) (b2) (b3) (b4) (.int .i64 n)
  have p0 : W1.cell? ⟨w.heap.size, 0, none⟩ = some (.int .i64 9) := hx1.cell 0 rfl
  have p1 : W1.cell? ⟨w.heap.size, 1, none⟩ = some (.int .i64 k) := hx1.cell 1 rfl
  have p2 : W1.cell? ⟨w.heap.size, 2, none⟩ = some (.int .i64 m) := hx1.cell 2 rfl
  have p3 : W1.cell? ⟨w.heap.size, 3, none⟩ = some (.int .u64 b) := hx1.cell 3 rfl
  have p4 : W1.cell? ⟨w.heap.size, 4, none⟩ = some (.string t) := hx1.cell 4 rfl
  have p5 : W1.cell? ⟨w.heap.size, 5, none⟩ = some (.slice a l cap) := hx1.cell 5 rfl
  have p6 : W1.cell? ⟨w.heap.size, 6, none⟩ = some (b0) := hx1.cell 6 rfl
  have p7 : W1.cell? ⟨w.heap.size, 7, none⟩ = some (b1) := hx1.cell 7 rfl
  have p8 : W1.cell? ⟨w.heap.size, 8, none⟩ = some (b2) := hx1.cell 8 rfl
  have p9 : W1.cell? ⟨w.heap.size, 9, none⟩ = some (b3) := hx1.cell 9 rfl
  have p10 : W1.cell? ⟨w.heap.size, 10, none⟩ = some (b4) := hx1.cell 10 rfl
  have p11 : W1.cell? ⟨w.heap.size, 11, none⟩ = some (.int .i64 n) := hx1.cell 11 rfl
  go_enter Try.func17, Try.ntmps17
  go_upto_region 1 with fail
  rw [← hW1]
  clear hW1
  go_wp2_with fail
  exact ⟨rfl, rfl, hb1⟩

set_option maxRecDepth 100000 in
set_option maxHeartbeats 1600000 in
theorem act_none {k m b : Int} {t : ByteArray} {a : Option Addr} {l cap : Nat} (b0 b1 b2 b3 b4 : Value) (n : Int) (op : Int) (h : ¬ (1 ≤ op ∧ op ≤ 10)) (w : World) :
    Calls Try.prog 17 #[.agg #[.int .i64 op, .int .i64 k, .int .i64 m, .int .u64 b, .string t, .slice a l cap, b0, b1, b2, b3, b4, .int .i64 n]] w fun x w' => ∃ v', x = .returned v' ∧ ResV w' (fun b => w.heap.size ≤ b) v' .err ∧ Below w.heap.size w w' := by
  have h1 : (op == 1) = false := by simp; omega
  have h2 : (op == 2) = false := by simp; omega
  have h3 : (op == 3) = false := by simp; omega
  have h4 : (op == 4) = false := by simp; omega
  have h5 : (op == 5) = false := by simp; omega
  have h6 : (op == 6) = false := by simp; omega
  have h7 : (op == 7) = false := by simp; omega
  have h8 : (op == 8) = false := by simp; omega
  have h9 : (op == 9) = false := by simp; omega
  have h10 : (op == 10) = false := by simp; omega
  clear h
  obtain ⟨W1, hW1, hb1, hz, hx1, hx2⟩ := act_worlds w (.int .i64 op) (.int .i64 k) (.int .i64 m) (.int .u64 b) (.string t) (.slice a l cap) (b0) (b1) (b2) (b3) (b4) (.int .i64 n)
  have p0 : W1.cell? ⟨w.heap.size, 0, none⟩ = some (.int .i64 op) := hx1.cell 0 rfl
  have p1 : W1.cell? ⟨w.heap.size, 1, none⟩ = some (.int .i64 k) := hx1.cell 1 rfl
  have p2 : W1.cell? ⟨w.heap.size, 2, none⟩ = some (.int .i64 m) := hx1.cell 2 rfl
  have p3 : W1.cell? ⟨w.heap.size, 3, none⟩ = some (.int .u64 b) := hx1.cell 3 rfl
  have p4 : W1.cell? ⟨w.heap.size, 4, none⟩ = some (.string t) := hx1.cell 4 rfl
  have p5 : W1.cell? ⟨w.heap.size, 5, none⟩ = some (.slice a l cap) := hx1.cell 5 rfl
  have p6 : W1.cell? ⟨w.heap.size, 6, none⟩ = some (b0) := hx1.cell 6 rfl
  have p7 : W1.cell? ⟨w.heap.size, 7, none⟩ = some (b1) := hx1.cell 7 rfl
  have p8 : W1.cell? ⟨w.heap.size, 8, none⟩ = some (b2) := hx1.cell 8 rfl
  have p9 : W1.cell? ⟨w.heap.size, 9, none⟩ = some (b3) := hx1.cell 9 rfl
  have p10 : W1.cell? ⟨w.heap.size, 10, none⟩ = some (b4) := hx1.cell 10 rfl
  have p11 : W1.cell? ⟨w.heap.size, 11, none⟩ = some (.int .i64 n) := hx1.cell 11 rfl
  go_enter Try.func17, Try.ntmps17
  go_upto_region 1 with fail
  rw [← hW1]
  clear hW1
  have q0 : W1.cell? ⟨w.heap.size + 1, 0, none⟩ = some (.int .i64 0) := hx2.cell 0 rfl
  have f0 := hx2.thaw 0
  have q1 : W1.cell? ⟨w.heap.size + 1, 1, none⟩ = some (.int .i64 0) := hx2.cell 1 rfl
  have f1 := hx2.thaw 1
  have q2 : W1.cell? ⟨w.heap.size + 1, 2, none⟩ = some (.int .i64 0) := hx2.cell 2 rfl
  have f2 := hx2.thaw 2
  have q3 : W1.cell? ⟨w.heap.size + 1, 3, none⟩ = some (.int .i64 0) := hx2.cell 3 rfl
  have f3 := hx2.thaw 3
  have q4 : W1.cell? ⟨w.heap.size + 1, 4, none⟩ = some (.bool false) := hx2.cell 4 rfl
  have f4 := hx2.thaw 4
  have q5 : W1.cell? ⟨w.heap.size + 1, 5, none⟩ = some (.int .i64 0) := hx2.cell 5 rfl
  have f5 := hx2.thaw 5
  have q6 : W1.cell? ⟨w.heap.size + 1, 6, none⟩ = some (.int .i64 0) := hx2.cell 6 rfl
  have f6 := hx2.thaw 6
  have q7 : W1.cell? ⟨w.heap.size + 1, 7, none⟩ = some (.int .u64 0) := hx2.cell 7 rfl
  have f7 := hx2.thaw 7
  have q8 : W1.cell? ⟨w.heap.size + 1, 8, none⟩ = some (.string ⟨#[]⟩) := hx2.cell 8 rfl
  have f8 := hx2.thaw 8
  have q9 : W1.cell? ⟨w.heap.size + 1, 9, none⟩ = some (.slice none 0 0) := hx2.cell 9 rfl
  have f9 := hx2.thaw 9
  go_wp2_with fail
  exact bodyPost_ret (results_cell_row rfl _ _ (w.heap.size + 1) 35 _ (0, 0) _ rfl (hx2.set10 _ _ _ _ _ _ _ _ _ _) Try.underlying35 rfl (by kernel_rfl)) rfl
    ⟨_, rfl, rfl, set10_below hb1 (by omega)⟩
end Go.Proofs.Yteplhhlgceppkab
