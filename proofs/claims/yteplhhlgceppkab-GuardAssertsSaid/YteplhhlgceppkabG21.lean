/- Results in memory; contracts of guard's gave, number, boolean and told. -/
import Derived.Test.YteplhhlgceppkabG20
namespace Go.Proofs.Yteplhhlgceppkab
open Go Go.RowKit Go.ChangeShapes Go.WideShapes

/-- What became of an act. -/
inductive Out where
  | gave (d : D)
  | pan (k n : Int)
  | err
/-- A result's value. -/
def ResV (w : World) (Q : Nat → Prop) (v : Value) : Out → Prop
  | .gave d => ∃ (k m b : Int) (t : ByteArray) (a : Option Addr) (n cap : Nat), v = .agg #[.int .i64 0, .int .i64 0, .int .i64 0, .int .i64 0, .bool true, .int .i64 k, .int .i64 m, .int .u64 b, .string t, .slice a n cap] ∧ RepQ w Q (.agg #[.int .i64 k, .int .i64 m, .int .u64 b, .string t, .slice a n cap]) d
  | .pan p n => v = .agg #[.int .i64 110, .int .i64 0, .int .i64 p, .int .i64 n, .bool false, .int .i64 0, .int .i64 0, .int .u64 0, .string ⟨#[]⟩, .slice none 0 0]
  | .err => v = .agg #[.int .i64 12, .int .i64 0, .int .i64 0, .int .i64 0, .bool false, .int .i64 0, .int .i64 0, .int .u64 0, .string ⟨#[]⟩, .slice none 0 0]
theorem ResV.carry {w w1 : World} {Q Q1 : Nat → Prop} {v : Value} {o : Out} (h : ResV w Q v o) (hb : ∀ b, Q b → b < w.heap.size → w1.heap[b]? = w.heap[b]? ∧ Q1 b) (hz : w.heap.size ≤ w1.heap.size) : ResV w1 Q1 v o := by
  cases o with
  | gave d =>
    obtain ⟨k, m, b, t, a, n, cap, h1, h2⟩ := h
    exact ⟨k, m, b, t, a, n, cap, h1, h2.carry hb hz⟩
  | pan p n => exact h
  | err => exact h
theorem ResV.form {w : World} {Q : Nat → Prop} {v : Value} {o : Out} (h : ResV w Q v o) : ∃ (e c p n : Int) (hs : Bool) (k m b : Int) (t : ByteArray) (a : Option Addr) (l cap : Nat), v = .agg #[.int .i64 e, .int .i64 c, .int .i64 p, .int .i64 n, .bool hs, .int .i64 k, .int .i64 m, .int .u64 b, .string t, .slice a l cap] := by
  cases o with
  | gave d =>
    obtain ⟨k, m, b, t, a, n, cap, h1, h2⟩ := h
    exact ⟨_, _, _, _, _, k, m, b, t, a, n, cap, h1⟩
  | pan p n => exact ⟨_, _, _, _, _, _, _, _, _, _, _, _, h⟩
  | err => exact ⟨_, _, _, _, _, _, _, _, _, _, _, _, h⟩
theorem ResV.later {w w1 : World} {Q : Nat → Prop} {v : Value} {o : Out} (h : ResV w Q v o) (hb : Below w.heap.size w w1) : ResV w1 Q v o := h.carry (fun b hq hl => ⟨hb.block b hl, hq⟩) hb.size
theorem ResV.wide {w : World} {N M : Nat} {v : Value} {o : Out} (h : ResV w (fun b => N ≤ b) v o) (hM : M ≤ N) : ResV w (fun b => M ≤ b) v o := h.carry (fun _ hq _ => ⟨rfl, Nat.le_trans hM hq⟩) (Nat.le_refl _)

theorem Row.set10 {w : World} {g : Nat} {T : TypeId} {c0 c1 c2 c3 c4 c5 c6 c7 c8 c9 : Value} (h : Row w g #[c0, c1, c2, c3, c4, c5, c6, c7, c8, c9] T) (x0 x1 x2 x3 x4 x5 x6 x7 x8 x9 : Value) :
    Row ((((((((((w.setCell ⟨g, 0, none⟩ x0).setCell ⟨g, 1, none⟩ x1).setCell ⟨g, 2, none⟩ x2).setCell ⟨g, 3, none⟩ x3).setCell ⟨g, 4, none⟩ x4).setCell ⟨g, 5, none⟩ x5).setCell ⟨g, 6, none⟩ x6).setCell ⟨g, 7, none⟩ x7).setCell ⟨g, 8, none⟩ x8).setCell ⟨g, 9, none⟩ x9) g #[x0, x1, x2, x3, x4, x5, x6, x7, x8, x9] T := by
  have h1 := (((((((((h.set 0 x0).set 1 x1).set 2 x2).set 3 x3).set 4 x4).set 5 x5).set 6 x6).set 7 x7).set 8 x8).set 9 x9
  simpa using h1
theorem set10_other (w : World) (g : Nat) (x0 x1 x2 x3 x4 x5 x6 x7 x8 x9 : Value) (i : Nat) (h : i ≠ g) : ((((((((((w.setCell ⟨g, 0, none⟩ x0).setCell ⟨g, 1, none⟩ x1).setCell ⟨g, 2, none⟩ x2).setCell ⟨g, 3, none⟩ x3).setCell ⟨g, 4, none⟩ x4).setCell ⟨g, 5, none⟩ x5).setCell ⟨g, 6, none⟩ x6).setCell ⟨g, 7, none⟩ x7).setCell ⟨g, 8, none⟩ x8).setCell ⟨g, 9, none⟩ x9).heap[i]? = w.heap[i]? := by
  rw [heap_setCell_other _ _ _ _ h, heap_setCell_other _ _ _ _ h, heap_setCell_other _ _ _ _ h, heap_setCell_other _ _ _ _ h, heap_setCell_other _ _ _ _ h, heap_setCell_other _ _ _ _ h, heap_setCell_other _ _ _ _ h, heap_setCell_other _ _ _ _ h, heap_setCell_other _ _ _ _ h, heap_setCell_other _ _ _ _ h]
theorem set10_size (w : World) (g : Nat) (x0 x1 x2 x3 x4 x5 x6 x7 x8 x9 : Value) : ((((((((((w.setCell ⟨g, 0, none⟩ x0).setCell ⟨g, 1, none⟩ x1).setCell ⟨g, 2, none⟩ x2).setCell ⟨g, 3, none⟩ x3).setCell ⟨g, 4, none⟩ x4).setCell ⟨g, 5, none⟩ x5).setCell ⟨g, 6, none⟩ x6).setCell ⟨g, 7, none⟩ x7).setCell ⟨g, 8, none⟩ x8).setCell ⟨g, 9, none⟩ x9).heap.size = w.heap.size := by simp
theorem RepQ.set10 {w : World} {N M g : Nat} {v : Value} {d : D} (h : RepQ w (fun b => N ≤ b) v d) (hb : g < N) (hM : M ≤ N) {x0 x1 x2 x3 x4 x5 x6 x7 x8 x9 : Value} : RepQ ((((((((((w.setCell ⟨g, 0, none⟩ x0).setCell ⟨g, 1, none⟩ x1).setCell ⟨g, 2, none⟩ x2).setCell ⟨g, 3, none⟩ x3).setCell ⟨g, 4, none⟩ x4).setCell ⟨g, 5, none⟩ x5).setCell ⟨g, 6, none⟩ x6).setCell ⟨g, 7, none⟩ x7).setCell ⟨g, 8, none⟩ x8).setCell ⟨g, 9, none⟩ x9) (fun b => M ≤ b) v d :=
  h.carry (fun i hi _ => ⟨set10_other w g _ _ _ _ _ _ _ _ _ _ i (by have : N ≤ i := hi; omega), Nat.le_trans hM hi⟩) (by rw [set10_size]; exact Nat.le_refl _)
theorem ResV.set10 {w : World} {N M g : Nat} {v : Value} {o : Out} (h : ResV w (fun b => N ≤ b) v o) (hb : g < N) (hM : M ≤ N) {x0 x1 x2 x3 x4 x5 x6 x7 x8 x9 : Value} : ResV ((((((((((w.setCell ⟨g, 0, none⟩ x0).setCell ⟨g, 1, none⟩ x1).setCell ⟨g, 2, none⟩ x2).setCell ⟨g, 3, none⟩ x3).setCell ⟨g, 4, none⟩ x4).setCell ⟨g, 5, none⟩ x5).setCell ⟨g, 6, none⟩ x6).setCell ⟨g, 7, none⟩ x7).setCell ⟨g, 8, none⟩ x8).setCell ⟨g, 9, none⟩ x9) (fun b => M ≤ b) v o :=
  h.carry (fun i hi _ => ⟨set10_other w g _ _ _ _ _ _ _ _ _ _ i (by have : N ≤ i := hi; omega), Nat.le_trans hM hi⟩) (by rw [set10_size]; exact Nat.le_refl _)
theorem set10_below {B g : Nat} {w w1 : World} (h : Below B w w1) (hb : B ≤ g) {x0 x1 x2 x3 x4 x5 x6 x7 x8 x9 : Value} : Below B w ((((((((((w1.setCell ⟨g, 0, none⟩ x0).setCell ⟨g, 1, none⟩ x1).setCell ⟨g, 2, none⟩ x2).setCell ⟨g, 3, none⟩ x3).setCell ⟨g, 4, none⟩ x4).setCell ⟨g, 5, none⟩ x5).setCell ⟨g, 6, none⟩ x6).setCell ⟨g, 7, none⟩ x7).setCell ⟨g, 8, none⟩ x8).setCell ⟨g, 9, none⟩ x9) :=
  ((((((((((h.setCell (p := ⟨g, 0, none⟩) hb _).setCell (p := ⟨g, 1, none⟩) hb _).setCell (p := ⟨g, 2, none⟩) hb _).setCell (p := ⟨g, 3, none⟩) hb _).setCell (p := ⟨g, 4, none⟩) hb _).setCell (p := ⟨g, 5, none⟩) hb _).setCell (p := ⟨g, 6, none⟩) hb _).setCell (p := ⟨g, 7, none⟩) hb _).setCell (p := ⟨g, 8, none⟩) hb _).setCell (p := ⟨g, 9, none⟩) hb _)

theorem res_worlds (w : World) (c0 c1 c2 c3 c4 : Value) : ∃ W1, W1 = (w.alloc (.cells #[c0, c1, c2, c3, c4] 25)).alloc (.cells #[.int .i64 0, .int .i64 0, .int .i64 0, .int .i64 0, .bool false, .int .i64 0, .int .i64 0, .int .u64 0, .string ⟨#[]⟩, .slice none 0 0] 35) ∧ Below w.heap.size w W1 ∧ Hid (W1.heap.size = w.heap.size + 2) ∧ Box5 W1 w.heap.size c0 c1 c2 c3 c4 ∧ Row W1 (w.heap.size + 1) #[.int .i64 0, .int .i64 0, .int .i64 0, .int .i64 0, .bool false, .int .i64 0, .int .i64 0, .int .u64 0, .string ⟨#[]⟩, .slice none 0 0] 35 := by
  refine ⟨_, rfl, by go_grown, Lib.hid (by simp), (Row.new w _ _).old _, ?_⟩
  have h := Row.new (w.alloc (.cells #[c0, c1, c2, c3, c4] 25)) #[.int .i64 0, .int .i64 0, .int .i64 0, .int .i64 0, .bool false, .int .i64 0, .int .i64 0, .int .u64 0, .string ⟨#[]⟩, .slice none 0 0] 35
  simpa using h

set_option maxHeartbeats 800000 in
theorem gave_any {w0 : World} {v : Value} {d : D} (hv : Rep w0 v d) (hs : Slim d) (w : World) (hb0 : Below w0.heap.size w0 w) :
    Calls Try.prog 30 #[v] w fun x w' => ∃ v', x = .returned v' ∧ ResV w' (fun b => w.heap.size ≤ b) v' (.gave d) ∧ Below w.heap.size w w' := by
  have HC := Lib.hid (fun W h => gclone_any hv hs W h)
  obtain ⟨k, m, b, t, a, cap, g, o, c, kids, rfl, rfl, _⟩ := hv.inv
  have HB := Lib.hid hb0
  clear hv hs hb0
  generalize kids.length = l at *
  obtain ⟨W1, hW1, hb1, hz, hx1, hx2⟩ := res_worlds w (.int .i64 k) (.int .i64 m) (.int .u64 b) (.string t) (.slice a l cap)
  obtain ⟨p0, p1, p2, p3, p4⟩ := hx1.cells
  go_enter Try.func30, Try.ntmps30
  go_upto_region 1 with fail
  rw [← hW1]
  clear hW1
  go_wp2_with (go_at_call 44; refine (HC.out _ (HB.out.trans (hb1.mono HB.out.size))).mono ?_; rintro e w2 ⟨v', rfl, hv', hb2⟩; obtain ⟨k5, m5, b5, t5, a5, n5, cap5, rfl⟩ := hv'.form; have hy := hx2.later hb2; have q0 : w2.cell? ⟨w.heap.size + 1, 0, none⟩ = some (.int .i64 0) := hy.cell 0 rfl; have fq0 := hy.thaw 0; have q1 : w2.cell? ⟨w.heap.size + 1, 1, none⟩ = some (.int .i64 0) := hy.cell 1 rfl; have fq1 := hy.thaw 1; have q2 : w2.cell? ⟨w.heap.size + 1, 2, none⟩ = some (.int .i64 0) := hy.cell 2 rfl; have fq2 := hy.thaw 2; have q3 : w2.cell? ⟨w.heap.size + 1, 3, none⟩ = some (.int .i64 0) := hy.cell 3 rfl; have fq3 := hy.thaw 3; have q4 : w2.cell? ⟨w.heap.size + 1, 4, none⟩ = some (.bool false) := hy.cell 4 rfl; have fq4 := hy.thaw 4; have q5 : w2.cell? ⟨w.heap.size + 1, 5, none⟩ = some (.int .i64 0) := hy.cell 5 rfl; have fq5 := hy.thaw 5; have q6 : w2.cell? ⟨w.heap.size + 1, 6, none⟩ = some (.int .i64 0) := hy.cell 6 rfl; have fq6 := hy.thaw 6; have q7 : w2.cell? ⟨w.heap.size + 1, 7, none⟩ = some (.int .u64 0) := hy.cell 7 rfl; have fq7 := hy.thaw 7; have q8 : w2.cell? ⟨w.heap.size + 1, 8, none⟩ = some (.string ⟨#[]⟩) := hy.cell 8 rfl; have fq8 := hy.thaw 8; have q9 : w2.cell? ⟨w.heap.size + 1, 9, none⟩ = some (.slice none 0 0) := hy.cell 9 rfl; have fq9 := hy.thaw 9; dsimp only)
  have hzo := hz.out
  exact bodyPost_ret (results_cell_row rfl _ _ (w.heap.size + 1) 35 _ (0, 0) _ rfl (hy.set10 _ _ _ _ _ _ _ _ _ _) Try.underlying35 rfl (by kernel_rfl)) rfl
    ⟨_, rfl, ⟨_, _, _, _, _, _, _, rfl, hv'.set10 (by omega) (by omega)⟩, set10_below (hb1.trans (hb2.mono (by omega))) (by omega)⟩
end Go.Proofs.Yteplhhlgceppkab
