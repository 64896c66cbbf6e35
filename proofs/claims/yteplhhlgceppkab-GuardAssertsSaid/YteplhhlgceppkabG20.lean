/- Contracts of guard's kind, face and gave. -/
import Derived.Test.YteplhhlgceppkabG19
import Derived.Test.YteplhhlgceppkabG14
namespace Go.Proofs.Yteplhhlgceppkab
open Go Go.RowKit Go.ChangeShapes Go.WideShapes

/-- What was thrown. -/
def thrown (T : TypeId) (v : Value) : List PanicEntry := [{ v := .iface T v, recovered := false }]
theorem Box5.row {w : World} {b : Nat} {c0 c1 c2 c3 c4 : Value} (h : Box5 w b c0 c1 c2 c3 c4) : Row w b #[c0, c1, c2, c3, c4] 25 := h
theorem Row.box {w : World} {b : Nat} {c0 c1 c2 c3 c4 : Value} (h : Row w b #[c0, c1, c2, c3, c4] 25) : Box5 w b c0 c1 c2 c3 c4 := h

theorem old1_cell {w : World} {b j : Nat} {v : Value} (hb : b < w.heap.size) (h : w.cell? ⟨b, j, none⟩ = some v) : ∀ o, (w.alloc o).cell? ⟨b, j, none⟩ = some v := fun o => old_cell o hb h
theorem old1_thaw {w : World} {b j : Nat} (hb : b < w.heap.size) (h : w.frozen? ⟨b, j, none⟩ = false) : ∀ o, (w.alloc o).frozen? ⟨b, j, none⟩ = false := fun o => old_thaw o hb h
theorem RepQ.old {w : World} {Q : Nat → Prop} {v : Value} {d : D} (h : RepQ w Q v d) (o : Obj) : RepQ (w.alloc o) Q v d := h.carry (fun _ hq hl => ⟨heap_alloc_old w o hl, hq⟩) (by simp)
theorem RepQ.later {w w1 : World} {Q : Nat → Prop} {v : Value} {d : D} (h : RepQ w Q v d) (hb : Below w.heap.size w w1) : RepQ w1 Q v d := h.carry (fun b hq hl => ⟨hb.block b hl, hq⟩) hb.size
theorem RepQ.wide {w : World} {N M : Nat} {v : Value} {d : D} (h : RepQ w (fun b => N ≤ b) v d) (hM : M ≤ N) : RepQ w (fun b => M ≤ b) v d := h.carry (fun _ hq _ => ⟨rfl, Nat.le_trans hM hq⟩) (Nat.le_refl _)
theorem old2_cell {w : World} {b j : Nat} {v : Value} (hb : b < w.heap.size) (h : w.cell? ⟨b, j, none⟩ = some v) : ∀ o1 o2, ((w.alloc o1).alloc o2).cell? ⟨b, j, none⟩ = some v := fun o1 o2 =>
  old_cell o2 (by simp; omega) (old_cell o1 hb h)
theorem old2_thaw {w : World} {b j : Nat} (hb : b < w.heap.size) (h : w.frozen? ⟨b, j, none⟩ = false) : ∀ o1 o2, ((w.alloc o1).alloc o2).frozen? ⟨b, j, none⟩ = false := fun o1 o2 =>
  old_thaw o2 (by simp; omega) (old_thaw o1 hb h)

set_option maxHeartbeats 800000 in
theorem kind_no (k : Nat) (hk : k ≤ 13) (n : Int) (h : isB k n = false) (m b t sl : Value) (w : World) : Calls Try.prog 31 #[.agg #[.int .i64 k, m, b, t, sl], .int .i64 n] w fun x w' =>
    x = .panicked (thrown 60 (.agg #[.int .i64 k])) ∧ Below w.heap.size w w' := by
  have HM := Lib.hid (fun w => bigmust_no k hk n h m b t sl w)
  clear h
  obtain ⟨W1, hW1, hb1, hz1, hx1, hx2⟩ := boxes2 w (.int .i64 k) m b t sl (.int .i64 0) (.int .i64 0) (.int .u64 0) (.string ⟨#[]⟩) (.slice none 0 0)
  obtain ⟨p0, p1, p2, p3, p4⟩ := hx1.cells
  have hz := Lib.hid hz1
  clear hz1
  go_enter Try.func31, Try.ntmps31
  go_upto_region 1 with fail
  rw [← hW1]
  clear hW1
  go_wp2_with (go_at_call 45; refine (HM.out _).mono ?_; rintro e w2 ⟨rfl, hb2⟩; have hlt : w.heap.size + 1 < w2.heap.size := (by have := hz.out; have := hb2.size; omega); have q0 := old2_cell (show w.heap.size < w2.heap.size by omega) (hx1.keep (hb2.block _ (by have := hz.out; omega))).cells.1)
  exact ⟨rfl, rfl, (hb1.trans (hb2.mono hb1.size)).trans (by go_grown)⟩

set_option maxHeartbeats 800000 in
theorem kind_yes (k : Nat) (hk : k ≤ 13) (n : Int) (h : isB k n = true) {w0 : World} {m b : Int} {t : ByteArray} {a : Option Addr} {l cap : Nat} {d : D} (hv : Rep w0 (.agg #[.int .i64 k, .int .i64 m, .int .u64 b, .string t, .slice a l cap]) d) (hs : Slim d) (w : World) (hb0 : Below w0.heap.size w0 w) :
    Calls Try.prog 31 #[.agg #[.int .i64 k, .int .i64 m, .int .u64 b, .string t, .slice a l cap], .int .i64 n] w fun x w' => ∃ v', x = .returned v' ∧ RepQ w' (fun b => w.heap.size ≤ b) v' d ∧ Below w.heap.size w w' := by
  have HM := Lib.hid (fun w h0 => bigmust_yes k hk n h hv hs w h0)
  have HB := Lib.hid hb0
  clear h hv hs hb0
  obtain ⟨W1, hW1, hb1, hz1, hx1, hx2⟩ := boxes2 w (.int .i64 k) (.int .i64 m) (.int .u64 b) (.string t) (.slice a l cap) (.int .i64 0) (.int .i64 0) (.int .u64 0) (.string ⟨#[]⟩) (.slice none 0 0)
  obtain ⟨p0, p1, p2, p3, p4⟩ := hx1.cells
  have hz := Lib.hid hz1
  clear hz1
  go_enter Try.func31, Try.ntmps31
  go_upto_region 1 with fail
  rw [← hW1]
  clear hW1
  go_wp2_with (go_at_call 45; refine (HM.out _ (HB.out.trans (hb1.mono HB.out.size))).mono ?_; rintro e w2 ⟨v', rfl, hv', hb2⟩; obtain ⟨k5, m5, b5, t5, a5, n5, cap5, rfl⟩ := hv'.form; have hlt : w.heap.size + 1 < w2.heap.size := (by have := hz.out; have := hb2.size; omega); have hy := hx2.keep (hb2.block _ (by have := hz.out; omega)); have q0 := old2_cell hlt hy.cells.1; have q1 := old2_cell hlt hy.cells.2.1; have q2 := old2_cell hlt hy.cells.2.2.1; have q3 := old2_cell hlt hy.cells.2.2.2.1; have q4 := old2_cell hlt hy.cells.2.2.2.2; have f0 := old2_thaw hlt (hy.thaw 0); have f1 := old2_thaw hlt (hy.thaw 1); have f2 := old2_thaw hlt (hy.thaw 2); have f3 := old2_thaw hlt (hy.thaw 3); have f4 := old2_thaw hlt (hy.thaw 4); dsimp only)
  exact bodyPost_ret (results_cell_row rfl _ _ (w.heap.size + 1) 25 _ (0, 0) _ rfl (((hy.row.old _).old _).box.set5 _ _ _ _ _) Try.underlying25 rfl (by kernel_rfl)) rfl
    ⟨_, rfl, ((hv'.old _).old _).set5 (by have := hb1.size; have := hz.out; omega) (by have := hb1.size; omega), set5_below (((hb1.trans (hb2.mono hb1.size)).alloc (by omega) _).alloc (by simp; omega) _) (by omega)⟩

set_option maxHeartbeats 800000 in
theorem gface_no (k : Nat) (hk : k ≤ 13) (f : Int) (h : hasFi k f = false) (m b t sl : Value) (w : World) : Calls Try.prog 32 #[.agg #[.int .i64 k, m, b, t, sl], .int .i64 f] w fun x w' =>
    x = .panicked (thrown 60 (.agg #[.int .i64 (faceMiss k f)])) ∧ Below w.heap.size w w' := by
  have HM := Lib.hid (fun w => mustface_no k hk f h m b t sl w)
  clear h
  generalize faceMiss k f = mm at *
  obtain ⟨W1, hW1, hb1, hz1, hx1, hx2⟩ := boxes2 w (.int .i64 k) m b t sl (.int .i64 0) (.int .i64 0) (.int .u64 0) (.string ⟨#[]⟩) (.slice none 0 0)
  obtain ⟨p0, p1, p2, p3, p4⟩ := hx1.cells
  have hz := Lib.hid hz1
  clear hz1
  go_enter Try.func32, Try.ntmps32
  go_upto_region 1 with fail
  rw [← hW1]
  clear hW1
  go_wp2_with (go_at_call 46; refine (HM.out _).mono ?_; rintro e w2 ⟨rfl, hb2⟩)
  exact ⟨rfl, rfl, (hb1.trans (hb2.mono hb1.size)).alloc (Nat.le_trans hb1.size hb2.size) _⟩

set_option maxHeartbeats 800000 in
theorem gface_yes (k : Nat) (hk : k ≤ 13) (f : Int) (h : hasFi k f = true) (m b : Int) (t : ByteArray) (a : Option Addr) (l cap : Nat) (w : World) : Calls Try.prog 32 #[.agg #[.int .i64 k, .int .i64 m, .int .u64 b, .string t, .slice a l cap], .int .i64 f] w fun x w' =>
    x = .returned (.agg #[.int .i64 k, .int .i64 m, .int .u64 b, .string t, .slice a l cap]) ∧ Below w.heap.size w w' := by
  have HM := Lib.hid (fun w => mustface_yes k hk f h (.int .i64 m) (.int .u64 b) (.string t) (.slice a l cap) w)
  clear h
  obtain ⟨W1, hW1, hb1, hz1, hx1, hx2⟩ := boxes2 w (.int .i64 k) (.int .i64 m) (.int .u64 b) (.string t) (.slice a l cap) (.int .i64 0) (.int .i64 0) (.int .u64 0) (.string ⟨#[]⟩) (.slice none 0 0)
  obtain ⟨p0, p1, p2, p3, p4⟩ := hx1.cells
  have hz := Lib.hid hz1
  clear hz1
  go_enter Try.func32, Try.ntmps32
  go_upto_region 1 with fail
  rw [← hW1]
  clear hW1
  go_wp2_with (go_at_call 46; refine (HM.out _).mono ?_; rintro e w2 ⟨rfl, hb2⟩; have hlt : Hid (w.heap.size + 1 < w2.heap.size) := Lib.hid (by have := hz.out; have := hb2.size; omega); have hlt0 : Hid (w.heap.size < w2.heap.size) := Lib.hid (by have := hlt.out; omega); have hy := hx2.keep (hb2.block _ (by have := hz.out; omega)); have hy1 := hx1.keep (hb2.block _ (by have := hz.out; omega)); have r0 := old1_cell hlt0.out hy1.cells.1; have r1 := old1_cell hlt0.out hy1.cells.2.1; have r2 := old1_cell hlt0.out hy1.cells.2.2.1; have r3 := old1_cell hlt0.out hy1.cells.2.2.2.1; have r4 := old1_cell hlt0.out hy1.cells.2.2.2.2; have q0 := old1_cell hlt.out hy.cells.1; have q1 := old1_cell hlt.out hy.cells.2.1; have q2 := old1_cell hlt.out hy.cells.2.2.1; have q3 := old1_cell hlt.out hy.cells.2.2.2.1; have q4 := old1_cell hlt.out hy.cells.2.2.2.2; have f0 := old1_thaw hlt.out (hy.thaw 0); have f1 := old1_thaw hlt.out (hy.thaw 1); have f2 := old1_thaw hlt.out (hy.thaw 2); have f3 := old1_thaw hlt.out (hy.thaw 3); have f4 := old1_thaw hlt.out (hy.thaw 4))
  exact bodyPost_ret (results_cell_row rfl _ _ (w.heap.size + 1) 25 _ (0, 0) _ rfl ((hy.row.old _).box.set5 _ _ _ _ _) Try.underlying25 rfl (by kernel_rfl)) rfl
    ⟨rfl, set5_below ((hb1.trans (hb2.mono hb1.size)).alloc (Nat.le_trans hb1.size hb2.size) _) (by omega)⟩
end Go.Proofs.Yteplhhlgceppkab
