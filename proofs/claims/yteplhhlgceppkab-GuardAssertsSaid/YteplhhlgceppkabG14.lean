/- Contract of want's Must where the assertion holds. -/
import Derived.Test.YteplhhlgceppkabG13
import Derived.Deep.RegionHeld3
namespace Go.Proofs.Yteplhhlgceppkab
open Go Go.RowKit Go.ChangeShapes Go.WideShapes

set_option maxHeartbeats 800000 in
theorem bigmust_yes (k : Nat) (hk : k ≤ 13) (n : Int) (h : isB k n = true) {w0 : World} {m b : Int} {t : ByteArray} {a : Option Addr} {l cap : Nat} {d : D} (hv : Rep w0 (.agg #[.int .i64 k, .int .i64 m, .int .u64 b, .string t, .slice a l cap]) d) (hs : Slim d) (w : World) (hb0 : Below w0.heap.size w0 w) :
    Calls Try.prog 45 #[.agg #[.int .i64 k, .int .i64 m, .int .u64 b, .string t, .slice a l cap], .int .i64 n] w fun x w' =>
      ∃ v', x = .returned (.tuple #[v', .agg #[.int .i64 0, .int .i64 0], .int .i64 0]) ∧ RepQ w' (fun b => w.heap.size ≤ b) v' d ∧ Below w.heap.size w w' := by
  have HS := Lib.hid (fun w => sample_v k hk w)
  have HM := Lib.hid (fun (u : Value) (hu : SampV k u) w h0 => must_yes k hk n u hu h hv hs w h0)
  have HB := Lib.hid hb0
  have hmf := hmf
  clear h hv hs hb0
  obtain ⟨W1, hW1⟩ : ∃ W1, W1 = (((w.alloc (.cells #[.int .i64 k, .int .i64 m, .int .u64 b, .string t, .slice a l cap] 25)).alloc (.cells #[.int .i64 0, .int .i64 0, .int .u64 0, .string ⟨#[]⟩, .slice none 0 0] 25)).alloc (.cells #[.int .i64 0, .int .i64 0] 84)).alloc (.cells #[.int .i64 0] 31) := ⟨_, rfl⟩
  have hb1 : Below w.heap.size w W1 := by rw [hW1]; go_grown
  have hz1 : Hid (W1.heap.size = w.heap.size + 4) := Lib.hid (by rw [hW1]; simp)
  have hx1 : Row W1 w.heap.size #[.int .i64 k, .int .i64 m, .int .u64 b, .string t, .slice a l cap] 25 := by rw [hW1]; exact (((Row.new _ _ _).old _).old _).old _
  have hx2 : Row W1 (w.heap.size + 1) #[.int .i64 0, .int .i64 0, .int .u64 0, .string ⟨#[]⟩, .slice none 0 0] 25 := by
    rw [hW1]; exact ((show Row _ (w.heap.size + 1) _ _ by have h := Row.new (w.alloc (.cells #[.int .i64 k, .int .i64 m, .int .u64 b, .string t, .slice a l cap] 25)); simp at h; exact h _ _).old _).old _
  have hx3 : Row W1 (w.heap.size + 2) #[.int .i64 0, .int .i64 0] 84 := by
    rw [hW1]; exact (show Row _ (w.heap.size + 2) _ _ by have h := Row.new ((w.alloc (.cells #[.int .i64 k, .int .i64 m, .int .u64 b, .string t, .slice a l cap] 25)).alloc (.cells #[.int .i64 0, .int .i64 0, .int .u64 0, .string ⟨#[]⟩, .slice none 0 0] 25)); simp at h; exact h _ _).old _
  have hx4 : Row W1 (w.heap.size + 3) #[.int .i64 0] 31 := by
    rw [hW1]; have h := Row.new (((w.alloc (.cells #[.int .i64 k, .int .i64 m, .int .u64 b, .string t, .slice a l cap] 25)).alloc (.cells #[.int .i64 0, .int .i64 0, .int .u64 0, .string ⟨#[]⟩, .slice none 0 0] 25)).alloc (.cells #[.int .i64 0, .int .i64 0] 84)); simp at h; exact h _ _
  go_enter_defers Try.func45, Try.ntmps45
  go_upto_region 2 with fail
  rw [← hW1]
  clear hW1
  have p0 : W1.cell? ⟨w.heap.size, 0, none⟩ = some (.int .i64 k) := hx1.cell 0 rfl
  have p1 : W1.cell? ⟨w.heap.size, 1, none⟩ = some (.int .i64 m) := hx1.cell 1 rfl
  have p2 : W1.cell? ⟨w.heap.size, 2, none⟩ = some (.int .u64 b) := hx1.cell 2 rfl
  have p3 : W1.cell? ⟨w.heap.size, 3, none⟩ = some (.string t) := hx1.cell 3 rfl
  have p4 : W1.cell? ⟨w.heap.size, 4, none⟩ = some (.slice a l cap) := hx1.cell 4 rfl
  refine wp_region_noPanic ?_
  go_region_with (first
    | (go_at_call 55; refine (HS.out _).mono ?_; rintro x w2 ⟨v, rfl, hu, hb2⟩; have hb2' : Below W1.heap.size W1 w2 := Below.trans (by go_grown) hb2; have hy1 := hx1.later hb2'; have q0 : w2.cell? ⟨w.heap.size, 0, none⟩ = some (.int .i64 k) := hy1.cell 0 rfl; have q1 : w2.cell? ⟨w.heap.size, 1, none⟩ = some (.int .i64 m) := hy1.cell 1 rfl; have q2 : w2.cell? ⟨w.heap.size, 2, none⟩ = some (.int .u64 b) := hy1.cell 2 rfl; have q3 : w2.cell? ⟨w.heap.size, 3, none⟩ = some (.string t) := hy1.cell 3 rfl; have q4 : w2.cell? ⟨w.heap.size, 4, none⟩ = some (.slice a l cap) := hy1.cell 4 rfl; clear hy1)
    | (go_at_call 54; refine (HM.out _ hu _ (HB.out.trans ((hb1.trans (Below.mono (Below.trans hb2' (by go_grown)) hb1.size)).mono HB.out.size))).mono ?_; rintro x w3 ⟨v', rfl, hv', hb3⟩; obtain ⟨k5, m5, b5, t5, a5, n5, cap5, rfl⟩ := hv'.form; have hb3' : Below W1.heap.size W1 w3 := Below.trans (Below.trans hb2' (by go_grown)) (hb3.mono (by have := hb2'.size; simp; omega)); have hy2 := hx2.later hb3'; have hy3 := hx3.later hb3'; have hy4 := hx4.later hb3'; have y0 : w3.cell? ⟨w.heap.size + 1, 0, none⟩ = some (.int .i64 0) := hy2.cell 0 rfl; have fy0 := hy2.thaw 0; have y1 : w3.cell? ⟨w.heap.size + 1, 1, none⟩ = some (.int .i64 0) := hy2.cell 1 rfl; have fy1 := hy2.thaw 1; have y2 : w3.cell? ⟨w.heap.size + 1, 2, none⟩ = some (.int .u64 0) := hy2.cell 2 rfl; have fy2 := hy2.thaw 2; have y3 : w3.cell? ⟨w.heap.size + 1, 3, none⟩ = some (.string ⟨#[]⟩) := hy2.cell 3 rfl; have fy3 := hy2.thaw 3; have y4 : w3.cell? ⟨w.heap.size + 1, 4, none⟩ = some (.slice none 0 0) := hy2.cell 4 rfl; have fy4 := hy2.thaw 4; have z0 : w3.cell? ⟨w.heap.size + 2, 0, none⟩ = some (.int .i64 0) := hy3.cell 0 rfl; have fz0 := hy3.thaw 0; have z1 : w3.cell? ⟨w.heap.size + 2, 1, none⟩ = some (.int .i64 0) := hy3.cell 1 rfl; have fz1 := hy3.thaw 1; have x0 : w3.cell? ⟨w.heap.size + 3, 0, none⟩ = some (.int .i64 0) := hy4.cell 0 rfl; have fx0 := hy4.thaw 0; dsimp only))
  all_goals
    refine NoPanic.normal ?_
    have hzo := hz1.out
    have hzl := hb2'.size
    have hbz : Below w.heap.size w w3 := hb1.trans (hb3'.mono (by omega))
    go_wp2_with fail
    refine leaves_cons (f := 53) (args := #[.pointer (some ⟨w.heap.size + 1 + 1, 0, none⟩), .pointer (some ⟨w.heap.size + 1 + 1 + 1, 0, none⟩)]) (by simp) (by simp [go_sem]) ?_
    refine (must1_idle _ _ _).mono ?_
    rintro e u' W' ⟨rfl, rfl, rfl⟩
    have e1 : w.heap.size + 1 ≠ w.heap.size + 1 + 1 := by omega
    have e2 : w.heap.size + 1 ≠ w.heap.size + 1 + 1 + 1 := by omega
    have e3 : w.heap.size + 1 + 1 ≠ w.heap.size + 1 + 1 + 1 := by omega
    have e4 : w.heap.size + 1 + 1 ≠ w.heap.size + 1 := by omega
    have g1 := ((((((((hy2.set 0 (.int .i64 k5)).set 1 (.int .i64 m5)).set 2 (.int .u64 b5)).set 3 (.string t5)).set 4 (.slice a5 n5 cap5)).other 0 (.int .i64 0) e1).other 1 (.int .i64 0) e1).other 0 (.int .i64 0) e2)
    have g2 := ((((((((hy3.other 0 (.int .i64 k5) e4).other 1 (.int .i64 m5) e4).other 2 (.int .u64 b5) e4).other 3 (.string t5) e4).other 4 (.slice a5 n5 cap5) e4).set 0 (.int .i64 0)).set 1 (.int .i64 0)).other 0 (.int .i64 0) e3)
    have g3 := ((((((((hy4.other 0 (.int .i64 k5) e2.symm).other 1 (.int .i64 m5) e2.symm).other 2 (.int .u64 b5) e2.symm).other 3 (.string t5) e2.symm).other 4 (.slice a5 n5 cap5) e2.symm).other 0 (.int .i64 0) e3.symm).other 1 (.int .i64 0) e3.symm).set 0 (.int .i64 0))
    have hQ := hv'.carry (w1 := (((((((w3.setCell ⟨w.heap.size + 1, 0, none⟩ (.int .i64 k5)).setCell ⟨w.heap.size + 1, 1, none⟩ (.int .i64 m5)).setCell ⟨w.heap.size + 1, 2, none⟩ (.int .u64 b5)).setCell ⟨w.heap.size + 1, 3, none⟩ (.string t5)).setCell ⟨w.heap.size + 1, 4, none⟩ (.slice a5 n5 cap5)).setCell ⟨w.heap.size + 1 + 1, 0, none⟩ (.int .i64 0)).setCell ⟨w.heap.size + 1 + 1, 1, none⟩ (.int .i64 0)).setCell ⟨w.heap.size + 1 + 1 + 1, 0, none⟩ (.int .i64 0)) (Q1 := fun b => w.heap.size ≤ b) (fun i hi _ => by
      have hi' : w2.heap.size ≤ i := hi
      have n1 : i ≠ w.heap.size + 1 := by omega
      have n2 : i ≠ w.heap.size + 1 + 1 := by omega
      have n3 : i ≠ w.heap.size + 1 + 1 + 1 := by omega
      exact ⟨by rw [heap_setCell_other _ _ _ _ n3, heap_setCell_other _ _ _ _ n2, heap_setCell_other _ _ _ _ n2, heap_setCell_other _ _ _ _ n1, heap_setCell_other _ _ _ _ n1, heap_setCell_other _ _ _ _ n1, heap_setCell_other _ _ _ _ n1, heap_setCell_other _ _ _ _ n1], by omega⟩) (by simp)
    have hbf := (((((((hbz.setCell (p := ⟨w.heap.size + 1, 0, none⟩) (by simp) (.int .i64 k5)).setCell (p := ⟨w.heap.size + 1, 1, none⟩) (by simp) (.int .i64 m5)).setCell (p := ⟨w.heap.size + 1, 2, none⟩) (by simp) (.int .u64 b5)).setCell (p := ⟨w.heap.size + 1, 3, none⟩) (by simp) (.string t5)).setCell (p := ⟨w.heap.size + 1, 4, none⟩) (by simp) (.slice a5 n5 cap5)).setCell (p := ⟨w.heap.size + 1 + 1, 0, none⟩) (by simp; omega) (.int .i64 0)).setCell (p := ⟨w.heap.size + 1 + 1, 1, none⟩) (by simp; omega) (.int .i64 0)).setCell (p := ⟨w.heap.size + 1 + 1 + 1, 0, none⟩) (by simp; omega) (.int .i64 0)
    generalize (((((((w3.setCell ⟨w.heap.size + 1, 0, none⟩ (.int .i64 k5)).setCell ⟨w.heap.size + 1, 1, none⟩ (.int .i64 m5)).setCell ⟨w.heap.size + 1, 2, none⟩ (.int .u64 b5)).setCell ⟨w.heap.size + 1, 3, none⟩ (.string t5)).setCell ⟨w.heap.size + 1, 4, none⟩ (.slice a5 n5 cap5)).setCell ⟨w.heap.size + 1 + 1, 0, none⟩ (.int .i64 0)).setCell ⟨w.heap.size + 1 + 1, 1, none⟩ (.int .i64 0)).setCell ⟨w.heap.size + 1 + 1 + 1, 0, none⟩ (.int .i64 0) = Wf at *
    refine ⟨_, ?_, _, rfl, hQ, hbf⟩
    have a0 : Wf.cell? ⟨w.heap.size + 1, 0, none⟩ = some (.int .i64 k5) := g1.cell 0 rfl
    have a1 : Wf.cell? ⟨w.heap.size + 1, 1, none⟩ = some (.int .i64 m5) := g1.cell 1 rfl
    have a2 : Wf.cell? ⟨w.heap.size + 1, 2, none⟩ = some (.int .u64 b5) := g1.cell 2 rfl
    have a3 : Wf.cell? ⟨w.heap.size + 1, 3, none⟩ = some (.string t5) := g1.cell 3 rfl
    have a4 : Wf.cell? ⟨w.heap.size + 1, 4, none⟩ = some (.slice a5 n5 cap5) := g1.cell 4 rfl
    have b0 : Wf.cell? ⟨w.heap.size + 1 + 1, 0, none⟩ = some (.int .i64 0) := g2.cell 0 rfl
    have b1 : Wf.cell? ⟨w.heap.size + 1 + 1, 1, none⟩ = some (.int .i64 0) := g2.cell 1 rfl
    have c4 : Wf.cell? ⟨w.heap.size + 1 + 1 + 1, 0, none⟩ = some (.int .i64 0) := g3.cell 0 rfl
    clear g1 g2 g3 hQ hbf
    simp [results, Try.results45, asAddr, a0, a1, a2, a3, a4, b0, b1, c4, go_sem]
end Go.Proofs.Yteplhhlgceppkab
