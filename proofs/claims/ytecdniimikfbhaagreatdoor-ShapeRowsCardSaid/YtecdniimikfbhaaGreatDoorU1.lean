/- Shape: the maps' own functions that try (opened, sized, negated), and keyed. -/
import Derived.Test.YtecdniimikfbhaaGreatDoorT1
namespace Go.Proofs.YtecdniimikfbhaaGreatDoor
open Go Go.RowKit Go.ChangeShapes Go.WideShapes

set_option maxRecDepth 100000 in
set_option maxHeartbeats 1600000 in
theorem opened_any (tp : ByteArray) {k m b : Int} {t : ByteArray} {a : Option Addr} {l cap : Nat} {o : Out} (w : World) (HT : ∀ W, Below w.heap.size w W → Calls Tryz.prog 62 #[.agg #[.int .i64 5, .int .i64 k, .int .i64 m, .int .u64 b, .string t, .slice a l cap, .int .i64 0, .int .i64 0, .int .u64 0, .string ⟨#[]⟩, .slice none 0 0, .int .i64 0]] W fun x w' => ∃ v', x = .returned v' ∧ ResV w' (fun b => W.heap.size ≤ b) v' o ∧ Below W.heap.size W w') :
    Calls Tryz.prog 43 #[.string tp, (.agg #[.int .i64 k, .int .i64 m, .int .u64 b, .string t, .slice a l cap])] w fun x w' => ∃ v', x = .returned v' ∧ ResV w' (fun b => w.heap.size ≤ b) v' o ∧ Below w.heap.size w w' := by
  have HH := Lib.hid HT
  clear HT
  obtain ⟨W1, hW1, hb1, hz, hx1, hx2⟩ := res_worlds w (.int .i64 k) (.int .i64 m) (.int .u64 b) (.string t) (.slice a l cap)
  have hzo := hz.out
  obtain ⟨p0, p1, p2, p3, p4⟩ := hx1.cells
  go_enter Tryz.func43, Tryz.ntmps43
  go_upto_region 1 with fail
  rw [← hW1]
  clear hW1
  go_wp2_with fail
  refine (HH.out _ hb1).mono ?_
  rintro x w2 ⟨v', rfl, hv', hb2⟩
  obtain ⟨e5, c5, pk5, pn5, hs5, k5, m5, b5, t5, a5, l5, cap5, rfl⟩ := hv'.form
  have hy2 := hx2.later hb2
  have q0 : w2.cell? ⟨(w.heap.size + 1), 0, none⟩ = some (.int .i64 0) := hy2.cell 0 rfl
  have fq0 := hy2.thaw 0
  have q1 : w2.cell? ⟨(w.heap.size + 1), 1, none⟩ = some (.int .i64 0) := hy2.cell 1 rfl
  have fq1 := hy2.thaw 1
  have q2 : w2.cell? ⟨(w.heap.size + 1), 2, none⟩ = some (.int .i64 0) := hy2.cell 2 rfl
  have fq2 := hy2.thaw 2
  have q3 : w2.cell? ⟨(w.heap.size + 1), 3, none⟩ = some (.int .i64 0) := hy2.cell 3 rfl
  have fq3 := hy2.thaw 3
  have q4 : w2.cell? ⟨(w.heap.size + 1), 4, none⟩ = some (.bool false) := hy2.cell 4 rfl
  have fq4 := hy2.thaw 4
  have q5 : w2.cell? ⟨(w.heap.size + 1), 5, none⟩ = some (.int .i64 0) := hy2.cell 5 rfl
  have fq5 := hy2.thaw 5
  have q6 : w2.cell? ⟨(w.heap.size + 1), 6, none⟩ = some (.int .i64 0) := hy2.cell 6 rfl
  have fq6 := hy2.thaw 6
  have q7 : w2.cell? ⟨(w.heap.size + 1), 7, none⟩ = some (.int .u64 0) := hy2.cell 7 rfl
  have fq7 := hy2.thaw 7
  have q8 : w2.cell? ⟨(w.heap.size + 1), 8, none⟩ = some (.string ⟨#[]⟩) := hy2.cell 8 rfl
  have fq8 := hy2.thaw 8
  have q9 : w2.cell? ⟨(w.heap.size + 1), 9, none⟩ = some (.slice none 0 0) := hy2.cell 9 rfl
  have fq9 := hy2.thaw 9
  dsimp only
  go_wp2_with fail
  exact bodyPost_ret (results_cell_row rfl _ _ (w.heap.size + 1) 33 _ (0, 0) _ rfl (hy2.set10 _ _ _ _ _ _ _ _ _ _) Tryz.underlying33 rfl (by kernel_rfl)) rfl ⟨_, rfl, hv'.set10 (by omega) (by omega), set10_below (hb1.trans (hb2.mono hb1.size)) (by omega)⟩

set_option maxRecDepth 100000 in
set_option maxHeartbeats 1600000 in
theorem sized_any (tp : ByteArray) {k m b : Int} {t : ByteArray} {a : Option Addr} {l cap : Nat} {o : Out} (w : World) (HT : ∀ W, Below w.heap.size w W → Calls Tryz.prog 62 #[.agg #[.int .i64 10, .int .i64 k, .int .i64 m, .int .u64 b, .string t, .slice a l cap, .int .i64 0, .int .i64 0, .int .u64 0, .string ⟨#[]⟩, .slice none 0 0, .int .i64 0]] W fun x w' => ∃ v', x = .returned v' ∧ ResV w' (fun b => W.heap.size ≤ b) v' o ∧ Below W.heap.size W w') :
    Calls Tryz.prog 45 #[.string tp, (.agg #[.int .i64 k, .int .i64 m, .int .u64 b, .string t, .slice a l cap])] w fun x w' => ∃ v', x = .returned v' ∧ ResV w' (fun b => w.heap.size ≤ b) v' o ∧ Below w.heap.size w w' := by
  have HH := Lib.hid HT
  clear HT
  obtain ⟨W1, hW1, hb1, hz, hx1, hx2⟩ := res_worlds w (.int .i64 k) (.int .i64 m) (.int .u64 b) (.string t) (.slice a l cap)
  have hzo := hz.out
  obtain ⟨p0, p1, p2, p3, p4⟩ := hx1.cells
  go_enter Tryz.func45, Tryz.ntmps45
  go_upto_region 1 with fail
  rw [← hW1]
  clear hW1
  go_wp2_with fail
  refine (HH.out _ hb1).mono ?_
  rintro x w2 ⟨v', rfl, hv', hb2⟩
  obtain ⟨e5, c5, pk5, pn5, hs5, k5, m5, b5, t5, a5, l5, cap5, rfl⟩ := hv'.form
  have hy2 := hx2.later hb2
  have q0 : w2.cell? ⟨(w.heap.size + 1), 0, none⟩ = some (.int .i64 0) := hy2.cell 0 rfl
  have fq0 := hy2.thaw 0
  have q1 : w2.cell? ⟨(w.heap.size + 1), 1, none⟩ = some (.int .i64 0) := hy2.cell 1 rfl
  have fq1 := hy2.thaw 1
  have q2 : w2.cell? ⟨(w.heap.size + 1), 2, none⟩ = some (.int .i64 0) := hy2.cell 2 rfl
  have fq2 := hy2.thaw 2
  have q3 : w2.cell? ⟨(w.heap.size + 1), 3, none⟩ = some (.int .i64 0) := hy2.cell 3 rfl
  have fq3 := hy2.thaw 3
  have q4 : w2.cell? ⟨(w.heap.size + 1), 4, none⟩ = some (.bool false) := hy2.cell 4 rfl
  have fq4 := hy2.thaw 4
  have q5 : w2.cell? ⟨(w.heap.size + 1), 5, none⟩ = some (.int .i64 0) := hy2.cell 5 rfl
  have fq5 := hy2.thaw 5
  have q6 : w2.cell? ⟨(w.heap.size + 1), 6, none⟩ = some (.int .i64 0) := hy2.cell 6 rfl
  have fq6 := hy2.thaw 6
  have q7 : w2.cell? ⟨(w.heap.size + 1), 7, none⟩ = some (.int .u64 0) := hy2.cell 7 rfl
  have fq7 := hy2.thaw 7
  have q8 : w2.cell? ⟨(w.heap.size + 1), 8, none⟩ = some (.string ⟨#[]⟩) := hy2.cell 8 rfl
  have fq8 := hy2.thaw 8
  have q9 : w2.cell? ⟨(w.heap.size + 1), 9, none⟩ = some (.slice none 0 0) := hy2.cell 9 rfl
  have fq9 := hy2.thaw 9
  dsimp only
  go_wp2_with fail
  exact bodyPost_ret (results_cell_row rfl _ _ (w.heap.size + 1) 33 _ (0, 0) _ rfl (hy2.set10 _ _ _ _ _ _ _ _ _ _) Tryz.underlying33 rfl (by kernel_rfl)) rfl ⟨_, rfl, hv'.set10 (by omega) (by omega), set10_below (hb1.trans (hb2.mono hb1.size)) (by omega)⟩

set_option maxRecDepth 100000 in
set_option maxHeartbeats 1600000 in
theorem negated_ok (tp : ByteArray) {k m b : Int} {t : ByteArray} {a : Option Addr} {l cap : Nat} {n : Int} {kk bb : Int} {tt : ByteArray} {ks : List D} (hn : n = 0 ∨ n = 1) (w : World) (HT : ∀ W, Below w.heap.size w W → Calls Tryz.prog 62 #[.agg #[.int .i64 2, .int .i64 k, .int .i64 m, .int .u64 b, .string t, .slice a l cap, .int .i64 0, .int .i64 0, .int .u64 0, .string ⟨#[]⟩, .slice none 0 0, .int .i64 6]] W fun x w' => ∃ v', x = .returned v' ∧ ResV w' (fun b => W.heap.size ≤ b) v' (.gave (.mk kk n bb tt ks)) ∧ Below W.heap.size W w') :
    Calls Tryz.prog 47 #[.string tp, (.agg #[.int .i64 k, .int .i64 m, .int .u64 b, .string t, .slice a l cap])] w fun x w' => x = .returned (.agg #[.int .i64 0, .int .i64 0, .int .i64 0, .int .i64 0, .bool true, .int .i64 6, .int .i64 (1 - n), .int .u64 0, .string ⟨#[]⟩, .slice none 0 0]) ∧ Below w.heap.size w w' := by
  have HH := Lib.hid HT
  clear HT
  obtain ⟨W1, hW1, hb1, hz, hx1, hx2⟩ := res_worlds w (.int .i64 k) (.int .i64 m) (.int .u64 b) (.string t) (.slice a l cap)
  have hzo := hz.out
  obtain ⟨p0, p1, p2, p3, p4⟩ := hx1.cells
  go_enter Tryz.func47, Tryz.ntmps47
  go_upto_region 1 with fail
  rw [← hW1]
  clear hW1
  go_wp2_with fail
  refine (HH.out _ hb1).mono ?_
  rintro x w2 ⟨v', rfl, hv', hb2⟩
  obtain ⟨k5, m5, b5, t5, a5, n5, cap5, rfl, hq⟩ := hv'
  obtain ⟨kids, e5, -⟩ := hq.rep.shape'
  simp only [D.mk.injEq] at e5
  obtain ⟨rfl, rfl, rfl, rfl, rfl⟩ := e5
  have hy2 := hx2.later hb2
  have hbw2 := hb1.trans (hb2.mono hb1.size)
  clear hq
  dsimp only
  go_wp2_with fail
  refine (smust_ok rfl _).mono ?_
  rintro x w3 ⟨rfl, hb3⟩
  have hy3 := hy2.later hb3
  have hbw3 := hbw2.trans (hb3.mono hbw2.size)
  obtain ⟨W4, hW4, hb4, hx4⟩ := boxes1r w3 (.int .i64 kk) (.int .i64 n) (.int .u64 bb) (.string tt) (.slice a5 n5 cap5)
  have hy4 := hy3.later hb4
  have hbw4 := hbw3.trans (hb4.mono hbw3.size)
  have hlt3 := hy3.lt
  clear p0 p1 p2 p3 p4
  have r1 : W4.cell? ⟨w3.heap.size, 1, none⟩ = some (.int .i64 n) := hx4.cell 1 rfl
  dsimp only
  go_upto_region 2 with fail
  rw [← hW4]
  clear hW4
  rcases hn with rfl | rfl
  all_goals
    go_wp2_with fail
    refine (sgave_v _ _ _ _ _ _ _ _).mono ?_
    rintro x w5 ⟨rfl, hb5⟩
    have hy5 := hy4.later hb5
    have hbw5 := hbw4.trans (hb5.mono hbw4.size)
    have q0 : w5.cell? ⟨(w.heap.size + 1), 0, none⟩ = some (.int .i64 0) := hy5.cell 0 rfl
    have fq0 := hy5.thaw 0
    have q1 : w5.cell? ⟨(w.heap.size + 1), 1, none⟩ = some (.int .i64 0) := hy5.cell 1 rfl
    have fq1 := hy5.thaw 1
    have q2 : w5.cell? ⟨(w.heap.size + 1), 2, none⟩ = some (.int .i64 0) := hy5.cell 2 rfl
    have fq2 := hy5.thaw 2
    have q3 : w5.cell? ⟨(w.heap.size + 1), 3, none⟩ = some (.int .i64 0) := hy5.cell 3 rfl
    have fq3 := hy5.thaw 3
    have q4 : w5.cell? ⟨(w.heap.size + 1), 4, none⟩ = some (.bool false) := hy5.cell 4 rfl
    have fq4 := hy5.thaw 4
    have q5 : w5.cell? ⟨(w.heap.size + 1), 5, none⟩ = some (.int .i64 0) := hy5.cell 5 rfl
    have fq5 := hy5.thaw 5
    have q6 : w5.cell? ⟨(w.heap.size + 1), 6, none⟩ = some (.int .i64 0) := hy5.cell 6 rfl
    have fq6 := hy5.thaw 6
    have q7 : w5.cell? ⟨(w.heap.size + 1), 7, none⟩ = some (.int .u64 0) := hy5.cell 7 rfl
    have fq7 := hy5.thaw 7
    have q8 : w5.cell? ⟨(w.heap.size + 1), 8, none⟩ = some (.string ⟨#[]⟩) := hy5.cell 8 rfl
    have fq8 := hy5.thaw 8
    have q9 : w5.cell? ⟨(w.heap.size + 1), 9, none⟩ = some (.slice none 0 0) := hy5.cell 9 rfl
    have fq9 := hy5.thaw 9
    dsimp only
    go_wp2_with fail
    exact bodyPost_ret (results_cell_row rfl _ _ (w.heap.size + 1) 33 _ (0, 0) _ rfl (hy5.set10 _ _ _ _ _ _ _ _ _ _) Tryz.underlying33 rfl (by kernel_rfl)) rfl ⟨rfl, set10_below hbw5 (by omega)⟩

set_option maxRecDepth 100000 in
set_option maxHeartbeats 1600000 in
theorem negated_no (tp : ByteArray) {k m b : Int} {t : ByteArray} {a : Option Addr} {l cap : Nat} {pk pn : Int} (w : World) (HT : ∀ W, Below w.heap.size w W → Calls Tryz.prog 62 #[.agg #[.int .i64 2, .int .i64 k, .int .i64 m, .int .u64 b, .string t, .slice a l cap, .int .i64 0, .int .i64 0, .int .u64 0, .string ⟨#[]⟩, .slice none 0 0, .int .i64 6]] W fun x w' => ∃ v', x = .returned v' ∧ ResV w' (fun b => W.heap.size ≤ b) v' (.pan pk pn) ∧ Below W.heap.size W w') :
    Calls Tryz.prog 47 #[.string tp, (.agg #[.int .i64 k, .int .i64 m, .int .u64 b, .string t, .slice a l cap])] w fun x w' => x = .panicked (thrown 50 (.agg #[.int .i64 110, .int .i64 0, .int .i64 pk, .int .i64 pn, .bool false, .int .i64 0, .int .i64 0, .int .u64 0, .string ⟨#[]⟩, .slice none 0 0])) ∧ Below w.heap.size w w' := by
  have HH := Lib.hid HT
  clear HT
  obtain ⟨W1, hW1, hb1, hz, hx1, hx2⟩ := res_worlds w (.int .i64 k) (.int .i64 m) (.int .u64 b) (.string t) (.slice a l cap)
  have hzo := hz.out
  obtain ⟨p0, p1, p2, p3, p4⟩ := hx1.cells
  go_enter Tryz.func47, Tryz.ntmps47
  go_upto_region 1 with fail
  rw [← hW1]
  clear hW1
  go_wp2_with fail
  refine (HH.out _ hb1).mono ?_
  rintro x w2 ⟨v', rfl, hv', hb2⟩
  obtain rfl : v' = _ := hv'
  have hbw2 := hb1.trans (hb2.mono hb1.size)
  dsimp only
  go_wp2_with (go_at_call 64; refine (smust_no (by decide) _).mono ?_; rintro x w3 ⟨rfl, hb3⟩)
  exact ⟨rfl, rfl, hbw2.trans (hb3.mono hbw2.size)⟩

/-- The kind that MapKey makes of a kind. -/
def keyK (k : Int) : Int := if k = 1 then 2 else if k = 4 then 5 else k
set_option maxRecDepth 100000 in
set_option maxHeartbeats 1600000 in
theorem keyed_any (tp : ByteArray) {k m b : Int} {t : ByteArray} {a : Option Addr} {l cap : Nat} (w : World) : Calls Tryz.prog 51 #[.string tp, (.agg #[.int .i64 k, .int .i64 m, .int .u64 b, .string t, .slice a l cap])] w fun x w' => x = .returned (.agg #[.int .i64 0, .int .i64 0, .int .i64 0, .int .i64 0, .bool true, .int .i64 (keyK k), .int .i64 m, .int .u64 b, .string t, .slice a l cap]) ∧ Below w.heap.size w w' := by
  by_cases h1 : k = 1
  · subst h1
    rw [show keyK 1 = 2 from rfl]
    obtain ⟨W1, hW1, hb1, hz, hx1, hx2⟩ := res_worlds w (.int .i64 1) (.int .i64 m) (.int .u64 b) (.string t) (.slice a l cap)
    have hzo := hz.out
    obtain ⟨p0, p1, p2, p3, p4⟩ := hx1.cells
    have fp0 := hx1.row.thaw 0
    go_enter Tryz.func51, Tryz.ntmps51
    go_upto_region 1 with fail
    rw [← hW1]
    clear hW1
    go_wp2_with fail
    refine (sgave_v _ _ _ _ _ _ _ _).mono ?_
    rintro x w5 ⟨rfl, hb5⟩
    have hbs : Below w.heap.size w (W1.setCell ⟨w.heap.size, 0, none⟩ (.int .i64 2)) := hb1.setCell (p := ⟨w.heap.size, 0, none⟩) (Nat.le_refl _) _
    have hys := hx2.other (g := w.heap.size) 0 (.int .i64 2) (by omega)
    have hy5 := hys.later hb5
    have hbw5 := hbs.trans (hb5.mono hbs.size)
    have q0 : w5.cell? ⟨(w.heap.size + 1), 0, none⟩ = some (.int .i64 0) := hy5.cell 0 rfl
    have fq0 := hy5.thaw 0
    have q1 : w5.cell? ⟨(w.heap.size + 1), 1, none⟩ = some (.int .i64 0) := hy5.cell 1 rfl
    have fq1 := hy5.thaw 1
    have q2 : w5.cell? ⟨(w.heap.size + 1), 2, none⟩ = some (.int .i64 0) := hy5.cell 2 rfl
    have fq2 := hy5.thaw 2
    have q3 : w5.cell? ⟨(w.heap.size + 1), 3, none⟩ = some (.int .i64 0) := hy5.cell 3 rfl
    have fq3 := hy5.thaw 3
    have q4 : w5.cell? ⟨(w.heap.size + 1), 4, none⟩ = some (.bool false) := hy5.cell 4 rfl
    have fq4 := hy5.thaw 4
    have q5 : w5.cell? ⟨(w.heap.size + 1), 5, none⟩ = some (.int .i64 0) := hy5.cell 5 rfl
    have fq5 := hy5.thaw 5
    have q6 : w5.cell? ⟨(w.heap.size + 1), 6, none⟩ = some (.int .i64 0) := hy5.cell 6 rfl
    have fq6 := hy5.thaw 6
    have q7 : w5.cell? ⟨(w.heap.size + 1), 7, none⟩ = some (.int .u64 0) := hy5.cell 7 rfl
    have fq7 := hy5.thaw 7
    have q8 : w5.cell? ⟨(w.heap.size + 1), 8, none⟩ = some (.string ⟨#[]⟩) := hy5.cell 8 rfl
    have fq8 := hy5.thaw 8
    have q9 : w5.cell? ⟨(w.heap.size + 1), 9, none⟩ = some (.slice none 0 0) := hy5.cell 9 rfl
    have fq9 := hy5.thaw 9
    dsimp only
    go_wp2_with fail
    exact bodyPost_ret (results_cell_row rfl _ _ (w.heap.size + 1) 33 _ (0, 0) _ rfl (hy5.set10 _ _ _ _ _ _ _ _ _ _) Tryz.underlying33 rfl (by kernel_rfl)) rfl ⟨rfl, set10_below hbw5 (by omega)⟩
  by_cases h4 : k = 4
  · subst h4
    rw [show keyK 4 = 5 from rfl]
    obtain ⟨W1, hW1, hb1, hz, hx1, hx2⟩ := res_worlds w (.int .i64 4) (.int .i64 m) (.int .u64 b) (.string t) (.slice a l cap)
    have hzo := hz.out
    obtain ⟨p0, p1, p2, p3, p4⟩ := hx1.cells
    have fp0 := hx1.row.thaw 0
    go_enter Tryz.func51, Tryz.ntmps51
    go_upto_region 1 with fail
    rw [← hW1]
    clear hW1
    go_wp2_with fail
    refine (sgave_v _ _ _ _ _ _ _ _).mono ?_
    rintro x w5 ⟨rfl, hb5⟩
    have hbs : Below w.heap.size w (W1.setCell ⟨w.heap.size, 0, none⟩ (.int .i64 5)) := hb1.setCell (p := ⟨w.heap.size, 0, none⟩) (Nat.le_refl _) _
    have hys := hx2.other (g := w.heap.size) 0 (.int .i64 5) (by omega)
    have hy5 := hys.later hb5
    have hbw5 := hbs.trans (hb5.mono hbs.size)
    have q0 : w5.cell? ⟨(w.heap.size + 1), 0, none⟩ = some (.int .i64 0) := hy5.cell 0 rfl
    have fq0 := hy5.thaw 0
    have q1 : w5.cell? ⟨(w.heap.size + 1), 1, none⟩ = some (.int .i64 0) := hy5.cell 1 rfl
    have fq1 := hy5.thaw 1
    have q2 : w5.cell? ⟨(w.heap.size + 1), 2, none⟩ = some (.int .i64 0) := hy5.cell 2 rfl
    have fq2 := hy5.thaw 2
    have q3 : w5.cell? ⟨(w.heap.size + 1), 3, none⟩ = some (.int .i64 0) := hy5.cell 3 rfl
    have fq3 := hy5.thaw 3
    have q4 : w5.cell? ⟨(w.heap.size + 1), 4, none⟩ = some (.bool false) := hy5.cell 4 rfl
    have fq4 := hy5.thaw 4
    have q5 : w5.cell? ⟨(w.heap.size + 1), 5, none⟩ = some (.int .i64 0) := hy5.cell 5 rfl
    have fq5 := hy5.thaw 5
    have q6 : w5.cell? ⟨(w.heap.size + 1), 6, none⟩ = some (.int .i64 0) := hy5.cell 6 rfl
    have fq6 := hy5.thaw 6
    have q7 : w5.cell? ⟨(w.heap.size + 1), 7, none⟩ = some (.int .u64 0) := hy5.cell 7 rfl
    have fq7 := hy5.thaw 7
    have q8 : w5.cell? ⟨(w.heap.size + 1), 8, none⟩ = some (.string ⟨#[]⟩) := hy5.cell 8 rfl
    have fq8 := hy5.thaw 8
    have q9 : w5.cell? ⟨(w.heap.size + 1), 9, none⟩ = some (.slice none 0 0) := hy5.cell 9 rfl
    have fq9 := hy5.thaw 9
    dsimp only
    go_wp2_with fail
    exact bodyPost_ret (results_cell_row rfl _ _ (w.heap.size + 1) 33 _ (0, 0) _ rfl (hy5.set10 _ _ _ _ _ _ _ _ _ _) Tryz.underlying33 rfl (by kernel_rfl)) rfl ⟨rfl, set10_below hbw5 (by omega)⟩
  · have e1 : (k == 1) = false := by simpa using h1
    have e4 : (k == 4) = false := by simpa using h4
    rw [show keyK k = k from (if_neg h1).trans (if_neg h4)]
    obtain ⟨W1, hW1, hb1, hz, hx1, hx2⟩ := res_worlds w (.int .i64 k) (.int .i64 m) (.int .u64 b) (.string t) (.slice a l cap)
    have hzo := hz.out
    obtain ⟨p0, p1, p2, p3, p4⟩ := hx1.cells
    have fp0 := hx1.row.thaw 0
    go_enter Tryz.func51, Tryz.ntmps51
    go_upto_region 1 with fail
    rw [← hW1]
    clear hW1
    go_wp2_with fail
    refine (sgave_v _ _ _ _ _ _ _ _).mono ?_
    rintro x w5 ⟨rfl, hb5⟩
    have hy5 := hx2.later hb5
    have hbw5 := hb1.trans (hb5.mono hb1.size)
    have q0 : w5.cell? ⟨(w.heap.size + 1), 0, none⟩ = some (.int .i64 0) := hy5.cell 0 rfl
    have fq0 := hy5.thaw 0
    have q1 : w5.cell? ⟨(w.heap.size + 1), 1, none⟩ = some (.int .i64 0) := hy5.cell 1 rfl
    have fq1 := hy5.thaw 1
    have q2 : w5.cell? ⟨(w.heap.size + 1), 2, none⟩ = some (.int .i64 0) := hy5.cell 2 rfl
    have fq2 := hy5.thaw 2
    have q3 : w5.cell? ⟨(w.heap.size + 1), 3, none⟩ = some (.int .i64 0) := hy5.cell 3 rfl
    have fq3 := hy5.thaw 3
    have q4 : w5.cell? ⟨(w.heap.size + 1), 4, none⟩ = some (.bool false) := hy5.cell 4 rfl
    have fq4 := hy5.thaw 4
    have q5 : w5.cell? ⟨(w.heap.size + 1), 5, none⟩ = some (.int .i64 0) := hy5.cell 5 rfl
    have fq5 := hy5.thaw 5
    have q6 : w5.cell? ⟨(w.heap.size + 1), 6, none⟩ = some (.int .i64 0) := hy5.cell 6 rfl
    have fq6 := hy5.thaw 6
    have q7 : w5.cell? ⟨(w.heap.size + 1), 7, none⟩ = some (.int .u64 0) := hy5.cell 7 rfl
    have fq7 := hy5.thaw 7
    have q8 : w5.cell? ⟨(w.heap.size + 1), 8, none⟩ = some (.string ⟨#[]⟩) := hy5.cell 8 rfl
    have fq8 := hy5.thaw 8
    have q9 : w5.cell? ⟨(w.heap.size + 1), 9, none⟩ = some (.slice none 0 0) := hy5.cell 9 rfl
    have fq9 := hy5.thaw 9
    dsimp only
    go_wp2_with fail
    exact bodyPost_ret (results_cell_row rfl _ _ (w.heap.size + 1) 33 _ (0, 0) _ rfl (hy5.set10 _ _ _ _ _ _ _ _ _ _) Tryz.underlying33 rfl (by kernel_rfl)) rfl ⟨rfl, set10_below hbw5 (by omega)⟩
end Go.Proofs.YtecdniimikfbhaaGreatDoor
