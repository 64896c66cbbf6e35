/- Shape: the reference's digits, Label, Add of a value and itself, made. -/
import Derived.Test.YtecdniimikfbhaaGreatDoorU8
import Derived.Test.YtecdniimikfbhaaGreatDoorV6
namespace Go.Proofs.YtecdniimikfbhaaGreatDoor
open Go Go.RowKit Go.ChangeShapes Go.WideShapes

theorem GaveP.set10x {w : World} {P Q : Nat → Prop} {g : Nat} {v : Value} {d : D} (h : GaveP w P v d) (hb : ∀ b, P b → b ≠ g ∧ Q b) {x0 x1 x2 x3 x4 x5 x6 x7 x8 x9 : Value} : GaveP ((((((((((w.setCell ⟨g, 0, none⟩ x0).setCell ⟨g, 1, none⟩ x1).setCell ⟨g, 2, none⟩ x2).setCell ⟨g, 3, none⟩ x3).setCell ⟨g, 4, none⟩ x4).setCell ⟨g, 5, none⟩ x5).setCell ⟨g, 6, none⟩ x6).setCell ⟨g, 7, none⟩ x7).setCell ⟨g, 8, none⟩ x8).setCell ⟨g, 9, none⟩ x9) Q v d :=
  h.carry (fun i hi _ => ⟨set10_other w g _ _ _ _ _ _ _ _ _ _ i (hb i hi).1, (hb i hi).2⟩) (by rw [set10_size]; exact Nat.le_refl _)
theorem GaveP.later {w w1 : World} {P : Nat → Prop} {v : Value} {d : D} (h : GaveP w P v d) (hb : Below w.heap.size w w1) : GaveP w1 P v d := h.carry (fun b hq hl => ⟨hb.block b hl, hq⟩) hb.size

set_option maxRecDepth 100000 in
set_option maxHeartbeats 1600000 in
theorem rdigits_any {P : ByteArray → Prop} (m : Int) (w : World) (HK : ∀ W, Below w.heap.size w W → Calls Tryz.prog 55 #[.int .i64 m, .int .i64 10] W fun x w' => ∃ s, x = .returned (.string s) ∧ P s ∧ Below W.heap.size W w') : Calls Tryz.prog 37 #[.int .i64 m] w fun x w' => ∃ s, x = .returned (.string s) ∧ P s ∧ Below w.heap.size w w' := by
  have HH := Lib.hid HK
  clear HK
  go_enter Tryz.func37, Tryz.ntmps37
  go_wp2_with (go_at_call 55; refine (HH.out _ (Below.refl _ _)).mono ?_; rintro e w2 ⟨s, rfl, hs, hb⟩)
  go_ret
  exact ⟨s, rfl, hs, hb⟩

set_option maxRecDepth 100000 in
set_option maxHeartbeats 1600000 in
theorem rlabel_text {k : Int} (hk : k = 5 ∨ k = 10) (m b : Int) (t : ByteArray) (a : Option Addr) (l cap : Nat) (w : World) :
    Calls Tryz.prog 26 #[(.agg #[.int .i64 k, .int .i64 m, .int .u64 b, .string t, .slice a l cap])] w fun x w' => x = .returned (.tuple #[.string t, .int .i64 0]) ∧ Below w.heap.size w w' := by
  rcases hk with rfl | rfl
  · obtain ⟨W1, hW1, hb1, hx1⟩ := boxes1r w (.int .i64 5) (.int .i64 m) (.int .u64 b) (.string t) (.slice a l cap)
    have p0 : W1.cell? ⟨w.heap.size, 0, none⟩ = some (.int .i64 5) := hx1.cell 0 rfl
    have p1 : W1.cell? ⟨w.heap.size, 1, none⟩ = some (.int .i64 m) := hx1.cell 1 rfl
    have p3 : W1.cell? ⟨w.heap.size, 3, none⟩ = some (.string t) := hx1.cell 3 rfl
    go_enter Tryz.func26, Tryz.ntmps26
    go_upto_region 1 with fail
    rw [← hW1]
    clear hW1
    go_wp2_with fail
    go_ret2
    exact ⟨rfl, hb1⟩
  · obtain ⟨W1, hW1, hb1, hx1⟩ := boxes1r w (.int .i64 10) (.int .i64 m) (.int .u64 b) (.string t) (.slice a l cap)
    have p0 : W1.cell? ⟨w.heap.size, 0, none⟩ = some (.int .i64 10) := hx1.cell 0 rfl
    have p1 : W1.cell? ⟨w.heap.size, 1, none⟩ = some (.int .i64 m) := hx1.cell 1 rfl
    have p3 : W1.cell? ⟨w.heap.size, 3, none⟩ = some (.string t) := hx1.cell 3 rfl
    go_enter Tryz.func26, Tryz.ntmps26
    go_upto_region 1 with fail
    rw [← hW1]
    clear hW1
    go_wp2_with fail
    go_ret2
    exact ⟨rfl, hb1⟩

set_option maxRecDepth 100000 in
set_option maxHeartbeats 1600000 in
theorem rlabel_no {k : Int} (h2 : k ≠ 2) (h5 : k ≠ 5) (h10 : k ≠ 10) (m b : Int) (t : ByteArray) (a : Option Addr) (l cap : Nat) (w : World) :
    Calls Tryz.prog 26 #[(.agg #[.int .i64 k, .int .i64 m, .int .u64 b, .string t, .slice a l cap])] w fun x w' => x = .returned (.tuple #[.string ⟨#[]⟩, .int .i64 12]) ∧ Below w.heap.size w w' := by
  have e2 : (k == 2) = false := by simpa using h2
  have e5 : (k == 5) = false := by simpa using h5
  have e10 : (k == 10) = false := by simpa using h10
  obtain ⟨W1, hW1, hb1, hx1⟩ := boxes1r w (.int .i64 k) (.int .i64 m) (.int .u64 b) (.string t) (.slice a l cap)
  have p0 : W1.cell? ⟨w.heap.size, 0, none⟩ = some (.int .i64 k) := hx1.cell 0 rfl
  have p1 : W1.cell? ⟨w.heap.size, 1, none⟩ = some (.int .i64 m) := hx1.cell 1 rfl
  have p3 : W1.cell? ⟨w.heap.size, 3, none⟩ = some (.string t) := hx1.cell 3 rfl
  go_enter Tryz.func26, Tryz.ntmps26
  go_upto_region 1 with fail
  rw [← hW1]
  clear hW1
  go_wp2_with fail
  go_ret2
  exact ⟨rfl, hb1⟩

set_option maxRecDepth 100000 in
set_option maxHeartbeats 1600000 in
theorem rlabel_key {P : ByteArray → Prop} (hP : ∀ s, P s → s.size ≤ 65531) (m b : Int) (t : ByteArray) (a : Option Addr) (l cap : Nat) (w : World) (HK : ∀ W, Below w.heap.size w W → Calls Tryz.prog 55 #[.int .i64 m, .int .i64 10] W fun x w' => ∃ s, x = .returned (.string s) ∧ P s ∧ Below W.heap.size W w') :
    Calls Tryz.prog 26 #[(.agg #[.int .i64 2, .int .i64 m, .int .u64 b, .string t, .slice a l cap])] w fun x w' => LabelPost (fun s => ∃ r, s = ⟨#[107, 101, 121, 32]⟩ ++ r ∧ P r) w x w' := by
  have HH := Lib.hid HK
  have HPP := Lib.hid hP
  clear HK hP
  obtain ⟨W1, hW1, hb1, hx1⟩ := boxes1r w (.int .i64 2) (.int .i64 m) (.int .u64 b) (.string t) (.slice a l cap)
  have p0 : W1.cell? ⟨w.heap.size, 0, none⟩ = some (.int .i64 2) := hx1.cell 0 rfl
  have p1 : W1.cell? ⟨w.heap.size, 1, none⟩ = some (.int .i64 m) := hx1.cell 1 rfl
  have p3 : W1.cell? ⟨w.heap.size, 3, none⟩ = some (.string t) := hx1.cell 3 rfl
  go_enter Tryz.func26, Tryz.ntmps26
  go_upto_region 1 with fail
  rw [← hW1]
  clear hW1
  go_wp2_with (go_at_call 37; refine (rdigits_any m _ (fun W hW => HH.out W (hb1.trans (hW.mono hb1.size)))).mono ?_; rintro e w2 ⟨s, rfl, hPs, hb2⟩; have hsz : ¬ 9223372036854775807 < 4 + s.size := (by have := HPP.out s hPs; omega))
  go_ret2
  exact ⟨_, rfl, ⟨s, rfl, hPs⟩, hb1.trans (hb2.mono hb1.size)⟩

set_option maxRecDepth 100000 in
set_option maxHeartbeats 1600000 in
theorem rmade_yes {w0 : World} {d : D} {k m b : Int} {t : ByteArray} {a : Option Addr} {l cap : Nat} (hv : Rep w0 (.agg #[.int .i64 k, .int .i64 m, .int .u64 b, .string t, .slice a l cap]) d) (hf : FitsIn 0 1 d) (w : World) (hb0 : Below w0.heap.size w0 w) :
    Calls Tryz.prog 23 #[(.agg #[.int .i64 k, .int .i64 m, .int .u64 b, .string t, .slice a l cap])] w fun x w' => x = .returned (.agg #[.int .i64 0, .int .i64 0, .int .i64 0, .int .i64 0, .bool true, .int .i64 k, .int .i64 m, .int .u64 b, .string t, .slice a l cap]) ∧ Below w.heap.size w w' := by
  have HV := Lib.hid (fun W hW => validx_any hv W hW)
  have HB := Lib.hid hb0
  have HF := Lib.hid hf
  clear hv hb0 hf
  obtain ⟨W1, hW1, hb1, hz, hx1, hx2⟩ := res_worlds w (.int .i64 k) (.int .i64 m) (.int .u64 b) (.string t) (.slice a l cap)
  have hzo := hz.out
  obtain ⟨p0, p1, p2, p3, p4⟩ := hx1.cells
  go_enter Tryz.func23, Tryz.ntmps23
  go_upto_region 1 with fail
  rw [← hW1]
  clear hW1
  go_wp2_with fail
  refine (HV.out _ (HB.out.trans (hb1.mono HB.out.size))).mono ?_
  rintro e w2 ⟨r, rfl, hr, hb2⟩
  have hy1 := hx1.row.later hb2
  have hy2 := hx2.later hb2
  have hbw2 := hb1.trans (hb2.mono hb1.size)
  clear p0 p1 p2 p3 p4
  obtain rfl := hr.2 HF.out
  clear hr
  have p0 : w2.cell? ⟨w.heap.size, 0, none⟩ = some (.int .i64 k) := hy1.cell 0 rfl
  have p1 : w2.cell? ⟨w.heap.size, 1, none⟩ = some (.int .i64 m) := hy1.cell 1 rfl
  have p2 : w2.cell? ⟨w.heap.size, 2, none⟩ = some (.int .u64 b) := hy1.cell 2 rfl
  have p3 : w2.cell? ⟨w.heap.size, 3, none⟩ = some (.string t) := hy1.cell 3 rfl
  have p4 : w2.cell? ⟨w.heap.size, 4, none⟩ = some (.slice a l cap) := hy1.cell 4 rfl
  dsimp only
  go_wp2_with fail
  refine (rgave_v _ _ _ _ _ _ _ _).mono ?_
  rintro e w3 ⟨rfl, hb3⟩
  have hu2 := hy2.later hb3
  have hbw3 := hbw2.trans (hb3.mono hbw2.size)
  clear p0 p1 p2 p3 p4
  have q0 : w3.cell? ⟨(w.heap.size + 1), 0, none⟩ = some (.int .i64 0) := hu2.cell 0 rfl
  have fq0 := hu2.thaw 0
  have q1 : w3.cell? ⟨(w.heap.size + 1), 1, none⟩ = some (.int .i64 0) := hu2.cell 1 rfl
  have fq1 := hu2.thaw 1
  have q2 : w3.cell? ⟨(w.heap.size + 1), 2, none⟩ = some (.int .i64 0) := hu2.cell 2 rfl
  have fq2 := hu2.thaw 2
  have q3 : w3.cell? ⟨(w.heap.size + 1), 3, none⟩ = some (.int .i64 0) := hu2.cell 3 rfl
  have fq3 := hu2.thaw 3
  have q4 : w3.cell? ⟨(w.heap.size + 1), 4, none⟩ = some (.bool false) := hu2.cell 4 rfl
  have fq4 := hu2.thaw 4
  have q5 : w3.cell? ⟨(w.heap.size + 1), 5, none⟩ = some (.int .i64 0) := hu2.cell 5 rfl
  have fq5 := hu2.thaw 5
  have q6 : w3.cell? ⟨(w.heap.size + 1), 6, none⟩ = some (.int .i64 0) := hu2.cell 6 rfl
  have fq6 := hu2.thaw 6
  have q7 : w3.cell? ⟨(w.heap.size + 1), 7, none⟩ = some (.int .u64 0) := hu2.cell 7 rfl
  have fq7 := hu2.thaw 7
  have q8 : w3.cell? ⟨(w.heap.size + 1), 8, none⟩ = some (.string ⟨#[]⟩) := hu2.cell 8 rfl
  have fq8 := hu2.thaw 8
  have q9 : w3.cell? ⟨(w.heap.size + 1), 9, none⟩ = some (.slice none 0 0) := hu2.cell 9 rfl
  have fq9 := hu2.thaw 9
  dsimp only
  go_wp2_with fail
  exact bodyPost_ret (results_cell_row rfl _ _ (w.heap.size + 1) 33 _ (0, 0) _ rfl (hu2.set10 _ _ _ _ _ _ _ _ _ _) Tryz.underlying33 rfl (by kernel_rfl)) rfl ⟨rfl, set10_below hbw3 (by omega)⟩

set_option maxRecDepth 100000 in
set_option maxHeartbeats 1600000 in
theorem rmade_no {w0 : World} {d : D} {k m b : Int} {t : ByteArray} {a : Option Addr} {l cap : Nat} (hv : Rep w0 (.agg #[.int .i64 k, .int .i64 m, .int .u64 b, .string t, .slice a l cap]) d) (hf : ¬ FitsIn 0 1 d) (w : World) (hb0 : Below w0.heap.size w0 w) :
    Calls Tryz.prog 23 #[(.agg #[.int .i64 k, .int .i64 m, .int .u64 b, .string t, .slice a l cap])] w fun x w' => x = .returned (errV 14 0 0) ∧ Below w.heap.size w w' := by
  unfold errV
  have HV := Lib.hid (fun W hW => validx_any hv W hW)
  have HB := Lib.hid hb0
  have HF := Lib.hid hf
  clear hv hb0 hf
  obtain ⟨W1, hW1, hb1, hz, hx1, hx2⟩ := res_worlds w (.int .i64 k) (.int .i64 m) (.int .u64 b) (.string t) (.slice a l cap)
  have hzo := hz.out
  obtain ⟨p0, p1, p2, p3, p4⟩ := hx1.cells
  go_enter Tryz.func23, Tryz.ntmps23
  go_upto_region 1 with fail
  rw [← hW1]
  clear hW1
  go_wp2_with fail
  refine (HV.out _ (HB.out.trans (hb1.mono HB.out.size))).mono ?_
  rintro e w2 ⟨r, rfl, hr, hb2⟩
  have hy1 := hx1.row.later hb2
  have hy2 := hx2.later hb2
  have hbw2 := hb1.trans (hb2.mono hb1.size)
  clear p0 p1 p2 p3 p4
  have hfr : r = false := by
    cases r
    · rfl
    · exact absurd (hr.1 rfl) HF.out
  subst hfr
  clear hr
  have q0 : w2.cell? ⟨(w.heap.size + 1), 0, none⟩ = some (.int .i64 0) := hy2.cell 0 rfl
  have fq0 := hy2.thaw 0
  have q1 : w2.cell? ⟨(w.heap.size + 1), 1, none⟩ = some (.int .i64 0) := hy2.cell 1 rfl
  have fq1 := hy2.thaw 1
  have q2 : w2.cell? ⟨(w.heap.size + 1), 2, none⟩ = some (.int .i64 0) := hy2.cell 2 rfl
  have fq2 := hy2.thaw 2
  have q3 : w2.cell? ⟨(w.heap.size + 1), 3, none⟩ = some (.int .i64 0) := hy2.cell 3 rfl
  have fq3 := hy2.thaw 3
  have q4 : w2.cell? ⟨(w.heap.size + 1), 4, none⟩ = some (.bool false) := hy2.cell 4 rfl
  have fq4 := hy2.thaw 4
  have q5 : w2.cell? ⟨(w.heap.size + 1), 5, none⟩ = some (.int .i64 0) := hy2.cell 5 rfl
  have fq5 := hy2.thaw 5
  have q6 : w2.cell? ⟨(w.heap.size + 1), 6, none⟩ = some (.int .i64 0) := hy2.cell 6 rfl
  have fq6 := hy2.thaw 6
  have q7 : w2.cell? ⟨(w.heap.size + 1), 7, none⟩ = some (.int .u64 0) := hy2.cell 7 rfl
  have fq7 := hy2.thaw 7
  have q8 : w2.cell? ⟨(w.heap.size + 1), 8, none⟩ = some (.string ⟨#[]⟩) := hy2.cell 8 rfl
  have fq8 := hy2.thaw 8
  have q9 : w2.cell? ⟨(w.heap.size + 1), 9, none⟩ = some (.slice none 0 0) := hy2.cell 9 rfl
  have fq9 := hy2.thaw 9
  dsimp only
  go_wp2_with fail
  exact bodyPost_ret (results_cell_row rfl _ _ (w.heap.size + 1) 33 _ (0, 0) _ rfl (hy2.set10 _ _ _ _ _ _ _ _ _ _) Tryz.underlying33 rfl (by kernel_rfl)) rfl ⟨rfl, set10_below hbw2 (by omega)⟩

end Go.Proofs.YtecdniimikfbhaaGreatDoor
