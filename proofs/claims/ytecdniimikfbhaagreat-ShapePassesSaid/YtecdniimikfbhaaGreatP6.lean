/- ShapePasses: the law's own walk. -/
import Derived.Test.YtecdniimikfbhaaGreatP5
import Derived.Deep.RegionHeld3
namespace Go.Proofs.YtecdniimikfbhaaGreat
open Go Go.RowKit Go.ChangeShapes Go.WideShapes

theorem heldP {W w1 : World} {g g' : Nat} {u0 u1 u2 u3 u4 u5 u6 u7 : Value} (h : w1.cell? ⟨g, 0, none⟩ = some u0 ∧ w1.cell? ⟨g, 1, none⟩ = some u1 ∧ w1.cell? ⟨g, 2, none⟩ = some u2 ∧ w1.cell? ⟨g', 0, none⟩ = some u3 ∧ w1.cell? ⟨g', 1, none⟩ = some u4 ∧ w1.cell? ⟨g', 2, none⟩ = some u5 ∧ w1.cell? ⟨g', 3, none⟩ = some u6 ∧ w1.cell? ⟨g', 4, none⟩ = some u7 ∧ Below W.heap.size W w1) : Below W.heap.size W w1 := by
  obtain ⟨_, _, _, _, _, _, _, _, h⟩ := h
  exact h
theorem keepP {W w1 w2 : World} {g g' : Nat} {u0 u1 u2 u3 u4 u5 u6 u7 : Value} (hg : g < W.heap.size) (hg' : g' < W.heap.size) (h : w1.cell? ⟨g, 0, none⟩ = some u0 ∧ w1.cell? ⟨g, 1, none⟩ = some u1 ∧ w1.cell? ⟨g, 2, none⟩ = some u2 ∧ w1.cell? ⟨g', 0, none⟩ = some u3 ∧ w1.cell? ⟨g', 1, none⟩ = some u4 ∧ w1.cell? ⟨g', 2, none⟩ = some u5 ∧ w1.cell? ⟨g', 3, none⟩ = some u6 ∧ w1.cell? ⟨g', 4, none⟩ = some u7 ∧ Below W.heap.size W w1) (hb : Below w1.heap.size w1 w2) : w2.cell? ⟨g, 0, none⟩ = some u0 ∧ w2.cell? ⟨g, 1, none⟩ = some u1 ∧ w2.cell? ⟨g, 2, none⟩ = some u2 ∧ w2.cell? ⟨g', 0, none⟩ = some u3 ∧ w2.cell? ⟨g', 1, none⟩ = some u4 ∧ w2.cell? ⟨g', 2, none⟩ = some u5 ∧ w2.cell? ⟨g', 3, none⟩ = some u6 ∧ w2.cell? ⟨g', 4, none⟩ = some u7 ∧ Below W.heap.size W w2 := by
  obtain ⟨c0, c1, c2, c3, c4, c5, c6, c7, h⟩ := h
  have hz := h.size
  exact ⟨(hb.cell (p := ⟨g, _, none⟩) (Nat.lt_of_lt_of_le hg hz)).trans c0, (hb.cell (p := ⟨g, _, none⟩) (Nat.lt_of_lt_of_le hg hz)).trans c1, (hb.cell (p := ⟨g, _, none⟩) (Nat.lt_of_lt_of_le hg hz)).trans c2, (hb.cell (p := ⟨g', _, none⟩) (Nat.lt_of_lt_of_le hg' hz)).trans c3, (hb.cell (p := ⟨g', _, none⟩) (Nat.lt_of_lt_of_le hg' hz)).trans c4, (hb.cell (p := ⟨g', _, none⟩) (Nat.lt_of_lt_of_le hg' hz)).trans c5, (hb.cell (p := ⟨g', _, none⟩) (Nat.lt_of_lt_of_le hg' hz)).trans c6, (hb.cell (p := ⟨g', _, none⟩) (Nat.lt_of_lt_of_le hg' hz)).trans c7, h.trans (hb.mono hz)⟩

set_option maxRecDepth 100000 in
set_option maxHeartbeats 6400000 in
theorem passes_any {w : World} {p : WT} {d : D} {op num : Int} {wa : Option Addr} {wl wc : Nat} {k m b : Int} {t : ByteArray} {a : Option Addr} {l cap : Nat} (hv : WRep w (.agg #[.int .i64 op, .int .i64 num, .slice wa wl wc]) p) (hd : Rep w (.agg #[.int .i64 k, .int .i64 m, .int .u64 b, .string t, .slice a l cap]) d) :
    Calls Tryz.prog 4 #[(.agg #[.int .i64 op, .int .i64 num, .slice wa wl wc]), (.agg #[.int .i64 k, .int .i64 m, .int .u64 b, .string t, .slice a l cap])] w fun x w' => x = .returned (.bool true) ∧ Below w.heap.size w w' := by
  have HF := Lib.hid (fun W hW => pfit_any hv W hW)
  have HV := Lib.hid (fun W hW => valid_any hd W hW)
  obtain ⟨W1, hW1, hb1, hz, hx1, hx2⟩ := wd_worlds w (.int .i64 op) (.int .i64 num) (.slice wa wl wc) (.int .i64 k) (.int .i64 m) (.int .u64 b) (.string t) (.slice a l cap)
  have p0 : W1.cell? ⟨w.heap.size, 0, none⟩ = some (.int .i64 op) := hx1.cell 0 rfl
  have p1 : W1.cell? ⟨w.heap.size, 1, none⟩ = some (.int .i64 num) := hx1.cell 1 rfl
  have p2 : W1.cell? ⟨w.heap.size, 2, none⟩ = some (.slice wa wl wc) := hx1.cell 2 rfl
  have q0 : W1.cell? ⟨w.heap.size + 1, 0, none⟩ = some (.int .i64 k) := hx2.cell 0 rfl
  have q1 : W1.cell? ⟨w.heap.size + 1, 1, none⟩ = some (.int .i64 m) := hx2.cell 1 rfl
  have q2 : W1.cell? ⟨w.heap.size + 1, 2, none⟩ = some (.int .u64 b) := hx2.cell 2 rfl
  have q3 : W1.cell? ⟨w.heap.size + 1, 3, none⟩ = some (.string t) := hx2.cell 3 rfl
  have q4 : W1.cell? ⟨w.heap.size + 1, 4, none⟩ = some (.slice a l cap) := hx2.cell 4 rfl
  go_enter Tryz.func4, Tryz.ntmps4
  go_upto_region 1 with fail
  rw [← hW1]
  clear hW1
  go_wp2_with fail
  refine (HF.out _ hb1).mono ?_
  rintro e w2 ⟨r, rfl, hr, hb2⟩
  have hbw2 := hb1.trans (hb2.mono hb1.size)
  have hy1 := hx1.later hb2
  have hy2 := hx2.later hb2
  clear p0 p1 p2 q0 q1 q2 q3 q4
  cases r
  · dsimp only
    go_wp2_with (go_at_call 8; refine (sawake_any _).mono ?_; rintro e w3 ⟨rfl, hb3⟩)
    go_ret
    exact ⟨rfl, hbw2.trans (hb3.mono hbw2.size)⟩
  have hfit := hr rfl
  clear hr
  have q0 : w2.cell? ⟨w.heap.size + 1, 0, none⟩ = some (.int .i64 k) := hy2.cell 0 rfl
  have q1 : w2.cell? ⟨w.heap.size + 1, 1, none⟩ = some (.int .i64 m) := hy2.cell 1 rfl
  have q2 : w2.cell? ⟨w.heap.size + 1, 2, none⟩ = some (.int .u64 b) := hy2.cell 2 rfl
  have q3 : w2.cell? ⟨w.heap.size + 1, 3, none⟩ = some (.string t) := hy2.cell 3 rfl
  have q4 : w2.cell? ⟨w.heap.size + 1, 4, none⟩ = some (.slice a l cap) := hy2.cell 4 rfl
  dsimp only
  go_wp2_with fail
  refine (HV.out _ hbw2).mono ?_
  rintro e w3 ⟨r, rfl, hr, hb3⟩
  have hbw3 := hbw2.trans (hb3.mono hbw2.size)
  have hu1 := hy1.later hb3
  have hu2 := hy2.later hb3
  clear q0 q1 q2 q3 q4
  cases r
  · dsimp only
    go_wp2_with (go_at_call 8; refine (sawake_any _).mono ?_; rintro e w4 ⟨rfl, hb4⟩)
    go_ret
    exact ⟨rfl, hbw3.trans (hb4.mono hbw3.size)⟩
  obtain ⟨-, hR, -⟩ := hr rfl
  clear hr
  obtain ⟨kids, rfl, -⟩ := hd.shape'
  have hk := hR.inv.1
  obtain ⟨j, rfl⟩ : ∃ j : Nat, k = j := ⟨k.toNat, by have := hk.1; omega⟩
  have hj : j ≤ 13 := by have := hk.2.1; omega
  have HP := Lib.hid (fun W hW => pass_any hfit hv hj (m := m) (b := b) (t := t) (a := a) (l := l) (cap := cap) W hW)
  have HM := Lib.hid (fun W hW => pmatch_any hfit hv hj (m := m) (b := b) (t := t) (a := a) (l := l) (cap := cap) W hW)
  generalize passB p j = pb at *
  clear hR hk hv hd hfit HF HV
  have hg1 := hu1.lt
  have hg2 := hu2.lt
  have p0 : w3.cell? ⟨w.heap.size, 0, none⟩ = some (.int .i64 op) := hu1.cell 0 rfl
  have p1 : w3.cell? ⟨w.heap.size, 1, none⟩ = some (.int .i64 num) := hu1.cell 1 rfl
  have p2 : w3.cell? ⟨w.heap.size, 2, none⟩ = some (.slice wa wl wc) := hu1.cell 2 rfl
  have q0 : w3.cell? ⟨w.heap.size + 1, 0, none⟩ = some (.int .i64 j) := hu2.cell 0 rfl
  have q1 : w3.cell? ⟨w.heap.size + 1, 1, none⟩ = some (.int .i64 m) := hu2.cell 1 rfl
  have q2 : w3.cell? ⟨w.heap.size + 1, 2, none⟩ = some (.int .u64 b) := hu2.cell 2 rfl
  have q3 : w3.cell? ⟨w.heap.size + 1, 3, none⟩ = some (.string t) := hu2.cell 3 rfl
  have q4 : w3.cell? ⟨w.heap.size + 1, 4, none⟩ = some (.slice a l cap) := hu2.cell 4 rfl
  dsimp only
  go_upto_region 3 with fail
  cases pb
  all_goals
    go_region_held3 (fun w' => w'.cell? ⟨w.heap.size, 0, none⟩ = some (.int .i64 op) ∧ w'.cell? ⟨w.heap.size, 1, none⟩ = some (.int .i64 num) ∧ w'.cell? ⟨w.heap.size, 2, none⟩ = some (.slice wa wl wc) ∧ w'.cell? ⟨w.heap.size + 1, 0, none⟩ = some (.int .i64 j) ∧ w'.cell? ⟨w.heap.size + 1, 1, none⟩ = some (.int .i64 m) ∧ w'.cell? ⟨w.heap.size + 1, 2, none⟩ = some (.int .u64 b) ∧ w'.cell? ⟨w.heap.size + 1, 3, none⟩ = some (.string t) ∧ w'.cell? ⟨w.heap.size + 1, 4, none⟩ = some (.slice a l cap) ∧ Below w3.heap.size w3 w')
      (first | (with_reducible assumption) | (with_reducible exact keepP hg1 hg2 (by assumption) (by assumption)) | (exact ⟨p0, p1, p2, q0, q1, q2, q3, q4, by go_grown⟩) | fail)
      (first
        | (go_at_call 11; refine (HP.out _ (hbw3.trans ((heldP (by assumption)).mono hbw3.size))).mono ?_; rintro e y1 ⟨rfl, hb4'⟩)
        | (go_at_call 12; refine (HM.out _ (hbw3.trans ((heldP (by assumption)).mono hbw3.size))).mono ?_; rintro e y2 ⟨rfl, hb5'⟩)
        | (go_at_call 8; refine (sawake_any _).mono ?_; rintro e y3 ⟨rfl, hb6'⟩))
    have hbE := heldP (by assumption)
    go_wp2_with fail
    go_ret
    exact ⟨rfl, hbw3.trans (hbE.mono hbw3.size)⟩
end Go.Proofs.YtecdniimikfbhaaGreat
