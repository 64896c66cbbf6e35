/- Contract of boxes.value, of a box. -/
import Derived.Test.YteplhhlgceppkabG33
namespace Go.Proofs.Yteplhhlgceppkab
open Go Go.RowKit Go.ChangeShapes Go.WideShapes

/-- What is said of a box. -/
def PtrSays (M n k : Nat) (F : DataW Unit) (m : Int) (p : Nat) (w : World) (e : Ending) (w' : World) : Prop :=
  ∃ F1 n1, e = .returned (.iface 129 (.pointer (some ⟨p, 0, none⟩))) ∧ boxOf F1 m = some p ∧ BoxesAt w' M n1 F1 ∧ n1 ≤ n + 1 + k ∧ VStep M w.heap.size w w' F F1

set_option maxRecDepth 100000 in
set_option maxHeartbeats 1600000 in
theorem val_11_old (m b : Int) (t : ByteArray) (hm : (Lit.int .i64 m).wf = true) {w0 : World} {x : D} {a : Option Addr} {cap g o : Nat} {k2 m2 b2 : Int} {t2 : ByteArray} {a2 : Option Addr} {n2 cap2 : Nat}
    (ha : a = some ⟨g, o, none⟩ ∧ g < w0.heap.size ∧ 1 ≤ cap ∧ cap ≤ 9223372036854775807)
    (hc0 : w0.cell? ⟨g, o, none⟩ = some (.int .i64 k2)) (hc1 : w0.cell? ⟨g, o + 1, none⟩ = some (.int .i64 m2)) (hc2 : w0.cell? ⟨g, o + 2, none⟩ = some (.int .u64 b2)) (hc3 : w0.cell? ⟨g, o + 3, none⟩ = some (.string t2)) (hc4 : w0.cell? ⟨g, o + 4, none⟩ = some (.slice a2 n2 cap2))
    (HK : ValueSays w0 (.agg #[.int .i64 k2, .int .i64 m2, .int .u64 b2, .string t2, .slice a2 n2 cap2]) x) (w : World) (M n : Nat) (F : DataW Unit) (hb : Below w0.heap.size w0 w) (hw0 : w0.heap.size ≤ M) (hbx : BoxesAt w M n F) (hn : n + 1 + x.parts ≤ 1000000) (p : Nat) (hp : boxOf F m = some p) :
    Calls Try.prog 50 #[.map (some M), .agg #[.int .i64 11, .int .i64 m, .int .u64 b, .string t, .slice a 1 cap]] w (PtrSays M n x.parts F m p w) := by
  obtain ⟨rfl, hg, hcp, hcm⟩ := ha
  have HX := Lib.hid (fun w n F hb hbx hn => HK w M n F hb hw0 hbx hn)
  have hMlt := Lib.hid hbx.lt
  obtain ⟨W1, hW1⟩ : ∃ W1, W1 = w.alloc (.cells #[.int .i64 11, .int .i64 m, .int .u64 b, .string t, .slice (some ⟨g, o, none⟩) 1 cap] 25) := ⟨_, rfl⟩
  have hb1 : Below w.heap.size w W1 := by rw [hW1]; exact (Below.refl _ _).alloc (Nat.le_refl _) _
  have hx1 : Row W1 w.heap.size #[.int .i64 11, .int .i64 m, .int .u64 b, .string t, .slice (some ⟨g, o, none⟩) 1 cap] 25 := by rw [hW1]; exact Row.new w _ _
  have hbx1 := hbx.later hb1
  have hB1 : Below w0.heap.size w0 W1 := hb.trans (hb1.mono hb.size)
  have hs1 := Lib.hid (show VStep M w.heap.size w W1 F F from VStep.of_below hb1 (Nat.le_of_lt hMlt.out))
  rcases look_box hbx1 hm with ⟨h0, _⟩ | ⟨p', h0, hrun⟩
  · rw [h0] at hp; cases hp
  obtain rfl : p' = p := by rw [h0] at hp; exact Option.some.inj hp
  clear hp
  have p1 : W1.cell? ⟨w.heap.size, 1, none⟩ = some (.int .i64 m) := hx1.cell 1 rfl
  have p0 : W1.cell? ⟨w.heap.size, 0, none⟩ = some (.int .i64 11) := hx1.cell 0 rfl
  have p4 : W1.cell? ⟨w.heap.size, 4, none⟩ = some (.slice (some ⟨g, o, none⟩) 1 cap) := hx1.cell 4 rfl
  have q0 : W1.cell? ⟨g, o, none⟩ = some (.int .i64 k2) := (hB1.cell (p := ⟨g, _, none⟩) hg).trans hc0
  have q1 : W1.cell? ⟨g, o + 1, none⟩ = some (.int .i64 m2) := (hB1.cell (p := ⟨g, _, none⟩) hg).trans hc1
  have q2 : W1.cell? ⟨g, o + 2, none⟩ = some (.int .u64 b2) := (hB1.cell (p := ⟨g, _, none⟩) hg).trans hc2
  have q3 : W1.cell? ⟨g, o + 3, none⟩ = some (.string t2) := (hB1.cell (p := ⟨g, _, none⟩) hg).trans hc3
  have q4 : W1.cell? ⟨g, o + 4, none⟩ = some (.slice a2 n2 cap2) := (hB1.cell (p := ⟨g, _, none⟩) hg).trans hc4
  have HB1 := Lib.hid hB1
  have HBX := Lib.hid hbx1
  have H0 := Lib.hid h0
  have HN := Lib.hid hn
  clear hB1 hbx1 hbx hb hb1 hx1 hc0 hc1 hc2 hc3 hc4 h0 hn HK
  go_enter Try.func50, Try.ntmps50
  go_upto_region 1 with fail
  rw [← hW1]
  clear hW1
  go_wp2_with fail
  refine (HX.out _ _ _ HB1.out HBX.out (by have := HN.out; omega)).mono ?_
  rintro e w4 ⟨u, F2, n5, rfl, hiv, hbx4, hn5, hst⟩
  have hpp := hst.ext _ _ H0.out
  obtain ⟨_, y, hy⟩ := hbx4.2 _ _ hpp
  have r1 : w4.cell? ⟨p', 1, none⟩ = some y := hy.cell 1 rfl
  have f1 := hy.thaw 1
  have HIV := Lib.hid hiv.form
  have HBX4 := Lib.hid hbx4
  have HST := Lib.hid hst
  have HP := Lib.hid hpp
  have HN5 := Lib.hid hn5
  clear hiv hbx4 hst hpp hy hn5 q0 q1 q2 q3 q4 p0 p1 p4 hrun
  rcases HIV.out with rfl | ⟨T, z, rfl⟩
  all_goals
    dsimp only
    go_wp2_with fail
    exact bodyPost_ret (results_tmp rfl _ _ _) rfl ⟨F2, n5, rfl, HP.out, HBX4.out.setBox HP.out _, by have := HN5.out; omega, (hs1.out.trans (HST.out.setBox HBX4.out HP.out _) (by have := hs1.out.below.size; omega))⟩

set_option maxRecDepth 100000 in
set_option maxHeartbeats 1600000 in
theorem val_11_new (m b : Int) (t : ByteArray) (hm : (Lit.int .i64 m).wf = true) {w0 : World} {x : D} {a : Option Addr} {cap g o : Nat} {k2 m2 b2 : Int} {t2 : ByteArray} {a2 : Option Addr} {n2 cap2 : Nat}
    (ha : a = some ⟨g, o, none⟩ ∧ g < w0.heap.size ∧ 1 ≤ cap ∧ cap ≤ 9223372036854775807)
    (hc0 : w0.cell? ⟨g, o, none⟩ = some (.int .i64 k2)) (hc1 : w0.cell? ⟨g, o + 1, none⟩ = some (.int .i64 m2)) (hc2 : w0.cell? ⟨g, o + 2, none⟩ = some (.int .u64 b2)) (hc3 : w0.cell? ⟨g, o + 3, none⟩ = some (.string t2)) (hc4 : w0.cell? ⟨g, o + 4, none⟩ = some (.slice a2 n2 cap2))
    (HK : ValueSays w0 (.agg #[.int .i64 k2, .int .i64 m2, .int .u64 b2, .string t2, .slice a2 n2 cap2]) x) (w : World) (M n : Nat) (F : DataW Unit) (hb : Below w0.heap.size w0 w) (hw0 : w0.heap.size ≤ M) (hbx : BoxesAt w M n F) (hn : n + 1 + x.parts ≤ 1000000) (hp : boxOf F m = none) :
    Calls Try.prog 50 #[.map (some M), .agg #[.int .i64 11, .int .i64 m, .int .u64 b, .string t, .slice a 1 cap]] w (fun e w' => ∃ p, PtrSays M n x.parts F m p w e w') := by
  obtain ⟨rfl, hg, hcp, hcm⟩ := ha
  have HX := Lib.hid (fun w n F hb hbx hn => HK w M n F hb hw0 hbx hn)
  have hMlt := Lib.hid hbx.lt
  obtain ⟨W1, hW1⟩ : ∃ W1, W1 = w.alloc (.cells #[.int .i64 11, .int .i64 m, .int .u64 b, .string t, .slice (some ⟨g, o, none⟩) 1 cap] 25) := ⟨_, rfl⟩
  have hb1 : Below w.heap.size w W1 := by rw [hW1]; exact (Below.refl _ _).alloc (Nat.le_refl _) _
  have hx1 : Row W1 w.heap.size #[.int .i64 11, .int .i64 m, .int .u64 b, .string t, .slice (some ⟨g, o, none⟩) 1 cap] 25 := by rw [hW1]; exact Row.new w _ _
  have hbx1 := hbx.later hb1
  have hB1 : Below w0.heap.size w0 W1 := hb.trans (hb1.mono hb.size)
  rcases look_box hbx1 hm with ⟨h0, hrun⟩ | ⟨p', h0, _⟩
  case inr => rw [h0] at hp; cases hp
  clear hp
  obtain ⟨w3, hrun3, hbx3, h3, hs3⟩ := store_box (hbx1.later ((Below.refl _ _).alloc (Nat.le_refl _) (.cells #[.int .i64 m, .nilIface] 131 (0, 0)))) hm h0 (by omega) (Row.new W1 #[.int .i64 m, .nilIface] 131) (by have := hMlt.out; have := hb1.size; omega)
  have hs13 := hs3 w.heap.size w (VStep.of_below (hb1.alloc hb1.size _) (Nat.le_of_lt hMlt.out)) hb1.size
  have hs23 := hs3 W1.heap.size _ (VStep.of_below (Below.refl _ _) (by have := hMlt.out; have := hb1.size; omega)) (Nat.le_refl _)
  have hx3 : Row w3 w.heap.size #[.int .i64 11, .int .i64 m, .int .u64 b, .string t, .slice (some ⟨g, o, none⟩) 1 cap] 25 := hs23.row (hx1.old _) hx1.lt (by have := hMlt.out; omega) (fun m' hm' => by have := hbx.blt hm'; omega)
  have hB3 : Below w0.heap.size w0 w3 := hb.trans (hs13.below.mono hw0)
  have p1 : W1.cell? ⟨w.heap.size, 1, none⟩ = some (.int .i64 m) := hx1.cell 1 rfl
  have p0 : W1.cell? ⟨w.heap.size, 0, none⟩ = some (.int .i64 11) := hx1.cell 0 rfl
  have p1' := old1_cell hx1.lt p1
  have p4 : w3.cell? ⟨w.heap.size, 4, none⟩ = some (.slice (some ⟨g, o, none⟩) 1 cap) := hx3.cell 4 rfl
  have q0 : w3.cell? ⟨g, o, none⟩ = some (.int .i64 k2) := (hB3.cell (p := ⟨g, _, none⟩) hg).trans hc0
  have q1 : w3.cell? ⟨g, o + 1, none⟩ = some (.int .i64 m2) := (hB3.cell (p := ⟨g, _, none⟩) hg).trans hc1
  have q2 : w3.cell? ⟨g, o + 2, none⟩ = some (.int .u64 b2) := (hB3.cell (p := ⟨g, _, none⟩) hg).trans hc2
  have q3 : w3.cell? ⟨g, o + 3, none⟩ = some (.string t2) := (hB3.cell (p := ⟨g, _, none⟩) hg).trans hc3
  have q4 : w3.cell? ⟨g, o + 4, none⟩ = some (.slice a2 n2 cap2) := (hB3.cell (p := ⟨g, _, none⟩) hg).trans hc4
  have HB1 := Lib.hid hB3
  have HBX := Lib.hid hbx3
  have H0 := Lib.hid h3
  have hs1 := Lib.hid hs13
  have HN := Lib.hid hn
  have hzz := hb1.size
  clear hB1 hB3 hbx1 hbx3 hbx hb hb1 hx1 hx3 hc0 hc1 hc2 hc3 hc4 h0 h3 hs3 hs13 hs23 hn HK
  go_enter Try.func50, Try.ntmps50
  go_upto_region 1 with fail
  rw [← hW1]
  clear hW1
  go_wp2_with fail
  refine (HX.out _ _ _ HB1.out HBX.out (by have := HN.out; omega)).mono ?_
  rintro e w4 ⟨u, F2, n5, rfl, hiv, hbx4, hn5, hst⟩
  have hpp := hst.ext _ _ H0.out
  obtain ⟨_, y, hy⟩ := hbx4.2 _ _ hpp
  have r1 : w4.cell? ⟨W1.heap.size, 1, none⟩ = some y := hy.cell 1 rfl
  have f1 := hy.thaw 1
  have HIV := Lib.hid hiv.form
  have HBX4 := Lib.hid hbx4
  have HST := Lib.hid hst
  have HP := Lib.hid hpp
  have HN5 := Lib.hid hn5
  clear hiv hbx4 hst hpp hy hn5 q0 q1 q2 q3 q4 p0 p1 p1' p4 hrun hrun3
  rcases HIV.out with rfl | ⟨T, z, rfl⟩
  all_goals
    dsimp only
    go_wp2_with fail
    exact bodyPost_ret (results_tmp rfl _ _ _) rfl ⟨_, F2, n5, rfl, HP.out, HBX4.out.setBox HP.out _, by have := HN5.out; omega, (hs1.out.trans (HST.out.setBox HBX4.out HP.out _) (by have := hs1.out.below.size; omega))⟩
end Go.Proofs.Yteplhhlgceppkab
