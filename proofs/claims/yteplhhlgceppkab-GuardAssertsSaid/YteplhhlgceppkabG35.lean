/- Contract of boxes.value, of a pair. -/
import Derived.Test.YteplhhlgceppkabG34
import Derived.Deep.RegionHeld3
namespace Go.Proofs.Yteplhhlgceppkab
open Go Go.RowKit Go.ChangeShapes Go.WideShapes

theorem IV.cells {F : DataW Unit} {d : D} {v : Value} (h : IV F d v) : v.cells = #[v] := by
  cases h <;> rfl
/-- What is said of a pair. -/
def PairSays (M n k : Nat) (F : DataW Unit) (x y : D) (w : World) (e : Ending) (w' : World) : Prop :=
  ∃ u v F1 n1, e = .returned (.iface 126 (.agg #[u, v])) ∧ IV F1 x u ∧ IV F1 y v ∧ BoxesAt w' M n1 F1 ∧ n1 ≤ n + k ∧ VStep M w.heap.size w w' F F1

set_option maxRecDepth 100000 in
set_option maxHeartbeats 3200000 in
theorem val_9 (m b : Int) (t : ByteArray) {w0 : World} {x y : D} {a : Option Addr} {cap g o : Nat} {k2 m2 b2 : Int} {t2 : ByteArray} {a2 : Option Addr} {n2 cap2 : Nat} {k3 m3 b3 : Int} {t3 : ByteArray} {a3 : Option Addr} {n3 cap3 : Nat}
    (ha : a = some ⟨g, o, none⟩ ∧ g < w0.heap.size ∧ 2 ≤ cap ∧ cap ≤ 9223372036854775807)
    (hc : w0.cell? ⟨g, o, none⟩ = some (.int .i64 k2) ∧ w0.cell? ⟨g, o + 1, none⟩ = some (.int .i64 m2) ∧ w0.cell? ⟨g, o + 2, none⟩ = some (.int .u64 b2) ∧ w0.cell? ⟨g, o + 3, none⟩ = some (.string t2) ∧ w0.cell? ⟨g, o + 4, none⟩ = some (.slice a2 n2 cap2) ∧ w0.cell? ⟨g, o + 5, none⟩ = some (.int .i64 k3) ∧ w0.cell? ⟨g, o + 5 + 1, none⟩ = some (.int .i64 m3) ∧ w0.cell? ⟨g, o + 5 + 2, none⟩ = some (.int .u64 b3) ∧ w0.cell? ⟨g, o + 5 + 3, none⟩ = some (.string t3) ∧ w0.cell? ⟨g, o + 5 + 4, none⟩ = some (.slice a3 n3 cap3))
    (HX : ValueSays w0 (.agg #[.int .i64 k2, .int .i64 m2, .int .u64 b2, .string t2, .slice a2 n2 cap2]) x) (HY : ValueSays w0 (.agg #[.int .i64 k3, .int .i64 m3, .int .u64 b3, .string t3, .slice a3 n3 cap3]) y) (w : World) (M n : Nat) (F : DataW Unit) (hb : Below w0.heap.size w0 w) (hw0 : w0.heap.size ≤ M) (hbx : BoxesAt w M n F) (hn : n + (x.parts + y.parts) ≤ 1000000) :
    Calls Try.prog 50 #[.map (some M), .agg #[.int .i64 9, .int .i64 m, .int .u64 b, .string t, .slice a 2 cap]] w (PairSays M n (x.parts + y.parts) F x y w) := by
  obtain ⟨rfl, hg, hcp, hcm⟩ := ha
  have HX1 := Lib.hid (fun w n F hb hbx hn => HX w M n F hb hw0 hbx hn)
  have HY1 := Lib.hid (fun w n F hb hbx hn => HY w M n F hb hw0 hbx hn)
  have hMlt := Lib.hid hbx.lt
  have HQ := Lib.hid (show ∀ W, Below w0.heap.size w0 W → W.cell? ⟨g, o, none⟩ = some (.int .i64 k2) ∧ W.cell? ⟨g, o + 1, none⟩ = some (.int .i64 m2) ∧ W.cell? ⟨g, o + 2, none⟩ = some (.int .u64 b2) ∧ W.cell? ⟨g, o + 3, none⟩ = some (.string t2) ∧ W.cell? ⟨g, o + 4, none⟩ = some (.slice a2 n2 cap2) ∧ W.cell? ⟨g, o + 5, none⟩ = some (.int .i64 k3) ∧ W.cell? ⟨g, o + 5 + 1, none⟩ = some (.int .i64 m3) ∧ W.cell? ⟨g, o + 5 + 2, none⟩ = some (.int .u64 b3) ∧ W.cell? ⟨g, o + 5 + 3, none⟩ = some (.string t3) ∧ W.cell? ⟨g, o + 5 + 4, none⟩ = some (.slice a3 n3 cap3) from fun W hW => by
    obtain ⟨c0, c1, c2, c3, c4, c5, c6, c7, c8, c9⟩ := hc
    exact ⟨(hW.cell (p := ⟨g, _, none⟩) hg).trans c0, (hW.cell (p := ⟨g, _, none⟩) hg).trans c1, (hW.cell (p := ⟨g, _, none⟩) hg).trans c2, (hW.cell (p := ⟨g, _, none⟩) hg).trans c3, (hW.cell (p := ⟨g, _, none⟩) hg).trans c4, (hW.cell (p := ⟨g, _, none⟩) hg).trans c5, (hW.cell (p := ⟨g, _, none⟩) hg).trans c6, (hW.cell (p := ⟨g, _, none⟩) hg).trans c7, (hW.cell (p := ⟨g, _, none⟩) hg).trans c8, (hW.cell (p := ⟨g, _, none⟩) hg).trans c9⟩)
  obtain ⟨W1, hW1⟩ : ∃ W1, W1 = w.alloc (.cells #[.int .i64 9, .int .i64 m, .int .u64 b, .string t, .slice (some ⟨g, o, none⟩) 2 cap] 25) := ⟨_, rfl⟩
  have hb1 : Below w.heap.size w W1 := by rw [hW1]; exact (Below.refl _ _).alloc (Nat.le_refl _) _
  have hx1 : Row W1 w.heap.size #[.int .i64 9, .int .i64 m, .int .u64 b, .string t, .slice (some ⟨g, o, none⟩) 2 cap] 25 := by rw [hW1]; exact Row.new w _ _
  have hxd : Row W1.drew w.heap.size #[.int .i64 9, .int .i64 m, .int .u64 b, .string t, .slice (some ⟨g, o, none⟩) 2 cap] 25 := hx1
  have hbd : Below w.heap.size w W1.drew := hb1.drew
  have hbxd := Lib.hid (hbx.later hbd)
  have hBd := Lib.hid (hb.trans (hbd.mono hb.size))
  have hsd := Lib.hid (show VStep M w.heap.size w W1.drew F F from VStep.of_below hbd (Nat.le_of_lt hMlt.out))
  have hnob := Lib.hid (show ∀ m', boxOf F m' ≠ some w.heap.size from fun m' hm' => by have := hbx.blt hm'; omega)
  have p0 : W1.cell? ⟨w.heap.size, 0, none⟩ = some (.int .i64 9) := hx1.cell 0 rfl
  have hSd : W1.drew.cell? ⟨w.heap.size, 4, none⟩ = some (.slice (some ⟨g, o, none⟩) 2 cap) ∧ W1.drew.cell? ⟨g, o, none⟩ = some (.int .i64 k2) ∧ W1.drew.cell? ⟨g, o + 1, none⟩ = some (.int .i64 m2) ∧ W1.drew.cell? ⟨g, o + 2, none⟩ = some (.int .u64 b2) ∧ W1.drew.cell? ⟨g, o + 3, none⟩ = some (.string t2) ∧ W1.drew.cell? ⟨g, o + 4, none⟩ = some (.slice a2 n2 cap2) ∧ W1.drew.cell? ⟨g, o + 5, none⟩ = some (.int .i64 k3) ∧ W1.drew.cell? ⟨g, o + 5 + 1, none⟩ = some (.int .i64 m3) ∧ W1.drew.cell? ⟨g, o + 5 + 2, none⟩ = some (.int .u64 b3) ∧ W1.drew.cell? ⟨g, o + 5 + 3, none⟩ = some (.string t3) ∧ W1.drew.cell? ⟨g, o + 5 + 4, none⟩ = some (.slice a3 n3 cap3) := ⟨hxd.cell 4 rfl, HQ.out _ hBd.out⟩
  have hlt1 := hx1.lt
  have HN := Lib.hid hn
  clear HX HY hc hbx hb hb1 hx1 hbd hn
  go_enter Try.func50, Try.ntmps50
  go_upto_region 1 with fail
  rw [← hW1]
  clear hW1
  go_wp2_with fail
  go_region_held3 (fun w' => w'.cell? ⟨w.heap.size, 4, none⟩ = some (.slice (some ⟨g, o, none⟩) 2 cap) ∧ w'.cell? ⟨g, o, none⟩ = some (.int .i64 k2) ∧ w'.cell? ⟨g, o + 1, none⟩ = some (.int .i64 m2) ∧ w'.cell? ⟨g, o + 2, none⟩ = some (.int .u64 b2) ∧ w'.cell? ⟨g, o + 3, none⟩ = some (.string t2) ∧ w'.cell? ⟨g, o + 4, none⟩ = some (.slice a2 n2 cap2) ∧ w'.cell? ⟨g, o + 5, none⟩ = some (.int .i64 k3) ∧ w'.cell? ⟨g, o + 5 + 1, none⟩ = some (.int .i64 m3) ∧ w'.cell? ⟨g, o + 5 + 2, none⟩ = some (.int .u64 b3) ∧ w'.cell? ⟨g, o + 5 + 3, none⟩ = some (.string t3) ∧ w'.cell? ⟨g, o + 5 + 4, none⟩ = some (.slice a3 n3 cap3)) (first | assumption | fail) ((go_at_call 50; first
    | ((with_reducible refine (HX1.out _ _ _ hBd.out hbxd.out (by have := HN.out; omega)).mono ?_); rintro e w4 ⟨u, F2, n5, rfl, hiv, hbx4, hn5, hst⟩; have hu := hiv.cells; unfold Value.cells at hu; have hx4 := hst.row hxd hxd.lt (by have := hMlt.out; omega) hnob.out; have hB4 := Lib.hid (hBd.out.trans (hst.below.mono hw0)); have hS4 : w4.cell? ⟨w.heap.size, 4, none⟩ = some (.slice (some ⟨g, o, none⟩) 2 cap) ∧ w4.cell? ⟨g, o, none⟩ = some (.int .i64 k2) ∧ w4.cell? ⟨g, o + 1, none⟩ = some (.int .i64 m2) ∧ w4.cell? ⟨g, o + 2, none⟩ = some (.int .u64 b2) ∧ w4.cell? ⟨g, o + 3, none⟩ = some (.string t2) ∧ w4.cell? ⟨g, o + 4, none⟩ = some (.slice a2 n2 cap2) ∧ w4.cell? ⟨g, o + 5, none⟩ = some (.int .i64 k3) ∧ w4.cell? ⟨g, o + 5 + 1, none⟩ = some (.int .i64 m3) ∧ w4.cell? ⟨g, o + 5 + 2, none⟩ = some (.int .u64 b3) ∧ w4.cell? ⟨g, o + 5 + 3, none⟩ = some (.string t3) ∧ w4.cell? ⟨g, o + 5 + 4, none⟩ = some (.slice a3 n3 cap3) := ⟨hx4.cell 4 rfl, HQ.out _ hB4.out⟩; have HIV := Lib.hid hiv; have HBX4 := Lib.hid hbx4; have HN5 := Lib.hid hn5; have HST := Lib.hid hst; clear hiv hbx4 hn5 hst)
    | ((with_reducible refine (HY1.out _ _ _ hB4.out HBX4.out (by have := HN.out; have := HN5.out; omega)).mono ?_); rintro e w5 ⟨v, F3, n6, rfl, hiv5, hbx5, hn6, hst5⟩; have hv := hiv5.cells; unfold Value.cells at hv; have hx5 := hst5.row hx4 hx4.lt (by have := hMlt.out; omega) (fun m' hm' => (HST.out.new m' _ hm').elim (hnob.out m') (fun h1 => Nat.not_le_of_lt hxd.lt h1)); have hB5 := Lib.hid (hB4.out.trans (hst5.below.mono hw0)); have hS5 : w5.cell? ⟨w.heap.size, 4, none⟩ = some (.slice (some ⟨g, o, none⟩) 2 cap) ∧ w5.cell? ⟨g, o, none⟩ = some (.int .i64 k2) ∧ w5.cell? ⟨g, o + 1, none⟩ = some (.int .i64 m2) ∧ w5.cell? ⟨g, o + 2, none⟩ = some (.int .u64 b2) ∧ w5.cell? ⟨g, o + 3, none⟩ = some (.string t2) ∧ w5.cell? ⟨g, o + 4, none⟩ = some (.slice a2 n2 cap2) ∧ w5.cell? ⟨g, o + 5, none⟩ = some (.int .i64 k3) ∧ w5.cell? ⟨g, o + 5 + 1, none⟩ = some (.int .i64 m3) ∧ w5.cell? ⟨g, o + 5 + 2, none⟩ = some (.int .u64 b3) ∧ w5.cell? ⟨g, o + 5 + 3, none⟩ = some (.string t3) ∧ w5.cell? ⟨g, o + 5 + 4, none⟩ = some (.slice a3 n3 cap3) := ⟨hx5.cell 4 rfl, HQ.out _ hB5.out⟩; have HIV5 := Lib.hid hiv5; have HBX5 := Lib.hid hbx5; have HN6 := Lib.hid hn6; have HST5 := Lib.hid hst5; clear hiv5 hbx5 hn6 hst5)))
  clear hu hv
  go_wp2_with fail
  exact bodyPost_ret (results_tmp rfl _ _ _) rfl ⟨u, v, F3, n6, rfl, HIV.out.ext HST5.out.ext, HIV5.out, HBX5.out, by have := HN5.out; have := HN6.out; omega, (hsd.out.trans HST.out (Nat.le_of_lt hxd.lt)).trans HST5.out (Nat.le_of_lt hx4.lt)⟩

set_option maxRecDepth 100000 in
/-- Whatever the Datum. -/
theorem value_any {w0 : World} {v : Value} {d : D} (h : Rep w0 v d) : Right d → ValueSays w0 v d := by
  induction h with
  | mk k m b t a cap g o c kids hw ha hc hk ih =>
    intro hR w M n F hb hw0 hbx hn
    obtain ⟨hok, hks⟩ := hR.inv
    obtain ⟨h0, h13, h9, h11, hno, ht, hmm, hbb, htt, h6, hpos⟩ := hok
    have hM := Nat.le_of_lt hbx.lt
    have hp : (D.mk k m b t kids).parts = 1 + D.partsL kids := by simp [D.parts]
    have plain : ∀ (u : Value) (a' : Value) , (Calls Try.prog 50 #[.map (some M), a'] w fun x w' => x = .returned u ∧ Below w.heap.size w w') → IV F (D.mk k m b t kids) u →
        Calls Try.prog 50 #[.map (some M), a'] w fun x w' => ∃ u F1 n1, x = .returned u ∧ IV F1 (D.mk k m b t kids) u ∧ BoxesAt w' M n1 F1 ∧ n1 ≤ n + (D.mk k m b t kids).parts ∧ VStep M w.heap.size w w' F F1 := fun u a' hcall hiv =>
      hcall.mono fun x w' ⟨hx, hbw⟩ => ⟨u, F, n, hx, hiv, hbx.later hbw, Nat.le_add_right _ _, VStep.of_below hbw hM⟩
    have hkid : ∀ i x, kids[i]? = some x → ValueSays w0 (five c i) x := fun i x hx => ih i x hx (hks x (List.mem_of_getElem? hx))
    have hcase : k = 0 ∨ k = 1 ∨ k = 2 ∨ k = 3 ∨ k = 4 ∨ k = 5 ∨ k = 6 ∨ k = 7 ∨ k = 8 ∨ k = 9 ∨ k = 10 ∨ k = 11 ∨ k = 12 ∨ k = 13 := by omega
    rcases hcase with rfl | rfl | rfl | rfl | rfl | rfl | rfl | rfl | rfl | rfl | rfl | rfl | rfl | rfl
    · exact plain _ _ (val_0 _ _ _ _ _ _) (.nil _ _ _ _)
    · exact plain _ _ (val_1 _ _ _ _ _ _) (.int _ _ _ _)
    · exact plain _ _ (val_2 _ _ _ _ _ _) (.key _ _ _ _)
    · exact plain _ _ (val_3 _ _ _ _ _ _) (.float _ _ _ _)
    · exact plain _ _ (val_4 _ _ _ _ _ _) (.text _ _ _ _)
    · exact plain _ _ (val_5 _ _ _ _ _ _) (.name _ _ _ _)
    · exact plain _ _ (val_6 _ _ _ _ _ _) (.bool _ _ _ _)
    · refine (val_7 m b t (.slice a kids.length cap) M w).mono fun x w' ⟨⟨a', c', hx⟩, hbw⟩ => ?_
      exact ⟨_, F, n, hx, .bytes _ _ _ _ _ _, hbx.later hbw, Nat.le_add_right _ _, VStep.of_below hbw hM⟩
    · refine (val_8 m b t ha hc hk hkid w M n F hb hw0 hbx (by omega)).mono fun x w' hh => ?_
      obtain ⟨a', c', F1, n1, hx, hbx1, hn1, hst⟩ := hh
      exact ⟨_, F1, n1, hx, .list _ _ _ _ _ _, hbx1, by omega, hst⟩
    · have hl : kids.length = 2 := h9 rfl
      obtain ⟨x, y, rfl⟩ : ∃ x y, kids = [x, y] := by
        match kids, hl with
        | [x, y], _ => exact ⟨x, y, rfl⟩
      have hp2 : (D.mk 9 m b t [x, y]).parts = 1 + (x.parts + y.parts) := by simp [D.parts, D.partsL]
      obtain ⟨k2, m2, b2, t2, a2, cap2, g2, o2, c2, kids2, e2, _⟩ := (hk 0 x rfl).inv
      obtain ⟨k3, m3, b3, t3, a3, cap3, g3, o3, c3, kids3, e3, _⟩ := (hk 1 y rfl).inv
      obtain ⟨f0, f1, f2, f3, f4⟩ := five_inv e2
      obtain ⟨r0, r1, r2, r3, r4⟩ := five_inv e3
      obtain ⟨q0, q1, q2, q3, q4⟩ := hc 0 (by simp)
      obtain ⟨s0, s1, s2, s3, s4⟩ := hc 1 (by simp)
      rw [f0] at q0; rw [f1] at q1; rw [f2] at q2; rw [f3] at q3; rw [f4] at q4
      rw [r0] at s0; rw [r1] at s1; rw [r2] at s2; rw [r3] at s3; rw [r4] at s4
      have hX := hkid 0 x rfl
      have hY := hkid 1 y rfl
      rw [e2] at hX
      rw [e3] at hY
      refine (val_9 m b t (ha (by simp)) ⟨q0, q1, q2, q3, q4, s0, s1, s2, s3, s4⟩ hX hY w M n F hb hw0 hbx (by omega)).mono fun e w' hh => ?_
      obtain ⟨u, v, F1, n1, hx, hiu, hiv, hbx1, hn1, hst⟩ := hh
      exact ⟨_, F1, n1, hx, .pair _ _ _ _ _ _ _ hiu hiv, hbx1, by omega, hst⟩
    · exact plain _ _ (val_10 _ _ _ _ _ _) (.err _ _ _ _)
    · have hl : kids.length = 1 := h11 rfl
      obtain ⟨x, rfl⟩ : ∃ x, kids = [x] := by
        match kids, hl with
        | [x], _ => exact ⟨x, rfl⟩
      have hp2 : (D.mk 11 m b t [x]).parts = 1 + x.parts := by simp [D.parts, D.partsL]
      obtain ⟨k2, m2, b2, t2, a2, cap2, g2, o2, c2, kids2, e2, _⟩ := (hk 0 x rfl).inv
      obtain ⟨f0, f1, f2, f3, f4⟩ := five_inv e2
      obtain ⟨q0, q1, q2, q3, q4⟩ := hc 0 (by simp)
      rw [f0] at q0; rw [f1] at q1; rw [f2] at q2; rw [f3] at q3; rw [f4] at q4
      have hX := hkid 0 x rfl
      rw [e2] at hX
      have fin : ∀ (p : Nat) (e : Ending) (w' : World), PtrSays M n x.parts F m p w e w' → ∃ u F1 n1, e = .returned u ∧ IV F1 (D.mk 11 m b t [x]) u ∧ BoxesAt w' M n1 F1 ∧ n1 ≤ n + (D.mk 11 m b t [x]).parts ∧ VStep M w.heap.size w w' F F1 := fun p e w' hh => by
        obtain ⟨F1, n1, hx, hbo, hbx1, hn1, hst⟩ := hh
        exact ⟨_, F1, n1, hx, .ptr _ _ _ _ _ hbo, hbx1, by omega, hst⟩
      cases hbo : boxOf F m with
      | none =>
        refine (val_11_new m b t hw.2.1 (ha (by simp)) (by simpa using q0) (by simpa using q1) (by simpa using q2) (by simpa using q3) (by simpa using q4) hX w M n F hb hw0 hbx (by omega) hbo).mono fun e w' hh => ?_
        obtain ⟨p, hh⟩ := hh
        exact fin p e w' hh
      | some p => exact (val_11_old m b t hw.2.1 (ha (by simp)) (by simpa using q0) (by simpa using q1) (by simpa using q2) (by simpa using q3) (by simpa using q4) hX w M n F hb hw0 hbx (by omega) p hbo).mono (fin p)
    · exact plain _ _ (val_12 _ _ _ _ _ _) (.noptr _ _ _ _)
    · exact plain _ _ (val_13 _ _ _ _ _ _) (.unit _ _ _ _)
end Go.Proofs.Yteplhhlgceppkab
