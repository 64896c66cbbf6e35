/- Guard: contracts, joined texts (G35, G36, G55, G37, G50). -/
import Derived.Deep.RegionHeld3
import Derived.Stop.Asserts
import Derived.LaidEql
import Derived.Laws.StructEq
import Derived.Test.YtecdniimikfbhaaGreatDoorM02
import Derived.Test.YtecdniimikfbhaaGreatDoorM05
import Derived.Test.YtecdniimikfbhaaGreatDoorM06

/- Contract of boxes.value, of a pair. -/
namespace Go.Proofs.YtecdniimikfbhaaGreatDoor
open Go Go.RowKit Go.ChangeShapes Go.WideShapes

theorem IV.cells {F : DataW Unit} {d : D} {v : Value} (h : IV F d v) : v.cells = #[v] := by
  cases h <;> rfl
/-- What is said of a pair. -/
def PairSays (M n k : Nat) (F : DataW Unit) (x y : D) (w : World) (e : Ending) (w' : World) : Prop :=
  ∃ u v F1 n1, e = .returned (.iface 126 (.agg #[u, v])) ∧ IV F1 x u ∧ IV F1 y v ∧ BoxesAt w' M n1 F1 ∧ n1 ≤ n + k ∧ VStep M w.heap.size w w' F F1

set_option maxRecDepth 100000 in
set_option maxHeartbeats 3200000 in
theorem val_9 (m b : Int) (t : ByteArray) {w0 : World} {x y : D} {a : Option Addr} {cap g o : Nat} {k2 m2 b2 : Int} {t2 : ByteArray} {a2 : Option Addr} {n2 cap2 : Nat} {k3 m3 b3 : Int} {t3 : ByteArray} {a3 : Option Addr} {n3 cap3 : Nat}
    (ha : a = some ⟨g, o, none⟩ ∧ g < w0.heap.size ∧ 2 ≤ cap ∧ cap ≤ 9223372036854775807)
    (hc : w0.cell? ⟨g, o, none⟩ = some (.int .i64 k2) ∧ w0.cell? ⟨g, o + 1, none⟩ = some (.int .i64 m2) ∧ w0.cell? ⟨g, o + 2, none⟩ = some (.int .u64 b2) ∧ w0.cell? ⟨g, o + 3, none⟩ = some (.string t2) ∧ w0.cell? ⟨g, o + 4, none⟩ = some (.slice a2 n2 cap2) ∧ w0.cell? ⟨g, o + 5, none⟩ = some (.int .i64 k3) ∧ w0.cell? ⟨g, o + 5 + 1, none⟩ = some (.int .i64 m3) ∧ w0.cell? ⟨g, o + 5 + 2, none⟩ = some (.int .u64 b3) ∧ w0.cell? ⟨g, o + 5 + 3, none⟩ = some (.string t3) ∧ w0.cell? ⟨g, o + 5 + 4, none⟩ = some (.slice a3 n3 cap3))
    (HX : ValueSays w0 (.agg #[.int .i64 k2, .int .i64 m2, .int .u64 b2, .string t2, .slice a2 n2 cap2]) x) (HY : ValueSays w0 (.agg #[.int .i64 k3, .int .i64 m3, .int .u64 b3, .string t3, .slice a3 n3 cap3]) y) (w : World) (M n : Nat) (F : DataW Unit) (hb : Below w0.heap.size w0 w) (hw0 : w0.heap.size ≤ M) (hbx : BoxesAt w M n F) (hn : n + (x.parts + y.parts) ≤ 1000000) :
    Calls Tryz.prog 68 #[.map (some M), .agg #[.int .i64 9, .int .i64 m, .int .u64 b, .string t, .slice a 2 cap]] w (PairSays M n (x.parts + y.parts) F x y w) := by
  obtain ⟨rfl, hg, hcp, hcm⟩ := ha
  have HX1 := Lib.hid (fun w n F hb hbx hn => HX w M n F hb hw0 hbx hn)
  have HY1 := Lib.hid (fun w n F hb hbx hn => HY w M n F hb hw0 hbx hn)
  have hMlt := Lib.hid hbx.lt
  have HQ := Lib.hid (show ∀ W, Below w0.heap.size w0 W → W.cell? ⟨g, o, none⟩ = some (.int .i64 k2) ∧ W.cell? ⟨g, o + 1, none⟩ = some (.int .i64 m2) ∧ W.cell? ⟨g, o + 2, none⟩ = some (.int .u64 b2) ∧ W.cell? ⟨g, o + 3, none⟩ = some (.string t2) ∧ W.cell? ⟨g, o + 4, none⟩ = some (.slice a2 n2 cap2) ∧ W.cell? ⟨g, o + 5, none⟩ = some (.int .i64 k3) ∧ W.cell? ⟨g, o + 5 + 1, none⟩ = some (.int .i64 m3) ∧ W.cell? ⟨g, o + 5 + 2, none⟩ = some (.int .u64 b3) ∧ W.cell? ⟨g, o + 5 + 3, none⟩ = some (.string t3) ∧ W.cell? ⟨g, o + 5 + 4, none⟩ = some (.slice a3 n3 cap3) from fun W hW => by
    obtain ⟨c0, c1, c2, c3, c4, c5, c6, c7, c8, c9⟩ := hc
    exact ⟨(hW.cell (p := ⟨g, _, none⟩) hg).trans c0, (hW.cell (p := ⟨g, _, none⟩) hg).trans c1, (hW.cell (p := ⟨g, _, none⟩) hg).trans c2, (hW.cell (p := ⟨g, _, none⟩) hg).trans c3, (hW.cell (p := ⟨g, _, none⟩) hg).trans c4, (hW.cell (p := ⟨g, _, none⟩) hg).trans c5, (hW.cell (p := ⟨g, _, none⟩) hg).trans c6, (hW.cell (p := ⟨g, _, none⟩) hg).trans c7, (hW.cell (p := ⟨g, _, none⟩) hg).trans c8, (hW.cell (p := ⟨g, _, none⟩) hg).trans c9⟩)
  obtain ⟨W1, hW1⟩ : ∃ W1, W1 = w.alloc (.cells #[.int .i64 9, .int .i64 m, .int .u64 b, .string t, .slice (some ⟨g, o, none⟩) 2 cap] 25) := ⟨_, rfl⟩
  have hb1 : Below w.heap.size w W1 := by rw [hW1]; exact (Below.refl _ _).alloc (Nat.le_refl _) _
  have hx1 : Row W1 w.heap.size #[.int .i64 9, .int .i64 m, .int .u64 b, .string t, .slice (some ⟨g, o, none⟩) 2 cap] 25 := by rw [hW1]; exact Row.new w _ _
  have hxd : Row W1.drew w.heap.size #[.int .i64 9, .int .i64 m, .int .u64 b, .string t, .slice (some ⟨g, o, none⟩) 2 cap] 25 := hx1
  have hbd : Below w.heap.size w W1.drew := hb1.drew
  have hbxd := Lib.hid (hbx.later hbd)
  have hBd := Lib.hid (hb.trans (hbd.mono hb.size))
  have hsd := Lib.hid (show VStep M w.heap.size w W1.drew F F from VStep.of_below hbd (Nat.le_of_lt hMlt.out))
  have hnob := Lib.hid (show ∀ m', boxOf F m' ≠ some w.heap.size from fun m' hm' => by have := hbx.blt hm'; omega)
  have p0 : W1.cell? ⟨w.heap.size, 0, none⟩ = some (.int .i64 9) := hx1.cell 0 rfl
  have hSd : W1.drew.cell? ⟨w.heap.size, 4, none⟩ = some (.slice (some ⟨g, o, none⟩) 2 cap) ∧ W1.drew.cell? ⟨g, o, none⟩ = some (.int .i64 k2) ∧ W1.drew.cell? ⟨g, o + 1, none⟩ = some (.int .i64 m2) ∧ W1.drew.cell? ⟨g, o + 2, none⟩ = some (.int .u64 b2) ∧ W1.drew.cell? ⟨g, o + 3, none⟩ = some (.string t2) ∧ W1.drew.cell? ⟨g, o + 4, none⟩ = some (.slice a2 n2 cap2) ∧ W1.drew.cell? ⟨g, o + 5, none⟩ = some (.int .i64 k3) ∧ W1.drew.cell? ⟨g, o + 5 + 1, none⟩ = some (.int .i64 m3) ∧ W1.drew.cell? ⟨g, o + 5 + 2, none⟩ = some (.int .u64 b3) ∧ W1.drew.cell? ⟨g, o + 5 + 3, none⟩ = some (.string t3) ∧ W1.drew.cell? ⟨g, o + 5 + 4, none⟩ = some (.slice a3 n3 cap3) := ⟨hxd.cell 4 rfl, HQ.out _ hBd.out⟩
  have hlt1 := hx1.lt
  have HN := Lib.hid hn
  clear HX HY hc hbx hb hb1 hx1 hbd hn
  go_enter Tryz.func68, Tryz.ntmps68
  go_upto_region 1 with fail
  rw [← hW1]
  clear hW1
  go_wp2_with fail
  go_region_held3 (fun w' => w'.cell? ⟨w.heap.size, 4, none⟩ = some (.slice (some ⟨g, o, none⟩) 2 cap) ∧ w'.cell? ⟨g, o, none⟩ = some (.int .i64 k2) ∧ w'.cell? ⟨g, o + 1, none⟩ = some (.int .i64 m2) ∧ w'.cell? ⟨g, o + 2, none⟩ = some (.int .u64 b2) ∧ w'.cell? ⟨g, o + 3, none⟩ = some (.string t2) ∧ w'.cell? ⟨g, o + 4, none⟩ = some (.slice a2 n2 cap2) ∧ w'.cell? ⟨g, o + 5, none⟩ = some (.int .i64 k3) ∧ w'.cell? ⟨g, o + 5 + 1, none⟩ = some (.int .i64 m3) ∧ w'.cell? ⟨g, o + 5 + 2, none⟩ = some (.int .u64 b3) ∧ w'.cell? ⟨g, o + 5 + 3, none⟩ = some (.string t3) ∧ w'.cell? ⟨g, o + 5 + 4, none⟩ = some (.slice a3 n3 cap3)) (first | assumption | fail) ((go_at_call 68; first
    | ((with_reducible refine (HX1.out _ _ _ hBd.out hbxd.out (by have := HN.out; omega)).mono ?_); rintro e w4 ⟨u, F2, n5, rfl, hiv, hbx4, hn5, hst⟩; have hu := hiv.cells; unfold Value.cells at hu; have hx4 := hst.row hxd hxd.lt (by have := hMlt.out; omega) hnob.out; have hB4 := Lib.hid (hBd.out.trans (hst.below.mono hw0)); have hS4 : w4.cell? ⟨w.heap.size, 4, none⟩ = some (.slice (some ⟨g, o, none⟩) 2 cap) ∧ w4.cell? ⟨g, o, none⟩ = some (.int .i64 k2) ∧ w4.cell? ⟨g, o + 1, none⟩ = some (.int .i64 m2) ∧ w4.cell? ⟨g, o + 2, none⟩ = some (.int .u64 b2) ∧ w4.cell? ⟨g, o + 3, none⟩ = some (.string t2) ∧ w4.cell? ⟨g, o + 4, none⟩ = some (.slice a2 n2 cap2) ∧ w4.cell? ⟨g, o + 5, none⟩ = some (.int .i64 k3) ∧ w4.cell? ⟨g, o + 5 + 1, none⟩ = some (.int .i64 m3) ∧ w4.cell? ⟨g, o + 5 + 2, none⟩ = some (.int .u64 b3) ∧ w4.cell? ⟨g, o + 5 + 3, none⟩ = some (.string t3) ∧ w4.cell? ⟨g, o + 5 + 4, none⟩ = some (.slice a3 n3 cap3) := ⟨hx4.cell 4 rfl, HQ.out _ hB4.out⟩; have HIV := Lib.hid hiv; have HBX4 := Lib.hid hbx4; have HN5 := Lib.hid hn5; have HST := Lib.hid hst; clear hiv hbx4 hn5 hst)
    | ((with_reducible refine (HY1.out _ _ _ hB4.out HBX4.out (by have := HN.out; have := HN5.out; omega)).mono ?_); rintro e w5 ⟨v, F3, n6, rfl, hiv5, hbx5, hn6, hst5⟩; have hv := hiv5.cells; unfold Value.cells at hv; have hx5 := hst5.row hx4 hx4.lt (by have := hMlt.out; omega) (fun m' hm' => (HST.out.new m' _ hm').elim (hnob.out m') (fun h1 => Nat.not_le_of_lt hxd.lt h1)); have hB5 := Lib.hid (hB4.out.trans (hst5.below.mono hw0)); have hS5 : w5.cell? ⟨w.heap.size, 4, none⟩ = some (.slice (some ⟨g, o, none⟩) 2 cap) ∧ w5.cell? ⟨g, o, none⟩ = some (.int .i64 k2) ∧ w5.cell? ⟨g, o + 1, none⟩ = some (.int .i64 m2) ∧ w5.cell? ⟨g, o + 2, none⟩ = some (.int .u64 b2) ∧ w5.cell? ⟨g, o + 3, none⟩ = some (.string t2) ∧ w5.cell? ⟨g, o + 4, none⟩ = some (.slice a2 n2 cap2) ∧ w5.cell? ⟨g, o + 5, none⟩ = some (.int .i64 k3) ∧ w5.cell? ⟨g, o + 5 + 1, none⟩ = some (.int .i64 m3) ∧ w5.cell? ⟨g, o + 5 + 2, none⟩ = some (.int .u64 b3) ∧ w5.cell? ⟨g, o + 5 + 3, none⟩ = some (.string t3) ∧ w5.cell? ⟨g, o + 5 + 4, none⟩ = some (.slice a3 n3 cap3) := ⟨hx5.cell 4 rfl, HQ.out _ hB5.out⟩; have HIV5 := Lib.hid hiv5; have HBX5 := Lib.hid hbx5; have HN6 := Lib.hid hn6; have HST5 := Lib.hid hst5; clear hiv5 hbx5 hn6 hst5)))
  clear hu hv
  go_wp2_with fail
  exact bodyPost_ret (results_tmp rfl _ _ _) rfl ⟨u, v, F3, n6, rfl, HIV.out.ext HST5.out.ext, HIV5.out, HBX5.out, by have := HN5.out; have := HN6.out; omega, (hsd.out.trans HST.out (Nat.le_of_lt hxd.lt)).trans HST5.out (Nat.le_of_lt hx4.lt)⟩

set_option maxRecDepth 100000 in
/-- Whatever the Datum. -/
theorem value_any {w0 : World} {v : Value} {d : D} (h : Rep w0 v d) : Right d → ValueSays w0 v d := by
  induction h with
  | mk k m b t a cap g o c kids hw ha hc hk ih =>
    intro hR w M n F hb hw0 hbx hn
    obtain ⟨hok, hks⟩ := hR.inv
    obtain ⟨h0, h13, h9, h11, hno, ht, hmm, hbb, htt, h6, hpos⟩ := hok
    have hM := Nat.le_of_lt hbx.lt
    have hp : (D.mk k m b t kids).parts = 1 + D.partsL kids := by simp [D.parts]
    have plain : ∀ (u : Value) (a' : Value) , (Calls Tryz.prog 68 #[.map (some M), a'] w fun x w' => x = .returned u ∧ Below w.heap.size w w') → IV F (D.mk k m b t kids) u →
        Calls Tryz.prog 68 #[.map (some M), a'] w fun x w' => ∃ u F1 n1, x = .returned u ∧ IV F1 (D.mk k m b t kids) u ∧ BoxesAt w' M n1 F1 ∧ n1 ≤ n + (D.mk k m b t kids).parts ∧ VStep M w.heap.size w w' F F1 := fun u a' hcall hiv =>
      hcall.mono fun x w' ⟨hx, hbw⟩ => ⟨u, F, n, hx, hiv, hbx.later hbw, Nat.le_add_right _ _, VStep.of_below hbw hM⟩
    have hkid : ∀ i x, kids[i]? = some x → ValueSays w0 (five c i) x := fun i x hx => ih i x hx (hks x (List.mem_of_getElem? hx))
    have hcase : k = 0 ∨ k = 1 ∨ k = 2 ∨ k = 3 ∨ k = 4 ∨ k = 5 ∨ k = 6 ∨ k = 7 ∨ k = 8 ∨ k = 9 ∨ k = 10 ∨ k = 11 ∨ k = 12 ∨ k = 13 := by omega
    rcases hcase with rfl | rfl | rfl | rfl | rfl | rfl | rfl | rfl | rfl | rfl | rfl | rfl | rfl | rfl
    · exact plain _ _ (val_0 _ _ _ _ _ _) (.nil _ _ _ _)
    · exact plain _ _ (val_1 _ _ _ _ _ _) (.int _ _ _ _)
    · exact plain _ _ (val_2 _ _ _ _ _ _) (.key _ _ _ _)
    · exact plain _ _ (val_3 _ _ _ _ _ _) (.float _ _ _ _)
    · exact plain _ _ (val_4 _ _ _ _ _ _) (.text _ _ _ _)
    · exact plain _ _ (val_5 _ _ _ _ _ _) (.name _ _ _ _)
    · exact plain _ _ (val_6 _ _ _ _ _ _) (.bool _ _ _ _)
    · refine (val_7 m b t (.slice a kids.length cap) M w).mono fun x w' ⟨⟨a', c', hx⟩, hbw⟩ => ?_
      exact ⟨_, F, n, hx, .bytes _ _ _ _ _ _, hbx.later hbw, Nat.le_add_right _ _, VStep.of_below hbw hM⟩
    · refine (val_8 m b t ha hc hk hkid w M n F hb hw0 hbx (by omega)).mono fun x w' hh => ?_
      obtain ⟨a', c', F1, n1, hx, hbx1, hn1, hst⟩ := hh
      exact ⟨_, F1, n1, hx, .list _ _ _ _ _ _, hbx1, by omega, hst⟩
    · have hl : kids.length = 2 := h9 rfl
      obtain ⟨x, y, rfl⟩ : ∃ x y, kids = [x, y] := by
        match kids, hl with
        | [x, y], _ => exact ⟨x, y, rfl⟩
      have hp2 : (D.mk 9 m b t [x, y]).parts = 1 + (x.parts + y.parts) := by simp [D.parts, D.partsL]
      obtain ⟨k2, m2, b2, t2, a2, cap2, g2, o2, c2, kids2, e2, _⟩ := (hk 0 x rfl).inv
      obtain ⟨k3, m3, b3, t3, a3, cap3, g3, o3, c3, kids3, e3, _⟩ := (hk 1 y rfl).inv
      obtain ⟨f0, f1, f2, f3, f4⟩ := five_inv e2
      obtain ⟨r0, r1, r2, r3, r4⟩ := five_inv e3
      obtain ⟨q0, q1, q2, q3, q4⟩ := hc 0 (by simp)
      obtain ⟨s0, s1, s2, s3, s4⟩ := hc 1 (by simp)
      rw [f0] at q0; rw [f1] at q1; rw [f2] at q2; rw [f3] at q3; rw [f4] at q4
      rw [r0] at s0; rw [r1] at s1; rw [r2] at s2; rw [r3] at s3; rw [r4] at s4
      have hX := hkid 0 x rfl
      have hY := hkid 1 y rfl
      rw [e2] at hX
      rw [e3] at hY
      refine (val_9 m b t (ha (by simp)) ⟨q0, q1, q2, q3, q4, s0, s1, s2, s3, s4⟩ hX hY w M n F hb hw0 hbx (by omega)).mono fun e w' hh => ?_
      obtain ⟨u, v, F1, n1, hx, hiu, hiv, hbx1, hn1, hst⟩ := hh
      exact ⟨_, F1, n1, hx, .pair _ _ _ _ _ _ _ hiu hiv, hbx1, by omega, hst⟩
    · exact plain _ _ (val_10 _ _ _ _ _ _) (.err _ _ _ _)
    · have hl : kids.length = 1 := h11 rfl
      obtain ⟨x, rfl⟩ : ∃ x, kids = [x] := by
        match kids, hl with
        | [x], _ => exact ⟨x, rfl⟩
      have hp2 : (D.mk 11 m b t [x]).parts = 1 + x.parts := by simp [D.parts, D.partsL]
      obtain ⟨k2, m2, b2, t2, a2, cap2, g2, o2, c2, kids2, e2, _⟩ := (hk 0 x rfl).inv
      obtain ⟨f0, f1, f2, f3, f4⟩ := five_inv e2
      obtain ⟨q0, q1, q2, q3, q4⟩ := hc 0 (by simp)
      rw [f0] at q0; rw [f1] at q1; rw [f2] at q2; rw [f3] at q3; rw [f4] at q4
      have hX := hkid 0 x rfl
      rw [e2] at hX
      have fin : ∀ (p : Nat) (e : Ending) (w' : World), PtrSays M n x.parts F m p w e w' → ∃ u F1 n1, e = .returned u ∧ IV F1 (D.mk 11 m b t [x]) u ∧ BoxesAt w' M n1 F1 ∧ n1 ≤ n + (D.mk 11 m b t [x]).parts ∧ VStep M w.heap.size w w' F F1 := fun p e w' hh => by
        obtain ⟨F1, n1, hx, hbo, hbx1, hn1, hst⟩ := hh
        exact ⟨_, F1, n1, hx, .ptr _ _ _ _ _ hbo, hbx1, by omega, hst⟩
      cases hbo : boxOf F m with
      | none =>
        refine (val_11_new m b t hw.2.1 (ha (by simp)) (by simpa using q0) (by simpa using q1) (by simpa using q2) (by simpa using q3) (by simpa using q4) hX w M n F hb hw0 hbx (by omega) hbo).mono fun e w' hh => ?_
        obtain ⟨p, hh⟩ := hh
        exact fin p e w' hh
      | some p => exact (val_11_old m b t hw.2.1 (ha (by simp)) (by simpa using q0) (by simpa using q1) (by simpa using q2) (by simpa using q3) (by simpa using q4) hX w M n F hb hw0 hbx (by omega) p hbo).mono (fin p)
    · exact plain _ _ (val_12 _ _ _ _ _ _) (.noptr _ _ _ _)
    · exact plain _ _ (val_13 _ _ _ _ _ _) (.unit _ _ _ _)
end Go.Proofs.YtecdniimikfbhaaGreatDoor

/- Contract of datum's Length. -/
namespace Go.Proofs.YtecdniimikfbhaaGreatDoor
open Go Go.RowKit Go.ChangeShapes Go.WideShapes

theorem ts_1 (v : Value) (w : World) : (Instr.typeAssert (.iface 116 v) 20 215 true).run Tryz.prog w = .ok (.tuple #[.nilIface, .bool false]) w := run_typeAssert_lacksB Tryz.underlying215 (by kernel_rfl) (by kernel_rfl) v _ w
theorem ts_2 (v : Value) (w : World) : (Instr.typeAssert (.iface 117 v) 20 215 true).run Tryz.prog w = .ok (.tuple #[.nilIface, .bool false]) w := run_typeAssert_lacksB Tryz.underlying215 (by kernel_rfl) (by kernel_rfl) v _ w
theorem ts_3 (v : Value) (w : World) : (Instr.typeAssert (.iface 98 v) 20 215 true).run Tryz.prog w = .ok (.tuple #[.nilIface, .bool false]) w := run_typeAssert_lacksB Tryz.underlying215 (by kernel_rfl) (by kernel_rfl) v _ w
theorem ts_4 (v : Value) (w : World) : (Instr.typeAssert (.iface 118 v) 20 215 true).run Tryz.prog w = .ok (.tuple #[.iface 118 v, .bool true]) w := by kernel_rfl
theorem ts_5 (v : Value) (w : World) : (Instr.typeAssert (.iface 119 v) 20 215 true).run Tryz.prog w = .ok (.tuple #[.iface 119 v, .bool true]) w := by kernel_rfl
theorem ts_6 (v : Value) (w : World) : (Instr.typeAssert (.iface 120 v) 20 215 true).run Tryz.prog w = .ok (.tuple #[.nilIface, .bool false]) w := run_typeAssert_lacksB Tryz.underlying215 (by kernel_rfl) (by kernel_rfl) v _ w
theorem ts_7 (v : Value) (w : World) : (Instr.typeAssert (.iface 121 v) 20 215 true).run Tryz.prog w = .ok (.tuple #[.iface 121 v, .bool true]) w := by kernel_rfl
theorem ts_8 (v : Value) (w : World) : (Instr.typeAssert (.iface 123 v) 20 215 true).run Tryz.prog w = .ok (.tuple #[.iface 123 v, .bool true]) w := by kernel_rfl
theorem ts_9 (v : Value) (w : World) : (Instr.typeAssert (.iface 126 v) 20 215 true).run Tryz.prog w = .ok (.tuple #[.iface 126 v, .bool true]) w := by kernel_rfl
theorem ts_10 (v : Value) (w : World) : (Instr.typeAssert (.iface 128 v) 20 215 true).run Tryz.prog w = .ok (.tuple #[.nilIface, .bool false]) w := run_typeAssert_lacksB Tryz.underlying215 (by kernel_rfl) (by kernel_rfl) v _ w
theorem ts_11 (v : Value) (w : World) : (Instr.typeAssert (.iface 129 v) 20 215 true).run Tryz.prog w = .ok (.tuple #[.iface 129 v, .bool true]) w := by kernel_rfl
theorem ts_13 (v : Value) (w : World) : (Instr.typeAssert (.iface 133 v) 20 215 true).run Tryz.prog w = .ok (.tuple #[.nilIface, .bool false]) w := run_typeAssert_lacksB Tryz.underlying215 (by kernel_rfl) (by kernel_rfl) v _ w
theorem ts_0 (w : World) : (Instr.typeAssert .nilIface 20 215 true).run Tryz.prog w = .ok (.tuple #[.nilIface, .bool false]) w := by kernel_rfl

theorem len_worlds (w : World) (c0 c1 c2 c3 c4 : Value) : ∃ W1, W1 = (w.alloc (.cells #[c0, c1, c2, c3, c4] 25)).alloc (.map #[] 0) ∧ Below w.heap.size w W1 ∧ Hid (W1.heap.size = w.heap.size + 2) ∧ Row W1 w.heap.size #[c0, c1, c2, c3, c4] 25 ∧ BoxesAt W1 (w.heap.size + 1) 0 (.map []) := by
  refine ⟨_, rfl, ((Below.refl _ _).alloc (Nat.le_refl _) _).alloc (by simp) _, Lib.hid (by simp), (Row.new w _ _).old _, ?_⟩
  have h := BoxesAt.made (w.alloc (.cells #[c0, c1, c2, c3, c4] 25))
  simpa using h

/-- A value that has no size. -/
def NoSize (u : Value) : Prop := ∀ w, (Instr.typeAssert u 20 215 true).run Tryz.prog w = .ok (.tuple #[.nilIface, .bool false]) w
set_option maxRecDepth 100000 in
set_option maxHeartbeats 800000 in
theorem length_no {w0 : World} {k m b : Int} {t : ByteArray} {a : Option Addr} {l cap : Nat} {d : D} (hv : Rep w0 (.agg #[.int .i64 k, .int .i64 m, .int .u64 b, .string t, .slice a l cap]) d) (hR : Right d) (hp : d.parts ≤ 4096) (hu : ∀ F u, IV F d u → NoSize u) (w : World) (hb0 : Below w0.heap.size w0 w) :
    Calls Tryz.prog 87 #[.agg #[.int .i64 k, .int .i64 m, .int .u64 b, .string t, .slice a l cap]] w fun x w' => x = .returned (.tuple #[.int .i64 0, .int .i64 12]) ∧ Below w.heap.size w w' := by
  have HV := Lib.hid (fun w M n F hb hw0 hbx hn => value_any hv hR w M n F hb hw0 hbx hn)
  have HB := Lib.hid hb0
  have HP := Lib.hid hp
  have HU := Lib.hid hu
  clear hv hR hp hb0 hu
  obtain ⟨W1, hW1, hb1, hz, hx1, hbx⟩ := len_worlds w (.int .i64 k) (.int .i64 m) (.int .u64 b) (.string t) (.slice a l cap)
  have hmm := @run_makeMap Tryz.prog
  go_enter Tryz.func87, Tryz.ntmps87
  go_wp2_with fail
  rw [← hW1]
  clear hW1
  refine (HV.out W1 (w.heap.size + 1) 0 _ (HB.out.trans (hb1.mono HB.out.size)) (by have := HB.out.size; omega) hbx (by have := HP.out; omega)).mono ?_
  rintro e w2 ⟨u, F1, n1, rfl, hiv, hbx2, hn2, hst⟩
  have hts := HU.out _ _ hiv
  unfold NoSize at hts
  clear hiv
  dsimp only
  go_wp2_with fail
  go_ret2
  exact ⟨rfl, hb1.trans (hst.below.mono (by omega))⟩

/-- A value of a type with a size. -/
structure HasSize (T : TypeId) (f : FuncId) (z : Value) (n : Int) : Prop where
  asserts : ∀ w, (Instr.typeAssert (.iface T z) 20 215 true).run Tryz.prog w = .ok (.tuple #[.iface T z, .bool true]) w
  meth : ∀ w, (method 350 T z "conduit/datum.size").run Tryz.prog w = .ok (f, z) w
  enter : ∀ w, (callFunc f #[z]).run Tryz.prog w = .ok (.enter f #[z]) w
  size : ∀ w, Calls Tryz.prog f #[z] w fun x w' => x = .returned (.int .i64 n) ∧ Below w.heap.size w w'
set_option maxRecDepth 100000 in
set_option maxHeartbeats 800000 in
theorem length_yes {w0 : World} {k m b : Int} {t : ByteArray} {a : Option Addr} {l cap : Nat} {d : D} (hv : Rep w0 (.agg #[.int .i64 k, .int .i64 m, .int .u64 b, .string t, .slice a l cap]) d) (hR : Right d) (hp : d.parts ≤ 4096) (T : TypeId) (f : FuncId) (n : Int) (hu : ∀ F u, IV F d u → ∃ z, u = .iface T z ∧ HasSize T f z n) (w : World) (hb0 : Below w0.heap.size w0 w) :
    Calls Tryz.prog 87 #[.agg #[.int .i64 k, .int .i64 m, .int .u64 b, .string t, .slice a l cap]] w fun x w' => x = .returned (.tuple #[.int .i64 n, .int .i64 0]) ∧ Below w.heap.size w w' := by
  have HV := Lib.hid (fun w M n F hb hw0 hbx hn => value_any hv hR w M n F hb hw0 hbx hn)
  have HB := Lib.hid hb0
  have HP := Lib.hid hp
  have HU := Lib.hid hu
  clear hv hR hp hb0 hu
  obtain ⟨W1, hW1, hb1, hz, hx1, hbx⟩ := len_worlds w (.int .i64 k) (.int .i64 m) (.int .u64 b) (.string t) (.slice a l cap)
  have hmm := @run_makeMap Tryz.prog
  go_enter Tryz.func87, Tryz.ntmps87
  go_wp2_with fail
  rw [← hW1]
  clear hW1
  refine (HV.out W1 (w.heap.size + 1) 0 _ (HB.out.trans (hb1.mono HB.out.size)) (by have := HB.out.size; omega) hbx (by have := HP.out; omega)).mono ?_
  rintro e w2 ⟨u, F1, n1, rfl, hiv, hbx2, hn2, hst⟩
  obtain ⟨z, rfl, hS⟩ := HU.out _ _ hiv
  have hts := hS.asserts
  have hme := hS.meth
  have hen := hS.enter
  have HS := Lib.hid hS.size
  clear hiv hS
  dsimp only
  go_wp2_with ((refine (HS.out _).mono ?_); rintro e w3 ⟨rfl, hb3⟩)
  go_ret2
  exact ⟨rfl, (hb1.trans (hst.below.mono (by omega))).trans (hb3.mono (Nat.le_trans hb1.size hst.below.size))⟩

set_option maxRecDepth 100000 in
theorem size_box (z : Value) (w : World) (o : Option Addr) (hz : z = .pointer o) (n : Int) (hn : n = match o with | none => 0 | some _ => 1) : Calls Tryz.prog 146 #[z] w fun x w' => x = .returned (.int .i64 n) ∧ w = w' := by
  subst hz hn
  cases o with
  | none =>
    go_enter Tryz.func146, Tryz.ntmps146
    go_wp2_with fail
    go_ret
    exact ⟨rfl, rfl⟩
  | some a =>
    go_enter Tryz.func146, Tryz.ntmps146
    go_wp2_with fail
    go_ret
    exact ⟨rfl, rfl⟩
theorem size_text (t : ByteArray) (w : World) : Calls Tryz.prog 136 #[.string t] w fun x w' => x = .returned (.int .i64 t.size) ∧ w = w' := by
  go_enter Tryz.func136, Tryz.ntmps136
  go_wp2_with fail
  go_ret
  exact ⟨rfl, rfl⟩
theorem size_name (t : ByteArray) (w : World) : Calls Tryz.prog 138 #[.string t] w fun x w' => x = .returned (.int .i64 t.size) ∧ w = w' := by
  go_enter Tryz.func138, Tryz.ntmps138
  go_wp2_with fail
  go_ret
  exact ⟨rfl, rfl⟩
theorem size_octets (a : Option Addr) (l c : Nat) (w : World) : Calls Tryz.prog 139 #[.slice a l c] w fun x w' => x = .returned (.int .i64 l) ∧ w = w' := by
  go_enter Tryz.func139, Tryz.ntmps139
  go_wp2_with fail
  go_ret
  exact ⟨rfl, rfl⟩
theorem size_list (a : Option Addr) (l c : Nat) (w : World) : Calls Tryz.prog 140 #[.slice a l c] w fun x w' => x = .returned (.int .i64 l) ∧ w = w' := by
  go_enter Tryz.func140, Tryz.ntmps140
  go_wp2_with fail
  go_ret
  exact ⟨rfl, rfl⟩
theorem size_pair (u v : Value) (w : World) : Calls Tryz.prog 141 #[.agg #[u, v]] w fun x w' => x = .returned (.int .i64 2) ∧ Below w.heap.size w w' := by
  go_enter Tryz.func141, Tryz.ntmps141
  go_wp2_with fail
  go_ret
  exact ⟨rfl, by go_grown⟩

/-- A Datum's size. -/
def lenD (d : D) : Option Int :=
  if d.kind = 4 ∨ d.kind = 5 ∨ d.kind = 7 then some d.text.size
  else if d.kind = 8 then some d.kids.length
  else if d.kind = 9 then some 2
  else if d.kind = 11 then some 1
  else if d.kind = 12 then some 0
  else none
theorem length_some {w0 : World} {k m b : Int} {t : ByteArray} {a : Option Addr} {l cap : Nat} {d : D} (hv : Rep w0 (.agg #[.int .i64 k, .int .i64 m, .int .u64 b, .string t, .slice a l cap]) d) (hR : Right d) (hp : d.parts ≤ 4096) (n : Int) (hn : lenD d = some n) (w : World) (hb0 : Below w0.heap.size w0 w) :
    Calls Tryz.prog 87 #[.agg #[.int .i64 k, .int .i64 m, .int .u64 b, .string t, .slice a l cap]] w fun x w' => x = .returned (.tuple #[.int .i64 n, .int .i64 0]) ∧ Below w.heap.size w w' := by
  have hk : d.kind = 4 ∨ d.kind = 5 ∨ d.kind = 7 ∨ d.kind = 8 ∨ d.kind = 9 ∨ d.kind = 11 ∨ d.kind = 12 := by
    unfold lenD at hn
    by_cases h1 : d.kind = 4 ∨ d.kind = 5 ∨ d.kind = 7
    · omega
    · rw [if_neg h1] at hn
      by_cases h2 : d.kind = 8
      · omega
      · rw [if_neg h2] at hn
        by_cases h3 : d.kind = 9
        · omega
        · rw [if_neg h3] at hn
          by_cases h4 : d.kind = 11
          · omega
          · rw [if_neg h4] at hn
            by_cases h5 : d.kind = 12
            · omega
            · rw [if_neg h5] at hn; cases hn
  rcases hk with h | h | h | h | h | h | h
  · refine length_yes hv hR hp 118 136 n (fun F u hu => ?_) w hb0
    cases hu <;> first | (simp [D.kind] at h; done) | skip
    case text m b t l =>
      have e : n = _ := (Option.some.inj hn).symm
      subst e
      exact ⟨_, rfl, ⟨fun w => ts_4 _ w, fun w => by kernel_rfl, fun w => by kernel_rfl, fun w => (size_text t w).mono fun _ _ h => ⟨h.1, h.2 ▸ Below.refl _ _⟩⟩⟩
  · refine length_yes hv hR hp 119 138 n (fun F u hu => ?_) w hb0
    cases hu <;> first | (simp [D.kind] at h; done) | skip
    case name m b t l =>
      have e : n = _ := (Option.some.inj hn).symm
      subst e
      exact ⟨_, rfl, ⟨fun w => ts_5 _ w, fun w => by kernel_rfl, fun w => by kernel_rfl, fun w => (size_name t w).mono fun _ _ h => ⟨h.1, h.2 ▸ Below.refl _ _⟩⟩⟩
  · refine length_yes hv hR hp 121 139 n (fun F u hu => ?_) w hb0
    cases hu <;> first | (simp [D.kind] at h; done) | skip
    case bytes m b t l a c =>
      have e : n = _ := (Option.some.inj hn).symm
      subst e
      exact ⟨_, rfl, ⟨fun w => ts_7 _ w, fun w => by kernel_rfl, fun w => by kernel_rfl, fun w => (size_octets a t.size c w).mono fun _ _ h => ⟨h.1, h.2 ▸ Below.refl _ _⟩⟩⟩
  · refine length_yes hv hR hp 123 140 n (fun F u hu => ?_) w hb0
    cases hu <;> first | (simp [D.kind] at h; done) | skip
    case list m b t l a c =>
      have e : n = _ := (Option.some.inj hn).symm
      subst e
      exact ⟨_, rfl, ⟨fun w => ts_8 _ w, fun w => by kernel_rfl, fun w => by kernel_rfl, fun w => (size_list a l.length c w).mono fun _ _ h => ⟨h.1, h.2 ▸ Below.refl _ _⟩⟩⟩
  · refine length_yes hv hR hp 126 141 n (fun F u hu => ?_) w hb0
    cases hu <;> first | (simp [D.kind] at h; done) | skip
    case pair m b t x y u v hx hy =>
      have e : n = _ := (Option.some.inj hn).symm
      subst e
      exact ⟨_, rfl, ⟨fun w => ts_9 _ w, fun w => by kernel_rfl, fun w => by kernel_rfl, fun w => size_pair u v w⟩⟩
  · refine length_yes hv hR hp 129 146 n (fun F u hu => ?_) w hb0
    cases hu <;> first | (simp [D.kind] at h; done) | skip
    case ptr m b t l g hg =>
      have e : n = _ := (Option.some.inj hn).symm
      subst e
      exact ⟨_, rfl, ⟨fun w => ts_11 _ w, fun w => by kernel_rfl, fun w => by kernel_rfl, fun w => (size_box _ w _ rfl _ rfl).mono fun _ _ h => ⟨h.1, h.2 ▸ Below.refl _ _⟩⟩⟩
  · refine length_yes hv hR hp 129 146 n (fun F u hu => ?_) w hb0
    cases hu <;> first | (simp [D.kind] at h; done) | skip
    case noptr m b t l =>
      have e : n = _ := (Option.some.inj hn).symm
      subst e
      exact ⟨_, rfl, ⟨fun w => ts_11 _ w, fun w => by kernel_rfl, fun w => by kernel_rfl, fun w => (size_box _ w _ rfl _ rfl).mono fun _ _ h => ⟨h.1, h.2 ▸ Below.refl _ _⟩⟩⟩
theorem length_none {w0 : World} {k m b : Int} {t : ByteArray} {a : Option Addr} {l cap : Nat} {d : D} (hv : Rep w0 (.agg #[.int .i64 k, .int .i64 m, .int .u64 b, .string t, .slice a l cap]) d) (hR : Right d) (hp : d.parts ≤ 4096) (hn : lenD d = none) (w : World) (hb0 : Below w0.heap.size w0 w) :
    Calls Tryz.prog 87 #[.agg #[.int .i64 k, .int .i64 m, .int .u64 b, .string t, .slice a l cap]] w fun x w' => x = .returned (.tuple #[.int .i64 0, .int .i64 12]) ∧ Below w.heap.size w w' := by
  refine length_no hv hR hp (fun F u hu w => ?_) w hb0
  cases hu with
  | nil m b t l => exact ts_0 w
  | int m b t l => exact ts_1 _ w
  | key m b t l => exact ts_2 _ w
  | float m b t l => exact ts_3 _ w
  | text m b t l => cases hn
  | name m b t l => cases hn
  | bool m b t l => exact ts_6 _ w
  | bytes m b t l a c => cases hn
  | list m b t l a c => cases hn
  | pair m b t x y u v hx hy => cases hn
  | err m b t l => exact ts_10 _ w
  | ptr m b t l g hg => cases hn
  | noptr m b t l => cases hn
  | unit m b t l => exact ts_13 _ w
end Go.Proofs.YtecdniimikfbhaaGreatDoor

/- Contract of datum's Open. -/
namespace Go.Proofs.YtecdniimikfbhaaGreatDoor
open Go Go.RowKit Go.ChangeShapes Go.WideShapes

theorem to_1 (v : Value) (w : World) : (Instr.typeAssert (.iface 116 v) 20 225 true).run Tryz.prog w = .ok (.tuple #[.nilIface, .bool false]) w := run_typeAssert_lacksB Tryz.underlying225 (by kernel_rfl) (by kernel_rfl) v _ w
theorem to_2 (v : Value) (w : World) : (Instr.typeAssert (.iface 117 v) 20 225 true).run Tryz.prog w = .ok (.tuple #[.nilIface, .bool false]) w := run_typeAssert_lacksB Tryz.underlying225 (by kernel_rfl) (by kernel_rfl) v _ w
theorem to_3 (v : Value) (w : World) : (Instr.typeAssert (.iface 98 v) 20 225 true).run Tryz.prog w = .ok (.tuple #[.nilIface, .bool false]) w := run_typeAssert_lacksB Tryz.underlying225 (by kernel_rfl) (by kernel_rfl) v _ w
theorem to_4 (v : Value) (w : World) : (Instr.typeAssert (.iface 118 v) 20 225 true).run Tryz.prog w = .ok (.tuple #[.nilIface, .bool false]) w := run_typeAssert_lacksB Tryz.underlying225 (by kernel_rfl) (by kernel_rfl) v _ w
theorem to_5 (v : Value) (w : World) : (Instr.typeAssert (.iface 119 v) 20 225 true).run Tryz.prog w = .ok (.tuple #[.nilIface, .bool false]) w := run_typeAssert_lacksB Tryz.underlying225 (by kernel_rfl) (by kernel_rfl) v _ w
theorem to_6 (v : Value) (w : World) : (Instr.typeAssert (.iface 120 v) 20 225 true).run Tryz.prog w = .ok (.tuple #[.nilIface, .bool false]) w := run_typeAssert_lacksB Tryz.underlying225 (by kernel_rfl) (by kernel_rfl) v _ w
theorem to_7 (v : Value) (w : World) : (Instr.typeAssert (.iface 121 v) 20 225 true).run Tryz.prog w = .ok (.tuple #[.nilIface, .bool false]) w := run_typeAssert_lacksB Tryz.underlying225 (by kernel_rfl) (by kernel_rfl) v _ w
theorem to_8 (v : Value) (w : World) : (Instr.typeAssert (.iface 123 v) 20 225 true).run Tryz.prog w = .ok (.tuple #[.nilIface, .bool false]) w := run_typeAssert_lacksB Tryz.underlying225 (by kernel_rfl) (by kernel_rfl) v _ w
theorem to_9 (v : Value) (w : World) : (Instr.typeAssert (.iface 126 v) 20 225 true).run Tryz.prog w = .ok (.tuple #[.nilIface, .bool false]) w := run_typeAssert_lacksB Tryz.underlying225 (by kernel_rfl) (by kernel_rfl) v _ w
theorem to_10 (v : Value) (w : World) : (Instr.typeAssert (.iface 128 v) 20 225 true).run Tryz.prog w = .ok (.tuple #[.nilIface, .bool false]) w := run_typeAssert_lacksB Tryz.underlying225 (by kernel_rfl) (by kernel_rfl) v _ w
theorem to_11 (v : Value) (w : World) : (Instr.typeAssert (.iface 129 v) 20 225 true).run Tryz.prog w = .ok (.tuple #[.iface 129 v, .bool true]) w := by kernel_rfl
theorem to_13 (v : Value) (w : World) : (Instr.typeAssert (.iface 133 v) 20 225 true).run Tryz.prog w = .ok (.tuple #[.nilIface, .bool false]) w := run_typeAssert_lacksB Tryz.underlying225 (by kernel_rfl) (by kernel_rfl) v _ w
theorem to_0 (w : World) : (Instr.typeAssert .nilIface 20 225 true).run Tryz.prog w = .ok (.tuple #[.nilIface, .bool false]) w := by kernel_rfl

theorem open_worlds (w : World) (c0 c1 c2 c3 c4 : Value) : ∃ W1, W1 = (((w.alloc (.cells #[c0, c1, c2, c3, c4] 25)).alloc (.cells #[.int .i64 0, .int .i64 0, .int .u64 0, .string ⟨#[]⟩, .slice none 0 0] 25)).alloc (.cells #[.int .i64 0] 29)).alloc (.map #[] 0) ∧ Below w.heap.size w W1 ∧ Hid (W1.heap.size = w.heap.size + 4) ∧ Row W1 w.heap.size #[c0, c1, c2, c3, c4] 25 ∧ Row W1 (w.heap.size + 1) #[.int .i64 0, .int .i64 0, .int .u64 0, .string ⟨#[]⟩, .slice none 0 0] 25 ∧ Row W1 (w.heap.size + 2) #[.int .i64 0] 29 ∧ BoxesAt W1 (w.heap.size + 3) 0 (.map []) := by
  refine ⟨_, rfl, ?_, Lib.hid (by simp), (((Row.new w _ _).old _).old _).old _, ?_, ?_, ?_⟩
  · exact ((((Below.refl _ _).alloc (Nat.le_refl _) _).alloc (by simp) _).alloc (by simp; omega) _).alloc (by simp; omega) _
  · refine Row.old (Row.old ?_ _) _
    have h := Row.new (w.alloc (.cells #[c0, c1, c2, c3, c4] 25)) #[.int .i64 0, .int .i64 0, .int .u64 0, .string ⟨#[]⟩, .slice none 0 0] 25
    simpa using h
  · refine Row.old ?_ _
    have h := Row.new ((w.alloc (.cells #[c0, c1, c2, c3, c4] 25)).alloc (.cells #[.int .i64 0, .int .i64 0, .int .u64 0, .string ⟨#[]⟩, .slice none 0 0] 25)) #[.int .i64 0] 29
    simpa using h
  · have h := BoxesAt.made (((w.alloc (.cells #[c0, c1, c2, c3, c4] 25)).alloc (.cells #[.int .i64 0, .int .i64 0, .int .u64 0, .string ⟨#[]⟩, .slice none 0 0] 25)).alloc (.cells #[.int .i64 0] 29))
    simpa using h
theorem nobox : ∀ g, ∀ m, boxOf (DataW.map [] : DataW Unit) m ≠ some g := fun g m h => by
  have : boxOf (DataW.map [] : DataW Unit) m = none := rfl
  rw [this] at h
  cases h

/-- A value that does not open. -/
def NoOpen (u : Value) : Prop := ∀ w, (Instr.typeAssert u 20 225 true).run Tryz.prog w = .ok (.tuple #[.nilIface, .bool false]) w

set_option maxRecDepth 100000 in
set_option maxHeartbeats 1600000 in
theorem open_no {w0 : World} {k m b : Int} {t : ByteArray} {a : Option Addr} {l cap : Nat} {d : D} (hv : Rep w0 (.agg #[.int .i64 k, .int .i64 m, .int .u64 b, .string t, .slice a l cap]) d) (hR : Right d) (hp : d.parts ≤ 4096) (hu : ∀ F u, IV F d u → NoOpen u) (w : World) (hb0 : Below w0.heap.size w0 w) :
    Calls Tryz.prog 97 #[(.agg #[.int .i64 k, .int .i64 m, .int .u64 b, .string t, .slice a l cap])] w fun x w' => x = .returned (.tuple #[(.agg #[.int .i64 0, .int .i64 0, .int .u64 0, .string ⟨#[]⟩, .slice none 0 0]), .int .i64 12]) ∧ Below w.heap.size w w' := by
  have HV := Lib.hid (fun w M n F hb hw0 hbx hn => value_any hv hR w M n F hb hw0 hbx hn)
  have HB := Lib.hid hb0
  have HP := Lib.hid hp
  have HU := Lib.hid hu
  clear hv hR hp hb0 hu
  obtain ⟨W1, hW1, hb1, hz, hx1, hx2, hx3, hbx⟩ := open_worlds w (.int .i64 k) (.int .i64 m) (.int .u64 b) (.string t) (.slice a l cap)
  have p0 : W1.cell? ⟨w.heap.size, 0, none⟩ = some (.int .i64 k) := hx1.cell 0 rfl
  have p1 : W1.cell? ⟨w.heap.size, 1, none⟩ = some (.int .i64 m) := hx1.cell 1 rfl
  have p2 : W1.cell? ⟨w.heap.size, 2, none⟩ = some (.int .u64 b) := hx1.cell 2 rfl
  have p3 : W1.cell? ⟨w.heap.size, 3, none⟩ = some (.string t) := hx1.cell 3 rfl
  have p4 : W1.cell? ⟨w.heap.size, 4, none⟩ = some (.slice a l cap) := hx1.cell 4 rfl
  have hmm := @run_makeMap Tryz.prog
  go_enter_defers Tryz.func97, Tryz.ntmps97
  go_wp2_with fail
  rw [← hW1]
  clear hW1
  refine (HV.out W1 (w.heap.size + 3) 0 _ (HB.out.trans (hb1.mono HB.out.size)) (by have := HB.out.size; omega) hbx (by have := HP.out; omega)).mono ?_
  rintro e w2 ⟨u, F1, n1, rfl, hiv, hbx2, hn2, hst⟩
  have hts := HU.out _ _ hiv
  unfold NoOpen at hts
  have hzo := hz.out
  have hy2 := hst.row hx2 (by omega) (by omega) (nobox _)
  have hy3 := hst.row hx3 (by omega) (by omega) (nobox _)
  have hbw : Below w.heap.size w w2 := hb1.trans (hst.below.mono (by omega))
  clear hiv hzo
  have y0 : w2.cell? ⟨w.heap.size + 1, 0, none⟩ = some (.int .i64 0) := hy2.cell 0 rfl
  have fy0 := hy2.thaw 0
  have y1 : w2.cell? ⟨w.heap.size + 1, 1, none⟩ = some (.int .i64 0) := hy2.cell 1 rfl
  have fy1 := hy2.thaw 1
  have y2 : w2.cell? ⟨w.heap.size + 1, 2, none⟩ = some (.int .u64 0) := hy2.cell 2 rfl
  have fy2 := hy2.thaw 2
  have y3 : w2.cell? ⟨w.heap.size + 1, 3, none⟩ = some (.string ⟨#[]⟩) := hy2.cell 3 rfl
  have fy3 := hy2.thaw 3
  have y4 : w2.cell? ⟨w.heap.size + 1, 4, none⟩ = some (.slice none 0 0) := hy2.cell 4 rfl
  have fy4 := hy2.thaw 4
  have z0 : w2.cell? ⟨w.heap.size + 2, 0, none⟩ = some (.int .i64 0) := hy3.cell 0 rfl
  have fz0 := hy3.thaw 0
  dsimp only
  go_wp2_with fail
  have e1 : w.heap.size + 1 ≠ w.heap.size + 2 := by omega
  have g2 := ((((((hy2.set 0 (.int .i64 0)).set 1 (.int .i64 0)).set 2 (.int .u64 0)).set 3 (.string ⟨#[]⟩)).set 4 (.slice none 0 0)).other 0 (.int .i64 12) e1)
  have g3 := ((((((hy3.other 0 (.int .i64 0) e1.symm).other 1 (.int .i64 0) e1.symm).other 2 (.int .u64 0) e1.symm).other 3 (.string ⟨#[]⟩) e1.symm).other 4 (.slice none 0 0) e1.symm).set 0 (.int .i64 12))
  have hbf := ((((((hbw.setCell (p := ⟨w.heap.size + 1, 0, none⟩) (by simp) (.int .i64 0)).setCell (p := ⟨w.heap.size + 1, 1, none⟩) (by simp) (.int .i64 0)).setCell (p := ⟨w.heap.size + 1, 2, none⟩) (by simp) (.int .u64 0)).setCell (p := ⟨w.heap.size + 1, 3, none⟩) (by simp) (.string ⟨#[]⟩)).setCell (p := ⟨w.heap.size + 1, 4, none⟩) (by simp) (.slice none 0 0)).setCell (p := ⟨w.heap.size + 2, 0, none⟩) (by simp) (.int .i64 12))
  show Leaves _ _ _ _ _ _ ((((((w2.setCell ⟨w.heap.size + 1, 0, none⟩ (.int .i64 0)).setCell ⟨w.heap.size + 1, 1, none⟩ (.int .i64 0)).setCell ⟨w.heap.size + 1, 2, none⟩ (.int .u64 0)).setCell ⟨w.heap.size + 1, 3, none⟩ (.string ⟨#[]⟩)).setCell ⟨w.heap.size + 1, 4, none⟩ (.slice none 0 0)).setCell ⟨w.heap.size + 2, 0, none⟩ (.int .i64 12))
  generalize ((((((w2.setCell ⟨w.heap.size + 1, 0, none⟩ (.int .i64 0)).setCell ⟨w.heap.size + 1, 1, none⟩ (.int .i64 0)).setCell ⟨w.heap.size + 1, 2, none⟩ (.int .u64 0)).setCell ⟨w.heap.size + 1, 3, none⟩ (.string ⟨#[]⟩)).setCell ⟨w.heap.size + 1, 4, none⟩ (.slice none 0 0)).setCell ⟨w.heap.size + 2, 0, none⟩ (.int .i64 12)) = Wf at *
  have a0 : Wf.cell? ⟨w.heap.size + 1, 0, none⟩ = some (.int .i64 0) := g2.cell 0 rfl
  have a1 : Wf.cell? ⟨w.heap.size + 1, 1, none⟩ = some (.int .i64 0) := g2.cell 1 rfl
  have a2 : Wf.cell? ⟨w.heap.size + 1, 2, none⟩ = some (.int .u64 0) := g2.cell 2 rfl
  have a3 : Wf.cell? ⟨w.heap.size + 1, 3, none⟩ = some (.string ⟨#[]⟩) := g2.cell 3 rfl
  have a4 : Wf.cell? ⟨w.heap.size + 1, 4, none⟩ = some (.slice none 0 0) := g2.cell 4 rfl
  have b0 : Wf.cell? ⟨w.heap.size + 2, 0, none⟩ = some (.int .i64 12) := g3.cell 0 rfl
  refine ⟨_, ?_, rfl, hbf⟩
  clear g2 g3 hbf
  simp [results, Tryz.results97, asAddr, a0, a1, a2, a3, a4, b0, go_sem]
end Go.Proofs.YtecdniimikfbhaaGreatDoor

/- Contracts of guard's number and boolean, of act's size, and of the law's awake. -/
namespace Go.Proofs.YtecdniimikfbhaaGreatDoor
open Go Go.RowKit Go.ChangeShapes Go.WideShapes

/-- A number. -/
def numD (n : Int) : D := .mk 1 n 0 ⟨#[]⟩ []
def numV (n : Int) : Value := .agg #[.int .i64 1, .int .i64 n, .int .u64 0, .string ⟨#[]⟩, .slice none 0 0]
theorem rep_plain (w : World) (k m : Int) (hk : (Lit.int .i64 k).wf = true) (hm : (Lit.int .i64 m).wf = true) : Rep w (.agg #[.int .i64 k, .int .i64 m, .int .u64 0, .string ⟨#[]⟩, .slice none 0 0]) (.mk k m 0 ⟨#[]⟩ []) :=
  .mk k m 0 ⟨#[]⟩ none 0 0 0 (fun _ _ => .bool false) [] ⟨hk, hm, by decide, by decide⟩ (fun h => absurd h (by simp)) (fun i hi => absurd hi (by simp)) (fun i x hx => by simp at hx)
theorem slim_plain (k m b : Int) (t : ByteArray) : Slim (.mk k m b t []) := .mk _ _ _ _ _ (by simp) (fun x hx => by cases hx)
theorem wf_small {n : Int} (h0 : -9223372036854775808 ≤ n) (h1 : n ≤ 9223372036854775807) : (Lit.int .i64 n).wf = true := by
  have e1 : IntKind.i64.min = -9223372036854775808 := by decide
  have e2 : IntKind.i64.max = 9223372036854775807 := by decide
  simp only [Lit.wf, e1, e2, Bool.and_eq_true, decide_eq_true_eq]
  exact ⟨h0, h1⟩
theorem gnumber_any (n : Int) (w : World) : Calls Tryz.prog 88 #[.int .i64 n] w fun x w' => x = .returned (numV n) ∧ Below w.heap.size w w' := by
  go_enter Tryz.func88, Tryz.ntmps88
  go_wp2_with fail
  exact bodyPost_ret (results_cell_row rfl _ _ w.heap.size 25 _ (0, 0) _ rfl (heap_alloc_new w _) Tryz.underlying25 rfl (by kernel_rfl)) rfl ⟨rfl, by go_grown⟩
theorem gboolean_true (w : World) : Calls Tryz.prog 99 #[.bool true] w fun x w' => x = .returned (.agg #[.int .i64 6, .int .i64 1, .int .u64 0, .string ⟨#[]⟩, .slice none 0 0]) ∧ Below w.heap.size w w' := by
  go_enter Tryz.func99, Tryz.ntmps99
  go_wp2_with fail
  exact bodyPost_ret (results_cell_row rfl _ _ w.heap.size 25 _ (0, 0) _ rfl (heap_alloc_new w _) Tryz.underlying25 rfl (by kernel_rfl)) rfl ⟨rfl, by go_grown⟩
theorem gboolean_false (w : World) : Calls Tryz.prog 99 #[.bool false] w fun x w' => x = .returned (.agg #[.int .i64 6, .int .i64 0, .int .u64 0, .string ⟨#[]⟩, .slice none 0 0]) ∧ Below w.heap.size w w' := by
  go_enter Tryz.func99, Tryz.ntmps99
  go_wp2_with fail
  exact bodyPost_ret (results_cell_row rfl _ _ w.heap.size 25 _ (0, 0) _ rfl (heap_alloc_new w _) Tryz.underlying25 rfl (by kernel_rfl)) rfl ⟨rfl, by go_grown⟩

set_option maxRecDepth 100000 in
set_option maxHeartbeats 1600000 in
theorem act_size {w0 : World} {k m b : Int} {t : ByteArray} {a : Option Addr} {l cap : Nat} {d : D} (hv : Rep w0 (.agg #[.int .i64 k, .int .i64 m, .int .u64 b, .string t, .slice a l cap]) d) (hR : Right d) (hp : d.parts ≤ 4096) (s : Int) (hn : lenD d = some s) (hw : (Lit.int .i64 s).wf = true) (b0 b1 b2 b3 b4 : Value) (n : Int) (w : World) (hb0 : Below w0.heap.size w0 w) :
    Calls Tryz.prog 74 #[.agg #[.int .i64 10, .int .i64 k, .int .i64 m, .int .u64 b, .string t, .slice a l cap, b0, b1, b2, b3, b4, .int .i64 n]] w fun x w' => ∃ v', x = .returned v' ∧ ResV w' (fun b => w.heap.size ≤ b) v' (.gave (numD s)) ∧ Below w.heap.size w w' := by
  have HL := Lib.hid (fun W h => length_some hv hR hp s hn W h)
  have HG := Lib.hid (fun W => gave_any (rep_plain W 1 s (by decide) hw) (slim_plain _ _ _ _) W (Below.refl _ _))
  clear hv hR hp hn hw
  have HB := Lib.hid hb0
  clear hb0
  obtain ⟨W1, hW1, hb1, hz, hx1, hx2⟩ := act_worlds w (.int .i64 10) (.int .i64 k) (.int .i64 m) (.int .u64 b) (.string t) (.slice a l cap) (b0) (b1) (b2) (b3) (b4) (.int .i64 n)
  have p0 : W1.cell? ⟨w.heap.size, 0, none⟩ = some (.int .i64 10) := hx1.cell 0 rfl
  have p1 : W1.cell? ⟨w.heap.size, 1, none⟩ = some (.int .i64 k) := hx1.cell 1 rfl
  have p2 : W1.cell? ⟨w.heap.size, 2, none⟩ = some (.int .i64 m) := hx1.cell 2 rfl
  have p3 : W1.cell? ⟨w.heap.size, 3, none⟩ = some (.int .u64 b) := hx1.cell 3 rfl
  have p4 : W1.cell? ⟨w.heap.size, 4, none⟩ = some (.string t) := hx1.cell 4 rfl
  have p5 : W1.cell? ⟨w.heap.size, 5, none⟩ = some (.slice a l cap) := hx1.cell 5 rfl
  have p6 : W1.cell? ⟨w.heap.size, 6, none⟩ = some (b0) := hx1.cell 6 rfl
  have p7 : W1.cell? ⟨w.heap.size, 7, none⟩ = some (b1) := hx1.cell 7 rfl
  have p8 : W1.cell? ⟨w.heap.size, 8, none⟩ = some (b2) := hx1.cell 8 rfl
  have p9 : W1.cell? ⟨w.heap.size, 9, none⟩ = some (b3) := hx1.cell 9 rfl
  have p10 : W1.cell? ⟨w.heap.size, 10, none⟩ = some (b4) := hx1.cell 10 rfl
  have p11 : W1.cell? ⟨w.heap.size, 11, none⟩ = some (.int .i64 n) := hx1.cell 11 rfl
  go_enter Tryz.func74, Tryz.ntmps74
  go_upto_region 1 with fail
  rw [← hW1]
  clear hW1
  go_wp2_with (first | (go_at_call 87; refine (HL.out _ (HB.out.trans (hb1.mono HB.out.size))).mono ?_; rintro e w2 ⟨rfl, hb2⟩) | (go_at_call 88; refine (gnumber_any _ _).mono ?_; rintro e w3 ⟨rfl, hb3⟩; unfold numV) | (go_at_call 80; refine (HG.out _).mono ?_; rintro e w4 ⟨v', rfl, hv', hb4⟩; obtain ⟨r0, r1, r2, r3, r4, k5, m5, b5, t5, a5, n5, cap5, rfl⟩ := hv'.form; have hb23 : Below W1.heap.size W1 w4 := (hb2.trans (hb3.mono hb2.size)).trans (hb4.mono (Nat.le_trans hb2.size hb3.size)); have hzl := Nat.le_trans hb2.size hb3.size; have hy := hx2.later hb23; have q0 : w4.cell? ⟨w.heap.size + 1, 0, none⟩ = some (.int .i64 0) := hy.cell 0 rfl; have f0 := hy.thaw 0; have q1 : w4.cell? ⟨w.heap.size + 1, 1, none⟩ = some (.int .i64 0) := hy.cell 1 rfl; have f1 := hy.thaw 1; have q2 : w4.cell? ⟨w.heap.size + 1, 2, none⟩ = some (.int .i64 0) := hy.cell 2 rfl; have f2 := hy.thaw 2; have q3 : w4.cell? ⟨w.heap.size + 1, 3, none⟩ = some (.int .i64 0) := hy.cell 3 rfl; have f3 := hy.thaw 3; have q4 : w4.cell? ⟨w.heap.size + 1, 4, none⟩ = some (.bool false) := hy.cell 4 rfl; have f4 := hy.thaw 4; have q5 : w4.cell? ⟨w.heap.size + 1, 5, none⟩ = some (.int .i64 0) := hy.cell 5 rfl; have f5 := hy.thaw 5; have q6 : w4.cell? ⟨w.heap.size + 1, 6, none⟩ = some (.int .i64 0) := hy.cell 6 rfl; have f6 := hy.thaw 6; have q7 : w4.cell? ⟨w.heap.size + 1, 7, none⟩ = some (.int .u64 0) := hy.cell 7 rfl; have f7 := hy.thaw 7; have q8 : w4.cell? ⟨w.heap.size + 1, 8, none⟩ = some (.string ⟨#[]⟩) := hy.cell 8 rfl; have f8 := hy.thaw 8; have q9 : w4.cell? ⟨w.heap.size + 1, 9, none⟩ = some (.slice none 0 0) := hy.cell 9 rfl; have f9 := hy.thaw 9; dsimp only))
  have hzo := hz.out
  exact bodyPost_ret (results_cell_row rfl _ _ (w.heap.size + 1) 33 _ (0, 0) _ rfl (hy.set10 _ _ _ _ _ _ _ _ _ _) Tryz.underlying33 rfl (by kernel_rfl)) rfl
    ⟨_, rfl, hv'.set10 (by omega) (by omega), set10_below (hb1.trans (hb23.mono (by omega))) (by omega)⟩

set_option maxRecDepth 100000 in
set_option maxHeartbeats 1600000 in
theorem act_size_no {w0 : World} {k m b : Int} {t : ByteArray} {a : Option Addr} {l cap : Nat} {d : D} (hv : Rep w0 (.agg #[.int .i64 k, .int .i64 m, .int .u64 b, .string t, .slice a l cap]) d) (hR : Right d) (hp : d.parts ≤ 4096) (hn : lenD d = none) (b0 b1 b2 b3 b4 : Value) (n : Int) (w : World) (hb0 : Below w0.heap.size w0 w) :
    Calls Tryz.prog 74 #[.agg #[.int .i64 10, .int .i64 k, .int .i64 m, .int .u64 b, .string t, .slice a l cap, b0, b1, b2, b3, b4, .int .i64 n]] w fun x w' => ∃ v', x = .returned v' ∧ ResV w' (fun b => w.heap.size ≤ b) v' .err ∧ Below w.heap.size w w' := by
  have HL := Lib.hid (fun W h => length_none hv hR hp hn W h)
  clear hv hR hp hn
  have HB := Lib.hid hb0
  clear hb0
  obtain ⟨W1, hW1, hb1, hz, hx1, hx2⟩ := act_worlds w (.int .i64 10) (.int .i64 k) (.int .i64 m) (.int .u64 b) (.string t) (.slice a l cap) (b0) (b1) (b2) (b3) (b4) (.int .i64 n)
  have p0 : W1.cell? ⟨w.heap.size, 0, none⟩ = some (.int .i64 10) := hx1.cell 0 rfl
  have p1 : W1.cell? ⟨w.heap.size, 1, none⟩ = some (.int .i64 k) := hx1.cell 1 rfl
  have p2 : W1.cell? ⟨w.heap.size, 2, none⟩ = some (.int .i64 m) := hx1.cell 2 rfl
  have p3 : W1.cell? ⟨w.heap.size, 3, none⟩ = some (.int .u64 b) := hx1.cell 3 rfl
  have p4 : W1.cell? ⟨w.heap.size, 4, none⟩ = some (.string t) := hx1.cell 4 rfl
  have p5 : W1.cell? ⟨w.heap.size, 5, none⟩ = some (.slice a l cap) := hx1.cell 5 rfl
  have p6 : W1.cell? ⟨w.heap.size, 6, none⟩ = some (b0) := hx1.cell 6 rfl
  have p7 : W1.cell? ⟨w.heap.size, 7, none⟩ = some (b1) := hx1.cell 7 rfl
  have p8 : W1.cell? ⟨w.heap.size, 8, none⟩ = some (b2) := hx1.cell 8 rfl
  have p9 : W1.cell? ⟨w.heap.size, 9, none⟩ = some (b3) := hx1.cell 9 rfl
  have p10 : W1.cell? ⟨w.heap.size, 10, none⟩ = some (b4) := hx1.cell 10 rfl
  have p11 : W1.cell? ⟨w.heap.size, 11, none⟩ = some (.int .i64 n) := hx1.cell 11 rfl
  go_enter Tryz.func74, Tryz.ntmps74
  go_upto_region 1 with fail
  rw [← hW1]
  clear hW1
  go_wp2_with (go_at_call 87; refine (HL.out _ (HB.out.trans (hb1.mono HB.out.size))).mono ?_; rintro e w2 ⟨rfl, hb2⟩; have hy := hx2.later hb2; have q0 : w2.cell? ⟨w.heap.size + 1, 0, none⟩ = some (.int .i64 0) := hy.cell 0 rfl; have f0 := hy.thaw 0; have q1 : w2.cell? ⟨w.heap.size + 1, 1, none⟩ = some (.int .i64 0) := hy.cell 1 rfl; have f1 := hy.thaw 1; have q2 : w2.cell? ⟨w.heap.size + 1, 2, none⟩ = some (.int .i64 0) := hy.cell 2 rfl; have f2 := hy.thaw 2; have q3 : w2.cell? ⟨w.heap.size + 1, 3, none⟩ = some (.int .i64 0) := hy.cell 3 rfl; have f3 := hy.thaw 3; have q4 : w2.cell? ⟨w.heap.size + 1, 4, none⟩ = some (.bool false) := hy.cell 4 rfl; have f4 := hy.thaw 4; have q5 : w2.cell? ⟨w.heap.size + 1, 5, none⟩ = some (.int .i64 0) := hy.cell 5 rfl; have f5 := hy.thaw 5; have q6 : w2.cell? ⟨w.heap.size + 1, 6, none⟩ = some (.int .i64 0) := hy.cell 6 rfl; have f6 := hy.thaw 6; have q7 : w2.cell? ⟨w.heap.size + 1, 7, none⟩ = some (.int .u64 0) := hy.cell 7 rfl; have f7 := hy.thaw 7; have q8 : w2.cell? ⟨w.heap.size + 1, 8, none⟩ = some (.string ⟨#[]⟩) := hy.cell 8 rfl; have f8 := hy.thaw 8; have q9 : w2.cell? ⟨w.heap.size + 1, 9, none⟩ = some (.slice none 0 0) := hy.cell 9 rfl; have f9 := hy.thaw 9)
  have hzo := hz.out
  exact bodyPost_ret (results_cell_row rfl _ _ (w.heap.size + 1) 33 _ (0, 0) _ rfl (hy.set10 _ _ _ _ _ _ _ _ _ _) Tryz.underlying33 rfl (by kernel_rfl)) rfl
    ⟨_, rfl, rfl, set10_below (hb1.trans (hb2.mono (by omega))) (by omega)⟩

theorem try_own7 (w : World) : Calls Tryz.prog 62 #[.agg #[.int .i64 8, .int .i64 0, .int .i64 0, .int .u64 0, .string ⟨#[]⟩, .slice none 0 0, .int .i64 0, .int .i64 0, .int .u64 0, .string ⟨#[]⟩, .slice none 0 0, .int .i64 7]] w fun x w' => x = .returned (.agg #[.int .i64 110, .int .i64 0, .int .i64 1, .int .i64 7, .bool false, .int .i64 0, .int .i64 0, .int .u64 0, .string ⟨#[]⟩, .slice none 0 0]) ∧ Below w.heap.size w w' :=
  (try_pan _ _ _ _ _ _ _ _ _ _ _ _ _ _ 1 7 (told_2 7) w (fun W _ => act_own _ _ _ _ _ 7 W)).mono fun x w' ⟨v', hx, hv, hb⟩ => ⟨by rw [hx, show v' = _ from hv], hb⟩
theorem try_give5 (w : World) : Calls Tryz.prog 62 #[.agg #[.int .i64 1, .int .i64 1, .int .i64 5, .int .u64 0, .string ⟨#[]⟩, .slice none 0 0, .int .i64 0, .int .i64 0, .int .u64 0, .string ⟨#[]⟩, .slice none 0 0, .int .i64 0]] w fun x w' => ∃ b t a l cap, x = .returned (.agg #[.int .i64 0, .int .i64 0, .int .i64 0, .int .i64 0, .bool true, .int .i64 1, .int .i64 5, .int .u64 b, .string t, .slice a l cap]) ∧ Below w.heap.size w w' :=
  (try_ret _ _ _ _ _ _ _ _ _ _ _ _ _ w (fun W hW => act_give (rep_plain w 1 5 (by decide) (by decide)) (slim_plain _ _ _ _) _ _ _ _ _ 0 W hW)).mono fun x w' ⟨v', hx, hv, hb⟩ => by
    obtain ⟨k, m, b, t, a, n, cap, hv1, hv2⟩ := hv
    cases hv2
    exact ⟨0, ⟨#[]⟩, a, _, cap, by rw [hx, hv1], hb⟩
end Go.Proofs.YtecdniimikfbhaaGreatDoor

/- '==' on the interface values of Datums. -/
namespace Go.Proofs.YtecdniimikfbhaaGreatDoor
open Go Go.RowKit Go.ChangeShapes Go.WideShapes

theorem eq_1 (a b : Int) (w : World) : (binOp .eql 20 (.iface 116 (.int .i64 a)) (.iface 116 (.int .i64 b))).run Tryz.prog w = .ok (.bool (a == b)) w := by kernel_rfl
theorem eq_2 (a b : Int) (w : World) : (binOp .eql 20 (.iface 117 (.int .i64 a)) (.iface 117 (.int .i64 b))).run Tryz.prog w = .ok (.bool (a == b)) w := by kernel_rfl
theorem eq_3 (a b : Nat) (w : World) : (binOp .eql 20 (.iface 98 (.float .f64 a)) (.iface 98 (.float .f64 b))).run Tryz.prog w = .ok (.bool (Op.floatEq .f64 a b)) w := by kernel_rfl
theorem eq_4 (a b : ByteArray) (w : World) : (binOp .eql 20 (.iface 118 (.string a)) (.iface 118 (.string b))).run Tryz.prog w = .ok (.bool (a == b)) w := by kernel_rfl
theorem eq_5 (a b : ByteArray) (w : World) : (binOp .eql 20 (.iface 119 (.string a)) (.iface 119 (.string b))).run Tryz.prog w = .ok (.bool (a == b)) w := by kernel_rfl
theorem eq_6 (a b : Bool) (w : World) : (binOp .eql 20 (.iface 120 (.bool a)) (.iface 120 (.bool b))).run Tryz.prog w = .ok (.bool (a == b)) w := by kernel_rfl
theorem eq_13  (w : World) : (binOp .eql 20 (.iface 133 (.agg #[])) (.iface 133 (.agg #[]))).run Tryz.prog w = .ok (.bool (true)) w := by kernel_rfl
theorem eq_nil (w : World) : (binOp .eql 20 .nilIface .nilIface).run Tryz.prog w = .ok (.bool true) w := by kernel_rfl
theorem eq_nil1 (T : TypeId) (v : Value) (w : World) : (binOp .eql 20 .nilIface (.iface T v)).run Tryz.prog w = .ok (.bool false) w := by kernel_rfl
theorem eq_nil2 (T : TypeId) (v : Value) (w : World) : (binOp .eql 20 (.iface T v) .nilIface).run Tryz.prog w = .ok (.bool false) w := by kernel_rfl
theorem eq_11_00 (w : World) : (binOp .eql 20 (.iface 129 (.pointer none)) (.iface 129 (.pointer none))).run Tryz.prog w = .ok (.bool true) w := by kernel_rfl
theorem eq_11_01 (a : Addr) (w : World) : (binOp .eql 20 (.iface 129 (.pointer none)) (.iface 129 (.pointer (some a)))).run Tryz.prog w = .ok (.bool false) w := by kernel_rfl
theorem eq_11_10 (a : Addr) (w : World) : (binOp .eql 20 (.iface 129 (.pointer (some a))) (.iface 129 (.pointer none))).run Tryz.prog w = .ok (.bool false) w := by kernel_rfl
theorem eq_diff {T U : TypeId} (h : T ≠ U) (x y : Value) (w : World) : (binOp .eql 20 (.iface T x) (.iface U y)).run Tryz.prog w = .ok (.bool false) w := run_eql_iface_types T U x y Tryz.underlying20 h w
theorem info_box : (Tryz.prog.info? 129).map (fun i => i.comparable) = some true := by kernel_rfl
theorem info_box1 : (Tryz.prog.info? 131).map (fun i => i.size) = some 2 := by kernel_rfl
theorem eq_11_same (a : Addr) (w : World) : (binOp .eql 20 (.iface 129 (.pointer (some a))) (.iface 129 (.pointer (some a)))).run Tryz.prog w = .ok (.bool true) w := by
  obtain ⟨i, hi, hc⟩ := Option.map_eq_some_iff.1 info_box
  obtain ⟨j, hj, _⟩ := Option.map_eq_some_iff.1 info_box1
  exact run_eql_iface_ptr_same w a Tryz.underlying20 Tryz.underlying129 hi hc hj
theorem eq_11_other {w : World} {g g' : Nat} {cs cs' : Array Value} (hne : g ≠ g') (h : Row w g cs 131) (h' : Row w g' cs' 131) : (binOp .eql 20 (.iface 129 (.pointer (some ⟨g, 0, none⟩))) (.iface 129 (.pointer (some ⟨g', 0, none⟩)))).run Tryz.prog w = .ok (.bool false) w := by
  obtain ⟨i, hi, hc⟩ := Option.map_eq_some_iff.1 info_box
  obtain ⟨j, hj, hs⟩ := Option.map_eq_some_iff.1 info_box1
  exact run_eql_iface_ptr_other w Tryz.underlying20 Tryz.underlying129 hi hc hj (by rw [hs]; decide) (fun e => hne (congrArg Addr.block e)) h h'
theorem eq_same {T : TypeId} (hT : (Tryz.prog.info? T).map (fun i => i.comparable) = some true) (x y : Value) (r : Bool) (w : World) (h : (Op.equalIn 9999 T x y).run Tryz.prog w = .ok r w) : (binOp .eql 20 (.iface T x) (.iface T y)).run Tryz.prog w = .ok (.bool r) w := by
  obtain ⟨i, hi, hc⟩ := Option.map_eq_some_iff.1 hT
  have h2 : ∀ d : Nat, (Op.equalIn (d + 1) 20 (.iface T x) (.iface T y)).run Tryz.prog w = (Op.equalIn d T x y).run Tryz.prog w := fun d => by
    simp [Op.equalIn, run_underlying Tryz.underlying20, typeInfo, hi, hc]
  simp only [binOp]
  simp [Op.equal, Op.maxDepth, h2 9999, h]
theorem eqIn_int {T : TypeId} (hT : Tryz.prog.underlying T = some (.int .i64)) (a b : Int) (w : World) (d : Nat) : (Op.equalIn (d + 1) T (.int .i64 a) (.int .i64 b)).run Tryz.prog w = .ok (a == b) w := by
  simp [Op.equalIn, run_underlying hT]
theorem eqIn_str {T : TypeId} (hT : Tryz.prog.underlying T = some .string) (a b : ByteArray) (w : World) (d : Nat) : (Op.equalIn (d + 1) T (.string a) (.string b)).run Tryz.prog w = .ok (a == b) w := by
  simp [Op.equalIn, run_underlying hT]
theorem list2 {α : Type} {l : List α} (h : l.length = 2) : ∃ a b, l = [a, b] := by
  match l, h with
  | [a, b], _ => exact ⟨a, b, rfl⟩
theorem eq_10 (a b : Int) (s t : ByteArray) (w : World) : (binOp .eql 20 (.iface 128 (.agg #[.int .i64 a, .string s])) (.iface 128 (.agg #[.int .i64 b, .string t]))).run Tryz.prog w = .ok (.bool (a == b && s == t)) w := by
  refine eq_same (by kernel_rfl) _ _ _ _ ?_
  rw [run_equalIn_struct w 9998 128 _ _ (by kernel_rfl) (by kernel_rfl)]
  have hf : (Tryz.prog.fieldsOf 128).toList.map (fun f => (f.name, f.type, f.offset)) = [("code", 2, 0), ("words", 9, 1)] := by kernel_rfl
  have hp1 : ∀ w, (part 2 #[.int .i64 a, .string s] 0).run Tryz.prog w = .ok (.int .i64 a) w := fun _ => by kernel_rfl
  have hp2 : ∀ w, (part 2 #[.int .i64 b, .string t] 0).run Tryz.prog w = .ok (.int .i64 b) w := fun _ => by kernel_rfl
  have hp3 : ∀ w, (part 9 #[.int .i64 a, .string s] 1).run Tryz.prog w = .ok (.string s) w := fun _ => by kernel_rfl
  have hp4 : ∀ w, (part 9 #[.int .i64 b, .string t] 1).run Tryz.prog w = .ok (.string t) w := fun _ => by kernel_rfl
  have hi := fun w => eqIn_int Tryz.underlying2 a b w 9997
  have hs := fun w => eqIn_str Tryz.underlying9 s t w 9997
  obtain ⟨f1, f2, hl⟩ := list2 (show (Tryz.prog.fieldsOf 128).toList.length = 2 by have := congrArg List.length hf; simpa using this)
  rw [hl] at hf
  simp only [List.map_cons, List.map_nil, List.cons.injEq, Prod.mk.injEq, and_true] at hf
  obtain ⟨⟨n1, t1, o1⟩, n2, t2, o2⟩ := hf
  rw [hl]
  simp only [Op.eqFields, n1, t1, o1, n2, t2, o2]
  cases h : (a == b) <;> cases h2 : (s == t) <;> simp [hp1, hp2, hp3, hp4, hi, hs, h, h2]
theorem eq_bad {T : TypeId} (hT : (Tryz.prog.info? T).map (fun i => i.comparable) = some false) (hh : Tryz.prog.holdsPacked Tryz.prog.depth T = false) (hs : ((Tryz.prog.info? T).map fun i => i.str.isEmpty) = some false) (x y : Value) : ∃ U z, ∀ w, (binOp .eql 20 (.iface T x) (.iface T y)).run Tryz.prog w = .halt (.panic (.iface U z)) w := by
  obtain ⟨i, hi, hc⟩ := Option.map_eq_some_iff.1 hT
  obtain ⟨j, hj, hs'⟩ := Option.map_eq_some_iff.1 hs
  rw [hi] at hj
  cases hj
  have hs2 : ¬ i.str = "" := fun e => by rw [e] at hs'; cases hs'
  have h2 : ∃ U z, ∀ (d : Nat) (w : World), (Op.equalIn (d + 1) 20 (.iface T x) (.iface T y)).run Tryz.prog w = .halt (.panic (.iface U z)) w := ⟨_, _, fun d w => by
    simp [Op.equalIn, run_underlying Tryz.underlying20, typeInfo, hi, hc, hh, typeStr, runtimePanic]
    rw [if_neg hs2]⟩
  obtain ⟨U, z, h3⟩ := h2
  refine ⟨U, z, fun w => ?_⟩
  simp only [binOp]
  simp [Op.equal, Op.maxDepth, h3 9999]
end Go.Proofs.YtecdniimikfbhaaGreatDoor
