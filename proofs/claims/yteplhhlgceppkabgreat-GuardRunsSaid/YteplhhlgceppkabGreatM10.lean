/- Guard: contracts, joined texts (G57, G59, G63, G64). -/
import Derived.Test.YteplhhlgceppkabGreatM08
import Derived.Test.YteplhhlgceppkabGreatM09

/- Contract of datum's Open of a box. -/
namespace Go.Proofs.YteplhhlgceppkabGreat
open Go Go.RowKit Go.ChangeShapes Go.WideShapes

set_option maxRecDepth 100000 in
set_option maxHeartbeats 3200000 in
theorem open_box {w0 : World} {k m b : Int} {t : ByteArray} {g o cap : Nat} {x : D} (hv : Rep w0 (.agg #[.int .i64 k, .int .i64 m, .int .u64 b, .string t, .slice (some ⟨g, o, none⟩) 1 cap]) (.mk k m b t [x])) (hk : k = 11) (hR : Right (.mk k m b t [x])) (hp : (D.mk k m b t [x]).parts ≤ 4096)
    {k2 m2 b2 : Int} {t2 : ByteArray} {a2 : Option Addr} {n2 cap2 : Nat} (ha : g < w0.heap.size ∧ 1 ≤ cap ∧ cap ≤ 9223372036854775807)
    (hc : w0.cell? ⟨g, o, none⟩ = some (.int .i64 k2) ∧ w0.cell? ⟨g, o + 1, none⟩ = some (.int .i64 m2) ∧ w0.cell? ⟨g, o + 2, none⟩ = some (.int .u64 b2) ∧ w0.cell? ⟨g, o + 3, none⟩ = some (.string t2) ∧ w0.cell? ⟨g, o + 4, none⟩ = some (.slice a2 n2 cap2)) (hx : Rep w0 (.agg #[.int .i64 k2, .int .i64 m2, .int .u64 b2, .string t2, .slice a2 n2 cap2]) x) (hs : Slim x) (w : World) (hb0 : Below w0.heap.size w0 w) :
    Calls Tryz.prog 47 #[(.agg #[.int .i64 k, .int .i64 m, .int .u64 b, .string t, .slice (some ⟨g, o, none⟩) 1 cap])] w fun y w' => ∃ v', y = .returned (.tuple #[v', .int .i64 0]) ∧ RepQ w' (fun b => w.heap.size ≤ b) v' x ∧ Below w.heap.size w w' := by
  have HV := Lib.hid (fun w M n F hb hw0 hbx hn => value_any hv hR w M n F hb hw0 hbx hn)
  have HC := Lib.hid (fun w hb => dclone_any hx hs w hb)
  have HB := Lib.hid hb0
  have HP := Lib.hid hp
  have HA := Lib.hid ha
  have HU := Lib.hid (show ∀ F u, IV F (.mk k m b t [x]) u → ∃ p, u = .iface 133 (.pointer (some ⟨p, 0, none⟩)) ∧ boxOf F m = some p by
    subst hk
    intro F u hu
    cases hu
    case ptr p hg => exact ⟨p, rfl, hg⟩)
  have hmf := hmf
  clear hv hR hp hb0 hk hx hs ha
  obtain ⟨i0, i1, i2, i3, i4⟩ := hc
  obtain ⟨W1, hW1, hb1, hz, hx1, hx2, hx3, hbx⟩ := open_worlds w (.int .i64 k) (.int .i64 m) (.int .u64 b) (.string t) (.slice (some ⟨g, o, none⟩) 1 cap)
  have p0 : W1.cell? ⟨w.heap.size, 0, none⟩ = some (.int .i64 k) := hx1.cell 0 rfl
  have p1 : W1.cell? ⟨w.heap.size, 1, none⟩ = some (.int .i64 m) := hx1.cell 1 rfl
  have p2 : W1.cell? ⟨w.heap.size, 2, none⟩ = some (.int .u64 b) := hx1.cell 2 rfl
  have p3 : W1.cell? ⟨w.heap.size, 3, none⟩ = some (.string t) := hx1.cell 3 rfl
  have p4 : W1.cell? ⟨w.heap.size, 4, none⟩ = some (.slice (some ⟨g, o, none⟩) 1 cap) := hx1.cell 4 rfl
  have hmm := @run_makeMap Tryz.prog
  go_enter_defers Tryz.func47, Tryz.ntmps47
  go_wp2_with fail
  rw [← hW1]
  clear hW1
  refine (HV.out W1 (w.heap.size + 3) 0 _ (HB.out.trans (hb1.mono HB.out.size)) (by have := HB.out.size; omega) hbx (by have := HP.out; omega)).mono ?_
  rintro e w2 ⟨u, F1, n1, rfl, hiv, hbx2, hn2, hst⟩
  obtain ⟨p, rfl, hbo⟩ := HU.out _ _ hiv
  have hts := to_11 (.pointer (some ⟨p, 0, none⟩))
  have hme : ∀ w, (method 304 133 (.pointer (some ⟨p, 0, none⟩)) "conduit/datum.open").run Tryz.prog w = .ok (101, .pointer (some ⟨p, 0, none⟩)) w := fun w => by kernel_rfl
  have hen : ∀ w, (callFunc 101 #[.pointer (some ⟨p, 0, none⟩)]).run Tryz.prog w = .ok (.enter 101 #[.pointer (some ⟨p, 0, none⟩)]) w := fun w => by kernel_rfl
  have hzo := hz.out
  have h02 : Below w0.heap.size w0 w2 := HB.out.trans ((hb1.trans (hst.below.mono (by omega))).mono HB.out.size)
  have hy1 := hst.row hx1 (by omega) (by omega) (nobox _)
  have hy2 := hst.row hx2 (by omega) (by omega) (nobox _)
  have hy3 := hst.row hx3 (by omega) (by omega) (nobox _)
  have hbw : Below w.heap.size w w2 := hb1.trans (hst.below.mono (by omega))
  have HX := Lib.hid ((hbx2.2 m p hbo).2)
  have hgl : g < w0.heap.size := HA.out.1
  have hgl := Lib.hid hgl
  have hcap : 1 ≤ cap ∧ cap ≤ 9223372036854775807 := HA.out.2
  have H02 := Lib.hid h02
  have s4 : w2.cell? ⟨w.heap.size, 4, none⟩ = some (.slice (some ⟨g, o, none⟩) 1 cap) := hy1.cell 4 rfl
  have j0 : w2.cell? ⟨g, o, none⟩ = some (.int .i64 k2) := (h02.cell (p := ⟨g, o, none⟩) hgl.out).trans i0
  have j1 : w2.cell? ⟨g, o + 1, none⟩ = some (.int .i64 m2) := (h02.cell (p := ⟨g, o + 1, none⟩) hgl.out).trans i1
  have j2 : w2.cell? ⟨g, o + 2, none⟩ = some (.int .u64 b2) := (h02.cell (p := ⟨g, o + 2, none⟩) hgl.out).trans i2
  have j3 : w2.cell? ⟨g, o + 3, none⟩ = some (.string t2) := (h02.cell (p := ⟨g, o + 3, none⟩) hgl.out).trans i3
  have j4 : w2.cell? ⟨g, o + 4, none⟩ = some (.slice a2 n2 cap2) := (h02.cell (p := ⟨g, o + 4, none⟩) hgl.out).trans i4
  clear hiv hzo h02
  dsimp only
  go_wp2_with (first
    | (go_at_call 101; obtain ⟨xx, hxx⟩ := HX.out; refine (boxopen_some _ p m xx hxx).mono ?_; rintro e w3 ⟨rfl, rfl⟩; dsimp only)
    | (go_at_call 60; refine (HC.out _ H02.out).mono ?_; rintro e w4 ⟨v', rfl, hv', hb4⟩; obtain ⟨k5, m5, b5, t5, a5, n5, cap5, rfl⟩ := hv'.form; have z2 := hy2.later hb4; have z3 := hy3.later hb4; have y0 : w4.cell? ⟨w.heap.size + 1, 0, none⟩ = some (.int .i64 0) := z2.cell 0 rfl; have fy0 := z2.thaw 0; have y1 : w4.cell? ⟨w.heap.size + 1, 1, none⟩ = some (.int .i64 0) := z2.cell 1 rfl; have fy1 := z2.thaw 1; have y2 : w4.cell? ⟨w.heap.size + 1, 2, none⟩ = some (.int .u64 0) := z2.cell 2 rfl; have fy2 := z2.thaw 2; have y3 : w4.cell? ⟨w.heap.size + 1, 3, none⟩ = some (.string ⟨#[]⟩) := z2.cell 3 rfl; have fy3 := z2.thaw 3; have y4 : w4.cell? ⟨w.heap.size + 1, 4, none⟩ = some (.slice none 0 0) := z2.cell 4 rfl; have fy4 := z2.thaw 4; have z0 : w4.cell? ⟨w.heap.size + 2, 0, none⟩ = some (.int .i64 0) := z3.cell 0 rfl; have fz0 := z3.thaw 0; dsimp only))
  have hzo := hz.out
  refine leaves_cons (f := 59) (args := #[.pointer (some ⟨w.heap.size + 1, 0, none⟩), .pointer (some ⟨w.heap.size + 1 + 1, 0, none⟩)]) (by simp) (by simp [go_sem]) ?_
  refine (open1_idle _ _ _).mono ?_
  rintro e u' W' ⟨rfl, rfl, rfl⟩
  have hbz : Below w.heap.size w w4 := hbw.trans (hb4.mono hbw.size)
  have hl2 : W1.heap.size ≤ w2.heap.size := hst.below.size
  have e1 : w.heap.size + 1 ≠ w.heap.size + 1 + 1 := by omega
  have g2 := ((((((z2.set 0 (.int .i64 k5)).set 1 (.int .i64 m5)).set 2 (.int .u64 b5)).set 3 (.string t5)).set 4 (.slice a5 n5 cap5)).other 0 (.int .i64 0) e1)
  have g3 := (((((((show Row w4 (w.heap.size + 1 + 1) _ _ from z3).other 0 (.int .i64 k5) e1.symm).other 1 (.int .i64 m5) e1.symm).other 2 (.int .u64 b5) e1.symm).other 3 (.string t5) e1.symm).other 4 (.slice a5 n5 cap5) e1.symm).set 0 (.int .i64 0))
  have hbf := ((((((hbz.setCell (p := ⟨w.heap.size + 1, 0, none⟩) (by simp) (.int .i64 k5)).setCell (p := ⟨w.heap.size + 1, 1, none⟩) (by simp) (.int .i64 m5)).setCell (p := ⟨w.heap.size + 1, 2, none⟩) (by simp) (.int .u64 b5)).setCell (p := ⟨w.heap.size + 1, 3, none⟩) (by simp) (.string t5)).setCell (p := ⟨w.heap.size + 1, 4, none⟩) (by simp) (.slice a5 n5 cap5)).setCell (p := ⟨w.heap.size + 1 + 1, 0, none⟩) (by simp; omega) (.int .i64 0))
  have hQ := hv'.carry (w1 := ((((((w4.setCell ⟨w.heap.size + 1, 0, none⟩ (.int .i64 k5)).setCell ⟨w.heap.size + 1, 1, none⟩ (.int .i64 m5)).setCell ⟨w.heap.size + 1, 2, none⟩ (.int .u64 b5)).setCell ⟨w.heap.size + 1, 3, none⟩ (.string t5)).setCell ⟨w.heap.size + 1, 4, none⟩ (.slice a5 n5 cap5)).setCell ⟨w.heap.size + 1 + 1, 0, none⟩ (.int .i64 0))) (Q1 := fun b => w.heap.size ≤ b) (fun i hi _ => by
      have hi' : w2.heap.size ≤ i := hi
      have n1 : i ≠ w.heap.size + 1 := by omega
      have n2 : i ≠ w.heap.size + 1 + 1 := by omega
      exact ⟨by rw [heap_setCell_other _ _ _ _ n2, heap_setCell_other _ _ _ _ n1, heap_setCell_other _ _ _ _ n1, heap_setCell_other _ _ _ _ n1, heap_setCell_other _ _ _ _ n1, heap_setCell_other _ _ _ _ n1], by omega⟩) (by simp)
  generalize ((((((w4.setCell ⟨w.heap.size + 1, 0, none⟩ (.int .i64 k5)).setCell ⟨w.heap.size + 1, 1, none⟩ (.int .i64 m5)).setCell ⟨w.heap.size + 1, 2, none⟩ (.int .u64 b5)).setCell ⟨w.heap.size + 1, 3, none⟩ (.string t5)).setCell ⟨w.heap.size + 1, 4, none⟩ (.slice a5 n5 cap5)).setCell ⟨w.heap.size + 1 + 1, 0, none⟩ (.int .i64 0)) = Wf at *
  have a0 : Wf.cell? ⟨w.heap.size + 1, 0, none⟩ = some (.int .i64 k5) := g2.cell 0 rfl
  have a1 : Wf.cell? ⟨w.heap.size + 1, 1, none⟩ = some (.int .i64 m5) := g2.cell 1 rfl
  have a2 : Wf.cell? ⟨w.heap.size + 1, 2, none⟩ = some (.int .u64 b5) := g2.cell 2 rfl
  have a3 : Wf.cell? ⟨w.heap.size + 1, 3, none⟩ = some (.string t5) := g2.cell 3 rfl
  have a4 : Wf.cell? ⟨w.heap.size + 1, 4, none⟩ = some (.slice a5 n5 cap5) := g2.cell 4 rfl
  have b0 : Wf.cell? ⟨w.heap.size + 1 + 1, 0, none⟩ = some (.int .i64 0) := g3.cell 0 rfl
  refine ⟨_, ?_, _, rfl, hQ, hbf⟩
  clear g2 g3 hbf hQ
  simp [results, Tryz.results47, asAddr, a0, a1, a2, a3, a4, b0, go_sem]
end Go.Proofs.YteplhhlgceppkabGreat

/- Contracts of guard's open. -/
namespace Go.Proofs.YteplhhlgceppkabGreat
open Go Go.RowKit Go.ChangeShapes Go.WideShapes

theorem rows2 (w : World) (c0 c1 c2 c3 c4 : Value) : ∃ W1, W1 = (w.alloc (.cells #[c0, c1, c2, c3, c4] 26)).alloc (.cells #[.int .i64 0, .int .i64 0, .int .u64 0, .string ⟨#[]⟩, .slice none 0 0] 26) ∧ Below w.heap.size w W1 ∧ Hid (W1.heap.size = w.heap.size + 2) ∧ Row W1 w.heap.size #[c0, c1, c2, c3, c4] 26 ∧ Row W1 (w.heap.size + 1) #[.int .i64 0, .int .i64 0, .int .u64 0, .string ⟨#[]⟩, .slice none 0 0] 26 := by
  refine ⟨_, rfl, ((Below.refl _ _).alloc (Nat.le_refl _) _).alloc (by simp) _, Lib.hid (by simp), (Row.new w _ _).old _, ?_⟩
  have h := Row.new (w.alloc (.cells #[c0, c1, c2, c3, c4] 26)) #[.int .i64 0, .int .i64 0, .int .u64 0, .string ⟨#[]⟩, .slice none 0 0] 26
  simpa using h

set_option maxRecDepth 100000 in
theorem gopen_no {k : Nat} (hk : k ≤ 13) {m b : Int} {t : ByteArray} {a : Option Addr} {l cap : Nat} (h : hasFi k 3 = false) (w : World) :
    Calls Tryz.prog 35 #[(.agg #[.int .i64 k, .int .i64 m, .int .u64 b, .string t, .slice a l cap])] w fun x w' => x = .panicked (thrown 60 (.agg #[.int .i64 (faceMiss k 3)])) ∧ Below w.heap.size w w' := by
  have HF := Lib.hid (fun W => gface_no k hk 3 h (.int .i64 m) (.int .u64 b) (.string t) (.slice a l cap) W)
  clear h
  obtain ⟨W1, hW1, hb1, hz, hx1, hx2⟩ := rows2 w (.int .i64 k) (.int .i64 m) (.int .u64 b) (.string t) (.slice a l cap)
  have p0 : W1.cell? ⟨w.heap.size, 0, none⟩ = some (.int .i64 k) := hx1.cell 0 rfl
  have p1 : W1.cell? ⟨w.heap.size, 1, none⟩ = some (.int .i64 m) := hx1.cell 1 rfl
  have p2 : W1.cell? ⟨w.heap.size, 2, none⟩ = some (.int .u64 b) := hx1.cell 2 rfl
  have p3 : W1.cell? ⟨w.heap.size, 3, none⟩ = some (.string t) := hx1.cell 3 rfl
  have p4 : W1.cell? ⟨w.heap.size, 4, none⟩ = some (.slice a l cap) := hx1.cell 4 rfl
  go_enter Tryz.func35, Tryz.ntmps35
  go_upto_region 1 with fail
  rw [← hW1]
  clear hW1
  go_wp2_with (go_at_call 33; refine (HF.out _).mono ?_; rintro e w2 ⟨rfl, hb2⟩)
  exact ⟨rfl, rfl, hb1.trans (hb2.mono hb1.size)⟩

set_option maxRecDepth 100000 in
set_option maxHeartbeats 1600000 in
theorem gopen_nil {w0 : World} {k : Nat} (hk : k ≤ 13) {m b : Int} {t : ByteArray} {a : Option Addr} {l cap : Nat} (h : hasFi k 3 = true) (HO : ∀ W, Below w0.heap.size w0 W → Calls Tryz.prog 47 #[(.agg #[.int .i64 k, .int .i64 m, .int .u64 b, .string t, .slice a l cap])] W fun x w' => x = .returned (.tuple #[(.agg #[.int .i64 0, .int .i64 0, .int .u64 0, .string ⟨#[]⟩, .slice none 0 0]), .int .i64 13]) ∧ Below W.heap.size W w') (w : World) (hb0 : Below w0.heap.size w0 w) :
    Calls Tryz.prog 35 #[(.agg #[.int .i64 k, .int .i64 m, .int .u64 b, .string t, .slice a l cap])] w fun x w' => x = .panicked (thrown 66 (.agg #[])) ∧ Below w.heap.size w w' := by
  have HF := Lib.hid (fun W => gface_yes k hk 3 h m b t a l cap W)
  have HH := Lib.hid HO
  have HB := Lib.hid hb0
  clear h HO hb0
  obtain ⟨W1, hW1, hb1, hz, hx1, hx2⟩ := rows2 w (.int .i64 k) (.int .i64 m) (.int .u64 b) (.string t) (.slice a l cap)
  have p0 : W1.cell? ⟨w.heap.size, 0, none⟩ = some (.int .i64 k) := hx1.cell 0 rfl
  have p1 : W1.cell? ⟨w.heap.size, 1, none⟩ = some (.int .i64 m) := hx1.cell 1 rfl
  have p2 : W1.cell? ⟨w.heap.size, 2, none⟩ = some (.int .u64 b) := hx1.cell 2 rfl
  have p3 : W1.cell? ⟨w.heap.size, 3, none⟩ = some (.string t) := hx1.cell 3 rfl
  have p4 : W1.cell? ⟨w.heap.size, 4, none⟩ = some (.slice a l cap) := hx1.cell 4 rfl
  go_enter Tryz.func35, Tryz.ntmps35
  go_upto_region 1 with fail
  rw [← hW1]
  clear hW1
  go_wp2_with (first | (go_at_call 33; refine (HF.out _).mono ?_; rintro e w2 ⟨rfl, hb2⟩; have h12 : Below w.heap.size w w2 := hb1.trans (hb2.mono hb1.size); have hy1 := hx1.later hb2; have r0 : w2.cell? ⟨w.heap.size, 0, none⟩ = some (.int .i64 k) := hy1.cell 0 rfl; have r1 : w2.cell? ⟨w.heap.size, 1, none⟩ = some (.int .i64 m) := hy1.cell 1 rfl; have r2 : w2.cell? ⟨w.heap.size, 2, none⟩ = some (.int .u64 b) := hy1.cell 2 rfl; have r3 : w2.cell? ⟨w.heap.size, 3, none⟩ = some (.string t) := hy1.cell 3 rfl; have r4 : w2.cell? ⟨w.heap.size, 4, none⟩ = some (.slice a l cap) := hy1.cell 4 rfl; dsimp only) | (go_at_call 47; refine (HH.out _ (HB.out.trans (h12.mono HB.out.size))).mono ?_; rintro e w3 ⟨rfl, hb3⟩; have h13 : Below w.heap.size w w3 := h12.trans (hb3.mono h12.size); dsimp only))
  exact ⟨rfl, rfl, h13.alloc h13.size _⟩
end Go.Proofs.YteplhhlgceppkabGreat

/- Contracts of guard's place. -/
namespace Go.Proofs.YteplhhlgceppkabGreat
open Go Go.RowKit Go.ChangeShapes Go.WideShapes

theorem fld_1 (k m b : Int) (t : ByteArray) (a : Option Addr) (l c : Nat) (w : World) : (Instr.field 26 (.agg #[.int .i64 k, .int .i64 m, .int .u64 b, .string t, .slice a l c]) 1).run Tryz.prog w = .ok (.int .i64 m) w := by kernel_rfl
theorem fld_4 (k m b : Int) (t : ByteArray) (a : Option Addr) (l c : Nat) (w : World) : (Instr.field 26 (.agg #[.int .i64 k, .int .i64 m, .int .u64 b, .string t, .slice a l c]) 4).run Tryz.prog w = .ok (.slice a l c) w := by kernel_rfl
attribute [local go_sem] fld_1 fld_4

set_option maxRecDepth 100000 in
theorem place_no {k : Nat} (hk : k ≤ 13) {m b : Int} {t : ByteArray} {a : Option Addr} {l cap : Nat} (h : isB k 8 = false) (n : Int) (w : World) :
    Calls Tryz.prog 34 #[(.agg #[.int .i64 k, .int .i64 m, .int .u64 b, .string t, .slice a l cap]), .int .i64 n] w fun x w' => x = .panicked (thrown 60 (.agg #[.int .i64 k])) ∧ Below w.heap.size w w' := by
  have HF := Lib.hid (fun W => kind_no k hk 8 h (.int .i64 m) (.int .u64 b) (.string t) (.slice a l cap) W)
  clear h
  obtain ⟨W1, hW1, hb1, hz, hx1, hx2⟩ := rows2 w (.int .i64 k) (.int .i64 m) (.int .u64 b) (.string t) (.slice a l cap)
  have p0 : W1.cell? ⟨w.heap.size, 0, none⟩ = some (.int .i64 k) := hx1.cell 0 rfl
  have p1 : W1.cell? ⟨w.heap.size, 1, none⟩ = some (.int .i64 m) := hx1.cell 1 rfl
  have p2 : W1.cell? ⟨w.heap.size, 2, none⟩ = some (.int .u64 b) := hx1.cell 2 rfl
  have p3 : W1.cell? ⟨w.heap.size, 3, none⟩ = some (.string t) := hx1.cell 3 rfl
  have p4 : W1.cell? ⟨w.heap.size, 4, none⟩ = some (.slice a l cap) := hx1.cell 4 rfl
  go_enter Tryz.func34, Tryz.ntmps34
  go_upto_region 1 with fail
  rw [← hW1]
  clear hW1
  go_wp2_with (go_at_call 32; refine (HF.out _).mono ?_; rintro e w2 ⟨rfl, hb2⟩)
  exact ⟨rfl, rfl, hb1.trans (hb2.mono hb1.size)⟩

set_option maxRecDepth 100000 in
set_option maxHeartbeats 1600000 in
theorem place_out {w0 : World} {d : D} {k : Nat} (hk : k ≤ 13) {m b : Int} {t : ByteArray} {a : Option Addr} {l cap : Nat} (h : isB k 8 = true) (hv : Rep w0 (.agg #[.int .i64 k, .int .i64 m, .int .u64 b, .string t, .slice a l cap]) d) (hs : Slim d) (n : Int) (hn : n < 0 ∨ 0 ≤ n ∧ (d.kids.length : Int) ≤ n) (w : World) (hb0 : Below w0.heap.size w0 w) :
    Calls Tryz.prog 34 #[(.agg #[.int .i64 k, .int .i64 m, .int .u64 b, .string t, .slice a l cap]), .int .i64 n] w fun x w' => x = .panicked (thrown 61 (.agg #[.int .i64 n])) ∧ Below w.heap.size w w' := by
  have HF := Lib.hid (fun W hb => kind_yes k hk 8 h hv hs W hb)
  have HB := Lib.hid hb0
  clear h hv hs hb0
  obtain ⟨W1, hW1, hb1, hz, hx1, hx2⟩ := rows2 w (.int .i64 k) (.int .i64 m) (.int .u64 b) (.string t) (.slice a l cap)
  have p0 : W1.cell? ⟨w.heap.size, 0, none⟩ = some (.int .i64 k) := hx1.cell 0 rfl
  have p1 : W1.cell? ⟨w.heap.size, 1, none⟩ = some (.int .i64 m) := hx1.cell 1 rfl
  have p2 : W1.cell? ⟨w.heap.size, 2, none⟩ = some (.int .u64 b) := hx1.cell 2 rfl
  have p3 : W1.cell? ⟨w.heap.size, 3, none⟩ = some (.string t) := hx1.cell 3 rfl
  have p4 : W1.cell? ⟨w.heap.size, 4, none⟩ = some (.slice a l cap) := hx1.cell 4 rfl
  go_enter Tryz.func34, Tryz.ntmps34
  go_upto_region 1 with fail
  rw [← hW1]
  clear hW1
  rcases hn with hn | ⟨hn0, hn1⟩
  · go_wp2_with (go_at_call 32; refine (HF.out _ (HB.out.trans (hb1.mono HB.out.size))).mono ?_; rintro e w2 ⟨v', rfl, hv', hb2⟩; obtain ⟨k5, m5, b5, t5, a5, cap5, g5, o5, c5, kids5, rfl, rfl, _⟩ := hv'.rep.inv)
    exact ⟨rfl, rfl, hb1.trans (hb2.mono hb1.size)⟩
  · have hn2 : ¬ n < 0 := by omega
    go_wp2_with (go_at_call 32; refine (HF.out _ (HB.out.trans (hb1.mono HB.out.size))).mono ?_; rintro e w2 ⟨v', rfl, hv', hb2⟩; obtain ⟨k5, m5, b5, t5, a5, cap5, g5, o5, c5, kids5, rfl, rfl, _⟩ := hv'.rep.inv; have hn3 : (kids5.length : Int) ≤ n := hn1)
    exact ⟨rfl, rfl, hb1.trans (hb2.mono hb1.size)⟩
end Go.Proofs.YteplhhlgceppkabGreat

/- Contract of guard's place within the bounds. -/
namespace Go.Proofs.YteplhhlgceppkabGreat
open Go Go.RowKit Go.ChangeShapes Go.WideShapes

attribute [local go_sem] fld_1 fld_4
theorem RepQ.inv {w : World} {Q : Nat → Prop} {v : Value} {d : D} (h : RepQ w Q v d) : ∃ (k m b : Int) (t : ByteArray) (a : Option Addr) (cap g o : Nat) (c : Nat → Nat → Value) (kids : List D), v = .agg #[.int .i64 k, .int .i64 m, .int .u64 b, .string t, .slice a kids.length cap] ∧ d = .mk k m b t kids ∧
    (0 < kids.length → a = some ⟨g, o, none⟩ ∧ OwnB w Q g ∧ g < w.heap.size ∧ kids.length ≤ cap ∧ cap ≤ 9223372036854775807) ∧ Row5 w g o kids.length c ∧ (∀ i x, kids[i]? = some x → RepQ w Q (five c i) x) := by
  cases h with
  | mk k m b t a cap g o c kids hw ha hc hk => exact ⟨k, m, b, t, a, cap, g, o, c, kids, rfl, rfl, ha, hc, hk⟩
/-- A part of a Datum in memory: where it lies. -/
theorem RepQ.kid {w : World} {Q : Nat → Prop} {v : Value} {d x : D} (h : RepQ w Q v d) {i : Nat} (hi : d.kids[i]? = some x) : ∃ (k m b : Int) (t : ByteArray) (cap g o : Nat) (k6 m6 b6 : Int) (t6 : ByteArray) (a6 : Option Addr) (n6 cap6 : Nat),
    v = .agg #[.int .i64 k, .int .i64 m, .int .u64 b, .string t, .slice (some ⟨g, o, none⟩) d.kids.length cap] ∧ i < d.kids.length ∧ d.kids.length ≤ cap ∧ cap ≤ 9223372036854775807 ∧ g < w.heap.size ∧
    w.cell? ⟨g, o + i * 5, none⟩ = some (.int .i64 k6) ∧ w.cell? ⟨g, o + i * 5 + 1, none⟩ = some (.int .i64 m6) ∧ w.cell? ⟨g, o + i * 5 + 2, none⟩ = some (.int .u64 b6) ∧ w.cell? ⟨g, o + i * 5 + 3, none⟩ = some (.string t6) ∧ w.cell? ⟨g, o + i * 5 + 4, none⟩ = some (.slice a6 n6 cap6) ∧
    RepQ w Q (.agg #[.int .i64 k6, .int .i64 m6, .int .u64 b6, .string t6, .slice a6 n6 cap6]) x := by
  obtain ⟨k, m, b, t, a, cap, g, o, c, kids, rfl, rfl, ha, hc, hk⟩ := h.inv
  have hi' : kids[i]? = some x := hi
  have hlt : i < kids.length := (List.getElem?_eq_some_iff.1 hi').1
  obtain ⟨rfl, hq, hg, hcp, hcm⟩ := ha (by omega)
  obtain ⟨q0, q1, q2, q3, q4⟩ := hc i hlt
  have hx := hk i x hi'
  obtain ⟨k6, m6, b6, t6, a6, n6, cap6, e6⟩ := hx.form
  obtain ⟨f0, f1, f2, f3, f4⟩ := five_inv e6
  rw [f0] at q0
  rw [f1] at q1
  rw [f2] at q2
  rw [f3] at q3
  rw [f4] at q4
  rw [e6] at hx
  exact ⟨k, m, b, t, cap, g, o, k6, m6, b6, t6, a6, n6, cap6, rfl, hlt, hcp, hcm, hg, q0, q1, q2, q3, q4, hx⟩

set_option maxRecDepth 100000 in
set_option maxHeartbeats 3200000 in
theorem place_in {w0 : World} {d x : D} {k : Nat} (hk : k ≤ 13) {m b : Int} {t : ByteArray} {a : Option Addr} {l cap : Nat} (h : isB k 8 = true) (hv : Rep w0 (.agg #[.int .i64 k, .int .i64 m, .int .u64 b, .string t, .slice a l cap]) d) (hs : Slim d) (i : Nat) (hi : d.kids[i]? = some x) (w : World) (hb0 : Below w0.heap.size w0 w) :
    Calls Tryz.prog 34 #[(.agg #[.int .i64 k, .int .i64 m, .int .u64 b, .string t, .slice a l cap]), .int .i64 i] w fun y w' => ∃ v', y = .returned v' ∧ RepQ w' (fun b => w.heap.size ≤ b) v' x ∧ Below w.heap.size w w' := by
  have HF := Lib.hid (fun W hb => kind_yes k hk 8 h hv hs W hb)
  have HB := Lib.hid hb0
  have HI := Lib.hid hi
  have hlt : i < d.kids.length := (List.getElem?_eq_some_iff.1 hi).1
  have hlen : d.kids.length ≤ 4096 := by cases d; exact hs.inv.1
  clear h hv hs hb0 hi
  obtain ⟨W1, hW1, hb1, hz, hx1, hx2⟩ := rows2 w (.int .i64 k) (.int .i64 m) (.int .u64 b) (.string t) (.slice a l cap)
  have p0 : W1.cell? ⟨w.heap.size, 0, none⟩ = some (.int .i64 k) := hx1.cell 0 rfl
  have p1 : W1.cell? ⟨w.heap.size, 1, none⟩ = some (.int .i64 m) := hx1.cell 1 rfl
  have p2 : W1.cell? ⟨w.heap.size, 2, none⟩ = some (.int .u64 b) := hx1.cell 2 rfl
  have p3 : W1.cell? ⟨w.heap.size, 3, none⟩ = some (.string t) := hx1.cell 3 rfl
  have p4 : W1.cell? ⟨w.heap.size, 4, none⟩ = some (.slice a l cap) := hx1.cell 4 rfl
  go_enter Tryz.func34, Tryz.ntmps34
  go_upto_region 1 with fail
  rw [← hW1]
  clear hW1
  have hn0 : ¬ ((i : Int) < 0) := by omega
  have hn1 : ¬ ((d.kids.length : Int) ≤ i) := by omega
  have hn2 : (i : Int).toNat = i := by omega
  have hni : i ≤ 9223372036854775807 := by omega
  go_wp2_with (go_at_call 32; refine (HF.out _ (HB.out.trans (hb1.mono HB.out.size))).mono ?_; rintro e w2 ⟨v', rfl, hv', hb2⟩; obtain ⟨k5, m5, b5, t5, cap5, g5, o5, k6, m6, b6, t6, a6, n6, cap6, rfl, -, hcp, hcm, hg5, q0, q1, q2, q3, q4, hx5⟩ := hv'.kid HI.out; have hgl := Lib.hid hg5; clear hg5; have hy := hx2.later hb2; have z0 : w2.cell? ⟨w.heap.size + 1, 0, none⟩ = some (.int .i64 0) := hy.cell 0 rfl; have f0 := hy.thaw 0; have z1 : w2.cell? ⟨w.heap.size + 1, 1, none⟩ = some (.int .i64 0) := hy.cell 1 rfl; have f1 := hy.thaw 1; have z2 : w2.cell? ⟨w.heap.size + 1, 2, none⟩ = some (.int .u64 0) := hy.cell 2 rfl; have f2 := hy.thaw 2; have z3 : w2.cell? ⟨w.heap.size + 1, 3, none⟩ = some (.string ⟨#[]⟩) := hy.cell 3 rfl; have f3 := hy.thaw 3; have z4 : w2.cell? ⟨w.heap.size + 1, 4, none⟩ = some (.slice none 0 0) := hy.cell 4 rfl; have f4 := hy.thaw 4; dsimp only)
  have hzo := hz.out
  exact bodyPost_ret (results_cell_row rfl _ _ (w.heap.size + 1) 26 _ (0, 0) _ rfl (((((hy.set 0 _).set 1 _).set 2 _).set 3 _).set 4 _) Tryz.underlying26 rfl (by kernel_rfl)) rfl
    ⟨_, rfl, RepQ.set5 (N := W1.heap.size) hx5 (by omega) (by omega), set5_below (hb1.trans (hb2.mono hb1.size)) (by omega)⟩
end Go.Proofs.YteplhhlgceppkabGreat
