/- Guard: contracts, joined texts (G55, G37, G50, G51). -/
import Derived.Stop.Asserts
import Derived.LaidEql
import Derived.Laws.StructEq
import Derived.Test.YtecdniimikfbhaaGreatM02
import Derived.Test.YtecdniimikfbhaaGreatM06
import Derived.Test.YtecdniimikfbhaaGreatM08

/- Contract of datum's Open. -/
namespace Go.Proofs.YtecdniimikfbhaaGreat
open Go Go.RowKit Go.ChangeShapes Go.WideShapes

theorem to_1 (v : Value) (w : World) : (Instr.typeAssert (.iface 148 v) 20 203 true).run Tryz.prog w = .ok (.tuple #[.nilIface, .bool false]) w := run_typeAssert_lacksB Tryz.underlying203 (by kernel_rfl) (by kernel_rfl) v _ w
theorem to_2 (v : Value) (w : World) : (Instr.typeAssert (.iface 149 v) 20 203 true).run Tryz.prog w = .ok (.tuple #[.nilIface, .bool false]) w := run_typeAssert_lacksB Tryz.underlying203 (by kernel_rfl) (by kernel_rfl) v _ w
theorem to_3 (v : Value) (w : World) : (Instr.typeAssert (.iface 91 v) 20 203 true).run Tryz.prog w = .ok (.tuple #[.nilIface, .bool false]) w := run_typeAssert_lacksB Tryz.underlying203 (by kernel_rfl) (by kernel_rfl) v _ w
theorem to_4 (v : Value) (w : World) : (Instr.typeAssert (.iface 151 v) 20 203 true).run Tryz.prog w = .ok (.tuple #[.nilIface, .bool false]) w := run_typeAssert_lacksB Tryz.underlying203 (by kernel_rfl) (by kernel_rfl) v _ w
theorem to_5 (v : Value) (w : World) : (Instr.typeAssert (.iface 152 v) 20 203 true).run Tryz.prog w = .ok (.tuple #[.nilIface, .bool false]) w := run_typeAssert_lacksB Tryz.underlying203 (by kernel_rfl) (by kernel_rfl) v _ w
theorem to_6 (v : Value) (w : World) : (Instr.typeAssert (.iface 153 v) 20 203 true).run Tryz.prog w = .ok (.tuple #[.nilIface, .bool false]) w := run_typeAssert_lacksB Tryz.underlying203 (by kernel_rfl) (by kernel_rfl) v _ w
theorem to_7 (v : Value) (w : World) : (Instr.typeAssert (.iface 154 v) 20 203 true).run Tryz.prog w = .ok (.tuple #[.nilIface, .bool false]) w := run_typeAssert_lacksB Tryz.underlying203 (by kernel_rfl) (by kernel_rfl) v _ w
theorem to_8 (v : Value) (w : World) : (Instr.typeAssert (.iface 155 v) 20 203 true).run Tryz.prog w = .ok (.tuple #[.nilIface, .bool false]) w := run_typeAssert_lacksB Tryz.underlying203 (by kernel_rfl) (by kernel_rfl) v _ w
theorem to_9 (v : Value) (w : World) : (Instr.typeAssert (.iface 158 v) 20 203 true).run Tryz.prog w = .ok (.tuple #[.nilIface, .bool false]) w := run_typeAssert_lacksB Tryz.underlying203 (by kernel_rfl) (by kernel_rfl) v _ w
theorem to_10 (v : Value) (w : World) : (Instr.typeAssert (.iface 160 v) 20 203 true).run Tryz.prog w = .ok (.tuple #[.nilIface, .bool false]) w := run_typeAssert_lacksB Tryz.underlying203 (by kernel_rfl) (by kernel_rfl) v _ w
theorem to_11 (v : Value) (w : World) : (Instr.typeAssert (.iface 161 v) 20 203 true).run Tryz.prog w = .ok (.tuple #[.iface 161 v, .bool true]) w := by kernel_rfl
theorem to_13 (v : Value) (w : World) : (Instr.typeAssert (.iface 164 v) 20 203 true).run Tryz.prog w = .ok (.tuple #[.nilIface, .bool false]) w := run_typeAssert_lacksB Tryz.underlying203 (by kernel_rfl) (by kernel_rfl) v _ w
theorem to_0 (w : World) : (Instr.typeAssert .nilIface 20 203 true).run Tryz.prog w = .ok (.tuple #[.nilIface, .bool false]) w := by kernel_rfl

theorem open_worlds (w : World) (c0 c1 c2 c3 c4 : Value) : ∃ W1, W1 = (((w.alloc (.cells #[c0, c1, c2, c3, c4] 26)).alloc (.cells #[.int .i64 0, .int .i64 0, .int .u64 0, .string ⟨#[]⟩, .slice none 0 0] 26)).alloc (.cells #[.int .i64 0] 31)).alloc (.map #[] 0) ∧ Below w.heap.size w W1 ∧ Hid (W1.heap.size = w.heap.size + 4) ∧ Row W1 w.heap.size #[c0, c1, c2, c3, c4] 26 ∧ Row W1 (w.heap.size + 1) #[.int .i64 0, .int .i64 0, .int .u64 0, .string ⟨#[]⟩, .slice none 0 0] 26 ∧ Row W1 (w.heap.size + 2) #[.int .i64 0] 31 ∧ BoxesAt W1 (w.heap.size + 3) 0 (.map []) := by
  refine ⟨_, rfl, ?_, Lib.hid (by simp), (((Row.new w _ _).old _).old _).old _, ?_, ?_, ?_⟩
  · exact ((((Below.refl _ _).alloc (Nat.le_refl _) _).alloc (by simp) _).alloc (by simp; omega) _).alloc (by simp; omega) _
  · refine Row.old (Row.old ?_ _) _
    have h := Row.new (w.alloc (.cells #[c0, c1, c2, c3, c4] 26)) #[.int .i64 0, .int .i64 0, .int .u64 0, .string ⟨#[]⟩, .slice none 0 0] 26
    simpa using h
  · refine Row.old ?_ _
    have h := Row.new ((w.alloc (.cells #[c0, c1, c2, c3, c4] 26)).alloc (.cells #[.int .i64 0, .int .i64 0, .int .u64 0, .string ⟨#[]⟩, .slice none 0 0] 26)) #[.int .i64 0] 31
    simpa using h
  · have h := BoxesAt.made (((w.alloc (.cells #[c0, c1, c2, c3, c4] 26)).alloc (.cells #[.int .i64 0, .int .i64 0, .int .u64 0, .string ⟨#[]⟩, .slice none 0 0] 26)).alloc (.cells #[.int .i64 0] 31))
    simpa using h
theorem nobox : ∀ g, ∀ m, boxOf (DataW.map [] : DataW Unit) m ≠ some g := fun g m h => by
  have : boxOf (DataW.map [] : DataW Unit) m = none := rfl
  rw [this] at h
  cases h

/-- A value that does not open. -/
def NoOpen (u : Value) : Prop := ∀ w, (Instr.typeAssert u 20 203 true).run Tryz.prog w = .ok (.tuple #[.nilIface, .bool false]) w

set_option maxRecDepth 100000 in
set_option maxHeartbeats 1600000 in
theorem open_no {w0 : World} {k m b : Int} {t : ByteArray} {a : Option Addr} {l cap : Nat} {d : D} (hv : Rep w0 (.agg #[.int .i64 k, .int .i64 m, .int .u64 b, .string t, .slice a l cap]) d) (hR : Right d) (hp : d.parts ≤ 4096) (hu : ∀ F u, IV F d u → NoOpen u) (w : World) (hb0 : Below w0.heap.size w0 w) :
    Calls Tryz.prog 78 #[(.agg #[.int .i64 k, .int .i64 m, .int .u64 b, .string t, .slice a l cap])] w fun x w' => x = .returned (.tuple #[(.agg #[.int .i64 0, .int .i64 0, .int .u64 0, .string ⟨#[]⟩, .slice none 0 0]), .int .i64 12]) ∧ Below w.heap.size w w' := by
  have HV := Lib.hid (fun w M n F hb hw0 hbx hn => value_any hv hR w M n F hb hw0 hbx hn)
  have HB := Lib.hid hb0
  have HP := Lib.hid hp
  have HU := Lib.hid hu
  clear hv hR hp hb0 hu
  obtain ⟨W1, hW1, hb1, hz, hx1, hx2, hx3, hbx⟩ := open_worlds w (.int .i64 k) (.int .i64 m) (.int .u64 b) (.string t) (.slice a l cap)
  have p0 : W1.cell? ⟨w.heap.size, 0, none⟩ = some (.int .i64 k) := hx1.cell 0 rfl
  have p1 : W1.cell? ⟨w.heap.size, 1, none⟩ = some (.int .i64 m) := hx1.cell 1 rfl
  have p2 : W1.cell? ⟨w.heap.size, 2, none⟩ = some (.int .u64 b) := hx1.cell 2 rfl
  have p3 : W1.cell? ⟨w.heap.size, 3, none⟩ = some (.string t) := hx1.cell 3 rfl
  have p4 : W1.cell? ⟨w.heap.size, 4, none⟩ = some (.slice a l cap) := hx1.cell 4 rfl
  have hmm := @run_makeMap Tryz.prog
  go_enter_defers Tryz.func78, Tryz.ntmps78
  go_wp2_with fail
  rw [← hW1]
  clear hW1
  refine (HV.out W1 (w.heap.size + 3) 0 _ (HB.out.trans (hb1.mono HB.out.size)) (by have := HB.out.size; omega) hbx (by have := HP.out; omega)).mono ?_
  rintro e w2 ⟨u, F1, n1, rfl, hiv, hbx2, hn2, hst⟩
  have hts := HU.out _ _ hiv
  unfold NoOpen at hts
  have hzo := hz.out
  have hy2 := hst.row hx2 (by omega) (by omega) (nobox _)
  have hy3 := hst.row hx3 (by omega) (by omega) (nobox _)
  have hbw : Below w.heap.size w w2 := hb1.trans (hst.below.mono (by omega))
  clear hiv hzo
  have y0 : w2.cell? ⟨w.heap.size + 1, 0, none⟩ = some (.int .i64 0) := hy2.cell 0 rfl
  have fy0 := hy2.thaw 0
  have y1 : w2.cell? ⟨w.heap.size + 1, 1, none⟩ = some (.int .i64 0) := hy2.cell 1 rfl
  have fy1 := hy2.thaw 1
  have y2 : w2.cell? ⟨w.heap.size + 1, 2, none⟩ = some (.int .u64 0) := hy2.cell 2 rfl
  have fy2 := hy2.thaw 2
  have y3 : w2.cell? ⟨w.heap.size + 1, 3, none⟩ = some (.string ⟨#[]⟩) := hy2.cell 3 rfl
  have fy3 := hy2.thaw 3
  have y4 : w2.cell? ⟨w.heap.size + 1, 4, none⟩ = some (.slice none 0 0) := hy2.cell 4 rfl
  have fy4 := hy2.thaw 4
  have z0 : w2.cell? ⟨w.heap.size + 2, 0, none⟩ = some (.int .i64 0) := hy3.cell 0 rfl
  have fz0 := hy3.thaw 0
  dsimp only
  go_wp2_with fail
  have e1 : w.heap.size + 1 ≠ w.heap.size + 2 := by omega
  have g2 := ((((((hy2.set 0 (.int .i64 0)).set 1 (.int .i64 0)).set 2 (.int .u64 0)).set 3 (.string ⟨#[]⟩)).set 4 (.slice none 0 0)).other 0 (.int .i64 12) e1)
  have g3 := ((((((hy3.other 0 (.int .i64 0) e1.symm).other 1 (.int .i64 0) e1.symm).other 2 (.int .u64 0) e1.symm).other 3 (.string ⟨#[]⟩) e1.symm).other 4 (.slice none 0 0) e1.symm).set 0 (.int .i64 12))
  have hbf := ((((((hbw.setCell (p := ⟨w.heap.size + 1, 0, none⟩) (by simp) (.int .i64 0)).setCell (p := ⟨w.heap.size + 1, 1, none⟩) (by simp) (.int .i64 0)).setCell (p := ⟨w.heap.size + 1, 2, none⟩) (by simp) (.int .u64 0)).setCell (p := ⟨w.heap.size + 1, 3, none⟩) (by simp) (.string ⟨#[]⟩)).setCell (p := ⟨w.heap.size + 1, 4, none⟩) (by simp) (.slice none 0 0)).setCell (p := ⟨w.heap.size + 2, 0, none⟩) (by simp) (.int .i64 12))
  show Leaves _ _ _ _ _ _ ((((((w2.setCell ⟨w.heap.size + 1, 0, none⟩ (.int .i64 0)).setCell ⟨w.heap.size + 1, 1, none⟩ (.int .i64 0)).setCell ⟨w.heap.size + 1, 2, none⟩ (.int .u64 0)).setCell ⟨w.heap.size + 1, 3, none⟩ (.string ⟨#[]⟩)).setCell ⟨w.heap.size + 1, 4, none⟩ (.slice none 0 0)).setCell ⟨w.heap.size + 2, 0, none⟩ (.int .i64 12))
  generalize ((((((w2.setCell ⟨w.heap.size + 1, 0, none⟩ (.int .i64 0)).setCell ⟨w.heap.size + 1, 1, none⟩ (.int .i64 0)).setCell ⟨w.heap.size + 1, 2, none⟩ (.int .u64 0)).setCell ⟨w.heap.size + 1, 3, none⟩ (.string ⟨#[]⟩)).setCell ⟨w.heap.size + 1, 4, none⟩ (.slice none 0 0)).setCell ⟨w.heap.size + 2, 0, none⟩ (.int .i64 12)) = Wf at *
  have a0 : Wf.cell? ⟨w.heap.size + 1, 0, none⟩ = some (.int .i64 0) := g2.cell 0 rfl
  have a1 : Wf.cell? ⟨w.heap.size + 1, 1, none⟩ = some (.int .i64 0) := g2.cell 1 rfl
  have a2 : Wf.cell? ⟨w.heap.size + 1, 2, none⟩ = some (.int .u64 0) := g2.cell 2 rfl
  have a3 : Wf.cell? ⟨w.heap.size + 1, 3, none⟩ = some (.string ⟨#[]⟩) := g2.cell 3 rfl
  have a4 : Wf.cell? ⟨w.heap.size + 1, 4, none⟩ = some (.slice none 0 0) := g2.cell 4 rfl
  have b0 : Wf.cell? ⟨w.heap.size + 2, 0, none⟩ = some (.int .i64 12) := g3.cell 0 rfl
  refine ⟨_, ?_, rfl, hbf⟩
  clear g2 g3 hbf
  simp [results, Tryz.results78, asAddr, a0, a1, a2, a3, a4, b0, go_sem]
end Go.Proofs.YtecdniimikfbhaaGreat

/- Contracts of guard's number and boolean, of act's size, and of the law's awake. -/
namespace Go.Proofs.YtecdniimikfbhaaGreat
open Go Go.RowKit Go.ChangeShapes Go.WideShapes

/-- A number. -/
def numD (n : Int) : D := .mk 1 n 0 ⟨#[]⟩ []
def numV (n : Int) : Value := .agg #[.int .i64 1, .int .i64 n, .int .u64 0, .string ⟨#[]⟩, .slice none 0 0]
theorem rep_plain (w : World) (k m : Int) (hk : (Lit.int .i64 k).wf = true) (hm : (Lit.int .i64 m).wf = true) : Rep w (.agg #[.int .i64 k, .int .i64 m, .int .u64 0, .string ⟨#[]⟩, .slice none 0 0]) (.mk k m 0 ⟨#[]⟩ []) :=
  .mk k m 0 ⟨#[]⟩ none 0 0 0 (fun _ _ => .bool false) [] ⟨hk, hm, by decide, by decide⟩ (fun h => absurd h (by simp)) (fun i hi => absurd hi (by simp)) (fun i x hx => by simp at hx)
theorem slim_plain (k m b : Int) (t : ByteArray) : Slim (.mk k m b t []) := .mk _ _ _ _ _ (by simp) (fun x hx => by cases hx)
theorem wf_small {n : Int} (h0 : -9223372036854775808 ≤ n) (h1 : n ≤ 9223372036854775807) : (Lit.int .i64 n).wf = true := by
  have e1 : IntKind.i64.min = -9223372036854775808 := by decide
  have e2 : IntKind.i64.max = 9223372036854775807 := by decide
  simp only [Lit.wf, e1, e2, Bool.and_eq_true, decide_eq_true_eq]
  exact ⟨h0, h1⟩
theorem gnumber_any (n : Int) (w : World) : Calls Tryz.prog 74 #[.int .i64 n] w fun x w' => x = .returned (numV n) ∧ Below w.heap.size w w' := by
  go_enter Tryz.func74, Tryz.ntmps74
  go_wp2_with fail
  exact bodyPost_ret (results_cell_row rfl _ _ w.heap.size 26 _ (0, 0) _ rfl (heap_alloc_new w _) Tryz.underlying26 rfl (by kernel_rfl)) rfl ⟨rfl, by go_grown⟩
theorem gboolean_true (w : World) : Calls Tryz.prog 80 #[.bool true] w fun x w' => x = .returned (.agg #[.int .i64 6, .int .i64 1, .int .u64 0, .string ⟨#[]⟩, .slice none 0 0]) ∧ Below w.heap.size w w' := by
  go_enter Tryz.func80, Tryz.ntmps80
  go_wp2_with fail
  exact bodyPost_ret (results_cell_row rfl _ _ w.heap.size 26 _ (0, 0) _ rfl (heap_alloc_new w _) Tryz.underlying26 rfl (by kernel_rfl)) rfl ⟨rfl, by go_grown⟩
theorem gboolean_false (w : World) : Calls Tryz.prog 80 #[.bool false] w fun x w' => x = .returned (.agg #[.int .i64 6, .int .i64 0, .int .u64 0, .string ⟨#[]⟩, .slice none 0 0]) ∧ Below w.heap.size w w' := by
  go_enter Tryz.func80, Tryz.ntmps80
  go_wp2_with fail
  exact bodyPost_ret (results_cell_row rfl _ _ w.heap.size 26 _ (0, 0) _ rfl (heap_alloc_new w _) Tryz.underlying26 rfl (by kernel_rfl)) rfl ⟨rfl, by go_grown⟩

set_option maxRecDepth 100000 in
set_option maxHeartbeats 1600000 in
theorem act_size {w0 : World} {k m b : Int} {t : ByteArray} {a : Option Addr} {l cap : Nat} {d : D} (hv : Rep w0 (.agg #[.int .i64 k, .int .i64 m, .int .u64 b, .string t, .slice a l cap]) d) (hR : Right d) (hp : d.parts ≤ 4096) (s : Int) (hn : lenD d = some s) (hw : (Lit.int .i64 s).wf = true) (b0 b1 b2 b3 b4 : Value) (n : Int) (w : World) (hb0 : Below w0.heap.size w0 w) :
    Calls Tryz.prog 62 #[.agg #[.int .i64 10, .int .i64 k, .int .i64 m, .int .u64 b, .string t, .slice a l cap, b0, b1, b2, b3, b4, .int .i64 n]] w fun x w' => ∃ v', x = .returned v' ∧ ResV w' (fun b => w.heap.size ≤ b) v' (.gave (numD s)) ∧ Below w.heap.size w w' := by
  have HL := Lib.hid (fun W h => length_some hv hR hp s hn W h)
  have HG := Lib.hid (fun W => gave_any (rep_plain W 1 s (by decide) hw) (slim_plain _ _ _ _) W (Below.refl _ _))
  clear hv hR hp hn hw
  have HB := Lib.hid hb0
  clear hb0
  obtain ⟨W1, hW1, hb1, hz, hx1, hx2⟩ := act_worlds w (.int .i64 10) (.int .i64 k) (.int .i64 m) (.int .u64 b) (.string t) (.slice a l cap) (b0) (b1) (b2) (b3) (b4) (.int .i64 n)
  have p0 : W1.cell? ⟨w.heap.size, 0, none⟩ = some (.int .i64 10) := hx1.cell 0 rfl
  have p1 : W1.cell? ⟨w.heap.size, 1, none⟩ = some (.int .i64 k) := hx1.cell 1 rfl
  have p2 : W1.cell? ⟨w.heap.size, 2, none⟩ = some (.int .i64 m) := hx1.cell 2 rfl
  have p3 : W1.cell? ⟨w.heap.size, 3, none⟩ = some (.int .u64 b) := hx1.cell 3 rfl
  have p4 : W1.cell? ⟨w.heap.size, 4, none⟩ = some (.string t) := hx1.cell 4 rfl
  have p5 : W1.cell? ⟨w.heap.size, 5, none⟩ = some (.slice a l cap) := hx1.cell 5 rfl
  have p6 : W1.cell? ⟨w.heap.size, 6, none⟩ = some (b0) := hx1.cell 6 rfl
  have p7 : W1.cell? ⟨w.heap.size, 7, none⟩ = some (b1) := hx1.cell 7 rfl
  have p8 : W1.cell? ⟨w.heap.size, 8, none⟩ = some (b2) := hx1.cell 8 rfl
  have p9 : W1.cell? ⟨w.heap.size, 9, none⟩ = some (b3) := hx1.cell 9 rfl
  have p10 : W1.cell? ⟨w.heap.size, 10, none⟩ = some (b4) := hx1.cell 10 rfl
  have p11 : W1.cell? ⟨w.heap.size, 11, none⟩ = some (.int .i64 n) := hx1.cell 11 rfl
  go_enter Tryz.func62, Tryz.ntmps62
  go_upto_region 1 with fail
  rw [← hW1]
  clear hW1
  go_wp2_with (first | (go_at_call 73; refine (HL.out _ (HB.out.trans (hb1.mono HB.out.size))).mono ?_; rintro e w2 ⟨rfl, hb2⟩) | (go_at_call 74; refine (gnumber_any _ _).mono ?_; rintro e w3 ⟨rfl, hb3⟩; unfold numV) | (go_at_call 66; refine (HG.out _).mono ?_; rintro e w4 ⟨v', rfl, hv', hb4⟩; obtain ⟨r0, r1, r2, r3, r4, k5, m5, b5, t5, a5, n5, cap5, rfl⟩ := hv'.form; have hb23 : Below W1.heap.size W1 w4 := (hb2.trans (hb3.mono hb2.size)).trans (hb4.mono (Nat.le_trans hb2.size hb3.size)); have hzl := Nat.le_trans hb2.size hb3.size; have hy := hx2.later hb23; have q0 : w4.cell? ⟨w.heap.size + 1, 0, none⟩ = some (.int .i64 0) := hy.cell 0 rfl; have f0 := hy.thaw 0; have q1 : w4.cell? ⟨w.heap.size + 1, 1, none⟩ = some (.int .i64 0) := hy.cell 1 rfl; have f1 := hy.thaw 1; have q2 : w4.cell? ⟨w.heap.size + 1, 2, none⟩ = some (.int .i64 0) := hy.cell 2 rfl; have f2 := hy.thaw 2; have q3 : w4.cell? ⟨w.heap.size + 1, 3, none⟩ = some (.int .i64 0) := hy.cell 3 rfl; have f3 := hy.thaw 3; have q4 : w4.cell? ⟨w.heap.size + 1, 4, none⟩ = some (.bool false) := hy.cell 4 rfl; have f4 := hy.thaw 4; have q5 : w4.cell? ⟨w.heap.size + 1, 5, none⟩ = some (.int .i64 0) := hy.cell 5 rfl; have f5 := hy.thaw 5; have q6 : w4.cell? ⟨w.heap.size + 1, 6, none⟩ = some (.int .i64 0) := hy.cell 6 rfl; have f6 := hy.thaw 6; have q7 : w4.cell? ⟨w.heap.size + 1, 7, none⟩ = some (.int .u64 0) := hy.cell 7 rfl; have f7 := hy.thaw 7; have q8 : w4.cell? ⟨w.heap.size + 1, 8, none⟩ = some (.string ⟨#[]⟩) := hy.cell 8 rfl; have f8 := hy.thaw 8; have q9 : w4.cell? ⟨w.heap.size + 1, 9, none⟩ = some (.slice none 0 0) := hy.cell 9 rfl; have f9 := hy.thaw 9; dsimp only))
  have hzo := hz.out
  exact bodyPost_ret (results_cell_row rfl _ _ (w.heap.size + 1) 35 _ (0, 0) _ rfl (hy.set10 _ _ _ _ _ _ _ _ _ _) Tryz.underlying35 rfl (by kernel_rfl)) rfl
    ⟨_, rfl, hv'.set10 (by omega) (by omega), set10_below (hb1.trans (hb23.mono (by omega))) (by omega)⟩

set_option maxRecDepth 100000 in
set_option maxHeartbeats 1600000 in
theorem act_size_no {w0 : World} {k m b : Int} {t : ByteArray} {a : Option Addr} {l cap : Nat} {d : D} (hv : Rep w0 (.agg #[.int .i64 k, .int .i64 m, .int .u64 b, .string t, .slice a l cap]) d) (hR : Right d) (hp : d.parts ≤ 4096) (hn : lenD d = none) (b0 b1 b2 b3 b4 : Value) (n : Int) (w : World) (hb0 : Below w0.heap.size w0 w) :
    Calls Tryz.prog 62 #[.agg #[.int .i64 10, .int .i64 k, .int .i64 m, .int .u64 b, .string t, .slice a l cap, b0, b1, b2, b3, b4, .int .i64 n]] w fun x w' => ∃ v', x = .returned v' ∧ ResV w' (fun b => w.heap.size ≤ b) v' .err ∧ Below w.heap.size w w' := by
  have HL := Lib.hid (fun W h => length_none hv hR hp hn W h)
  clear hv hR hp hn
  have HB := Lib.hid hb0
  clear hb0
  obtain ⟨W1, hW1, hb1, hz, hx1, hx2⟩ := act_worlds w (.int .i64 10) (.int .i64 k) (.int .i64 m) (.int .u64 b) (.string t) (.slice a l cap) (b0) (b1) (b2) (b3) (b4) (.int .i64 n)
  have p0 : W1.cell? ⟨w.heap.size, 0, none⟩ = some (.int .i64 10) := hx1.cell 0 rfl
  have p1 : W1.cell? ⟨w.heap.size, 1, none⟩ = some (.int .i64 k) := hx1.cell 1 rfl
  have p2 : W1.cell? ⟨w.heap.size, 2, none⟩ = some (.int .i64 m) := hx1.cell 2 rfl
  have p3 : W1.cell? ⟨w.heap.size, 3, none⟩ = some (.int .u64 b) := hx1.cell 3 rfl
  have p4 : W1.cell? ⟨w.heap.size, 4, none⟩ = some (.string t) := hx1.cell 4 rfl
  have p5 : W1.cell? ⟨w.heap.size, 5, none⟩ = some (.slice a l cap) := hx1.cell 5 rfl
  have p6 : W1.cell? ⟨w.heap.size, 6, none⟩ = some (b0) := hx1.cell 6 rfl
  have p7 : W1.cell? ⟨w.heap.size, 7, none⟩ = some (b1) := hx1.cell 7 rfl
  have p8 : W1.cell? ⟨w.heap.size, 8, none⟩ = some (b2) := hx1.cell 8 rfl
  have p9 : W1.cell? ⟨w.heap.size, 9, none⟩ = some (b3) := hx1.cell 9 rfl
  have p10 : W1.cell? ⟨w.heap.size, 10, none⟩ = some (b4) := hx1.cell 10 rfl
  have p11 : W1.cell? ⟨w.heap.size, 11, none⟩ = some (.int .i64 n) := hx1.cell 11 rfl
  go_enter Tryz.func62, Tryz.ntmps62
  go_upto_region 1 with fail
  rw [← hW1]
  clear hW1
  go_wp2_with (go_at_call 73; refine (HL.out _ (HB.out.trans (hb1.mono HB.out.size))).mono ?_; rintro e w2 ⟨rfl, hb2⟩; have hy := hx2.later hb2; have q0 : w2.cell? ⟨w.heap.size + 1, 0, none⟩ = some (.int .i64 0) := hy.cell 0 rfl; have f0 := hy.thaw 0; have q1 : w2.cell? ⟨w.heap.size + 1, 1, none⟩ = some (.int .i64 0) := hy.cell 1 rfl; have f1 := hy.thaw 1; have q2 : w2.cell? ⟨w.heap.size + 1, 2, none⟩ = some (.int .i64 0) := hy.cell 2 rfl; have f2 := hy.thaw 2; have q3 : w2.cell? ⟨w.heap.size + 1, 3, none⟩ = some (.int .i64 0) := hy.cell 3 rfl; have f3 := hy.thaw 3; have q4 : w2.cell? ⟨w.heap.size + 1, 4, none⟩ = some (.bool false) := hy.cell 4 rfl; have f4 := hy.thaw 4; have q5 : w2.cell? ⟨w.heap.size + 1, 5, none⟩ = some (.int .i64 0) := hy.cell 5 rfl; have f5 := hy.thaw 5; have q6 : w2.cell? ⟨w.heap.size + 1, 6, none⟩ = some (.int .i64 0) := hy.cell 6 rfl; have f6 := hy.thaw 6; have q7 : w2.cell? ⟨w.heap.size + 1, 7, none⟩ = some (.int .u64 0) := hy.cell 7 rfl; have f7 := hy.thaw 7; have q8 : w2.cell? ⟨w.heap.size + 1, 8, none⟩ = some (.string ⟨#[]⟩) := hy.cell 8 rfl; have f8 := hy.thaw 8; have q9 : w2.cell? ⟨w.heap.size + 1, 9, none⟩ = some (.slice none 0 0) := hy.cell 9 rfl; have f9 := hy.thaw 9)
  have hzo := hz.out
  exact bodyPost_ret (results_cell_row rfl _ _ (w.heap.size + 1) 35 _ (0, 0) _ rfl (hy.set10 _ _ _ _ _ _ _ _ _ _) Tryz.underlying35 rfl (by kernel_rfl)) rfl
    ⟨_, rfl, rfl, set10_below (hb1.trans (hb2.mono (by omega))) (by omega)⟩

theorem try_own7 (w : World) : Calls Tryz.prog 53 #[.agg #[.int .i64 8, .int .i64 0, .int .i64 0, .int .u64 0, .string ⟨#[]⟩, .slice none 0 0, .int .i64 0, .int .i64 0, .int .u64 0, .string ⟨#[]⟩, .slice none 0 0, .int .i64 7]] w fun x w' => x = .returned (.agg #[.int .i64 110, .int .i64 0, .int .i64 1, .int .i64 7, .bool false, .int .i64 0, .int .i64 0, .int .u64 0, .string ⟨#[]⟩, .slice none 0 0]) ∧ Below w.heap.size w w' :=
  (try_pan _ _ _ _ _ _ _ _ _ _ _ _ _ _ 1 7 (told_2 7) w (fun W _ => act_own _ _ _ _ _ 7 W)).mono fun x w' ⟨v', hx, hv, hb⟩ => ⟨by rw [hx, show v' = _ from hv], hb⟩
theorem try_give5 (w : World) : Calls Tryz.prog 53 #[.agg #[.int .i64 1, .int .i64 1, .int .i64 5, .int .u64 0, .string ⟨#[]⟩, .slice none 0 0, .int .i64 0, .int .i64 0, .int .u64 0, .string ⟨#[]⟩, .slice none 0 0, .int .i64 0]] w fun x w' => ∃ b t a l cap, x = .returned (.agg #[.int .i64 0, .int .i64 0, .int .i64 0, .int .i64 0, .bool true, .int .i64 1, .int .i64 5, .int .u64 b, .string t, .slice a l cap]) ∧ Below w.heap.size w w' :=
  (try_ret _ _ _ _ _ _ _ _ _ _ _ _ _ w (fun W hW => act_give (rep_plain w 1 5 (by decide) (by decide)) (slim_plain _ _ _ _) _ _ _ _ _ 0 W hW)).mono fun x w' ⟨v', hx, hv, hb⟩ => by
    obtain ⟨k, m, b, t, a, n, cap, hv1, hv2⟩ := hv
    cases hv2
    exact ⟨0, ⟨#[]⟩, a, _, cap, by rw [hx, hv1], hb⟩
end Go.Proofs.YtecdniimikfbhaaGreat

/- '==' on the interface values of Datums. -/
namespace Go.Proofs.YtecdniimikfbhaaGreat
open Go Go.RowKit Go.ChangeShapes Go.WideShapes

theorem eq_1 (a b : Int) (w : World) : (binOp .eql 20 (.iface 148 (.int .i64 a)) (.iface 148 (.int .i64 b))).run Tryz.prog w = .ok (.bool (a == b)) w := by kernel_rfl
theorem eq_2 (a b : Int) (w : World) : (binOp .eql 20 (.iface 149 (.int .i64 a)) (.iface 149 (.int .i64 b))).run Tryz.prog w = .ok (.bool (a == b)) w := by kernel_rfl
theorem eq_3 (a b : Nat) (w : World) : (binOp .eql 20 (.iface 91 (.float .f64 a)) (.iface 91 (.float .f64 b))).run Tryz.prog w = .ok (.bool (Op.floatEq .f64 a b)) w := by kernel_rfl
theorem eq_4 (a b : ByteArray) (w : World) : (binOp .eql 20 (.iface 151 (.string a)) (.iface 151 (.string b))).run Tryz.prog w = .ok (.bool (a == b)) w := by kernel_rfl
theorem eq_5 (a b : ByteArray) (w : World) : (binOp .eql 20 (.iface 152 (.string a)) (.iface 152 (.string b))).run Tryz.prog w = .ok (.bool (a == b)) w := by kernel_rfl
theorem eq_6 (a b : Bool) (w : World) : (binOp .eql 20 (.iface 153 (.bool a)) (.iface 153 (.bool b))).run Tryz.prog w = .ok (.bool (a == b)) w := by kernel_rfl
theorem eq_13  (w : World) : (binOp .eql 20 (.iface 164 (.agg #[])) (.iface 164 (.agg #[]))).run Tryz.prog w = .ok (.bool (true)) w := by kernel_rfl
theorem eq_nil (w : World) : (binOp .eql 20 .nilIface .nilIface).run Tryz.prog w = .ok (.bool true) w := by kernel_rfl
theorem eq_nil1 (T : TypeId) (v : Value) (w : World) : (binOp .eql 20 .nilIface (.iface T v)).run Tryz.prog w = .ok (.bool false) w := by kernel_rfl
theorem eq_nil2 (T : TypeId) (v : Value) (w : World) : (binOp .eql 20 (.iface T v) .nilIface).run Tryz.prog w = .ok (.bool false) w := by kernel_rfl
theorem eq_11_00 (w : World) : (binOp .eql 20 (.iface 161 (.pointer none)) (.iface 161 (.pointer none))).run Tryz.prog w = .ok (.bool true) w := by kernel_rfl
theorem eq_11_01 (a : Addr) (w : World) : (binOp .eql 20 (.iface 161 (.pointer none)) (.iface 161 (.pointer (some a)))).run Tryz.prog w = .ok (.bool false) w := by kernel_rfl
theorem eq_11_10 (a : Addr) (w : World) : (binOp .eql 20 (.iface 161 (.pointer (some a))) (.iface 161 (.pointer none))).run Tryz.prog w = .ok (.bool false) w := by kernel_rfl
theorem eq_diff {T U : TypeId} (h : T ≠ U) (x y : Value) (w : World) : (binOp .eql 20 (.iface T x) (.iface U y)).run Tryz.prog w = .ok (.bool false) w := run_eql_iface_types T U x y Tryz.underlying20 h w
theorem info_box : (Tryz.prog.info? 161).map (fun i => i.comparable) = some true := by kernel_rfl
theorem info_box1 : (Tryz.prog.info? 163).map (fun i => i.size) = some 2 := by kernel_rfl
theorem eq_11_same (a : Addr) (w : World) : (binOp .eql 20 (.iface 161 (.pointer (some a))) (.iface 161 (.pointer (some a)))).run Tryz.prog w = .ok (.bool true) w := by
  obtain ⟨i, hi, hc⟩ := Option.map_eq_some_iff.1 info_box
  obtain ⟨j, hj, _⟩ := Option.map_eq_some_iff.1 info_box1
  exact run_eql_iface_ptr_same w a Tryz.underlying20 Tryz.underlying161 hi hc hj
theorem eq_11_other {w : World} {g g' : Nat} {cs cs' : Array Value} (hne : g ≠ g') (h : Row w g cs 163) (h' : Row w g' cs' 163) : (binOp .eql 20 (.iface 161 (.pointer (some ⟨g, 0, none⟩))) (.iface 161 (.pointer (some ⟨g', 0, none⟩)))).run Tryz.prog w = .ok (.bool false) w := by
  obtain ⟨i, hi, hc⟩ := Option.map_eq_some_iff.1 info_box
  obtain ⟨j, hj, hs⟩ := Option.map_eq_some_iff.1 info_box1
  exact run_eql_iface_ptr_other w Tryz.underlying20 Tryz.underlying161 hi hc hj (by rw [hs]; decide) (fun e => hne (congrArg Addr.block e)) h h'
theorem eq_same {T : TypeId} (hT : (Tryz.prog.info? T).map (fun i => i.comparable) = some true) (x y : Value) (r : Bool) (w : World) (h : (Op.equalIn 9999 T x y).run Tryz.prog w = .ok r w) : (binOp .eql 20 (.iface T x) (.iface T y)).run Tryz.prog w = .ok (.bool r) w := by
  obtain ⟨i, hi, hc⟩ := Option.map_eq_some_iff.1 hT
  have h2 : ∀ d : Nat, (Op.equalIn (d + 1) 20 (.iface T x) (.iface T y)).run Tryz.prog w = (Op.equalIn d T x y).run Tryz.prog w := fun d => by
    simp [Op.equalIn, run_underlying Tryz.underlying20, typeInfo, hi, hc]
  simp only [binOp]
  simp [Op.equal, Op.maxDepth, h2 9999, h]
theorem eqIn_int {T : TypeId} (hT : Tryz.prog.underlying T = some (.int .i64)) (a b : Int) (w : World) (d : Nat) : (Op.equalIn (d + 1) T (.int .i64 a) (.int .i64 b)).run Tryz.prog w = .ok (a == b) w := by
  simp [Op.equalIn, run_underlying hT]
theorem eqIn_str {T : TypeId} (hT : Tryz.prog.underlying T = some .string) (a b : ByteArray) (w : World) (d : Nat) : (Op.equalIn (d + 1) T (.string a) (.string b)).run Tryz.prog w = .ok (a == b) w := by
  simp [Op.equalIn, run_underlying hT]
theorem list2 {α : Type} {l : List α} (h : l.length = 2) : ∃ a b, l = [a, b] := by
  match l, h with
  | [a, b], _ => exact ⟨a, b, rfl⟩
theorem eq_10 (a b : Int) (s t : ByteArray) (w : World) : (binOp .eql 20 (.iface 160 (.agg #[.int .i64 a, .string s])) (.iface 160 (.agg #[.int .i64 b, .string t]))).run Tryz.prog w = .ok (.bool (a == b && s == t)) w := by
  refine eq_same (by kernel_rfl) _ _ _ _ ?_
  rw [run_equalIn_struct w 9998 160 _ _ (by kernel_rfl) (by kernel_rfl)]
  have hf : (Tryz.prog.fieldsOf 160).toList.map (fun f => (f.name, f.type, f.offset)) = [("code", 2, 0), ("words", 9, 1)] := by kernel_rfl
  have hp1 : ∀ w, (part 2 #[.int .i64 a, .string s] 0).run Tryz.prog w = .ok (.int .i64 a) w := fun _ => by kernel_rfl
  have hp2 : ∀ w, (part 2 #[.int .i64 b, .string t] 0).run Tryz.prog w = .ok (.int .i64 b) w := fun _ => by kernel_rfl
  have hp3 : ∀ w, (part 9 #[.int .i64 a, .string s] 1).run Tryz.prog w = .ok (.string s) w := fun _ => by kernel_rfl
  have hp4 : ∀ w, (part 9 #[.int .i64 b, .string t] 1).run Tryz.prog w = .ok (.string t) w := fun _ => by kernel_rfl
  have hi := fun w => eqIn_int Tryz.underlying2 a b w 9997
  have hs := fun w => eqIn_str Tryz.underlying9 s t w 9997
  obtain ⟨f1, f2, hl⟩ := list2 (show (Tryz.prog.fieldsOf 160).toList.length = 2 by have := congrArg List.length hf; simpa using this)
  rw [hl] at hf
  simp only [List.map_cons, List.map_nil, List.cons.injEq, Prod.mk.injEq, and_true] at hf
  obtain ⟨⟨n1, t1, o1⟩, n2, t2, o2⟩ := hf
  rw [hl]
  simp only [Op.eqFields, n1, t1, o1, n2, t2, o2]
  cases h : (a == b) <;> cases h2 : (s == t) <;> simp [hp1, hp2, hp3, hp4, hi, hs, h, h2]
theorem eq_bad {T : TypeId} (hT : (Tryz.prog.info? T).map (fun i => i.comparable) = some false) (hh : Tryz.prog.holdsPacked Tryz.prog.depth T = false) (hs : ((Tryz.prog.info? T).map fun i => i.str.isEmpty) = some false) (x y : Value) : ∃ U z, ∀ w, (binOp .eql 20 (.iface T x) (.iface T y)).run Tryz.prog w = .halt (.panic (.iface U z)) w := by
  obtain ⟨i, hi, hc⟩ := Option.map_eq_some_iff.1 hT
  obtain ⟨j, hj, hs'⟩ := Option.map_eq_some_iff.1 hs
  rw [hi] at hj
  cases hj
  have hs2 : ¬ i.str = "" := fun e => by rw [e] at hs'; cases hs'
  have h2 : ∃ U z, ∀ (d : Nat) (w : World), (Op.equalIn (d + 1) 20 (.iface T x) (.iface T y)).run Tryz.prog w = .halt (.panic (.iface U z)) w := ⟨_, _, fun d w => by
    simp [Op.equalIn, run_underlying Tryz.underlying20, typeInfo, hi, hc, hh, typeStr, runtimePanic]
    rw [if_neg hs2]⟩
  obtain ⟨U, z, h3⟩ := h2
  refine ⟨U, z, fun w => ?_⟩
  simp only [binOp]
  simp [Op.equal, Op.maxDepth, h3 9999]
end Go.Proofs.YtecdniimikfbhaaGreat

/- datum's equal, of values that are not both pairs. -/
namespace Go.Proofs.YtecdniimikfbhaaGreat
open Go Go.RowKit Go.ChangeShapes Go.WideShapes

/-- The world in which '==' is asked. -/
def eqWorld (w : World) (x0 x1 y0 y1 : Value) : World := (w.alloc (.cells #[x0, x1] 158)).alloc (.cells #[y0, y1] 158)
theorem eqWorld_below (w : World) (x0 x1 y0 y1 : Value) : Below w.heap.size w (eqWorld w x0 x1 y0 y1) := ((Below.refl _ _).alloc (Nat.le_refl _) _).alloc (by simp) _
/-- An assertion to a pair. -/
def AsPair (u x0 x1 : Value) (ok : Bool) : Prop := ∀ w, (Instr.typeAssert u 20 158 true).run Tryz.prog w = .ok (.tuple #[.agg #[x0, x1], .bool ok]) w
set_option maxRecDepth 100000 in
theorem flat_ret_ii (T U : TypeId) (x y : Value) (x0 x1 y0 y1 : Value) (a b : Bool) (hab : (a && b) = false) (r : Bool) (w : World) (h0 : x0.oneCell' = true) (h1 : x1.oneCell' = true) (h2 : y0.oneCell' = true) (h3 : y1.oneCell' = true) (hu : AsPair (.iface T x) x0 x1 a) (hv : AsPair (.iface U y) y0 y1 b)
    (h : (binOp .eql 20 (.iface T x) (.iface U y)).run Tryz.prog (eqWorld w x0 x1 y0 y1) = .ok (.bool r) (eqWorld w x0 x1 y0 y1)) : Calls Tryz.prog 88 #[.iface T x, .iface U y] w fun x w' => x = .returned (.bool r) ∧ Below w.heap.size w w' := by
  unfold AsPair at hu hv
  unfold eqWorld at h
  have s0 := fun w a => run_store Tryz.prog w a x0 .plain h0
  have s1 := fun w a => run_store Tryz.prog w a x1 .plain h1
  have s2 := fun w a => run_store Tryz.prog w a y0 .plain h2
  have s3 := fun w a => run_store Tryz.prog w a y1 .plain h3
  clear h0 h1 h2 h3
  cases a <;> cases b <;> first | (exact absurd hab (by decide)) | skip
  all_goals
    clear hab
    go_enter Tryz.func88, Tryz.ntmps88
    go_wp2_with fail
    go_ret
    exact ⟨rfl, by go_grown⟩
set_option maxRecDepth 100000 in
theorem flat_pan_ii (T U : TypeId) (x y : Value) (x0 x1 y0 y1 : Value) (a b : Bool) (hab : (a && b) = false) (V : TypeId) (z : Value) (w : World) (h0 : x0.oneCell' = true) (h1 : x1.oneCell' = true) (h2 : y0.oneCell' = true) (h3 : y1.oneCell' = true) (hu : AsPair (.iface T x) x0 x1 a) (hv : AsPair (.iface U y) y0 y1 b)
    (h : (binOp .eql 20 (.iface T x) (.iface U y)).run Tryz.prog (eqWorld w x0 x1 y0 y1) = .halt (.panic (.iface V z)) (eqWorld w x0 x1 y0 y1)) : Calls Tryz.prog 88 #[.iface T x, .iface U y] w fun x w' => x = .panicked (thrown V z) ∧ Below w.heap.size w w' := by
  unfold AsPair at hu hv
  unfold eqWorld at h
  have s0 := fun w a => run_store Tryz.prog w a x0 .plain h0
  have s1 := fun w a => run_store Tryz.prog w a x1 .plain h1
  have s2 := fun w a => run_store Tryz.prog w a y0 .plain h2
  have s3 := fun w a => run_store Tryz.prog w a y1 .plain h3
  clear h0 h1 h2 h3
  cases a <;> cases b <;> first | (exact absurd hab (by decide)) | skip
  all_goals
    clear hab
    go_enter Tryz.func88, Tryz.ntmps88
    go_wp2_with fail
    exact ⟨rfl, rfl, by go_grown⟩
set_option maxRecDepth 100000 in
theorem flat_ret_in (T : TypeId) (x : Value) (x0 x1 y0 y1 : Value) (a b : Bool) (hab : (a && b) = false) (r : Bool) (w : World) (h0 : x0.oneCell' = true) (h1 : x1.oneCell' = true) (h2 : y0.oneCell' = true) (h3 : y1.oneCell' = true) (hu : AsPair (.iface T x) x0 x1 a) (hv : AsPair (.nilIface) y0 y1 b)
    (h : (binOp .eql 20 (.iface T x) (.nilIface)).run Tryz.prog (eqWorld w x0 x1 y0 y1) = .ok (.bool r) (eqWorld w x0 x1 y0 y1)) : Calls Tryz.prog 88 #[.iface T x, .nilIface] w fun x w' => x = .returned (.bool r) ∧ Below w.heap.size w w' := by
  unfold AsPair at hu hv
  unfold eqWorld at h
  have s0 := fun w a => run_store Tryz.prog w a x0 .plain h0
  have s1 := fun w a => run_store Tryz.prog w a x1 .plain h1
  have s2 := fun w a => run_store Tryz.prog w a y0 .plain h2
  have s3 := fun w a => run_store Tryz.prog w a y1 .plain h3
  clear h0 h1 h2 h3
  cases a <;> cases b <;> first | (exact absurd hab (by decide)) | skip
  all_goals
    clear hab
    go_enter Tryz.func88, Tryz.ntmps88
    go_wp2_with fail
    go_ret
    exact ⟨rfl, by go_grown⟩
set_option maxRecDepth 100000 in
theorem flat_pan_in (T : TypeId) (x : Value) (x0 x1 y0 y1 : Value) (a b : Bool) (hab : (a && b) = false) (V : TypeId) (z : Value) (w : World) (h0 : x0.oneCell' = true) (h1 : x1.oneCell' = true) (h2 : y0.oneCell' = true) (h3 : y1.oneCell' = true) (hu : AsPair (.iface T x) x0 x1 a) (hv : AsPair (.nilIface) y0 y1 b)
    (h : (binOp .eql 20 (.iface T x) (.nilIface)).run Tryz.prog (eqWorld w x0 x1 y0 y1) = .halt (.panic (.iface V z)) (eqWorld w x0 x1 y0 y1)) : Calls Tryz.prog 88 #[.iface T x, .nilIface] w fun x w' => x = .panicked (thrown V z) ∧ Below w.heap.size w w' := by
  unfold AsPair at hu hv
  unfold eqWorld at h
  have s0 := fun w a => run_store Tryz.prog w a x0 .plain h0
  have s1 := fun w a => run_store Tryz.prog w a x1 .plain h1
  have s2 := fun w a => run_store Tryz.prog w a y0 .plain h2
  have s3 := fun w a => run_store Tryz.prog w a y1 .plain h3
  clear h0 h1 h2 h3
  cases a <;> cases b <;> first | (exact absurd hab (by decide)) | skip
  all_goals
    clear hab
    go_enter Tryz.func88, Tryz.ntmps88
    go_wp2_with fail
    exact ⟨rfl, rfl, by go_grown⟩
set_option maxRecDepth 100000 in
theorem flat_ret_ni (U : TypeId) (y : Value) (x0 x1 y0 y1 : Value) (a b : Bool) (hab : (a && b) = false) (r : Bool) (w : World) (h0 : x0.oneCell' = true) (h1 : x1.oneCell' = true) (h2 : y0.oneCell' = true) (h3 : y1.oneCell' = true) (hu : AsPair (.nilIface) x0 x1 a) (hv : AsPair (.iface U y) y0 y1 b)
    (h : (binOp .eql 20 (.nilIface) (.iface U y)).run Tryz.prog (eqWorld w x0 x1 y0 y1) = .ok (.bool r) (eqWorld w x0 x1 y0 y1)) : Calls Tryz.prog 88 #[.nilIface, .iface U y] w fun x w' => x = .returned (.bool r) ∧ Below w.heap.size w w' := by
  unfold AsPair at hu hv
  unfold eqWorld at h
  have s0 := fun w a => run_store Tryz.prog w a x0 .plain h0
  have s1 := fun w a => run_store Tryz.prog w a x1 .plain h1
  have s2 := fun w a => run_store Tryz.prog w a y0 .plain h2
  have s3 := fun w a => run_store Tryz.prog w a y1 .plain h3
  clear h0 h1 h2 h3
  cases a <;> cases b <;> first | (exact absurd hab (by decide)) | skip
  all_goals
    clear hab
    go_enter Tryz.func88, Tryz.ntmps88
    go_wp2_with fail
    go_ret
    exact ⟨rfl, by go_grown⟩
set_option maxRecDepth 100000 in
theorem flat_pan_ni (U : TypeId) (y : Value) (x0 x1 y0 y1 : Value) (a b : Bool) (hab : (a && b) = false) (V : TypeId) (z : Value) (w : World) (h0 : x0.oneCell' = true) (h1 : x1.oneCell' = true) (h2 : y0.oneCell' = true) (h3 : y1.oneCell' = true) (hu : AsPair (.nilIface) x0 x1 a) (hv : AsPair (.iface U y) y0 y1 b)
    (h : (binOp .eql 20 (.nilIface) (.iface U y)).run Tryz.prog (eqWorld w x0 x1 y0 y1) = .halt (.panic (.iface V z)) (eqWorld w x0 x1 y0 y1)) : Calls Tryz.prog 88 #[.nilIface, .iface U y] w fun x w' => x = .panicked (thrown V z) ∧ Below w.heap.size w w' := by
  unfold AsPair at hu hv
  unfold eqWorld at h
  have s0 := fun w a => run_store Tryz.prog w a x0 .plain h0
  have s1 := fun w a => run_store Tryz.prog w a x1 .plain h1
  have s2 := fun w a => run_store Tryz.prog w a y0 .plain h2
  have s3 := fun w a => run_store Tryz.prog w a y1 .plain h3
  clear h0 h1 h2 h3
  cases a <;> cases b <;> first | (exact absurd hab (by decide)) | skip
  all_goals
    clear hab
    go_enter Tryz.func88, Tryz.ntmps88
    go_wp2_with fail
    exact ⟨rfl, rfl, by go_grown⟩
theorem tp_nil (w : World) : (Instr.typeAssert .nilIface 20 158 true).run Tryz.prog w = .ok (.tuple #[.agg #[.nilIface, .nilIface], .bool false]) w := by kernel_rfl
theorem guard_nil (w : World) : (eqGuard .eql 20 (.tmp 35) (.tmp 36) .nilIface .nilIface).run Tryz.prog w = .ok () w := by kernel_rfl
set_option maxRecDepth 100000 in
theorem flat_nn (w : World) : Calls Tryz.prog 88 #[.nilIface, .nilIface] w fun x w' => x = .returned (.bool true) ∧ Below w.heap.size w w' := by
  have h1 := tp_nil
  have h2 := guard_nil
  have h3 := eq_nil
  go_enter Tryz.func88, Tryz.ntmps88
  go_wp2_with fail
  go_ret
  exact ⟨rfl, by go_grown⟩
end Go.Proofs.YtecdniimikfbhaaGreat
