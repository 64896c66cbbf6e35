/- Guard: contracts, joined texts (G51, G56, G57, G59, G60). -/
import Derived.Test.YtecdniimikfbhaaGreatDoorM03
import Derived.Test.YtecdniimikfbhaaGreatDoorM05
import Derived.Test.YtecdniimikfbhaaGreatDoorM07

/- datum's equal, of values that are not both pairs. -/
namespace Go.Proofs.YtecdniimikfbhaaGreatDoor
open Go Go.RowKit Go.ChangeShapes Go.WideShapes

/-- The world in which '==' is asked. -/
def eqWorld (w : World) (x0 x1 y0 y1 : Value) : World := (w.alloc (.cells #[x0, x1] 126)).alloc (.cells #[y0, y1] 126)
theorem eqWorld_below (w : World) (x0 x1 y0 y1 : Value) : Below w.heap.size w (eqWorld w x0 x1 y0 y1) := ((Below.refl _ _).alloc (Nat.le_refl _) _).alloc (by simp) _
/-- An assertion to a pair. -/
def AsPair (u x0 x1 : Value) (ok : Bool) : Prop := ∀ w, (Instr.typeAssert u 20 126 true).run Tryz.prog w = .ok (.tuple #[.agg #[x0, x1], .bool ok]) w
set_option maxRecDepth 100000 in
theorem flat_ret_ii (T U : TypeId) (x y : Value) (x0 x1 y0 y1 : Value) (a b : Bool) (hab : (a && b) = false) (r : Bool) (w : World) (h0 : x0.oneCell' = true) (h1 : x1.oneCell' = true) (h2 : y0.oneCell' = true) (h3 : y1.oneCell' = true) (hu : AsPair (.iface T x) x0 x1 a) (hv : AsPair (.iface U y) y0 y1 b)
    (h : (binOp .eql 20 (.iface T x) (.iface U y)).run Tryz.prog (eqWorld w x0 x1 y0 y1) = .ok (.bool r) (eqWorld w x0 x1 y0 y1)) : Calls Tryz.prog 109 #[.iface T x, .iface U y] w fun x w' => x = .returned (.bool r) ∧ Below w.heap.size w w' := by
  unfold AsPair at hu hv
  unfold eqWorld at h
  have s0 := fun w a => run_store Tryz.prog w a x0 .plain h0
  have s1 := fun w a => run_store Tryz.prog w a x1 .plain h1
  have s2 := fun w a => run_store Tryz.prog w a y0 .plain h2
  have s3 := fun w a => run_store Tryz.prog w a y1 .plain h3
  clear h0 h1 h2 h3
  cases a <;> cases b <;> first | (exact absurd hab (by decide)) | skip
  all_goals
    clear hab
    go_enter Tryz.func109, Tryz.ntmps109
    go_wp2_with fail
    go_ret
    exact ⟨rfl, by go_grown⟩
set_option maxRecDepth 100000 in
theorem flat_pan_ii (T U : TypeId) (x y : Value) (x0 x1 y0 y1 : Value) (a b : Bool) (hab : (a && b) = false) (V : TypeId) (z : Value) (w : World) (h0 : x0.oneCell' = true) (h1 : x1.oneCell' = true) (h2 : y0.oneCell' = true) (h3 : y1.oneCell' = true) (hu : AsPair (.iface T x) x0 x1 a) (hv : AsPair (.iface U y) y0 y1 b)
    (h : (binOp .eql 20 (.iface T x) (.iface U y)).run Tryz.prog (eqWorld w x0 x1 y0 y1) = .halt (.panic (.iface V z)) (eqWorld w x0 x1 y0 y1)) : Calls Tryz.prog 109 #[.iface T x, .iface U y] w fun x w' => x = .panicked (thrown V z) ∧ Below w.heap.size w w' := by
  unfold AsPair at hu hv
  unfold eqWorld at h
  have s0 := fun w a => run_store Tryz.prog w a x0 .plain h0
  have s1 := fun w a => run_store Tryz.prog w a x1 .plain h1
  have s2 := fun w a => run_store Tryz.prog w a y0 .plain h2
  have s3 := fun w a => run_store Tryz.prog w a y1 .plain h3
  clear h0 h1 h2 h3
  cases a <;> cases b <;> first | (exact absurd hab (by decide)) | skip
  all_goals
    clear hab
    go_enter Tryz.func109, Tryz.ntmps109
    go_wp2_with fail
    exact ⟨rfl, rfl, by go_grown⟩
set_option maxRecDepth 100000 in
theorem flat_ret_in (T : TypeId) (x : Value) (x0 x1 y0 y1 : Value) (a b : Bool) (hab : (a && b) = false) (r : Bool) (w : World) (h0 : x0.oneCell' = true) (h1 : x1.oneCell' = true) (h2 : y0.oneCell' = true) (h3 : y1.oneCell' = true) (hu : AsPair (.iface T x) x0 x1 a) (hv : AsPair (.nilIface) y0 y1 b)
    (h : (binOp .eql 20 (.iface T x) (.nilIface)).run Tryz.prog (eqWorld w x0 x1 y0 y1) = .ok (.bool r) (eqWorld w x0 x1 y0 y1)) : Calls Tryz.prog 109 #[.iface T x, .nilIface] w fun x w' => x = .returned (.bool r) ∧ Below w.heap.size w w' := by
  unfold AsPair at hu hv
  unfold eqWorld at h
  have s0 := fun w a => run_store Tryz.prog w a x0 .plain h0
  have s1 := fun w a => run_store Tryz.prog w a x1 .plain h1
  have s2 := fun w a => run_store Tryz.prog w a y0 .plain h2
  have s3 := fun w a => run_store Tryz.prog w a y1 .plain h3
  clear h0 h1 h2 h3
  cases a <;> cases b <;> first | (exact absurd hab (by decide)) | skip
  all_goals
    clear hab
    go_enter Tryz.func109, Tryz.ntmps109
    go_wp2_with fail
    go_ret
    exact ⟨rfl, by go_grown⟩
set_option maxRecDepth 100000 in
theorem flat_pan_in (T : TypeId) (x : Value) (x0 x1 y0 y1 : Value) (a b : Bool) (hab : (a && b) = false) (V : TypeId) (z : Value) (w : World) (h0 : x0.oneCell' = true) (h1 : x1.oneCell' = true) (h2 : y0.oneCell' = true) (h3 : y1.oneCell' = true) (hu : AsPair (.iface T x) x0 x1 a) (hv : AsPair (.nilIface) y0 y1 b)
    (h : (binOp .eql 20 (.iface T x) (.nilIface)).run Tryz.prog (eqWorld w x0 x1 y0 y1) = .halt (.panic (.iface V z)) (eqWorld w x0 x1 y0 y1)) : Calls Tryz.prog 109 #[.iface T x, .nilIface] w fun x w' => x = .panicked (thrown V z) ∧ Below w.heap.size w w' := by
  unfold AsPair at hu hv
  unfold eqWorld at h
  have s0 := fun w a => run_store Tryz.prog w a x0 .plain h0
  have s1 := fun w a => run_store Tryz.prog w a x1 .plain h1
  have s2 := fun w a => run_store Tryz.prog w a y0 .plain h2
  have s3 := fun w a => run_store Tryz.prog w a y1 .plain h3
  clear h0 h1 h2 h3
  cases a <;> cases b <;> first | (exact absurd hab (by decide)) | skip
  all_goals
    clear hab
    go_enter Tryz.func109, Tryz.ntmps109
    go_wp2_with fail
    exact ⟨rfl, rfl, by go_grown⟩
set_option maxRecDepth 100000 in
theorem flat_ret_ni (U : TypeId) (y : Value) (x0 x1 y0 y1 : Value) (a b : Bool) (hab : (a && b) = false) (r : Bool) (w : World) (h0 : x0.oneCell' = true) (h1 : x1.oneCell' = true) (h2 : y0.oneCell' = true) (h3 : y1.oneCell' = true) (hu : AsPair (.nilIface) x0 x1 a) (hv : AsPair (.iface U y) y0 y1 b)
    (h : (binOp .eql 20 (.nilIface) (.iface U y)).run Tryz.prog (eqWorld w x0 x1 y0 y1) = .ok (.bool r) (eqWorld w x0 x1 y0 y1)) : Calls Tryz.prog 109 #[.nilIface, .iface U y] w fun x w' => x = .returned (.bool r) ∧ Below w.heap.size w w' := by
  unfold AsPair at hu hv
  unfold eqWorld at h
  have s0 := fun w a => run_store Tryz.prog w a x0 .plain h0
  have s1 := fun w a => run_store Tryz.prog w a x1 .plain h1
  have s2 := fun w a => run_store Tryz.prog w a y0 .plain h2
  have s3 := fun w a => run_store Tryz.prog w a y1 .plain h3
  clear h0 h1 h2 h3
  cases a <;> cases b <;> first | (exact absurd hab (by decide)) | skip
  all_goals
    clear hab
    go_enter Tryz.func109, Tryz.ntmps109
    go_wp2_with fail
    go_ret
    exact ⟨rfl, by go_grown⟩
set_option maxRecDepth 100000 in
theorem flat_pan_ni (U : TypeId) (y : Value) (x0 x1 y0 y1 : Value) (a b : Bool) (hab : (a && b) = false) (V : TypeId) (z : Value) (w : World) (h0 : x0.oneCell' = true) (h1 : x1.oneCell' = true) (h2 : y0.oneCell' = true) (h3 : y1.oneCell' = true) (hu : AsPair (.nilIface) x0 x1 a) (hv : AsPair (.iface U y) y0 y1 b)
    (h : (binOp .eql 20 (.nilIface) (.iface U y)).run Tryz.prog (eqWorld w x0 x1 y0 y1) = .halt (.panic (.iface V z)) (eqWorld w x0 x1 y0 y1)) : Calls Tryz.prog 109 #[.nilIface, .iface U y] w fun x w' => x = .panicked (thrown V z) ∧ Below w.heap.size w w' := by
  unfold AsPair at hu hv
  unfold eqWorld at h
  have s0 := fun w a => run_store Tryz.prog w a x0 .plain h0
  have s1 := fun w a => run_store Tryz.prog w a x1 .plain h1
  have s2 := fun w a => run_store Tryz.prog w a y0 .plain h2
  have s3 := fun w a => run_store Tryz.prog w a y1 .plain h3
  clear h0 h1 h2 h3
  cases a <;> cases b <;> first | (exact absurd hab (by decide)) | skip
  all_goals
    clear hab
    go_enter Tryz.func109, Tryz.ntmps109
    go_wp2_with fail
    exact ⟨rfl, rfl, by go_grown⟩
theorem tp_nil (w : World) : (Instr.typeAssert .nilIface 20 126 true).run Tryz.prog w = .ok (.tuple #[.agg #[.nilIface, .nilIface], .bool false]) w := by kernel_rfl
theorem guard_nil (w : World) : (eqGuard .eql 20 (.tmp 35) (.tmp 36) .nilIface .nilIface).run Tryz.prog w = .ok () w := by kernel_rfl
set_option maxRecDepth 100000 in
theorem flat_nn (w : World) : Calls Tryz.prog 109 #[.nilIface, .nilIface] w fun x w' => x = .returned (.bool true) ∧ Below w.heap.size w w' := by
  have h1 := tp_nil
  have h2 := guard_nil
  have h3 := eq_nil
  go_enter Tryz.func109, Tryz.ntmps109
  go_wp2_with fail
  go_ret
  exact ⟨rfl, by go_grown⟩
end Go.Proofs.YtecdniimikfbhaaGreatDoor

/- Contract of datum's Open of a nil box. -/
namespace Go.Proofs.YtecdniimikfbhaaGreatDoor
open Go Go.RowKit Go.ChangeShapes Go.WideShapes

theorem open1_panicking (g4 g5 : Nat) (T : TypeId) (v y : Value) (hne : g4 ≠ g5) (older : List PanicEntry) (w : World) (hx : Row w g4 #[.int .i64 0, .int .i64 0, .int .u64 0, .string ⟨#[]⟩, .slice none 0 0] 25) (hy : Row w g5 #[y] 29) :
    CallsD Tryz.prog 106 #[.pointer (some ⟨g4, 0, none⟩), .pointer (some ⟨g5, 0, none⟩)] (.panicking ({ v := .iface T v, recovered := false } :: older)) w fun e u' w' =>
      e = .returned (.tuple #[]) ∧ u' = .panicking ({ v := .iface T v, recovered := true } :: older) ∧ w' = ((((((w.setCell ⟨g4, 0, none⟩ (.int .i64 0)).setCell ⟨g4, 1, none⟩ (.int .i64 0)).setCell ⟨g4, 2, none⟩ (.int .u64 0)).setCell ⟨g4, 3, none⟩ (.string ⟨#[]⟩)).setCell ⟨g4, 4, none⟩ (.slice none 0 0)).setCell ⟨g5, 0, none⟩ (.int .i64 13)) := by
  refine callsD_of_wpS Tryz.func106 rfl fun c₀ cs hu => ?_
  have p0 : w.cell? ⟨g4, 0, none⟩ = some (.int .i64 0) := hx.cell 0 rfl
  have fp0 := hx.thaw 0
  have p1 : w.cell? ⟨g4, 1, none⟩ = some (.int .i64 0) := hx.cell 1 rfl
  have fp1 := hx.thaw 1
  have p2 : w.cell? ⟨g4, 2, none⟩ = some (.int .u64 0) := hx.cell 2 rfl
  have fp2 := hx.thaw 2
  have p3 : w.cell? ⟨g4, 3, none⟩ = some (.string ⟨#[]⟩) := hx.cell 3 rfl
  have fp3 := hx.thaw 3
  have p4 : w.cell? ⟨g4, 4, none⟩ = some (.slice none 0 0) := hx.cell 4 rfl
  have fp4 := hx.thaw 4
  have q0 : w.cell? ⟨g5, 0, none⟩ = some (y) := hy.cell 0 rfl
  have fq0 := hy.thaw 0
  have e1 : g5 ≠ g4 := hne.symm
  have hq := eq_nil2 T v
  simp only [Tryz.ntmps106, List.size_toArray, List.length_cons, List.length_nil, Nat.reduceAdd, Nat.reduceSub, Array.replicate_succ, Array.replicate_zero, List.push_toArray, List.append_toArray, List.nil_append, List.cons_append]
  apply wpS_seq
  apply wpS_region
  simp [wpOpsS, go_sem, recoverD, hu, Exit.thenS]
  refine wpS_of_wp ?_
  go_wp2_with fail
  exact ⟨rfl, _, rfl, .tuple #[], results_none rfl _ _ _, rfl, rfl, rfl⟩
theorem open1_idle (p q : Value) (w : World) :
    CallsD Tryz.prog 106 #[p, q] .returning w fun e u' w' => e = .returned (.tuple #[]) ∧ u' = .returning ∧ w = w' := by
  refine callsD_of_wpS Tryz.func106 rfl fun c₀ cs hu => ?_
  simp only [Tryz.ntmps106, List.size_toArray, List.length_cons, List.length_nil, Nat.reduceAdd, Nat.reduceSub, Array.replicate_succ, Array.replicate_zero, List.push_toArray, List.append_toArray, List.nil_append, List.cons_append]
  apply wpS_seq
  apply wpS_region
  simp [wpOpsS, go_sem, recoverD, hu, Exit.thenS]
  refine wpS_of_wp ?_
  go_wp2_with fail
  cases c₀
  cases hu
  exact ⟨rfl, _, rfl, .tuple #[], results_none rfl _ _ _, rfl, rfl, rfl⟩

theorem boxopen_nil (w : World) : Calls Tryz.prog 145 #[.pointer none] w fun x w' => (∃ T z, x = .panicked (thrown T z)) ∧ w = w' := by
  go_enter Tryz.func145, Tryz.ntmps145
  go_wp2_with fail
  exact ⟨rfl, ⟨_, _, rfl⟩, rfl⟩
theorem boxopen_some (w : World) (g : Nat) (m : Int) (x : Value) (h : Row w g #[.int .i64 m, x] 131) : Calls Tryz.prog 145 #[.pointer (some ⟨g, 0, none⟩)] w fun y w' => y = .returned x ∧ w = w' := by
  have p1 : w.cell? ⟨g, 1, none⟩ = some x := h.cell 1 rfl
  go_enter Tryz.func145, Tryz.ntmps145
  go_wp2_with fail
  go_ret
  exact ⟨rfl, rfl⟩

set_option maxRecDepth 100000 in
set_option maxHeartbeats 1600000 in
theorem open_nil {w0 : World} {k m b : Int} {t : ByteArray} {a : Option Addr} {l cap : Nat} {d : D} (hv : Rep w0 (.agg #[.int .i64 k, .int .i64 m, .int .u64 b, .string t, .slice a l cap]) d) (hR : Right d) (hp : d.parts ≤ 4096) (hk : d.kind = 12) (w : World) (hb0 : Below w0.heap.size w0 w) :
    Calls Tryz.prog 97 #[(.agg #[.int .i64 k, .int .i64 m, .int .u64 b, .string t, .slice a l cap])] w fun x w' => x = .returned (.tuple #[(.agg #[.int .i64 0, .int .i64 0, .int .u64 0, .string ⟨#[]⟩, .slice none 0 0]), .int .i64 13]) ∧ Below w.heap.size w w' := by
  have HV := Lib.hid (fun w M n F hb hw0 hbx hn => value_any hv hR w M n F hb hw0 hbx hn)
  have HB := Lib.hid hb0
  have HP := Lib.hid hp
  have HU := Lib.hid (show ∀ F u, IV F d u → u = .iface 129 (.pointer none) by
    intro F u hu
    cases hu <;> first | (simp [D.kind] at hk; done) | rfl)
  have hmf := hmf
  clear hv hR hp hb0 hk
  obtain ⟨W1, hW1, hb1, hz, hx1, hx2, hx3, hbx⟩ := open_worlds w (.int .i64 k) (.int .i64 m) (.int .u64 b) (.string t) (.slice a l cap)
  have p0 : W1.cell? ⟨w.heap.size, 0, none⟩ = some (.int .i64 k) := hx1.cell 0 rfl
  have p1 : W1.cell? ⟨w.heap.size, 1, none⟩ = some (.int .i64 m) := hx1.cell 1 rfl
  have p2 : W1.cell? ⟨w.heap.size, 2, none⟩ = some (.int .u64 b) := hx1.cell 2 rfl
  have p3 : W1.cell? ⟨w.heap.size, 3, none⟩ = some (.string t) := hx1.cell 3 rfl
  have p4 : W1.cell? ⟨w.heap.size, 4, none⟩ = some (.slice a l cap) := hx1.cell 4 rfl
  have hmm := @run_makeMap Tryz.prog
  go_enter_defers Tryz.func97, Tryz.ntmps97
  go_wp2_with fail
  rw [← hW1]
  clear hW1
  refine (HV.out W1 (w.heap.size + 3) 0 _ (HB.out.trans (hb1.mono HB.out.size)) (by have := HB.out.size; omega) hbx (by have := HP.out; omega)).mono ?_
  rintro e w2 ⟨u, F1, n1, rfl, hiv, hbx2, hn2, hst⟩
  obtain rfl := HU.out _ _ hiv
  have hts := to_11 (.pointer none)
  have hme : ∀ w, (method 350 129 (.pointer none) "conduit/datum.open").run Tryz.prog w = .ok (145, .pointer none) w := fun w => by kernel_rfl
  have hen : ∀ w, (callFunc 145 #[.pointer none]).run Tryz.prog w = .ok (.enter 145 #[.pointer none]) w := fun w => by kernel_rfl
  have hzo := hz.out
  have hy2 := hst.row hx2 (by omega) (by omega) (nobox _)
  have hy3 := hst.row hx3 (by omega) (by omega) (nobox _)
  have hbw : Below w.heap.size w w2 := hb1.trans (hst.below.mono (by omega))
  clear hiv hzo
  dsimp only
  go_wp2_with ((refine (boxopen_nil _).mono ?_); rintro e w3 ⟨⟨T, z, rfl⟩, rfl⟩)
  refine leaves_cons (f := 106) (args := #[.pointer (some ⟨w.heap.size + 1, 0, none⟩), .pointer (some ⟨w.heap.size + 1 + 1, 0, none⟩)]) (by simp) (by simp [go_sem]) ?_
  refine (open1_panicking (w.heap.size + 1) (w.heap.size + 1 + 1) T z _ (by omega) [] w2 hy2 hy3).mono ?_
  rintro e u W' ⟨rfl, rfl, rfl⟩
  have e1 : w.heap.size + 1 ≠ w.heap.size + 2 := by omega
  have g2 := ((((((hy2.set 0 (.int .i64 0)).set 1 (.int .i64 0)).set 2 (.int .u64 0)).set 3 (.string ⟨#[]⟩)).set 4 (.slice none 0 0)).other 0 (.int .i64 13) e1)
  have g3 := ((((((hy3.other 0 (.int .i64 0) e1.symm).other 1 (.int .i64 0) e1.symm).other 2 (.int .u64 0) e1.symm).other 3 (.string ⟨#[]⟩) e1.symm).other 4 (.slice none 0 0) e1.symm).set 0 (.int .i64 13))
  have hbf := ((((((hbw.setCell (p := ⟨w.heap.size + 1, 0, none⟩) (by simp) (.int .i64 0)).setCell (p := ⟨w.heap.size + 1, 1, none⟩) (by simp) (.int .i64 0)).setCell (p := ⟨w.heap.size + 1, 2, none⟩) (by simp) (.int .u64 0)).setCell (p := ⟨w.heap.size + 1, 3, none⟩) (by simp) (.string ⟨#[]⟩)).setCell (p := ⟨w.heap.size + 1, 4, none⟩) (by simp) (.slice none 0 0)).setCell (p := ⟨w.heap.size + 2, 0, none⟩) (by simp) (.int .i64 13))
  --((((((w2.setCell ⟨w.heap.size + 1, 0, none⟩ (.int .i64 0)).setCell ⟨w.heap.size + 1, 1, none⟩ (.int .i64 0)).setCell ⟨w.heap.size + 1, 2, none⟩ (.int .u64 0)).setCell ⟨w.heap.size + 1, 3, none⟩ (.string ⟨#[]⟩)).setCell ⟨w.heap.size + 1, 4, none⟩ (.slice none 0 0)).setCell ⟨w.heap.size + 2, 0, none⟩ (.int .i64 13))
  generalize ((((((w2.setCell ⟨w.heap.size + 1, 0, none⟩ (.int .i64 0)).setCell ⟨w.heap.size + 1, 1, none⟩ (.int .i64 0)).setCell ⟨w.heap.size + 1, 2, none⟩ (.int .u64 0)).setCell ⟨w.heap.size + 1, 3, none⟩ (.string ⟨#[]⟩)).setCell ⟨w.heap.size + 1, 4, none⟩ (.slice none 0 0)).setCell ⟨w.heap.size + 2, 0, none⟩ (.int .i64 13)) = Wf at *
  have a0 : Wf.cell? ⟨w.heap.size + 1, 0, none⟩ = some (.int .i64 0) := g2.cell 0 rfl
  have a1 : Wf.cell? ⟨w.heap.size + 1, 1, none⟩ = some (.int .i64 0) := g2.cell 1 rfl
  have a2 : Wf.cell? ⟨w.heap.size + 1, 2, none⟩ = some (.int .u64 0) := g2.cell 2 rfl
  have a3 : Wf.cell? ⟨w.heap.size + 1, 3, none⟩ = some (.string ⟨#[]⟩) := g2.cell 3 rfl
  have a4 : Wf.cell? ⟨w.heap.size + 1, 4, none⟩ = some (.slice none 0 0) := g2.cell 4 rfl
  have b0 : Wf.cell? ⟨w.heap.size + 2, 0, none⟩ = some (.int .i64 13) := g3.cell 0 rfl
  refine ⟨_, ?_, rfl, hbf⟩
  clear g2 g3 hbf
  simp [results, Tryz.results97, asAddr, a0, a1, a2, a3, a4, b0, go_sem]
end Go.Proofs.YtecdniimikfbhaaGreatDoor

/- Contract of datum's Open of a box. -/
namespace Go.Proofs.YtecdniimikfbhaaGreatDoor
open Go Go.RowKit Go.ChangeShapes Go.WideShapes

set_option maxRecDepth 100000 in
set_option maxHeartbeats 3200000 in
theorem open_box {w0 : World} {k m b : Int} {t : ByteArray} {g o cap : Nat} {x : D} (hv : Rep w0 (.agg #[.int .i64 k, .int .i64 m, .int .u64 b, .string t, .slice (some ⟨g, o, none⟩) 1 cap]) (.mk k m b t [x])) (hk : k = 11) (hR : Right (.mk k m b t [x])) (hp : (D.mk k m b t [x]).parts ≤ 4096)
    {k2 m2 b2 : Int} {t2 : ByteArray} {a2 : Option Addr} {n2 cap2 : Nat} (ha : g < w0.heap.size ∧ 1 ≤ cap ∧ cap ≤ 9223372036854775807)
    (hc : w0.cell? ⟨g, o, none⟩ = some (.int .i64 k2) ∧ w0.cell? ⟨g, o + 1, none⟩ = some (.int .i64 m2) ∧ w0.cell? ⟨g, o + 2, none⟩ = some (.int .u64 b2) ∧ w0.cell? ⟨g, o + 3, none⟩ = some (.string t2) ∧ w0.cell? ⟨g, o + 4, none⟩ = some (.slice a2 n2 cap2)) (hx : Rep w0 (.agg #[.int .i64 k2, .int .i64 m2, .int .u64 b2, .string t2, .slice a2 n2 cap2]) x) (hs : Slim x) (w : World) (hb0 : Below w0.heap.size w0 w) :
    Calls Tryz.prog 97 #[(.agg #[.int .i64 k, .int .i64 m, .int .u64 b, .string t, .slice (some ⟨g, o, none⟩) 1 cap])] w fun y w' => ∃ v', y = .returned (.tuple #[v', .int .i64 0]) ∧ RepQ w' (fun b => w.heap.size ≤ b) v' x ∧ Below w.heap.size w w' := by
  have HV := Lib.hid (fun w M n F hb hw0 hbx hn => value_any hv hR w M n F hb hw0 hbx hn)
  have HC := Lib.hid (fun w hb => dclone_any hx hs w hb)
  have HB := Lib.hid hb0
  have HP := Lib.hid hp
  have HA := Lib.hid ha
  have HU := Lib.hid (show ∀ F u, IV F (.mk k m b t [x]) u → ∃ p, u = .iface 129 (.pointer (some ⟨p, 0, none⟩)) ∧ boxOf F m = some p by
    subst hk
    intro F u hu
    cases hu
    case ptr p hg => exact ⟨p, rfl, hg⟩)
  have hmf := hmf
  clear hv hR hp hb0 hk hx hs ha
  obtain ⟨i0, i1, i2, i3, i4⟩ := hc
  obtain ⟨W1, hW1, hb1, hz, hx1, hx2, hx3, hbx⟩ := open_worlds w (.int .i64 k) (.int .i64 m) (.int .u64 b) (.string t) (.slice (some ⟨g, o, none⟩) 1 cap)
  have p0 : W1.cell? ⟨w.heap.size, 0, none⟩ = some (.int .i64 k) := hx1.cell 0 rfl
  have p1 : W1.cell? ⟨w.heap.size, 1, none⟩ = some (.int .i64 m) := hx1.cell 1 rfl
  have p2 : W1.cell? ⟨w.heap.size, 2, none⟩ = some (.int .u64 b) := hx1.cell 2 rfl
  have p3 : W1.cell? ⟨w.heap.size, 3, none⟩ = some (.string t) := hx1.cell 3 rfl
  have p4 : W1.cell? ⟨w.heap.size, 4, none⟩ = some (.slice (some ⟨g, o, none⟩) 1 cap) := hx1.cell 4 rfl
  have hmm := @run_makeMap Tryz.prog
  go_enter_defers Tryz.func97, Tryz.ntmps97
  go_wp2_with fail
  rw [← hW1]
  clear hW1
  refine (HV.out W1 (w.heap.size + 3) 0 _ (HB.out.trans (hb1.mono HB.out.size)) (by have := HB.out.size; omega) hbx (by have := HP.out; omega)).mono ?_
  rintro e w2 ⟨u, F1, n1, rfl, hiv, hbx2, hn2, hst⟩
  obtain ⟨p, rfl, hbo⟩ := HU.out _ _ hiv
  have hts := to_11 (.pointer (some ⟨p, 0, none⟩))
  have hme : ∀ w, (method 350 129 (.pointer (some ⟨p, 0, none⟩)) "conduit/datum.open").run Tryz.prog w = .ok (145, .pointer (some ⟨p, 0, none⟩)) w := fun w => by kernel_rfl
  have hen : ∀ w, (callFunc 145 #[.pointer (some ⟨p, 0, none⟩)]).run Tryz.prog w = .ok (.enter 145 #[.pointer (some ⟨p, 0, none⟩)]) w := fun w => by kernel_rfl
  have hzo := hz.out
  have h02 : Below w0.heap.size w0 w2 := HB.out.trans ((hb1.trans (hst.below.mono (by omega))).mono HB.out.size)
  have hy1 := hst.row hx1 (by omega) (by omega) (nobox _)
  have hy2 := hst.row hx2 (by omega) (by omega) (nobox _)
  have hy3 := hst.row hx3 (by omega) (by omega) (nobox _)
  have hbw : Below w.heap.size w w2 := hb1.trans (hst.below.mono (by omega))
  have HX := Lib.hid ((hbx2.2 m p hbo).2)
  have hgl : g < w0.heap.size := HA.out.1
  have hgl := Lib.hid hgl
  have hcap : 1 ≤ cap ∧ cap ≤ 9223372036854775807 := HA.out.2
  have H02 := Lib.hid h02
  have s4 : w2.cell? ⟨w.heap.size, 4, none⟩ = some (.slice (some ⟨g, o, none⟩) 1 cap) := hy1.cell 4 rfl
  have j0 : w2.cell? ⟨g, o, none⟩ = some (.int .i64 k2) := (h02.cell (p := ⟨g, o, none⟩) hgl.out).trans i0
  have j1 : w2.cell? ⟨g, o + 1, none⟩ = some (.int .i64 m2) := (h02.cell (p := ⟨g, o + 1, none⟩) hgl.out).trans i1
  have j2 : w2.cell? ⟨g, o + 2, none⟩ = some (.int .u64 b2) := (h02.cell (p := ⟨g, o + 2, none⟩) hgl.out).trans i2
  have j3 : w2.cell? ⟨g, o + 3, none⟩ = some (.string t2) := (h02.cell (p := ⟨g, o + 3, none⟩) hgl.out).trans i3
  have j4 : w2.cell? ⟨g, o + 4, none⟩ = some (.slice a2 n2 cap2) := (h02.cell (p := ⟨g, o + 4, none⟩) hgl.out).trans i4
  clear hiv hzo h02
  dsimp only
  go_wp2_with (first
    | (go_at_call 145; obtain ⟨xx, hxx⟩ := HX.out; refine (boxopen_some _ p m xx hxx).mono ?_; rintro e w3 ⟨rfl, rfl⟩; dsimp only)
    | (go_at_call 107; refine (HC.out _ H02.out).mono ?_; rintro e w4 ⟨v', rfl, hv', hb4⟩; obtain ⟨k5, m5, b5, t5, a5, n5, cap5, rfl⟩ := hv'.form; have z2 := hy2.later hb4; have z3 := hy3.later hb4; have y0 : w4.cell? ⟨w.heap.size + 1, 0, none⟩ = some (.int .i64 0) := z2.cell 0 rfl; have fy0 := z2.thaw 0; have y1 : w4.cell? ⟨w.heap.size + 1, 1, none⟩ = some (.int .i64 0) := z2.cell 1 rfl; have fy1 := z2.thaw 1; have y2 : w4.cell? ⟨w.heap.size + 1, 2, none⟩ = some (.int .u64 0) := z2.cell 2 rfl; have fy2 := z2.thaw 2; have y3 : w4.cell? ⟨w.heap.size + 1, 3, none⟩ = some (.string ⟨#[]⟩) := z2.cell 3 rfl; have fy3 := z2.thaw 3; have y4 : w4.cell? ⟨w.heap.size + 1, 4, none⟩ = some (.slice none 0 0) := z2.cell 4 rfl; have fy4 := z2.thaw 4; have z0 : w4.cell? ⟨w.heap.size + 2, 0, none⟩ = some (.int .i64 0) := z3.cell 0 rfl; have fz0 := z3.thaw 0; dsimp only))
  have hzo := hz.out
  refine leaves_cons (f := 106) (args := #[.pointer (some ⟨w.heap.size + 1, 0, none⟩), .pointer (some ⟨w.heap.size + 1 + 1, 0, none⟩)]) (by simp) (by simp [go_sem]) ?_
  refine (open1_idle _ _ _).mono ?_
  rintro e u' W' ⟨rfl, rfl, rfl⟩
  have hbz : Below w.heap.size w w4 := hbw.trans (hb4.mono hbw.size)
  have hl2 : W1.heap.size ≤ w2.heap.size := hst.below.size
  have e1 : w.heap.size + 1 ≠ w.heap.size + 1 + 1 := by omega
  have g2 := ((((((z2.set 0 (.int .i64 k5)).set 1 (.int .i64 m5)).set 2 (.int .u64 b5)).set 3 (.string t5)).set 4 (.slice a5 n5 cap5)).other 0 (.int .i64 0) e1)
  have g3 := (((((((show Row w4 (w.heap.size + 1 + 1) _ _ from z3).other 0 (.int .i64 k5) e1.symm).other 1 (.int .i64 m5) e1.symm).other 2 (.int .u64 b5) e1.symm).other 3 (.string t5) e1.symm).other 4 (.slice a5 n5 cap5) e1.symm).set 0 (.int .i64 0))
  have hbf := ((((((hbz.setCell (p := ⟨w.heap.size + 1, 0, none⟩) (by simp) (.int .i64 k5)).setCell (p := ⟨w.heap.size + 1, 1, none⟩) (by simp) (.int .i64 m5)).setCell (p := ⟨w.heap.size + 1, 2, none⟩) (by simp) (.int .u64 b5)).setCell (p := ⟨w.heap.size + 1, 3, none⟩) (by simp) (.string t5)).setCell (p := ⟨w.heap.size + 1, 4, none⟩) (by simp) (.slice a5 n5 cap5)).setCell (p := ⟨w.heap.size + 1 + 1, 0, none⟩) (by simp; omega) (.int .i64 0))
  have hQ := hv'.carry (w1 := ((((((w4.setCell ⟨w.heap.size + 1, 0, none⟩ (.int .i64 k5)).setCell ⟨w.heap.size + 1, 1, none⟩ (.int .i64 m5)).setCell ⟨w.heap.size + 1, 2, none⟩ (.int .u64 b5)).setCell ⟨w.heap.size + 1, 3, none⟩ (.string t5)).setCell ⟨w.heap.size + 1, 4, none⟩ (.slice a5 n5 cap5)).setCell ⟨w.heap.size + 1 + 1, 0, none⟩ (.int .i64 0))) (Q1 := fun b => w.heap.size ≤ b) (fun i hi _ => by
      have hi' : w2.heap.size ≤ i := hi
      have n1 : i ≠ w.heap.size + 1 := by omega
      have n2 : i ≠ w.heap.size + 1 + 1 := by omega
      exact ⟨by rw [heap_setCell_other _ _ _ _ n2, heap_setCell_other _ _ _ _ n1, heap_setCell_other _ _ _ _ n1, heap_setCell_other _ _ _ _ n1, heap_setCell_other _ _ _ _ n1, heap_setCell_other _ _ _ _ n1], by omega⟩) (by simp)
  generalize ((((((w4.setCell ⟨w.heap.size + 1, 0, none⟩ (.int .i64 k5)).setCell ⟨w.heap.size + 1, 1, none⟩ (.int .i64 m5)).setCell ⟨w.heap.size + 1, 2, none⟩ (.int .u64 b5)).setCell ⟨w.heap.size + 1, 3, none⟩ (.string t5)).setCell ⟨w.heap.size + 1, 4, none⟩ (.slice a5 n5 cap5)).setCell ⟨w.heap.size + 1 + 1, 0, none⟩ (.int .i64 0)) = Wf at *
  have a0 : Wf.cell? ⟨w.heap.size + 1, 0, none⟩ = some (.int .i64 k5) := g2.cell 0 rfl
  have a1 : Wf.cell? ⟨w.heap.size + 1, 1, none⟩ = some (.int .i64 m5) := g2.cell 1 rfl
  have a2 : Wf.cell? ⟨w.heap.size + 1, 2, none⟩ = some (.int .u64 b5) := g2.cell 2 rfl
  have a3 : Wf.cell? ⟨w.heap.size + 1, 3, none⟩ = some (.string t5) := g2.cell 3 rfl
  have a4 : Wf.cell? ⟨w.heap.size + 1, 4, none⟩ = some (.slice a5 n5 cap5) := g2.cell 4 rfl
  have b0 : Wf.cell? ⟨w.heap.size + 1 + 1, 0, none⟩ = some (.int .i64 0) := g3.cell 0 rfl
  refine ⟨_, ?_, _, rfl, hQ, hbf⟩
  clear g2 g3 hbf hQ
  simp [results, Tryz.results97, asAddr, a0, a1, a2, a3, a4, b0, go_sem]
end Go.Proofs.YtecdniimikfbhaaGreatDoor

/- Contracts of guard's open. -/
namespace Go.Proofs.YtecdniimikfbhaaGreatDoor
open Go Go.RowKit Go.ChangeShapes Go.WideShapes

theorem rows2 (w : World) (c0 c1 c2 c3 c4 : Value) : ∃ W1, W1 = (w.alloc (.cells #[c0, c1, c2, c3, c4] 25)).alloc (.cells #[.int .i64 0, .int .i64 0, .int .u64 0, .string ⟨#[]⟩, .slice none 0 0] 25) ∧ Below w.heap.size w W1 ∧ Hid (W1.heap.size = w.heap.size + 2) ∧ Row W1 w.heap.size #[c0, c1, c2, c3, c4] 25 ∧ Row W1 (w.heap.size + 1) #[.int .i64 0, .int .i64 0, .int .u64 0, .string ⟨#[]⟩, .slice none 0 0] 25 := by
  refine ⟨_, rfl, ((Below.refl _ _).alloc (Nat.le_refl _) _).alloc (by simp) _, Lib.hid (by simp), (Row.new w _ _).old _, ?_⟩
  have h := Row.new (w.alloc (.cells #[c0, c1, c2, c3, c4] 25)) #[.int .i64 0, .int .i64 0, .int .u64 0, .string ⟨#[]⟩, .slice none 0 0] 25
  simpa using h

set_option maxRecDepth 100000 in
theorem gopen_no {k : Nat} (hk : k ≤ 13) {m b : Int} {t : ByteArray} {a : Option Addr} {l cap : Nat} (h : hasFi k 3 = false) (w : World) :
    Calls Tryz.prog 84 #[(.agg #[.int .i64 k, .int .i64 m, .int .u64 b, .string t, .slice a l cap])] w fun x w' => x = .panicked (thrown 181 (.agg #[.int .i64 (faceMiss k 3)])) ∧ Below w.heap.size w w' := by
  have HF := Lib.hid (fun W => gface_no k hk 3 h (.int .i64 m) (.int .u64 b) (.string t) (.slice a l cap) W)
  clear h
  obtain ⟨W1, hW1, hb1, hz, hx1, hx2⟩ := rows2 w (.int .i64 k) (.int .i64 m) (.int .u64 b) (.string t) (.slice a l cap)
  have p0 : W1.cell? ⟨w.heap.size, 0, none⟩ = some (.int .i64 k) := hx1.cell 0 rfl
  have p1 : W1.cell? ⟨w.heap.size, 1, none⟩ = some (.int .i64 m) := hx1.cell 1 rfl
  have p2 : W1.cell? ⟨w.heap.size, 2, none⟩ = some (.int .u64 b) := hx1.cell 2 rfl
  have p3 : W1.cell? ⟨w.heap.size, 3, none⟩ = some (.string t) := hx1.cell 3 rfl
  have p4 : W1.cell? ⟨w.heap.size, 4, none⟩ = some (.slice a l cap) := hx1.cell 4 rfl
  go_enter Tryz.func84, Tryz.ntmps84
  go_upto_region 1 with fail
  rw [← hW1]
  clear hW1
  go_wp2_with (go_at_call 82; refine (HF.out _).mono ?_; rintro e w2 ⟨rfl, hb2⟩)
  exact ⟨rfl, rfl, hb1.trans (hb2.mono hb1.size)⟩

set_option maxRecDepth 100000 in
set_option maxHeartbeats 1600000 in
theorem gopen_nil {w0 : World} {k : Nat} (hk : k ≤ 13) {m b : Int} {t : ByteArray} {a : Option Addr} {l cap : Nat} (h : hasFi k 3 = true) (HO : ∀ W, Below w0.heap.size w0 W → Calls Tryz.prog 97 #[(.agg #[.int .i64 k, .int .i64 m, .int .u64 b, .string t, .slice a l cap])] W fun x w' => x = .returned (.tuple #[(.agg #[.int .i64 0, .int .i64 0, .int .u64 0, .string ⟨#[]⟩, .slice none 0 0]), .int .i64 13]) ∧ Below W.heap.size W w') (w : World) (hb0 : Below w0.heap.size w0 w) :
    Calls Tryz.prog 84 #[(.agg #[.int .i64 k, .int .i64 m, .int .u64 b, .string t, .slice a l cap])] w fun x w' => x = .panicked (thrown 186 (.agg #[])) ∧ Below w.heap.size w w' := by
  have HF := Lib.hid (fun W => gface_yes k hk 3 h m b t a l cap W)
  have HH := Lib.hid HO
  have HB := Lib.hid hb0
  clear h HO hb0
  obtain ⟨W1, hW1, hb1, hz, hx1, hx2⟩ := rows2 w (.int .i64 k) (.int .i64 m) (.int .u64 b) (.string t) (.slice a l cap)
  have p0 : W1.cell? ⟨w.heap.size, 0, none⟩ = some (.int .i64 k) := hx1.cell 0 rfl
  have p1 : W1.cell? ⟨w.heap.size, 1, none⟩ = some (.int .i64 m) := hx1.cell 1 rfl
  have p2 : W1.cell? ⟨w.heap.size, 2, none⟩ = some (.int .u64 b) := hx1.cell 2 rfl
  have p3 : W1.cell? ⟨w.heap.size, 3, none⟩ = some (.string t) := hx1.cell 3 rfl
  have p4 : W1.cell? ⟨w.heap.size, 4, none⟩ = some (.slice a l cap) := hx1.cell 4 rfl
  go_enter Tryz.func84, Tryz.ntmps84
  go_upto_region 1 with fail
  rw [← hW1]
  clear hW1
  go_wp2_with (first | (go_at_call 82; refine (HF.out _).mono ?_; rintro e w2 ⟨rfl, hb2⟩; have h12 : Below w.heap.size w w2 := hb1.trans (hb2.mono hb1.size); have hy1 := hx1.later hb2; have r0 : w2.cell? ⟨w.heap.size, 0, none⟩ = some (.int .i64 k) := hy1.cell 0 rfl; have r1 : w2.cell? ⟨w.heap.size, 1, none⟩ = some (.int .i64 m) := hy1.cell 1 rfl; have r2 : w2.cell? ⟨w.heap.size, 2, none⟩ = some (.int .u64 b) := hy1.cell 2 rfl; have r3 : w2.cell? ⟨w.heap.size, 3, none⟩ = some (.string t) := hy1.cell 3 rfl; have r4 : w2.cell? ⟨w.heap.size, 4, none⟩ = some (.slice a l cap) := hy1.cell 4 rfl; dsimp only) | (go_at_call 97; refine (HH.out _ (HB.out.trans (h12.mono HB.out.size))).mono ?_; rintro e w3 ⟨rfl, hb3⟩; have h13 : Below w.heap.size w w3 := h12.trans (hb3.mono h12.size); dsimp only))
  exact ⟨rfl, rfl, h13.alloc h13.size _⟩
end Go.Proofs.YtecdniimikfbhaaGreatDoor

/- Contract of guard's open, of a box. -/
namespace Go.Proofs.YtecdniimikfbhaaGreatDoor
open Go Go.RowKit Go.ChangeShapes Go.WideShapes


set_option maxRecDepth 100000 in
set_option maxHeartbeats 3200000 in
theorem gopen_box {w0 : World} {x : D} {k : Nat} (hk : k ≤ 13) {m b : Int} {t : ByteArray} {a : Option Addr} {l cap : Nat} (h : hasFi k 3 = true) (HO : ∀ W, Below w0.heap.size w0 W → Calls Tryz.prog 97 #[(.agg #[.int .i64 k, .int .i64 m, .int .u64 b, .string t, .slice a l cap])] W fun y w' => ∃ v', y = .returned (.tuple #[v', .int .i64 0]) ∧ RepQ w' (fun b => W.heap.size ≤ b) v' x ∧ Below W.heap.size W w') (w : World) (hb0 : Below w0.heap.size w0 w) :
    Calls Tryz.prog 84 #[(.agg #[.int .i64 k, .int .i64 m, .int .u64 b, .string t, .slice a l cap])] w fun y w' => ∃ v', y = .returned v' ∧ RepQ w' (fun b => w.heap.size ≤ b) v' x ∧ Below w.heap.size w w' := by
  have HF := Lib.hid (fun W => gface_yes k hk 3 h m b t a l cap W)
  have HH := Lib.hid HO
  have HB := Lib.hid hb0
  clear h HO hb0
  obtain ⟨W1, hW1, hb1, hz, hx1, hx2⟩ := rows2 w (.int .i64 k) (.int .i64 m) (.int .u64 b) (.string t) (.slice a l cap)
  have p0 : W1.cell? ⟨w.heap.size, 0, none⟩ = some (.int .i64 k) := hx1.cell 0 rfl
  have p1 : W1.cell? ⟨w.heap.size, 1, none⟩ = some (.int .i64 m) := hx1.cell 1 rfl
  have p2 : W1.cell? ⟨w.heap.size, 2, none⟩ = some (.int .u64 b) := hx1.cell 2 rfl
  have p3 : W1.cell? ⟨w.heap.size, 3, none⟩ = some (.string t) := hx1.cell 3 rfl
  have p4 : W1.cell? ⟨w.heap.size, 4, none⟩ = some (.slice a l cap) := hx1.cell 4 rfl
  go_enter Tryz.func84, Tryz.ntmps84
  go_upto_region 1 with fail
  rw [← hW1]
  clear hW1
  go_wp2_with (first | (go_at_call 82; refine (HF.out _).mono ?_; rintro e w2 ⟨rfl, hb2⟩; have h12 : Below w.heap.size w w2 := hb1.trans (hb2.mono hb1.size); have hy1 := hx1.later hb2; have r0 : w2.cell? ⟨w.heap.size, 0, none⟩ = some (.int .i64 k) := hy1.cell 0 rfl; have r1 : w2.cell? ⟨w.heap.size, 1, none⟩ = some (.int .i64 m) := hy1.cell 1 rfl; have r2 : w2.cell? ⟨w.heap.size, 2, none⟩ = some (.int .u64 b) := hy1.cell 2 rfl; have r3 : w2.cell? ⟨w.heap.size, 3, none⟩ = some (.string t) := hy1.cell 3 rfl; have r4 : w2.cell? ⟨w.heap.size, 4, none⟩ = some (.slice a l cap) := hy1.cell 4 rfl; dsimp only) | (go_at_call 97; refine (HH.out _ (HB.out.trans (h12.mono HB.out.size))).mono ?_; rintro e w3 ⟨v', rfl, hv', hb3⟩; obtain ⟨k5, m5, b5, t5, a5, n5, cap5, rfl⟩ := hv'.form; have h13 : Below w.heap.size w w3 := h12.trans (hb3.mono h12.size); have hy2 := hx2.later (hb2.trans (hb3.mono hb2.size)); have hlt := Lib.hid hy2.lt; have hne := Lib.hid (Nat.ne_of_lt hy2.lt); have z0 := old1_cell hy2.lt (show w3.cell? ⟨w.heap.size + 1, 0, none⟩ = some (.int .i64 0) from hy2.cell 0 rfl); have f0 := old1_thaw hy2.lt (hy2.thaw 0); have z1 := old1_cell hy2.lt (show w3.cell? ⟨w.heap.size + 1, 1, none⟩ = some (.int .i64 0) from hy2.cell 1 rfl); have f1 := old1_thaw hy2.lt (hy2.thaw 1); have z2 := old1_cell hy2.lt (show w3.cell? ⟨w.heap.size + 1, 2, none⟩ = some (.int .u64 0) from hy2.cell 2 rfl); have f2 := old1_thaw hy2.lt (hy2.thaw 2); have z3 := old1_cell hy2.lt (show w3.cell? ⟨w.heap.size + 1, 3, none⟩ = some (.string ⟨#[]⟩) from hy2.cell 3 rfl); have f3 := old1_thaw hy2.lt (hy2.thaw 3); have z4 := old1_cell hy2.lt (show w3.cell? ⟨w.heap.size + 1, 4, none⟩ = some (.slice none 0 0) from hy2.cell 4 rfl); have f4 := old1_thaw hy2.lt (hy2.thaw 4); have e1 := hne.out; have e2 := hne.out.symm; dsimp only))
  have hz2 := hz.out
  have hzl := hb2.size
  have hzk := hb3.size
  have hw3 : w.heap.size + 1 < w3.heap.size := hlt.out
  exact bodyPost_ret (results_cell_row rfl _ _ (w.heap.size + 1) 25 _ (0, 0) _ rfl ((((((hy2.old _).set 0 _).set 1 _).set 2 _).set 3 _).set 4 _) Tryz.underlying25 rfl (by kernel_rfl)) rfl
    ⟨_, rfl, RepQ.set5 (N := w2.heap.size) (hv'.old _) (by omega) (by omega), set5_below (h13.alloc h13.size _) (by omega)⟩
end Go.Proofs.YtecdniimikfbhaaGreatDoor
