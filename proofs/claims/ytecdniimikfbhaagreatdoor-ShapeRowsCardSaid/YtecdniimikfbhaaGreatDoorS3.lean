/- Shape: sums of ints; what is valid. -/
import Derived.Test.YtecdniimikfbhaaGreatDoorS2
import Derived.Test.YtecdniimikfbhaaGreatDoorM10
namespace Go.Proofs.YtecdniimikfbhaaGreatDoor
open Go Go.RowKit Go.ChangeShapes Go.WideShapes

theorem ta_1 (v : Value) (w : World) : (Instr.typeAssert (.iface 116 v) 20 93 true).run Tryz.prog w = .ok (.tuple #[.iface 116 v, .bool true]) w := by kernel_rfl
theorem ta_3 (v : Value) (w : World) : (Instr.typeAssert (.iface 98 v) 20 93 true).run Tryz.prog w = .ok (.tuple #[.iface 98 v, .bool true]) w := by kernel_rfl
theorem tn_1 (v : Value) (w : World) : (Instr.typeAssert (.iface 116 v) 20 116 true).run Tryz.prog w = .ok (.tuple #[v, .bool true]) w := by kernel_rfl
theorem tfl_1 (v : Value) (w : World) : (Instr.typeAssert (.iface 116 v) 20 98 true).run Tryz.prog w = .ok (.tuple #[.float .f64 0, .bool false]) w := by kernel_rfl
theorem ma_1 (v : Value) (w : World) : (method 350 116 v "conduit/datum.add").run Tryz.prog w = .ok (133, v) w := by kernel_rfl
theorem ca_1 (v u : Value) (w : World) : (callFunc 133 #[v, u]).run Tryz.prog w = .ok (.enter 133 #[v, u]) w := by kernel_rfl
theorem na_1 (m : Int) (w : World) : (nilAhead 350 116 (.int .i64 m) "conduit/datum.add").run Tryz.prog w = .ok (some false) w := by kernel_rfl
attribute [local go_sem] ta_1 ta_3 tn_1 tfl_1 ma_1 ca_1 na_1

set_option maxRecDepth 100000 in
set_option maxHeartbeats 800000 in
theorem nadd_any (a b : Int) (w : World) : Calls Tryz.prog 133 #[.int .i64 a, .iface 116 (.int .i64 b)] w fun x w' => x = .returned (.tuple #[.iface 116 (.int .i64 (wrap64 (a + b))), .bool true]) ∧ w = w' := by
  go_enter Tryz.func133, Tryz.ntmps133
  go_wp2_with fail
  go_ret2
  exact ⟨rfl, rfl⟩

set_option maxRecDepth 100000 in
set_option maxHeartbeats 800000 in
theorem plain_1 (a : Int) (w : World) : Calls Tryz.prog 69 #[.iface 116 (.int .i64 a)] w fun x w' => x = .returned (numV a) ∧ Below w.heap.size w w' := by
  obtain ⟨W1, hW1, hb1, hx1⟩ := boxes1r w (.int .i64 0) (.int .i64 0) (.int .u64 0) (.string ⟨#[]⟩) (.slice none 0 0)
  have q0 : W1.cell? ⟨w.heap.size, 0, none⟩ = some (.int .i64 0) := hx1.cell 0 rfl
  have fq0 := hx1.thaw 0
  have q1 : W1.cell? ⟨w.heap.size, 1, none⟩ = some (.int .i64 0) := hx1.cell 1 rfl
  have fq1 := hx1.thaw 1
  have q2 : W1.cell? ⟨w.heap.size, 2, none⟩ = some (.int .u64 0) := hx1.cell 2 rfl
  have fq2 := hx1.thaw 2
  have q3 : W1.cell? ⟨w.heap.size, 3, none⟩ = some (.string ⟨#[]⟩) := hx1.cell 3 rfl
  have fq3 := hx1.thaw 3
  have q4 : W1.cell? ⟨w.heap.size, 4, none⟩ = some (.slice none 0 0) := hx1.cell 4 rfl
  have fq4 := hx1.thaw 4
  go_enter Tryz.func69, Tryz.ntmps69
  go_upto_region 1 with fail
  rw [← hW1]
  clear hW1
  go_wp2_with fail
  exact bodyPost_ret (results_cell_row rfl _ _ w.heap.size 25 _ (0, 0) _ rfl (hx1.box.set5 _ _ _ _ _) Tryz.underlying25 rfl (by kernel_rfl)) rfl ⟨rfl, set5_below hb1 (Nat.le_refl _)⟩

theorem add_worlds (w : World) (c0 c1 c2 c3 c4 d0 d1 d2 d3 d4 : Value) : ∃ W1, W1 = (((w.alloc (.cells #[c0, c1, c2, c3, c4] 25)).alloc (.cells #[d0, d1, d2, d3, d4] 25)).alloc (.cells #[.int .i64 0, .int .i64 0, .int .u64 0, .string ⟨#[]⟩, .slice none 0 0] 25)).alloc (.map #[] 0) ∧ Below w.heap.size w W1 ∧ Hid (W1.heap.size = w.heap.size + 4) ∧ Row W1 w.heap.size #[c0, c1, c2, c3, c4] 25 ∧ Row W1 (w.heap.size + 1) #[d0, d1, d2, d3, d4] 25 ∧ Row W1 (w.heap.size + 2) #[.int .i64 0, .int .i64 0, .int .u64 0, .string ⟨#[]⟩, .slice none 0 0] 25 := by
  refine ⟨_, rfl, ?_, Lib.hid (by simp), (((Row.new w _ _).old _).old _).old _, ?_, ?_⟩
  · exact ((((Below.refl _ _).alloc (Nat.le_refl _) _).alloc (by simp) _).alloc (by simp; omega) _).alloc (by simp; omega) _
  · refine Row.old (Row.old ?_ _) _
    have h := Row.new (w.alloc (.cells #[c0, c1, c2, c3, c4] 25)) #[d0, d1, d2, d3, d4] 25
    simpa using h
  · refine Row.old ?_ _
    have h := Row.new ((w.alloc (.cells #[c0, c1, c2, c3, c4] 25)).alloc (.cells #[d0, d1, d2, d3, d4] 25)) #[.int .i64 0, .int .i64 0, .int .u64 0, .string ⟨#[]⟩, .slice none 0 0] 25
    simpa using h
theorem add_end {W : World} {g : Nat} {tmps : Array Value} {x0 x1 x2 x3 x4 e : Value} (hx : Row W g #[x0, x1, x2, x3, x4] 25) (h4 : tmps.getD 4 undef = .pointer (some ⟨g, 0, none⟩)) (h5 : tmps.getD 5 undef = e) :
    (results Tryz.f58 tmps).run Tryz.prog W = .ok (.tuple #[.agg #[x0, x1, x2, x3, x4], e]) W := by
  have a0 : W.cell? ⟨g, 0, none⟩ = some x0 := hx.cell 0 rfl
  have a1 : W.cell? ⟨g, 1, none⟩ = some x1 := hx.cell 1 rfl
  have a2 : W.cell? ⟨g, 2, none⟩ = some x2 := hx.cell 2 rfl
  have a3 : W.cell? ⟨g, 3, none⟩ = some x3 := hx.cell 3 rfl
  have a4 : W.cell? ⟨g, 4, none⟩ = some x4 := hx.cell 4 rfl
  have h4' : tmps[4]?.getD undef = .pointer (some ⟨g, 0, none⟩) := by simpa using h4
  have h5' : tmps[5]?.getD undef = e := by simpa using h5
  simp [results, Tryz.results58, asAddr, a0, a1, a2, a3, a4, h4', h5', go_sem]

set_option maxRecDepth 100000 in
set_option maxHeartbeats 3200000 in
theorem add_int (m m' : Int) (w : World) : Calls Tryz.prog 58 #[(.agg #[.int .i64 1, .int .i64 m, .int .u64 0, .string ⟨#[]⟩, .slice none 0 0]), (.agg #[.int .i64 1, .int .i64 m', .int .u64 0, .string ⟨#[]⟩, .slice none 0 0])] w fun x w' => x = .returned (.tuple #[numV (wrap64 (m + m')), .int .i64 0]) ∧ Below w.heap.size w w' := by
  obtain ⟨W1, hW1, hb1, hz, hx1, hx2, hx3⟩ := add_worlds w (.int .i64 1) (.int .i64 m) (.int .u64 0) (.string ⟨#[]⟩) (.slice none 0 0) (.int .i64 1) (.int .i64 m') (.int .u64 0) (.string ⟨#[]⟩) (.slice none 0 0)
  have hmm := @run_makeMap Tryz.prog
  have p0 : W1.cell? ⟨w.heap.size, 0, none⟩ = some (.int .i64 1) := hx1.cell 0 rfl
  have p1 : W1.cell? ⟨w.heap.size, 1, none⟩ = some (.int .i64 m) := hx1.cell 1 rfl
  have p2 : W1.cell? ⟨w.heap.size, 2, none⟩ = some (.int .u64 0) := hx1.cell 2 rfl
  have p3 : W1.cell? ⟨w.heap.size, 3, none⟩ = some (.string ⟨#[]⟩) := hx1.cell 3 rfl
  have p4 : W1.cell? ⟨w.heap.size, 4, none⟩ = some (.slice none 0 0) := hx1.cell 4 rfl
  go_enter Tryz.func58, Tryz.ntmps58
  go_upto_region 2 with fail
  rw [← hW1]
  clear hW1
  go_wp2_with fail
  refine (val_1 _ _ _ _ _ _).mono ?_
  rintro e w2 ⟨rfl, hb2⟩
  have hy2 := hx2.later hb2
  have hy3 := hx3.later hb2
  have hbw2 := hb1.trans (hb2.mono hb1.size)
  have hzz := hz.out
  have hz2 := hb2.size
  clear p0 p1 p2 p3 p4
  have q0 : w2.cell? ⟨w.heap.size + 1, 0, none⟩ = some (.int .i64 1) := hy2.cell 0 rfl
  have q1 : w2.cell? ⟨w.heap.size + 1, 1, none⟩ = some (.int .i64 m') := hy2.cell 1 rfl
  have q2 : w2.cell? ⟨w.heap.size + 1, 2, none⟩ = some (.int .u64 0) := hy2.cell 2 rfl
  have q3 : w2.cell? ⟨w.heap.size + 1, 3, none⟩ = some (.string ⟨#[]⟩) := hy2.cell 3 rfl
  have q4 : w2.cell? ⟨w.heap.size + 1, 4, none⟩ = some (.slice none 0 0) := hy2.cell 4 rfl
  dsimp only
  go_upto_region 5 with fail
  go_cut [9, 10] (fun s9 s10 wc => s9 = .iface 116 (.int .i64 (wrap64 (m + m'))) ∧ s10 = .bool true ∧ Below w2.heap.size w2 wc)
  case first =>
    have hdr : Below w2.heap.size w2 w2.drew := by go_grown
    go_region_with (first | (go_at_call 68; refine (val_1 _ _ _ _ _ _).mono ?_; rintro e w3 ⟨rfl, hb3'⟩; have hb3 := hdr.trans (hb3'.mono hdr.size); dsimp only) | ((refine (nadd_any _ _ _).mono ?_); rintro e w4 ⟨rfl, rfl⟩; dsimp only))
    all_goals (go_wp2_with fail; go_meet; exact ⟨rfl, rfl, hb3⟩)
  case rest =>
    obtain ⟨rfl, rfl, hbc⟩ := hcut
    have hu3 := hy3.later hbc
    have hbwc := hbw2.trans (hbc.mono hbw2.size)
    clear q0 q1 q2 q3 q4
    go_wp2_with fail
    refine (plain_1 _ _).mono ?_
    rintro e w5 ⟨rfl, hb5⟩
    have hu5 := hu3.later hb5
    have hbw5 := hbwc.trans (hb5.mono hbwc.size)
    have u0 : w5.cell? ⟨w.heap.size + 2, 0, none⟩ = some (.int .i64 0) := hu5.cell 0 rfl
    have fu0 := hu5.thaw 0
    have u1 : w5.cell? ⟨w.heap.size + 2, 1, none⟩ = some (.int .i64 0) := hu5.cell 1 rfl
    have fu1 := hu5.thaw 1
    have u2 : w5.cell? ⟨w.heap.size + 2, 2, none⟩ = some (.int .u64 0) := hu5.cell 2 rfl
    have fu2 := hu5.thaw 2
    have u3 : w5.cell? ⟨w.heap.size + 2, 3, none⟩ = some (.string ⟨#[]⟩) := hu5.cell 3 rfl
    have fu3 := hu5.thaw 3
    have u4 : w5.cell? ⟨w.heap.size + 2, 4, none⟩ = some (.slice none 0 0) := hu5.cell 4 rfl
    have fu4 := hu5.thaw 4
    unfold numV
    dsimp only
    go_wp2_with fail
    exact bodyPost_ret (add_end (hu5.box.set5 _ _ _ _ _) rfl rfl) rfl ⟨rfl, set5_below hbw5 (by omega)⟩
end Go.Proofs.YtecdniimikfbhaaGreatDoor
