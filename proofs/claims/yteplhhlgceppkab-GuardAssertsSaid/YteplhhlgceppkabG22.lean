/- Contracts of guard's number, boolean and told. -/
import Derived.Test.YteplhhlgceppkabG21
import Derived.Stop.Asserts
namespace Go.Proofs.Yteplhhlgceppkab
open Go Go.RowKit Go.ChangeShapes Go.WideShapes

theorem tt0_0 (v : Value) (w : World) : (Instr.typeAssert (.iface 60 v) 20 60 true).run Try.prog w = .ok (.tuple #[v, .bool true]) w := by kernel_rfl
theorem tt1_0 (v : Value) (w : World) : (Instr.typeAssert (.iface 61 v) 20 60 true).run Try.prog w = .ok (.tuple #[.agg #[.int .i64 0], .bool false]) w := by kernel_rfl
theorem tt1_1 (v : Value) (w : World) : (Instr.typeAssert (.iface 61 v) 20 61 true).run Try.prog w = .ok (.tuple #[v, .bool true]) w := by kernel_rfl
theorem tt2_0 (v : Value) (w : World) : (Instr.typeAssert (.iface 62 v) 20 60 true).run Try.prog w = .ok (.tuple #[.agg #[.int .i64 0], .bool false]) w := by kernel_rfl
theorem tt2_1 (v : Value) (w : World) : (Instr.typeAssert (.iface 62 v) 20 61 true).run Try.prog w = .ok (.tuple #[.agg #[.int .i64 0], .bool false]) w := by kernel_rfl
theorem tt2_2 (v : Value) (w : World) : (Instr.typeAssert (.iface 62 v) 20 62 true).run Try.prog w = .ok (.tuple #[v, .bool true]) w := by kernel_rfl
theorem tt3_0 (v : Value) (w : World) : (Instr.typeAssert (.iface 64 v) 20 60 true).run Try.prog w = .ok (.tuple #[.agg #[.int .i64 0], .bool false]) w := by kernel_rfl
theorem tt3_1 (v : Value) (w : World) : (Instr.typeAssert (.iface 64 v) 20 61 true).run Try.prog w = .ok (.tuple #[.agg #[.int .i64 0], .bool false]) w := by kernel_rfl
theorem tt3_2 (v : Value) (w : World) : (Instr.typeAssert (.iface 64 v) 20 62 true).run Try.prog w = .ok (.tuple #[.int .i64 0, .bool false]) w := by kernel_rfl
theorem tt3_3 (v : Value) (w : World) : (Instr.typeAssert (.iface 64 v) 20 64 true).run Try.prog w = .ok (.tuple #[v, .bool true]) w := by kernel_rfl
theorem tt4_0 (v : Value) (w : World) : (Instr.typeAssert (.iface 65 v) 20 60 true).run Try.prog w = .ok (.tuple #[.agg #[.int .i64 0], .bool false]) w := by kernel_rfl
theorem tt4_1 (v : Value) (w : World) : (Instr.typeAssert (.iface 65 v) 20 61 true).run Try.prog w = .ok (.tuple #[.agg #[.int .i64 0], .bool false]) w := by kernel_rfl
theorem tt4_2 (v : Value) (w : World) : (Instr.typeAssert (.iface 65 v) 20 62 true).run Try.prog w = .ok (.tuple #[.int .i64 0, .bool false]) w := by kernel_rfl
theorem tt4_3 (v : Value) (w : World) : (Instr.typeAssert (.iface 65 v) 20 64 true).run Try.prog w = .ok (.tuple #[.agg #[], .bool false]) w := by kernel_rfl
theorem tt4_4 (v : Value) (w : World) : (Instr.typeAssert (.iface 65 v) 20 65 true).run Try.prog w = .ok (.tuple #[v, .bool true]) w := by kernel_rfl
theorem tt5_0 (v : Value) (w : World) : (Instr.typeAssert (.iface 66 v) 20 60 true).run Try.prog w = .ok (.tuple #[.agg #[.int .i64 0], .bool false]) w := by kernel_rfl
theorem tt5_1 (v : Value) (w : World) : (Instr.typeAssert (.iface 66 v) 20 61 true).run Try.prog w = .ok (.tuple #[.agg #[.int .i64 0], .bool false]) w := by kernel_rfl
theorem tt5_2 (v : Value) (w : World) : (Instr.typeAssert (.iface 66 v) 20 62 true).run Try.prog w = .ok (.tuple #[.int .i64 0, .bool false]) w := by kernel_rfl
theorem tt5_3 (v : Value) (w : World) : (Instr.typeAssert (.iface 66 v) 20 64 true).run Try.prog w = .ok (.tuple #[.agg #[], .bool false]) w := by kernel_rfl
theorem tt5_4 (v : Value) (w : World) : (Instr.typeAssert (.iface 66 v) 20 65 true).run Try.prog w = .ok (.tuple #[.agg #[], .bool false]) w := by kernel_rfl
theorem tt5_5 (v : Value) (w : World) : (Instr.typeAssert (.iface 66 v) 20 66 true).run Try.prog w = .ok (.tuple #[v, .bool true]) w := by kernel_rfl
theorem tt6_0 (v : Value) (w : World) : (Instr.typeAssert (.iface 70 v) 20 60 true).run Try.prog w = .ok (.tuple #[.agg #[.int .i64 0], .bool false]) w := by kernel_rfl
theorem tt6_1 (v : Value) (w : World) : (Instr.typeAssert (.iface 70 v) 20 61 true).run Try.prog w = .ok (.tuple #[.agg #[.int .i64 0], .bool false]) w := by kernel_rfl
theorem tt6_2 (v : Value) (w : World) : (Instr.typeAssert (.iface 70 v) 20 62 true).run Try.prog w = .ok (.tuple #[.int .i64 0, .bool false]) w := by kernel_rfl
theorem tt6_3 (v : Value) (w : World) : (Instr.typeAssert (.iface 70 v) 20 64 true).run Try.prog w = .ok (.tuple #[.agg #[], .bool false]) w := by kernel_rfl
theorem tt6_4 (v : Value) (w : World) : (Instr.typeAssert (.iface 70 v) 20 65 true).run Try.prog w = .ok (.tuple #[.agg #[], .bool false]) w := by kernel_rfl
theorem tt6_5 (v : Value) (w : World) : (Instr.typeAssert (.iface 70 v) 20 66 true).run Try.prog w = .ok (.tuple #[.agg #[], .bool false]) w := by kernel_rfl
theorem tt6_e (v : Value) (w : World) : (Instr.typeAssert (.iface 70 v) 20 68 true).run Try.prog w = .ok (.tuple #[.iface 70 v, .bool true]) w := by kernel_rfl
theorem tt6_6 (v : Value) (w : World) : (Instr.typeAssert (.iface 70 v) 68 70 true).run Try.prog w = .ok (.tuple #[v, .bool true]) w := by kernel_rfl
attribute [local go_sem] tt0_0 tt1_0 tt1_1 tt2_0 tt2_1 tt2_2 tt3_0 tt3_1 tt3_2 tt3_3 tt4_0 tt4_1 tt4_2 tt4_3 tt4_4 tt5_0 tt5_1 tt5_2 tt5_3 tt5_4 tt5_5 tt6_0 tt6_1 tt6_2 tt6_3 tt6_4 tt6_5 tt6_e tt6_6

theorem told_end {W : World} {g : Nat} {tmps : Array Value} {x y e : Value} (hx : Row W g #[x, y] 33) (h4 : tmps.getD 2 undef = .pointer (some ⟨g, 0, none⟩)) (h5 : tmps.getD 3 undef = e) :
    (results Try.f16 tmps).run Try.prog W = .ok (.tuple #[.agg #[x, y], e]) W := by
  have a0 : W.cell? ⟨g, 0, none⟩ = some x := hx.cell 0 rfl
  have a1 : W.cell? ⟨g, 1, none⟩ = some y := hx.cell 1 rfl
  have h4' : tmps[2]?.getD undef = .pointer (some ⟨g, 0, none⟩) := by simpa using h4
  have h5' : tmps[3]?.getD undef = e := by simpa using h5
  simp [results, Try.results16, asAddr, a0, a1, h4', h5', go_sem]
/-- What is thrown, and the panic that is told of it. -/
def ThrP (T : TypeId) (v : Value) (k n : Int) : Prop := ∀ w, Calls Try.prog 16 #[.iface T v] w fun x w' => x = .returned (.tuple #[.agg #[.int .i64 k, .int .i64 n], .bool true]) ∧ Below w.heap.size w w'
set_option maxRecDepth 100000 in
theorem told_0 (n : Int) : ThrP 60 (.agg #[.int .i64 n]) 2 n := by
  intro w
  go_enter Try.func16, Try.ntmps16
  go_wp2_with fail
  exact bodyPost_ret (told_end ((Row.new _ _ _).old _) rfl rfl) rfl ⟨rfl, by go_grown⟩
set_option maxRecDepth 100000 in
theorem told_1 (n : Int) : ThrP 61 (.agg #[.int .i64 n]) 4 n := by
  intro w
  go_enter Try.func16, Try.ntmps16
  go_wp2_with fail
  exact bodyPost_ret (told_end ((Row.new _ _ _).old _) rfl rfl) rfl ⟨rfl, by go_grown⟩
set_option maxRecDepth 100000 in
theorem told_2 (n : Int) : ThrP 62 (.int .i64 n) 1 n := by
  intro w
  go_enter Try.func16, Try.ntmps16
  go_wp2_with fail
  exact bodyPost_ret (told_end (Row.new _ _ _) rfl rfl) rfl ⟨rfl, by go_grown⟩
set_option maxRecDepth 100000 in
theorem told_3 : ThrP 64 (.agg #[]) 5 0 := by
  intro w
  go_enter Try.func16, Try.ntmps16
  go_wp2_with fail
  exact bodyPost_ret (told_end ((Row.new _ _ _).old _) rfl rfl) rfl ⟨rfl, by go_grown⟩
set_option maxRecDepth 100000 in
theorem told_4 : ThrP 65 (.agg #[]) 6 0 := by
  intro w
  go_enter Try.func16, Try.ntmps16
  go_wp2_with fail
  exact bodyPost_ret (told_end ((Row.new _ _ _).old _) rfl rfl) rfl ⟨rfl, by go_grown⟩
set_option maxRecDepth 100000 in
theorem told_5 : ThrP 66 (.agg #[]) 3 0 := by
  intro w
  go_enter Try.func16, Try.ntmps16
  go_wp2_with fail
  exact bodyPost_ret (told_end ((Row.new _ _ _).old _) rfl rfl) rfl ⟨rfl, by go_grown⟩
set_option maxRecDepth 100000 in
theorem told_6 (n : Int) : ThrP 70 (.int .i64 n) 7 n := by
  intro w
  go_enter Try.func16, Try.ntmps16
  go_wp2_with fail
  exact bodyPost_ret (told_end (Row.new _ _ _) rfl rfl) rfl ⟨rfl, by go_grown⟩

set_option maxRecDepth 100000 in
set_option maxHeartbeats 800000 in
theorem try1_panicking (g : Nat) (T : TypeId) (v : Value) (k n : Int) (hT : ThrP T v k n) (older : List PanicEntry) (w : World) (x0 x1 x2 x3 x4 x5 x6 x7 x8 x9 : Value) (hx : Row w g #[x0, x1, x2, x3, x4, x5, x6, x7, x8, x9] 35) :
    CallsD Try.prog 15 #[.pointer (some ⟨g, 0, none⟩)] (.panicking ({ v := .iface T v, recovered := false } :: older)) w fun e u' w' =>
      e = .returned (.tuple #[]) ∧ u' = .panicking ({ v := .iface T v, recovered := true } :: older) ∧ Row w' g #[.int .i64 110, .int .i64 0, .int .i64 k, .int .i64 n, .bool false, .int .i64 0, .int .i64 0, .int .u64 0, .string ⟨#[]⟩, .slice none 0 0] 35 ∧ ∀ B w0, Below B w0 w → B ≤ g → Below B w0 w' := by
  refine callsD_of_wpS Try.func15 rfl fun c₀ cs hu => ?_
  simp only [Try.ntmps15, List.size_toArray, List.length_cons, List.length_nil, Nat.reduceAdd, Nat.reduceSub, Array.replicate_succ, Array.replicate_zero, List.push_toArray, List.append_toArray, List.nil_append, List.cons_append]
  apply wpS_seq
  apply wpS_region
  simp [wpOpsS, go_sem, recoverD, hu, Exit.thenS]
  refine wpS_of_wp ?_
  have HT := Lib.hid hT
  clear hT
  go_wp2_with (go_at_call 16; refine (HT.out _).mono ?_; rintro e w2 ⟨rfl, hb2⟩; have hy := hx.later hb2; have q0 := old1_cell hy.lt (show w2.cell? ⟨g, 0, none⟩ = some x0 from hy.cell 0 rfl); have f0 := old1_thaw hy.lt (hy.thaw 0); have q1 := old1_cell hy.lt (show w2.cell? ⟨g, 1, none⟩ = some x1 from hy.cell 1 rfl); have f1 := old1_thaw hy.lt (hy.thaw 1); have q2 := old1_cell hy.lt (show w2.cell? ⟨g, 2, none⟩ = some x2 from hy.cell 2 rfl); have f2 := old1_thaw hy.lt (hy.thaw 2); have q3 := old1_cell hy.lt (show w2.cell? ⟨g, 3, none⟩ = some x3 from hy.cell 3 rfl); have f3 := old1_thaw hy.lt (hy.thaw 3); have q4 := old1_cell hy.lt (show w2.cell? ⟨g, 4, none⟩ = some x4 from hy.cell 4 rfl); have f4 := old1_thaw hy.lt (hy.thaw 4); have q5 := old1_cell hy.lt (show w2.cell? ⟨g, 5, none⟩ = some x5 from hy.cell 5 rfl); have f5 := old1_thaw hy.lt (hy.thaw 5); have q6 := old1_cell hy.lt (show w2.cell? ⟨g, 6, none⟩ = some x6 from hy.cell 6 rfl); have f6 := old1_thaw hy.lt (hy.thaw 6); have q7 := old1_cell hy.lt (show w2.cell? ⟨g, 7, none⟩ = some x7 from hy.cell 7 rfl); have f7 := old1_thaw hy.lt (hy.thaw 7); have q8 := old1_cell hy.lt (show w2.cell? ⟨g, 8, none⟩ = some x8 from hy.cell 8 rfl); have f8 := old1_thaw hy.lt (hy.thaw 8); have q9 := old1_cell hy.lt (show w2.cell? ⟨g, 9, none⟩ = some x9 from hy.cell 9 rfl); have f9 := old1_thaw hy.lt (hy.thaw 9))
  exact ⟨rfl, _, rfl, .tuple #[], results_none rfl _ _ _, rfl, rfl, (hy.old _).set10 _ _ _ _ _ _ _ _ _ _, fun B w0 hb hB => set10_below ((hb.trans (hb2.mono (Nat.le_trans hB (Nat.le_of_lt hx.lt)))).alloc (Nat.le_trans (Nat.le_trans hB (Nat.le_of_lt hx.lt)) hb2.size) _) hB⟩
theorem try1_idle (p : Value) (w : World) :
    CallsD Try.prog 15 #[p] .returning w fun e u' w' => e = .returned (.tuple #[]) ∧ u' = .returning ∧ w = w' := by
  refine callsD_of_wpS Try.func15 rfl fun c₀ cs hu => ?_
  simp only [Try.ntmps15, List.size_toArray, List.length_cons, List.length_nil, Nat.reduceAdd, Nat.reduceSub, Array.replicate_succ, Array.replicate_zero, List.push_toArray, List.append_toArray, List.nil_append, List.cons_append]
  apply wpS_seq
  apply wpS_region
  simp [wpOpsS, go_sem, recoverD, hu, Exit.thenS]
  refine wpS_of_wp ?_
  go_wp2_with fail
  cases c₀
  cases hu
  exact ⟨rfl, _, rfl, .tuple #[], results_none rfl _ _ _, rfl, rfl, rfl⟩
end Go.Proofs.Yteplhhlgceppkab
