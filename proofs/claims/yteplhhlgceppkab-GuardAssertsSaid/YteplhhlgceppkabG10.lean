/- Contracts of want's typed: whatever the value, whether its type is a kind's. -/
import Derived.Test.YteplhhlgceppkabG9
namespace Go.Proofs.Yteplhhlgceppkab
open Go Go.RowKit Go.ChangeShapes Go.WideShapes

theorem ta1_1 (v : Value) (w : World) : (Instr.typeAssert (.iface 134 v) 20 134 true).run Try.prog w = .ok (.tuple #[v, .bool true]) w := by kernel_rfl
theorem ta2_1 (v : Value) (w : World) : (Instr.typeAssert (.iface 135 v) 20 134 true).run Try.prog w = .ok (.tuple #[.int .i64 0, .bool false]) w := by kernel_rfl
theorem ta2_2 (v : Value) (w : World) : (Instr.typeAssert (.iface 135 v) 20 135 true).run Try.prog w = .ok (.tuple #[v, .bool true]) w := by kernel_rfl
theorem ta3_1 (v : Value) (w : World) : (Instr.typeAssert (.iface 136 v) 20 134 true).run Try.prog w = .ok (.tuple #[.int .i64 0, .bool false]) w := by kernel_rfl
theorem ta3_2 (v : Value) (w : World) : (Instr.typeAssert (.iface 136 v) 20 135 true).run Try.prog w = .ok (.tuple #[.int .i64 0, .bool false]) w := by kernel_rfl
theorem ta3_3 (v : Value) (w : World) : (Instr.typeAssert (.iface 136 v) 20 136 true).run Try.prog w = .ok (.tuple #[v, .bool true]) w := by kernel_rfl
theorem ta4_1 (v : Value) (w : World) : (Instr.typeAssert (.iface 137 v) 20 134 true).run Try.prog w = .ok (.tuple #[.int .i64 0, .bool false]) w := by kernel_rfl
theorem ta4_2 (v : Value) (w : World) : (Instr.typeAssert (.iface 137 v) 20 135 true).run Try.prog w = .ok (.tuple #[.int .i64 0, .bool false]) w := by kernel_rfl
theorem ta4_3 (v : Value) (w : World) : (Instr.typeAssert (.iface 137 v) 20 136 true).run Try.prog w = .ok (.tuple #[.float .f64 0, .bool false]) w := by kernel_rfl
theorem ta4_4 (v : Value) (w : World) : (Instr.typeAssert (.iface 137 v) 20 137 true).run Try.prog w = .ok (.tuple #[v, .bool true]) w := by kernel_rfl
theorem ta5_1 (v : Value) (w : World) : (Instr.typeAssert (.iface 138 v) 20 134 true).run Try.prog w = .ok (.tuple #[.int .i64 0, .bool false]) w := by kernel_rfl
theorem ta5_2 (v : Value) (w : World) : (Instr.typeAssert (.iface 138 v) 20 135 true).run Try.prog w = .ok (.tuple #[.int .i64 0, .bool false]) w := by kernel_rfl
theorem ta5_3 (v : Value) (w : World) : (Instr.typeAssert (.iface 138 v) 20 136 true).run Try.prog w = .ok (.tuple #[.float .f64 0, .bool false]) w := by kernel_rfl
theorem ta5_4 (v : Value) (w : World) : (Instr.typeAssert (.iface 138 v) 20 137 true).run Try.prog w = .ok (.tuple #[.string ⟨#[]⟩, .bool false]) w := by kernel_rfl
theorem ta5_5 (v : Value) (w : World) : (Instr.typeAssert (.iface 138 v) 20 138 true).run Try.prog w = .ok (.tuple #[v, .bool true]) w := by kernel_rfl
theorem ta6_1 (v : Value) (w : World) : (Instr.typeAssert (.iface 139 v) 20 134 true).run Try.prog w = .ok (.tuple #[.int .i64 0, .bool false]) w := by kernel_rfl
theorem ta6_2 (v : Value) (w : World) : (Instr.typeAssert (.iface 139 v) 20 135 true).run Try.prog w = .ok (.tuple #[.int .i64 0, .bool false]) w := by kernel_rfl
theorem ta6_3 (v : Value) (w : World) : (Instr.typeAssert (.iface 139 v) 20 136 true).run Try.prog w = .ok (.tuple #[.float .f64 0, .bool false]) w := by kernel_rfl
theorem ta6_4 (v : Value) (w : World) : (Instr.typeAssert (.iface 139 v) 20 137 true).run Try.prog w = .ok (.tuple #[.string ⟨#[]⟩, .bool false]) w := by kernel_rfl
theorem ta6_5 (v : Value) (w : World) : (Instr.typeAssert (.iface 139 v) 20 138 true).run Try.prog w = .ok (.tuple #[.string ⟨#[]⟩, .bool false]) w := by kernel_rfl
theorem ta6_6 (v : Value) (w : World) : (Instr.typeAssert (.iface 139 v) 20 139 true).run Try.prog w = .ok (.tuple #[v, .bool true]) w := by kernel_rfl
theorem ta7_1 (v : Value) (w : World) : (Instr.typeAssert (.iface 140 v) 20 134 true).run Try.prog w = .ok (.tuple #[.int .i64 0, .bool false]) w := by kernel_rfl
theorem ta7_2 (v : Value) (w : World) : (Instr.typeAssert (.iface 140 v) 20 135 true).run Try.prog w = .ok (.tuple #[.int .i64 0, .bool false]) w := by kernel_rfl
theorem ta7_3 (v : Value) (w : World) : (Instr.typeAssert (.iface 140 v) 20 136 true).run Try.prog w = .ok (.tuple #[.float .f64 0, .bool false]) w := by kernel_rfl
theorem ta7_4 (v : Value) (w : World) : (Instr.typeAssert (.iface 140 v) 20 137 true).run Try.prog w = .ok (.tuple #[.string ⟨#[]⟩, .bool false]) w := by kernel_rfl
theorem ta7_5 (v : Value) (w : World) : (Instr.typeAssert (.iface 140 v) 20 138 true).run Try.prog w = .ok (.tuple #[.string ⟨#[]⟩, .bool false]) w := by kernel_rfl
theorem ta7_6 (v : Value) (w : World) : (Instr.typeAssert (.iface 140 v) 20 139 true).run Try.prog w = .ok (.tuple #[.bool false, .bool false]) w := by kernel_rfl
theorem ta7_7 (v : Value) (w : World) : (Instr.typeAssert (.iface 140 v) 20 140 true).run Try.prog w = .ok (.tuple #[v, .bool true]) w := by kernel_rfl
theorem ta8_1 (v : Value) (w : World) : (Instr.typeAssert (.iface 141 v) 20 134 true).run Try.prog w = .ok (.tuple #[.int .i64 0, .bool false]) w := by kernel_rfl
theorem ta8_2 (v : Value) (w : World) : (Instr.typeAssert (.iface 141 v) 20 135 true).run Try.prog w = .ok (.tuple #[.int .i64 0, .bool false]) w := by kernel_rfl
theorem ta8_3 (v : Value) (w : World) : (Instr.typeAssert (.iface 141 v) 20 136 true).run Try.prog w = .ok (.tuple #[.float .f64 0, .bool false]) w := by kernel_rfl
theorem ta8_4 (v : Value) (w : World) : (Instr.typeAssert (.iface 141 v) 20 137 true).run Try.prog w = .ok (.tuple #[.string ⟨#[]⟩, .bool false]) w := by kernel_rfl
theorem ta8_5 (v : Value) (w : World) : (Instr.typeAssert (.iface 141 v) 20 138 true).run Try.prog w = .ok (.tuple #[.string ⟨#[]⟩, .bool false]) w := by kernel_rfl
theorem ta8_6 (v : Value) (w : World) : (Instr.typeAssert (.iface 141 v) 20 139 true).run Try.prog w = .ok (.tuple #[.bool false, .bool false]) w := by kernel_rfl
theorem ta8_7 (v : Value) (w : World) : (Instr.typeAssert (.iface 141 v) 20 140 true).run Try.prog w = .ok (.tuple #[.slice none 0 0, .bool false]) w := by kernel_rfl
theorem ta8_8 (v : Value) (w : World) : (Instr.typeAssert (.iface 141 v) 20 141 true).run Try.prog w = .ok (.tuple #[v, .bool true]) w := by kernel_rfl
theorem ta9_1 (v : Value) (w : World) : (Instr.typeAssert (.iface 143 v) 20 134 true).run Try.prog w = .ok (.tuple #[.int .i64 0, .bool false]) w := by kernel_rfl
theorem ta9_2 (v : Value) (w : World) : (Instr.typeAssert (.iface 143 v) 20 135 true).run Try.prog w = .ok (.tuple #[.int .i64 0, .bool false]) w := by kernel_rfl
theorem ta9_3 (v : Value) (w : World) : (Instr.typeAssert (.iface 143 v) 20 136 true).run Try.prog w = .ok (.tuple #[.float .f64 0, .bool false]) w := by kernel_rfl
theorem ta9_4 (v : Value) (w : World) : (Instr.typeAssert (.iface 143 v) 20 137 true).run Try.prog w = .ok (.tuple #[.string ⟨#[]⟩, .bool false]) w := by kernel_rfl
theorem ta9_5 (v : Value) (w : World) : (Instr.typeAssert (.iface 143 v) 20 138 true).run Try.prog w = .ok (.tuple #[.string ⟨#[]⟩, .bool false]) w := by kernel_rfl
theorem ta9_6 (v : Value) (w : World) : (Instr.typeAssert (.iface 143 v) 20 139 true).run Try.prog w = .ok (.tuple #[.bool false, .bool false]) w := by kernel_rfl
theorem ta9_7 (v : Value) (w : World) : (Instr.typeAssert (.iface 143 v) 20 140 true).run Try.prog w = .ok (.tuple #[.slice none 0 0, .bool false]) w := by kernel_rfl
theorem ta9_8 (v : Value) (w : World) : (Instr.typeAssert (.iface 143 v) 20 141 true).run Try.prog w = .ok (.tuple #[.slice none 0 0, .bool false]) w := by kernel_rfl
theorem ta9_9 (v : Value) (w : World) : (Instr.typeAssert (.iface 143 v) 20 143 true).run Try.prog w = .ok (.tuple #[v, .bool true]) w := by kernel_rfl
theorem ta10_1 (v : Value) (w : World) : (Instr.typeAssert (.iface 145 v) 20 134 true).run Try.prog w = .ok (.tuple #[.int .i64 0, .bool false]) w := by kernel_rfl
theorem ta10_2 (v : Value) (w : World) : (Instr.typeAssert (.iface 145 v) 20 135 true).run Try.prog w = .ok (.tuple #[.int .i64 0, .bool false]) w := by kernel_rfl
theorem ta10_3 (v : Value) (w : World) : (Instr.typeAssert (.iface 145 v) 20 136 true).run Try.prog w = .ok (.tuple #[.float .f64 0, .bool false]) w := by kernel_rfl
theorem ta10_4 (v : Value) (w : World) : (Instr.typeAssert (.iface 145 v) 20 137 true).run Try.prog w = .ok (.tuple #[.string ⟨#[]⟩, .bool false]) w := by kernel_rfl
theorem ta10_5 (v : Value) (w : World) : (Instr.typeAssert (.iface 145 v) 20 138 true).run Try.prog w = .ok (.tuple #[.string ⟨#[]⟩, .bool false]) w := by kernel_rfl
theorem ta10_6 (v : Value) (w : World) : (Instr.typeAssert (.iface 145 v) 20 139 true).run Try.prog w = .ok (.tuple #[.bool false, .bool false]) w := by kernel_rfl
theorem ta10_7 (v : Value) (w : World) : (Instr.typeAssert (.iface 145 v) 20 140 true).run Try.prog w = .ok (.tuple #[.slice none 0 0, .bool false]) w := by kernel_rfl
theorem ta10_8 (v : Value) (w : World) : (Instr.typeAssert (.iface 145 v) 20 141 true).run Try.prog w = .ok (.tuple #[.slice none 0 0, .bool false]) w := by kernel_rfl
theorem ta10_9 (v : Value) (w : World) : (Instr.typeAssert (.iface 145 v) 20 143 true).run Try.prog w = .ok (.tuple #[.agg #[.nilIface, .nilIface], .bool false]) w := by kernel_rfl
theorem ta10_10 (v : Value) (w : World) : (Instr.typeAssert (.iface 145 v) 20 145 true).run Try.prog w = .ok (.tuple #[v, .bool true]) w := by kernel_rfl
theorem ta11_1 (v : Value) (w : World) : (Instr.typeAssert (.iface 146 v) 20 134 true).run Try.prog w = .ok (.tuple #[.int .i64 0, .bool false]) w := by kernel_rfl
theorem ta11_2 (v : Value) (w : World) : (Instr.typeAssert (.iface 146 v) 20 135 true).run Try.prog w = .ok (.tuple #[.int .i64 0, .bool false]) w := by kernel_rfl
theorem ta11_3 (v : Value) (w : World) : (Instr.typeAssert (.iface 146 v) 20 136 true).run Try.prog w = .ok (.tuple #[.float .f64 0, .bool false]) w := by kernel_rfl
theorem ta11_4 (v : Value) (w : World) : (Instr.typeAssert (.iface 146 v) 20 137 true).run Try.prog w = .ok (.tuple #[.string ⟨#[]⟩, .bool false]) w := by kernel_rfl
theorem ta11_5 (v : Value) (w : World) : (Instr.typeAssert (.iface 146 v) 20 138 true).run Try.prog w = .ok (.tuple #[.string ⟨#[]⟩, .bool false]) w := by kernel_rfl
theorem ta11_6 (v : Value) (w : World) : (Instr.typeAssert (.iface 146 v) 20 139 true).run Try.prog w = .ok (.tuple #[.bool false, .bool false]) w := by kernel_rfl
theorem ta11_7 (v : Value) (w : World) : (Instr.typeAssert (.iface 146 v) 20 140 true).run Try.prog w = .ok (.tuple #[.slice none 0 0, .bool false]) w := by kernel_rfl
theorem ta11_8 (v : Value) (w : World) : (Instr.typeAssert (.iface 146 v) 20 141 true).run Try.prog w = .ok (.tuple #[.slice none 0 0, .bool false]) w := by kernel_rfl
theorem ta11_9 (v : Value) (w : World) : (Instr.typeAssert (.iface 146 v) 20 143 true).run Try.prog w = .ok (.tuple #[.agg #[.nilIface, .nilIface], .bool false]) w := by kernel_rfl
theorem ta11_10 (v : Value) (w : World) : (Instr.typeAssert (.iface 146 v) 20 145 true).run Try.prog w = .ok (.tuple #[.agg #[.int .i64 0], .bool false]) w := by kernel_rfl
theorem ta11_11 (v : Value) (w : World) : (Instr.typeAssert (.iface 146 v) 20 146 true).run Try.prog w = .ok (.tuple #[v, .bool true]) w := by kernel_rfl
theorem ta13_1 (v : Value) (w : World) : (Instr.typeAssert (.iface 149 v) 20 134 true).run Try.prog w = .ok (.tuple #[.int .i64 0, .bool false]) w := by kernel_rfl
theorem ta13_2 (v : Value) (w : World) : (Instr.typeAssert (.iface 149 v) 20 135 true).run Try.prog w = .ok (.tuple #[.int .i64 0, .bool false]) w := by kernel_rfl
theorem ta13_3 (v : Value) (w : World) : (Instr.typeAssert (.iface 149 v) 20 136 true).run Try.prog w = .ok (.tuple #[.float .f64 0, .bool false]) w := by kernel_rfl
theorem ta13_4 (v : Value) (w : World) : (Instr.typeAssert (.iface 149 v) 20 137 true).run Try.prog w = .ok (.tuple #[.string ⟨#[]⟩, .bool false]) w := by kernel_rfl
theorem ta13_5 (v : Value) (w : World) : (Instr.typeAssert (.iface 149 v) 20 138 true).run Try.prog w = .ok (.tuple #[.string ⟨#[]⟩, .bool false]) w := by kernel_rfl
theorem ta13_6 (v : Value) (w : World) : (Instr.typeAssert (.iface 149 v) 20 139 true).run Try.prog w = .ok (.tuple #[.bool false, .bool false]) w := by kernel_rfl
theorem ta13_7 (v : Value) (w : World) : (Instr.typeAssert (.iface 149 v) 20 140 true).run Try.prog w = .ok (.tuple #[.slice none 0 0, .bool false]) w := by kernel_rfl
theorem ta13_8 (v : Value) (w : World) : (Instr.typeAssert (.iface 149 v) 20 141 true).run Try.prog w = .ok (.tuple #[.slice none 0 0, .bool false]) w := by kernel_rfl
theorem ta13_9 (v : Value) (w : World) : (Instr.typeAssert (.iface 149 v) 20 143 true).run Try.prog w = .ok (.tuple #[.agg #[.nilIface, .nilIface], .bool false]) w := by kernel_rfl
theorem ta13_10 (v : Value) (w : World) : (Instr.typeAssert (.iface 149 v) 20 145 true).run Try.prog w = .ok (.tuple #[.agg #[.int .i64 0], .bool false]) w := by kernel_rfl
theorem ta13_11 (v : Value) (w : World) : (Instr.typeAssert (.iface 149 v) 20 146 true).run Try.prog w = .ok (.tuple #[.pointer none, .bool false]) w := by kernel_rfl
theorem ta13_13 (v : Value) (w : World) : (Instr.typeAssert (.iface 149 v) 20 149 true).run Try.prog w = .ok (.tuple #[v, .bool true]) w := by kernel_rfl
attribute [local go_sem] ta1_1 ta2_1 ta2_2 ta3_1 ta3_2 ta3_3 ta4_1 ta4_2 ta4_3 ta4_4 ta5_1 ta5_2 ta5_3 ta5_4 ta5_5 ta6_1 ta6_2 ta6_3 ta6_4 ta6_5 ta6_6 ta7_1 ta7_2 ta7_3 ta7_4 ta7_5 ta7_6 ta7_7 ta8_1 ta8_2 ta8_3 ta8_4 ta8_5 ta8_6 ta8_7 ta8_8 ta9_1 ta9_2 ta9_3 ta9_4 ta9_5 ta9_6 ta9_7 ta9_8 ta9_9 ta10_1 ta10_2 ta10_3 ta10_4 ta10_5 ta10_6 ta10_7 ta10_8 ta10_9 ta10_10 ta11_1 ta11_2 ta11_3 ta11_4 ta11_5 ta11_6 ta11_7 ta11_8 ta11_9 ta11_10 ta11_11 ta13_1 ta13_2 ta13_3 ta13_4 ta13_5 ta13_6 ta13_7 ta13_8 ta13_9 ta13_10 ta13_11 ta13_13
/-- Has a kind's sample the type of another? -/
def typedB (k : Nat) (n : Int) : Bool := if k = 0 then false else if k = 11 ∨ k = 12 then (n == 11 || n == 12) else n == (k : Int)
set_option maxRecDepth 100000 in
theorem typed_1 (n : Int) (w : World) (v : Value) : Calls Try.prog 68 #[.iface 134 v, .int .i64 n] w fun x w' => x = .returned (.bool (n == 1)) ∧ w = w' := by
  go_enter Try.func68, Try.ntmps68
  go_wp2_with fail
  go_ret
  exact ⟨rfl, rfl⟩
set_option maxRecDepth 100000 in
theorem typed_2 (n : Int) (w : World) (v : Value) : Calls Try.prog 68 #[.iface 135 v, .int .i64 n] w fun x w' => x = .returned (.bool (n == 2)) ∧ w = w' := by
  go_enter Try.func68, Try.ntmps68
  go_wp2_with fail
  go_ret
  exact ⟨rfl, rfl⟩
set_option maxRecDepth 100000 in
theorem typed_3 (n : Int) (w : World) (v : Value) : Calls Try.prog 68 #[.iface 136 v, .int .i64 n] w fun x w' => x = .returned (.bool (n == 3)) ∧ w = w' := by
  go_enter Try.func68, Try.ntmps68
  go_wp2_with fail
  go_ret
  exact ⟨rfl, rfl⟩
set_option maxRecDepth 100000 in
theorem typed_4 (n : Int) (w : World) (v : Value) : Calls Try.prog 68 #[.iface 137 v, .int .i64 n] w fun x w' => x = .returned (.bool (n == 4)) ∧ w = w' := by
  go_enter Try.func68, Try.ntmps68
  go_wp2_with fail
  go_ret
  exact ⟨rfl, rfl⟩
set_option maxRecDepth 100000 in
theorem typed_5 (n : Int) (w : World) (v : Value) : Calls Try.prog 68 #[.iface 138 v, .int .i64 n] w fun x w' => x = .returned (.bool (n == 5)) ∧ w = w' := by
  go_enter Try.func68, Try.ntmps68
  go_wp2_with fail
  go_ret
  exact ⟨rfl, rfl⟩
set_option maxRecDepth 100000 in
theorem typed_6 (n : Int) (w : World) (v : Value) : Calls Try.prog 68 #[.iface 139 v, .int .i64 n] w fun x w' => x = .returned (.bool (n == 6)) ∧ w = w' := by
  go_enter Try.func68, Try.ntmps68
  go_wp2_with fail
  go_ret
  exact ⟨rfl, rfl⟩
set_option maxRecDepth 100000 in
theorem typed_7 (n : Int) (w : World) (v : Value) : Calls Try.prog 68 #[.iface 140 v, .int .i64 n] w fun x w' => x = .returned (.bool (n == 7)) ∧ w = w' := by
  go_enter Try.func68, Try.ntmps68
  go_wp2_with fail
  go_ret
  exact ⟨rfl, rfl⟩
set_option maxRecDepth 100000 in
theorem typed_8 (n : Int) (w : World) (v : Value) : Calls Try.prog 68 #[.iface 141 v, .int .i64 n] w fun x w' => x = .returned (.bool (n == 8)) ∧ w = w' := by
  go_enter Try.func68, Try.ntmps68
  go_wp2_with fail
  go_ret
  exact ⟨rfl, rfl⟩
set_option maxRecDepth 100000 in
theorem typed_9 (n : Int) (w : World) (v : Value) : Calls Try.prog 68 #[.iface 143 v, .int .i64 n] w fun x w' => x = .returned (.bool (n == 9)) ∧ w = w' := by
  go_enter Try.func68, Try.ntmps68
  go_wp2_with fail
  go_ret
  exact ⟨rfl, rfl⟩
set_option maxRecDepth 100000 in
theorem typed_10 (n : Int) (w : World) (v : Value) : Calls Try.prog 68 #[.iface 145 v, .int .i64 n] w fun x w' => x = .returned (.bool (n == 10)) ∧ w = w' := by
  go_enter Try.func68, Try.ntmps68
  go_wp2_with fail
  go_ret
  exact ⟨rfl, rfl⟩
set_option maxRecDepth 100000 in
theorem typed_13 (n : Int) (w : World) (v : Value) : Calls Try.prog 68 #[.iface 149 v, .int .i64 n] w fun x w' => x = .returned (.bool (n == 13)) ∧ w = w' := by
  go_enter Try.func68, Try.ntmps68
  go_wp2_with fail
  go_ret
  exact ⟨rfl, rfl⟩
set_option maxRecDepth 100000 in
theorem typed_11 (n : Int) (w : World) (v : Value) : Calls Try.prog 68 #[.iface 146 v, .int .i64 n] w fun x w' => x = .returned (.bool (n == 11 || n == 12)) ∧ w = w' := by
  by_cases h : n = 11
  · subst h
    go_enter Try.func68, Try.ntmps68
    go_wp2_with fail
    go_ret
    exact ⟨rfl, rfl⟩
  · have h1 : (n == 11) = false := by simpa using h
    clear h
    go_enter Try.func68, Try.ntmps68
    go_wp2_with fail
    go_ret
    exact ⟨by simp [h1], rfl⟩
set_option maxRecDepth 100000 in
theorem typed_0 (n : Int) (w : World) : Calls Try.prog 68 #[.nilIface, .int .i64 n] w fun x w' => x = .returned (.bool false) ∧ w = w' := by
  go_enter Try.func68, Try.ntmps68
  go_wp2_with fail
  go_ret
  exact ⟨rfl, rfl⟩
/-- A kind's sample, as sample gives it. -/
def SampV (k : Nat) (v : Value) : Prop := k = 0 ∧ v = .nilIface ∨ 1 ≤ k ∧ ∃ u, v = .iface (sampT k) u
theorem sample_v (k : Nat) (hk : k ≤ 13) (w : World) : Calls Try.prog 55 #[.int .i64 k] w fun x w' => ∃ v, x = .returned v ∧ SampV k v ∧ Below w.heap.size w w' :=
  (sample_any k hk w).mono fun x w' ⟨h, hb⟩ => by
    rcases h with ⟨h0, hx⟩ | ⟨h1, u, hx⟩
    · exact ⟨_, hx, Or.inl ⟨h0, rfl⟩, hb⟩
    · exact ⟨_, hx, Or.inr ⟨h1, u, rfl⟩, hb⟩
theorem typed_any (k : Nat) (hk : k ≤ 13) (n : Int) (v : Value) (hv : SampV k v) (w : World) : Calls Try.prog 68 #[v, .int .i64 n] w fun x w' => x = .returned (.bool (typedB k n)) ∧ w = w' := by
  rcases hv with ⟨rfl, rfl⟩ | ⟨h1, u, rfl⟩
  · exact typed_0 n w
  · match k, hk, h1 with
    | 1, _, _ => exact typed_1 n w u
    | 2, _, _ => exact typed_2 n w u
    | 3, _, _ => exact typed_3 n w u
    | 4, _, _ => exact typed_4 n w u
    | 5, _, _ => exact typed_5 n w u
    | 6, _, _ => exact typed_6 n w u
    | 7, _, _ => exact typed_7 n w u
    | 8, _, _ => exact typed_8 n w u
    | 9, _, _ => exact typed_9 n w u
    | 10, _, _ => exact typed_10 n w u
    | 11, _, _ => exact typed_11 n w u
    | 12, _, _ => exact typed_11 n w u
    | 13, _, _ => exact typed_13 n w u
    | n + 14, h, _ => omega
end Go.Proofs.Yteplhhlgceppkab
