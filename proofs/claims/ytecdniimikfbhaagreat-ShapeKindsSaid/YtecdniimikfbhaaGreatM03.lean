/- Guard: contracts, joined texts (G10, G11, G15, G16). -/
import Derived.Stop.Asserts
import Derived.Test.YtecdniimikfbhaaGreatM02

/- Contracts of want's typed: whatever the value, whether its type is a kind's. -/
namespace Go.Proofs.YtecdniimikfbhaaGreat
open Go Go.RowKit Go.ChangeShapes Go.WideShapes

theorem ta1_1 (v : Value) (w : World) : (Instr.typeAssert (.iface 100 v) 20 100 true).run Tryz.prog w = .ok (.tuple #[v, .bool true]) w := by kernel_rfl
theorem ta2_1 (v : Value) (w : World) : (Instr.typeAssert (.iface 101 v) 20 100 true).run Tryz.prog w = .ok (.tuple #[.int .i64 0, .bool false]) w := by kernel_rfl
theorem ta2_2 (v : Value) (w : World) : (Instr.typeAssert (.iface 101 v) 20 101 true).run Tryz.prog w = .ok (.tuple #[v, .bool true]) w := by kernel_rfl
theorem ta3_1 (v : Value) (w : World) : (Instr.typeAssert (.iface 102 v) 20 100 true).run Tryz.prog w = .ok (.tuple #[.int .i64 0, .bool false]) w := by kernel_rfl
theorem ta3_2 (v : Value) (w : World) : (Instr.typeAssert (.iface 102 v) 20 101 true).run Tryz.prog w = .ok (.tuple #[.int .i64 0, .bool false]) w := by kernel_rfl
theorem ta3_3 (v : Value) (w : World) : (Instr.typeAssert (.iface 102 v) 20 102 true).run Tryz.prog w = .ok (.tuple #[v, .bool true]) w := by kernel_rfl
theorem ta4_1 (v : Value) (w : World) : (Instr.typeAssert (.iface 103 v) 20 100 true).run Tryz.prog w = .ok (.tuple #[.int .i64 0, .bool false]) w := by kernel_rfl
theorem ta4_2 (v : Value) (w : World) : (Instr.typeAssert (.iface 103 v) 20 101 true).run Tryz.prog w = .ok (.tuple #[.int .i64 0, .bool false]) w := by kernel_rfl
theorem ta4_3 (v : Value) (w : World) : (Instr.typeAssert (.iface 103 v) 20 102 true).run Tryz.prog w = .ok (.tuple #[.float .f64 0, .bool false]) w := by kernel_rfl
theorem ta4_4 (v : Value) (w : World) : (Instr.typeAssert (.iface 103 v) 20 103 true).run Tryz.prog w = .ok (.tuple #[v, .bool true]) w := by kernel_rfl
theorem ta5_1 (v : Value) (w : World) : (Instr.typeAssert (.iface 104 v) 20 100 true).run Tryz.prog w = .ok (.tuple #[.int .i64 0, .bool false]) w := by kernel_rfl
theorem ta5_2 (v : Value) (w : World) : (Instr.typeAssert (.iface 104 v) 20 101 true).run Tryz.prog w = .ok (.tuple #[.int .i64 0, .bool false]) w := by kernel_rfl
theorem ta5_3 (v : Value) (w : World) : (Instr.typeAssert (.iface 104 v) 20 102 true).run Tryz.prog w = .ok (.tuple #[.float .f64 0, .bool false]) w := by kernel_rfl
theorem ta5_4 (v : Value) (w : World) : (Instr.typeAssert (.iface 104 v) 20 103 true).run Tryz.prog w = .ok (.tuple #[.string ⟨#[]⟩, .bool false]) w := by kernel_rfl
theorem ta5_5 (v : Value) (w : World) : (Instr.typeAssert (.iface 104 v) 20 104 true).run Tryz.prog w = .ok (.tuple #[v, .bool true]) w := by kernel_rfl
theorem ta6_1 (v : Value) (w : World) : (Instr.typeAssert (.iface 105 v) 20 100 true).run Tryz.prog w = .ok (.tuple #[.int .i64 0, .bool false]) w := by kernel_rfl
theorem ta6_2 (v : Value) (w : World) : (Instr.typeAssert (.iface 105 v) 20 101 true).run Tryz.prog w = .ok (.tuple #[.int .i64 0, .bool false]) w := by kernel_rfl
theorem ta6_3 (v : Value) (w : World) : (Instr.typeAssert (.iface 105 v) 20 102 true).run Tryz.prog w = .ok (.tuple #[.float .f64 0, .bool false]) w := by kernel_rfl
theorem ta6_4 (v : Value) (w : World) : (Instr.typeAssert (.iface 105 v) 20 103 true).run Tryz.prog w = .ok (.tuple #[.string ⟨#[]⟩, .bool false]) w := by kernel_rfl
theorem ta6_5 (v : Value) (w : World) : (Instr.typeAssert (.iface 105 v) 20 104 true).run Tryz.prog w = .ok (.tuple #[.string ⟨#[]⟩, .bool false]) w := by kernel_rfl
theorem ta6_6 (v : Value) (w : World) : (Instr.typeAssert (.iface 105 v) 20 105 true).run Tryz.prog w = .ok (.tuple #[v, .bool true]) w := by kernel_rfl
theorem ta7_1 (v : Value) (w : World) : (Instr.typeAssert (.iface 107 v) 20 100 true).run Tryz.prog w = .ok (.tuple #[.int .i64 0, .bool false]) w := by kernel_rfl
theorem ta7_2 (v : Value) (w : World) : (Instr.typeAssert (.iface 107 v) 20 101 true).run Tryz.prog w = .ok (.tuple #[.int .i64 0, .bool false]) w := by kernel_rfl
theorem ta7_3 (v : Value) (w : World) : (Instr.typeAssert (.iface 107 v) 20 102 true).run Tryz.prog w = .ok (.tuple #[.float .f64 0, .bool false]) w := by kernel_rfl
theorem ta7_4 (v : Value) (w : World) : (Instr.typeAssert (.iface 107 v) 20 103 true).run Tryz.prog w = .ok (.tuple #[.string ⟨#[]⟩, .bool false]) w := by kernel_rfl
theorem ta7_5 (v : Value) (w : World) : (Instr.typeAssert (.iface 107 v) 20 104 true).run Tryz.prog w = .ok (.tuple #[.string ⟨#[]⟩, .bool false]) w := by kernel_rfl
theorem ta7_6 (v : Value) (w : World) : (Instr.typeAssert (.iface 107 v) 20 105 true).run Tryz.prog w = .ok (.tuple #[.bool false, .bool false]) w := by kernel_rfl
theorem ta7_7 (v : Value) (w : World) : (Instr.typeAssert (.iface 107 v) 20 107 true).run Tryz.prog w = .ok (.tuple #[v, .bool true]) w := by kernel_rfl
theorem ta8_1 (v : Value) (w : World) : (Instr.typeAssert (.iface 109 v) 20 100 true).run Tryz.prog w = .ok (.tuple #[.int .i64 0, .bool false]) w := by kernel_rfl
theorem ta8_2 (v : Value) (w : World) : (Instr.typeAssert (.iface 109 v) 20 101 true).run Tryz.prog w = .ok (.tuple #[.int .i64 0, .bool false]) w := by kernel_rfl
theorem ta8_3 (v : Value) (w : World) : (Instr.typeAssert (.iface 109 v) 20 102 true).run Tryz.prog w = .ok (.tuple #[.float .f64 0, .bool false]) w := by kernel_rfl
theorem ta8_4 (v : Value) (w : World) : (Instr.typeAssert (.iface 109 v) 20 103 true).run Tryz.prog w = .ok (.tuple #[.string ⟨#[]⟩, .bool false]) w := by kernel_rfl
theorem ta8_5 (v : Value) (w : World) : (Instr.typeAssert (.iface 109 v) 20 104 true).run Tryz.prog w = .ok (.tuple #[.string ⟨#[]⟩, .bool false]) w := by kernel_rfl
theorem ta8_6 (v : Value) (w : World) : (Instr.typeAssert (.iface 109 v) 20 105 true).run Tryz.prog w = .ok (.tuple #[.bool false, .bool false]) w := by kernel_rfl
theorem ta8_7 (v : Value) (w : World) : (Instr.typeAssert (.iface 109 v) 20 107 true).run Tryz.prog w = .ok (.tuple #[.slice none 0 0, .bool false]) w := by kernel_rfl
theorem ta8_8 (v : Value) (w : World) : (Instr.typeAssert (.iface 109 v) 20 109 true).run Tryz.prog w = .ok (.tuple #[v, .bool true]) w := by kernel_rfl
theorem ta9_1 (v : Value) (w : World) : (Instr.typeAssert (.iface 111 v) 20 100 true).run Tryz.prog w = .ok (.tuple #[.int .i64 0, .bool false]) w := by kernel_rfl
theorem ta9_2 (v : Value) (w : World) : (Instr.typeAssert (.iface 111 v) 20 101 true).run Tryz.prog w = .ok (.tuple #[.int .i64 0, .bool false]) w := by kernel_rfl
theorem ta9_3 (v : Value) (w : World) : (Instr.typeAssert (.iface 111 v) 20 102 true).run Tryz.prog w = .ok (.tuple #[.float .f64 0, .bool false]) w := by kernel_rfl
theorem ta9_4 (v : Value) (w : World) : (Instr.typeAssert (.iface 111 v) 20 103 true).run Tryz.prog w = .ok (.tuple #[.string ⟨#[]⟩, .bool false]) w := by kernel_rfl
theorem ta9_5 (v : Value) (w : World) : (Instr.typeAssert (.iface 111 v) 20 104 true).run Tryz.prog w = .ok (.tuple #[.string ⟨#[]⟩, .bool false]) w := by kernel_rfl
theorem ta9_6 (v : Value) (w : World) : (Instr.typeAssert (.iface 111 v) 20 105 true).run Tryz.prog w = .ok (.tuple #[.bool false, .bool false]) w := by kernel_rfl
theorem ta9_7 (v : Value) (w : World) : (Instr.typeAssert (.iface 111 v) 20 107 true).run Tryz.prog w = .ok (.tuple #[.slice none 0 0, .bool false]) w := by kernel_rfl
theorem ta9_8 (v : Value) (w : World) : (Instr.typeAssert (.iface 111 v) 20 109 true).run Tryz.prog w = .ok (.tuple #[.slice none 0 0, .bool false]) w := by kernel_rfl
theorem ta9_9 (v : Value) (w : World) : (Instr.typeAssert (.iface 111 v) 20 111 true).run Tryz.prog w = .ok (.tuple #[v, .bool true]) w := by kernel_rfl
theorem ta10_1 (v : Value) (w : World) : (Instr.typeAssert (.iface 113 v) 20 100 true).run Tryz.prog w = .ok (.tuple #[.int .i64 0, .bool false]) w := by kernel_rfl
theorem ta10_2 (v : Value) (w : World) : (Instr.typeAssert (.iface 113 v) 20 101 true).run Tryz.prog w = .ok (.tuple #[.int .i64 0, .bool false]) w := by kernel_rfl
theorem ta10_3 (v : Value) (w : World) : (Instr.typeAssert (.iface 113 v) 20 102 true).run Tryz.prog w = .ok (.tuple #[.float .f64 0, .bool false]) w := by kernel_rfl
theorem ta10_4 (v : Value) (w : World) : (Instr.typeAssert (.iface 113 v) 20 103 true).run Tryz.prog w = .ok (.tuple #[.string ⟨#[]⟩, .bool false]) w := by kernel_rfl
theorem ta10_5 (v : Value) (w : World) : (Instr.typeAssert (.iface 113 v) 20 104 true).run Tryz.prog w = .ok (.tuple #[.string ⟨#[]⟩, .bool false]) w := by kernel_rfl
theorem ta10_6 (v : Value) (w : World) : (Instr.typeAssert (.iface 113 v) 20 105 true).run Tryz.prog w = .ok (.tuple #[.bool false, .bool false]) w := by kernel_rfl
theorem ta10_7 (v : Value) (w : World) : (Instr.typeAssert (.iface 113 v) 20 107 true).run Tryz.prog w = .ok (.tuple #[.slice none 0 0, .bool false]) w := by kernel_rfl
theorem ta10_8 (v : Value) (w : World) : (Instr.typeAssert (.iface 113 v) 20 109 true).run Tryz.prog w = .ok (.tuple #[.slice none 0 0, .bool false]) w := by kernel_rfl
theorem ta10_9 (v : Value) (w : World) : (Instr.typeAssert (.iface 113 v) 20 111 true).run Tryz.prog w = .ok (.tuple #[.agg #[.nilIface, .nilIface], .bool false]) w := by kernel_rfl
theorem ta10_10 (v : Value) (w : World) : (Instr.typeAssert (.iface 113 v) 20 113 true).run Tryz.prog w = .ok (.tuple #[v, .bool true]) w := by kernel_rfl
theorem ta11_1 (v : Value) (w : World) : (Instr.typeAssert (.iface 79 v) 20 100 true).run Tryz.prog w = .ok (.tuple #[.int .i64 0, .bool false]) w := by kernel_rfl
theorem ta11_2 (v : Value) (w : World) : (Instr.typeAssert (.iface 79 v) 20 101 true).run Tryz.prog w = .ok (.tuple #[.int .i64 0, .bool false]) w := by kernel_rfl
theorem ta11_3 (v : Value) (w : World) : (Instr.typeAssert (.iface 79 v) 20 102 true).run Tryz.prog w = .ok (.tuple #[.float .f64 0, .bool false]) w := by kernel_rfl
theorem ta11_4 (v : Value) (w : World) : (Instr.typeAssert (.iface 79 v) 20 103 true).run Tryz.prog w = .ok (.tuple #[.string ⟨#[]⟩, .bool false]) w := by kernel_rfl
theorem ta11_5 (v : Value) (w : World) : (Instr.typeAssert (.iface 79 v) 20 104 true).run Tryz.prog w = .ok (.tuple #[.string ⟨#[]⟩, .bool false]) w := by kernel_rfl
theorem ta11_6 (v : Value) (w : World) : (Instr.typeAssert (.iface 79 v) 20 105 true).run Tryz.prog w = .ok (.tuple #[.bool false, .bool false]) w := by kernel_rfl
theorem ta11_7 (v : Value) (w : World) : (Instr.typeAssert (.iface 79 v) 20 107 true).run Tryz.prog w = .ok (.tuple #[.slice none 0 0, .bool false]) w := by kernel_rfl
theorem ta11_8 (v : Value) (w : World) : (Instr.typeAssert (.iface 79 v) 20 109 true).run Tryz.prog w = .ok (.tuple #[.slice none 0 0, .bool false]) w := by kernel_rfl
theorem ta11_9 (v : Value) (w : World) : (Instr.typeAssert (.iface 79 v) 20 111 true).run Tryz.prog w = .ok (.tuple #[.agg #[.nilIface, .nilIface], .bool false]) w := by kernel_rfl
theorem ta11_10 (v : Value) (w : World) : (Instr.typeAssert (.iface 79 v) 20 113 true).run Tryz.prog w = .ok (.tuple #[.agg #[.int .i64 0], .bool false]) w := by kernel_rfl
theorem ta11_11 (v : Value) (w : World) : (Instr.typeAssert (.iface 79 v) 20 79 true).run Tryz.prog w = .ok (.tuple #[v, .bool true]) w := by kernel_rfl
theorem ta13_1 (v : Value) (w : World) : (Instr.typeAssert (.iface 117 v) 20 100 true).run Tryz.prog w = .ok (.tuple #[.int .i64 0, .bool false]) w := by kernel_rfl
theorem ta13_2 (v : Value) (w : World) : (Instr.typeAssert (.iface 117 v) 20 101 true).run Tryz.prog w = .ok (.tuple #[.int .i64 0, .bool false]) w := by kernel_rfl
theorem ta13_3 (v : Value) (w : World) : (Instr.typeAssert (.iface 117 v) 20 102 true).run Tryz.prog w = .ok (.tuple #[.float .f64 0, .bool false]) w := by kernel_rfl
theorem ta13_4 (v : Value) (w : World) : (Instr.typeAssert (.iface 117 v) 20 103 true).run Tryz.prog w = .ok (.tuple #[.string ⟨#[]⟩, .bool false]) w := by kernel_rfl
theorem ta13_5 (v : Value) (w : World) : (Instr.typeAssert (.iface 117 v) 20 104 true).run Tryz.prog w = .ok (.tuple #[.string ⟨#[]⟩, .bool false]) w := by kernel_rfl
theorem ta13_6 (v : Value) (w : World) : (Instr.typeAssert (.iface 117 v) 20 105 true).run Tryz.prog w = .ok (.tuple #[.bool false, .bool false]) w := by kernel_rfl
theorem ta13_7 (v : Value) (w : World) : (Instr.typeAssert (.iface 117 v) 20 107 true).run Tryz.prog w = .ok (.tuple #[.slice none 0 0, .bool false]) w := by kernel_rfl
theorem ta13_8 (v : Value) (w : World) : (Instr.typeAssert (.iface 117 v) 20 109 true).run Tryz.prog w = .ok (.tuple #[.slice none 0 0, .bool false]) w := by kernel_rfl
theorem ta13_9 (v : Value) (w : World) : (Instr.typeAssert (.iface 117 v) 20 111 true).run Tryz.prog w = .ok (.tuple #[.agg #[.nilIface, .nilIface], .bool false]) w := by kernel_rfl
theorem ta13_10 (v : Value) (w : World) : (Instr.typeAssert (.iface 117 v) 20 113 true).run Tryz.prog w = .ok (.tuple #[.agg #[.int .i64 0], .bool false]) w := by kernel_rfl
theorem ta13_11 (v : Value) (w : World) : (Instr.typeAssert (.iface 117 v) 20 79 true).run Tryz.prog w = .ok (.tuple #[.pointer none, .bool false]) w := by kernel_rfl
theorem ta13_13 (v : Value) (w : World) : (Instr.typeAssert (.iface 117 v) 20 117 true).run Tryz.prog w = .ok (.tuple #[v, .bool true]) w := by kernel_rfl
attribute [local go_sem] ta1_1 ta2_1 ta2_2 ta3_1 ta3_2 ta3_3 ta4_1 ta4_2 ta4_3 ta4_4 ta5_1 ta5_2 ta5_3 ta5_4 ta5_5 ta6_1 ta6_2 ta6_3 ta6_4 ta6_5 ta6_6 ta7_1 ta7_2 ta7_3 ta7_4 ta7_5 ta7_6 ta7_7 ta8_1 ta8_2 ta8_3 ta8_4 ta8_5 ta8_6 ta8_7 ta8_8 ta9_1 ta9_2 ta9_3 ta9_4 ta9_5 ta9_6 ta9_7 ta9_8 ta9_9 ta10_1 ta10_2 ta10_3 ta10_4 ta10_5 ta10_6 ta10_7 ta10_8 ta10_9 ta10_10 ta11_1 ta11_2 ta11_3 ta11_4 ta11_5 ta11_6 ta11_7 ta11_8 ta11_9 ta11_10 ta11_11 ta13_1 ta13_2 ta13_3 ta13_4 ta13_5 ta13_6 ta13_7 ta13_8 ta13_9 ta13_10 ta13_11 ta13_13
/-- Has a kind's sample the type of another? -/
def typedB (k : Nat) (n : Int) : Bool := if k = 0 then false else if k = 11 ∨ k = 12 then (n == 11 || n == 12) else n == (k : Int)
set_option maxRecDepth 100000 in
theorem typed_1 (n : Int) (w : World) (v : Value) : Calls Tryz.prog 93 #[.iface 100 v, .int .i64 n] w fun x w' => x = .returned (.bool (n == 1)) ∧ w = w' := by
  go_enter Tryz.func93, Tryz.ntmps93
  go_wp2_with fail
  go_ret
  exact ⟨rfl, rfl⟩
set_option maxRecDepth 100000 in
theorem typed_2 (n : Int) (w : World) (v : Value) : Calls Tryz.prog 93 #[.iface 101 v, .int .i64 n] w fun x w' => x = .returned (.bool (n == 2)) ∧ w = w' := by
  go_enter Tryz.func93, Tryz.ntmps93
  go_wp2_with fail
  go_ret
  exact ⟨rfl, rfl⟩
set_option maxRecDepth 100000 in
theorem typed_3 (n : Int) (w : World) (v : Value) : Calls Tryz.prog 93 #[.iface 102 v, .int .i64 n] w fun x w' => x = .returned (.bool (n == 3)) ∧ w = w' := by
  go_enter Tryz.func93, Tryz.ntmps93
  go_wp2_with fail
  go_ret
  exact ⟨rfl, rfl⟩
set_option maxRecDepth 100000 in
theorem typed_4 (n : Int) (w : World) (v : Value) : Calls Tryz.prog 93 #[.iface 103 v, .int .i64 n] w fun x w' => x = .returned (.bool (n == 4)) ∧ w = w' := by
  go_enter Tryz.func93, Tryz.ntmps93
  go_wp2_with fail
  go_ret
  exact ⟨rfl, rfl⟩
set_option maxRecDepth 100000 in
theorem typed_5 (n : Int) (w : World) (v : Value) : Calls Tryz.prog 93 #[.iface 104 v, .int .i64 n] w fun x w' => x = .returned (.bool (n == 5)) ∧ w = w' := by
  go_enter Tryz.func93, Tryz.ntmps93
  go_wp2_with fail
  go_ret
  exact ⟨rfl, rfl⟩
set_option maxRecDepth 100000 in
theorem typed_6 (n : Int) (w : World) (v : Value) : Calls Tryz.prog 93 #[.iface 105 v, .int .i64 n] w fun x w' => x = .returned (.bool (n == 6)) ∧ w = w' := by
  go_enter Tryz.func93, Tryz.ntmps93
  go_wp2_with fail
  go_ret
  exact ⟨rfl, rfl⟩
set_option maxRecDepth 100000 in
theorem typed_7 (n : Int) (w : World) (v : Value) : Calls Tryz.prog 93 #[.iface 107 v, .int .i64 n] w fun x w' => x = .returned (.bool (n == 7)) ∧ w = w' := by
  go_enter Tryz.func93, Tryz.ntmps93
  go_wp2_with fail
  go_ret
  exact ⟨rfl, rfl⟩
set_option maxRecDepth 100000 in
theorem typed_8 (n : Int) (w : World) (v : Value) : Calls Tryz.prog 93 #[.iface 109 v, .int .i64 n] w fun x w' => x = .returned (.bool (n == 8)) ∧ w = w' := by
  go_enter Tryz.func93, Tryz.ntmps93
  go_wp2_with fail
  go_ret
  exact ⟨rfl, rfl⟩
set_option maxRecDepth 100000 in
theorem typed_9 (n : Int) (w : World) (v : Value) : Calls Tryz.prog 93 #[.iface 111 v, .int .i64 n] w fun x w' => x = .returned (.bool (n == 9)) ∧ w = w' := by
  go_enter Tryz.func93, Tryz.ntmps93
  go_wp2_with fail
  go_ret
  exact ⟨rfl, rfl⟩
set_option maxRecDepth 100000 in
theorem typed_10 (n : Int) (w : World) (v : Value) : Calls Tryz.prog 93 #[.iface 113 v, .int .i64 n] w fun x w' => x = .returned (.bool (n == 10)) ∧ w = w' := by
  go_enter Tryz.func93, Tryz.ntmps93
  go_wp2_with fail
  go_ret
  exact ⟨rfl, rfl⟩
set_option maxRecDepth 100000 in
theorem typed_13 (n : Int) (w : World) (v : Value) : Calls Tryz.prog 93 #[.iface 117 v, .int .i64 n] w fun x w' => x = .returned (.bool (n == 13)) ∧ w = w' := by
  go_enter Tryz.func93, Tryz.ntmps93
  go_wp2_with fail
  go_ret
  exact ⟨rfl, rfl⟩
set_option maxRecDepth 100000 in
theorem typed_11 (n : Int) (w : World) (v : Value) : Calls Tryz.prog 93 #[.iface 79 v, .int .i64 n] w fun x w' => x = .returned (.bool (n == 11 || n == 12)) ∧ w = w' := by
  by_cases h : n = 11
  · subst h
    go_enter Tryz.func93, Tryz.ntmps93
    go_wp2_with fail
    go_ret
    exact ⟨rfl, rfl⟩
  · have h1 : (n == 11) = false := by simpa using h
    clear h
    go_enter Tryz.func93, Tryz.ntmps93
    go_wp2_with fail
    go_ret
    exact ⟨by simp [h1], rfl⟩
set_option maxRecDepth 100000 in
theorem typed_0 (n : Int) (w : World) : Calls Tryz.prog 93 #[.nilIface, .int .i64 n] w fun x w' => x = .returned (.bool false) ∧ w = w' := by
  go_enter Tryz.func93, Tryz.ntmps93
  go_wp2_with fail
  go_ret
  exact ⟨rfl, rfl⟩
/-- A kind's sample, as sample gives it. -/
def SampV (k : Nat) (v : Value) : Prop := k = 0 ∧ v = .nilIface ∨ 1 ≤ k ∧ ∃ u, v = .iface (sampT k) u
theorem sample_v (k : Nat) (hk : k ≤ 13) (w : World) : Calls Tryz.prog 56 #[.int .i64 k] w fun x w' => ∃ v, x = .returned v ∧ SampV k v ∧ Below w.heap.size w w' :=
  (sample_any k hk w).mono fun x w' ⟨h, hb⟩ => by
    rcases h with ⟨h0, hx⟩ | ⟨h1, u, hx⟩
    · exact ⟨_, hx, Or.inl ⟨h0, rfl⟩, hb⟩
    · exact ⟨_, hx, Or.inr ⟨h1, u, rfl⟩, hb⟩
theorem typed_any (k : Nat) (hk : k ≤ 13) (n : Int) (v : Value) (hv : SampV k v) (w : World) : Calls Tryz.prog 93 #[v, .int .i64 n] w fun x w' => x = .returned (.bool (typedB k n)) ∧ w = w' := by
  rcases hv with ⟨rfl, rfl⟩ | ⟨h1, u, rfl⟩
  · exact typed_0 n w
  · match k, hk, h1 with
    | 1, _, _ => exact typed_1 n w u
    | 2, _, _ => exact typed_2 n w u
    | 3, _, _ => exact typed_3 n w u
    | 4, _, _ => exact typed_4 n w u
    | 5, _, _ => exact typed_5 n w u
    | 6, _, _ => exact typed_6 n w u
    | 7, _, _ => exact typed_7 n w u
    | 8, _, _ => exact typed_8 n w u
    | 9, _, _ => exact typed_9 n w u
    | 10, _, _ => exact typed_10 n w u
    | 11, _, _ => exact typed_11 n w u
    | 12, _, _ => exact typed_11 n w u
    | 13, _, _ => exact typed_13 n w u
    | n + 14, h, _ => omega
end Go.Proofs.YtecdniimikfbhaaGreat

/- Contracts of want's is and must. -/
namespace Go.Proofs.YtecdniimikfbhaaGreat
open Go Go.RowKit Go.ChangeShapes Go.WideShapes

/-- Is a value of kind k of the type of kind n? -/
def isB (k : Nat) (n : Int) : Bool := typedB k n && (n != 12 || (k : Int) == 12)
theorem isB_f {k : Nat} {n : Int} (h : typedB k n = false) : isB k n = false := by simp [isB, h]
theorem isB_n {k : Nat} {n : Int} (h : typedB k n = true) (h2 : (n != 12) = true) : isB k n = true := by simp [isB, h, h2]
theorem isB_m {k : Nat} {n : Int} (h : typedB k n = true) (h2 : (n != 12) = false) : isB k n = ((k : Int) == 12) := by simp [isB, h, h2]

theorem is_any (k : Nat) (hk : k ≤ 13) (n : Int) (v : Value) (hv : SampV k v) (m b t sl : Value) (w : World) :
    Calls Tryz.prog 89 #[v, .agg #[.int .i64 k, m, b, t, sl], .int .i64 n] w fun x w' => x = .returned (.bool (isB k n)) ∧ Below w.heap.size w w' := by
  have HT := Lib.hid (typed_any k hk n v hv)
  clear hv
  cases h : typedB k n
  · rw [isB_f h]
    rw [h] at HT
    clear h
    go_enter Tryz.func89, Tryz.ntmps89
    go_wp2_with (go_at_call 93; refine (HT.out _).mono ?_; rintro e w' ⟨rfl, rfl⟩)
    go_ret
    exact ⟨rfl, by go_grown⟩
  · cases h2 : (n != 12)
    · rw [isB_m h h2]
      rw [h] at HT
      clear h
      go_enter Tryz.func89, Tryz.ntmps89
      go_wp2_with (go_at_call 93; refine (HT.out _).mono ?_; rintro e w' ⟨rfl, rfl⟩)
      go_ret
      exact ⟨rfl, by go_grown⟩
    · rw [isB_n h h2]
      rw [h] at HT
      clear h
      go_enter Tryz.func89, Tryz.ntmps89
      go_wp2_with (go_at_call 93; refine (HT.out _).mono ?_; rintro e w' ⟨rfl, rfl⟩)
      go_ret
      exact ⟨rfl, by go_grown⟩

theorem RepQ.set5 {w : World} {N M b : Nat} {v : Value} {d : D} (h : RepQ w (fun b => N ≤ b) v d) (hb : b < N) (hM : M ≤ N) {x0 x1 x2 x3 x4 : Value} :
    RepQ (((((w.setCell ⟨b, 0, none⟩ x0).setCell ⟨b, 1, none⟩ x1).setCell ⟨b, 2, none⟩ x2).setCell ⟨b, 3, none⟩ x3).setCell ⟨b, 4, none⟩ x4) (fun b => M ≤ b) v d :=
  h.carry (fun i hi _ => ⟨set5_other w b _ _ _ _ _ i (by omega), by omega⟩) (by rw [set5_size]; exact Nat.le_refl _)
theorem set5_below {B b : Nat} {w w1 : World} (h : Below B w w1) (hb : B ≤ b) {x0 x1 x2 x3 x4 : Value} :
    Below B w (((((w1.setCell ⟨b, 0, none⟩ x0).setCell ⟨b, 1, none⟩ x1).setCell ⟨b, 2, none⟩ x2).setCell ⟨b, 3, none⟩ x3).setCell ⟨b, 4, none⟩ x4) :=
  ((((h.setCell (p := ⟨b, 0, none⟩) hb _).setCell (p := ⟨b, 1, none⟩) hb _).setCell (p := ⟨b, 2, none⟩) hb _).setCell (p := ⟨b, 3, none⟩) hb _).setCell (p := ⟨b, 4, none⟩) hb _
theorem boxes1 (w : World) (c0 c1 c2 c3 c4 : Value) : ∃ W1, W1 = w.alloc (.cells #[c0, c1, c2, c3, c4] 26) ∧ Below w.heap.size w W1 ∧ W1.heap.size = w.heap.size + 1 ∧ Box5 W1 w.heap.size c0 c1 c2 c3 c4 :=
  ⟨_, rfl, by go_grown, by simp, heap_alloc_new w _⟩
theorem boxes2 (w : World) (c0 c1 c2 c3 c4 d0 d1 d2 d3 d4 : Value) : ∃ W1, W1 = (w.alloc (.cells #[c0, c1, c2, c3, c4] 26)).alloc (.cells #[d0, d1, d2, d3, d4] 26) ∧ Below w.heap.size w W1 ∧ W1.heap.size = w.heap.size + 2 ∧ Box5 W1 w.heap.size c0 c1 c2 c3 c4 ∧ Box5 W1 (w.heap.size + 1) d0 d1 d2 d3 d4 := by
  refine ⟨_, rfl, by go_grown, by simp, ?_, ?_⟩
  · exact Box5.keep (heap_alloc_new w _) (((Below.refl _ _).alloc (Nat.le_refl _) _).block _ (by simp))
  · have h := heap_alloc_new (w.alloc (.cells #[c0, c1, c2, c3, c4] 26)) (.cells #[d0, d1, d2, d3, d4] 26)
    simpa [Box5] using h

theorem must_no (k : Nat) (hk : k ≤ 13) (n : Int) (v : Value) (hv : SampV k v) (h : isB k n = false) (m b t sl : Value) (w : World) :
    Calls Tryz.prog 82 #[v, .agg #[.int .i64 k, m, b, t, sl], .int .i64 n] w fun x w' => x = .panicked [{ v := .iface 198 (.agg #[.int .i64 k, .int .i64 (-1)]), recovered := false }] ∧ Below w.heap.size w w' := by
  have HT := Lib.hid (is_any k hk n v hv)
  clear hv
  rw [h] at HT
  clear h
  obtain ⟨W1, hW1, hb1, hz1, hx1, hx2⟩ := boxes2 w (.int .i64 k) m b t sl (.int .i64 0) (.int .i64 0) (.int .u64 0) (.string ⟨#[]⟩) (.slice none 0 0)
  obtain ⟨p0, p1, p2, p3, p4⟩ := hx1.cells
  go_enter Tryz.func82, Tryz.ntmps82
  go_upto_region 1 with fail
  rw [← hW1]
  clear hW1
  go_wp2_with (go_at_call 89; refine (HT.out _ _ _ _ _).mono ?_; rintro e w2 ⟨rfl, hb⟩; have q0 := (hx1.keep (hb.block _ (by omega))).cells.1)
  exact ⟨rfl, rfl, hb1.trans (hb.mono (by omega))⟩

set_option maxHeartbeats 800000 in
theorem must_yes (k : Nat) (hk : k ≤ 13) (n : Int) (u : Value) (hu : SampV k u) (h : isB k n = true) {w0 : World} {m b : Int} {t : ByteArray} {a : Option Addr} {l cap : Nat} {d : D} (hv : Rep w0 (.agg #[.int .i64 k, .int .i64 m, .int .u64 b, .string t, .slice a l cap]) d) (hs : Slim d) (w : World) (hb0 : Below w0.heap.size w0 w) :
    Calls Tryz.prog 82 #[u, .agg #[.int .i64 k, .int .i64 m, .int .u64 b, .string t, .slice a l cap], .int .i64 n] w fun x w' => ∃ v', x = .returned v' ∧ RepQ w' (fun b => w.heap.size ≤ b) v' d ∧ Below w.heap.size w w' := by
  have HT := Lib.hid (is_any k hk n u hu)
  clear hu
  rw [h] at HT
  clear h
  have HV := Lib.hid (fun W h => wown_any hv hs W h)
  obtain ⟨W1, hW1, hb1, hz1, hx1, hx2⟩ := boxes2 w (.int .i64 k) (.int .i64 m) (.int .u64 b) (.string t) (.slice a l cap) (.int .i64 0) (.int .i64 0) (.int .u64 0) (.string ⟨#[]⟩) (.slice none 0 0)
  obtain ⟨p0, p1, p2, p3, p4⟩ := hx1.cells
  go_enter Tryz.func82, Tryz.ntmps82
  go_upto_region 1 with fail
  rw [← hW1]
  clear hW1
  go_wp2_with (go_at_call 89; refine (HT.out _ _ _ _ _).mono ?_; rintro e w2 ⟨rfl, hb2⟩; obtain ⟨q0, q1, q2, q3, q4⟩ := (hx1.keep (hb2.block _ (by omega))).cells; have hy2 := hx2.keep (hb2.block _ (by omega)); have hz2 := hb2.size; have hbw2 := hb1.trans (hb2.mono (by omega)); clear p0 p1 p2 p3 p4)
  refine (HV.out _ (hb0.trans (hbw2.mono hb0.size))).mono ?_
  rintro e w3 ⟨v', rfl, hv', hb3⟩
  obtain ⟨k5, m5, b5, t5, a5, n5, cap5, rfl⟩ := hv'.form
  dsimp only
  have hy3 := hy2.keep (hb3.block _ (by omega))
  obtain ⟨z0, z1, z2, z3, z4⟩ := hy3.cells
  have zf := hy3.thaw
  clear q0 q1 q2 q3 q4
  go_wp2_with fail
  refine bodyPost_ret (v := .agg #[.int .i64 k5, .int .i64 m5, .int .u64 b5, .string t5, .slice a5 n5 cap5]) ?_ rfl ?_
  · exact results_cell_row rfl _ _ (w.heap.size + 1) 26 _ (0, 0) _ rfl (hy3.set5 _ _ _ _ _) Tryz.underlying26 rfl (by kernel_rfl)
  · exact ⟨_, rfl, hv'.set5 (by omega) (by omega), set5_below (hbw2.trans (hb3.mono hbw2.size)) (by omega)⟩
end Go.Proofs.YtecdniimikfbhaaGreat

/- Contracts of want's face and method: whatever the value, which interfaces its type has. -/
namespace Go.Proofs.YtecdniimikfbhaaGreat
open Go Go.RowKit Go.ChangeShapes Go.WideShapes

/-- Has a kind a method? -/
def hasM (k : Nat) : Nat → Bool
  | 0 => k == 4 || k == 5 || k == 7 || k == 8 || k == 9 || k == 11 || k == 12
  | 1 => k == 2 || k == 5 || k == 10
  | 2 => k == 10 || k == 11 || k == 12
  | 3 => k == 11 || k == 12
  | 4 => k == 1 || k == 2 || k == 3 || k == 4 || k == 5
  | 5 => k == 1 || k == 3
  | _ => false
/-- The methods of an interface. -/
def meths : Nat → List Nat
  | 0 => [0]
  | 1 => [1]
  | 2 => [2]
  | 3 => [3]
  | 4 => [4]
  | 5 => [5]
  | 6 => [0, 1]
  | 7 => [0, 4]
  | 8 => [4, 5]
  | 9 => [0, 1, 4]
  | _ => []
/-- Has a kind an interface? -/
def hasF (k f : Nat) : Bool := decide (f < 10) && (meths f).all (hasM k)
def hasFi (k : Nat) (f : Int) : Bool := decide (0 ≤ f ∧ f < 10) && hasF k f.toNat
theorem tf1_0 (v : Value) (w : World) : (Instr.typeAssert (.iface 100 v) 20 119 true).run Tryz.prog w = .ok (.tuple #[.nilIface, .bool false]) w := run_typeAssert_lacksB Tryz.underlying119 (by kernel_rfl) (by kernel_rfl) v _ w
theorem tf2_0 (v : Value) (w : World) : (Instr.typeAssert (.iface 101 v) 20 119 true).run Tryz.prog w = .ok (.tuple #[.nilIface, .bool false]) w := run_typeAssert_lacksB Tryz.underlying119 (by kernel_rfl) (by kernel_rfl) v _ w
theorem tf3_0 (v : Value) (w : World) : (Instr.typeAssert (.iface 102 v) 20 119 true).run Tryz.prog w = .ok (.tuple #[.nilIface, .bool false]) w := run_typeAssert_lacksB Tryz.underlying119 (by kernel_rfl) (by kernel_rfl) v _ w
theorem tf4_0 (v : Value) (w : World) : (Instr.typeAssert (.iface 103 v) 20 119 true).run Tryz.prog w = .ok (.tuple #[.iface 103 v, .bool true]) w := by kernel_rfl
theorem tf5_0 (v : Value) (w : World) : (Instr.typeAssert (.iface 104 v) 20 119 true).run Tryz.prog w = .ok (.tuple #[.iface 104 v, .bool true]) w := by kernel_rfl
theorem tf6_0 (v : Value) (w : World) : (Instr.typeAssert (.iface 105 v) 20 119 true).run Tryz.prog w = .ok (.tuple #[.nilIface, .bool false]) w := run_typeAssert_lacksB Tryz.underlying119 (by kernel_rfl) (by kernel_rfl) v _ w
theorem tf7_0 (v : Value) (w : World) : (Instr.typeAssert (.iface 107 v) 20 119 true).run Tryz.prog w = .ok (.tuple #[.iface 107 v, .bool true]) w := by kernel_rfl
theorem tf8_0 (v : Value) (w : World) : (Instr.typeAssert (.iface 109 v) 20 119 true).run Tryz.prog w = .ok (.tuple #[.iface 109 v, .bool true]) w := by kernel_rfl
theorem tf9_0 (v : Value) (w : World) : (Instr.typeAssert (.iface 111 v) 20 119 true).run Tryz.prog w = .ok (.tuple #[.iface 111 v, .bool true]) w := by kernel_rfl
theorem tf10_0 (v : Value) (w : World) : (Instr.typeAssert (.iface 113 v) 20 119 true).run Tryz.prog w = .ok (.tuple #[.nilIface, .bool false]) w := run_typeAssert_lacksB Tryz.underlying119 (by kernel_rfl) (by kernel_rfl) v _ w
theorem tf11_0 (v : Value) (w : World) : (Instr.typeAssert (.iface 79 v) 20 119 true).run Tryz.prog w = .ok (.tuple #[.iface 79 v, .bool true]) w := by kernel_rfl
theorem tf13_0 (v : Value) (w : World) : (Instr.typeAssert (.iface 117 v) 20 119 true).run Tryz.prog w = .ok (.tuple #[.nilIface, .bool false]) w := run_typeAssert_lacksB Tryz.underlying119 (by kernel_rfl) (by kernel_rfl) v _ w
theorem tf0_0 (w : World) : (Instr.typeAssert .nilIface 20 119 true).run Tryz.prog w = .ok (.tuple #[.nilIface, .bool false]) w := by kernel_rfl
theorem tf_0 (k : Nat) (hk : k ≤ 13) (v : Value) (hv : SampV k v) : ∃ x, ∀ w, (Instr.typeAssert v 20 119 true).run Tryz.prog w = .ok (.tuple #[x, .bool (hasF k 0)]) w := by
  rcases hv with ⟨rfl, rfl⟩ | ⟨h1, u, rfl⟩
  · exact ⟨_, fun w => tf0_0 w⟩
  · match k, hk, h1 with
    | 1, _, _ => exact ⟨_, fun w => tf1_0 u w⟩
    | 2, _, _ => exact ⟨_, fun w => tf2_0 u w⟩
    | 3, _, _ => exact ⟨_, fun w => tf3_0 u w⟩
    | 4, _, _ => exact ⟨_, fun w => tf4_0 u w⟩
    | 5, _, _ => exact ⟨_, fun w => tf5_0 u w⟩
    | 6, _, _ => exact ⟨_, fun w => tf6_0 u w⟩
    | 7, _, _ => exact ⟨_, fun w => tf7_0 u w⟩
    | 8, _, _ => exact ⟨_, fun w => tf8_0 u w⟩
    | 9, _, _ => exact ⟨_, fun w => tf9_0 u w⟩
    | 10, _, _ => exact ⟨_, fun w => tf10_0 u w⟩
    | 11, _, _ => exact ⟨_, fun w => tf11_0 u w⟩
    | 12, _, _ => exact ⟨_, fun w => tf11_0 u w⟩
    | 13, _, _ => exact ⟨_, fun w => tf13_0 u w⟩
    | n + 14, h, _ => omega
theorem tf1_1 (v : Value) (w : World) : (Instr.typeAssert (.iface 100 v) 20 122 true).run Tryz.prog w = .ok (.tuple #[.nilIface, .bool false]) w := run_typeAssert_lacksB Tryz.underlying122 (by kernel_rfl) (by kernel_rfl) v _ w
theorem tf2_1 (v : Value) (w : World) : (Instr.typeAssert (.iface 101 v) 20 122 true).run Tryz.prog w = .ok (.tuple #[.iface 101 v, .bool true]) w := by kernel_rfl
theorem tf3_1 (v : Value) (w : World) : (Instr.typeAssert (.iface 102 v) 20 122 true).run Tryz.prog w = .ok (.tuple #[.nilIface, .bool false]) w := run_typeAssert_lacksB Tryz.underlying122 (by kernel_rfl) (by kernel_rfl) v _ w
theorem tf4_1 (v : Value) (w : World) : (Instr.typeAssert (.iface 103 v) 20 122 true).run Tryz.prog w = .ok (.tuple #[.nilIface, .bool false]) w := run_typeAssert_lacksB Tryz.underlying122 (by kernel_rfl) (by kernel_rfl) v _ w
theorem tf5_1 (v : Value) (w : World) : (Instr.typeAssert (.iface 104 v) 20 122 true).run Tryz.prog w = .ok (.tuple #[.iface 104 v, .bool true]) w := by kernel_rfl
theorem tf6_1 (v : Value) (w : World) : (Instr.typeAssert (.iface 105 v) 20 122 true).run Tryz.prog w = .ok (.tuple #[.nilIface, .bool false]) w := run_typeAssert_lacksB Tryz.underlying122 (by kernel_rfl) (by kernel_rfl) v _ w
theorem tf7_1 (v : Value) (w : World) : (Instr.typeAssert (.iface 107 v) 20 122 true).run Tryz.prog w = .ok (.tuple #[.nilIface, .bool false]) w := run_typeAssert_lacksB Tryz.underlying122 (by kernel_rfl) (by kernel_rfl) v _ w
theorem tf8_1 (v : Value) (w : World) : (Instr.typeAssert (.iface 109 v) 20 122 true).run Tryz.prog w = .ok (.tuple #[.nilIface, .bool false]) w := run_typeAssert_lacksB Tryz.underlying122 (by kernel_rfl) (by kernel_rfl) v _ w
theorem tf9_1 (v : Value) (w : World) : (Instr.typeAssert (.iface 111 v) 20 122 true).run Tryz.prog w = .ok (.tuple #[.nilIface, .bool false]) w := run_typeAssert_lacksB Tryz.underlying122 (by kernel_rfl) (by kernel_rfl) v _ w
theorem tf10_1 (v : Value) (w : World) : (Instr.typeAssert (.iface 113 v) 20 122 true).run Tryz.prog w = .ok (.tuple #[.iface 113 v, .bool true]) w := by kernel_rfl
theorem tf11_1 (v : Value) (w : World) : (Instr.typeAssert (.iface 79 v) 20 122 true).run Tryz.prog w = .ok (.tuple #[.nilIface, .bool false]) w := run_typeAssert_lacksB Tryz.underlying122 (by kernel_rfl) (by kernel_rfl) v _ w
theorem tf13_1 (v : Value) (w : World) : (Instr.typeAssert (.iface 117 v) 20 122 true).run Tryz.prog w = .ok (.tuple #[.nilIface, .bool false]) w := run_typeAssert_lacksB Tryz.underlying122 (by kernel_rfl) (by kernel_rfl) v _ w
theorem tf0_1 (w : World) : (Instr.typeAssert .nilIface 20 122 true).run Tryz.prog w = .ok (.tuple #[.nilIface, .bool false]) w := by kernel_rfl
theorem tf_1 (k : Nat) (hk : k ≤ 13) (v : Value) (hv : SampV k v) : ∃ x, ∀ w, (Instr.typeAssert v 20 122 true).run Tryz.prog w = .ok (.tuple #[x, .bool (hasF k 1)]) w := by
  rcases hv with ⟨rfl, rfl⟩ | ⟨h1, u, rfl⟩
  · exact ⟨_, fun w => tf0_1 w⟩
  · match k, hk, h1 with
    | 1, _, _ => exact ⟨_, fun w => tf1_1 u w⟩
    | 2, _, _ => exact ⟨_, fun w => tf2_1 u w⟩
    | 3, _, _ => exact ⟨_, fun w => tf3_1 u w⟩
    | 4, _, _ => exact ⟨_, fun w => tf4_1 u w⟩
    | 5, _, _ => exact ⟨_, fun w => tf5_1 u w⟩
    | 6, _, _ => exact ⟨_, fun w => tf6_1 u w⟩
    | 7, _, _ => exact ⟨_, fun w => tf7_1 u w⟩
    | 8, _, _ => exact ⟨_, fun w => tf8_1 u w⟩
    | 9, _, _ => exact ⟨_, fun w => tf9_1 u w⟩
    | 10, _, _ => exact ⟨_, fun w => tf10_1 u w⟩
    | 11, _, _ => exact ⟨_, fun w => tf11_1 u w⟩
    | 12, _, _ => exact ⟨_, fun w => tf11_1 u w⟩
    | 13, _, _ => exact ⟨_, fun w => tf13_1 u w⟩
    | n + 14, h, _ => omega
theorem tf1_2 (v : Value) (w : World) : (Instr.typeAssert (.iface 100 v) 20 125 true).run Tryz.prog w = .ok (.tuple #[.nilIface, .bool false]) w := run_typeAssert_lacksB Tryz.underlying125 (by kernel_rfl) (by kernel_rfl) v _ w
theorem tf2_2 (v : Value) (w : World) : (Instr.typeAssert (.iface 101 v) 20 125 true).run Tryz.prog w = .ok (.tuple #[.nilIface, .bool false]) w := run_typeAssert_lacksB Tryz.underlying125 (by kernel_rfl) (by kernel_rfl) v _ w
theorem tf3_2 (v : Value) (w : World) : (Instr.typeAssert (.iface 102 v) 20 125 true).run Tryz.prog w = .ok (.tuple #[.nilIface, .bool false]) w := run_typeAssert_lacksB Tryz.underlying125 (by kernel_rfl) (by kernel_rfl) v _ w
theorem tf4_2 (v : Value) (w : World) : (Instr.typeAssert (.iface 103 v) 20 125 true).run Tryz.prog w = .ok (.tuple #[.nilIface, .bool false]) w := run_typeAssert_lacksB Tryz.underlying125 (by kernel_rfl) (by kernel_rfl) v _ w
theorem tf5_2 (v : Value) (w : World) : (Instr.typeAssert (.iface 104 v) 20 125 true).run Tryz.prog w = .ok (.tuple #[.nilIface, .bool false]) w := run_typeAssert_lacksB Tryz.underlying125 (by kernel_rfl) (by kernel_rfl) v _ w
theorem tf6_2 (v : Value) (w : World) : (Instr.typeAssert (.iface 105 v) 20 125 true).run Tryz.prog w = .ok (.tuple #[.nilIface, .bool false]) w := run_typeAssert_lacksB Tryz.underlying125 (by kernel_rfl) (by kernel_rfl) v _ w
theorem tf7_2 (v : Value) (w : World) : (Instr.typeAssert (.iface 107 v) 20 125 true).run Tryz.prog w = .ok (.tuple #[.nilIface, .bool false]) w := run_typeAssert_lacksB Tryz.underlying125 (by kernel_rfl) (by kernel_rfl) v _ w
theorem tf8_2 (v : Value) (w : World) : (Instr.typeAssert (.iface 109 v) 20 125 true).run Tryz.prog w = .ok (.tuple #[.nilIface, .bool false]) w := run_typeAssert_lacksB Tryz.underlying125 (by kernel_rfl) (by kernel_rfl) v _ w
theorem tf9_2 (v : Value) (w : World) : (Instr.typeAssert (.iface 111 v) 20 125 true).run Tryz.prog w = .ok (.tuple #[.nilIface, .bool false]) w := run_typeAssert_lacksB Tryz.underlying125 (by kernel_rfl) (by kernel_rfl) v _ w
theorem tf10_2 (v : Value) (w : World) : (Instr.typeAssert (.iface 113 v) 20 125 true).run Tryz.prog w = .ok (.tuple #[.iface 113 v, .bool true]) w := by kernel_rfl
theorem tf11_2 (v : Value) (w : World) : (Instr.typeAssert (.iface 79 v) 20 125 true).run Tryz.prog w = .ok (.tuple #[.iface 79 v, .bool true]) w := by kernel_rfl
theorem tf13_2 (v : Value) (w : World) : (Instr.typeAssert (.iface 117 v) 20 125 true).run Tryz.prog w = .ok (.tuple #[.nilIface, .bool false]) w := run_typeAssert_lacksB Tryz.underlying125 (by kernel_rfl) (by kernel_rfl) v _ w
theorem tf0_2 (w : World) : (Instr.typeAssert .nilIface 20 125 true).run Tryz.prog w = .ok (.tuple #[.nilIface, .bool false]) w := by kernel_rfl
theorem tf_2 (k : Nat) (hk : k ≤ 13) (v : Value) (hv : SampV k v) : ∃ x, ∀ w, (Instr.typeAssert v 20 125 true).run Tryz.prog w = .ok (.tuple #[x, .bool (hasF k 2)]) w := by
  rcases hv with ⟨rfl, rfl⟩ | ⟨h1, u, rfl⟩
  · exact ⟨_, fun w => tf0_2 w⟩
  · match k, hk, h1 with
    | 1, _, _ => exact ⟨_, fun w => tf1_2 u w⟩
    | 2, _, _ => exact ⟨_, fun w => tf2_2 u w⟩
    | 3, _, _ => exact ⟨_, fun w => tf3_2 u w⟩
    | 4, _, _ => exact ⟨_, fun w => tf4_2 u w⟩
    | 5, _, _ => exact ⟨_, fun w => tf5_2 u w⟩
    | 6, _, _ => exact ⟨_, fun w => tf6_2 u w⟩
    | 7, _, _ => exact ⟨_, fun w => tf7_2 u w⟩
    | 8, _, _ => exact ⟨_, fun w => tf8_2 u w⟩
    | 9, _, _ => exact ⟨_, fun w => tf9_2 u w⟩
    | 10, _, _ => exact ⟨_, fun w => tf10_2 u w⟩
    | 11, _, _ => exact ⟨_, fun w => tf11_2 u w⟩
    | 12, _, _ => exact ⟨_, fun w => tf11_2 u w⟩
    | 13, _, _ => exact ⟨_, fun w => tf13_2 u w⟩
    | n + 14, h, _ => omega
theorem tf1_3 (v : Value) (w : World) : (Instr.typeAssert (.iface 100 v) 20 128 true).run Tryz.prog w = .ok (.tuple #[.nilIface, .bool false]) w := run_typeAssert_lacksB Tryz.underlying128 (by kernel_rfl) (by kernel_rfl) v _ w
theorem tf2_3 (v : Value) (w : World) : (Instr.typeAssert (.iface 101 v) 20 128 true).run Tryz.prog w = .ok (.tuple #[.nilIface, .bool false]) w := run_typeAssert_lacksB Tryz.underlying128 (by kernel_rfl) (by kernel_rfl) v _ w
theorem tf3_3 (v : Value) (w : World) : (Instr.typeAssert (.iface 102 v) 20 128 true).run Tryz.prog w = .ok (.tuple #[.nilIface, .bool false]) w := run_typeAssert_lacksB Tryz.underlying128 (by kernel_rfl) (by kernel_rfl) v _ w
theorem tf4_3 (v : Value) (w : World) : (Instr.typeAssert (.iface 103 v) 20 128 true).run Tryz.prog w = .ok (.tuple #[.nilIface, .bool false]) w := run_typeAssert_lacksB Tryz.underlying128 (by kernel_rfl) (by kernel_rfl) v _ w
theorem tf5_3 (v : Value) (w : World) : (Instr.typeAssert (.iface 104 v) 20 128 true).run Tryz.prog w = .ok (.tuple #[.nilIface, .bool false]) w := run_typeAssert_lacksB Tryz.underlying128 (by kernel_rfl) (by kernel_rfl) v _ w
theorem tf6_3 (v : Value) (w : World) : (Instr.typeAssert (.iface 105 v) 20 128 true).run Tryz.prog w = .ok (.tuple #[.nilIface, .bool false]) w := run_typeAssert_lacksB Tryz.underlying128 (by kernel_rfl) (by kernel_rfl) v _ w
theorem tf7_3 (v : Value) (w : World) : (Instr.typeAssert (.iface 107 v) 20 128 true).run Tryz.prog w = .ok (.tuple #[.nilIface, .bool false]) w := run_typeAssert_lacksB Tryz.underlying128 (by kernel_rfl) (by kernel_rfl) v _ w
theorem tf8_3 (v : Value) (w : World) : (Instr.typeAssert (.iface 109 v) 20 128 true).run Tryz.prog w = .ok (.tuple #[.nilIface, .bool false]) w := run_typeAssert_lacksB Tryz.underlying128 (by kernel_rfl) (by kernel_rfl) v _ w
theorem tf9_3 (v : Value) (w : World) : (Instr.typeAssert (.iface 111 v) 20 128 true).run Tryz.prog w = .ok (.tuple #[.nilIface, .bool false]) w := run_typeAssert_lacksB Tryz.underlying128 (by kernel_rfl) (by kernel_rfl) v _ w
theorem tf10_3 (v : Value) (w : World) : (Instr.typeAssert (.iface 113 v) 20 128 true).run Tryz.prog w = .ok (.tuple #[.nilIface, .bool false]) w := run_typeAssert_lacksB Tryz.underlying128 (by kernel_rfl) (by kernel_rfl) v _ w
theorem tf11_3 (v : Value) (w : World) : (Instr.typeAssert (.iface 79 v) 20 128 true).run Tryz.prog w = .ok (.tuple #[.iface 79 v, .bool true]) w := by kernel_rfl
theorem tf13_3 (v : Value) (w : World) : (Instr.typeAssert (.iface 117 v) 20 128 true).run Tryz.prog w = .ok (.tuple #[.nilIface, .bool false]) w := run_typeAssert_lacksB Tryz.underlying128 (by kernel_rfl) (by kernel_rfl) v _ w
theorem tf0_3 (w : World) : (Instr.typeAssert .nilIface 20 128 true).run Tryz.prog w = .ok (.tuple #[.nilIface, .bool false]) w := by kernel_rfl
theorem tf_3 (k : Nat) (hk : k ≤ 13) (v : Value) (hv : SampV k v) : ∃ x, ∀ w, (Instr.typeAssert v 20 128 true).run Tryz.prog w = .ok (.tuple #[x, .bool (hasF k 3)]) w := by
  rcases hv with ⟨rfl, rfl⟩ | ⟨h1, u, rfl⟩
  · exact ⟨_, fun w => tf0_3 w⟩
  · match k, hk, h1 with
    | 1, _, _ => exact ⟨_, fun w => tf1_3 u w⟩
    | 2, _, _ => exact ⟨_, fun w => tf2_3 u w⟩
    | 3, _, _ => exact ⟨_, fun w => tf3_3 u w⟩
    | 4, _, _ => exact ⟨_, fun w => tf4_3 u w⟩
    | 5, _, _ => exact ⟨_, fun w => tf5_3 u w⟩
    | 6, _, _ => exact ⟨_, fun w => tf6_3 u w⟩
    | 7, _, _ => exact ⟨_, fun w => tf7_3 u w⟩
    | 8, _, _ => exact ⟨_, fun w => tf8_3 u w⟩
    | 9, _, _ => exact ⟨_, fun w => tf9_3 u w⟩
    | 10, _, _ => exact ⟨_, fun w => tf10_3 u w⟩
    | 11, _, _ => exact ⟨_, fun w => tf11_3 u w⟩
    | 12, _, _ => exact ⟨_, fun w => tf11_3 u w⟩
    | 13, _, _ => exact ⟨_, fun w => tf13_3 u w⟩
    | n + 14, h, _ => omega
theorem tf1_4 (v : Value) (w : World) : (Instr.typeAssert (.iface 100 v) 20 131 true).run Tryz.prog w = .ok (.tuple #[.iface 100 v, .bool true]) w := by kernel_rfl
theorem tf2_4 (v : Value) (w : World) : (Instr.typeAssert (.iface 101 v) 20 131 true).run Tryz.prog w = .ok (.tuple #[.iface 101 v, .bool true]) w := by kernel_rfl
theorem tf3_4 (v : Value) (w : World) : (Instr.typeAssert (.iface 102 v) 20 131 true).run Tryz.prog w = .ok (.tuple #[.iface 102 v, .bool true]) w := by kernel_rfl
theorem tf4_4 (v : Value) (w : World) : (Instr.typeAssert (.iface 103 v) 20 131 true).run Tryz.prog w = .ok (.tuple #[.iface 103 v, .bool true]) w := by kernel_rfl
theorem tf5_4 (v : Value) (w : World) : (Instr.typeAssert (.iface 104 v) 20 131 true).run Tryz.prog w = .ok (.tuple #[.iface 104 v, .bool true]) w := by kernel_rfl
theorem tf6_4 (v : Value) (w : World) : (Instr.typeAssert (.iface 105 v) 20 131 true).run Tryz.prog w = .ok (.tuple #[.nilIface, .bool false]) w := run_typeAssert_lacksB Tryz.underlying131 (by kernel_rfl) (by kernel_rfl) v _ w
theorem tf7_4 (v : Value) (w : World) : (Instr.typeAssert (.iface 107 v) 20 131 true).run Tryz.prog w = .ok (.tuple #[.nilIface, .bool false]) w := run_typeAssert_lacksB Tryz.underlying131 (by kernel_rfl) (by kernel_rfl) v _ w
theorem tf8_4 (v : Value) (w : World) : (Instr.typeAssert (.iface 109 v) 20 131 true).run Tryz.prog w = .ok (.tuple #[.nilIface, .bool false]) w := run_typeAssert_lacksB Tryz.underlying131 (by kernel_rfl) (by kernel_rfl) v _ w
theorem tf9_4 (v : Value) (w : World) : (Instr.typeAssert (.iface 111 v) 20 131 true).run Tryz.prog w = .ok (.tuple #[.nilIface, .bool false]) w := run_typeAssert_lacksB Tryz.underlying131 (by kernel_rfl) (by kernel_rfl) v _ w
theorem tf10_4 (v : Value) (w : World) : (Instr.typeAssert (.iface 113 v) 20 131 true).run Tryz.prog w = .ok (.tuple #[.nilIface, .bool false]) w := run_typeAssert_lacksB Tryz.underlying131 (by kernel_rfl) (by kernel_rfl) v _ w
theorem tf11_4 (v : Value) (w : World) : (Instr.typeAssert (.iface 79 v) 20 131 true).run Tryz.prog w = .ok (.tuple #[.nilIface, .bool false]) w := run_typeAssert_lacksB Tryz.underlying131 (by kernel_rfl) (by kernel_rfl) v _ w
theorem tf13_4 (v : Value) (w : World) : (Instr.typeAssert (.iface 117 v) 20 131 true).run Tryz.prog w = .ok (.tuple #[.nilIface, .bool false]) w := run_typeAssert_lacksB Tryz.underlying131 (by kernel_rfl) (by kernel_rfl) v _ w
theorem tf0_4 (w : World) : (Instr.typeAssert .nilIface 20 131 true).run Tryz.prog w = .ok (.tuple #[.nilIface, .bool false]) w := by kernel_rfl
theorem tf_4 (k : Nat) (hk : k ≤ 13) (v : Value) (hv : SampV k v) : ∃ x, ∀ w, (Instr.typeAssert v 20 131 true).run Tryz.prog w = .ok (.tuple #[x, .bool (hasF k 4)]) w := by
  rcases hv with ⟨rfl, rfl⟩ | ⟨h1, u, rfl⟩
  · exact ⟨_, fun w => tf0_4 w⟩
  · match k, hk, h1 with
    | 1, _, _ => exact ⟨_, fun w => tf1_4 u w⟩
    | 2, _, _ => exact ⟨_, fun w => tf2_4 u w⟩
    | 3, _, _ => exact ⟨_, fun w => tf3_4 u w⟩
    | 4, _, _ => exact ⟨_, fun w => tf4_4 u w⟩
    | 5, _, _ => exact ⟨_, fun w => tf5_4 u w⟩
    | 6, _, _ => exact ⟨_, fun w => tf6_4 u w⟩
    | 7, _, _ => exact ⟨_, fun w => tf7_4 u w⟩
    | 8, _, _ => exact ⟨_, fun w => tf8_4 u w⟩
    | 9, _, _ => exact ⟨_, fun w => tf9_4 u w⟩
    | 10, _, _ => exact ⟨_, fun w => tf10_4 u w⟩
    | 11, _, _ => exact ⟨_, fun w => tf11_4 u w⟩
    | 12, _, _ => exact ⟨_, fun w => tf11_4 u w⟩
    | 13, _, _ => exact ⟨_, fun w => tf13_4 u w⟩
    | n + 14, h, _ => omega
theorem tf1_5 (v : Value) (w : World) : (Instr.typeAssert (.iface 100 v) 20 134 true).run Tryz.prog w = .ok (.tuple #[.iface 100 v, .bool true]) w := by kernel_rfl
theorem tf2_5 (v : Value) (w : World) : (Instr.typeAssert (.iface 101 v) 20 134 true).run Tryz.prog w = .ok (.tuple #[.nilIface, .bool false]) w := run_typeAssert_lacksB Tryz.underlying134 (by kernel_rfl) (by kernel_rfl) v _ w
theorem tf3_5 (v : Value) (w : World) : (Instr.typeAssert (.iface 102 v) 20 134 true).run Tryz.prog w = .ok (.tuple #[.iface 102 v, .bool true]) w := by kernel_rfl
theorem tf4_5 (v : Value) (w : World) : (Instr.typeAssert (.iface 103 v) 20 134 true).run Tryz.prog w = .ok (.tuple #[.nilIface, .bool false]) w := run_typeAssert_lacksB Tryz.underlying134 (by kernel_rfl) (by kernel_rfl) v _ w
theorem tf5_5 (v : Value) (w : World) : (Instr.typeAssert (.iface 104 v) 20 134 true).run Tryz.prog w = .ok (.tuple #[.nilIface, .bool false]) w := run_typeAssert_lacksB Tryz.underlying134 (by kernel_rfl) (by kernel_rfl) v _ w
theorem tf6_5 (v : Value) (w : World) : (Instr.typeAssert (.iface 105 v) 20 134 true).run Tryz.prog w = .ok (.tuple #[.nilIface, .bool false]) w := run_typeAssert_lacksB Tryz.underlying134 (by kernel_rfl) (by kernel_rfl) v _ w
theorem tf7_5 (v : Value) (w : World) : (Instr.typeAssert (.iface 107 v) 20 134 true).run Tryz.prog w = .ok (.tuple #[.nilIface, .bool false]) w := run_typeAssert_lacksB Tryz.underlying134 (by kernel_rfl) (by kernel_rfl) v _ w
theorem tf8_5 (v : Value) (w : World) : (Instr.typeAssert (.iface 109 v) 20 134 true).run Tryz.prog w = .ok (.tuple #[.nilIface, .bool false]) w := run_typeAssert_lacksB Tryz.underlying134 (by kernel_rfl) (by kernel_rfl) v _ w
theorem tf9_5 (v : Value) (w : World) : (Instr.typeAssert (.iface 111 v) 20 134 true).run Tryz.prog w = .ok (.tuple #[.nilIface, .bool false]) w := run_typeAssert_lacksB Tryz.underlying134 (by kernel_rfl) (by kernel_rfl) v _ w
theorem tf10_5 (v : Value) (w : World) : (Instr.typeAssert (.iface 113 v) 20 134 true).run Tryz.prog w = .ok (.tuple #[.nilIface, .bool false]) w := run_typeAssert_lacksB Tryz.underlying134 (by kernel_rfl) (by kernel_rfl) v _ w
theorem tf11_5 (v : Value) (w : World) : (Instr.typeAssert (.iface 79 v) 20 134 true).run Tryz.prog w = .ok (.tuple #[.nilIface, .bool false]) w := run_typeAssert_lacksB Tryz.underlying134 (by kernel_rfl) (by kernel_rfl) v _ w
theorem tf13_5 (v : Value) (w : World) : (Instr.typeAssert (.iface 117 v) 20 134 true).run Tryz.prog w = .ok (.tuple #[.nilIface, .bool false]) w := run_typeAssert_lacksB Tryz.underlying134 (by kernel_rfl) (by kernel_rfl) v _ w
theorem tf0_5 (w : World) : (Instr.typeAssert .nilIface 20 134 true).run Tryz.prog w = .ok (.tuple #[.nilIface, .bool false]) w := by kernel_rfl
theorem tf_5 (k : Nat) (hk : k ≤ 13) (v : Value) (hv : SampV k v) : ∃ x, ∀ w, (Instr.typeAssert v 20 134 true).run Tryz.prog w = .ok (.tuple #[x, .bool (hasF k 5)]) w := by
  rcases hv with ⟨rfl, rfl⟩ | ⟨h1, u, rfl⟩
  · exact ⟨_, fun w => tf0_5 w⟩
  · match k, hk, h1 with
    | 1, _, _ => exact ⟨_, fun w => tf1_5 u w⟩
    | 2, _, _ => exact ⟨_, fun w => tf2_5 u w⟩
    | 3, _, _ => exact ⟨_, fun w => tf3_5 u w⟩
    | 4, _, _ => exact ⟨_, fun w => tf4_5 u w⟩
    | 5, _, _ => exact ⟨_, fun w => tf5_5 u w⟩
    | 6, _, _ => exact ⟨_, fun w => tf6_5 u w⟩
    | 7, _, _ => exact ⟨_, fun w => tf7_5 u w⟩
    | 8, _, _ => exact ⟨_, fun w => tf8_5 u w⟩
    | 9, _, _ => exact ⟨_, fun w => tf9_5 u w⟩
    | 10, _, _ => exact ⟨_, fun w => tf10_5 u w⟩
    | 11, _, _ => exact ⟨_, fun w => tf11_5 u w⟩
    | 12, _, _ => exact ⟨_, fun w => tf11_5 u w⟩
    | 13, _, _ => exact ⟨_, fun w => tf13_5 u w⟩
    | n + 14, h, _ => omega
theorem tf1_6 (v : Value) (w : World) : (Instr.typeAssert (.iface 100 v) 20 137 true).run Tryz.prog w = .ok (.tuple #[.nilIface, .bool false]) w := run_typeAssert_lacksB Tryz.underlying137 (by kernel_rfl) (by kernel_rfl) v _ w
theorem tf2_6 (v : Value) (w : World) : (Instr.typeAssert (.iface 101 v) 20 137 true).run Tryz.prog w = .ok (.tuple #[.nilIface, .bool false]) w := run_typeAssert_lacksB Tryz.underlying137 (by kernel_rfl) (by kernel_rfl) v _ w
theorem tf3_6 (v : Value) (w : World) : (Instr.typeAssert (.iface 102 v) 20 137 true).run Tryz.prog w = .ok (.tuple #[.nilIface, .bool false]) w := run_typeAssert_lacksB Tryz.underlying137 (by kernel_rfl) (by kernel_rfl) v _ w
theorem tf4_6 (v : Value) (w : World) : (Instr.typeAssert (.iface 103 v) 20 137 true).run Tryz.prog w = .ok (.tuple #[.nilIface, .bool false]) w := run_typeAssert_lacksB Tryz.underlying137 (by kernel_rfl) (by kernel_rfl) v _ w
theorem tf5_6 (v : Value) (w : World) : (Instr.typeAssert (.iface 104 v) 20 137 true).run Tryz.prog w = .ok (.tuple #[.iface 104 v, .bool true]) w := by kernel_rfl
theorem tf6_6 (v : Value) (w : World) : (Instr.typeAssert (.iface 105 v) 20 137 true).run Tryz.prog w = .ok (.tuple #[.nilIface, .bool false]) w := run_typeAssert_lacksB Tryz.underlying137 (by kernel_rfl) (by kernel_rfl) v _ w
theorem tf7_6 (v : Value) (w : World) : (Instr.typeAssert (.iface 107 v) 20 137 true).run Tryz.prog w = .ok (.tuple #[.nilIface, .bool false]) w := run_typeAssert_lacksB Tryz.underlying137 (by kernel_rfl) (by kernel_rfl) v _ w
theorem tf8_6 (v : Value) (w : World) : (Instr.typeAssert (.iface 109 v) 20 137 true).run Tryz.prog w = .ok (.tuple #[.nilIface, .bool false]) w := run_typeAssert_lacksB Tryz.underlying137 (by kernel_rfl) (by kernel_rfl) v _ w
theorem tf9_6 (v : Value) (w : World) : (Instr.typeAssert (.iface 111 v) 20 137 true).run Tryz.prog w = .ok (.tuple #[.nilIface, .bool false]) w := run_typeAssert_lacksB Tryz.underlying137 (by kernel_rfl) (by kernel_rfl) v _ w
theorem tf10_6 (v : Value) (w : World) : (Instr.typeAssert (.iface 113 v) 20 137 true).run Tryz.prog w = .ok (.tuple #[.nilIface, .bool false]) w := run_typeAssert_lacksB Tryz.underlying137 (by kernel_rfl) (by kernel_rfl) v _ w
theorem tf11_6 (v : Value) (w : World) : (Instr.typeAssert (.iface 79 v) 20 137 true).run Tryz.prog w = .ok (.tuple #[.nilIface, .bool false]) w := run_typeAssert_lacksB Tryz.underlying137 (by kernel_rfl) (by kernel_rfl) v _ w
theorem tf13_6 (v : Value) (w : World) : (Instr.typeAssert (.iface 117 v) 20 137 true).run Tryz.prog w = .ok (.tuple #[.nilIface, .bool false]) w := run_typeAssert_lacksB Tryz.underlying137 (by kernel_rfl) (by kernel_rfl) v _ w
theorem tf0_6 (w : World) : (Instr.typeAssert .nilIface 20 137 true).run Tryz.prog w = .ok (.tuple #[.nilIface, .bool false]) w := by kernel_rfl
theorem tf_6 (k : Nat) (hk : k ≤ 13) (v : Value) (hv : SampV k v) : ∃ x, ∀ w, (Instr.typeAssert v 20 137 true).run Tryz.prog w = .ok (.tuple #[x, .bool (hasF k 6)]) w := by
  rcases hv with ⟨rfl, rfl⟩ | ⟨h1, u, rfl⟩
  · exact ⟨_, fun w => tf0_6 w⟩
  · match k, hk, h1 with
    | 1, _, _ => exact ⟨_, fun w => tf1_6 u w⟩
    | 2, _, _ => exact ⟨_, fun w => tf2_6 u w⟩
    | 3, _, _ => exact ⟨_, fun w => tf3_6 u w⟩
    | 4, _, _ => exact ⟨_, fun w => tf4_6 u w⟩
    | 5, _, _ => exact ⟨_, fun w => tf5_6 u w⟩
    | 6, _, _ => exact ⟨_, fun w => tf6_6 u w⟩
    | 7, _, _ => exact ⟨_, fun w => tf7_6 u w⟩
    | 8, _, _ => exact ⟨_, fun w => tf8_6 u w⟩
    | 9, _, _ => exact ⟨_, fun w => tf9_6 u w⟩
    | 10, _, _ => exact ⟨_, fun w => tf10_6 u w⟩
    | 11, _, _ => exact ⟨_, fun w => tf11_6 u w⟩
    | 12, _, _ => exact ⟨_, fun w => tf11_6 u w⟩
    | 13, _, _ => exact ⟨_, fun w => tf13_6 u w⟩
    | n + 14, h, _ => omega
theorem tf1_7 (v : Value) (w : World) : (Instr.typeAssert (.iface 100 v) 20 140 true).run Tryz.prog w = .ok (.tuple #[.nilIface, .bool false]) w := run_typeAssert_lacksB Tryz.underlying140 (by kernel_rfl) (by kernel_rfl) v _ w
theorem tf2_7 (v : Value) (w : World) : (Instr.typeAssert (.iface 101 v) 20 140 true).run Tryz.prog w = .ok (.tuple #[.nilIface, .bool false]) w := run_typeAssert_lacksB Tryz.underlying140 (by kernel_rfl) (by kernel_rfl) v _ w
theorem tf3_7 (v : Value) (w : World) : (Instr.typeAssert (.iface 102 v) 20 140 true).run Tryz.prog w = .ok (.tuple #[.nilIface, .bool false]) w := run_typeAssert_lacksB Tryz.underlying140 (by kernel_rfl) (by kernel_rfl) v _ w
theorem tf4_7 (v : Value) (w : World) : (Instr.typeAssert (.iface 103 v) 20 140 true).run Tryz.prog w = .ok (.tuple #[.iface 103 v, .bool true]) w := by kernel_rfl
theorem tf5_7 (v : Value) (w : World) : (Instr.typeAssert (.iface 104 v) 20 140 true).run Tryz.prog w = .ok (.tuple #[.iface 104 v, .bool true]) w := by kernel_rfl
theorem tf6_7 (v : Value) (w : World) : (Instr.typeAssert (.iface 105 v) 20 140 true).run Tryz.prog w = .ok (.tuple #[.nilIface, .bool false]) w := run_typeAssert_lacksB Tryz.underlying140 (by kernel_rfl) (by kernel_rfl) v _ w
theorem tf7_7 (v : Value) (w : World) : (Instr.typeAssert (.iface 107 v) 20 140 true).run Tryz.prog w = .ok (.tuple #[.nilIface, .bool false]) w := run_typeAssert_lacksB Tryz.underlying140 (by kernel_rfl) (by kernel_rfl) v _ w
theorem tf8_7 (v : Value) (w : World) : (Instr.typeAssert (.iface 109 v) 20 140 true).run Tryz.prog w = .ok (.tuple #[.nilIface, .bool false]) w := run_typeAssert_lacksB Tryz.underlying140 (by kernel_rfl) (by kernel_rfl) v _ w
theorem tf9_7 (v : Value) (w : World) : (Instr.typeAssert (.iface 111 v) 20 140 true).run Tryz.prog w = .ok (.tuple #[.nilIface, .bool false]) w := run_typeAssert_lacksB Tryz.underlying140 (by kernel_rfl) (by kernel_rfl) v _ w
theorem tf10_7 (v : Value) (w : World) : (Instr.typeAssert (.iface 113 v) 20 140 true).run Tryz.prog w = .ok (.tuple #[.nilIface, .bool false]) w := run_typeAssert_lacksB Tryz.underlying140 (by kernel_rfl) (by kernel_rfl) v _ w
theorem tf11_7 (v : Value) (w : World) : (Instr.typeAssert (.iface 79 v) 20 140 true).run Tryz.prog w = .ok (.tuple #[.nilIface, .bool false]) w := run_typeAssert_lacksB Tryz.underlying140 (by kernel_rfl) (by kernel_rfl) v _ w
theorem tf13_7 (v : Value) (w : World) : (Instr.typeAssert (.iface 117 v) 20 140 true).run Tryz.prog w = .ok (.tuple #[.nilIface, .bool false]) w := run_typeAssert_lacksB Tryz.underlying140 (by kernel_rfl) (by kernel_rfl) v _ w
theorem tf0_7 (w : World) : (Instr.typeAssert .nilIface 20 140 true).run Tryz.prog w = .ok (.tuple #[.nilIface, .bool false]) w := by kernel_rfl
theorem tf_7 (k : Nat) (hk : k ≤ 13) (v : Value) (hv : SampV k v) : ∃ x, ∀ w, (Instr.typeAssert v 20 140 true).run Tryz.prog w = .ok (.tuple #[x, .bool (hasF k 7)]) w := by
  rcases hv with ⟨rfl, rfl⟩ | ⟨h1, u, rfl⟩
  · exact ⟨_, fun w => tf0_7 w⟩
  · match k, hk, h1 with
    | 1, _, _ => exact ⟨_, fun w => tf1_7 u w⟩
    | 2, _, _ => exact ⟨_, fun w => tf2_7 u w⟩
    | 3, _, _ => exact ⟨_, fun w => tf3_7 u w⟩
    | 4, _, _ => exact ⟨_, fun w => tf4_7 u w⟩
    | 5, _, _ => exact ⟨_, fun w => tf5_7 u w⟩
    | 6, _, _ => exact ⟨_, fun w => tf6_7 u w⟩
    | 7, _, _ => exact ⟨_, fun w => tf7_7 u w⟩
    | 8, _, _ => exact ⟨_, fun w => tf8_7 u w⟩
    | 9, _, _ => exact ⟨_, fun w => tf9_7 u w⟩
    | 10, _, _ => exact ⟨_, fun w => tf10_7 u w⟩
    | 11, _, _ => exact ⟨_, fun w => tf11_7 u w⟩
    | 12, _, _ => exact ⟨_, fun w => tf11_7 u w⟩
    | 13, _, _ => exact ⟨_, fun w => tf13_7 u w⟩
    | n + 14, h, _ => omega
theorem tf1_8 (v : Value) (w : World) : (Instr.typeAssert (.iface 100 v) 20 143 true).run Tryz.prog w = .ok (.tuple #[.iface 100 v, .bool true]) w := by kernel_rfl
theorem tf2_8 (v : Value) (w : World) : (Instr.typeAssert (.iface 101 v) 20 143 true).run Tryz.prog w = .ok (.tuple #[.nilIface, .bool false]) w := run_typeAssert_lacksB Tryz.underlying143 (by kernel_rfl) (by kernel_rfl) v _ w
theorem tf3_8 (v : Value) (w : World) : (Instr.typeAssert (.iface 102 v) 20 143 true).run Tryz.prog w = .ok (.tuple #[.iface 102 v, .bool true]) w := by kernel_rfl
theorem tf4_8 (v : Value) (w : World) : (Instr.typeAssert (.iface 103 v) 20 143 true).run Tryz.prog w = .ok (.tuple #[.nilIface, .bool false]) w := run_typeAssert_lacksB Tryz.underlying143 (by kernel_rfl) (by kernel_rfl) v _ w
theorem tf5_8 (v : Value) (w : World) : (Instr.typeAssert (.iface 104 v) 20 143 true).run Tryz.prog w = .ok (.tuple #[.nilIface, .bool false]) w := run_typeAssert_lacksB Tryz.underlying143 (by kernel_rfl) (by kernel_rfl) v _ w
theorem tf6_8 (v : Value) (w : World) : (Instr.typeAssert (.iface 105 v) 20 143 true).run Tryz.prog w = .ok (.tuple #[.nilIface, .bool false]) w := run_typeAssert_lacksB Tryz.underlying143 (by kernel_rfl) (by kernel_rfl) v _ w
theorem tf7_8 (v : Value) (w : World) : (Instr.typeAssert (.iface 107 v) 20 143 true).run Tryz.prog w = .ok (.tuple #[.nilIface, .bool false]) w := run_typeAssert_lacksB Tryz.underlying143 (by kernel_rfl) (by kernel_rfl) v _ w
theorem tf8_8 (v : Value) (w : World) : (Instr.typeAssert (.iface 109 v) 20 143 true).run Tryz.prog w = .ok (.tuple #[.nilIface, .bool false]) w := run_typeAssert_lacksB Tryz.underlying143 (by kernel_rfl) (by kernel_rfl) v _ w
theorem tf9_8 (v : Value) (w : World) : (Instr.typeAssert (.iface 111 v) 20 143 true).run Tryz.prog w = .ok (.tuple #[.nilIface, .bool false]) w := run_typeAssert_lacksB Tryz.underlying143 (by kernel_rfl) (by kernel_rfl) v _ w
theorem tf10_8 (v : Value) (w : World) : (Instr.typeAssert (.iface 113 v) 20 143 true).run Tryz.prog w = .ok (.tuple #[.nilIface, .bool false]) w := run_typeAssert_lacksB Tryz.underlying143 (by kernel_rfl) (by kernel_rfl) v _ w
theorem tf11_8 (v : Value) (w : World) : (Instr.typeAssert (.iface 79 v) 20 143 true).run Tryz.prog w = .ok (.tuple #[.nilIface, .bool false]) w := run_typeAssert_lacksB Tryz.underlying143 (by kernel_rfl) (by kernel_rfl) v _ w
theorem tf13_8 (v : Value) (w : World) : (Instr.typeAssert (.iface 117 v) 20 143 true).run Tryz.prog w = .ok (.tuple #[.nilIface, .bool false]) w := run_typeAssert_lacksB Tryz.underlying143 (by kernel_rfl) (by kernel_rfl) v _ w
theorem tf0_8 (w : World) : (Instr.typeAssert .nilIface 20 143 true).run Tryz.prog w = .ok (.tuple #[.nilIface, .bool false]) w := by kernel_rfl
theorem tf_8 (k : Nat) (hk : k ≤ 13) (v : Value) (hv : SampV k v) : ∃ x, ∀ w, (Instr.typeAssert v 20 143 true).run Tryz.prog w = .ok (.tuple #[x, .bool (hasF k 8)]) w := by
  rcases hv with ⟨rfl, rfl⟩ | ⟨h1, u, rfl⟩
  · exact ⟨_, fun w => tf0_8 w⟩
  · match k, hk, h1 with
    | 1, _, _ => exact ⟨_, fun w => tf1_8 u w⟩
    | 2, _, _ => exact ⟨_, fun w => tf2_8 u w⟩
    | 3, _, _ => exact ⟨_, fun w => tf3_8 u w⟩
    | 4, _, _ => exact ⟨_, fun w => tf4_8 u w⟩
    | 5, _, _ => exact ⟨_, fun w => tf5_8 u w⟩
    | 6, _, _ => exact ⟨_, fun w => tf6_8 u w⟩
    | 7, _, _ => exact ⟨_, fun w => tf7_8 u w⟩
    | 8, _, _ => exact ⟨_, fun w => tf8_8 u w⟩
    | 9, _, _ => exact ⟨_, fun w => tf9_8 u w⟩
    | 10, _, _ => exact ⟨_, fun w => tf10_8 u w⟩
    | 11, _, _ => exact ⟨_, fun w => tf11_8 u w⟩
    | 12, _, _ => exact ⟨_, fun w => tf11_8 u w⟩
    | 13, _, _ => exact ⟨_, fun w => tf13_8 u w⟩
    | n + 14, h, _ => omega
theorem tf1_9 (v : Value) (w : World) : (Instr.typeAssert (.iface 100 v) 20 146 true).run Tryz.prog w = .ok (.tuple #[.nilIface, .bool false]) w := run_typeAssert_lacksB Tryz.underlying146 (by kernel_rfl) (by kernel_rfl) v _ w
theorem tf2_9 (v : Value) (w : World) : (Instr.typeAssert (.iface 101 v) 20 146 true).run Tryz.prog w = .ok (.tuple #[.nilIface, .bool false]) w := run_typeAssert_lacksB Tryz.underlying146 (by kernel_rfl) (by kernel_rfl) v _ w
theorem tf3_9 (v : Value) (w : World) : (Instr.typeAssert (.iface 102 v) 20 146 true).run Tryz.prog w = .ok (.tuple #[.nilIface, .bool false]) w := run_typeAssert_lacksB Tryz.underlying146 (by kernel_rfl) (by kernel_rfl) v _ w
theorem tf4_9 (v : Value) (w : World) : (Instr.typeAssert (.iface 103 v) 20 146 true).run Tryz.prog w = .ok (.tuple #[.nilIface, .bool false]) w := run_typeAssert_lacksB Tryz.underlying146 (by kernel_rfl) (by kernel_rfl) v _ w
theorem tf5_9 (v : Value) (w : World) : (Instr.typeAssert (.iface 104 v) 20 146 true).run Tryz.prog w = .ok (.tuple #[.iface 104 v, .bool true]) w := by kernel_rfl
theorem tf6_9 (v : Value) (w : World) : (Instr.typeAssert (.iface 105 v) 20 146 true).run Tryz.prog w = .ok (.tuple #[.nilIface, .bool false]) w := run_typeAssert_lacksB Tryz.underlying146 (by kernel_rfl) (by kernel_rfl) v _ w
theorem tf7_9 (v : Value) (w : World) : (Instr.typeAssert (.iface 107 v) 20 146 true).run Tryz.prog w = .ok (.tuple #[.nilIface, .bool false]) w := run_typeAssert_lacksB Tryz.underlying146 (by kernel_rfl) (by kernel_rfl) v _ w
theorem tf8_9 (v : Value) (w : World) : (Instr.typeAssert (.iface 109 v) 20 146 true).run Tryz.prog w = .ok (.tuple #[.nilIface, .bool false]) w := run_typeAssert_lacksB Tryz.underlying146 (by kernel_rfl) (by kernel_rfl) v _ w
theorem tf9_9 (v : Value) (w : World) : (Instr.typeAssert (.iface 111 v) 20 146 true).run Tryz.prog w = .ok (.tuple #[.nilIface, .bool false]) w := run_typeAssert_lacksB Tryz.underlying146 (by kernel_rfl) (by kernel_rfl) v _ w
theorem tf10_9 (v : Value) (w : World) : (Instr.typeAssert (.iface 113 v) 20 146 true).run Tryz.prog w = .ok (.tuple #[.nilIface, .bool false]) w := run_typeAssert_lacksB Tryz.underlying146 (by kernel_rfl) (by kernel_rfl) v _ w
theorem tf11_9 (v : Value) (w : World) : (Instr.typeAssert (.iface 79 v) 20 146 true).run Tryz.prog w = .ok (.tuple #[.nilIface, .bool false]) w := run_typeAssert_lacksB Tryz.underlying146 (by kernel_rfl) (by kernel_rfl) v _ w
theorem tf13_9 (v : Value) (w : World) : (Instr.typeAssert (.iface 117 v) 20 146 true).run Tryz.prog w = .ok (.tuple #[.nilIface, .bool false]) w := run_typeAssert_lacksB Tryz.underlying146 (by kernel_rfl) (by kernel_rfl) v _ w
theorem tf0_9 (w : World) : (Instr.typeAssert .nilIface 20 146 true).run Tryz.prog w = .ok (.tuple #[.nilIface, .bool false]) w := by kernel_rfl
theorem tf_9 (k : Nat) (hk : k ≤ 13) (v : Value) (hv : SampV k v) : ∃ x, ∀ w, (Instr.typeAssert v 20 146 true).run Tryz.prog w = .ok (.tuple #[x, .bool (hasF k 9)]) w := by
  rcases hv with ⟨rfl, rfl⟩ | ⟨h1, u, rfl⟩
  · exact ⟨_, fun w => tf0_9 w⟩
  · match k, hk, h1 with
    | 1, _, _ => exact ⟨_, fun w => tf1_9 u w⟩
    | 2, _, _ => exact ⟨_, fun w => tf2_9 u w⟩
    | 3, _, _ => exact ⟨_, fun w => tf3_9 u w⟩
    | 4, _, _ => exact ⟨_, fun w => tf4_9 u w⟩
    | 5, _, _ => exact ⟨_, fun w => tf5_9 u w⟩
    | 6, _, _ => exact ⟨_, fun w => tf6_9 u w⟩
    | 7, _, _ => exact ⟨_, fun w => tf7_9 u w⟩
    | 8, _, _ => exact ⟨_, fun w => tf8_9 u w⟩
    | 9, _, _ => exact ⟨_, fun w => tf9_9 u w⟩
    | 10, _, _ => exact ⟨_, fun w => tf10_9 u w⟩
    | 11, _, _ => exact ⟨_, fun w => tf11_9 u w⟩
    | 12, _, _ => exact ⟨_, fun w => tf11_9 u w⟩
    | 13, _, _ => exact ⟨_, fun w => tf13_9 u w⟩
    | n + 14, h, _ => omega
set_option maxRecDepth 100000 in
theorem face_0 (v x : Value) (b : Bool) (h : ∀ w, (Instr.typeAssert v 20 119 true).run Tryz.prog w = .ok (.tuple #[x, .bool b]) w) (w : World) : Calls Tryz.prog 57 #[v, .int .i64 0] w fun x w' => x = .returned (.bool b) ∧ w = w' := by
  go_enter Tryz.func57, Tryz.ntmps57
  go_wp2_with fail
  go_ret
  exact ⟨rfl, rfl⟩
set_option maxRecDepth 100000 in
theorem face_1 (v x : Value) (b : Bool) (h : ∀ w, (Instr.typeAssert v 20 122 true).run Tryz.prog w = .ok (.tuple #[x, .bool b]) w) (w : World) : Calls Tryz.prog 57 #[v, .int .i64 1] w fun x w' => x = .returned (.bool b) ∧ w = w' := by
  go_enter Tryz.func57, Tryz.ntmps57
  go_wp2_with fail
  go_ret
  exact ⟨rfl, rfl⟩
set_option maxRecDepth 100000 in
theorem face_2 (v x : Value) (b : Bool) (h : ∀ w, (Instr.typeAssert v 20 125 true).run Tryz.prog w = .ok (.tuple #[x, .bool b]) w) (w : World) : Calls Tryz.prog 57 #[v, .int .i64 2] w fun x w' => x = .returned (.bool b) ∧ w = w' := by
  go_enter Tryz.func57, Tryz.ntmps57
  go_wp2_with fail
  go_ret
  exact ⟨rfl, rfl⟩
set_option maxRecDepth 100000 in
theorem face_3 (v x : Value) (b : Bool) (h : ∀ w, (Instr.typeAssert v 20 128 true).run Tryz.prog w = .ok (.tuple #[x, .bool b]) w) (w : World) : Calls Tryz.prog 57 #[v, .int .i64 3] w fun x w' => x = .returned (.bool b) ∧ w = w' := by
  go_enter Tryz.func57, Tryz.ntmps57
  go_wp2_with fail
  go_ret
  exact ⟨rfl, rfl⟩
set_option maxRecDepth 100000 in
theorem face_4 (v x : Value) (b : Bool) (h : ∀ w, (Instr.typeAssert v 20 131 true).run Tryz.prog w = .ok (.tuple #[x, .bool b]) w) (w : World) : Calls Tryz.prog 57 #[v, .int .i64 4] w fun x w' => x = .returned (.bool b) ∧ w = w' := by
  go_enter Tryz.func57, Tryz.ntmps57
  go_wp2_with fail
  go_ret
  exact ⟨rfl, rfl⟩
set_option maxRecDepth 100000 in
theorem face_5 (v x : Value) (b : Bool) (h : ∀ w, (Instr.typeAssert v 20 134 true).run Tryz.prog w = .ok (.tuple #[x, .bool b]) w) (w : World) : Calls Tryz.prog 57 #[v, .int .i64 5] w fun x w' => x = .returned (.bool b) ∧ w = w' := by
  go_enter Tryz.func57, Tryz.ntmps57
  go_wp2_with fail
  go_ret
  exact ⟨rfl, rfl⟩
set_option maxRecDepth 100000 in
theorem face_6 (v x : Value) (b : Bool) (h : ∀ w, (Instr.typeAssert v 20 137 true).run Tryz.prog w = .ok (.tuple #[x, .bool b]) w) (w : World) : Calls Tryz.prog 57 #[v, .int .i64 6] w fun x w' => x = .returned (.bool b) ∧ w = w' := by
  go_enter Tryz.func57, Tryz.ntmps57
  go_wp2_with fail
  go_ret
  exact ⟨rfl, rfl⟩
set_option maxRecDepth 100000 in
theorem face_7 (v x : Value) (b : Bool) (h : ∀ w, (Instr.typeAssert v 20 140 true).run Tryz.prog w = .ok (.tuple #[x, .bool b]) w) (w : World) : Calls Tryz.prog 57 #[v, .int .i64 7] w fun x w' => x = .returned (.bool b) ∧ w = w' := by
  go_enter Tryz.func57, Tryz.ntmps57
  go_wp2_with fail
  go_ret
  exact ⟨rfl, rfl⟩
set_option maxRecDepth 100000 in
theorem face_8 (v x : Value) (b : Bool) (h : ∀ w, (Instr.typeAssert v 20 143 true).run Tryz.prog w = .ok (.tuple #[x, .bool b]) w) (w : World) : Calls Tryz.prog 57 #[v, .int .i64 8] w fun x w' => x = .returned (.bool b) ∧ w = w' := by
  go_enter Tryz.func57, Tryz.ntmps57
  go_wp2_with fail
  go_ret
  exact ⟨rfl, rfl⟩
set_option maxRecDepth 100000 in
theorem face_9 (v x : Value) (b : Bool) (h : ∀ w, (Instr.typeAssert v 20 146 true).run Tryz.prog w = .ok (.tuple #[x, .bool b]) w) (w : World) : Calls Tryz.prog 57 #[v, .int .i64 9] w fun x w' => x = .returned (.bool b) ∧ w = w' := by
  go_enter Tryz.func57, Tryz.ntmps57
  go_wp2_with fail
  go_ret
  exact ⟨rfl, rfl⟩
set_option maxRecDepth 100000 in
theorem face_no (v : Value) (f : Int) (h : ¬ (0 ≤ f ∧ f < 10)) (w : World) : Calls Tryz.prog 57 #[v, .int .i64 f] w fun x w' => x = .returned (.bool false) ∧ w = w' := by
  have h0 : (f == 0) = false := by simp; omega
  have h1 : (f == 1) = false := by simp; omega
  have h2 : (f == 2) = false := by simp; omega
  have h3 : (f == 3) = false := by simp; omega
  have h4 : (f == 4) = false := by simp; omega
  have h5 : (f == 5) = false := by simp; omega
  have h6 : (f == 6) = false := by simp; omega
  have h7 : (f == 7) = false := by simp; omega
  have h8 : (f == 8) = false := by simp; omega
  have h9 : (f == 9) = false := by simp; omega
  clear h
  go_enter Tryz.func57, Tryz.ntmps57
  go_wp2_with fail
  go_ret
  exact ⟨rfl, rfl⟩
theorem face_any (k : Nat) (hk : k ≤ 13) (v : Value) (hv : SampV k v) (f : Int) (w : World) : Calls Tryz.prog 57 #[v, .int .i64 f] w fun x w' => x = .returned (.bool (hasFi k f)) ∧ w = w' := by
  by_cases h : 0 ≤ f ∧ f < 10
  · have e : hasFi k f = hasF k f.toNat := by simp [hasFi, h]
    rw [e]
    obtain ⟨n, rfl⟩ : ∃ n : Nat, f = n := ⟨f.toNat, by omega⟩
    have hn : n < 10 := by omega
    rw [Int.toNat_natCast]
    clear h e
    match n, hn with
    | 0, _ => obtain ⟨x, hx⟩ := tf_0 k hk v hv; exact face_0 v x _ hx w
    | 1, _ => obtain ⟨x, hx⟩ := tf_1 k hk v hv; exact face_1 v x _ hx w
    | 2, _ => obtain ⟨x, hx⟩ := tf_2 k hk v hv; exact face_2 v x _ hx w
    | 3, _ => obtain ⟨x, hx⟩ := tf_3 k hk v hv; exact face_3 v x _ hx w
    | 4, _ => obtain ⟨x, hx⟩ := tf_4 k hk v hv; exact face_4 v x _ hx w
    | 5, _ => obtain ⟨x, hx⟩ := tf_5 k hk v hv; exact face_5 v x _ hx w
    | 6, _ => obtain ⟨x, hx⟩ := tf_6 k hk v hv; exact face_6 v x _ hx w
    | 7, _ => obtain ⟨x, hx⟩ := tf_7 k hk v hv; exact face_7 v x _ hx w
    | 8, _ => obtain ⟨x, hx⟩ := tf_8 k hk v hv; exact face_8 v x _ hx w
    | 9, _ => obtain ⟨x, hx⟩ := tf_9 k hk v hv; exact face_9 v x _ hx w
    | n + 10, h => omega
  · have e : hasFi k f = false := by
      unfold hasFi
      rw [decide_eq_false h]
      rfl
    rw [e]
    exact face_no v f h w
theorem method_0 (k : Nat) (hk : k ≤ 13) (v : Value) (hv : SampV k v) (w : World) : Calls Tryz.prog 92 #[v, .int .i64 0] w fun x w' => x = .returned (.bool (hasFi k 0)) ∧ Below w.heap.size w w' := by
  have HF := Lib.hid (fun w => face_any k hk v hv 0 w)
  clear hv
  go_enter Tryz.func92, Tryz.ntmps92
  go_wp2_with (go_at_call 57; refine (HF.out _).mono ?_; rintro e w' ⟨rfl, rfl⟩)
  go_ret
  exact ⟨rfl, by go_grown⟩
theorem method_1 (k : Nat) (hk : k ≤ 13) (v : Value) (hv : SampV k v) (w : World) : Calls Tryz.prog 92 #[v, .int .i64 1] w fun x w' => x = .returned (.bool (hasFi k 1)) ∧ Below w.heap.size w w' := by
  have HF := Lib.hid (fun w => face_any k hk v hv 1 w)
  clear hv
  go_enter Tryz.func92, Tryz.ntmps92
  go_wp2_with (go_at_call 57; refine (HF.out _).mono ?_; rintro e w' ⟨rfl, rfl⟩)
  go_ret
  exact ⟨rfl, by go_grown⟩
theorem method_2 (k : Nat) (hk : k ≤ 13) (v : Value) (hv : SampV k v) (w : World) : Calls Tryz.prog 92 #[v, .int .i64 2] w fun x w' => x = .returned (.bool (hasFi k 2)) ∧ Below w.heap.size w w' := by
  have HF := Lib.hid (fun w => face_any k hk v hv 2 w)
  clear hv
  go_enter Tryz.func92, Tryz.ntmps92
  go_wp2_with (go_at_call 57; refine (HF.out _).mono ?_; rintro e w' ⟨rfl, rfl⟩)
  go_ret
  exact ⟨rfl, by go_grown⟩
theorem method_3 (k : Nat) (hk : k ≤ 13) (v : Value) (hv : SampV k v) (w : World) : Calls Tryz.prog 92 #[v, .int .i64 3] w fun x w' => x = .returned (.bool (hasFi k 3)) ∧ Below w.heap.size w w' := by
  have HF := Lib.hid (fun w => face_any k hk v hv 3 w)
  clear hv
  go_enter Tryz.func92, Tryz.ntmps92
  go_wp2_with (go_at_call 57; refine (HF.out _).mono ?_; rintro e w' ⟨rfl, rfl⟩)
  go_ret
  exact ⟨rfl, by go_grown⟩
theorem method_4 (k : Nat) (hk : k ≤ 13) (v : Value) (hv : SampV k v) (w : World) : Calls Tryz.prog 92 #[v, .int .i64 4] w fun x w' => x = .returned (.bool (hasFi k 4)) ∧ Below w.heap.size w w' := by
  have HF := Lib.hid (fun w => face_any k hk v hv 4 w)
  clear hv
  go_enter Tryz.func92, Tryz.ntmps92
  go_wp2_with (go_at_call 57; refine (HF.out _).mono ?_; rintro e w' ⟨rfl, rfl⟩)
  go_ret
  exact ⟨rfl, by go_grown⟩
theorem method_5 (k : Nat) (hk : k ≤ 13) (v : Value) (hv : SampV k v) (w : World) : Calls Tryz.prog 92 #[v, .int .i64 5] w fun x w' => x = .returned (.bool (hasFi k 5)) ∧ Below w.heap.size w w' := by
  have HF := Lib.hid (fun w => face_any k hk v hv 5 w)
  clear hv
  go_enter Tryz.func92, Tryz.ntmps92
  go_wp2_with (go_at_call 57; refine (HF.out _).mono ?_; rintro e w' ⟨rfl, rfl⟩)
  go_ret
  exact ⟨rfl, by go_grown⟩
theorem method_any (k : Nat) (hk : k ≤ 13) (v : Value) (hv : SampV k v) (m : Nat) (hm : m < 6) (w : World) : Calls Tryz.prog 92 #[v, .int .i64 m] w fun x w' => x = .returned (.bool (hasM k m)) ∧ Below w.heap.size w w' := by
  match m, hm with
  | 0, _ =>
    have e : hasM k 0 = hasFi k 0 := by simp [hasFi, hasF, meths]
    rw [e]
    exact method_0 k hk v hv w
  | 1, _ =>
    have e : hasM k 1 = hasFi k 1 := by simp [hasFi, hasF, meths]
    rw [e]
    exact method_1 k hk v hv w
  | 2, _ =>
    have e : hasM k 2 = hasFi k 2 := by simp [hasFi, hasF, meths]
    rw [e]
    exact method_2 k hk v hv w
  | 3, _ =>
    have e : hasM k 3 = hasFi k 3 := by simp [hasFi, hasF, meths]
    rw [e]
    exact method_3 k hk v hv w
  | 4, _ =>
    have e : hasM k 4 = hasFi k 4 := by simp [hasFi, hasF, meths]
    rw [e]
    exact method_4 k hk v hv w
  | 5, _ =>
    have e : hasM k 5 = hasFi k 5 := by simp [hasFi, hasF, meths]
    rw [e]
    exact method_5 k hk v hv w
  | n + 6, h => omega
end Go.Proofs.YtecdniimikfbhaaGreat

/- Contract of the reference's Has. -/
namespace Go.Proofs.YtecdniimikfbhaaGreat
open Go Go.RowKit Go.ChangeShapes Go.WideShapes

set_option maxRecDepth 100000 in
theorem has_0 (k : Nat) (hk : k ≤ 13) (w : World) : Calls Tryz.prog 24 #[.int .i64 k, .int .i64 0] w fun x w' => x = .returned (.bool (hasM k 0)) ∧ w = w' := by
  match k, hk with
  | 0, _ =>
    go_enter Tryz.func24, Tryz.ntmps24
    go_wp2_with fail
    go_ret
    exact ⟨rfl, rfl⟩
  | 1, _ =>
    go_enter Tryz.func24, Tryz.ntmps24
    go_wp2_with fail
    go_ret
    exact ⟨rfl, rfl⟩
  | 2, _ =>
    go_enter Tryz.func24, Tryz.ntmps24
    go_wp2_with fail
    go_ret
    exact ⟨rfl, rfl⟩
  | 3, _ =>
    go_enter Tryz.func24, Tryz.ntmps24
    go_wp2_with fail
    go_ret
    exact ⟨rfl, rfl⟩
  | 4, _ =>
    go_enter Tryz.func24, Tryz.ntmps24
    go_wp2_with fail
    go_ret
    exact ⟨rfl, rfl⟩
  | 5, _ =>
    go_enter Tryz.func24, Tryz.ntmps24
    go_wp2_with fail
    go_ret
    exact ⟨rfl, rfl⟩
  | 6, _ =>
    go_enter Tryz.func24, Tryz.ntmps24
    go_wp2_with fail
    go_ret
    exact ⟨rfl, rfl⟩
  | 7, _ =>
    go_enter Tryz.func24, Tryz.ntmps24
    go_wp2_with fail
    go_ret
    exact ⟨rfl, rfl⟩
  | 8, _ =>
    go_enter Tryz.func24, Tryz.ntmps24
    go_wp2_with fail
    go_ret
    exact ⟨rfl, rfl⟩
  | 9, _ =>
    go_enter Tryz.func24, Tryz.ntmps24
    go_wp2_with fail
    go_ret
    exact ⟨rfl, rfl⟩
  | 10, _ =>
    go_enter Tryz.func24, Tryz.ntmps24
    go_wp2_with fail
    go_ret
    exact ⟨rfl, rfl⟩
  | 11, _ =>
    go_enter Tryz.func24, Tryz.ntmps24
    go_wp2_with fail
    go_ret
    exact ⟨rfl, rfl⟩
  | 12, _ =>
    go_enter Tryz.func24, Tryz.ntmps24
    go_wp2_with fail
    go_ret
    exact ⟨rfl, rfl⟩
  | 13, _ =>
    go_enter Tryz.func24, Tryz.ntmps24
    go_wp2_with fail
    go_ret
    exact ⟨rfl, rfl⟩
  | n + 14, h => omega
set_option maxRecDepth 100000 in
theorem has_1 (k : Nat) (hk : k ≤ 13) (w : World) : Calls Tryz.prog 24 #[.int .i64 k, .int .i64 1] w fun x w' => x = .returned (.bool (hasM k 1)) ∧ w = w' := by
  match k, hk with
  | 0, _ =>
    go_enter Tryz.func24, Tryz.ntmps24
    go_wp2_with fail
    go_ret
    exact ⟨rfl, rfl⟩
  | 1, _ =>
    go_enter Tryz.func24, Tryz.ntmps24
    go_wp2_with fail
    go_ret
    exact ⟨rfl, rfl⟩
  | 2, _ =>
    go_enter Tryz.func24, Tryz.ntmps24
    go_wp2_with fail
    go_ret
    exact ⟨rfl, rfl⟩
  | 3, _ =>
    go_enter Tryz.func24, Tryz.ntmps24
    go_wp2_with fail
    go_ret
    exact ⟨rfl, rfl⟩
  | 4, _ =>
    go_enter Tryz.func24, Tryz.ntmps24
    go_wp2_with fail
    go_ret
    exact ⟨rfl, rfl⟩
  | 5, _ =>
    go_enter Tryz.func24, Tryz.ntmps24
    go_wp2_with fail
    go_ret
    exact ⟨rfl, rfl⟩
  | 6, _ =>
    go_enter Tryz.func24, Tryz.ntmps24
    go_wp2_with fail
    go_ret
    exact ⟨rfl, rfl⟩
  | 7, _ =>
    go_enter Tryz.func24, Tryz.ntmps24
    go_wp2_with fail
    go_ret
    exact ⟨rfl, rfl⟩
  | 8, _ =>
    go_enter Tryz.func24, Tryz.ntmps24
    go_wp2_with fail
    go_ret
    exact ⟨rfl, rfl⟩
  | 9, _ =>
    go_enter Tryz.func24, Tryz.ntmps24
    go_wp2_with fail
    go_ret
    exact ⟨rfl, rfl⟩
  | 10, _ =>
    go_enter Tryz.func24, Tryz.ntmps24
    go_wp2_with fail
    go_ret
    exact ⟨rfl, rfl⟩
  | 11, _ =>
    go_enter Tryz.func24, Tryz.ntmps24
    go_wp2_with fail
    go_ret
    exact ⟨rfl, rfl⟩
  | 12, _ =>
    go_enter Tryz.func24, Tryz.ntmps24
    go_wp2_with fail
    go_ret
    exact ⟨rfl, rfl⟩
  | 13, _ =>
    go_enter Tryz.func24, Tryz.ntmps24
    go_wp2_with fail
    go_ret
    exact ⟨rfl, rfl⟩
  | n + 14, h => omega
set_option maxRecDepth 100000 in
theorem has_2 (k : Nat) (hk : k ≤ 13) (w : World) : Calls Tryz.prog 24 #[.int .i64 k, .int .i64 2] w fun x w' => x = .returned (.bool (hasM k 2)) ∧ w = w' := by
  match k, hk with
  | 0, _ =>
    go_enter Tryz.func24, Tryz.ntmps24
    go_wp2_with fail
    go_ret
    exact ⟨rfl, rfl⟩
  | 1, _ =>
    go_enter Tryz.func24, Tryz.ntmps24
    go_wp2_with fail
    go_ret
    exact ⟨rfl, rfl⟩
  | 2, _ =>
    go_enter Tryz.func24, Tryz.ntmps24
    go_wp2_with fail
    go_ret
    exact ⟨rfl, rfl⟩
  | 3, _ =>
    go_enter Tryz.func24, Tryz.ntmps24
    go_wp2_with fail
    go_ret
    exact ⟨rfl, rfl⟩
  | 4, _ =>
    go_enter Tryz.func24, Tryz.ntmps24
    go_wp2_with fail
    go_ret
    exact ⟨rfl, rfl⟩
  | 5, _ =>
    go_enter Tryz.func24, Tryz.ntmps24
    go_wp2_with fail
    go_ret
    exact ⟨rfl, rfl⟩
  | 6, _ =>
    go_enter Tryz.func24, Tryz.ntmps24
    go_wp2_with fail
    go_ret
    exact ⟨rfl, rfl⟩
  | 7, _ =>
    go_enter Tryz.func24, Tryz.ntmps24
    go_wp2_with fail
    go_ret
    exact ⟨rfl, rfl⟩
  | 8, _ =>
    go_enter Tryz.func24, Tryz.ntmps24
    go_wp2_with fail
    go_ret
    exact ⟨rfl, rfl⟩
  | 9, _ =>
    go_enter Tryz.func24, Tryz.ntmps24
    go_wp2_with fail
    go_ret
    exact ⟨rfl, rfl⟩
  | 10, _ =>
    go_enter Tryz.func24, Tryz.ntmps24
    go_wp2_with fail
    go_ret
    exact ⟨rfl, rfl⟩
  | 11, _ =>
    go_enter Tryz.func24, Tryz.ntmps24
    go_wp2_with fail
    go_ret
    exact ⟨rfl, rfl⟩
  | 12, _ =>
    go_enter Tryz.func24, Tryz.ntmps24
    go_wp2_with fail
    go_ret
    exact ⟨rfl, rfl⟩
  | 13, _ =>
    go_enter Tryz.func24, Tryz.ntmps24
    go_wp2_with fail
    go_ret
    exact ⟨rfl, rfl⟩
  | n + 14, h => omega
set_option maxRecDepth 100000 in
theorem has_3 (k : Nat) (hk : k ≤ 13) (w : World) : Calls Tryz.prog 24 #[.int .i64 k, .int .i64 3] w fun x w' => x = .returned (.bool (hasM k 3)) ∧ w = w' := by
  match k, hk with
  | 0, _ =>
    go_enter Tryz.func24, Tryz.ntmps24
    go_wp2_with fail
    go_ret
    exact ⟨rfl, rfl⟩
  | 1, _ =>
    go_enter Tryz.func24, Tryz.ntmps24
    go_wp2_with fail
    go_ret
    exact ⟨rfl, rfl⟩
  | 2, _ =>
    go_enter Tryz.func24, Tryz.ntmps24
    go_wp2_with fail
    go_ret
    exact ⟨rfl, rfl⟩
  | 3, _ =>
    go_enter Tryz.func24, Tryz.ntmps24
    go_wp2_with fail
    go_ret
    exact ⟨rfl, rfl⟩
  | 4, _ =>
    go_enter Tryz.func24, Tryz.ntmps24
    go_wp2_with fail
    go_ret
    exact ⟨rfl, rfl⟩
  | 5, _ =>
    go_enter Tryz.func24, Tryz.ntmps24
    go_wp2_with fail
    go_ret
    exact ⟨rfl, rfl⟩
  | 6, _ =>
    go_enter Tryz.func24, Tryz.ntmps24
    go_wp2_with fail
    go_ret
    exact ⟨rfl, rfl⟩
  | 7, _ =>
    go_enter Tryz.func24, Tryz.ntmps24
    go_wp2_with fail
    go_ret
    exact ⟨rfl, rfl⟩
  | 8, _ =>
    go_enter Tryz.func24, Tryz.ntmps24
    go_wp2_with fail
    go_ret
    exact ⟨rfl, rfl⟩
  | 9, _ =>
    go_enter Tryz.func24, Tryz.ntmps24
    go_wp2_with fail
    go_ret
    exact ⟨rfl, rfl⟩
  | 10, _ =>
    go_enter Tryz.func24, Tryz.ntmps24
    go_wp2_with fail
    go_ret
    exact ⟨rfl, rfl⟩
  | 11, _ =>
    go_enter Tryz.func24, Tryz.ntmps24
    go_wp2_with fail
    go_ret
    exact ⟨rfl, rfl⟩
  | 12, _ =>
    go_enter Tryz.func24, Tryz.ntmps24
    go_wp2_with fail
    go_ret
    exact ⟨rfl, rfl⟩
  | 13, _ =>
    go_enter Tryz.func24, Tryz.ntmps24
    go_wp2_with fail
    go_ret
    exact ⟨rfl, rfl⟩
  | n + 14, h => omega
set_option maxRecDepth 100000 in
theorem has_4 (k : Nat) (hk : k ≤ 13) (w : World) : Calls Tryz.prog 24 #[.int .i64 k, .int .i64 4] w fun x w' => x = .returned (.bool (hasM k 4)) ∧ w = w' := by
  match k, hk with
  | 0, _ =>
    go_enter Tryz.func24, Tryz.ntmps24
    go_wp2_with fail
    go_ret
    exact ⟨rfl, rfl⟩
  | 1, _ =>
    go_enter Tryz.func24, Tryz.ntmps24
    go_wp2_with fail
    go_ret
    exact ⟨rfl, rfl⟩
  | 2, _ =>
    go_enter Tryz.func24, Tryz.ntmps24
    go_wp2_with fail
    go_ret
    exact ⟨rfl, rfl⟩
  | 3, _ =>
    go_enter Tryz.func24, Tryz.ntmps24
    go_wp2_with fail
    go_ret
    exact ⟨rfl, rfl⟩
  | 4, _ =>
    go_enter Tryz.func24, Tryz.ntmps24
    go_wp2_with fail
    go_ret
    exact ⟨rfl, rfl⟩
  | 5, _ =>
    go_enter Tryz.func24, Tryz.ntmps24
    go_wp2_with fail
    go_ret
    exact ⟨rfl, rfl⟩
  | 6, _ =>
    go_enter Tryz.func24, Tryz.ntmps24
    go_wp2_with fail
    go_ret
    exact ⟨rfl, rfl⟩
  | 7, _ =>
    go_enter Tryz.func24, Tryz.ntmps24
    go_wp2_with fail
    go_ret
    exact ⟨rfl, rfl⟩
  | 8, _ =>
    go_enter Tryz.func24, Tryz.ntmps24
    go_wp2_with fail
    go_ret
    exact ⟨rfl, rfl⟩
  | 9, _ =>
    go_enter Tryz.func24, Tryz.ntmps24
    go_wp2_with fail
    go_ret
    exact ⟨rfl, rfl⟩
  | 10, _ =>
    go_enter Tryz.func24, Tryz.ntmps24
    go_wp2_with fail
    go_ret
    exact ⟨rfl, rfl⟩
  | 11, _ =>
    go_enter Tryz.func24, Tryz.ntmps24
    go_wp2_with fail
    go_ret
    exact ⟨rfl, rfl⟩
  | 12, _ =>
    go_enter Tryz.func24, Tryz.ntmps24
    go_wp2_with fail
    go_ret
    exact ⟨rfl, rfl⟩
  | 13, _ =>
    go_enter Tryz.func24, Tryz.ntmps24
    go_wp2_with fail
    go_ret
    exact ⟨rfl, rfl⟩
  | n + 14, h => omega
set_option maxRecDepth 100000 in
theorem has_5 (k : Nat) (hk : k ≤ 13) (w : World) : Calls Tryz.prog 24 #[.int .i64 k, .int .i64 5] w fun x w' => x = .returned (.bool (hasM k 5)) ∧ w = w' := by
  match k, hk with
  | 0, _ =>
    go_enter Tryz.func24, Tryz.ntmps24
    go_wp2_with fail
    go_ret
    exact ⟨rfl, rfl⟩
  | 1, _ =>
    go_enter Tryz.func24, Tryz.ntmps24
    go_wp2_with fail
    go_ret
    exact ⟨rfl, rfl⟩
  | 2, _ =>
    go_enter Tryz.func24, Tryz.ntmps24
    go_wp2_with fail
    go_ret
    exact ⟨rfl, rfl⟩
  | 3, _ =>
    go_enter Tryz.func24, Tryz.ntmps24
    go_wp2_with fail
    go_ret
    exact ⟨rfl, rfl⟩
  | 4, _ =>
    go_enter Tryz.func24, Tryz.ntmps24
    go_wp2_with fail
    go_ret
    exact ⟨rfl, rfl⟩
  | 5, _ =>
    go_enter Tryz.func24, Tryz.ntmps24
    go_wp2_with fail
    go_ret
    exact ⟨rfl, rfl⟩
  | 6, _ =>
    go_enter Tryz.func24, Tryz.ntmps24
    go_wp2_with fail
    go_ret
    exact ⟨rfl, rfl⟩
  | 7, _ =>
    go_enter Tryz.func24, Tryz.ntmps24
    go_wp2_with fail
    go_ret
    exact ⟨rfl, rfl⟩
  | 8, _ =>
    go_enter Tryz.func24, Tryz.ntmps24
    go_wp2_with fail
    go_ret
    exact ⟨rfl, rfl⟩
  | 9, _ =>
    go_enter Tryz.func24, Tryz.ntmps24
    go_wp2_with fail
    go_ret
    exact ⟨rfl, rfl⟩
  | 10, _ =>
    go_enter Tryz.func24, Tryz.ntmps24
    go_wp2_with fail
    go_ret
    exact ⟨rfl, rfl⟩
  | 11, _ =>
    go_enter Tryz.func24, Tryz.ntmps24
    go_wp2_with fail
    go_ret
    exact ⟨rfl, rfl⟩
  | 12, _ =>
    go_enter Tryz.func24, Tryz.ntmps24
    go_wp2_with fail
    go_ret
    exact ⟨rfl, rfl⟩
  | 13, _ =>
    go_enter Tryz.func24, Tryz.ntmps24
    go_wp2_with fail
    go_ret
    exact ⟨rfl, rfl⟩
  | n + 14, h => omega
theorem has_any (k : Nat) (hk : k ≤ 13) (m : Nat) (hm : m < 6) (w : World) : Calls Tryz.prog 24 #[.int .i64 k, .int .i64 m] w fun x w' => x = .returned (.bool (hasM k m)) ∧ w = w' := by
  match m, hm with
  | 0, _ => exact has_0 k hk w
  | 1, _ => exact has_1 k hk w
  | 2, _ => exact has_2 k hk w
  | 3, _ => exact has_3 k hk w
  | 4, _ => exact has_4 k hk w
  | 5, _ => exact has_5 k hk w
  | n + 6, h => omega
end Go.Proofs.YtecdniimikfbhaaGreat
