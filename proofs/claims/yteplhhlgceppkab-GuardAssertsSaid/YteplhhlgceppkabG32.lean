/- Contracts of boxes.value, of the kinds without parts. -/
import Derived.Test.YteplhhlgceppkabG31
import Derived.Laws.IdiomStrings
namespace Go.Proofs.Yteplhhlgceppkab
open Go Go.RowKit Go.ChangeShapes Go.WideShapes

theorem frombits (b : Int) (w : World) : (callFunc 41 #[.int .u64 b]).run Try.prog w = .ok (.value (.float .f64 b.toNat)) w := by kernel_rfl
attribute [local go_sem] frombits
set_option maxRecDepth 100000 in
theorem val_0 (m b : Int) (t : ByteArray) (sl : Value) (M : Nat) (w : World) : Calls Try.prog 50 #[.map (some M), .agg #[.int .i64 0, .int .i64 m, .int .u64 b, .string t, sl]] w fun x w' => x = .returned (.nilIface) ∧ Below w.heap.size w w' := by
  go_enter Try.func50, Try.ntmps50
  go_wp2_with fail
  exact bodyPost_ret (results_tmp rfl _ _ _) rfl ⟨rfl, by go_grown⟩
set_option maxRecDepth 100000 in
theorem val_1 (m b : Int) (t : ByteArray) (sl : Value) (M : Nat) (w : World) : Calls Try.prog 50 #[.map (some M), .agg #[.int .i64 1, .int .i64 m, .int .u64 b, .string t, sl]] w fun x w' => x = .returned (.iface 114 (.int .i64 m)) ∧ Below w.heap.size w w' := by
  go_enter Try.func50, Try.ntmps50
  go_wp2_with fail
  exact bodyPost_ret (results_tmp rfl _ _ _) rfl ⟨rfl, by go_grown⟩
set_option maxRecDepth 100000 in
theorem val_2 (m b : Int) (t : ByteArray) (sl : Value) (M : Nat) (w : World) : Calls Try.prog 50 #[.map (some M), .agg #[.int .i64 2, .int .i64 m, .int .u64 b, .string t, sl]] w fun x w' => x = .returned (.iface 115 (.int .i64 m)) ∧ Below w.heap.size w w' := by
  go_enter Try.func50, Try.ntmps50
  go_wp2_with fail
  exact bodyPost_ret (results_tmp rfl _ _ _) rfl ⟨rfl, by go_grown⟩
set_option maxRecDepth 100000 in
theorem val_3 (m b : Int) (t : ByteArray) (sl : Value) (M : Nat) (w : World) : Calls Try.prog 50 #[.map (some M), .agg #[.int .i64 3, .int .i64 m, .int .u64 b, .string t, sl]] w fun x w' => x = .returned (.iface 116 (.float .f64 b.toNat)) ∧ Below w.heap.size w w' := by
  go_enter Try.func50, Try.ntmps50
  go_wp2_with fail
  exact bodyPost_ret (results_tmp rfl _ _ _) rfl ⟨rfl, by go_grown⟩
set_option maxRecDepth 100000 in
theorem val_4 (m b : Int) (t : ByteArray) (sl : Value) (M : Nat) (w : World) : Calls Try.prog 50 #[.map (some M), .agg #[.int .i64 4, .int .i64 m, .int .u64 b, .string t, sl]] w fun x w' => x = .returned (.iface 117 (.string t)) ∧ Below w.heap.size w w' := by
  go_enter Try.func50, Try.ntmps50
  go_wp2_with fail
  exact bodyPost_ret (results_tmp rfl _ _ _) rfl ⟨rfl, by go_grown⟩
set_option maxRecDepth 100000 in
theorem val_5 (m b : Int) (t : ByteArray) (sl : Value) (M : Nat) (w : World) : Calls Try.prog 50 #[.map (some M), .agg #[.int .i64 5, .int .i64 m, .int .u64 b, .string t, sl]] w fun x w' => x = .returned (.iface 118 (.string t)) ∧ Below w.heap.size w w' := by
  go_enter Try.func50, Try.ntmps50
  go_wp2_with fail
  exact bodyPost_ret (results_tmp rfl _ _ _) rfl ⟨rfl, by go_grown⟩
set_option maxRecDepth 100000 in
theorem val_6 (m b : Int) (t : ByteArray) (sl : Value) (M : Nat) (w : World) : Calls Try.prog 50 #[.map (some M), .agg #[.int .i64 6, .int .i64 m, .int .u64 b, .string t, sl]] w fun x w' => x = .returned (.iface 119 (.bool (m == 1))) ∧ Below w.heap.size w w' := by
  go_enter Try.func50, Try.ntmps50
  go_wp2_with fail
  exact bodyPost_ret (results_tmp rfl _ _ _) rfl ⟨rfl, by go_grown⟩
set_option maxRecDepth 100000 in
theorem val_10 (m b : Int) (t : ByteArray) (sl : Value) (M : Nat) (w : World) : Calls Try.prog 50 #[.map (some M), .agg #[.int .i64 10, .int .i64 m, .int .u64 b, .string t, sl]] w fun x w' => x = .returned (.iface 128 (.agg #[.int .i64 m, .string t])) ∧ Below w.heap.size w w' := by
  go_enter Try.func50, Try.ntmps50
  go_wp2_with fail
  exact bodyPost_ret (results_tmp rfl _ _ _) rfl ⟨rfl, by go_grown⟩
set_option maxRecDepth 100000 in
theorem val_12 (m b : Int) (t : ByteArray) (sl : Value) (M : Nat) (w : World) : Calls Try.prog 50 #[.map (some M), .agg #[.int .i64 12, .int .i64 m, .int .u64 b, .string t, sl]] w fun x w' => x = .returned (.iface 129 (.pointer none)) ∧ Below w.heap.size w w' := by
  go_enter Try.func50, Try.ntmps50
  go_wp2_with fail
  exact bodyPost_ret (results_tmp rfl _ _ _) rfl ⟨rfl, by go_grown⟩
set_option maxRecDepth 100000 in
theorem val_13 (m b : Int) (t : ByteArray) (sl : Value) (M : Nat) (w : World) : Calls Try.prog 50 #[.map (some M), .agg #[.int .i64 13, .int .i64 m, .int .u64 b, .string t, sl]] w fun x w' => x = .returned (.iface 132 (.agg #[])) ∧ Below w.heap.size w w' := by
  go_enter Try.func50, Try.ntmps50
  go_wp2_with fail
  exact bodyPost_ret (results_tmp rfl _ _ _) rfl ⟨rfl, by go_grown⟩
set_option maxRecDepth 100000 in
theorem val_7 (m b : Int) (t : ByteArray) (sl : Value) (M : Nat) (w : World) : Calls Try.prog 50 #[.map (some M), .agg #[.int .i64 7, .int .i64 m, .int .u64 b, .string t, sl]] w fun x w' => (∃ a c, x = .returned (.iface 121 (.slice a t.size c))) ∧ Below w.heap.size w w' := by
  have hcv := fun w => run_bytes_of_string (P := Try.prog) w 9 121 5 t Try.underlying9 Try.underlying121 Try.underlying5
  go_enter Try.func50, Try.ntmps50
  go_wp2_with fail
  exact bodyPost_ret (results_tmp rfl _ _ _) rfl ⟨⟨_, _, rfl⟩, by go_grown⟩
end Go.Proofs.Yteplhhlgceppkab
