/- Contracts of want's face and method: whatever the value, which interfaces its type has. -/
import Derived.Test.YteplhhlgceppkabG10
import Derived.Test.YteplhhlgceppkabG11
import Derived.Stop.Asserts
namespace Go.Proofs.Yteplhhlgceppkab
open Go Go.RowKit Go.ChangeShapes Go.WideShapes

/-- Has a kind a method? -/
def hasM (k : Nat) : Nat → Bool
  | 0 => k == 4 || k == 5 || k == 7 || k == 8 || k == 9 || k == 11 || k == 12
  | 1 => k == 2 || k == 5 || k == 10
  | 2 => k == 10 || k == 11 || k == 12
  | 3 => k == 11 || k == 12
  | 4 => k == 1 || k == 2 || k == 3 || k == 4 || k == 5
  | 5 => k == 1 || k == 3
  | _ => false
/-- The methods of an interface. -/
def meths : Nat → List Nat
  | 0 => [0]
  | 1 => [1]
  | 2 => [2]
  | 3 => [3]
  | 4 => [4]
  | 5 => [5]
  | 6 => [0, 1]
  | 7 => [0, 4]
  | 8 => [4, 5]
  | 9 => [0, 1, 4]
  | _ => []
/-- Has a kind an interface? -/
def hasF (k f : Nat) : Bool := decide (f < 10) && (meths f).all (hasM k)
def hasFi (k : Nat) (f : Int) : Bool := decide (0 ≤ f ∧ f < 10) && hasF k f.toNat
theorem tf1_0 (v : Value) (w : World) : (Instr.typeAssert (.iface 134 v) 20 154 true).run Try.prog w = .ok (.tuple #[.nilIface, .bool false]) w := run_typeAssert_lacksB Try.underlying154 (by kernel_rfl) (by kernel_rfl) v _ w
theorem tf2_0 (v : Value) (w : World) : (Instr.typeAssert (.iface 135 v) 20 154 true).run Try.prog w = .ok (.tuple #[.nilIface, .bool false]) w := run_typeAssert_lacksB Try.underlying154 (by kernel_rfl) (by kernel_rfl) v _ w
theorem tf3_0 (v : Value) (w : World) : (Instr.typeAssert (.iface 136 v) 20 154 true).run Try.prog w = .ok (.tuple #[.nilIface, .bool false]) w := run_typeAssert_lacksB Try.underlying154 (by kernel_rfl) (by kernel_rfl) v _ w
theorem tf4_0 (v : Value) (w : World) : (Instr.typeAssert (.iface 137 v) 20 154 true).run Try.prog w = .ok (.tuple #[.iface 137 v, .bool true]) w := by kernel_rfl
theorem tf5_0 (v : Value) (w : World) : (Instr.typeAssert (.iface 138 v) 20 154 true).run Try.prog w = .ok (.tuple #[.iface 138 v, .bool true]) w := by kernel_rfl
theorem tf6_0 (v : Value) (w : World) : (Instr.typeAssert (.iface 139 v) 20 154 true).run Try.prog w = .ok (.tuple #[.nilIface, .bool false]) w := run_typeAssert_lacksB Try.underlying154 (by kernel_rfl) (by kernel_rfl) v _ w
theorem tf7_0 (v : Value) (w : World) : (Instr.typeAssert (.iface 140 v) 20 154 true).run Try.prog w = .ok (.tuple #[.iface 140 v, .bool true]) w := by kernel_rfl
theorem tf8_0 (v : Value) (w : World) : (Instr.typeAssert (.iface 141 v) 20 154 true).run Try.prog w = .ok (.tuple #[.iface 141 v, .bool true]) w := by kernel_rfl
theorem tf9_0 (v : Value) (w : World) : (Instr.typeAssert (.iface 143 v) 20 154 true).run Try.prog w = .ok (.tuple #[.iface 143 v, .bool true]) w := by kernel_rfl
theorem tf10_0 (v : Value) (w : World) : (Instr.typeAssert (.iface 145 v) 20 154 true).run Try.prog w = .ok (.tuple #[.nilIface, .bool false]) w := run_typeAssert_lacksB Try.underlying154 (by kernel_rfl) (by kernel_rfl) v _ w
theorem tf11_0 (v : Value) (w : World) : (Instr.typeAssert (.iface 146 v) 20 154 true).run Try.prog w = .ok (.tuple #[.iface 146 v, .bool true]) w := by kernel_rfl
theorem tf13_0 (v : Value) (w : World) : (Instr.typeAssert (.iface 149 v) 20 154 true).run Try.prog w = .ok (.tuple #[.nilIface, .bool false]) w := run_typeAssert_lacksB Try.underlying154 (by kernel_rfl) (by kernel_rfl) v _ w
theorem tf0_0 (w : World) : (Instr.typeAssert .nilIface 20 154 true).run Try.prog w = .ok (.tuple #[.nilIface, .bool false]) w := by kernel_rfl
theorem tf_0 (k : Nat) (hk : k ≤ 13) (v : Value) (hv : SampV k v) : ∃ x, ∀ w, (Instr.typeAssert v 20 154 true).run Try.prog w = .ok (.tuple #[x, .bool (hasF k 0)]) w := by
  rcases hv with ⟨rfl, rfl⟩ | ⟨h1, u, rfl⟩
  · exact ⟨_, fun w => tf0_0 w⟩
  · match k, hk, h1 with
    | 1, _, _ => exact ⟨_, fun w => tf1_0 u w⟩
    | 2, _, _ => exact ⟨_, fun w => tf2_0 u w⟩
    | 3, _, _ => exact ⟨_, fun w => tf3_0 u w⟩
    | 4, _, _ => exact ⟨_, fun w => tf4_0 u w⟩
    | 5, _, _ => exact ⟨_, fun w => tf5_0 u w⟩
    | 6, _, _ => exact ⟨_, fun w => tf6_0 u w⟩
    | 7, _, _ => exact ⟨_, fun w => tf7_0 u w⟩
    | 8, _, _ => exact ⟨_, fun w => tf8_0 u w⟩
    | 9, _, _ => exact ⟨_, fun w => tf9_0 u w⟩
    | 10, _, _ => exact ⟨_, fun w => tf10_0 u w⟩
    | 11, _, _ => exact ⟨_, fun w => tf11_0 u w⟩
    | 12, _, _ => exact ⟨_, fun w => tf11_0 u w⟩
    | 13, _, _ => exact ⟨_, fun w => tf13_0 u w⟩
    | n + 14, h, _ => omega
theorem tf1_1 (v : Value) (w : World) : (Instr.typeAssert (.iface 134 v) 20 157 true).run Try.prog w = .ok (.tuple #[.nilIface, .bool false]) w := run_typeAssert_lacksB Try.underlying157 (by kernel_rfl) (by kernel_rfl) v _ w
theorem tf2_1 (v : Value) (w : World) : (Instr.typeAssert (.iface 135 v) 20 157 true).run Try.prog w = .ok (.tuple #[.iface 135 v, .bool true]) w := by kernel_rfl
theorem tf3_1 (v : Value) (w : World) : (Instr.typeAssert (.iface 136 v) 20 157 true).run Try.prog w = .ok (.tuple #[.nilIface, .bool false]) w := run_typeAssert_lacksB Try.underlying157 (by kernel_rfl) (by kernel_rfl) v _ w
theorem tf4_1 (v : Value) (w : World) : (Instr.typeAssert (.iface 137 v) 20 157 true).run Try.prog w = .ok (.tuple #[.nilIface, .bool false]) w := run_typeAssert_lacksB Try.underlying157 (by kernel_rfl) (by kernel_rfl) v _ w
theorem tf5_1 (v : Value) (w : World) : (Instr.typeAssert (.iface 138 v) 20 157 true).run Try.prog w = .ok (.tuple #[.iface 138 v, .bool true]) w := by kernel_rfl
theorem tf6_1 (v : Value) (w : World) : (Instr.typeAssert (.iface 139 v) 20 157 true).run Try.prog w = .ok (.tuple #[.nilIface, .bool false]) w := run_typeAssert_lacksB Try.underlying157 (by kernel_rfl) (by kernel_rfl) v _ w
theorem tf7_1 (v : Value) (w : World) : (Instr.typeAssert (.iface 140 v) 20 157 true).run Try.prog w = .ok (.tuple #[.nilIface, .bool false]) w := run_typeAssert_lacksB Try.underlying157 (by kernel_rfl) (by kernel_rfl) v _ w
theorem tf8_1 (v : Value) (w : World) : (Instr.typeAssert (.iface 141 v) 20 157 true).run Try.prog w = .ok (.tuple #[.nilIface, .bool false]) w := run_typeAssert_lacksB Try.underlying157 (by kernel_rfl) (by kernel_rfl) v _ w
theorem tf9_1 (v : Value) (w : World) : (Instr.typeAssert (.iface 143 v) 20 157 true).run Try.prog w = .ok (.tuple #[.nilIface, .bool false]) w := run_typeAssert_lacksB Try.underlying157 (by kernel_rfl) (by kernel_rfl) v _ w
theorem tf10_1 (v : Value) (w : World) : (Instr.typeAssert (.iface 145 v) 20 157 true).run Try.prog w = .ok (.tuple #[.iface 145 v, .bool true]) w := by kernel_rfl
theorem tf11_1 (v : Value) (w : World) : (Instr.typeAssert (.iface 146 v) 20 157 true).run Try.prog w = .ok (.tuple #[.nilIface, .bool false]) w := run_typeAssert_lacksB Try.underlying157 (by kernel_rfl) (by kernel_rfl) v _ w
theorem tf13_1 (v : Value) (w : World) : (Instr.typeAssert (.iface 149 v) 20 157 true).run Try.prog w = .ok (.tuple #[.nilIface, .bool false]) w := run_typeAssert_lacksB Try.underlying157 (by kernel_rfl) (by kernel_rfl) v _ w
theorem tf0_1 (w : World) : (Instr.typeAssert .nilIface 20 157 true).run Try.prog w = .ok (.tuple #[.nilIface, .bool false]) w := by kernel_rfl
theorem tf_1 (k : Nat) (hk : k ≤ 13) (v : Value) (hv : SampV k v) : ∃ x, ∀ w, (Instr.typeAssert v 20 157 true).run Try.prog w = .ok (.tuple #[x, .bool (hasF k 1)]) w := by
  rcases hv with ⟨rfl, rfl⟩ | ⟨h1, u, rfl⟩
  · exact ⟨_, fun w => tf0_1 w⟩
  · match k, hk, h1 with
    | 1, _, _ => exact ⟨_, fun w => tf1_1 u w⟩
    | 2, _, _ => exact ⟨_, fun w => tf2_1 u w⟩
    | 3, _, _ => exact ⟨_, fun w => tf3_1 u w⟩
    | 4, _, _ => exact ⟨_, fun w => tf4_1 u w⟩
    | 5, _, _ => exact ⟨_, fun w => tf5_1 u w⟩
    | 6, _, _ => exact ⟨_, fun w => tf6_1 u w⟩
    | 7, _, _ => exact ⟨_, fun w => tf7_1 u w⟩
    | 8, _, _ => exact ⟨_, fun w => tf8_1 u w⟩
    | 9, _, _ => exact ⟨_, fun w => tf9_1 u w⟩
    | 10, _, _ => exact ⟨_, fun w => tf10_1 u w⟩
    | 11, _, _ => exact ⟨_, fun w => tf11_1 u w⟩
    | 12, _, _ => exact ⟨_, fun w => tf11_1 u w⟩
    | 13, _, _ => exact ⟨_, fun w => tf13_1 u w⟩
    | n + 14, h, _ => omega
theorem tf1_2 (v : Value) (w : World) : (Instr.typeAssert (.iface 134 v) 20 160 true).run Try.prog w = .ok (.tuple #[.nilIface, .bool false]) w := run_typeAssert_lacksB Try.underlying160 (by kernel_rfl) (by kernel_rfl) v _ w
theorem tf2_2 (v : Value) (w : World) : (Instr.typeAssert (.iface 135 v) 20 160 true).run Try.prog w = .ok (.tuple #[.nilIface, .bool false]) w := run_typeAssert_lacksB Try.underlying160 (by kernel_rfl) (by kernel_rfl) v _ w
theorem tf3_2 (v : Value) (w : World) : (Instr.typeAssert (.iface 136 v) 20 160 true).run Try.prog w = .ok (.tuple #[.nilIface, .bool false]) w := run_typeAssert_lacksB Try.underlying160 (by kernel_rfl) (by kernel_rfl) v _ w
theorem tf4_2 (v : Value) (w : World) : (Instr.typeAssert (.iface 137 v) 20 160 true).run Try.prog w = .ok (.tuple #[.nilIface, .bool false]) w := run_typeAssert_lacksB Try.underlying160 (by kernel_rfl) (by kernel_rfl) v _ w
theorem tf5_2 (v : Value) (w : World) : (Instr.typeAssert (.iface 138 v) 20 160 true).run Try.prog w = .ok (.tuple #[.nilIface, .bool false]) w := run_typeAssert_lacksB Try.underlying160 (by kernel_rfl) (by kernel_rfl) v _ w
theorem tf6_2 (v : Value) (w : World) : (Instr.typeAssert (.iface 139 v) 20 160 true).run Try.prog w = .ok (.tuple #[.nilIface, .bool false]) w := run_typeAssert_lacksB Try.underlying160 (by kernel_rfl) (by kernel_rfl) v _ w
theorem tf7_2 (v : Value) (w : World) : (Instr.typeAssert (.iface 140 v) 20 160 true).run Try.prog w = .ok (.tuple #[.nilIface, .bool false]) w := run_typeAssert_lacksB Try.underlying160 (by kernel_rfl) (by kernel_rfl) v _ w
theorem tf8_2 (v : Value) (w : World) : (Instr.typeAssert (.iface 141 v) 20 160 true).run Try.prog w = .ok (.tuple #[.nilIface, .bool false]) w := run_typeAssert_lacksB Try.underlying160 (by kernel_rfl) (by kernel_rfl) v _ w
theorem tf9_2 (v : Value) (w : World) : (Instr.typeAssert (.iface 143 v) 20 160 true).run Try.prog w = .ok (.tuple #[.nilIface, .bool false]) w := run_typeAssert_lacksB Try.underlying160 (by kernel_rfl) (by kernel_rfl) v _ w
theorem tf10_2 (v : Value) (w : World) : (Instr.typeAssert (.iface 145 v) 20 160 true).run Try.prog w = .ok (.tuple #[.iface 145 v, .bool true]) w := by kernel_rfl
theorem tf11_2 (v : Value) (w : World) : (Instr.typeAssert (.iface 146 v) 20 160 true).run Try.prog w = .ok (.tuple #[.iface 146 v, .bool true]) w := by kernel_rfl
theorem tf13_2 (v : Value) (w : World) : (Instr.typeAssert (.iface 149 v) 20 160 true).run Try.prog w = .ok (.tuple #[.nilIface, .bool false]) w := run_typeAssert_lacksB Try.underlying160 (by kernel_rfl) (by kernel_rfl) v _ w
theorem tf0_2 (w : World) : (Instr.typeAssert .nilIface 20 160 true).run Try.prog w = .ok (.tuple #[.nilIface, .bool false]) w := by kernel_rfl
theorem tf_2 (k : Nat) (hk : k ≤ 13) (v : Value) (hv : SampV k v) : ∃ x, ∀ w, (Instr.typeAssert v 20 160 true).run Try.prog w = .ok (.tuple #[x, .bool (hasF k 2)]) w := by
  rcases hv with ⟨rfl, rfl⟩ | ⟨h1, u, rfl⟩
  · exact ⟨_, fun w => tf0_2 w⟩
  · match k, hk, h1 with
    | 1, _, _ => exact ⟨_, fun w => tf1_2 u w⟩
    | 2, _, _ => exact ⟨_, fun w => tf2_2 u w⟩
    | 3, _, _ => exact ⟨_, fun w => tf3_2 u w⟩
    | 4, _, _ => exact ⟨_, fun w => tf4_2 u w⟩
    | 5, _, _ => exact ⟨_, fun w => tf5_2 u w⟩
    | 6, _, _ => exact ⟨_, fun w => tf6_2 u w⟩
    | 7, _, _ => exact ⟨_, fun w => tf7_2 u w⟩
    | 8, _, _ => exact ⟨_, fun w => tf8_2 u w⟩
    | 9, _, _ => exact ⟨_, fun w => tf9_2 u w⟩
    | 10, _, _ => exact ⟨_, fun w => tf10_2 u w⟩
    | 11, _, _ => exact ⟨_, fun w => tf11_2 u w⟩
    | 12, _, _ => exact ⟨_, fun w => tf11_2 u w⟩
    | 13, _, _ => exact ⟨_, fun w => tf13_2 u w⟩
    | n + 14, h, _ => omega
theorem tf1_3 (v : Value) (w : World) : (Instr.typeAssert (.iface 134 v) 20 163 true).run Try.prog w = .ok (.tuple #[.nilIface, .bool false]) w := run_typeAssert_lacksB Try.underlying163 (by kernel_rfl) (by kernel_rfl) v _ w
theorem tf2_3 (v : Value) (w : World) : (Instr.typeAssert (.iface 135 v) 20 163 true).run Try.prog w = .ok (.tuple #[.nilIface, .bool false]) w := run_typeAssert_lacksB Try.underlying163 (by kernel_rfl) (by kernel_rfl) v _ w
theorem tf3_3 (v : Value) (w : World) : (Instr.typeAssert (.iface 136 v) 20 163 true).run Try.prog w = .ok (.tuple #[.nilIface, .bool false]) w := run_typeAssert_lacksB Try.underlying163 (by kernel_rfl) (by kernel_rfl) v _ w
theorem tf4_3 (v : Value) (w : World) : (Instr.typeAssert (.iface 137 v) 20 163 true).run Try.prog w = .ok (.tuple #[.nilIface, .bool false]) w := run_typeAssert_lacksB Try.underlying163 (by kernel_rfl) (by kernel_rfl) v _ w
theorem tf5_3 (v : Value) (w : World) : (Instr.typeAssert (.iface 138 v) 20 163 true).run Try.prog w = .ok (.tuple #[.nilIface, .bool false]) w := run_typeAssert_lacksB Try.underlying163 (by kernel_rfl) (by kernel_rfl) v _ w
theorem tf6_3 (v : Value) (w : World) : (Instr.typeAssert (.iface 139 v) 20 163 true).run Try.prog w = .ok (.tuple #[.nilIface, .bool false]) w := run_typeAssert_lacksB Try.underlying163 (by kernel_rfl) (by kernel_rfl) v _ w
theorem tf7_3 (v : Value) (w : World) : (Instr.typeAssert (.iface 140 v) 20 163 true).run Try.prog w = .ok (.tuple #[.nilIface, .bool false]) w := run_typeAssert_lacksB Try.underlying163 (by kernel_rfl) (by kernel_rfl) v _ w
theorem tf8_3 (v : Value) (w : World) : (Instr.typeAssert (.iface 141 v) 20 163 true).run Try.prog w = .ok (.tuple #[.nilIface, .bool false]) w := run_typeAssert_lacksB Try.underlying163 (by kernel_rfl) (by kernel_rfl) v _ w
theorem tf9_3 (v : Value) (w : World) : (Instr.typeAssert (.iface 143 v) 20 163 true).run Try.prog w = .ok (.tuple #[.nilIface, .bool false]) w := run_typeAssert_lacksB Try.underlying163 (by kernel_rfl) (by kernel_rfl) v _ w
theorem tf10_3 (v : Value) (w : World) : (Instr.typeAssert (.iface 145 v) 20 163 true).run Try.prog w = .ok (.tuple #[.nilIface, .bool false]) w := run_typeAssert_lacksB Try.underlying163 (by kernel_rfl) (by kernel_rfl) v _ w
theorem tf11_3 (v : Value) (w : World) : (Instr.typeAssert (.iface 146 v) 20 163 true).run Try.prog w = .ok (.tuple #[.iface 146 v, .bool true]) w := by kernel_rfl
theorem tf13_3 (v : Value) (w : World) : (Instr.typeAssert (.iface 149 v) 20 163 true).run Try.prog w = .ok (.tuple #[.nilIface, .bool false]) w := run_typeAssert_lacksB Try.underlying163 (by kernel_rfl) (by kernel_rfl) v _ w
theorem tf0_3 (w : World) : (Instr.typeAssert .nilIface 20 163 true).run Try.prog w = .ok (.tuple #[.nilIface, .bool false]) w := by kernel_rfl
theorem tf_3 (k : Nat) (hk : k ≤ 13) (v : Value) (hv : SampV k v) : ∃ x, ∀ w, (Instr.typeAssert v 20 163 true).run Try.prog w = .ok (.tuple #[x, .bool (hasF k 3)]) w := by
  rcases hv with ⟨rfl, rfl⟩ | ⟨h1, u, rfl⟩
  · exact ⟨_, fun w => tf0_3 w⟩
  · match k, hk, h1 with
    | 1, _, _ => exact ⟨_, fun w => tf1_3 u w⟩
    | 2, _, _ => exact ⟨_, fun w => tf2_3 u w⟩
    | 3, _, _ => exact ⟨_, fun w => tf3_3 u w⟩
    | 4, _, _ => exact ⟨_, fun w => tf4_3 u w⟩
    | 5, _, _ => exact ⟨_, fun w => tf5_3 u w⟩
    | 6, _, _ => exact ⟨_, fun w => tf6_3 u w⟩
    | 7, _, _ => exact ⟨_, fun w => tf7_3 u w⟩
    | 8, _, _ => exact ⟨_, fun w => tf8_3 u w⟩
    | 9, _, _ => exact ⟨_, fun w => tf9_3 u w⟩
    | 10, _, _ => exact ⟨_, fun w => tf10_3 u w⟩
    | 11, _, _ => exact ⟨_, fun w => tf11_3 u w⟩
    | 12, _, _ => exact ⟨_, fun w => tf11_3 u w⟩
    | 13, _, _ => exact ⟨_, fun w => tf13_3 u w⟩
    | n + 14, h, _ => omega
theorem tf1_4 (v : Value) (w : World) : (Instr.typeAssert (.iface 134 v) 20 166 true).run Try.prog w = .ok (.tuple #[.iface 134 v, .bool true]) w := by kernel_rfl
theorem tf2_4 (v : Value) (w : World) : (Instr.typeAssert (.iface 135 v) 20 166 true).run Try.prog w = .ok (.tuple #[.iface 135 v, .bool true]) w := by kernel_rfl
theorem tf3_4 (v : Value) (w : World) : (Instr.typeAssert (.iface 136 v) 20 166 true).run Try.prog w = .ok (.tuple #[.iface 136 v, .bool true]) w := by kernel_rfl
theorem tf4_4 (v : Value) (w : World) : (Instr.typeAssert (.iface 137 v) 20 166 true).run Try.prog w = .ok (.tuple #[.iface 137 v, .bool true]) w := by kernel_rfl
theorem tf5_4 (v : Value) (w : World) : (Instr.typeAssert (.iface 138 v) 20 166 true).run Try.prog w = .ok (.tuple #[.iface 138 v, .bool true]) w := by kernel_rfl
theorem tf6_4 (v : Value) (w : World) : (Instr.typeAssert (.iface 139 v) 20 166 true).run Try.prog w = .ok (.tuple #[.nilIface, .bool false]) w := run_typeAssert_lacksB Try.underlying166 (by kernel_rfl) (by kernel_rfl) v _ w
theorem tf7_4 (v : Value) (w : World) : (Instr.typeAssert (.iface 140 v) 20 166 true).run Try.prog w = .ok (.tuple #[.nilIface, .bool false]) w := run_typeAssert_lacksB Try.underlying166 (by kernel_rfl) (by kernel_rfl) v _ w
theorem tf8_4 (v : Value) (w : World) : (Instr.typeAssert (.iface 141 v) 20 166 true).run Try.prog w = .ok (.tuple #[.nilIface, .bool false]) w := run_typeAssert_lacksB Try.underlying166 (by kernel_rfl) (by kernel_rfl) v _ w
theorem tf9_4 (v : Value) (w : World) : (Instr.typeAssert (.iface 143 v) 20 166 true).run Try.prog w = .ok (.tuple #[.nilIface, .bool false]) w := run_typeAssert_lacksB Try.underlying166 (by kernel_rfl) (by kernel_rfl) v _ w
theorem tf10_4 (v : Value) (w : World) : (Instr.typeAssert (.iface 145 v) 20 166 true).run Try.prog w = .ok (.tuple #[.nilIface, .bool false]) w := run_typeAssert_lacksB Try.underlying166 (by kernel_rfl) (by kernel_rfl) v _ w
theorem tf11_4 (v : Value) (w : World) : (Instr.typeAssert (.iface 146 v) 20 166 true).run Try.prog w = .ok (.tuple #[.nilIface, .bool false]) w := run_typeAssert_lacksB Try.underlying166 (by kernel_rfl) (by kernel_rfl) v _ w
theorem tf13_4 (v : Value) (w : World) : (Instr.typeAssert (.iface 149 v) 20 166 true).run Try.prog w = .ok (.tuple #[.nilIface, .bool false]) w := run_typeAssert_lacksB Try.underlying166 (by kernel_rfl) (by kernel_rfl) v _ w
theorem tf0_4 (w : World) : (Instr.typeAssert .nilIface 20 166 true).run Try.prog w = .ok (.tuple #[.nilIface, .bool false]) w := by kernel_rfl
theorem tf_4 (k : Nat) (hk : k ≤ 13) (v : Value) (hv : SampV k v) : ∃ x, ∀ w, (Instr.typeAssert v 20 166 true).run Try.prog w = .ok (.tuple #[x, .bool (hasF k 4)]) w := by
  rcases hv with ⟨rfl, rfl⟩ | ⟨h1, u, rfl⟩
  · exact ⟨_, fun w => tf0_4 w⟩
  · match k, hk, h1 with
    | 1, _, _ => exact ⟨_, fun w => tf1_4 u w⟩
    | 2, _, _ => exact ⟨_, fun w => tf2_4 u w⟩
    | 3, _, _ => exact ⟨_, fun w => tf3_4 u w⟩
    | 4, _, _ => exact ⟨_, fun w => tf4_4 u w⟩
    | 5, _, _ => exact ⟨_, fun w => tf5_4 u w⟩
    | 6, _, _ => exact ⟨_, fun w => tf6_4 u w⟩
    | 7, _, _ => exact ⟨_, fun w => tf7_4 u w⟩
    | 8, _, _ => exact ⟨_, fun w => tf8_4 u w⟩
    | 9, _, _ => exact ⟨_, fun w => tf9_4 u w⟩
    | 10, _, _ => exact ⟨_, fun w => tf10_4 u w⟩
    | 11, _, _ => exact ⟨_, fun w => tf11_4 u w⟩
    | 12, _, _ => exact ⟨_, fun w => tf11_4 u w⟩
    | 13, _, _ => exact ⟨_, fun w => tf13_4 u w⟩
    | n + 14, h, _ => omega
theorem tf1_5 (v : Value) (w : World) : (Instr.typeAssert (.iface 134 v) 20 169 true).run Try.prog w = .ok (.tuple #[.iface 134 v, .bool true]) w := by kernel_rfl
theorem tf2_5 (v : Value) (w : World) : (Instr.typeAssert (.iface 135 v) 20 169 true).run Try.prog w = .ok (.tuple #[.nilIface, .bool false]) w := run_typeAssert_lacksB Try.underlying169 (by kernel_rfl) (by kernel_rfl) v _ w
theorem tf3_5 (v : Value) (w : World) : (Instr.typeAssert (.iface 136 v) 20 169 true).run Try.prog w = .ok (.tuple #[.iface 136 v, .bool true]) w := by kernel_rfl
theorem tf4_5 (v : Value) (w : World) : (Instr.typeAssert (.iface 137 v) 20 169 true).run Try.prog w = .ok (.tuple #[.nilIface, .bool false]) w := run_typeAssert_lacksB Try.underlying169 (by kernel_rfl) (by kernel_rfl) v _ w
theorem tf5_5 (v : Value) (w : World) : (Instr.typeAssert (.iface 138 v) 20 169 true).run Try.prog w = .ok (.tuple #[.nilIface, .bool false]) w := run_typeAssert_lacksB Try.underlying169 (by kernel_rfl) (by kernel_rfl) v _ w
theorem tf6_5 (v : Value) (w : World) : (Instr.typeAssert (.iface 139 v) 20 169 true).run Try.prog w = .ok (.tuple #[.nilIface, .bool false]) w := run_typeAssert_lacksB Try.underlying169 (by kernel_rfl) (by kernel_rfl) v _ w
theorem tf7_5 (v : Value) (w : World) : (Instr.typeAssert (.iface 140 v) 20 169 true).run Try.prog w = .ok (.tuple #[.nilIface, .bool false]) w := run_typeAssert_lacksB Try.underlying169 (by kernel_rfl) (by kernel_rfl) v _ w
theorem tf8_5 (v : Value) (w : World) : (Instr.typeAssert (.iface 141 v) 20 169 true).run Try.prog w = .ok (.tuple #[.nilIface, .bool false]) w := run_typeAssert_lacksB Try.underlying169 (by kernel_rfl) (by kernel_rfl) v _ w
theorem tf9_5 (v : Value) (w : World) : (Instr.typeAssert (.iface 143 v) 20 169 true).run Try.prog w = .ok (.tuple #[.nilIface, .bool false]) w := run_typeAssert_lacksB Try.underlying169 (by kernel_rfl) (by kernel_rfl) v _ w
theorem tf10_5 (v : Value) (w : World) : (Instr.typeAssert (.iface 145 v) 20 169 true).run Try.prog w = .ok (.tuple #[.nilIface, .bool false]) w := run_typeAssert_lacksB Try.underlying169 (by kernel_rfl) (by kernel_rfl) v _ w
theorem tf11_5 (v : Value) (w : World) : (Instr.typeAssert (.iface 146 v) 20 169 true).run Try.prog w = .ok (.tuple #[.nilIface, .bool false]) w := run_typeAssert_lacksB Try.underlying169 (by kernel_rfl) (by kernel_rfl) v _ w
theorem tf13_5 (v : Value) (w : World) : (Instr.typeAssert (.iface 149 v) 20 169 true).run Try.prog w = .ok (.tuple #[.nilIface, .bool false]) w := run_typeAssert_lacksB Try.underlying169 (by kernel_rfl) (by kernel_rfl) v _ w
theorem tf0_5 (w : World) : (Instr.typeAssert .nilIface 20 169 true).run Try.prog w = .ok (.tuple #[.nilIface, .bool false]) w := by kernel_rfl
theorem tf_5 (k : Nat) (hk : k ≤ 13) (v : Value) (hv : SampV k v) : ∃ x, ∀ w, (Instr.typeAssert v 20 169 true).run Try.prog w = .ok (.tuple #[x, .bool (hasF k 5)]) w := by
  rcases hv with ⟨rfl, rfl⟩ | ⟨h1, u, rfl⟩
  · exact ⟨_, fun w => tf0_5 w⟩
  · match k, hk, h1 with
    | 1, _, _ => exact ⟨_, fun w => tf1_5 u w⟩
    | 2, _, _ => exact ⟨_, fun w => tf2_5 u w⟩
    | 3, _, _ => exact ⟨_, fun w => tf3_5 u w⟩
    | 4, _, _ => exact ⟨_, fun w => tf4_5 u w⟩
    | 5, _, _ => exact ⟨_, fun w => tf5_5 u w⟩
    | 6, _, _ => exact ⟨_, fun w => tf6_5 u w⟩
    | 7, _, _ => exact ⟨_, fun w => tf7_5 u w⟩
    | 8, _, _ => exact ⟨_, fun w => tf8_5 u w⟩
    | 9, _, _ => exact ⟨_, fun w => tf9_5 u w⟩
    | 10, _, _ => exact ⟨_, fun w => tf10_5 u w⟩
    | 11, _, _ => exact ⟨_, fun w => tf11_5 u w⟩
    | 12, _, _ => exact ⟨_, fun w => tf11_5 u w⟩
    | 13, _, _ => exact ⟨_, fun w => tf13_5 u w⟩
    | n + 14, h, _ => omega
theorem tf1_6 (v : Value) (w : World) : (Instr.typeAssert (.iface 134 v) 20 172 true).run Try.prog w = .ok (.tuple #[.nilIface, .bool false]) w := run_typeAssert_lacksB Try.underlying172 (by kernel_rfl) (by kernel_rfl) v _ w
theorem tf2_6 (v : Value) (w : World) : (Instr.typeAssert (.iface 135 v) 20 172 true).run Try.prog w = .ok (.tuple #[.nilIface, .bool false]) w := run_typeAssert_lacksB Try.underlying172 (by kernel_rfl) (by kernel_rfl) v _ w
theorem tf3_6 (v : Value) (w : World) : (Instr.typeAssert (.iface 136 v) 20 172 true).run Try.prog w = .ok (.tuple #[.nilIface, .bool false]) w := run_typeAssert_lacksB Try.underlying172 (by kernel_rfl) (by kernel_rfl) v _ w
theorem tf4_6 (v : Value) (w : World) : (Instr.typeAssert (.iface 137 v) 20 172 true).run Try.prog w = .ok (.tuple #[.nilIface, .bool false]) w := run_typeAssert_lacksB Try.underlying172 (by kernel_rfl) (by kernel_rfl) v _ w
theorem tf5_6 (v : Value) (w : World) : (Instr.typeAssert (.iface 138 v) 20 172 true).run Try.prog w = .ok (.tuple #[.iface 138 v, .bool true]) w := by kernel_rfl
theorem tf6_6 (v : Value) (w : World) : (Instr.typeAssert (.iface 139 v) 20 172 true).run Try.prog w = .ok (.tuple #[.nilIface, .bool false]) w := run_typeAssert_lacksB Try.underlying172 (by kernel_rfl) (by kernel_rfl) v _ w
theorem tf7_6 (v : Value) (w : World) : (Instr.typeAssert (.iface 140 v) 20 172 true).run Try.prog w = .ok (.tuple #[.nilIface, .bool false]) w := run_typeAssert_lacksB Try.underlying172 (by kernel_rfl) (by kernel_rfl) v _ w
theorem tf8_6 (v : Value) (w : World) : (Instr.typeAssert (.iface 141 v) 20 172 true).run Try.prog w = .ok (.tuple #[.nilIface, .bool false]) w := run_typeAssert_lacksB Try.underlying172 (by kernel_rfl) (by kernel_rfl) v _ w
theorem tf9_6 (v : Value) (w : World) : (Instr.typeAssert (.iface 143 v) 20 172 true).run Try.prog w = .ok (.tuple #[.nilIface, .bool false]) w := run_typeAssert_lacksB Try.underlying172 (by kernel_rfl) (by kernel_rfl) v _ w
theorem tf10_6 (v : Value) (w : World) : (Instr.typeAssert (.iface 145 v) 20 172 true).run Try.prog w = .ok (.tuple #[.nilIface, .bool false]) w := run_typeAssert_lacksB Try.underlying172 (by kernel_rfl) (by kernel_rfl) v _ w
theorem tf11_6 (v : Value) (w : World) : (Instr.typeAssert (.iface 146 v) 20 172 true).run Try.prog w = .ok (.tuple #[.nilIface, .bool false]) w := run_typeAssert_lacksB Try.underlying172 (by kernel_rfl) (by kernel_rfl) v _ w
theorem tf13_6 (v : Value) (w : World) : (Instr.typeAssert (.iface 149 v) 20 172 true).run Try.prog w = .ok (.tuple #[.nilIface, .bool false]) w := run_typeAssert_lacksB Try.underlying172 (by kernel_rfl) (by kernel_rfl) v _ w
theorem tf0_6 (w : World) : (Instr.typeAssert .nilIface 20 172 true).run Try.prog w = .ok (.tuple #[.nilIface, .bool false]) w := by kernel_rfl
theorem tf_6 (k : Nat) (hk : k ≤ 13) (v : Value) (hv : SampV k v) : ∃ x, ∀ w, (Instr.typeAssert v 20 172 true).run Try.prog w = .ok (.tuple #[x, .bool (hasF k 6)]) w := by
  rcases hv with ⟨rfl, rfl⟩ | ⟨h1, u, rfl⟩
  · exact ⟨_, fun w => tf0_6 w⟩
  · match k, hk, h1 with
    | 1, _, _ => exact ⟨_, fun w => tf1_6 u w⟩
    | 2, _, _ => exact ⟨_, fun w => tf2_6 u w⟩
    | 3, _, _ => exact ⟨_, fun w => tf3_6 u w⟩
    | 4, _, _ => exact ⟨_, fun w => tf4_6 u w⟩
    | 5, _, _ => exact ⟨_, fun w => tf5_6 u w⟩
    | 6, _, _ => exact ⟨_, fun w => tf6_6 u w⟩
    | 7, _, _ => exact ⟨_, fun w => tf7_6 u w⟩
    | 8, _, _ => exact ⟨_, fun w => tf8_6 u w⟩
    | 9, _, _ => exact ⟨_, fun w => tf9_6 u w⟩
    | 10, _, _ => exact ⟨_, fun w => tf10_6 u w⟩
    | 11, _, _ => exact ⟨_, fun w => tf11_6 u w⟩
    | 12, _, _ => exact ⟨_, fun w => tf11_6 u w⟩
    | 13, _, _ => exact ⟨_, fun w => tf13_6 u w⟩
    | n + 14, h, _ => omega
theorem tf1_7 (v : Value) (w : World) : (Instr.typeAssert (.iface 134 v) 20 175 true).run Try.prog w = .ok (.tuple #[.nilIface, .bool false]) w := run_typeAssert_lacksB Try.underlying175 (by kernel_rfl) (by kernel_rfl) v _ w
theorem tf2_7 (v : Value) (w : World) : (Instr.typeAssert (.iface 135 v) 20 175 true).run Try.prog w = .ok (.tuple #[.nilIface, .bool false]) w := run_typeAssert_lacksB Try.underlying175 (by kernel_rfl) (by kernel_rfl) v _ w
theorem tf3_7 (v : Value) (w : World) : (Instr.typeAssert (.iface 136 v) 20 175 true).run Try.prog w = .ok (.tuple #[.nilIface, .bool false]) w := run_typeAssert_lacksB Try.underlying175 (by kernel_rfl) (by kernel_rfl) v _ w
theorem tf4_7 (v : Value) (w : World) : (Instr.typeAssert (.iface 137 v) 20 175 true).run Try.prog w = .ok (.tuple #[.iface 137 v, .bool true]) w := by kernel_rfl
theorem tf5_7 (v : Value) (w : World) : (Instr.typeAssert (.iface 138 v) 20 175 true).run Try.prog w = .ok (.tuple #[.iface 138 v, .bool true]) w := by kernel_rfl
theorem tf6_7 (v : Value) (w : World) : (Instr.typeAssert (.iface 139 v) 20 175 true).run Try.prog w = .ok (.tuple #[.nilIface, .bool false]) w := run_typeAssert_lacksB Try.underlying175 (by kernel_rfl) (by kernel_rfl) v _ w
theorem tf7_7 (v : Value) (w : World) : (Instr.typeAssert (.iface 140 v) 20 175 true).run Try.prog w = .ok (.tuple #[.nilIface, .bool false]) w := run_typeAssert_lacksB Try.underlying175 (by kernel_rfl) (by kernel_rfl) v _ w
theorem tf8_7 (v : Value) (w : World) : (Instr.typeAssert (.iface 141 v) 20 175 true).run Try.prog w = .ok (.tuple #[.nilIface, .bool false]) w := run_typeAssert_lacksB Try.underlying175 (by kernel_rfl) (by kernel_rfl) v _ w
theorem tf9_7 (v : Value) (w : World) : (Instr.typeAssert (.iface 143 v) 20 175 true).run Try.prog w = .ok (.tuple #[.nilIface, .bool false]) w := run_typeAssert_lacksB Try.underlying175 (by kernel_rfl) (by kernel_rfl) v _ w
theorem tf10_7 (v : Value) (w : World) : (Instr.typeAssert (.iface 145 v) 20 175 true).run Try.prog w = .ok (.tuple #[.nilIface, .bool false]) w := run_typeAssert_lacksB Try.underlying175 (by kernel_rfl) (by kernel_rfl) v _ w
theorem tf11_7 (v : Value) (w : World) : (Instr.typeAssert (.iface 146 v) 20 175 true).run Try.prog w = .ok (.tuple #[.nilIface, .bool false]) w := run_typeAssert_lacksB Try.underlying175 (by kernel_rfl) (by kernel_rfl) v _ w
theorem tf13_7 (v : Value) (w : World) : (Instr.typeAssert (.iface 149 v) 20 175 true).run Try.prog w = .ok (.tuple #[.nilIface, .bool false]) w := run_typeAssert_lacksB Try.underlying175 (by kernel_rfl) (by kernel_rfl) v _ w
theorem tf0_7 (w : World) : (Instr.typeAssert .nilIface 20 175 true).run Try.prog w = .ok (.tuple #[.nilIface, .bool false]) w := by kernel_rfl
theorem tf_7 (k : Nat) (hk : k ≤ 13) (v : Value) (hv : SampV k v) : ∃ x, ∀ w, (Instr.typeAssert v 20 175 true).run Try.prog w = .ok (.tuple #[x, .bool (hasF k 7)]) w := by
  rcases hv with ⟨rfl, rfl⟩ | ⟨h1, u, rfl⟩
  · exact ⟨_, fun w => tf0_7 w⟩
  · match k, hk, h1 with
    | 1, _, _ => exact ⟨_, fun w => tf1_7 u w⟩
    | 2, _, _ => exact ⟨_, fun w => tf2_7 u w⟩
    | 3, _, _ => exact ⟨_, fun w => tf3_7 u w⟩
    | 4, _, _ => exact ⟨_, fun w => tf4_7 u w⟩
    | 5, _, _ => exact ⟨_, fun w => tf5_7 u w⟩
    | 6, _, _ => exact ⟨_, fun w => tf6_7 u w⟩
    | 7, _, _ => exact ⟨_, fun w => tf7_7 u w⟩
    | 8, _, _ => exact ⟨_, fun w => tf8_7 u w⟩
    | 9, _, _ => exact ⟨_, fun w => tf9_7 u w⟩
    | 10, _, _ => exact ⟨_, fun w => tf10_7 u w⟩
    | 11, _, _ => exact ⟨_, fun w => tf11_7 u w⟩
    | 12, _, _ => exact ⟨_, fun w => tf11_7 u w⟩
    | 13, _, _ => exact ⟨_, fun w => tf13_7 u w⟩
    | n + 14, h, _ => omega
theorem tf1_8 (v : Value) (w : World) : (Instr.typeAssert (.iface 134 v) 20 178 true).run Try.prog w = .ok (.tuple #[.iface 134 v, .bool true]) w := by kernel_rfl
theorem tf2_8 (v : Value) (w : World) : (Instr.typeAssert (.iface 135 v) 20 178 true).run Try.prog w = .ok (.tuple #[.nilIface, .bool false]) w := run_typeAssert_lacksB Try.underlying178 (by kernel_rfl) (by kernel_rfl) v _ w
theorem tf3_8 (v : Value) (w : World) : (Instr.typeAssert (.iface 136 v) 20 178 true).run Try.prog w = .ok (.tuple #[.iface 136 v, .bool true]) w := by kernel_rfl
theorem tf4_8 (v : Value) (w : World) : (Instr.typeAssert (.iface 137 v) 20 178 true).run Try.prog w = .ok (.tuple #[.nilIface, .bool false]) w := run_typeAssert_lacksB Try.underlying178 (by kernel_rfl) (by kernel_rfl) v _ w
theorem tf5_8 (v : Value) (w : World) : (Instr.typeAssert (.iface 138 v) 20 178 true).run Try.prog w = .ok (.tuple #[.nilIface, .bool false]) w := run_typeAssert_lacksB Try.underlying178 (by kernel_rfl) (by kernel_rfl) v _ w
theorem tf6_8 (v : Value) (w : World) : (Instr.typeAssert (.iface 139 v) 20 178 true).run Try.prog w = .ok (.tuple #[.nilIface, .bool false]) w := run_typeAssert_lacksB Try.underlying178 (by kernel_rfl) (by kernel_rfl) v _ w
theorem tf7_8 (v : Value) (w : World) : (Instr.typeAssert (.iface 140 v) 20 178 true).run Try.prog w = .ok (.tuple #[.nilIface, .bool false]) w := run_typeAssert_lacksB Try.underlying178 (by kernel_rfl) (by kernel_rfl) v _ w
theorem tf8_8 (v : Value) (w : World) : (Instr.typeAssert (.iface 141 v) 20 178 true).run Try.prog w = .ok (.tuple #[.nilIface, .bool false]) w := run_typeAssert_lacksB Try.underlying178 (by kernel_rfl) (by kernel_rfl) v _ w
theorem tf9_8 (v : Value) (w : World) : (Instr.typeAssert (.iface 143 v) 20 178 true).run Try.prog w = .ok (.tuple #[.nilIface, .bool false]) w := run_typeAssert_lacksB Try.underlying178 (by kernel_rfl) (by kernel_rfl) v _ w
theorem tf10_8 (v : Value) (w : World) : (Instr.typeAssert (.iface 145 v) 20 178 true).run Try.prog w = .ok (.tuple #[.nilIface, .bool false]) w := run_typeAssert_lacksB Try.underlying178 (by kernel_rfl) (by kernel_rfl) v _ w
theorem tf11_8 (v : Value) (w : World) : (Instr.typeAssert (.iface 146 v) 20 178 true).run Try.prog w = .ok (.tuple #[.nilIface, .bool false]) w := run_typeAssert_lacksB Try.underlying178 (by kernel_rfl) (by kernel_rfl) v _ w
theorem tf13_8 (v : Value) (w : World) : (Instr.typeAssert (.iface 149 v) 20 178 true).run Try.prog w = .ok (.tuple #[.nilIface, .bool false]) w := run_typeAssert_lacksB Try.underlying178 (by kernel_rfl) (by kernel_rfl) v _ w
theorem tf0_8 (w : World) : (Instr.typeAssert .nilIface 20 178 true).run Try.prog w = .ok (.tuple #[.nilIface, .bool false]) w := by kernel_rfl
theorem tf_8 (k : Nat) (hk : k ≤ 13) (v : Value) (hv : SampV k v) : ∃ x, ∀ w, (Instr.typeAssert v 20 178 true).run Try.prog w = .ok (.tuple #[x, .bool (hasF k 8)]) w := by
  rcases hv with ⟨rfl, rfl⟩ | ⟨h1, u, rfl⟩
  · exact ⟨_, fun w => tf0_8 w⟩
  · match k, hk, h1 with
    | 1, _, _ => exact ⟨_, fun w => tf1_8 u w⟩
    | 2, _, _ => exact ⟨_, fun w => tf2_8 u w⟩
    | 3, _, _ => exact ⟨_, fun w => tf3_8 u w⟩
    | 4, _, _ => exact ⟨_, fun w => tf4_8 u w⟩
    | 5, _, _ => exact ⟨_, fun w => tf5_8 u w⟩
    | 6, _, _ => exact ⟨_, fun w => tf6_8 u w⟩
    | 7, _, _ => exact ⟨_, fun w => tf7_8 u w⟩
    | 8, _, _ => exact ⟨_, fun w => tf8_8 u w⟩
    | 9, _, _ => exact ⟨_, fun w => tf9_8 u w⟩
    | 10, _, _ => exact ⟨_, fun w => tf10_8 u w⟩
    | 11, _, _ => exact ⟨_, fun w => tf11_8 u w⟩
    | 12, _, _ => exact ⟨_, fun w => tf11_8 u w⟩
    | 13, _, _ => exact ⟨_, fun w => tf13_8 u w⟩
    | n + 14, h, _ => omega
theorem tf1_9 (v : Value) (w : World) : (Instr.typeAssert (.iface 134 v) 20 181 true).run Try.prog w = .ok (.tuple #[.nilIface, .bool false]) w := run_typeAssert_lacksB Try.underlying181 (by kernel_rfl) (by kernel_rfl) v _ w
theorem tf2_9 (v : Value) (w : World) : (Instr.typeAssert (.iface 135 v) 20 181 true).run Try.prog w = .ok (.tuple #[.nilIface, .bool false]) w := run_typeAssert_lacksB Try.underlying181 (by kernel_rfl) (by kernel_rfl) v _ w
theorem tf3_9 (v : Value) (w : World) : (Instr.typeAssert (.iface 136 v) 20 181 true).run Try.prog w = .ok (.tuple #[.nilIface, .bool false]) w := run_typeAssert_lacksB Try.underlying181 (by kernel_rfl) (by kernel_rfl) v _ w
theorem tf4_9 (v : Value) (w : World) : (Instr.typeAssert (.iface 137 v) 20 181 true).run Try.prog w = .ok (.tuple #[.nilIface, .bool false]) w := run_typeAssert_lacksB Try.underlying181 (by kernel_rfl) (by kernel_rfl) v _ w
theorem tf5_9 (v : Value) (w : World) : (Instr.typeAssert (.iface 138 v) 20 181 true).run Try.prog w = .ok (.tuple #[.iface 138 v, .bool true]) w := by kernel_rfl
theorem tf6_9 (v : Value) (w : World) : (Instr.typeAssert (.iface 139 v) 20 181 true).run Try.prog w = .ok (.tuple #[.nilIface, .bool false]) w := run_typeAssert_lacksB Try.underlying181 (by kernel_rfl) (by kernel_rfl) v _ w
theorem tf7_9 (v : Value) (w : World) : (Instr.typeAssert (.iface 140 v) 20 181 true).run Try.prog w = .ok (.tuple #[.nilIface, .bool false]) w := run_typeAssert_lacksB Try.underlying181 (by kernel_rfl) (by kernel_rfl) v _ w
theorem tf8_9 (v : Value) (w : World) : (Instr.typeAssert (.iface 141 v) 20 181 true).run Try.prog w = .ok (.tuple #[.nilIface, .bool false]) w := run_typeAssert_lacksB Try.underlying181 (by kernel_rfl) (by kernel_rfl) v _ w
theorem tf9_9 (v : Value) (w : World) : (Instr.typeAssert (.iface 143 v) 20 181 true).run Try.prog w = .ok (.tuple #[.nilIface, .bool false]) w := run_typeAssert_lacksB Try.underlying181 (by kernel_rfl) (by kernel_rfl) v _ w
theorem tf10_9 (v : Value) (w : World) : (Instr.typeAssert (.iface 145 v) 20 181 true).run Try.prog w = .ok (.tuple #[.nilIface, .bool false]) w := run_typeAssert_lacksB Try.underlying181 (by kernel_rfl) (by kernel_rfl) v _ w
theorem tf11_9 (v : Value) (w : World) : (Instr.typeAssert (.iface 146 v) 20 181 true).run Try.prog w = .ok (.tuple #[.nilIface, .bool false]) w := run_typeAssert_lacksB Try.underlying181 (by kernel_rfl) (by kernel_rfl) v _ w
theorem tf13_9 (v : Value) (w : World) : (Instr.typeAssert (.iface 149 v) 20 181 true).run Try.prog w = .ok (.tuple #[.nilIface, .bool false]) w := run_typeAssert_lacksB Try.underlying181 (by kernel_rfl) (by kernel_rfl) v _ w
theorem tf0_9 (w : World) : (Instr.typeAssert .nilIface 20 181 true).run Try.prog w = .ok (.tuple #[.nilIface, .bool false]) w := by kernel_rfl
theorem tf_9 (k : Nat) (hk : k ≤ 13) (v : Value) (hv : SampV k v) : ∃ x, ∀ w, (Instr.typeAssert v 20 181 true).run Try.prog w = .ok (.tuple #[x, .bool (hasF k 9)]) w := by
  rcases hv with ⟨rfl, rfl⟩ | ⟨h1, u, rfl⟩
  · exact ⟨_, fun w => tf0_9 w⟩
  · match k, hk, h1 with
    | 1, _, _ => exact ⟨_, fun w => tf1_9 u w⟩
    | 2, _, _ => exact ⟨_, fun w => tf2_9 u w⟩
    | 3, _, _ => exact ⟨_, fun w => tf3_9 u w⟩
    | 4, _, _ => exact ⟨_, fun w => tf4_9 u w⟩
    | 5, _, _ => exact ⟨_, fun w => tf5_9 u w⟩
    | 6, _, _ => exact ⟨_, fun w => tf6_9 u w⟩
    | 7, _, _ => exact ⟨_, fun w => tf7_9 u w⟩
    | 8, _, _ => exact ⟨_, fun w => tf8_9 u w⟩
    | 9, _, _ => exact ⟨_, fun w => tf9_9 u w⟩
    | 10, _, _ => exact ⟨_, fun w => tf10_9 u w⟩
    | 11, _, _ => exact ⟨_, fun w => tf11_9 u w⟩
    | 12, _, _ => exact ⟨_, fun w => tf11_9 u w⟩
    | 13, _, _ => exact ⟨_, fun w => tf13_9 u w⟩
    | n + 14, h, _ => omega
set_option maxRecDepth 100000 in
theorem face_0 (v x : Value) (b : Bool) (h : ∀ w, (Instr.typeAssert v 20 154 true).run Try.prog w = .ok (.tuple #[x, .bool b]) w) (w : World) : Calls Try.prog 69 #[v, .int .i64 0] w fun x w' => x = .returned (.bool b) ∧ w = w' := by
  go_enter Try.func69, Try.ntmps69
  go_wp2_with fail
  go_ret
  exact ⟨rfl, rfl⟩
set_option maxRecDepth 100000 in
theorem face_1 (v x : Value) (b : Bool) (h : ∀ w, (Instr.typeAssert v 20 157 true).run Try.prog w = .ok (.tuple #[x, .bool b]) w) (w : World) : Calls Try.prog 69 #[v, .int .i64 1] w fun x w' => x = .returned (.bool b) ∧ w = w' := by
  go_enter Try.func69, Try.ntmps69
  go_wp2_with fail
  go_ret
  exact ⟨rfl, rfl⟩
set_option maxRecDepth 100000 in
theorem face_2 (v x : Value) (b : Bool) (h : ∀ w, (Instr.typeAssert v 20 160 true).run Try.prog w = .ok (.tuple #[x, .bool b]) w) (w : World) : Calls Try.prog 69 #[v, .int .i64 2] w fun x w' => x = .returned (.bool b) ∧ w = w' := by
  go_enter Try.func69, Try.ntmps69
  go_wp2_with fail
  go_ret
  exact ⟨rfl, rfl⟩
set_option maxRecDepth 100000 in
theorem face_3 (v x : Value) (b : Bool) (h : ∀ w, (Instr.typeAssert v 20 163 true).run Try.prog w = .ok (.tuple #[x, .bool b]) w) (w : World) : Calls Try.prog 69 #[v, .int .i64 3] w fun x w' => x = .returned (.bool b) ∧ w = w' := by
  go_enter Try.func69, Try.ntmps69
  go_wp2_with fail
  go_ret
  exact ⟨rfl, rfl⟩
set_option maxRecDepth 100000 in
theorem face_4 (v x : Value) (b : Bool) (h : ∀ w, (Instr.typeAssert v 20 166 true).run Try.prog w = .ok (.tuple #[x, .bool b]) w) (w : World) : Calls Try.prog 69 #[v, .int .i64 4] w fun x w' => x = .returned (.bool b) ∧ w = w' := by
  go_enter Try.func69, Try.ntmps69
  go_wp2_with fail
  go_ret
  exact ⟨rfl, rfl⟩
set_option maxRecDepth 100000 in
theorem face_5 (v x : Value) (b : Bool) (h : ∀ w, (Instr.typeAssert v 20 169 true).run Try.prog w = .ok (.tuple #[x, .bool b]) w) (w : World) : Calls Try.prog 69 #[v, .int .i64 5] w fun x w' => x = .returned (.bool b) ∧ w = w' := by
  go_enter Try.func69, Try.ntmps69
  go_wp2_with fail
  go_ret
  exact ⟨rfl, rfl⟩
set_option maxRecDepth 100000 in
theorem face_6 (v x : Value) (b : Bool) (h : ∀ w, (Instr.typeAssert v 20 172 true).run Try.prog w = .ok (.tuple #[x, .bool b]) w) (w : World) : Calls Try.prog 69 #[v, .int .i64 6] w fun x w' => x = .returned (.bool b) ∧ w = w' := by
  go_enter Try.func69, Try.ntmps69
  go_wp2_with fail
  go_ret
  exact ⟨rfl, rfl⟩
set_option maxRecDepth 100000 in
theorem face_7 (v x : Value) (b : Bool) (h : ∀ w, (Instr.typeAssert v 20 175 true).run Try.prog w = .ok (.tuple #[x, .bool b]) w) (w : World) : Calls Try.prog 69 #[v, .int .i64 7] w fun x w' => x = .returned (.bool b) ∧ w = w' := by
  go_enter Try.func69, Try.ntmps69
  go_wp2_with fail
  go_ret
  exact ⟨rfl, rfl⟩
set_option maxRecDepth 100000 in
theorem face_8 (v x : Value) (b : Bool) (h : ∀ w, (Instr.typeAssert v 20 178 true).run Try.prog w = .ok (.tuple #[x, .bool b]) w) (w : World) : Calls Try.prog 69 #[v, .int .i64 8] w fun x w' => x = .returned (.bool b) ∧ w = w' := by
  go_enter Try.func69, Try.ntmps69
  go_wp2_with fail
  go_ret
  exact ⟨rfl, rfl⟩
set_option maxRecDepth 100000 in
theorem face_9 (v x : Value) (b : Bool) (h : ∀ w, (Instr.typeAssert v 20 181 true).run Try.prog w = .ok (.tuple #[x, .bool b]) w) (w : World) : Calls Try.prog 69 #[v, .int .i64 9] w fun x w' => x = .returned (.bool b) ∧ w = w' := by
  go_enter Try.func69, Try.ntmps69
  go_wp2_with fail
  go_ret
  exact ⟨rfl, rfl⟩
set_option maxRecDepth 100000 in
theorem face_no (v : Value) (f : Int) (h : ¬ (0 ≤ f ∧ f < 10)) (w : World) : Calls Try.prog 69 #[v, .int .i64 f] w fun x w' => x = .returned (.bool false) ∧ w = w' := by
  have h0 : (f == 0) = false := by simp; omega
  have h1 : (f == 1) = false := by simp; omega
  have h2 : (f == 2) = false := by simp; omega
  have h3 : (f == 3) = false := by simp; omega
  have h4 : (f == 4) = false := by simp; omega
  have h5 : (f == 5) = false := by simp; omega
  have h6 : (f == 6) = false := by simp; omega
  have h7 : (f == 7) = false := by simp; omega
  have h8 : (f == 8) = false := by simp; omega
  have h9 : (f == 9) = false := by simp; omega
  clear h
  go_enter Try.func69, Try.ntmps69
  go_wp2_with fail
  go_ret
  exact ⟨rfl, rfl⟩
theorem face_any (k : Nat) (hk : k ≤ 13) (v : Value) (hv : SampV k v) (f : Int) (w : World) : Calls Try.prog 69 #[v, .int .i64 f] w fun x w' => x = .returned (.bool (hasFi k f)) ∧ w = w' := by
  by_cases h : 0 ≤ f ∧ f < 10
  · have e : hasFi k f = hasF k f.toNat := by simp [hasFi, h]
    rw [e]
    obtain ⟨n, rfl⟩ : ∃ n : Nat, f = n := ⟨f.toNat, by omega⟩
    have hn : n < 10 := by omega
    rw [Int.toNat_natCast]
    clear h e
    match n, hn with
    | 0, _ => obtain ⟨x, hx⟩ := tf_0 k hk v hv; exact face_0 v x _ hx w
    | 1, _ => obtain ⟨x, hx⟩ := tf_1 k hk v hv; exact face_1 v x _ hx w
    | 2, _ => obtain ⟨x, hx⟩ := tf_2 k hk v hv; exact face_2 v x _ hx w
    | 3, _ => obtain ⟨x, hx⟩ := tf_3 k hk v hv; exact face_3 v x _ hx w
    | 4, _ => obtain ⟨x, hx⟩ := tf_4 k hk v hv; exact face_4 v x _ hx w
    | 5, _ => obtain ⟨x, hx⟩ := tf_5 k hk v hv; exact face_5 v x _ hx w
    | 6, _ => obtain ⟨x, hx⟩ := tf_6 k hk v hv; exact face_6 v x _ hx w
    | 7, _ => obtain ⟨x, hx⟩ := tf_7 k hk v hv; exact face_7 v x _ hx w
    | 8, _ => obtain ⟨x, hx⟩ := tf_8 k hk v hv; exact face_8 v x _ hx w
    | 9, _ => obtain ⟨x, hx⟩ := tf_9 k hk v hv; exact face_9 v x _ hx w
    | n + 10, h => omega
  · have e : hasFi k f = false := by
      unfold hasFi
      rw [decide_eq_false h]
      rfl
    rw [e]
    exact face_no v f h w
theorem method_0 (k : Nat) (hk : k ≤ 13) (v : Value) (hv : SampV k v) (w : World) : Calls Try.prog 67 #[v, .int .i64 0] w fun x w' => x = .returned (.bool (hasFi k 0)) ∧ Below w.heap.size w w' := by
  have HF := Lib.hid (fun w => face_any k hk v hv 0 w)
  clear hv
  go_enter Try.func67, Try.ntmps67
  go_wp2_with (go_at_call 69; refine (HF.out _).mono ?_; rintro e w' ⟨rfl, rfl⟩)
  go_ret
  exact ⟨rfl, by go_grown⟩
theorem method_1 (k : Nat) (hk : k ≤ 13) (v : Value) (hv : SampV k v) (w : World) : Calls Try.prog 67 #[v, .int .i64 1] w fun x w' => x = .returned (.bool (hasFi k 1)) ∧ Below w.heap.size w w' := by
  have HF := Lib.hid (fun w => face_any k hk v hv 1 w)
  clear hv
  go_enter Try.func67, Try.ntmps67
  go_wp2_with (go_at_call 69; refine (HF.out _).mono ?_; rintro e w' ⟨rfl, rfl⟩)
  go_ret
  exact ⟨rfl, by go_grown⟩
theorem method_2 (k : Nat) (hk : k ≤ 13) (v : Value) (hv : SampV k v) (w : World) : Calls Try.prog 67 #[v, .int .i64 2] w fun x w' => x = .returned (.bool (hasFi k 2)) ∧ Below w.heap.size w w' := by
  have HF := Lib.hid (fun w => face_any k hk v hv 2 w)
  clear hv
  go_enter Try.func67, Try.ntmps67
  go_wp2_with (go_at_call 69; refine (HF.out _).mono ?_; rintro e w' ⟨rfl, rfl⟩)
  go_ret
  exact ⟨rfl, by go_grown⟩
theorem method_3 (k : Nat) (hk : k ≤ 13) (v : Value) (hv : SampV k v) (w : World) : Calls Try.prog 67 #[v, .int .i64 3] w fun x w' => x = .returned (.bool (hasFi k 3)) ∧ Below w.heap.size w w' := by
  have HF := Lib.hid (fun w => face_any k hk v hv 3 w)
  clear hv
  go_enter Try.func67, Try.ntmps67
  go_wp2_with (go_at_call 69; refine (HF.out _).mono ?_; rintro e w' ⟨rfl, rfl⟩)
  go_ret
  exact ⟨rfl, by go_grown⟩
theorem method_4 (k : Nat) (hk : k ≤ 13) (v : Value) (hv : SampV k v) (w : World) : Calls Try.prog 67 #[v, .int .i64 4] w fun x w' => x = .returned (.bool (hasFi k 4)) ∧ Below w.heap.size w w' := by
  have HF := Lib.hid (fun w => face_any k hk v hv 4 w)
  clear hv
  go_enter Try.func67, Try.ntmps67
  go_wp2_with (go_at_call 69; refine (HF.out _).mono ?_; rintro e w' ⟨rfl, rfl⟩)
  go_ret
  exact ⟨rfl, by go_grown⟩
theorem method_5 (k : Nat) (hk : k ≤ 13) (v : Value) (hv : SampV k v) (w : World) : Calls Try.prog 67 #[v, .int .i64 5] w fun x w' => x = .returned (.bool (hasFi k 5)) ∧ Below w.heap.size w w' := by
  have HF := Lib.hid (fun w => face_any k hk v hv 5 w)
  clear hv
  go_enter Try.func67, Try.ntmps67
  go_wp2_with (go_at_call 69; refine (HF.out _).mono ?_; rintro e w' ⟨rfl, rfl⟩)
  go_ret
  exact ⟨rfl, by go_grown⟩
theorem method_any (k : Nat) (hk : k ≤ 13) (v : Value) (hv : SampV k v) (m : Nat) (hm : m < 6) (w : World) : Calls Try.prog 67 #[v, .int .i64 m] w fun x w' => x = .returned (.bool (hasM k m)) ∧ Below w.heap.size w w' := by
  match m, hm with
  | 0, _ =>
    have e : hasM k 0 = hasFi k 0 := by simp [hasFi, hasF, meths]
    rw [e]
    exact method_0 k hk v hv w
  | 1, _ =>
    have e : hasM k 1 = hasFi k 1 := by simp [hasFi, hasF, meths]
    rw [e]
    exact method_1 k hk v hv w
  | 2, _ =>
    have e : hasM k 2 = hasFi k 2 := by simp [hasFi, hasF, meths]
    rw [e]
    exact method_2 k hk v hv w
  | 3, _ =>
    have e : hasM k 3 = hasFi k 3 := by simp [hasFi, hasF, meths]
    rw [e]
    exact method_3 k hk v hv w
  | 4, _ =>
    have e : hasM k 4 = hasFi k 4 := by simp [hasFi, hasF, meths]
    rw [e]
    exact method_4 k hk v hv w
  | 5, _ =>
    have e : hasM k 5 = hasFi k 5 := by simp [hasFi, hasF, meths]
    rw [e]
    exact method_5 k hk v hv w
  | n + 6, h => omega
end Go.Proofs.Yteplhhlgceppkab
