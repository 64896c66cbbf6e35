/- Guard: contracts, joined texts (G15, G16, G12, Fr, G13). -/
import Derived.Stop.Asserts
import Derived.Defers
import Derived.Recover
import Derived.WalkKit
import Derived.Orders
import Derived.Deep.RegionWith
import Derived.Test.YtecdniimikfbhaaGreatDoorM02

/- Contracts of want's face and method: whatever the value, which interfaces its type has. -/
namespace Go.Proofs.YtecdniimikfbhaaGreatDoor
open Go Go.RowKit Go.ChangeShapes Go.WideShapes

/-- Has a kind a method? -/
def hasM (k : Nat) : Nat → Bool
  | 0 => k == 4 || k == 5 || k == 7 || k == 8 || k == 9 || k == 11 || k == 12
  | 1 => k == 2 || k == 5 || k == 10
  | 2 => k == 10 || k == 11 || k == 12
  | 3 => k == 11 || k == 12
  | 4 => k == 1 || k == 2 || k == 3 || k == 4 || k == 5
  | 5 => k == 1 || k == 3
  | _ => false
/-- The methods of an interface. -/
def meths : Nat → List Nat
  | 0 => [0]
  | 1 => [1]
  | 2 => [2]
  | 3 => [3]
  | 4 => [4]
  | 5 => [5]
  | 6 => [0, 1]
  | 7 => [0, 4]
  | 8 => [4, 5]
  | 9 => [0, 1, 4]
  | _ => []
/-- Has a kind an interface? -/
def hasF (k f : Nat) : Bool := decide (f < 10) && (meths f).all (hasM k)
def hasFi (k : Nat) (f : Int) : Bool := decide (0 ≤ f ∧ f < 10) && hasF k f.toNat
theorem tf1_0 (v : Value) (w : World) : (Instr.typeAssert (.iface 164 v) 20 135 true).run Tryz.prog w = .ok (.tuple #[.nilIface, .bool false]) w := run_typeAssert_lacksB Tryz.underlying135 (by kernel_rfl) (by kernel_rfl) v _ w
theorem tf2_0 (v : Value) (w : World) : (Instr.typeAssert (.iface 165 v) 20 135 true).run Tryz.prog w = .ok (.tuple #[.nilIface, .bool false]) w := run_typeAssert_lacksB Tryz.underlying135 (by kernel_rfl) (by kernel_rfl) v _ w
theorem tf3_0 (v : Value) (w : World) : (Instr.typeAssert (.iface 166 v) 20 135 true).run Tryz.prog w = .ok (.tuple #[.nilIface, .bool false]) w := run_typeAssert_lacksB Tryz.underlying135 (by kernel_rfl) (by kernel_rfl) v _ w
theorem tf4_0 (v : Value) (w : World) : (Instr.typeAssert (.iface 167 v) 20 135 true).run Tryz.prog w = .ok (.tuple #[.iface 167 v, .bool true]) w := by kernel_rfl
theorem tf5_0 (v : Value) (w : World) : (Instr.typeAssert (.iface 168 v) 20 135 true).run Tryz.prog w = .ok (.tuple #[.iface 168 v, .bool true]) w := by kernel_rfl
theorem tf6_0 (v : Value) (w : World) : (Instr.typeAssert (.iface 169 v) 20 135 true).run Tryz.prog w = .ok (.tuple #[.nilIface, .bool false]) w := run_typeAssert_lacksB Tryz.underlying135 (by kernel_rfl) (by kernel_rfl) v _ w
theorem tf7_0 (v : Value) (w : World) : (Instr.typeAssert (.iface 170 v) 20 135 true).run Tryz.prog w = .ok (.tuple #[.iface 170 v, .bool true]) w := by kernel_rfl
theorem tf8_0 (v : Value) (w : World) : (Instr.typeAssert (.iface 171 v) 20 135 true).run Tryz.prog w = .ok (.tuple #[.iface 171 v, .bool true]) w := by kernel_rfl
theorem tf9_0 (v : Value) (w : World) : (Instr.typeAssert (.iface 173 v) 20 135 true).run Tryz.prog w = .ok (.tuple #[.iface 173 v, .bool true]) w := by kernel_rfl
theorem tf10_0 (v : Value) (w : World) : (Instr.typeAssert (.iface 175 v) 20 135 true).run Tryz.prog w = .ok (.tuple #[.nilIface, .bool false]) w := run_typeAssert_lacksB Tryz.underlying135 (by kernel_rfl) (by kernel_rfl) v _ w
theorem tf11_0 (v : Value) (w : World) : (Instr.typeAssert (.iface 176 v) 20 135 true).run Tryz.prog w = .ok (.tuple #[.iface 176 v, .bool true]) w := by kernel_rfl
theorem tf13_0 (v : Value) (w : World) : (Instr.typeAssert (.iface 179 v) 20 135 true).run Tryz.prog w = .ok (.tuple #[.nilIface, .bool false]) w := run_typeAssert_lacksB Tryz.underlying135 (by kernel_rfl) (by kernel_rfl) v _ w
theorem tf0_0 (w : World) : (Instr.typeAssert .nilIface 20 135 true).run Tryz.prog w = .ok (.tuple #[.nilIface, .bool false]) w := by kernel_rfl
theorem tf_0 (k : Nat) (hk : k ≤ 13) (v : Value) (hv : SampV k v) : ∃ x, ∀ w, (Instr.typeAssert v 20 135 true).run Tryz.prog w = .ok (.tuple #[x, .bool (hasF k 0)]) w := by
  rcases hv with ⟨rfl, rfl⟩ | ⟨h1, u, rfl⟩
  · exact ⟨_, fun w => tf0_0 w⟩
  · match k, hk, h1 with
    | 1, _, _ => exact ⟨_, fun w => tf1_0 u w⟩
    | 2, _, _ => exact ⟨_, fun w => tf2_0 u w⟩
    | 3, _, _ => exact ⟨_, fun w => tf3_0 u w⟩
    | 4, _, _ => exact ⟨_, fun w => tf4_0 u w⟩
    | 5, _, _ => exact ⟨_, fun w => tf5_0 u w⟩
    | 6, _, _ => exact ⟨_, fun w => tf6_0 u w⟩
    | 7, _, _ => exact ⟨_, fun w => tf7_0 u w⟩
    | 8, _, _ => exact ⟨_, fun w => tf8_0 u w⟩
    | 9, _, _ => exact ⟨_, fun w => tf9_0 u w⟩
    | 10, _, _ => exact ⟨_, fun w => tf10_0 u w⟩
    | 11, _, _ => exact ⟨_, fun w => tf11_0 u w⟩
    | 12, _, _ => exact ⟨_, fun w => tf11_0 u w⟩
    | 13, _, _ => exact ⟨_, fun w => tf13_0 u w⟩
    | n + 14, h, _ => omega
theorem tf1_1 (v : Value) (w : World) : (Instr.typeAssert (.iface 164 v) 20 138 true).run Tryz.prog w = .ok (.tuple #[.nilIface, .bool false]) w := run_typeAssert_lacksB Tryz.underlying138 (by kernel_rfl) (by kernel_rfl) v _ w
theorem tf2_1 (v : Value) (w : World) : (Instr.typeAssert (.iface 165 v) 20 138 true).run Tryz.prog w = .ok (.tuple #[.iface 165 v, .bool true]) w := by kernel_rfl
theorem tf3_1 (v : Value) (w : World) : (Instr.typeAssert (.iface 166 v) 20 138 true).run Tryz.prog w = .ok (.tuple #[.nilIface, .bool false]) w := run_typeAssert_lacksB Tryz.underlying138 (by kernel_rfl) (by kernel_rfl) v _ w
theorem tf4_1 (v : Value) (w : World) : (Instr.typeAssert (.iface 167 v) 20 138 true).run Tryz.prog w = .ok (.tuple #[.nilIface, .bool false]) w := run_typeAssert_lacksB Tryz.underlying138 (by kernel_rfl) (by kernel_rfl) v _ w
theorem tf5_1 (v : Value) (w : World) : (Instr.typeAssert (.iface 168 v) 20 138 true).run Tryz.prog w = .ok (.tuple #[.iface 168 v, .bool true]) w := by kernel_rfl
theorem tf6_1 (v : Value) (w : World) : (Instr.typeAssert (.iface 169 v) 20 138 true).run Tryz.prog w = .ok (.tuple #[.nilIface, .bool false]) w := run_typeAssert_lacksB Tryz.underlying138 (by kernel_rfl) (by kernel_rfl) v _ w
theorem tf7_1 (v : Value) (w : World) : (Instr.typeAssert (.iface 170 v) 20 138 true).run Tryz.prog w = .ok (.tuple #[.nilIface, .bool false]) w := run_typeAssert_lacksB Tryz.underlying138 (by kernel_rfl) (by kernel_rfl) v _ w
theorem tf8_1 (v : Value) (w : World) : (Instr.typeAssert (.iface 171 v) 20 138 true).run Tryz.prog w = .ok (.tuple #[.nilIface, .bool false]) w := run_typeAssert_lacksB Tryz.underlying138 (by kernel_rfl) (by kernel_rfl) v _ w
theorem tf9_1 (v : Value) (w : World) : (Instr.typeAssert (.iface 173 v) 20 138 true).run Tryz.prog w = .ok (.tuple #[.nilIface, .bool false]) w := run_typeAssert_lacksB Tryz.underlying138 (by kernel_rfl) (by kernel_rfl) v _ w
theorem tf10_1 (v : Value) (w : World) : (Instr.typeAssert (.iface 175 v) 20 138 true).run Tryz.prog w = .ok (.tuple #[.iface 175 v, .bool true]) w := by kernel_rfl
theorem tf11_1 (v : Value) (w : World) : (Instr.typeAssert (.iface 176 v) 20 138 true).run Tryz.prog w = .ok (.tuple #[.nilIface, .bool false]) w := run_typeAssert_lacksB Tryz.underlying138 (by kernel_rfl) (by kernel_rfl) v _ w
theorem tf13_1 (v : Value) (w : World) : (Instr.typeAssert (.iface 179 v) 20 138 true).run Tryz.prog w = .ok (.tuple #[.nilIface, .bool false]) w := run_typeAssert_lacksB Tryz.underlying138 (by kernel_rfl) (by kernel_rfl) v _ w
theorem tf0_1 (w : World) : (Instr.typeAssert .nilIface 20 138 true).run Tryz.prog w = .ok (.tuple #[.nilIface, .bool false]) w := by kernel_rfl
theorem tf_1 (k : Nat) (hk : k ≤ 13) (v : Value) (hv : SampV k v) : ∃ x, ∀ w, (Instr.typeAssert v 20 138 true).run Tryz.prog w = .ok (.tuple #[x, .bool (hasF k 1)]) w := by
  rcases hv with ⟨rfl, rfl⟩ | ⟨h1, u, rfl⟩
  · exact ⟨_, fun w => tf0_1 w⟩
  · match k, hk, h1 with
    | 1, _, _ => exact ⟨_, fun w => tf1_1 u w⟩
    | 2, _, _ => exact ⟨_, fun w => tf2_1 u w⟩
    | 3, _, _ => exact ⟨_, fun w => tf3_1 u w⟩
    | 4, _, _ => exact ⟨_, fun w => tf4_1 u w⟩
    | 5, _, _ => exact ⟨_, fun w => tf5_1 u w⟩
    | 6, _, _ => exact ⟨_, fun w => tf6_1 u w⟩
    | 7, _, _ => exact ⟨_, fun w => tf7_1 u w⟩
    | 8, _, _ => exact ⟨_, fun w => tf8_1 u w⟩
    | 9, _, _ => exact ⟨_, fun w => tf9_1 u w⟩
    | 10, _, _ => exact ⟨_, fun w => tf10_1 u w⟩
    | 11, _, _ => exact ⟨_, fun w => tf11_1 u w⟩
    | 12, _, _ => exact ⟨_, fun w => tf11_1 u w⟩
    | 13, _, _ => exact ⟨_, fun w => tf13_1 u w⟩
    | n + 14, h, _ => omega
theorem tf1_2 (v : Value) (w : World) : (Instr.typeAssert (.iface 164 v) 20 141 true).run Tryz.prog w = .ok (.tuple #[.nilIface, .bool false]) w := run_typeAssert_lacksB Tryz.underlying141 (by kernel_rfl) (by kernel_rfl) v _ w
theorem tf2_2 (v : Value) (w : World) : (Instr.typeAssert (.iface 165 v) 20 141 true).run Tryz.prog w = .ok (.tuple #[.nilIface, .bool false]) w := run_typeAssert_lacksB Tryz.underlying141 (by kernel_rfl) (by kernel_rfl) v _ w
theorem tf3_2 (v : Value) (w : World) : (Instr.typeAssert (.iface 166 v) 20 141 true).run Tryz.prog w = .ok (.tuple #[.nilIface, .bool false]) w := run_typeAssert_lacksB Tryz.underlying141 (by kernel_rfl) (by kernel_rfl) v _ w
theorem tf4_2 (v : Value) (w : World) : (Instr.typeAssert (.iface 167 v) 20 141 true).run Tryz.prog w = .ok (.tuple #[.nilIface, .bool false]) w := run_typeAssert_lacksB Tryz.underlying141 (by kernel_rfl) (by kernel_rfl) v _ w
theorem tf5_2 (v : Value) (w : World) : (Instr.typeAssert (.iface 168 v) 20 141 true).run Tryz.prog w = .ok (.tuple #[.nilIface, .bool false]) w := run_typeAssert_lacksB Tryz.underlying141 (by kernel_rfl) (by kernel_rfl) v _ w
theorem tf6_2 (v : Value) (w : World) : (Instr.typeAssert (.iface 169 v) 20 141 true).run Tryz.prog w = .ok (.tuple #[.nilIface, .bool false]) w := run_typeAssert_lacksB Tryz.underlying141 (by kernel_rfl) (by kernel_rfl) v _ w
theorem tf7_2 (v : Value) (w : World) : (Instr.typeAssert (.iface 170 v) 20 141 true).run Tryz.prog w = .ok (.tuple #[.nilIface, .bool false]) w := run_typeAssert_lacksB Tryz.underlying141 (by kernel_rfl) (by kernel_rfl) v _ w
theorem tf8_2 (v : Value) (w : World) : (Instr.typeAssert (.iface 171 v) 20 141 true).run Tryz.prog w = .ok (.tuple #[.nilIface, .bool false]) w := run_typeAssert_lacksB Tryz.underlying141 (by kernel_rfl) (by kernel_rfl) v _ w
theorem tf9_2 (v : Value) (w : World) : (Instr.typeAssert (.iface 173 v) 20 141 true).run Tryz.prog w = .ok (.tuple #[.nilIface, .bool false]) w := run_typeAssert_lacksB Tryz.underlying141 (by kernel_rfl) (by kernel_rfl) v _ w
theorem tf10_2 (v : Value) (w : World) : (Instr.typeAssert (.iface 175 v) 20 141 true).run Tryz.prog w = .ok (.tuple #[.iface 175 v, .bool true]) w := by kernel_rfl
theorem tf11_2 (v : Value) (w : World) : (Instr.typeAssert (.iface 176 v) 20 141 true).run Tryz.prog w = .ok (.tuple #[.iface 176 v, .bool true]) w := by kernel_rfl
theorem tf13_2 (v : Value) (w : World) : (Instr.typeAssert (.iface 179 v) 20 141 true).run Tryz.prog w = .ok (.tuple #[.nilIface, .bool false]) w := run_typeAssert_lacksB Tryz.underlying141 (by kernel_rfl) (by kernel_rfl) v _ w
theorem tf0_2 (w : World) : (Instr.typeAssert .nilIface 20 141 true).run Tryz.prog w = .ok (.tuple #[.nilIface, .bool false]) w := by kernel_rfl
theorem tf_2 (k : Nat) (hk : k ≤ 13) (v : Value) (hv : SampV k v) : ∃ x, ∀ w, (Instr.typeAssert v 20 141 true).run Tryz.prog w = .ok (.tuple #[x, .bool (hasF k 2)]) w := by
  rcases hv with ⟨rfl, rfl⟩ | ⟨h1, u, rfl⟩
  · exact ⟨_, fun w => tf0_2 w⟩
  · match k, hk, h1 with
    | 1, _, _ => exact ⟨_, fun w => tf1_2 u w⟩
    | 2, _, _ => exact ⟨_, fun w => tf2_2 u w⟩
    | 3, _, _ => exact ⟨_, fun w => tf3_2 u w⟩
    | 4, _, _ => exact ⟨_, fun w => tf4_2 u w⟩
    | 5, _, _ => exact ⟨_, fun w => tf5_2 u w⟩
    | 6, _, _ => exact ⟨_, fun w => tf6_2 u w⟩
    | 7, _, _ => exact ⟨_, fun w => tf7_2 u w⟩
    | 8, _, _ => exact ⟨_, fun w => tf8_2 u w⟩
    | 9, _, _ => exact ⟨_, fun w => tf9_2 u w⟩
    | 10, _, _ => exact ⟨_, fun w => tf10_2 u w⟩
    | 11, _, _ => exact ⟨_, fun w => tf11_2 u w⟩
    | 12, _, _ => exact ⟨_, fun w => tf11_2 u w⟩
    | 13, _, _ => exact ⟨_, fun w => tf13_2 u w⟩
    | n + 14, h, _ => omega
theorem tf1_3 (v : Value) (w : World) : (Instr.typeAssert (.iface 164 v) 20 144 true).run Tryz.prog w = .ok (.tuple #[.nilIface, .bool false]) w := run_typeAssert_lacksB Tryz.underlying144 (by kernel_rfl) (by kernel_rfl) v _ w
theorem tf2_3 (v : Value) (w : World) : (Instr.typeAssert (.iface 165 v) 20 144 true).run Tryz.prog w = .ok (.tuple #[.nilIface, .bool false]) w := run_typeAssert_lacksB Tryz.underlying144 (by kernel_rfl) (by kernel_rfl) v _ w
theorem tf3_3 (v : Value) (w : World) : (Instr.typeAssert (.iface 166 v) 20 144 true).run Tryz.prog w = .ok (.tuple #[.nilIface, .bool false]) w := run_typeAssert_lacksB Tryz.underlying144 (by kernel_rfl) (by kernel_rfl) v _ w
theorem tf4_3 (v : Value) (w : World) : (Instr.typeAssert (.iface 167 v) 20 144 true).run Tryz.prog w = .ok (.tuple #[.nilIface, .bool false]) w := run_typeAssert_lacksB Tryz.underlying144 (by kernel_rfl) (by kernel_rfl) v _ w
theorem tf5_3 (v : Value) (w : World) : (Instr.typeAssert (.iface 168 v) 20 144 true).run Tryz.prog w = .ok (.tuple #[.nilIface, .bool false]) w := run_typeAssert_lacksB Tryz.underlying144 (by kernel_rfl) (by kernel_rfl) v _ w
theorem tf6_3 (v : Value) (w : World) : (Instr.typeAssert (.iface 169 v) 20 144 true).run Tryz.prog w = .ok (.tuple #[.nilIface, .bool false]) w := run_typeAssert_lacksB Tryz.underlying144 (by kernel_rfl) (by kernel_rfl) v _ w
theorem tf7_3 (v : Value) (w : World) : (Instr.typeAssert (.iface 170 v) 20 144 true).run Tryz.prog w = .ok (.tuple #[.nilIface, .bool false]) w := run_typeAssert_lacksB Tryz.underlying144 (by kernel_rfl) (by kernel_rfl) v _ w
theorem tf8_3 (v : Value) (w : World) : (Instr.typeAssert (.iface 171 v) 20 144 true).run Tryz.prog w = .ok (.tuple #[.nilIface, .bool false]) w := run_typeAssert_lacksB Tryz.underlying144 (by kernel_rfl) (by kernel_rfl) v _ w
theorem tf9_3 (v : Value) (w : World) : (Instr.typeAssert (.iface 173 v) 20 144 true).run Tryz.prog w = .ok (.tuple #[.nilIface, .bool false]) w := run_typeAssert_lacksB Tryz.underlying144 (by kernel_rfl) (by kernel_rfl) v _ w
theorem tf10_3 (v : Value) (w : World) : (Instr.typeAssert (.iface 175 v) 20 144 true).run Tryz.prog w = .ok (.tuple #[.nilIface, .bool false]) w := run_typeAssert_lacksB Tryz.underlying144 (by kernel_rfl) (by kernel_rfl) v _ w
theorem tf11_3 (v : Value) (w : World) : (Instr.typeAssert (.iface 176 v) 20 144 true).run Tryz.prog w = .ok (.tuple #[.iface 176 v, .bool true]) w := by kernel_rfl
theorem tf13_3 (v : Value) (w : World) : (Instr.typeAssert (.iface 179 v) 20 144 true).run Tryz.prog w = .ok (.tuple #[.nilIface, .bool false]) w := run_typeAssert_lacksB Tryz.underlying144 (by kernel_rfl) (by kernel_rfl) v _ w
theorem tf0_3 (w : World) : (Instr.typeAssert .nilIface 20 144 true).run Tryz.prog w = .ok (.tuple #[.nilIface, .bool false]) w := by kernel_rfl
theorem tf_3 (k : Nat) (hk : k ≤ 13) (v : Value) (hv : SampV k v) : ∃ x, ∀ w, (Instr.typeAssert v 20 144 true).run Tryz.prog w = .ok (.tuple #[x, .bool (hasF k 3)]) w := by
  rcases hv with ⟨rfl, rfl⟩ | ⟨h1, u, rfl⟩
  · exact ⟨_, fun w => tf0_3 w⟩
  · match k, hk, h1 with
    | 1, _, _ => exact ⟨_, fun w => tf1_3 u w⟩
    | 2, _, _ => exact ⟨_, fun w => tf2_3 u w⟩
    | 3, _, _ => exact ⟨_, fun w => tf3_3 u w⟩
    | 4, _, _ => exact ⟨_, fun w => tf4_3 u w⟩
    | 5, _, _ => exact ⟨_, fun w => tf5_3 u w⟩
    | 6, _, _ => exact ⟨_, fun w => tf6_3 u w⟩
    | 7, _, _ => exact ⟨_, fun w => tf7_3 u w⟩
    | 8, _, _ => exact ⟨_, fun w => tf8_3 u w⟩
    | 9, _, _ => exact ⟨_, fun w => tf9_3 u w⟩
    | 10, _, _ => exact ⟨_, fun w => tf10_3 u w⟩
    | 11, _, _ => exact ⟨_, fun w => tf11_3 u w⟩
    | 12, _, _ => exact ⟨_, fun w => tf11_3 u w⟩
    | 13, _, _ => exact ⟨_, fun w => tf13_3 u w⟩
    | n + 14, h, _ => omega
theorem tf1_4 (v : Value) (w : World) : (Instr.typeAssert (.iface 164 v) 20 147 true).run Tryz.prog w = .ok (.tuple #[.iface 164 v, .bool true]) w := by kernel_rfl
theorem tf2_4 (v : Value) (w : World) : (Instr.typeAssert (.iface 165 v) 20 147 true).run Tryz.prog w = .ok (.tuple #[.iface 165 v, .bool true]) w := by kernel_rfl
theorem tf3_4 (v : Value) (w : World) : (Instr.typeAssert (.iface 166 v) 20 147 true).run Tryz.prog w = .ok (.tuple #[.iface 166 v, .bool true]) w := by kernel_rfl
theorem tf4_4 (v : Value) (w : World) : (Instr.typeAssert (.iface 167 v) 20 147 true).run Tryz.prog w = .ok (.tuple #[.iface 167 v, .bool true]) w := by kernel_rfl
theorem tf5_4 (v : Value) (w : World) : (Instr.typeAssert (.iface 168 v) 20 147 true).run Tryz.prog w = .ok (.tuple #[.iface 168 v, .bool true]) w := by kernel_rfl
theorem tf6_4 (v : Value) (w : World) : (Instr.typeAssert (.iface 169 v) 20 147 true).run Tryz.prog w = .ok (.tuple #[.nilIface, .bool false]) w := run_typeAssert_lacksB Tryz.underlying147 (by kernel_rfl) (by kernel_rfl) v _ w
theorem tf7_4 (v : Value) (w : World) : (Instr.typeAssert (.iface 170 v) 20 147 true).run Tryz.prog w = .ok (.tuple #[.nilIface, .bool false]) w := run_typeAssert_lacksB Tryz.underlying147 (by kernel_rfl) (by kernel_rfl) v _ w
theorem tf8_4 (v : Value) (w : World) : (Instr.typeAssert (.iface 171 v) 20 147 true).run Tryz.prog w = .ok (.tuple #[.nilIface, .bool false]) w := run_typeAssert_lacksB Tryz.underlying147 (by kernel_rfl) (by kernel_rfl) v _ w
theorem tf9_4 (v : Value) (w : World) : (Instr.typeAssert (.iface 173 v) 20 147 true).run Tryz.prog w = .ok (.tuple #[.nilIface, .bool false]) w := run_typeAssert_lacksB Tryz.underlying147 (by kernel_rfl) (by kernel_rfl) v _ w
theorem tf10_4 (v : Value) (w : World) : (Instr.typeAssert (.iface 175 v) 20 147 true).run Tryz.prog w = .ok (.tuple #[.nilIface, .bool false]) w := run_typeAssert_lacksB Tryz.underlying147 (by kernel_rfl) (by kernel_rfl) v _ w
theorem tf11_4 (v : Value) (w : World) : (Instr.typeAssert (.iface 176 v) 20 147 true).run Tryz.prog w = .ok (.tuple #[.nilIface, .bool false]) w := run_typeAssert_lacksB Tryz.underlying147 (by kernel_rfl) (by kernel_rfl) v _ w
theorem tf13_4 (v : Value) (w : World) : (Instr.typeAssert (.iface 179 v) 20 147 true).run Tryz.prog w = .ok (.tuple #[.nilIface, .bool false]) w := run_typeAssert_lacksB Tryz.underlying147 (by kernel_rfl) (by kernel_rfl) v _ w
theorem tf0_4 (w : World) : (Instr.typeAssert .nilIface 20 147 true).run Tryz.prog w = .ok (.tuple #[.nilIface, .bool false]) w := by kernel_rfl
theorem tf_4 (k : Nat) (hk : k ≤ 13) (v : Value) (hv : SampV k v) : ∃ x, ∀ w, (Instr.typeAssert v 20 147 true).run Tryz.prog w = .ok (.tuple #[x, .bool (hasF k 4)]) w := by
  rcases hv with ⟨rfl, rfl⟩ | ⟨h1, u, rfl⟩
  · exact ⟨_, fun w => tf0_4 w⟩
  · match k, hk, h1 with
    | 1, _, _ => exact ⟨_, fun w => tf1_4 u w⟩
    | 2, _, _ => exact ⟨_, fun w => tf2_4 u w⟩
    | 3, _, _ => exact ⟨_, fun w => tf3_4 u w⟩
    | 4, _, _ => exact ⟨_, fun w => tf4_4 u w⟩
    | 5, _, _ => exact ⟨_, fun w => tf5_4 u w⟩
    | 6, _, _ => exact ⟨_, fun w => tf6_4 u w⟩
    | 7, _, _ => exact ⟨_, fun w => tf7_4 u w⟩
    | 8, _, _ => exact ⟨_, fun w => tf8_4 u w⟩
    | 9, _, _ => exact ⟨_, fun w => tf9_4 u w⟩
    | 10, _, _ => exact ⟨_, fun w => tf10_4 u w⟩
    | 11, _, _ => exact ⟨_, fun w => tf11_4 u w⟩
    | 12, _, _ => exact ⟨_, fun w => tf11_4 u w⟩
    | 13, _, _ => exact ⟨_, fun w => tf13_4 u w⟩
    | n + 14, h, _ => omega
theorem tf1_5 (v : Value) (w : World) : (Instr.typeAssert (.iface 164 v) 20 150 true).run Tryz.prog w = .ok (.tuple #[.iface 164 v, .bool true]) w := by kernel_rfl
theorem tf2_5 (v : Value) (w : World) : (Instr.typeAssert (.iface 165 v) 20 150 true).run Tryz.prog w = .ok (.tuple #[.nilIface, .bool false]) w := run_typeAssert_lacksB Tryz.underlying150 (by kernel_rfl) (by kernel_rfl) v _ w
theorem tf3_5 (v : Value) (w : World) : (Instr.typeAssert (.iface 166 v) 20 150 true).run Tryz.prog w = .ok (.tuple #[.iface 166 v, .bool true]) w := by kernel_rfl
theorem tf4_5 (v : Value) (w : World) : (Instr.typeAssert (.iface 167 v) 20 150 true).run Tryz.prog w = .ok (.tuple #[.nilIface, .bool false]) w := run_typeAssert_lacksB Tryz.underlying150 (by kernel_rfl) (by kernel_rfl) v _ w
theorem tf5_5 (v : Value) (w : World) : (Instr.typeAssert (.iface 168 v) 20 150 true).run Tryz.prog w = .ok (.tuple #[.nilIface, .bool false]) w := run_typeAssert_lacksB Tryz.underlying150 (by kernel_rfl) (by kernel_rfl) v _ w
theorem tf6_5 (v : Value) (w : World) : (Instr.typeAssert (.iface 169 v) 20 150 true).run Tryz.prog w = .ok (.tuple #[.nilIface, .bool false]) w := run_typeAssert_lacksB Tryz.underlying150 (by kernel_rfl) (by kernel_rfl) v _ w
theorem tf7_5 (v : Value) (w : World) : (Instr.typeAssert (.iface 170 v) 20 150 true).run Tryz.prog w = .ok (.tuple #[.nilIface, .bool false]) w := run_typeAssert_lacksB Tryz.underlying150 (by kernel_rfl) (by kernel_rfl) v _ w
theorem tf8_5 (v : Value) (w : World) : (Instr.typeAssert (.iface 171 v) 20 150 true).run Tryz.prog w = .ok (.tuple #[.nilIface, .bool false]) w := run_typeAssert_lacksB Tryz.underlying150 (by kernel_rfl) (by kernel_rfl) v _ w
theorem tf9_5 (v : Value) (w : World) : (Instr.typeAssert (.iface 173 v) 20 150 true).run Tryz.prog w = .ok (.tuple #[.nilIface, .bool false]) w := run_typeAssert_lacksB Tryz.underlying150 (by kernel_rfl) (by kernel_rfl) v _ w
theorem tf10_5 (v : Value) (w : World) : (Instr.typeAssert (.iface 175 v) 20 150 true).run Tryz.prog w = .ok (.tuple #[.nilIface, .bool false]) w := run_typeAssert_lacksB Tryz.underlying150 (by kernel_rfl) (by kernel_rfl) v _ w
theorem tf11_5 (v : Value) (w : World) : (Instr.typeAssert (.iface 176 v) 20 150 true).run Tryz.prog w = .ok (.tuple #[.nilIface, .bool false]) w := run_typeAssert_lacksB Tryz.underlying150 (by kernel_rfl) (by kernel_rfl) v _ w
theorem tf13_5 (v : Value) (w : World) : (Instr.typeAssert (.iface 179 v) 20 150 true).run Tryz.prog w = .ok (.tuple #[.nilIface, .bool false]) w := run_typeAssert_lacksB Tryz.underlying150 (by kernel_rfl) (by kernel_rfl) v _ w
theorem tf0_5 (w : World) : (Instr.typeAssert .nilIface 20 150 true).run Tryz.prog w = .ok (.tuple #[.nilIface, .bool false]) w := by kernel_rfl
theorem tf_5 (k : Nat) (hk : k ≤ 13) (v : Value) (hv : SampV k v) : ∃ x, ∀ w, (Instr.typeAssert v 20 150 true).run Tryz.prog w = .ok (.tuple #[x, .bool (hasF k 5)]) w := by
  rcases hv with ⟨rfl, rfl⟩ | ⟨h1, u, rfl⟩
  · exact ⟨_, fun w => tf0_5 w⟩
  · match k, hk, h1 with
    | 1, _, _ => exact ⟨_, fun w => tf1_5 u w⟩
    | 2, _, _ => exact ⟨_, fun w => tf2_5 u w⟩
    | 3, _, _ => exact ⟨_, fun w => tf3_5 u w⟩
    | 4, _, _ => exact ⟨_, fun w => tf4_5 u w⟩
    | 5, _, _ => exact ⟨_, fun w => tf5_5 u w⟩
    | 6, _, _ => exact ⟨_, fun w => tf6_5 u w⟩
    | 7, _, _ => exact ⟨_, fun w => tf7_5 u w⟩
    | 8, _, _ => exact ⟨_, fun w => tf8_5 u w⟩
    | 9, _, _ => exact ⟨_, fun w => tf9_5 u w⟩
    | 10, _, _ => exact ⟨_, fun w => tf10_5 u w⟩
    | 11, _, _ => exact ⟨_, fun w => tf11_5 u w⟩
    | 12, _, _ => exact ⟨_, fun w => tf11_5 u w⟩
    | 13, _, _ => exact ⟨_, fun w => tf13_5 u w⟩
    | n + 14, h, _ => omega
theorem tf1_6 (v : Value) (w : World) : (Instr.typeAssert (.iface 164 v) 20 153 true).run Tryz.prog w = .ok (.tuple #[.nilIface, .bool false]) w := run_typeAssert_lacksB Tryz.underlying153 (by kernel_rfl) (by kernel_rfl) v _ w
theorem tf2_6 (v : Value) (w : World) : (Instr.typeAssert (.iface 165 v) 20 153 true).run Tryz.prog w = .ok (.tuple #[.nilIface, .bool false]) w := run_typeAssert_lacksB Tryz.underlying153 (by kernel_rfl) (by kernel_rfl) v _ w
theorem tf3_6 (v : Value) (w : World) : (Instr.typeAssert (.iface 166 v) 20 153 true).run Tryz.prog w = .ok (.tuple #[.nilIface, .bool false]) w := run_typeAssert_lacksB Tryz.underlying153 (by kernel_rfl) (by kernel_rfl) v _ w
theorem tf4_6 (v : Value) (w : World) : (Instr.typeAssert (.iface 167 v) 20 153 true).run Tryz.prog w = .ok (.tuple #[.nilIface, .bool false]) w := run_typeAssert_lacksB Tryz.underlying153 (by kernel_rfl) (by kernel_rfl) v _ w
theorem tf5_6 (v : Value) (w : World) : (Instr.typeAssert (.iface 168 v) 20 153 true).run Tryz.prog w = .ok (.tuple #[.iface 168 v, .bool true]) w := by kernel_rfl
theorem tf6_6 (v : Value) (w : World) : (Instr.typeAssert (.iface 169 v) 20 153 true).run Tryz.prog w = .ok (.tuple #[.nilIface, .bool false]) w := run_typeAssert_lacksB Tryz.underlying153 (by kernel_rfl) (by kernel_rfl) v _ w
theorem tf7_6 (v : Value) (w : World) : (Instr.typeAssert (.iface 170 v) 20 153 true).run Tryz.prog w = .ok (.tuple #[.nilIface, .bool false]) w := run_typeAssert_lacksB Tryz.underlying153 (by kernel_rfl) (by kernel_rfl) v _ w
theorem tf8_6 (v : Value) (w : World) : (Instr.typeAssert (.iface 171 v) 20 153 true).run Tryz.prog w = .ok (.tuple #[.nilIface, .bool false]) w := run_typeAssert_lacksB Tryz.underlying153 (by kernel_rfl) (by kernel_rfl) v _ w
theorem tf9_6 (v : Value) (w : World) : (Instr.typeAssert (.iface 173 v) 20 153 true).run Tryz.prog w = .ok (.tuple #[.nilIface, .bool false]) w := run_typeAssert_lacksB Tryz.underlying153 (by kernel_rfl) (by kernel_rfl) v _ w
theorem tf10_6 (v : Value) (w : World) : (Instr.typeAssert (.iface 175 v) 20 153 true).run Tryz.prog w = .ok (.tuple #[.nilIface, .bool false]) w := run_typeAssert_lacksB Tryz.underlying153 (by kernel_rfl) (by kernel_rfl) v _ w
theorem tf11_6 (v : Value) (w : World) : (Instr.typeAssert (.iface 176 v) 20 153 true).run Tryz.prog w = .ok (.tuple #[.nilIface, .bool false]) w := run_typeAssert_lacksB Tryz.underlying153 (by kernel_rfl) (by kernel_rfl) v _ w
theorem tf13_6 (v : Value) (w : World) : (Instr.typeAssert (.iface 179 v) 20 153 true).run Tryz.prog w = .ok (.tuple #[.nilIface, .bool false]) w := run_typeAssert_lacksB Tryz.underlying153 (by kernel_rfl) (by kernel_rfl) v _ w
theorem tf0_6 (w : World) : (Instr.typeAssert .nilIface 20 153 true).run Tryz.prog w = .ok (.tuple #[.nilIface, .bool false]) w := by kernel_rfl
theorem tf_6 (k : Nat) (hk : k ≤ 13) (v : Value) (hv : SampV k v) : ∃ x, ∀ w, (Instr.typeAssert v 20 153 true).run Tryz.prog w = .ok (.tuple #[x, .bool (hasF k 6)]) w := by
  rcases hv with ⟨rfl, rfl⟩ | ⟨h1, u, rfl⟩
  · exact ⟨_, fun w => tf0_6 w⟩
  · match k, hk, h1 with
    | 1, _, _ => exact ⟨_, fun w => tf1_6 u w⟩
    | 2, _, _ => exact ⟨_, fun w => tf2_6 u w⟩
    | 3, _, _ => exact ⟨_, fun w => tf3_6 u w⟩
    | 4, _, _ => exact ⟨_, fun w => tf4_6 u w⟩
    | 5, _, _ => exact ⟨_, fun w => tf5_6 u w⟩
    | 6, _, _ => exact ⟨_, fun w => tf6_6 u w⟩
    | 7, _, _ => exact ⟨_, fun w => tf7_6 u w⟩
    | 8, _, _ => exact ⟨_, fun w => tf8_6 u w⟩
    | 9, _, _ => exact ⟨_, fun w => tf9_6 u w⟩
    | 10, _, _ => exact ⟨_, fun w => tf10_6 u w⟩
    | 11, _, _ => exact ⟨_, fun w => tf11_6 u w⟩
    | 12, _, _ => exact ⟨_, fun w => tf11_6 u w⟩
    | 13, _, _ => exact ⟨_, fun w => tf13_6 u w⟩
    | n + 14, h, _ => omega
theorem tf1_7 (v : Value) (w : World) : (Instr.typeAssert (.iface 164 v) 20 156 true).run Tryz.prog w = .ok (.tuple #[.nilIface, .bool false]) w := run_typeAssert_lacksB Tryz.underlying156 (by kernel_rfl) (by kernel_rfl) v _ w
theorem tf2_7 (v : Value) (w : World) : (Instr.typeAssert (.iface 165 v) 20 156 true).run Tryz.prog w = .ok (.tuple #[.nilIface, .bool false]) w := run_typeAssert_lacksB Tryz.underlying156 (by kernel_rfl) (by kernel_rfl) v _ w
theorem tf3_7 (v : Value) (w : World) : (Instr.typeAssert (.iface 166 v) 20 156 true).run Tryz.prog w = .ok (.tuple #[.nilIface, .bool false]) w := run_typeAssert_lacksB Tryz.underlying156 (by kernel_rfl) (by kernel_rfl) v _ w
theorem tf4_7 (v : Value) (w : World) : (Instr.typeAssert (.iface 167 v) 20 156 true).run Tryz.prog w = .ok (.tuple #[.iface 167 v, .bool true]) w := by kernel_rfl
theorem tf5_7 (v : Value) (w : World) : (Instr.typeAssert (.iface 168 v) 20 156 true).run Tryz.prog w = .ok (.tuple #[.iface 168 v, .bool true]) w := by kernel_rfl
theorem tf6_7 (v : Value) (w : World) : (Instr.typeAssert (.iface 169 v) 20 156 true).run Tryz.prog w = .ok (.tuple #[.nilIface, .bool false]) w := run_typeAssert_lacksB Tryz.underlying156 (by kernel_rfl) (by kernel_rfl) v _ w
theorem tf7_7 (v : Value) (w : World) : (Instr.typeAssert (.iface 170 v) 20 156 true).run Tryz.prog w = .ok (.tuple #[.nilIface, .bool false]) w := run_typeAssert_lacksB Tryz.underlying156 (by kernel_rfl) (by kernel_rfl) v _ w
theorem tf8_7 (v : Value) (w : World) : (Instr.typeAssert (.iface 171 v) 20 156 true).run Tryz.prog w = .ok (.tuple #[.nilIface, .bool false]) w := run_typeAssert_lacksB Tryz.underlying156 (by kernel_rfl) (by kernel_rfl) v _ w
theorem tf9_7 (v : Value) (w : World) : (Instr.typeAssert (.iface 173 v) 20 156 true).run Tryz.prog w = .ok (.tuple #[.nilIface, .bool false]) w := run_typeAssert_lacksB Tryz.underlying156 (by kernel_rfl) (by kernel_rfl) v _ w
theorem tf10_7 (v : Value) (w : World) : (Instr.typeAssert (.iface 175 v) 20 156 true).run Tryz.prog w = .ok (.tuple #[.nilIface, .bool false]) w := run_typeAssert_lacksB Tryz.underlying156 (by kernel_rfl) (by kernel_rfl) v _ w
theorem tf11_7 (v : Value) (w : World) : (Instr.typeAssert (.iface 176 v) 20 156 true).run Tryz.prog w = .ok (.tuple #[.nilIface, .bool false]) w := run_typeAssert_lacksB Tryz.underlying156 (by kernel_rfl) (by kernel_rfl) v _ w
theorem tf13_7 (v : Value) (w : World) : (Instr.typeAssert (.iface 179 v) 20 156 true).run Tryz.prog w = .ok (.tuple #[.nilIface, .bool false]) w := run_typeAssert_lacksB Tryz.underlying156 (by kernel_rfl) (by kernel_rfl) v _ w
theorem tf0_7 (w : World) : (Instr.typeAssert .nilIface 20 156 true).run Tryz.prog w = .ok (.tuple #[.nilIface, .bool false]) w := by kernel_rfl
theorem tf_7 (k : Nat) (hk : k ≤ 13) (v : Value) (hv : SampV k v) : ∃ x, ∀ w, (Instr.typeAssert v 20 156 true).run Tryz.prog w = .ok (.tuple #[x, .bool (hasF k 7)]) w := by
  rcases hv with ⟨rfl, rfl⟩ | ⟨h1, u, rfl⟩
  · exact ⟨_, fun w => tf0_7 w⟩
  · match k, hk, h1 with
    | 1, _, _ => exact ⟨_, fun w => tf1_7 u w⟩
    | 2, _, _ => exact ⟨_, fun w => tf2_7 u w⟩
    | 3, _, _ => exact ⟨_, fun w => tf3_7 u w⟩
    | 4, _, _ => exact ⟨_, fun w => tf4_7 u w⟩
    | 5, _, _ => exact ⟨_, fun w => tf5_7 u w⟩
    | 6, _, _ => exact ⟨_, fun w => tf6_7 u w⟩
    | 7, _, _ => exact ⟨_, fun w => tf7_7 u w⟩
    | 8, _, _ => exact ⟨_, fun w => tf8_7 u w⟩
    | 9, _, _ => exact ⟨_, fun w => tf9_7 u w⟩
    | 10, _, _ => exact ⟨_, fun w => tf10_7 u w⟩
    | 11, _, _ => exact ⟨_, fun w => tf11_7 u w⟩
    | 12, _, _ => exact ⟨_, fun w => tf11_7 u w⟩
    | 13, _, _ => exact ⟨_, fun w => tf13_7 u w⟩
    | n + 14, h, _ => omega
theorem tf1_8 (v : Value) (w : World) : (Instr.typeAssert (.iface 164 v) 20 159 true).run Tryz.prog w = .ok (.tuple #[.iface 164 v, .bool true]) w := by kernel_rfl
theorem tf2_8 (v : Value) (w : World) : (Instr.typeAssert (.iface 165 v) 20 159 true).run Tryz.prog w = .ok (.tuple #[.nilIface, .bool false]) w := run_typeAssert_lacksB Tryz.underlying159 (by kernel_rfl) (by kernel_rfl) v _ w
theorem tf3_8 (v : Value) (w : World) : (Instr.typeAssert (.iface 166 v) 20 159 true).run Tryz.prog w = .ok (.tuple #[.iface 166 v, .bool true]) w := by kernel_rfl
theorem tf4_8 (v : Value) (w : World) : (Instr.typeAssert (.iface 167 v) 20 159 true).run Tryz.prog w = .ok (.tuple #[.nilIface, .bool false]) w := run_typeAssert_lacksB Tryz.underlying159 (by kernel_rfl) (by kernel_rfl) v _ w
theorem tf5_8 (v : Value) (w : World) : (Instr.typeAssert (.iface 168 v) 20 159 true).run Tryz.prog w = .ok (.tuple #[.nilIface, .bool false]) w := run_typeAssert_lacksB Tryz.underlying159 (by kernel_rfl) (by kernel_rfl) v _ w
theorem tf6_8 (v : Value) (w : World) : (Instr.typeAssert (.iface 169 v) 20 159 true).run Tryz.prog w = .ok (.tuple #[.nilIface, .bool false]) w := run_typeAssert_lacksB Tryz.underlying159 (by kernel_rfl) (by kernel_rfl) v _ w
theorem tf7_8 (v : Value) (w : World) : (Instr.typeAssert (.iface 170 v) 20 159 true).run Tryz.prog w = .ok (.tuple #[.nilIface, .bool false]) w := run_typeAssert_lacksB Tryz.underlying159 (by kernel_rfl) (by kernel_rfl) v _ w
theorem tf8_8 (v : Value) (w : World) : (Instr.typeAssert (.iface 171 v) 20 159 true).run Tryz.prog w = .ok (.tuple #[.nilIface, .bool false]) w := run_typeAssert_lacksB Tryz.underlying159 (by kernel_rfl) (by kernel_rfl) v _ w
theorem tf9_8 (v : Value) (w : World) : (Instr.typeAssert (.iface 173 v) 20 159 true).run Tryz.prog w = .ok (.tuple #[.nilIface, .bool false]) w := run_typeAssert_lacksB Tryz.underlying159 (by kernel_rfl) (by kernel_rfl) v _ w
theorem tf10_8 (v : Value) (w : World) : (Instr.typeAssert (.iface 175 v) 20 159 true).run Tryz.prog w = .ok (.tuple #[.nilIface, .bool false]) w := run_typeAssert_lacksB Tryz.underlying159 (by kernel_rfl) (by kernel_rfl) v _ w
theorem tf11_8 (v : Value) (w : World) : (Instr.typeAssert (.iface 176 v) 20 159 true).run Tryz.prog w = .ok (.tuple #[.nilIface, .bool false]) w := run_typeAssert_lacksB Tryz.underlying159 (by kernel_rfl) (by kernel_rfl) v _ w
theorem tf13_8 (v : Value) (w : World) : (Instr.typeAssert (.iface 179 v) 20 159 true).run Tryz.prog w = .ok (.tuple #[.nilIface, .bool false]) w := run_typeAssert_lacksB Tryz.underlying159 (by kernel_rfl) (by kernel_rfl) v _ w
theorem tf0_8 (w : World) : (Instr.typeAssert .nilIface 20 159 true).run Tryz.prog w = .ok (.tuple #[.nilIface, .bool false]) w := by kernel_rfl
theorem tf_8 (k : Nat) (hk : k ≤ 13) (v : Value) (hv : SampV k v) : ∃ x, ∀ w, (Instr.typeAssert v 20 159 true).run Tryz.prog w = .ok (.tuple #[x, .bool (hasF k 8)]) w := by
  rcases hv with ⟨rfl, rfl⟩ | ⟨h1, u, rfl⟩
  · exact ⟨_, fun w => tf0_8 w⟩
  · match k, hk, h1 with
    | 1, _, _ => exact ⟨_, fun w => tf1_8 u w⟩
    | 2, _, _ => exact ⟨_, fun w => tf2_8 u w⟩
    | 3, _, _ => exact ⟨_, fun w => tf3_8 u w⟩
    | 4, _, _ => exact ⟨_, fun w => tf4_8 u w⟩
    | 5, _, _ => exact ⟨_, fun w => tf5_8 u w⟩
    | 6, _, _ => exact ⟨_, fun w => tf6_8 u w⟩
    | 7, _, _ => exact ⟨_, fun w => tf7_8 u w⟩
    | 8, _, _ => exact ⟨_, fun w => tf8_8 u w⟩
    | 9, _, _ => exact ⟨_, fun w => tf9_8 u w⟩
    | 10, _, _ => exact ⟨_, fun w => tf10_8 u w⟩
    | 11, _, _ => exact ⟨_, fun w => tf11_8 u w⟩
    | 12, _, _ => exact ⟨_, fun w => tf11_8 u w⟩
    | 13, _, _ => exact ⟨_, fun w => tf13_8 u w⟩
    | n + 14, h, _ => omega
theorem tf1_9 (v : Value) (w : World) : (Instr.typeAssert (.iface 164 v) 20 162 true).run Tryz.prog w = .ok (.tuple #[.nilIface, .bool false]) w := run_typeAssert_lacksB Tryz.underlying162 (by kernel_rfl) (by kernel_rfl) v _ w
theorem tf2_9 (v : Value) (w : World) : (Instr.typeAssert (.iface 165 v) 20 162 true).run Tryz.prog w = .ok (.tuple #[.nilIface, .bool false]) w := run_typeAssert_lacksB Tryz.underlying162 (by kernel_rfl) (by kernel_rfl) v _ w
theorem tf3_9 (v : Value) (w : World) : (Instr.typeAssert (.iface 166 v) 20 162 true).run Tryz.prog w = .ok (.tuple #[.nilIface, .bool false]) w := run_typeAssert_lacksB Tryz.underlying162 (by kernel_rfl) (by kernel_rfl) v _ w
theorem tf4_9 (v : Value) (w : World) : (Instr.typeAssert (.iface 167 v) 20 162 true).run Tryz.prog w = .ok (.tuple #[.nilIface, .bool false]) w := run_typeAssert_lacksB Tryz.underlying162 (by kernel_rfl) (by kernel_rfl) v _ w
theorem tf5_9 (v : Value) (w : World) : (Instr.typeAssert (.iface 168 v) 20 162 true).run Tryz.prog w = .ok (.tuple #[.iface 168 v, .bool true]) w := by kernel_rfl
theorem tf6_9 (v : Value) (w : World) : (Instr.typeAssert (.iface 169 v) 20 162 true).run Tryz.prog w = .ok (.tuple #[.nilIface, .bool false]) w := run_typeAssert_lacksB Tryz.underlying162 (by kernel_rfl) (by kernel_rfl) v _ w
theorem tf7_9 (v : Value) (w : World) : (Instr.typeAssert (.iface 170 v) 20 162 true).run Tryz.prog w = .ok (.tuple #[.nilIface, .bool false]) w := run_typeAssert_lacksB Tryz.underlying162 (by kernel_rfl) (by kernel_rfl) v _ w
theorem tf8_9 (v : Value) (w : World) : (Instr.typeAssert (.iface 171 v) 20 162 true).run Tryz.prog w = .ok (.tuple #[.nilIface, .bool false]) w := run_typeAssert_lacksB Tryz.underlying162 (by kernel_rfl) (by kernel_rfl) v _ w
theorem tf9_9 (v : Value) (w : World) : (Instr.typeAssert (.iface 173 v) 20 162 true).run Tryz.prog w = .ok (.tuple #[.nilIface, .bool false]) w := run_typeAssert_lacksB Tryz.underlying162 (by kernel_rfl) (by kernel_rfl) v _ w
theorem tf10_9 (v : Value) (w : World) : (Instr.typeAssert (.iface 175 v) 20 162 true).run Tryz.prog w = .ok (.tuple #[.nilIface, .bool false]) w := run_typeAssert_lacksB Tryz.underlying162 (by kernel_rfl) (by kernel_rfl) v _ w
theorem tf11_9 (v : Value) (w : World) : (Instr.typeAssert (.iface 176 v) 20 162 true).run Tryz.prog w = .ok (.tuple #[.nilIface, .bool false]) w := run_typeAssert_lacksB Tryz.underlying162 (by kernel_rfl) (by kernel_rfl) v _ w
theorem tf13_9 (v : Value) (w : World) : (Instr.typeAssert (.iface 179 v) 20 162 true).run Tryz.prog w = .ok (.tuple #[.nilIface, .bool false]) w := run_typeAssert_lacksB Tryz.underlying162 (by kernel_rfl) (by kernel_rfl) v _ w
theorem tf0_9 (w : World) : (Instr.typeAssert .nilIface 20 162 true).run Tryz.prog w = .ok (.tuple #[.nilIface, .bool false]) w := by kernel_rfl
theorem tf_9 (k : Nat) (hk : k ≤ 13) (v : Value) (hv : SampV k v) : ∃ x, ∀ w, (Instr.typeAssert v 20 162 true).run Tryz.prog w = .ok (.tuple #[x, .bool (hasF k 9)]) w := by
  rcases hv with ⟨rfl, rfl⟩ | ⟨h1, u, rfl⟩
  · exact ⟨_, fun w => tf0_9 w⟩
  · match k, hk, h1 with
    | 1, _, _ => exact ⟨_, fun w => tf1_9 u w⟩
    | 2, _, _ => exact ⟨_, fun w => tf2_9 u w⟩
    | 3, _, _ => exact ⟨_, fun w => tf3_9 u w⟩
    | 4, _, _ => exact ⟨_, fun w => tf4_9 u w⟩
    | 5, _, _ => exact ⟨_, fun w => tf5_9 u w⟩
    | 6, _, _ => exact ⟨_, fun w => tf6_9 u w⟩
    | 7, _, _ => exact ⟨_, fun w => tf7_9 u w⟩
    | 8, _, _ => exact ⟨_, fun w => tf8_9 u w⟩
    | 9, _, _ => exact ⟨_, fun w => tf9_9 u w⟩
    | 10, _, _ => exact ⟨_, fun w => tf10_9 u w⟩
    | 11, _, _ => exact ⟨_, fun w => tf11_9 u w⟩
    | 12, _, _ => exact ⟨_, fun w => tf11_9 u w⟩
    | 13, _, _ => exact ⟨_, fun w => tf13_9 u w⟩
    | n + 14, h, _ => omega
set_option maxRecDepth 100000 in
theorem face_0 (v x : Value) (b : Bool) (h : ∀ w, (Instr.typeAssert v 20 135 true).run Tryz.prog w = .ok (.tuple #[x, .bool b]) w) (w : World) : Calls Tryz.prog 70 #[v, .int .i64 0] w fun x w' => x = .returned (.bool b) ∧ w = w' := by
  go_enter Tryz.func70, Tryz.ntmps70
  go_wp2_with fail
  go_ret
  exact ⟨rfl, rfl⟩
set_option maxRecDepth 100000 in
theorem face_1 (v x : Value) (b : Bool) (h : ∀ w, (Instr.typeAssert v 20 138 true).run Tryz.prog w = .ok (.tuple #[x, .bool b]) w) (w : World) : Calls Tryz.prog 70 #[v, .int .i64 1] w fun x w' => x = .returned (.bool b) ∧ w = w' := by
  go_enter Tryz.func70, Tryz.ntmps70
  go_wp2_with fail
  go_ret
  exact ⟨rfl, rfl⟩
set_option maxRecDepth 100000 in
theorem face_2 (v x : Value) (b : Bool) (h : ∀ w, (Instr.typeAssert v 20 141 true).run Tryz.prog w = .ok (.tuple #[x, .bool b]) w) (w : World) : Calls Tryz.prog 70 #[v, .int .i64 2] w fun x w' => x = .returned (.bool b) ∧ w = w' := by
  go_enter Tryz.func70, Tryz.ntmps70
  go_wp2_with fail
  go_ret
  exact ⟨rfl, rfl⟩
set_option maxRecDepth 100000 in
theorem face_3 (v x : Value) (b : Bool) (h : ∀ w, (Instr.typeAssert v 20 144 true).run Tryz.prog w = .ok (.tuple #[x, .bool b]) w) (w : World) : Calls Tryz.prog 70 #[v, .int .i64 3] w fun x w' => x = .returned (.bool b) ∧ w = w' := by
  go_enter Tryz.func70, Tryz.ntmps70
  go_wp2_with fail
  go_ret
  exact ⟨rfl, rfl⟩
set_option maxRecDepth 100000 in
theorem face_4 (v x : Value) (b : Bool) (h : ∀ w, (Instr.typeAssert v 20 147 true).run Tryz.prog w = .ok (.tuple #[x, .bool b]) w) (w : World) : Calls Tryz.prog 70 #[v, .int .i64 4] w fun x w' => x = .returned (.bool b) ∧ w = w' := by
  go_enter Tryz.func70, Tryz.ntmps70
  go_wp2_with fail
  go_ret
  exact ⟨rfl, rfl⟩
set_option maxRecDepth 100000 in
theorem face_5 (v x : Value) (b : Bool) (h : ∀ w, (Instr.typeAssert v 20 150 true).run Tryz.prog w = .ok (.tuple #[x, .bool b]) w) (w : World) : Calls Tryz.prog 70 #[v, .int .i64 5] w fun x w' => x = .returned (.bool b) ∧ w = w' := by
  go_enter Tryz.func70, Tryz.ntmps70
  go_wp2_with fail
  go_ret
  exact ⟨rfl, rfl⟩
set_option maxRecDepth 100000 in
theorem face_6 (v x : Value) (b : Bool) (h : ∀ w, (Instr.typeAssert v 20 153 true).run Tryz.prog w = .ok (.tuple #[x, .bool b]) w) (w : World) : Calls Tryz.prog 70 #[v, .int .i64 6] w fun x w' => x = .returned (.bool b) ∧ w = w' := by
  go_enter Tryz.func70, Tryz.ntmps70
  go_wp2_with fail
  go_ret
  exact ⟨rfl, rfl⟩
set_option maxRecDepth 100000 in
theorem face_7 (v x : Value) (b : Bool) (h : ∀ w, (Instr.typeAssert v 20 156 true).run Tryz.prog w = .ok (.tuple #[x, .bool b]) w) (w : World) : Calls Tryz.prog 70 #[v, .int .i64 7] w fun x w' => x = .returned (.bool b) ∧ w = w' := by
  go_enter Tryz.func70, Tryz.ntmps70
  go_wp2_with fail
  go_ret
  exact ⟨rfl, rfl⟩
set_option maxRecDepth 100000 in
theorem face_8 (v x : Value) (b : Bool) (h : ∀ w, (Instr.typeAssert v 20 159 true).run Tryz.prog w = .ok (.tuple #[x, .bool b]) w) (w : World) : Calls Tryz.prog 70 #[v, .int .i64 8] w fun x w' => x = .returned (.bool b) ∧ w = w' := by
  go_enter Tryz.func70, Tryz.ntmps70
  go_wp2_with fail
  go_ret
  exact ⟨rfl, rfl⟩
set_option maxRecDepth 100000 in
theorem face_9 (v x : Value) (b : Bool) (h : ∀ w, (Instr.typeAssert v 20 162 true).run Tryz.prog w = .ok (.tuple #[x, .bool b]) w) (w : World) : Calls Tryz.prog 70 #[v, .int .i64 9] w fun x w' => x = .returned (.bool b) ∧ w = w' := by
  go_enter Tryz.func70, Tryz.ntmps70
  go_wp2_with fail
  go_ret
  exact ⟨rfl, rfl⟩
set_option maxRecDepth 100000 in
theorem face_no (v : Value) (f : Int) (h : ¬ (0 ≤ f ∧ f < 10)) (w : World) : Calls Tryz.prog 70 #[v, .int .i64 f] w fun x w' => x = .returned (.bool false) ∧ w = w' := by
  have h0 : (f == 0) = false := by simp; omega
  have h1 : (f == 1) = false := by simp; omega
  have h2 : (f == 2) = false := by simp; omega
  have h3 : (f == 3) = false := by simp; omega
  have h4 : (f == 4) = false := by simp; omega
  have h5 : (f == 5) = false := by simp; omega
  have h6 : (f == 6) = false := by simp; omega
  have h7 : (f == 7) = false := by simp; omega
  have h8 : (f == 8) = false := by simp; omega
  have h9 : (f == 9) = false := by simp; omega
  clear h
  go_enter Tryz.func70, Tryz.ntmps70
  go_wp2_with fail
  go_ret
  exact ⟨rfl, rfl⟩
theorem face_any (k : Nat) (hk : k ≤ 13) (v : Value) (hv : SampV k v) (f : Int) (w : World) : Calls Tryz.prog 70 #[v, .int .i64 f] w fun x w' => x = .returned (.bool (hasFi k f)) ∧ w = w' := by
  by_cases h : 0 ≤ f ∧ f < 10
  · have e : hasFi k f = hasF k f.toNat := by simp [hasFi, h]
    rw [e]
    obtain ⟨n, rfl⟩ : ∃ n : Nat, f = n := ⟨f.toNat, by omega⟩
    have hn : n < 10 := by omega
    rw [Int.toNat_natCast]
    clear h e
    match n, hn with
    | 0, _ => obtain ⟨x, hx⟩ := tf_0 k hk v hv; exact face_0 v x _ hx w
    | 1, _ => obtain ⟨x, hx⟩ := tf_1 k hk v hv; exact face_1 v x _ hx w
    | 2, _ => obtain ⟨x, hx⟩ := tf_2 k hk v hv; exact face_2 v x _ hx w
    | 3, _ => obtain ⟨x, hx⟩ := tf_3 k hk v hv; exact face_3 v x _ hx w
    | 4, _ => obtain ⟨x, hx⟩ := tf_4 k hk v hv; exact face_4 v x _ hx w
    | 5, _ => obtain ⟨x, hx⟩ := tf_5 k hk v hv; exact face_5 v x _ hx w
    | 6, _ => obtain ⟨x, hx⟩ := tf_6 k hk v hv; exact face_6 v x _ hx w
    | 7, _ => obtain ⟨x, hx⟩ := tf_7 k hk v hv; exact face_7 v x _ hx w
    | 8, _ => obtain ⟨x, hx⟩ := tf_8 k hk v hv; exact face_8 v x _ hx w
    | 9, _ => obtain ⟨x, hx⟩ := tf_9 k hk v hv; exact face_9 v x _ hx w
    | n + 10, h => omega
  · have e : hasFi k f = false := by
      unfold hasFi
      rw [decide_eq_false h]
      rfl
    rw [e]
    exact face_no v f h w
theorem method_0 (k : Nat) (hk : k ≤ 13) (v : Value) (hv : SampV k v) (w : World) : Calls Tryz.prog 113 #[v, .int .i64 0] w fun x w' => x = .returned (.bool (hasFi k 0)) ∧ Below w.heap.size w w' := by
  have HF := Lib.hid (fun w => face_any k hk v hv 0 w)
  clear hv
  go_enter Tryz.func113, Tryz.ntmps113
  go_wp2_with (go_at_call 70; refine (HF.out _).mono ?_; rintro e w' ⟨rfl, rfl⟩)
  go_ret
  exact ⟨rfl, by go_grown⟩
theorem method_1 (k : Nat) (hk : k ≤ 13) (v : Value) (hv : SampV k v) (w : World) : Calls Tryz.prog 113 #[v, .int .i64 1] w fun x w' => x = .returned (.bool (hasFi k 1)) ∧ Below w.heap.size w w' := by
  have HF := Lib.hid (fun w => face_any k hk v hv 1 w)
  clear hv
  go_enter Tryz.func113, Tryz.ntmps113
  go_wp2_with (go_at_call 70; refine (HF.out _).mono ?_; rintro e w' ⟨rfl, rfl⟩)
  go_ret
  exact ⟨rfl, by go_grown⟩
theorem method_2 (k : Nat) (hk : k ≤ 13) (v : Value) (hv : SampV k v) (w : World) : Calls Tryz.prog 113 #[v, .int .i64 2] w fun x w' => x = .returned (.bool (hasFi k 2)) ∧ Below w.heap.size w w' := by
  have HF := Lib.hid (fun w => face_any k hk v hv 2 w)
  clear hv
  go_enter Tryz.func113, Tryz.ntmps113
  go_wp2_with (go_at_call 70; refine (HF.out _).mono ?_; rintro e w' ⟨rfl, rfl⟩)
  go_ret
  exact ⟨rfl, by go_grown⟩
theorem method_3 (k : Nat) (hk : k ≤ 13) (v : Value) (hv : SampV k v) (w : World) : Calls Tryz.prog 113 #[v, .int .i64 3] w fun x w' => x = .returned (.bool (hasFi k 3)) ∧ Below w.heap.size w w' := by
  have HF := Lib.hid (fun w => face_any k hk v hv 3 w)
  clear hv
  go_enter Tryz.func113, Tryz.ntmps113
  go_wp2_with (go_at_call 70; refine (HF.out _).mono ?_; rintro e w' ⟨rfl, rfl⟩)
  go_ret
  exact ⟨rfl, by go_grown⟩
theorem method_4 (k : Nat) (hk : k ≤ 13) (v : Value) (hv : SampV k v) (w : World) : Calls Tryz.prog 113 #[v, .int .i64 4] w fun x w' => x = .returned (.bool (hasFi k 4)) ∧ Below w.heap.size w w' := by
  have HF := Lib.hid (fun w => face_any k hk v hv 4 w)
  clear hv
  go_enter Tryz.func113, Tryz.ntmps113
  go_wp2_with (go_at_call 70; refine (HF.out _).mono ?_; rintro e w' ⟨rfl, rfl⟩)
  go_ret
  exact ⟨rfl, by go_grown⟩
theorem method_5 (k : Nat) (hk : k ≤ 13) (v : Value) (hv : SampV k v) (w : World) : Calls Tryz.prog 113 #[v, .int .i64 5] w fun x w' => x = .returned (.bool (hasFi k 5)) ∧ Below w.heap.size w w' := by
  have HF := Lib.hid (fun w => face_any k hk v hv 5 w)
  clear hv
  go_enter Tryz.func113, Tryz.ntmps113
  go_wp2_with (go_at_call 70; refine (HF.out _).mono ?_; rintro e w' ⟨rfl, rfl⟩)
  go_ret
  exact ⟨rfl, by go_grown⟩
theorem method_any (k : Nat) (hk : k ≤ 13) (v : Value) (hv : SampV k v) (m : Nat) (hm : m < 6) (w : World) : Calls Tryz.prog 113 #[v, .int .i64 m] w fun x w' => x = .returned (.bool (hasM k m)) ∧ Below w.heap.size w w' := by
  match m, hm with
  | 0, _ =>
    have e : hasM k 0 = hasFi k 0 := by simp [hasFi, hasF, meths]
    rw [e]
    exact method_0 k hk v hv w
  | 1, _ =>
    have e : hasM k 1 = hasFi k 1 := by simp [hasFi, hasF, meths]
    rw [e]
    exact method_1 k hk v hv w
  | 2, _ =>
    have e : hasM k 2 = hasFi k 2 := by simp [hasFi, hasF, meths]
    rw [e]
    exact method_2 k hk v hv w
  | 3, _ =>
    have e : hasM k 3 = hasFi k 3 := by simp [hasFi, hasF, meths]
    rw [e]
    exact method_3 k hk v hv w
  | 4, _ =>
    have e : hasM k 4 = hasFi k 4 := by simp [hasFi, hasF, meths]
    rw [e]
    exact method_4 k hk v hv w
  | 5, _ =>
    have e : hasM k 5 = hasFi k 5 := by simp [hasFi, hasF, meths]
    rw [e]
    exact method_5 k hk v hv w
  | n + 6, h => omega
end Go.Proofs.YtecdniimikfbhaaGreatDoor

/- Contract of the reference's Has. -/
namespace Go.Proofs.YtecdniimikfbhaaGreatDoor
open Go Go.RowKit Go.ChangeShapes Go.WideShapes

set_option maxRecDepth 100000 in
theorem has_0 (k : Nat) (hk : k ≤ 13) (w : World) : Calls Tryz.prog 33 #[.int .i64 k, .int .i64 0] w fun x w' => x = .returned (.bool (hasM k 0)) ∧ w = w' := by
  match k, hk with
  | 0, _ =>
    go_enter Tryz.func33, Tryz.ntmps33
    go_wp2_with fail
    go_ret
    exact ⟨rfl, rfl⟩
  | 1, _ =>
    go_enter Tryz.func33, Tryz.ntmps33
    go_wp2_with fail
    go_ret
    exact ⟨rfl, rfl⟩
  | 2, _ =>
    go_enter Tryz.func33, Tryz.ntmps33
    go_wp2_with fail
    go_ret
    exact ⟨rfl, rfl⟩
  | 3, _ =>
    go_enter Tryz.func33, Tryz.ntmps33
    go_wp2_with fail
    go_ret
    exact ⟨rfl, rfl⟩
  | 4, _ =>
    go_enter Tryz.func33, Tryz.ntmps33
    go_wp2_with fail
    go_ret
    exact ⟨rfl, rfl⟩
  | 5, _ =>
    go_enter Tryz.func33, Tryz.ntmps33
    go_wp2_with fail
    go_ret
    exact ⟨rfl, rfl⟩
  | 6, _ =>
    go_enter Tryz.func33, Tryz.ntmps33
    go_wp2_with fail
    go_ret
    exact ⟨rfl, rfl⟩
  | 7, _ =>
    go_enter Tryz.func33, Tryz.ntmps33
    go_wp2_with fail
    go_ret
    exact ⟨rfl, rfl⟩
  | 8, _ =>
    go_enter Tryz.func33, Tryz.ntmps33
    go_wp2_with fail
    go_ret
    exact ⟨rfl, rfl⟩
  | 9, _ =>
    go_enter Tryz.func33, Tryz.ntmps33
    go_wp2_with fail
    go_ret
    exact ⟨rfl, rfl⟩
  | 10, _ =>
    go_enter Tryz.func33, Tryz.ntmps33
    go_wp2_with fail
    go_ret
    exact ⟨rfl, rfl⟩
  | 11, _ =>
    go_enter Tryz.func33, Tryz.ntmps33
    go_wp2_with fail
    go_ret
    exact ⟨rfl, rfl⟩
  | 12, _ =>
    go_enter Tryz.func33, Tryz.ntmps33
    go_wp2_with fail
    go_ret
    exact ⟨rfl, rfl⟩
  | 13, _ =>
    go_enter Tryz.func33, Tryz.ntmps33
    go_wp2_with fail
    go_ret
    exact ⟨rfl, rfl⟩
  | n + 14, h => omega
set_option maxRecDepth 100000 in
theorem has_1 (k : Nat) (hk : k ≤ 13) (w : World) : Calls Tryz.prog 33 #[.int .i64 k, .int .i64 1] w fun x w' => x = .returned (.bool (hasM k 1)) ∧ w = w' := by
  match k, hk with
  | 0, _ =>
    go_enter Tryz.func33, Tryz.ntmps33
    go_wp2_with fail
    go_ret
    exact ⟨rfl, rfl⟩
  | 1, _ =>
    go_enter Tryz.func33, Tryz.ntmps33
    go_wp2_with fail
    go_ret
    exact ⟨rfl, rfl⟩
  | 2, _ =>
    go_enter Tryz.func33, Tryz.ntmps33
    go_wp2_with fail
    go_ret
    exact ⟨rfl, rfl⟩
  | 3, _ =>
    go_enter Tryz.func33, Tryz.ntmps33
    go_wp2_with fail
    go_ret
    exact ⟨rfl, rfl⟩
  | 4, _ =>
    go_enter Tryz.func33, Tryz.ntmps33
    go_wp2_with fail
    go_ret
    exact ⟨rfl, rfl⟩
  | 5, _ =>
    go_enter Tryz.func33, Tryz.ntmps33
    go_wp2_with fail
    go_ret
    exact ⟨rfl, rfl⟩
  | 6, _ =>
    go_enter Tryz.func33, Tryz.ntmps33
    go_wp2_with fail
    go_ret
    exact ⟨rfl, rfl⟩
  | 7, _ =>
    go_enter Tryz.func33, Tryz.ntmps33
    go_wp2_with fail
    go_ret
    exact ⟨rfl, rfl⟩
  | 8, _ =>
    go_enter Tryz.func33, Tryz.ntmps33
    go_wp2_with fail
    go_ret
    exact ⟨rfl, rfl⟩
  | 9, _ =>
    go_enter Tryz.func33, Tryz.ntmps33
    go_wp2_with fail
    go_ret
    exact ⟨rfl, rfl⟩
  | 10, _ =>
    go_enter Tryz.func33, Tryz.ntmps33
    go_wp2_with fail
    go_ret
    exact ⟨rfl, rfl⟩
  | 11, _ =>
    go_enter Tryz.func33, Tryz.ntmps33
    go_wp2_with fail
    go_ret
    exact ⟨rfl, rfl⟩
  | 12, _ =>
    go_enter Tryz.func33, Tryz.ntmps33
    go_wp2_with fail
    go_ret
    exact ⟨rfl, rfl⟩
  | 13, _ =>
    go_enter Tryz.func33, Tryz.ntmps33
    go_wp2_with fail
    go_ret
    exact ⟨rfl, rfl⟩
  | n + 14, h => omega
set_option maxRecDepth 100000 in
theorem has_2 (k : Nat) (hk : k ≤ 13) (w : World) : Calls Tryz.prog 33 #[.int .i64 k, .int .i64 2] w fun x w' => x = .returned (.bool (hasM k 2)) ∧ w = w' := by
  match k, hk with
  | 0, _ =>
    go_enter Tryz.func33, Tryz.ntmps33
    go_wp2_with fail
    go_ret
    exact ⟨rfl, rfl⟩
  | 1, _ =>
    go_enter Tryz.func33, Tryz.ntmps33
    go_wp2_with fail
    go_ret
    exact ⟨rfl, rfl⟩
  | 2, _ =>
    go_enter Tryz.func33, Tryz.ntmps33
    go_wp2_with fail
    go_ret
    exact ⟨rfl, rfl⟩
  | 3, _ =>
    go_enter Tryz.func33, Tryz.ntmps33
    go_wp2_with fail
    go_ret
    exact ⟨rfl, rfl⟩
  | 4, _ =>
    go_enter Tryz.func33, Tryz.ntmps33
    go_wp2_with fail
    go_ret
    exact ⟨rfl, rfl⟩
  | 5, _ =>
    go_enter Tryz.func33, Tryz.ntmps33
    go_wp2_with fail
    go_ret
    exact ⟨rfl, rfl⟩
  | 6, _ =>
    go_enter Tryz.func33, Tryz.ntmps33
    go_wp2_with fail
    go_ret
    exact ⟨rfl, rfl⟩
  | 7, _ =>
    go_enter Tryz.func33, Tryz.ntmps33
    go_wp2_with fail
    go_ret
    exact ⟨rfl, rfl⟩
  | 8, _ =>
    go_enter Tryz.func33, Tryz.ntmps33
    go_wp2_with fail
    go_ret
    exact ⟨rfl, rfl⟩
  | 9, _ =>
    go_enter Tryz.func33, Tryz.ntmps33
    go_wp2_with fail
    go_ret
    exact ⟨rfl, rfl⟩
  | 10, _ =>
    go_enter Tryz.func33, Tryz.ntmps33
    go_wp2_with fail
    go_ret
    exact ⟨rfl, rfl⟩
  | 11, _ =>
    go_enter Tryz.func33, Tryz.ntmps33
    go_wp2_with fail
    go_ret
    exact ⟨rfl, rfl⟩
  | 12, _ =>
    go_enter Tryz.func33, Tryz.ntmps33
    go_wp2_with fail
    go_ret
    exact ⟨rfl, rfl⟩
  | 13, _ =>
    go_enter Tryz.func33, Tryz.ntmps33
    go_wp2_with fail
    go_ret
    exact ⟨rfl, rfl⟩
  | n + 14, h => omega
set_option maxRecDepth 100000 in
theorem has_3 (k : Nat) (hk : k ≤ 13) (w : World) : Calls Tryz.prog 33 #[.int .i64 k, .int .i64 3] w fun x w' => x = .returned (.bool (hasM k 3)) ∧ w = w' := by
  match k, hk with
  | 0, _ =>
    go_enter Tryz.func33, Tryz.ntmps33
    go_wp2_with fail
    go_ret
    exact ⟨rfl, rfl⟩
  | 1, _ =>
    go_enter Tryz.func33, Tryz.ntmps33
    go_wp2_with fail
    go_ret
    exact ⟨rfl, rfl⟩
  | 2, _ =>
    go_enter Tryz.func33, Tryz.ntmps33
    go_wp2_with fail
    go_ret
    exact ⟨rfl, rfl⟩
  | 3, _ =>
    go_enter Tryz.func33, Tryz.ntmps33
    go_wp2_with fail
    go_ret
    exact ⟨rfl, rfl⟩
  | 4, _ =>
    go_enter Tryz.func33, Tryz.ntmps33
    go_wp2_with fail
    go_ret
    exact ⟨rfl, rfl⟩
  | 5, _ =>
    go_enter Tryz.func33, Tryz.ntmps33
    go_wp2_with fail
    go_ret
    exact ⟨rfl, rfl⟩
  | 6, _ =>
    go_enter Tryz.func33, Tryz.ntmps33
    go_wp2_with fail
    go_ret
    exact ⟨rfl, rfl⟩
  | 7, _ =>
    go_enter Tryz.func33, Tryz.ntmps33
    go_wp2_with fail
    go_ret
    exact ⟨rfl, rfl⟩
  | 8, _ =>
    go_enter Tryz.func33, Tryz.ntmps33
    go_wp2_with fail
    go_ret
    exact ⟨rfl, rfl⟩
  | 9, _ =>
    go_enter Tryz.func33, Tryz.ntmps33
    go_wp2_with fail
    go_ret
    exact ⟨rfl, rfl⟩
  | 10, _ =>
    go_enter Tryz.func33, Tryz.ntmps33
    go_wp2_with fail
    go_ret
    exact ⟨rfl, rfl⟩
  | 11, _ =>
    go_enter Tryz.func33, Tryz.ntmps33
    go_wp2_with fail
    go_ret
    exact ⟨rfl, rfl⟩
  | 12, _ =>
    go_enter Tryz.func33, Tryz.ntmps33
    go_wp2_with fail
    go_ret
    exact ⟨rfl, rfl⟩
  | 13, _ =>
    go_enter Tryz.func33, Tryz.ntmps33
    go_wp2_with fail
    go_ret
    exact ⟨rfl, rfl⟩
  | n + 14, h => omega
set_option maxRecDepth 100000 in
theorem has_4 (k : Nat) (hk : k ≤ 13) (w : World) : Calls Tryz.prog 33 #[.int .i64 k, .int .i64 4] w fun x w' => x = .returned (.bool (hasM k 4)) ∧ w = w' := by
  match k, hk with
  | 0, _ =>
    go_enter Tryz.func33, Tryz.ntmps33
    go_wp2_with fail
    go_ret
    exact ⟨rfl, rfl⟩
  | 1, _ =>
    go_enter Tryz.func33, Tryz.ntmps33
    go_wp2_with fail
    go_ret
    exact ⟨rfl, rfl⟩
  | 2, _ =>
    go_enter Tryz.func33, Tryz.ntmps33
    go_wp2_with fail
    go_ret
    exact ⟨rfl, rfl⟩
  | 3, _ =>
    go_enter Tryz.func33, Tryz.ntmps33
    go_wp2_with fail
    go_ret
    exact ⟨rfl, rfl⟩
  | 4, _ =>
    go_enter Tryz.func33, Tryz.ntmps33
    go_wp2_with fail
    go_ret
    exact ⟨rfl, rfl⟩
  | 5, _ =>
    go_enter Tryz.func33, Tryz.ntmps33
    go_wp2_with fail
    go_ret
    exact ⟨rfl, rfl⟩
  | 6, _ =>
    go_enter Tryz.func33, Tryz.ntmps33
    go_wp2_with fail
    go_ret
    exact ⟨rfl, rfl⟩
  | 7, _ =>
    go_enter Tryz.func33, Tryz.ntmps33
    go_wp2_with fail
    go_ret
    exact ⟨rfl, rfl⟩
  | 8, _ =>
    go_enter Tryz.func33, Tryz.ntmps33
    go_wp2_with fail
    go_ret
    exact ⟨rfl, rfl⟩
  | 9, _ =>
    go_enter Tryz.func33, Tryz.ntmps33
    go_wp2_with fail
    go_ret
    exact ⟨rfl, rfl⟩
  | 10, _ =>
    go_enter Tryz.func33, Tryz.ntmps33
    go_wp2_with fail
    go_ret
    exact ⟨rfl, rfl⟩
  | 11, _ =>
    go_enter Tryz.func33, Tryz.ntmps33
    go_wp2_with fail
    go_ret
    exact ⟨rfl, rfl⟩
  | 12, _ =>
    go_enter Tryz.func33, Tryz.ntmps33
    go_wp2_with fail
    go_ret
    exact ⟨rfl, rfl⟩
  | 13, _ =>
    go_enter Tryz.func33, Tryz.ntmps33
    go_wp2_with fail
    go_ret
    exact ⟨rfl, rfl⟩
  | n + 14, h => omega
set_option maxRecDepth 100000 in
theorem has_5 (k : Nat) (hk : k ≤ 13) (w : World) : Calls Tryz.prog 33 #[.int .i64 k, .int .i64 5] w fun x w' => x = .returned (.bool (hasM k 5)) ∧ w = w' := by
  match k, hk with
  | 0, _ =>
    go_enter Tryz.func33, Tryz.ntmps33
    go_wp2_with fail
    go_ret
    exact ⟨rfl, rfl⟩
  | 1, _ =>
    go_enter Tryz.func33, Tryz.ntmps33
    go_wp2_with fail
    go_ret
    exact ⟨rfl, rfl⟩
  | 2, _ =>
    go_enter Tryz.func33, Tryz.ntmps33
    go_wp2_with fail
    go_ret
    exact ⟨rfl, rfl⟩
  | 3, _ =>
    go_enter Tryz.func33, Tryz.ntmps33
    go_wp2_with fail
    go_ret
    exact ⟨rfl, rfl⟩
  | 4, _ =>
    go_enter Tryz.func33, Tryz.ntmps33
    go_wp2_with fail
    go_ret
    exact ⟨rfl, rfl⟩
  | 5, _ =>
    go_enter Tryz.func33, Tryz.ntmps33
    go_wp2_with fail
    go_ret
    exact ⟨rfl, rfl⟩
  | 6, _ =>
    go_enter Tryz.func33, Tryz.ntmps33
    go_wp2_with fail
    go_ret
    exact ⟨rfl, rfl⟩
  | 7, _ =>
    go_enter Tryz.func33, Tryz.ntmps33
    go_wp2_with fail
    go_ret
    exact ⟨rfl, rfl⟩
  | 8, _ =>
    go_enter Tryz.func33, Tryz.ntmps33
    go_wp2_with fail
    go_ret
    exact ⟨rfl, rfl⟩
  | 9, _ =>
    go_enter Tryz.func33, Tryz.ntmps33
    go_wp2_with fail
    go_ret
    exact ⟨rfl, rfl⟩
  | 10, _ =>
    go_enter Tryz.func33, Tryz.ntmps33
    go_wp2_with fail
    go_ret
    exact ⟨rfl, rfl⟩
  | 11, _ =>
    go_enter Tryz.func33, Tryz.ntmps33
    go_wp2_with fail
    go_ret
    exact ⟨rfl, rfl⟩
  | 12, _ =>
    go_enter Tryz.func33, Tryz.ntmps33
    go_wp2_with fail
    go_ret
    exact ⟨rfl, rfl⟩
  | 13, _ =>
    go_enter Tryz.func33, Tryz.ntmps33
    go_wp2_with fail
    go_ret
    exact ⟨rfl, rfl⟩
  | n + 14, h => omega
theorem has_any (k : Nat) (hk : k ≤ 13) (m : Nat) (hm : m < 6) (w : World) : Calls Tryz.prog 33 #[.int .i64 k, .int .i64 m] w fun x w' => x = .returned (.bool (hasM k m)) ∧ w = w' := by
  match m, hm with
  | 0, _ => exact has_0 k hk w
  | 1, _ => exact has_1 k hk w
  | 2, _ => exact has_2 k hk w
  | 3, _ => exact has_3 k hk w
  | 4, _ => exact has_4 k hk w
  | 5, _ => exact has_5 k hk w
  | n + 6, h => omega
end Go.Proofs.YtecdniimikfbhaaGreatDoor

/- Contracts of want's Must and of what it defers. -/
namespace Go.Proofs.YtecdniimikfbhaaGreatDoor
open Go Go.RowKit Go.ChangeShapes Go.WideShapes

theorem ta_lacking (v : Value) (w : World) : (Instr.typeAssert (.iface 220 v) 20 220 true).run Tryz.prog w = .ok (.tuple #[v, .bool true]) w := by kernel_rfl
attribute [local go_sem] ta_lacking

theorem old_cell {w : World} (o : Obj) {b j : Nat} {v : Value} (hb : b < w.heap.size) (h : w.cell? ⟨b, j, none⟩ = some v) : (w.alloc o).cell? ⟨b, j, none⟩ = some v :=
  (World.cell?_of_block (w := w) (heap_alloc_old w o hb)).trans h
theorem old_thaw {w : World} (o : Obj) {b j : Nat} (hb : b < w.heap.size) (h : w.frozen? ⟨b, j, none⟩ = false) : (w.alloc o).frozen? ⟨b, j, none⟩ = false :=
  (((Below.refl w.heap.size w).alloc (Nat.le_refl _) o).frozen (p := ⟨b, j, none⟩) hb).trans h

set_option maxRecDepth 100000 in
theorem must1_panicking (b1 b2 : Nat) (k : Int) (older : List PanicEntry) (w : World)
    (h0 : w.cell? ⟨b1, 0, none⟩ = some (.int .i64 0)) (h1 : w.cell? ⟨b1, 1, none⟩ = some (.int .i64 0)) (h2 : w.cell? ⟨b2, 0, none⟩ = some (.int .i64 0))
    (f0 : w.frozen? ⟨b1, 0, none⟩ = false) (f1 : w.frozen? ⟨b1, 1, none⟩ = false) (f2 : w.frozen? ⟨b2, 0, none⟩ = false) (hne : b1 < b2) (hlt : b2 < w.heap.size) :
    CallsD Tryz.prog 102 #[.pointer (some ⟨b1, 0, none⟩), .pointer (some ⟨b2, 0, none⟩)] (.panicking ({ v := .iface 220 (.agg #[.int .i64 k, .int .i64 (-1)]), recovered := false } :: older)) w fun e u' w' =>
      e = .returned (.tuple #[]) ∧ u' = .panicking ({ v := .iface 220 (.agg #[.int .i64 k, .int .i64 (-1)]), recovered := true } :: older) ∧
      w' = (((w.alloc (.cells #[.int .i64 k, .int .i64 (-1)] 220)).setCell ⟨b1, 0, none⟩ (.int .i64 k)).setCell ⟨b1, 1, none⟩ (.int .i64 (-1))).setCell ⟨b2, 0, none⟩ (.int .i64 20) := by
  refine callsD_of_wpS Tryz.func102 rfl fun c₀ cs hu => ?_
  have g0 := fun o => old_cell o (show b1 < w.heap.size by omega) h0
  have g1 := fun o => old_cell o (show b1 < w.heap.size by omega) h1
  have g2 := fun o => old_cell o hlt h2
  have k0 := fun o => old_thaw o (show b1 < w.heap.size by omega) f0
  have k1 := fun o => old_thaw o (show b1 < w.heap.size by omega) f1
  have k2 := fun o => old_thaw o hlt f2
  have e1 : b2 ≠ b1 := by omega
  have e2 : b1 ≠ b2 := by omega
  have e3 : w.heap.size ≠ b1 := by omega
  have e4 : w.heap.size ≠ b2 := by omega
  simp only [Tryz.ntmps102, List.size_toArray, List.length_cons, List.length_nil, Nat.reduceAdd, Nat.reduceSub, Array.replicate_succ, Array.replicate_zero, List.push_toArray, List.append_toArray, List.nil_append, List.cons_append]
  apply wpS_seq
  apply wpS_region
  simp [wpOpsS, go_sem, recoverD, hu, Exit.thenS]
  refine wpS_of_wp ?_
  go_wp2_with fail
  exact ⟨rfl, _, rfl, .tuple #[], results_none rfl _ _ _, rfl, rfl, rfl⟩

theorem must1_idle (p q : Value) (w : World) :
    CallsD Tryz.prog 102 #[p, q] .returning w fun e u' w' => e = .returned (.tuple #[]) ∧ u' = .returning ∧ w = w' := by
  refine callsD_of_wpS Tryz.func102 rfl fun c₀ cs hu => ?_
  simp only [Tryz.ntmps102, List.size_toArray, List.length_cons, List.length_nil, Nat.reduceAdd, Nat.reduceSub, Array.replicate_succ, Array.replicate_zero, List.push_toArray, List.append_toArray, List.nil_append, List.cons_append]
  apply wpS_seq
  apply wpS_region
  simp [wpOpsS, go_sem, recoverD, hu, Exit.thenS]
  refine wpS_of_wp ?_
  go_wp2_with fail
  cases c₀
  cases hu
  exact ⟨rfl, _, rfl, .tuple #[], results_none rfl _ _ _, rfl, rfl, rfl⟩
end Go.Proofs.YtecdniimikfbhaaGreatDoor

/- A region that draws its order, holds a call that panics, and lies in a function that defers: at the panic the frame's named results and deferred calls are what they were. Whatever the program. -/
namespace Go.Proofs.YtecdniimikfbhaaGreatDoor.Fr
open Go
section
variable {P : Program} {ops : Array Oper} {Q : Exit → Act → World → Prop} {R : List PanicEntry → World → Prop} {md : Region.Mode} {Inv : Act → Prop}

/-- Q, but at a panic what the world alone says. -/
def AtPanic (R : List PanicEntry → World → Prop) (Q : Exit → Act → World → Prop) : Exit → Act → World → Prop
  | .panic c, _, w => R c w
  | e, a, w => Q e a w

/-- An operation that defers nothing. -/
def NoDefer (P : Program) (o : Oper) : Prop := ∀ (a : Act) (w : World) (d : Deferred) (w' : World), (execOp a.eval o).run P w ≠ .ok (.defer d) w'

theorem run_v {s : Sem Value} {w w' : World} {d : Deferred} : ((do pure (Next.value (← s)) : Sem Next)).run P w ≠ .ok (.defer d) w' := by
  simp only [Sem.run_bind]
  cases s.run P w <;> simp
theorem run_u {s : Sem Unit} {w w' : World} {d : Deferred} : ((do s; pure Next.skip : Sem Next)).run P w ≠ .ok (.defer d) w' := by
  simp only [Sem.run_bind]
  cases s.run P w <;> simp
theorem run_p {s : Sem Bool} {f : Bool → Value} {w w' : World} {d : Deferred} : ((do pure (Next.value (f (← s))) : Sem Next)).run P w ≠ .ok (.defer d) w' := by
  simp only [Sem.run_bind]
  cases s.run P w <;> simp
theorem run_callFunc {f : FuncId} {args : Array Value} {fn : Func} (hf : P.funcs[f]? = some fn) (hb : fn.body.isNone = false) {w w' : World} {d : Deferred} : (callFunc f args).run P w ≠ .ok (.defer d) w' := by
  unfold callFunc
  simp only [Sem.run_bind, run_program, Result.andThen_ok, hf, hb]
  split <;> simp

/-- As a check. -/
def plainB (P : Program) (o : Oper) : Bool :=
  match o.op with
  | .call c => match c.callee with
    | .value (.func f) => match P.funcs[f]? with
      | some fn => !fn.body.isNone
      | none => false
    | _ => false
  | .move _ | .assign _ | .alloc _ | .box _ _ | .build _ _ | .load _ _ | .store _ _ _ | .binOp _ _ _ _ _ | .unOp _ _ _ | .fieldAddr _ _ _ | .field _ _ _ | .indexAddr _ _ _ | .extract _ _ | .makeInterface _ _ | .typeAssert _ _ _ _ | .pick _ _ _ => true
  | _ => false

theorem noDefer_of {o : Oper} (h : plainB P o = true) : NoDefer P o := by
  intro a w d w'
  unfold plainB at h
  unfold execOp
  split at h
  · rename_i c hc
    split at h
    · rename_i f hcal
      split at h
      · rename_i fn hfn
        have hb : fn.body.isNone = false := by simpa using h
        have he : a.eval (.func f) = .func (.func f) #[] #[] := rfl
        simp only [hc, resolve, hcal, he, Deferred.ofValue, pure_bind, invoke]
        exact run_callFunc hfn hb
      · cases h
    · cases h
  all_goals first
    | (cases h; done)
    | (rename_i hc; simp only [hc]; first | exact run_v | exact run_u | exact run_p | (simp; done))

theorem wpOp_frame (hput : ∀ o, o ∈ ops → ∀ a v, Inv a → Inv (a.put o.dst v)) (hno : ∀ o, o ∈ ops → NoDefer P o) (hR : ∀ c a w, Inv a → R c w → Q (.panic c) a w)
    {i : Nat} {K K' : Act → World → Prop} (hK : ∀ a w, Inv a → K a w → K' a w) {a : Act} {w : World} (ha : Inv a) (h : wpOp P ops (AtPanic R Q) i K a w) : wpOp P ops Q i K' a w := by
  unfold wpOp at *
  split
  · rename_i hn
    simp only [hn] at h
    exact hK _ _ ha h
  · rename_i o ho
    have hmem : o ∈ ops := Array.mem_of_getElem? ho
    simp only [ho] at h
    split
    · rename_i hw
      simp only [hw, if_true] at h
      rcases h with h | h
      case inr => exact .inr ⟨h.1, h.2⟩
      refine .inl ?_
      unfold Oper.wp at *
      have hnd := hno o hmem a w
      generalize (execOp a.eval o).run P w = r at *
      cases r with
      | ok n w' =>
        cases n <;> simp only [Oper.upon] at h ⊢
        case value v => exact hK _ _ (hput o hmem a v ha) h
        case skip => exact hK _ _ (hput o hmem a _ ha) h
        case defer d => exact absurd rfl (hnd d w')
        case enter f args =>
          refine Calls.mono h fun e w'' he => ?_
          cases e with
          | returned v => exact hK _ _ (hput o hmem a v ha) he
          | panicked c => exact hR _ _ _ ha he
          | outgrown => exact he
        case row row args => exact Rows.mono h fun v w'' he => hK _ _ (hput o hmem a v ha) he
      | halt x w' =>
        cases x <;> simp only [Oper.upon] at h ⊢
        case panic v => exact hR _ _ _ ha h
    · rename_i hw
      simp only [hw] at h
      exact hK _ _ (hput o hmem a _ ha) h

theorem wpAny_frame (hput : ∀ o, o ∈ ops → ∀ a v, Inv a → Inv (a.put o.dst v)) (hno : ∀ o, o ∈ ops → NoDefer P o) (hR : ∀ c a w, Inv a → R c w → Q (.panic c) a w) :
    ∀ (fuel : Nat) (listed : Array Bool) (a : Act) (w : World), Inv a → wpAny P md ops (AtPanic R Q) fuel listed a w → wpAny P md ops Q fuel listed a w
  | 0, _, _, _, _, h => h
  | fuel + 1, _, _, _, ha, h => ⟨h.1, fun i hi => wpOp_frame hput hno hR (fun a w ha' h' => wpAny_frame hput hno hR fuel _ a w ha' h') ha (h.2 i hi)⟩

/-- The law. -/
theorem wp_region_frame (Inv : Act → Prop) (R : List PanicEntry → World → Prop) {id : Nat} {a : Act} {w : World} (hm : P.follows .mixedOrders = true)
    (hput : ∀ o, o ∈ ops → ∀ a v, Inv a → Inv (a.put o.dst v)) (hno : (ops.all (plainB P)) = true) (hR : ∀ c a w, Inv a → R c w → Q (.panic c) a w) (ha : Inv a)
    (h : wpAny P .any ops (AtPanic R Q) ops.size (Array.replicate ops.size false) a w.drew) : (Code.region id ops true).wp P Q a w :=
  wp_region_any hm (wpAny_frame hput (fun o ho => noDefer_of (Array.all_eq_true_iff_forall_mem.1 hno o ho)) hR _ _ _ _ ha h)

/-- The frame's slots and deferred calls. -/
def Held (sl : List (Nat × Value)) (ds : List Deferred) (a : Act) : Prop := a.defers = ds ∧ ∀ x ∈ sl, a.tmps[x.1]? = some x.2
theorem Held.put {sl : List (Nat × Value)} {ds : List Deferred} {o : Oper} (hb : (sl.all fun x => o.dst != some x.1) = true) (a : Act) (v : Value) (h : Held sl ds a) : Held sl ds (a.put o.dst v) := by
  obtain ⟨h1, h2⟩ := h
  cases hd : o.dst with
  | none => exact ⟨h1, h2⟩
  | some d =>
    refine ⟨h1, fun x hx => ?_⟩
    have hne : d ≠ x.1 := fun e => by
      have := List.all_eq_true.1 hb x hx
      simp [hd, e] at this
    simpa [Act.put, Array.getElem?_setIfInBounds_ne hne] using h2 x hx
theorem Held.puts {sl : List (Nat × Value)} {ds : List Deferred} {ops : Array Oper} (hb : (ops.all fun o => sl.all fun x => o.dst != some x.1) = true) : ∀ o, o ∈ ops → ∀ a v, Held sl ds a → Held sl ds (a.put o.dst v) :=
  fun o ho a v h => h.put (Array.all_eq_true_iff_forall_mem.1 hb o ho) a v
end
end Go.Proofs.YtecdniimikfbhaaGreatDoor.Fr

/- Contracts of want's Must. -/
namespace Go.Proofs.YtecdniimikfbhaaGreatDoor
open Go Go.RowKit Go.ChangeShapes Go.WideShapes

/-- A block known whole. -/
def Row (w : World) (b : Nat) (cs : Array Value) (T : TypeId) : Prop := w.heap[b]? = some (.cells cs T (0, 0))
theorem Row.cell {w : World} {b : Nat} {cs : Array Value} {T : TypeId} (h : Row w b cs T) (j : Nat) {v : Value} (hj : cs[j]? = some v) : w.cell? ⟨b, j, none⟩ = some v := by
  rw [cell_of_row w b _ _ _ _ h]; exact hj
theorem Row.thaw {w : World} {b : Nat} {cs : Array Value} {T : TypeId} (h : Row w b cs T) : ∀ j, w.frozen? ⟨b, j, none⟩ = false := fun j => by
  unfold World.frozen?
  have h' : w.heap[b]? = some (.cells cs T (0, 0)) := h
  simp only [h']
  simp
theorem Row.lt {w : World} {b : Nat} {cs : Array Value} {T : TypeId} (h : Row w b cs T) : b < w.heap.size := (Array.getElem?_eq_some_iff.1 h).1
theorem Row.keep {w w1 : World} {b : Nat} {cs : Array Value} {T : TypeId} (h : Row w b cs T) (hb : w1.heap[b]? = w.heap[b]?) : Row w1 b cs T := hb.trans h
theorem Row.new (w : World) (cs : Array Value) (T : TypeId) : Row (w.alloc (.cells cs T (0, 0))) w.heap.size cs T := heap_alloc_new w _
theorem Row.old {w : World} {b : Nat} {cs : Array Value} {T : TypeId} (h : Row w b cs T) (o : Obj) : Row (w.alloc o) b cs T := h.keep (heap_alloc_old w o h.lt)
theorem Row.later {w w1 : World} {b : Nat} {cs : Array Value} {T : TypeId} (h : Row w b cs T) (hb : Below w.heap.size w w1) : Row w1 b cs T := h.keep (hb.block b h.lt)

theorem Row.set {w : World} {b : Nat} {cs : Array Value} {T : TypeId} (h : Row w b cs T) (j : Nat) (x : Value) : Row (w.setCell ⟨b, j, none⟩ x) b (cs.setIfInBounds j x) T := heap_setCell_same w b j _ _ x h
theorem Row.other {w : World} {b : Nat} {cs : Array Value} {T : TypeId} (h : Row w b cs T) {g : Nat} (j : Nat) (x : Value) (hg : b ≠ g) : Row (w.setCell ⟨g, j, none⟩ x) b cs T := h.keep (heap_setCell_other _ _ _ _ hg)

theorem hmf : ∀ (fn : Fn) (first cap : Array Value) (w : World), (Instr.makeFunc fn first cap).run Tryz.prog w = .ok (.func fn first cap) w := fun _ _ _ _ => rfl

set_option maxHeartbeats 800000 in
theorem bigmust_no (k : Nat) (hk : k ≤ 13) (n : Int) (h : isB k n = false) (m b t sl : Value) (w : World) :
    Calls Tryz.prog 95 #[.agg #[.int .i64 k, m, b, t, sl], .int .i64 n] w fun x w' =>
      x = .returned (.tuple #[.agg #[.int .i64 0, .int .i64 0, .int .u64 0, .string ⟨#[]⟩, .slice none 0 0], .agg #[.int .i64 k, .int .i64 (-1)], .int .i64 20]) ∧ Below w.heap.size w w' := by
  have HS := Lib.hid (fun w => sample_v k hk w)
  have HM := Lib.hid (fun (v : Value) (hv : SampV k v) w => must_no k hk n v hv h m b t sl w)
  have hmf := hmf
  clear h
  obtain ⟨W1, hW1⟩ : ∃ W1, W1 = (((w.alloc (.cells #[.int .i64 k, m, b, t, sl] 25)).alloc (.cells #[.int .i64 0, .int .i64 0, .int .u64 0, .string ⟨#[]⟩, .slice none 0 0] 25)).alloc (.cells #[.int .i64 0, .int .i64 0] 205)).alloc (.cells #[.int .i64 0] 29) := ⟨_, rfl⟩
  have hb1 : Below w.heap.size w W1 := by rw [hW1]; go_grown
  have hz1 : Hid (W1.heap.size = w.heap.size + 4) := Lib.hid (by rw [hW1]; simp)
  have hx1 : Row W1 w.heap.size #[.int .i64 k, m, b, t, sl] 25 := by rw [hW1]; exact (((Row.new _ _ _).old _).old _).old _
  have hx2 : Row W1 (w.heap.size + 1) #[.int .i64 0, .int .i64 0, .int .u64 0, .string ⟨#[]⟩, .slice none 0 0] 25 := by
    rw [hW1]; exact ((show Row _ (w.heap.size + 1) _ _ by have h := Row.new (w.alloc (.cells #[.int .i64 k, m, b, t, sl] 25)); simp at h; exact h _ _).old _).old _
  have hx3 : Row W1 (w.heap.size + 2) #[.int .i64 0, .int .i64 0] 205 := by
    rw [hW1]; exact (show Row _ (w.heap.size + 2) _ _ by have h := Row.new ((w.alloc (.cells #[.int .i64 k, m, b, t, sl] 25)).alloc (.cells #[.int .i64 0, .int .i64 0, .int .u64 0, .string ⟨#[]⟩, .slice none 0 0] 25)); simp at h; exact h _ _).old _
  have hx4 : Row W1 (w.heap.size + 3) #[.int .i64 0] 29 := by
    rw [hW1]; have h := Row.new (((w.alloc (.cells #[.int .i64 k, m, b, t, sl] 25)).alloc (.cells #[.int .i64 0, .int .i64 0, .int .u64 0, .string ⟨#[]⟩, .slice none 0 0] 25)).alloc (.cells #[.int .i64 0, .int .i64 0] 205)); simp at h; exact h _ _
  go_enter_defers Tryz.func95, Tryz.ntmps95
  go_upto_region 2 with fail
  rw [← hW1]
  clear hW1
  have p0 : W1.cell? ⟨w.heap.size, 0, none⟩ = some (.int .i64 k) := hx1.cell 0 rfl
  have p1 : W1.cell? ⟨w.heap.size, 1, none⟩ = some m := hx1.cell 1 rfl
  have p2 : W1.cell? ⟨w.heap.size, 2, none⟩ = some b := hx1.cell 2 rfl
  have p3 : W1.cell? ⟨w.heap.size, 3, none⟩ = some t := hx1.cell 3 rfl
  have p4 : W1.cell? ⟨w.heap.size, 4, none⟩ = some sl := hx1.cell 4 rfl
  refine Fr.wp_region_frame (Fr.Held [(4, .pointer (some ⟨w.heap.size + 1, 0, none⟩)), (5, .pointer (some ⟨w.heap.size + 2, 0, none⟩)), (6, .pointer (some ⟨w.heap.size + 3, 0, none⟩))] _)
    (fun c W => c = [{ v := .iface 220 (.agg #[.int .i64 k, .int .i64 (-1)]), recovered := false }] ∧ Below W1.heap.size W1 W) (by kernel_rfl) (Fr.Held.puts (by kernel_rfl)) (by kernel_rfl) ?_ ⟨rfl, by simp⟩ ?_
  · rintro c a W ⟨hd, hs⟩ ⟨rfl, hbW⟩
    have hlt : W1.heap.size ≤ W.heap.size := hbW.size
    have hzo := hz1.out
    have y2 := hx2.later hbW
    have y3 := hx3.later hbW
    have y4 := hx4.later hbW
    have t4 : a.tmps[4]? = some (.pointer (some ⟨w.heap.size + 1, 0, none⟩)) := hs (4, _) (by simp)
    have t5 : a.tmps[5]? = some (.pointer (some ⟨w.heap.size + 2, 0, none⟩)) := hs (5, _) (by simp)
    have t6 : a.tmps[6]? = some (.pointer (some ⟨w.heap.size + 3, 0, none⟩)) := hs (6, _) (by simp)
    show Leaves Tryz.prog Tryz.f95 a.tmps _ a.defers _ _
    rw [hd]
    refine leaves_cons (f := 102) (args := #[.pointer (some ⟨w.heap.size + 2, 0, none⟩), .pointer (some ⟨w.heap.size + 3, 0, none⟩)]) (by simp) (by simp [go_sem]) ?_
    refine (must1_panicking (w.heap.size + 2) (w.heap.size + 3) k [] W (y3.cell 0 rfl) (y3.cell 1 rfl) (y4.cell 0 rfl) (y3.thaw 0) (y3.thaw 1) (y4.thaw 0) (by omega) (by omega)).mono ?_
    rintro e u W' ⟨rfl, rfl, rfl⟩
    have z2 := (((y2.old (.cells #[.int .i64 k, .int .i64 (-1)] 220 (0, 0))).other 0 (.int .i64 k) (show w.heap.size + 1 ≠ w.heap.size + 2 by omega)).other 1 (.int .i64 (-1)) (show w.heap.size + 1 ≠ w.heap.size + 2 by omega)).other 0 (.int .i64 20) (show w.heap.size + 1 ≠ w.heap.size + 3 by omega)
    have z3 := (((y3.old (.cells #[.int .i64 k, .int .i64 (-1)] 220 (0, 0))).set 0 (.int .i64 k)).set 1 (.int .i64 (-1))).other 0 (.int .i64 20) (show w.heap.size + 2 ≠ w.heap.size + 3 by omega)
    have z4 := (((y4.old (.cells #[.int .i64 k, .int .i64 (-1)] 220 (0, 0))).other 0 (.int .i64 k) (show w.heap.size + 3 ≠ w.heap.size + 2 by omega)).other 1 (.int .i64 (-1)) (show w.heap.size + 3 ≠ w.heap.size + 2 by omega)).set 0 (.int .i64 20)
    have zb : Below w.heap.size w ((((W.alloc (.cells #[.int .i64 k, .int .i64 (-1)] 220 (0, 0))).setCell ⟨w.heap.size + 2, 0, none⟩ (.int .i64 k)).setCell ⟨w.heap.size + 2, 1, none⟩ (.int .i64 (-1))).setCell ⟨w.heap.size + 3, 0, none⟩ (.int .i64 20)) :=
      ((((hb1.trans (hbW.mono (by omega))).alloc (by omega) _).setCell (p := ⟨w.heap.size + 2, 0, none⟩) (by simp) _).setCell (p := ⟨w.heap.size + 2, 1, none⟩) (by simp) _).setCell (p := ⟨w.heap.size + 3, 0, none⟩) (by simp) _
    generalize (((W.alloc (.cells #[.int .i64 k, .int .i64 (-1)] 220 (0, 0))).setCell ⟨w.heap.size + 2, 0, none⟩ (.int .i64 k)).setCell ⟨w.heap.size + 2, 1, none⟩ (.int .i64 (-1))).setCell ⟨w.heap.size + 3, 0, none⟩ (.int .i64 20) = Wf at *
    refine ⟨_, ?_, rfl, zb⟩
    have a0 : Wf.cell? ⟨w.heap.size + 1, 0, none⟩ = some (.int .i64 0) := z2.cell 0 rfl
    have a1 : Wf.cell? ⟨w.heap.size + 1, 1, none⟩ = some (.int .i64 0) := z2.cell 1 rfl
    have a2 : Wf.cell? ⟨w.heap.size + 1, 2, none⟩ = some (.int .u64 0) := z2.cell 2 rfl
    have a3 : Wf.cell? ⟨w.heap.size + 1, 3, none⟩ = some (.string ⟨#[]⟩) := z2.cell 3 rfl
    have a4 : Wf.cell? ⟨w.heap.size + 1, 4, none⟩ = some (.slice none 0 0) := z2.cell 4 rfl
    have b0 : Wf.cell? ⟨w.heap.size + 2, 0, none⟩ = some (.int .i64 k) := z3.cell 0 rfl
    have b1 : Wf.cell? ⟨w.heap.size + 2, 1, none⟩ = some (.int .i64 (-1)) := z3.cell 1 rfl
    have c4 : Wf.cell? ⟨w.heap.size + 3, 0, none⟩ = some (.int .i64 20) := z4.cell 0 rfl
    simp [results, Tryz.results95, t4, t5, t6, asAddr, a0, a1, a2, a3, a4, b0, b1, c4, go_sem]
  refine wpAny_take (i := 0) (v := ?_) rfl (by kernel_rfl) (by kernel_rfl) (by kernel_rfl) (fun _ _ _ h => h) (Or.inl ⟨by rfl, ?_⟩) ?_
  rotate_left
  · intro w; go_simp
    try with_reducible rfl
  refine wpAny_take (i := 4) (v := ?_) rfl (by kernel_rfl) (by kernel_rfl) (by kernel_rfl) (fun _ _ _ h => h) (Or.inl ⟨by rfl, ?_⟩) ?_
  rotate_left
  · intro w; go_simp
    try with_reducible rfl
  refine wpAny_take (i := 6) (v := ?_) rfl (by kernel_rfl) (by kernel_rfl) (by kernel_rfl) (fun _ _ _ h => h) (Or.inl ⟨by rfl, ?_⟩) ?_
  rotate_left
  · intro w; go_simp
    try with_reducible rfl
  refine wpAny_ready (rs := [1, 3]) (by kernel_rfl) (by simp) ?_
  refine AllReady.cons rfl (fun K hK => ?_) ?_
  · go_simp
    refine hK _ _ ?_
    clear hK K
    refine wpAny_ready (rs := [2, 3]) (by kernel_rfl) (by simp) ?_
    refine AllReady.cons rfl (fun K hK => ?_) ?_
    · go_simp
      go_at_call 71
      refine (HS.out _).mono ?_
      rintro x w2 ⟨v, rfl, hv, hb2⟩
      have hb2' : Below W1.heap.size W1 w2 := Below.trans (by go_grown) hb2
      have q0 : w2.cell? ⟨w.heap.size, 0, none⟩ = some (.int .i64 k) := (hx1.later hb2').cell 0 rfl
      have q1 : w2.cell? ⟨w.heap.size, 1, none⟩ = some m := (hx1.later hb2').cell 1 rfl
      have q2 : w2.cell? ⟨w.heap.size, 2, none⟩ = some b := (hx1.later hb2').cell 2 rfl
      have q3 : w2.cell? ⟨w.heap.size, 3, none⟩ = some t := (hx1.later hb2').cell 3 rfl
      have q4 : w2.cell? ⟨w.heap.size, 4, none⟩ = some sl := (hx1.later hb2').cell 4 rfl
      dsimp only
      refine hK _ _ ?_
      clear hK K
      refine wpAny_ready (rs := [3]) (by kernel_rfl) (by simp) ?_
      refine AllReady.cons rfl (fun K hK => ?_) ?_
      · go_simp
        refine hK _ _ ?_
        clear hK K
        refine wpAny_ready (rs := [5]) (by kernel_rfl) (by simp) ?_
        refine AllReady.cons rfl (fun K hK => ?_) ?_
        · go_simp
          go_at_call 103
          refine (HM.out _ hv _).mono ?_
          rintro x w3 ⟨rfl, hb3⟩
          exact ⟨rfl, hb2'.trans (hb3.mono hb2'.size)⟩
        exact AllReady.nil
      exact AllReady.nil
    refine AllReady.cons rfl (fun K hK => ?_) ?_
    · go_simp
      refine hK _ _ ?_
      clear hK K
      refine wpAny_ready (rs := [2]) (by kernel_rfl) (by simp) ?_
      refine AllReady.cons rfl (fun K hK => ?_) ?_
      · go_simp
        go_at_call 71
        refine (HS.out _).mono ?_
        rintro x w2 ⟨v, rfl, hv, hb2⟩
        have hb2' : Below W1.heap.size W1 w2 := Below.trans (by go_grown) hb2
        have q0 : w2.cell? ⟨w.heap.size, 0, none⟩ = some (.int .i64 k) := (hx1.later hb2').cell 0 rfl
        have q1 : w2.cell? ⟨w.heap.size, 1, none⟩ = some m := (hx1.later hb2').cell 1 rfl
        have q2 : w2.cell? ⟨w.heap.size, 2, none⟩ = some b := (hx1.later hb2').cell 2 rfl
        have q3 : w2.cell? ⟨w.heap.size, 3, none⟩ = some t := (hx1.later hb2').cell 3 rfl
        have q4 : w2.cell? ⟨w.heap.size, 4, none⟩ = some sl := (hx1.later hb2').cell 4 rfl
        dsimp only
        refine hK _ _ ?_
        clear hK K
        refine wpAny_ready (rs := [5]) (by kernel_rfl) (by simp) ?_
        refine AllReady.cons rfl (fun K hK => ?_) ?_
        · go_simp
          go_at_call 103
          refine (HM.out _ hv _).mono ?_
          rintro x w3 ⟨rfl, hb3⟩
          exact ⟨rfl, hb2'.trans (hb3.mono hb2'.size)⟩
        exact AllReady.nil
      exact AllReady.nil
    exact AllReady.nil
  refine AllReady.cons rfl (fun K hK => ?_) ?_
  · go_simp
    refine hK _ _ ?_
    clear hK K
    refine wpAny_ready (rs := [1]) (by kernel_rfl) (by simp) ?_
    refine AllReady.cons rfl (fun K hK => ?_) ?_
    · go_simp
      refine hK _ _ ?_
      clear hK K
      refine wpAny_ready (rs := [2]) (by kernel_rfl) (by simp) ?_
      refine AllReady.cons rfl (fun K hK => ?_) ?_
      · go_simp
        go_at_call 71
        refine (HS.out _).mono ?_
        rintro x w2 ⟨v, rfl, hv, hb2⟩
        have hb2' : Below W1.heap.size W1 w2 := Below.trans (by go_grown) hb2
        have q0 : w2.cell? ⟨w.heap.size, 0, none⟩ = some (.int .i64 k) := (hx1.later hb2').cell 0 rfl
        have q1 : w2.cell? ⟨w.heap.size, 1, none⟩ = some m := (hx1.later hb2').cell 1 rfl
        have q2 : w2.cell? ⟨w.heap.size, 2, none⟩ = some b := (hx1.later hb2').cell 2 rfl
        have q3 : w2.cell? ⟨w.heap.size, 3, none⟩ = some t := (hx1.later hb2').cell 3 rfl
        have q4 : w2.cell? ⟨w.heap.size, 4, none⟩ = some sl := (hx1.later hb2').cell 4 rfl
        dsimp only
        refine hK _ _ ?_
        clear hK K
        refine wpAny_ready (rs := [5]) (by kernel_rfl) (by simp) ?_
        refine AllReady.cons rfl (fun K hK => ?_) ?_
        · go_simp
          go_at_call 103
          refine (HM.out _ hv _).mono ?_
          rintro x w3 ⟨rfl, hb3⟩
          exact ⟨rfl, hb2'.trans (hb3.mono hb2'.size)⟩
        exact AllReady.nil
      exact AllReady.nil
    exact AllReady.nil
  exact AllReady.nil
end Go.Proofs.YtecdniimikfbhaaGreatDoor
