/- Contracts of want's sample, by kind. -/
import Derived.Test.YteplhhlgceppkabG7
namespace Go.Proofs.Yteplhhlgceppkab
open Go Go.RowKit Go.ChangeShapes Go.WideShapes

/-- The type of a kind's sample. -/
def sampT : Nat → TypeId
  | 1 => 134
  | 2 => 135
  | 3 => 136
  | 4 => 137
  | 5 => 138
  | 6 => 139
  | 7 => 140
  | 8 => 141
  | 9 => 143
  | 10 => 145
  | 11 => 146
  | 12 => 146
  | 13 => 149
  | _ => 0
theorem sample_1 (w : World) : Calls Try.prog 55 #[.int .i64 1] w fun x w' => x = .returned (.iface 134 (.int .i64 0)) ∧ Below w.heap.size w w' := by
  go_enter Try.func55, Try.ntmps55
  go_wp2_with fail
  go_ret
  exact ⟨rfl, by go_grown⟩
theorem sample_2 (w : World) : Calls Try.prog 55 #[.int .i64 2] w fun x w' => x = .returned (.iface 135 (.int .i64 0)) ∧ Below w.heap.size w w' := by
  go_enter Try.func55, Try.ntmps55
  go_wp2_with fail
  go_ret
  exact ⟨rfl, by go_grown⟩
theorem sample_3 (w : World) : Calls Try.prog 55 #[.int .i64 3] w fun x w' => (∃ v, x = .returned (.iface 136 v)) ∧ Below w.heap.size w w' := by
  go_enter Try.func55, Try.ntmps55
  go_wp2_with fail
  go_ret
  exact ⟨⟨_, rfl⟩, by go_grown⟩
theorem sample_4 (w : World) : Calls Try.prog 55 #[.int .i64 4] w fun x w' => x = .returned (.iface 137 (.string ⟨#[]⟩)) ∧ Below w.heap.size w w' := by
  go_enter Try.func55, Try.ntmps55
  go_wp2_with fail
  go_ret
  exact ⟨rfl, by go_grown⟩
theorem sample_5 (w : World) : Calls Try.prog 55 #[.int .i64 5] w fun x w' => x = .returned (.iface 138 (.string ⟨#[]⟩)) ∧ Below w.heap.size w w' := by
  go_enter Try.func55, Try.ntmps55
  go_wp2_with fail
  go_ret
  exact ⟨rfl, by go_grown⟩
theorem sample_6 (w : World) : Calls Try.prog 55 #[.int .i64 6] w fun x w' => x = .returned (.iface 139 (.bool false)) ∧ Below w.heap.size w w' := by
  go_enter Try.func55, Try.ntmps55
  go_wp2_with fail
  go_ret
  exact ⟨rfl, by go_grown⟩
theorem sample_7 (w : World) : Calls Try.prog 55 #[.int .i64 7] w fun x w' => x = .returned (.iface 140 (.slice none 0 0)) ∧ Below w.heap.size w w' := by
  go_enter Try.func55, Try.ntmps55
  go_wp2_with fail
  go_ret
  exact ⟨rfl, by go_grown⟩
theorem sample_8 (w : World) : Calls Try.prog 55 #[.int .i64 8] w fun x w' => x = .returned (.iface 141 (.slice none 0 0)) ∧ Below w.heap.size w w' := by
  go_enter Try.func55, Try.ntmps55
  go_wp2_with fail
  go_ret
  exact ⟨rfl, by go_grown⟩
theorem sample_9 (w : World) : Calls Try.prog 55 #[.int .i64 9] w fun x w' => x = .returned (.iface 143 (.agg #[.nilIface, .nilIface])) ∧ Below w.heap.size w w' := by
  go_enter Try.func55, Try.ntmps55
  go_wp2_with fail
  go_ret
  exact ⟨rfl, by go_grown⟩
theorem sample_10 (w : World) : Calls Try.prog 55 #[.int .i64 10] w fun x w' => x = .returned (.iface 145 (.agg #[.int .i64 0])) ∧ Below w.heap.size w w' := by
  go_enter Try.func55, Try.ntmps55
  go_wp2_with fail
  go_ret
  exact ⟨rfl, by go_grown⟩
theorem sample_11 (w : World) : Calls Try.prog 55 #[.int .i64 11] w fun x w' => (∃ v, x = .returned (.iface 146 v)) ∧ Below w.heap.size w w' := by
  go_enter Try.func55, Try.ntmps55
  go_wp2_with fail
  go_ret
  exact ⟨⟨_, rfl⟩, by go_grown⟩
theorem sample_12 (w : World) : Calls Try.prog 55 #[.int .i64 12] w fun x w' => x = .returned (.iface 146 (.pointer none)) ∧ Below w.heap.size w w' := by
  go_enter Try.func55, Try.ntmps55
  go_wp2_with fail
  go_ret
  exact ⟨rfl, by go_grown⟩
theorem sample_13 (w : World) : Calls Try.prog 55 #[.int .i64 13] w fun x w' => x = .returned (.iface 149 (.agg #[])) ∧ Below w.heap.size w w' := by
  go_enter Try.func55, Try.ntmps55
  go_wp2_with fail
  go_ret
  exact ⟨rfl, by go_grown⟩
theorem sample_0 (w : World) : Calls Try.prog 55 #[.int .i64 0] w fun x w' => x = .returned .nilIface ∧ Below w.heap.size w w' := by
  go_enter Try.func55, Try.ntmps55
  go_wp2_with fail
  go_ret
  exact ⟨rfl, by go_grown⟩
/-- Whatever the kind: nil, or a value of its type. -/
theorem sample_any (k : Nat) (hk : k ≤ 13) (w : World) : Calls Try.prog 55 #[.int .i64 k] w fun x w' => (k = 0 ∧ x = .returned .nilIface ∨ 1 ≤ k ∧ ∃ v, x = .returned (.iface (sampT k) v)) ∧ Below w.heap.size w w' := by
  match k, hk with
  | 0, _ => exact (sample_0 w).mono fun x w' ⟨h, hb⟩ => ⟨Or.inl ⟨rfl, h⟩, hb⟩
  | 1, _ => exact (sample_1 w).mono fun x w' ⟨h, hb⟩ => ⟨Or.inr ⟨by omega, _, h⟩, hb⟩
  | 2, _ => exact (sample_2 w).mono fun x w' ⟨h, hb⟩ => ⟨Or.inr ⟨by omega, _, h⟩, hb⟩
  | 3, _ => exact (sample_3 w).mono fun x w' ⟨h, hb⟩ => ⟨Or.inr ⟨by omega, h⟩, hb⟩
  | 4, _ => exact (sample_4 w).mono fun x w' ⟨h, hb⟩ => ⟨Or.inr ⟨by omega, _, h⟩, hb⟩
  | 5, _ => exact (sample_5 w).mono fun x w' ⟨h, hb⟩ => ⟨Or.inr ⟨by omega, _, h⟩, hb⟩
  | 6, _ => exact (sample_6 w).mono fun x w' ⟨h, hb⟩ => ⟨Or.inr ⟨by omega, _, h⟩, hb⟩
  | 7, _ => exact (sample_7 w).mono fun x w' ⟨h, hb⟩ => ⟨Or.inr ⟨by omega, _, h⟩, hb⟩
  | 8, _ => exact (sample_8 w).mono fun x w' ⟨h, hb⟩ => ⟨Or.inr ⟨by omega, _, h⟩, hb⟩
  | 9, _ => exact (sample_9 w).mono fun x w' ⟨h, hb⟩ => ⟨Or.inr ⟨by omega, _, h⟩, hb⟩
  | 10, _ => exact (sample_10 w).mono fun x w' ⟨h, hb⟩ => ⟨Or.inr ⟨by omega, _, h⟩, hb⟩
  | 11, _ => exact (sample_11 w).mono fun x w' ⟨h, hb⟩ => ⟨Or.inr ⟨by omega, h⟩, hb⟩
  | 12, _ => exact (sample_12 w).mono fun x w' ⟨h, hb⟩ => ⟨Or.inr ⟨by omega, _, h⟩, hb⟩
  | 13, _ => exact (sample_13 w).mono fun x w' ⟨h, hb⟩ => ⟨Or.inr ⟨by omega, _, h⟩, hb⟩
  | n + 14, h => omega
end Go.Proofs.Yteplhhlgceppkab
