/- Contracts of the breaker's functions and of the reference's. No conditions beyond the ranges that each names. -/
import Derived.Test.YteplhhlgceppkaaRows
import Derived.WalkKit
import Derived.ProofKit
import Derived.Handy
import Derived.Outline
namespace Go.Proofs.Yteplhhlgceppkaa
open Go.RowKit

def kindB (e : Int) : Int := if (e == 0) = true then 1 else if (e == 100) = true then -1 else if (e == 101) = true then -1 else if (e == 110) = true then -1 else 0
def stateB (f u a now : Int) : Int := if f < a then 0 else if now < u then 1 else 2
theorem stateB0 {f u a now : Int} (h : f < a) : stateB f u a now = 0 := by simp [stateB, h]
theorem stateB1 {f u a now : Int} (h : ¬ f < a) (k : now < u) : stateB f u a now = 1 := by unfold stateB; rw [if_neg h, if_pos k]
theorem stateB2 {f u a now : Int} (h : ¬ f < a) (k : ¬ now < u) : stateB f u a now = 2 := by unfold stateB; rw [if_neg h, if_neg k]

theorem ta51_48 (v : Value) (w : World) : (Instr.typeAssert (.iface 51 v) 45 48 true).run Try.prog w = .ok (.tuple #[.agg #[], .bool false]) w := by kernel_rfl
theorem ta51_49 (v : Value) (w : World) : (Instr.typeAssert (.iface 51 v) 45 49 true).run Try.prog w = .ok (.tuple #[.agg #[], .bool false]) w := by kernel_rfl
theorem ta48_48 (v : Value) (w : World) : (Instr.typeAssert (.iface 48 v) 45 48 true).run Try.prog w = .ok (.tuple #[v, .bool true]) w := by kernel_rfl
theorem ta49_48 (v : Value) (w : World) : (Instr.typeAssert (.iface 49 v) 45 48 true).run Try.prog w = .ok (.tuple #[.agg #[], .bool false]) w := by kernel_rfl
theorem ta49_49 (v : Value) (w : World) : (Instr.typeAssert (.iface 49 v) 45 49 true).run Try.prog w = .ok (.tuple #[v, .bool true]) w := by kernel_rfl
attribute [local go_sem] ta51_48 ta51_49 ta48_48 ta49_48 ta49_49

set_option maxHeartbeats 400000 in
theorem kind_any (e c pk pn b k i u s l) (w : World) :
    Calls Try.prog 6 #[.agg #[.int .i64 e, c, pk, pn, b, k, i, u, s, l]] w fun x w' => x = .returned (.int .i64 (kindB e)) ∧ Below w.heap.size w w' := by
  go_enter Try.func6, Try.ntmps6
  go_wp2
  all_goals (go_ret; exact ⟨by simp [kindB, *], by go_grown⟩)

set_option maxHeartbeats 400000 in
theorem rkind_any (e c pk pn b k i u s l) (w : World) :
    Calls Try.prog 7 #[.agg #[.int .i64 e, c, pk, pn, b, k, i, u, s, l]] w fun x w' => x = .returned (.int .i64 (kindB e)) ∧ Below w.heap.size w w' := by
  go_enter Try.func7, Try.ntmps7
  go_wp2
  all_goals (go_ret; exact ⟨by simp [kindB, *], by go_grown⟩)

set_option maxHeartbeats 400000 in
theorem state_any (f u a now) (w : World) :
    Calls Try.prog 10 #[.agg #[.int .i64 f, .int .i64 u], .int .i64 a, .int .i64 now] w fun x w' => x = .returned (.int .i64 (stateB f u a now)) ∧ Below w.heap.size w w' := by
  by_cases h1 : f < a
  · rw [stateB0 h1]
    go_enter Try.func10, Try.ntmps10
    go_wp2
    go_ret
    exact ⟨rfl, by go_grown⟩
  · by_cases h2 : now < u
    · rw [stateB1 h1 h2]
      go_enter Try.func10, Try.ntmps10
      go_wp2
      go_ret
      exact ⟨rfl, by go_grown⟩
    · rw [stateB2 h1 h2]
      go_enter Try.func10, Try.ntmps10
      go_wp2
      go_ret
      exact ⟨rfl, by go_grown⟩

set_option maxHeartbeats 400000 in
theorem rstate_any (f u a now) (w : World) :
    Calls Try.prog 11 #[.agg #[.int .i64 f, .int .i64 u], .int .i64 a, .int .i64 now] w fun x w' => x = .returned (.int .i64 (stateB f u a now)) ∧ Below w.heap.size w w' := by
  by_cases h1 : f < a
  · rw [stateB0 h1]
    go_enter Try.func11, Try.ntmps11
    go_wp2
    go_ret
    exact ⟨rfl, by go_grown⟩
  · by_cases h2 : now < u
    · rw [stateB1 h1 h2]
      go_enter Try.func11, Try.ntmps11
      go_wp2
      go_ret
      exact ⟨rfl, by go_grown⟩
    · rw [stateB2 h1 h2]
      go_enter Try.func11, Try.ntmps11
      go_wp2
      go_ret
      exact ⟨rfl, by go_grown⟩

set_option maxHeartbeats 400000 in
theorem ask_any (f u a now) (w : World) :
    Calls Try.prog 12 #[.agg #[.int .i64 f, .int .i64 u], .int .i64 a, .int .i64 now] w fun x w' => x = .returned (.bool (stateB f u a now != 1)) ∧ Below w.heap.size w w' := by
  by_cases h1 : f < a
  · rw [stateB0 h1]
    go_enter Try.func12, Try.ntmps12
    go_wp2
    go_ret
    exact ⟨rfl, by go_grown⟩
  · by_cases h2 : now < u
    · rw [stateB1 h1 h2]
      go_enter Try.func12, Try.ntmps12
      go_wp2
      go_ret
      exact ⟨rfl, by go_grown⟩
    · rw [stateB2 h1 h2]
      go_enter Try.func12, Try.ntmps12
      go_wp2
      go_ret
      exact ⟨rfl, by go_grown⟩

set_option maxHeartbeats 400000 in
theorem rask_any (f u a now) (w : World) :
    Calls Try.prog 13 #[.agg #[.int .i64 f, .int .i64 u], .int .i64 a, .int .i64 now] w fun x w' => x = .returned (.bool (stateB f u a now != 1)) ∧ Below w.heap.size w w' := by
  by_cases h1 : f < a
  · rw [stateB0 h1]
    go_enter Try.func13, Try.ntmps13
    go_wp2
    go_ret
    exact ⟨rfl, by go_grown⟩
  · by_cases h2 : now < u
    · rw [stateB1 h1 h2]
      go_enter Try.func13, Try.ntmps13
      go_wp2
      go_ret
      exact ⟨rfl, by go_grown⟩
    · rw [stateB2 h1 h2]
      go_enter Try.func13, Try.ntmps13
      go_wp2
      go_ret
      exact ⟨rfl, by go_grown⟩

end Go.Proofs.Yteplhhlgceppkaa
