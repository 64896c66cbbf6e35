/- Contracts of want's Must and of what it defers. -/
import Derived.Test.YteplhhlgceppkabG11
import Derived.Defers
import Derived.Recover
namespace Go.Proofs.Yteplhhlgceppkab
open Go Go.RowKit Go.ChangeShapes Go.WideShapes

theorem ta_lacking (v : Value) (w : World) : (Instr.typeAssert (.iface 104 v) 20 104 true).run Try.prog w = .ok (.tuple #[v, .bool true]) w := by kernel_rfl
attribute [local go_sem] ta_lacking

theorem old_cell {w : World} (o : Obj) {b j : Nat} {v : Value} (hb : b < w.heap.size) (h : w.cell? ⟨b, j, none⟩ = some v) : (w.alloc o).cell? ⟨b, j, none⟩ = some v :=
  (World.cell?_of_block (w := w) (heap_alloc_old w o hb)).trans h
theorem old_thaw {w : World} (o : Obj) {b j : Nat} (hb : b < w.heap.size) (h : w.frozen? ⟨b, j, none⟩ = false) : (w.alloc o).frozen? ⟨b, j, none⟩ = false :=
  (((Below.refl w.heap.size w).alloc (Nat.le_refl _) o).frozen (p := ⟨b, j, none⟩) hb).trans h

set_option maxRecDepth 100000 in
theorem must1_panicking (b1 b2 : Nat) (k : Int) (older : List PanicEntry) (w : World)
    (h0 : w.cell? ⟨b1, 0, none⟩ = some (.int .i64 0)) (h1 : w.cell? ⟨b1, 1, none⟩ = some (.int .i64 0)) (h2 : w.cell? ⟨b2, 0, none⟩ = some (.int .i64 0))
    (f0 : w.frozen? ⟨b1, 0, none⟩ = false) (f1 : w.frozen? ⟨b1, 1, none⟩ = false) (f2 : w.frozen? ⟨b2, 0, none⟩ = false) (hne : b1 < b2) (hlt : b2 < w.heap.size) :
    CallsD Try.prog 53 #[.pointer (some ⟨b1, 0, none⟩), .pointer (some ⟨b2, 0, none⟩)] (.panicking ({ v := .iface 104 (.agg #[.int .i64 k, .int .i64 (-1)]), recovered := false } :: older)) w fun e u' w' =>
      e = .returned (.tuple #[]) ∧ u' = .panicking ({ v := .iface 104 (.agg #[.int .i64 k, .int .i64 (-1)]), recovered := true } :: older) ∧
      w' = (((w.alloc (.cells #[.int .i64 k, .int .i64 (-1)] 104)).setCell ⟨b1, 0, none⟩ (.int .i64 k)).setCell ⟨b1, 1, none⟩ (.int .i64 (-1))).setCell ⟨b2, 0, none⟩ (.int .i64 20) := by
  refine callsD_of_wpS Try.func53 rfl fun c₀ cs hu => ?_
  have g0 := fun o => old_cell o (show b1 < w.heap.size by omega) h0
  have g1 := fun o => old_cell o (show b1 < w.heap.size by omega) h1
  have g2 := fun o => old_cell o hlt h2
  have k0 := fun o => old_thaw o (show b1 < w.heap.size by omega) f0
  have k1 := fun o => old_thaw o (show b1 < w.heap.size by omega) f1
  have k2 := fun o => old_thaw o hlt f2
  have e1 : b2 ≠ b1 := by omega
  have e2 : b1 ≠ b2 := by omega
  have e3 : w.heap.size ≠ b1 := by omega
  have e4 : w.heap.size ≠ b2 := by omega
  simp only [Try.ntmps53, List.size_toArray, List.length_cons, List.length_nil, Nat.reduceAdd, Nat.reduceSub, Array.replicate_succ, Array.replicate_zero, List.push_toArray, List.append_toArray, List.nil_append, List.cons_append]
  apply wpS_seq
  apply wpS_region
  simp [wpOpsS, go_sem, recoverD, hu, Exit.thenS]
  refine wpS_of_wp ?_
  go_wp2_with fail
  exact ⟨rfl, _, rfl, .tuple #[], results_none rfl _ _ _, rfl, rfl, rfl⟩

theorem must1_idle (p q : Value) (w : World) :
    CallsD Try.prog 53 #[p, q] .returning w fun e u' w' => e = .returned (.tuple #[]) ∧ u' = .returning ∧ w = w' := by
  refine callsD_of_wpS Try.func53 rfl fun c₀ cs hu => ?_
  simp only [Try.ntmps53, List.size_toArray, List.length_cons, List.length_nil, Nat.reduceAdd, Nat.reduceSub, Array.replicate_succ, Array.replicate_zero, List.push_toArray, List.append_toArray, List.nil_append, List.cons_append]
  apply wpS_seq
  apply wpS_region
  simp [wpOpsS, go_sem, recoverD, hu, Exit.thenS]
  refine wpS_of_wp ?_
  go_wp2_with fail
  cases c₀
  cases hu
  exact ⟨rfl, _, rfl, .tuple #[], results_none rfl _ _ _, rfl, rfl, rfl⟩
end Go.Proofs.Yteplhhlgceppkab
