/- Shape: the deferred closure of Map; the table of maps. -/
import Derived.Test.YtecdniimikfbhaaGreatDoorS1
import Derived.Laws.EntriesVeiled
namespace Go.Proofs.YtecdniimikfbhaaGreatDoor
open Go Go.RowKit Go.ChangeShapes Go.WideShapes

theorem sf_yes (v : Value) (w : World) : (Instr.typeAssert (.iface 50 v) 20 50 true).run Tryz.prog w = .ok (.tuple #[v, .bool true]) w := by kernel_rfl
attribute [local go_sem] sf_yes

set_option maxRecDepth 100000 in
set_option maxHeartbeats 800000 in
theorem map1_panicking (g : Nat) {e c p n : Int} {h : Bool} {k m b : Int} {t : ByteArray} {a : Option Addr} {l cap : Nat} (older : List PanicEntry) (w : World) (x0 x1 x2 x3 x4 x5 x6 x7 x8 x9 : Value) (hx : Row w g #[x0, x1, x2, x3, x4, x5, x6, x7, x8, x9] 33) :
    CallsD Tryz.prog 17 #[.pointer (some ⟨g, 0, none⟩)] (.panicking ({ v := .iface 50 (.agg #[.int .i64 e, .int .i64 c, .int .i64 p, .int .i64 n, .bool h, .int .i64 k, .int .i64 m, .int .u64 b, .string t, .slice a l cap]), recovered := false } :: older)) w fun e' u' w' =>
      e' = .returned (.tuple #[]) ∧ u' = .panicking ({ v := .iface 50 (.agg #[.int .i64 e, .int .i64 c, .int .i64 p, .int .i64 n, .bool h, .int .i64 k, .int .i64 m, .int .u64 b, .string t, .slice a l cap]), recovered := true } :: older) ∧ Row w' g #[.int .i64 e, .int .i64 c, .int .i64 p, .int .i64 n, .bool h, .int .i64 k, .int .i64 m, .int .u64 b, .string t, .slice a l cap] 33 ∧ ∀ B w0, Below B w0 w → B ≤ g → Below B w0 w' := by
  refine callsD_of_wpS Tryz.func17 rfl fun c₀ cs hu => ?_
  simp only [Tryz.ntmps17, List.size_toArray, List.length_cons, List.length_nil, Nat.reduceAdd, Nat.reduceSub, Array.replicate_succ, Array.replicate_zero, List.push_toArray, List.append_toArray, List.nil_append, List.cons_append]
  apply wpS_seq
  apply wpS_region
  simp [wpOpsS, go_sem, recoverD, hu, Exit.thenS]
  refine wpS_of_wp ?_
  have q0 := old1_cell hx.lt (show w.cell? ⟨g, 0, none⟩ = some x0 from hx.cell 0 rfl)
  have f0 := old1_thaw hx.lt (hx.thaw 0)
  have q1 := old1_cell hx.lt (show w.cell? ⟨g, 1, none⟩ = some x1 from hx.cell 1 rfl)
  have f1 := old1_thaw hx.lt (hx.thaw 1)
  have q2 := old1_cell hx.lt (show w.cell? ⟨g, 2, none⟩ = some x2 from hx.cell 2 rfl)
  have f2 := old1_thaw hx.lt (hx.thaw 2)
  have q3 := old1_cell hx.lt (show w.cell? ⟨g, 3, none⟩ = some x3 from hx.cell 3 rfl)
  have f3 := old1_thaw hx.lt (hx.thaw 3)
  have q4 := old1_cell hx.lt (show w.cell? ⟨g, 4, none⟩ = some x4 from hx.cell 4 rfl)
  have f4 := old1_thaw hx.lt (hx.thaw 4)
  have q5 := old1_cell hx.lt (show w.cell? ⟨g, 5, none⟩ = some x5 from hx.cell 5 rfl)
  have f5 := old1_thaw hx.lt (hx.thaw 5)
  have q6 := old1_cell hx.lt (show w.cell? ⟨g, 6, none⟩ = some x6 from hx.cell 6 rfl)
  have f6 := old1_thaw hx.lt (hx.thaw 6)
  have q7 := old1_cell hx.lt (show w.cell? ⟨g, 7, none⟩ = some x7 from hx.cell 7 rfl)
  have f7 := old1_thaw hx.lt (hx.thaw 7)
  have q8 := old1_cell hx.lt (show w.cell? ⟨g, 8, none⟩ = some x8 from hx.cell 8 rfl)
  have f8 := old1_thaw hx.lt (hx.thaw 8)
  have q9 := old1_cell hx.lt (show w.cell? ⟨g, 9, none⟩ = some x9 from hx.cell 9 rfl)
  have f9 := old1_thaw hx.lt (hx.thaw 9)
  go_wp2_with fail
  exact ⟨rfl, _, rfl, .tuple #[], results_none rfl _ _ _, rfl, rfl, (hx.old _).set10 _ _ _ _ _ _ _ _ _ _, fun B w0 hb hB => set10_below (hb.alloc (Nat.le_trans hB (Nat.le_of_lt hx.lt)) _) hB⟩
theorem map1_idle (p : Value) (w : World) :
    CallsD Tryz.prog 17 #[p] .returning w fun e u' w' => e = .returned (.tuple #[]) ∧ u' = .returning ∧ w = w' := by
  refine callsD_of_wpS Tryz.func17 rfl fun c₀ cs hu => ?_
  simp only [Tryz.ntmps17, List.size_toArray, List.length_cons, List.length_nil, Nat.reduceAdd, Nat.reduceSub, Array.replicate_succ, Array.replicate_zero, List.push_toArray, List.append_toArray, List.nil_append, List.cons_append]
  apply wpS_seq
  apply wpS_region
  simp [wpOpsS, go_sem, recoverD, hu, Exit.thenS]
  refine wpS_of_wp ?_
  go_wp2_with fail
  cases c₀
  cases hu
  exact ⟨rfl, _, rfl, .tuple #[], results_none rfl _ _ _, rfl, rfl, rfl⟩

theorem only_any (f k : Int) (w : World) : Calls Tryz.prog 40 #[.int .i64 f, .int .i64 k] w fun x w' => x = .returned (.func (.func 59) #[] #[.pointer (some ⟨w.heap.size, 0, none⟩), .pointer (some ⟨w.heap.size + 1, 0, none⟩)]) ∧ Row w' w.heap.size #[.int .i64 f] 3 ∧ Row w' (w.heap.size + 1) #[.int .i64 k] 3 ∧ Below w.heap.size w w' := by
  go_enter Tryz.func40, Tryz.ntmps40
  go_wp2_with fail
  go_ret
  refine ⟨rfl, (Row.new w _ _).old _, ?_, by go_grown⟩
  have h := Row.new (w.alloc (.cells #[.int .i64 f] 3)) #[.int .i64 k] 3
  simpa using h
theorem always_any (k : Int) (w : World) : Calls Tryz.prog 42 #[.int .i64 k] w fun x w' => x = .returned (.func (.func 61) #[] #[.pointer (some ⟨w.heap.size, 0, none⟩)]) ∧ Row w' w.heap.size #[.int .i64 k] 3 ∧ Below w.heap.size w w' := by
  go_enter Tryz.func42, Tryz.ntmps42
  go_wp2_with fail
  go_ret
  exact ⟨rfl, Row.new w _ _, by go_grown⟩

/-- The table of maps. -/
def tabV (g1 g2 g3 g4 g5 : Nat) : Array Value := #[.nilFunc, .nilFunc, .func (.func 39) #[] #[], .func (.func 59) #[] #[.pointer (some ⟨g1, 0, none⟩), .pointer (some ⟨g1 + 1, 0, none⟩)], .func (.func 41) #[] #[], .func (.func 61) #[] #[.pointer (some ⟨g2, 0, none⟩)], .func (.func 43) #[] #[], .func (.func 44) #[] #[], .func (.func 45) #[] #[], .func (.func 59) #[] #[.pointer (some ⟨g3, 0, none⟩), .pointer (some ⟨g3 + 1, 0, none⟩)], .func (.func 46) #[] #[], .func (.func 59) #[] #[.pointer (some ⟨g4, 0, none⟩), .pointer (some ⟨g4 + 1, 0, none⟩)], .func (.func 47) #[] #[], .func (.func 48) #[] #[], .func (.func 50) #[] #[], .func (.func 61) #[] #[.pointer (some ⟨g5, 0, none⟩)], .func (.func 51) #[] #[], .func (.func 52) #[] #[]]
theorem Row.fill18 {w : World} {g : Nat} {T : TypeId} {c0 c1 c2 c3 c4 c5 c6 c7 c8 c9 c10 c11 c12 c13 c14 c15 c16 c17 : Value} (h : Row w g #[c0, c1, c2, c3, c4, c5, c6, c7, c8, c9, c10, c11, c12, c13, c14, c15, c16, c17] T) (s0 s1 s2 s3 s4 s5 s6 s7 s8 s9 s10 s11 s12 s13 s14 s15 s16 s17 : Value) : Row ((((((((((((((((((w.setCell ⟨g, 0, none⟩ s0).setCell ⟨g, 1, none⟩ s1).setCell ⟨g, 2, none⟩ s2).setCell ⟨g, 3, none⟩ s3).setCell ⟨g, 4, none⟩ s4).setCell ⟨g, 5, none⟩ s5).setCell ⟨g, 6, none⟩ s6).setCell ⟨g, 7, none⟩ s7).setCell ⟨g, 8, none⟩ s8).setCell ⟨g, 9, none⟩ s9).setCell ⟨g, 10, none⟩ s10).setCell ⟨g, 11, none⟩ s11).setCell ⟨g, 12, none⟩ s12).setCell ⟨g, 13, none⟩ s13).setCell ⟨g, 14, none⟩ s14).setCell ⟨g, 15, none⟩ s15).setCell ⟨g, 16, none⟩ s16).setCell ⟨g, 17, none⟩ s17) g #[s0, s1, s2, s3, s4, s5, s6, s7, s8, s9, s10, s11, s12, s13, s14, s15, s16, s17] T := by
  have h1 := ((((((((((((((((((h.set 0 s0).set 1 s1).set 2 s2).set 3 s3).set 4 s4).set 5 s5).set 6 s6).set 7 s7).set 8 s8).set 9 s9).set 10 s10).set 11 s11).set 12 s12).set 13 s13).set 14 s14).set 15 s15).set 16 s16).set 17 s17)
  simpa using h1
theorem Row.oth18 {w : World} {g b : Nat} {T : TypeId} {cs : Array Value} (h : Row w b cs T) (hb : b ≠ g) (s0 s1 s2 s3 s4 s5 s6 s7 s8 s9 s10 s11 s12 s13 s14 s15 s16 s17 : Value) : Row ((((((((((((((((((w.setCell ⟨g, 0, none⟩ s0).setCell ⟨g, 1, none⟩ s1).setCell ⟨g, 2, none⟩ s2).setCell ⟨g, 3, none⟩ s3).setCell ⟨g, 4, none⟩ s4).setCell ⟨g, 5, none⟩ s5).setCell ⟨g, 6, none⟩ s6).setCell ⟨g, 7, none⟩ s7).setCell ⟨g, 8, none⟩ s8).setCell ⟨g, 9, none⟩ s9).setCell ⟨g, 10, none⟩ s10).setCell ⟨g, 11, none⟩ s11).setCell ⟨g, 12, none⟩ s12).setCell ⟨g, 13, none⟩ s13).setCell ⟨g, 14, none⟩ s14).setCell ⟨g, 15, none⟩ s15).setCell ⟨g, 16, none⟩ s16).setCell ⟨g, 17, none⟩ s17) b cs T := by
  refine h.keep ?_
  rw [heap_setCell_other _ _ _ _ hb, heap_setCell_other _ _ _ _ hb, heap_setCell_other _ _ _ _ hb, heap_setCell_other _ _ _ _ hb, heap_setCell_other _ _ _ _ hb, heap_setCell_other _ _ _ _ hb, heap_setCell_other _ _ _ _ hb, heap_setCell_other _ _ _ _ hb, heap_setCell_other _ _ _ _ hb, heap_setCell_other _ _ _ _ hb, heap_setCell_other _ _ _ _ hb, heap_setCell_other _ _ _ _ hb, heap_setCell_other _ _ _ _ hb, heap_setCell_other _ _ _ _ hb, heap_setCell_other _ _ _ _ hb, heap_setCell_other _ _ _ _ hb, heap_setCell_other _ _ _ _ hb, heap_setCell_other _ _ _ _ hb]
theorem below18 {B g : Nat} {w0 w : World} (h : Below B w0 w) (hb : B ≤ g) (s0 s1 s2 s3 s4 s5 s6 s7 s8 s9 s10 s11 s12 s13 s14 s15 s16 s17 : Value) : Below B w0 ((((((((((((((((((w.setCell ⟨g, 0, none⟩ s0).setCell ⟨g, 1, none⟩ s1).setCell ⟨g, 2, none⟩ s2).setCell ⟨g, 3, none⟩ s3).setCell ⟨g, 4, none⟩ s4).setCell ⟨g, 5, none⟩ s5).setCell ⟨g, 6, none⟩ s6).setCell ⟨g, 7, none⟩ s7).setCell ⟨g, 8, none⟩ s8).setCell ⟨g, 9, none⟩ s9).setCell ⟨g, 10, none⟩ s10).setCell ⟨g, 11, none⟩ s11).setCell ⟨g, 12, none⟩ s12).setCell ⟨g, 13, none⟩ s13).setCell ⟨g, 14, none⟩ s14).setCell ⟨g, 15, none⟩ s15).setCell ⟨g, 16, none⟩ s16).setCell ⟨g, 17, none⟩ s17) :=
  ((((((((((((((((((h.setCell (p := ⟨g, 0, none⟩) hb _).setCell (p := ⟨g, 1, none⟩) hb _).setCell (p := ⟨g, 2, none⟩) hb _).setCell (p := ⟨g, 3, none⟩) hb _).setCell (p := ⟨g, 4, none⟩) hb _).setCell (p := ⟨g, 5, none⟩) hb _).setCell (p := ⟨g, 6, none⟩) hb _).setCell (p := ⟨g, 7, none⟩) hb _).setCell (p := ⟨g, 8, none⟩) hb _).setCell (p := ⟨g, 9, none⟩) hb _).setCell (p := ⟨g, 10, none⟩) hb _).setCell (p := ⟨g, 11, none⟩) hb _).setCell (p := ⟨g, 12, none⟩) hb _).setCell (p := ⟨g, 13, none⟩) hb _).setCell (p := ⟨g, 14, none⟩) hb _).setCell (p := ⟨g, 15, none⟩) hb _).setCell (p := ⟨g, 16, none⟩) hb _).setCell (p := ⟨g, 17, none⟩) hb _)

set_option maxRecDepth 100000 in
set_option maxHeartbeats 3200000 in
theorem mappings_any (w : World) : Calls Tryz.prog 29 #[] w fun x w' => ∃ g1 g2 g3 g4 g5, x = .returned (.agg (tabV g1 g2 g3 g4 g5)) ∧ Row w' g1 #[.int .i64 5] 3 ∧ Row w' (g1 + 1) #[.int .i64 (-1)] 3 ∧ Row w' g3 #[.int .i64 0] 3 ∧ Row w' (g3 + 1) #[.int .i64 1] 3 ∧ Row w' g4 #[.int .i64 1] 3 ∧ Row w' (g4 + 1) #[.int .i64 4] 3 ∧ Row w' g2 #[.int .i64 8] 3 ∧ Row w' g5 #[.int .i64 9] 3 ∧ Below w.heap.size w w' := by
  obtain ⟨W1, hW1⟩ : ∃ W1, W1 = w.alloc (.cells #[.nilFunc, .nilFunc, .nilFunc, .nilFunc, .nilFunc, .nilFunc, .nilFunc, .nilFunc, .nilFunc, .nilFunc, .nilFunc, .nilFunc, .nilFunc, .nilFunc, .nilFunc, .nilFunc, .nilFunc, .nilFunc] 59) := ⟨_, rfl⟩
  have hb1 : Below w.heap.size w W1 := by rw [hW1]; go_grown
  have hx1 : Row W1 w.heap.size #[.nilFunc, .nilFunc, .nilFunc, .nilFunc, .nilFunc, .nilFunc, .nilFunc, .nilFunc, .nilFunc, .nilFunc, .nilFunc, .nilFunc, .nilFunc, .nilFunc, .nilFunc, .nilFunc, .nilFunc, .nilFunc] 59 := by rw [hW1]; exact Row.new _ _ _
  have hlt := hx1.lt
  go_enter Tryz.func29, Tryz.ntmps29
  go_upto_region 1 with fail
  rw [← hW1]
  clear hW1
  go_wp2_with fail
  refine (only_any _ _ _).mono ?_
  rintro e w2 ⟨rfl, ha1, ha2, hb2⟩
  dsimp only
  go_wp2_with fail
  refine (always_any _ _).mono ?_
  rintro e w3 ⟨rfl, hc1, hb3⟩
  dsimp only
  go_wp2_with fail
  refine (only_any _ _ _).mono ?_
  rintro e w4 ⟨rfl, hd1, hd2, hb4⟩
  dsimp only
  go_wp2_with fail
  refine (only_any _ _ _).mono ?_
  rintro e w5 ⟨rfl, he1, he2, hb5⟩
  dsimp only
  go_wp2_with fail
  refine (always_any _ _).mono ?_
  rintro e w6 ⟨rfl, hf1, hb6⟩
  have h56 := hb5.trans (hb6.mono hb5.size)
  have h46 := hb4.trans (h56.mono hb4.size)
  have h36 := hb3.trans (h46.mono hb3.size)
  have h26 := hb2.trans (h36.mono hb2.size)
  have hx6 := hx1.later h26
  have z1 := hb2.size
  have z2 := hb3.size
  have z3 := hb4.size
  have z4 := hb5.size
  have q0 : w6.cell? ⟨w.heap.size, 0, none⟩ = some (.nilFunc) := hx6.cell 0 rfl
  have fq0 := hx6.thaw 0
  have q1 : w6.cell? ⟨w.heap.size, 1, none⟩ = some (.nilFunc) := hx6.cell 1 rfl
  have fq1 := hx6.thaw 1
  have q2 : w6.cell? ⟨w.heap.size, 2, none⟩ = some (.nilFunc) := hx6.cell 2 rfl
  have fq2 := hx6.thaw 2
  have q3 : w6.cell? ⟨w.heap.size, 3, none⟩ = some (.nilFunc) := hx6.cell 3 rfl
  have fq3 := hx6.thaw 3
  have q4 : w6.cell? ⟨w.heap.size, 4, none⟩ = some (.nilFunc) := hx6.cell 4 rfl
  have fq4 := hx6.thaw 4
  have q5 : w6.cell? ⟨w.heap.size, 5, none⟩ = some (.nilFunc) := hx6.cell 5 rfl
  have fq5 := hx6.thaw 5
  have q6 : w6.cell? ⟨w.heap.size, 6, none⟩ = some (.nilFunc) := hx6.cell 6 rfl
  have fq6 := hx6.thaw 6
  have q7 : w6.cell? ⟨w.heap.size, 7, none⟩ = some (.nilFunc) := hx6.cell 7 rfl
  have fq7 := hx6.thaw 7
  have q8 : w6.cell? ⟨w.heap.size, 8, none⟩ = some (.nilFunc) := hx6.cell 8 rfl
  have fq8 := hx6.thaw 8
  have q9 : w6.cell? ⟨w.heap.size, 9, none⟩ = some (.nilFunc) := hx6.cell 9 rfl
  have fq9 := hx6.thaw 9
  have q10 : w6.cell? ⟨w.heap.size, 10, none⟩ = some (.nilFunc) := hx6.cell 10 rfl
  have fq10 := hx6.thaw 10
  have q11 : w6.cell? ⟨w.heap.size, 11, none⟩ = some (.nilFunc) := hx6.cell 11 rfl
  have fq11 := hx6.thaw 11
  have q12 : w6.cell? ⟨w.heap.size, 12, none⟩ = some (.nilFunc) := hx6.cell 12 rfl
  have fq12 := hx6.thaw 12
  have q13 : w6.cell? ⟨w.heap.size, 13, none⟩ = some (.nilFunc) := hx6.cell 13 rfl
  have fq13 := hx6.thaw 13
  have q14 : w6.cell? ⟨w.heap.size, 14, none⟩ = some (.nilFunc) := hx6.cell 14 rfl
  have fq14 := hx6.thaw 14
  have q15 : w6.cell? ⟨w.heap.size, 15, none⟩ = some (.nilFunc) := hx6.cell 15 rfl
  have fq15 := hx6.thaw 15
  have q16 : w6.cell? ⟨w.heap.size, 16, none⟩ = some (.nilFunc) := hx6.cell 16 rfl
  have fq16 := hx6.thaw 16
  have q17 : w6.cell? ⟨w.heap.size, 17, none⟩ = some (.nilFunc) := hx6.cell 17 rfl
  have fq17 := hx6.thaw 17
  dsimp only
  go_wp2_with fail
  exact bodyPost_ret (results_cell_row rfl _ _ w.heap.size 59 _ (0, 0) _ rfl (hx6.fill18 _ _ _ _ _ _ _ _ _ _ _ _ _ _ _ _ _ _) Tryz.underlying59 rfl (by kernel_rfl)) rfl
    ⟨W1.heap.size, w2.heap.size, w3.heap.size, w4.heap.size, w5.heap.size, rfl, (ha1.later h36).oth18 (by omega) _ _ _ _ _ _ _ _ _ _ _ _ _ _ _ _ _ _, (ha2.later h36).oth18 (by omega) _ _ _ _ _ _ _ _ _ _ _ _ _ _ _ _ _ _, (hd1.later h56).oth18 (by omega) _ _ _ _ _ _ _ _ _ _ _ _ _ _ _ _ _ _, (hd2.later h56).oth18 (by omega) _ _ _ _ _ _ _ _ _ _ _ _ _ _ _ _ _ _, (he1.later hb6).oth18 (by omega) _ _ _ _ _ _ _ _ _ _ _ _ _ _ _ _ _ _, (he2.later hb6).oth18 (by omega) _ _ _ _ _ _ _ _ _ _ _ _ _ _ _ _ _ _, (hc1.later h46).oth18 (by omega) _ _ _ _ _ _ _ _ _ _ _ _ _ _ _ _ _ _, hf1.oth18 (by omega) _ _ _ _ _ _ _ _ _ _ _ _ _ _ _ _ _ _, below18 (hb1.trans (h26.mono hb1.size)) (Nat.le_refl _) _ _ _ _ _ _ _ _ _ _ _ _ _ _ _ _ _ _⟩
end Go.Proofs.YtecdniimikfbhaaGreatDoor
