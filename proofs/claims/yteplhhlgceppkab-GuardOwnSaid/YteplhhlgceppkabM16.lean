/- Guard: contracts, joined texts (G76, G77, G78, Law). -/
import Derived.Laws.StructEq
import Derived.WalkKit
import Derived.ProofKit
import Derived.SizedLaws
import Derived.WalkSmall
import Derived.OpenShut
import Derived.Test.YteplhhlgceppkabM15

/- Contracts of the reference's Same of results, of fit. -/
namespace Go.Proofs.Yteplhhlgceppkab
open Go Go.RowKit Go.ChangeShapes Go.WideShapes

theorem res2_worlds (w : World) (c0 c1 c2 c3 c4 c5 c6 c7 c8 c9 e0 e1 e2 e3 e4 e5 e6 e7 e8 e9 : Value) : ∃ W1, W1 = (w.alloc (.cells #[c0, c1, c2, c3, c4, c5, c6, c7, c8, c9] 35)).alloc (.cells #[e0, e1, e2, e3, e4, e5, e6, e7, e8, e9] 35) ∧ Below w.heap.size w W1 ∧ Hid (W1.heap.size = w.heap.size + 2) ∧ Row W1 w.heap.size #[c0, c1, c2, c3, c4, c5, c6, c7, c8, c9] 35 ∧ Row W1 (w.heap.size + 1) #[e0, e1, e2, e3, e4, e5, e6, e7, e8, e9] 35 := by
  refine ⟨_, rfl, by go_grown, Lib.hid (by simp), (Row.new w _ _).old _, ?_⟩
  have h := Row.new (w.alloc (.cells #[c0, c1, c2, c3, c4, c5, c6, c7, c8, c9] 35)) #[e0, e1, e2, e3, e4, e5, e6, e7, e8, e9] 35
  simpa using h
theorem act1_world (w : World) (a0 a1 a2 a3 a4 a5 a6 a7 a8 a9 a10 a11 : Value) : ∃ W1, W1 = w.alloc (.cells #[a0, a1, a2, a3, a4, a5, a6, a7, a8, a9, a10, a11] 27) ∧ Below w.heap.size w W1 ∧ Row W1 w.heap.size #[a0, a1, a2, a3, a4, a5, a6, a7, a8, a9, a10, a11] 27 := ⟨_, rfl, by go_grown, Row.new _ _ _⟩

set_option maxRecDepth 100000 in
set_option maxHeartbeats 3200000 in
theorem rsame_lit {w0 : World} {e c p n : Int} {h : Bool} {d : D} {k m b : Int} {t : ByteArray} {a : Option Addr} {l cap : Nat} {k' m' b' : Int} {t' : ByteArray} {a' : Option Addr} {l' cap' : Nat} (hv : Rep w0 (.agg #[.int .i64 k, .int .i64 m, .int .u64 b, .string t, .slice a l cap]) d) (hv' : Rep w0 (.agg #[.int .i64 k', .int .i64 m', .int .u64 b', .string t', .slice a' l' cap']) d) (w : World) (hb0 : Below w0.heap.size w0 w) :
    Calls Try.prog 10 #[(.agg #[.int .i64 e, .int .i64 c, .int .i64 p, .int .i64 n, .bool h, .int .i64 k, .int .i64 m, .int .u64 b, .string t, .slice a l cap]), (.agg #[.int .i64 e, .int .i64 c, .int .i64 p, .int .i64 n, .bool h, .int .i64 k', .int .i64 m', .int .u64 b', .string t', .slice a' l' cap'])] w fun x w' => x = .returned (.bool true) ∧ Below w.heap.size w w' := by
  have HS := Lib.hid (fun W hW => same_self hv _ hv' W hW)
  have HB := Lib.hid hb0
  clear hv hv' hb0
  obtain ⟨W1, hW1, hb1, hz, hx1, hx2⟩ := res2_worlds w (.int .i64 e) (.int .i64 c) (.int .i64 p) (.int .i64 n) (.bool h) (.int .i64 k) (.int .i64 m) (.int .u64 b) (.string t) (.slice a l cap) (.int .i64 e) (.int .i64 c) (.int .i64 p) (.int .i64 n) (.bool h) (.int .i64 k') (.int .i64 m') (.int .u64 b') (.string t') (.slice a' l' cap')
  have p0 : W1.cell? ⟨w.heap.size, 0, none⟩ = some (.int .i64 e) := hx1.cell 0 rfl
  have p1 : W1.cell? ⟨w.heap.size, 1, none⟩ = some (.int .i64 c) := hx1.cell 1 rfl
  have p2 : W1.cell? ⟨w.heap.size, 2, none⟩ = some (.int .i64 p) := hx1.cell 2 rfl
  have p3 : W1.cell? ⟨w.heap.size, 3, none⟩ = some (.int .i64 n) := hx1.cell 3 rfl
  have p4 : W1.cell? ⟨w.heap.size, 4, none⟩ = some (.bool h) := hx1.cell 4 rfl
  have p5 : W1.cell? ⟨w.heap.size, 5, none⟩ = some (.int .i64 k) := hx1.cell 5 rfl
  have p6 : W1.cell? ⟨w.heap.size, 6, none⟩ = some (.int .i64 m) := hx1.cell 6 rfl
  have p7 : W1.cell? ⟨w.heap.size, 7, none⟩ = some (.int .u64 b) := hx1.cell 7 rfl
  have p8 : W1.cell? ⟨w.heap.size, 8, none⟩ = some (.string t) := hx1.cell 8 rfl
  have p9 : W1.cell? ⟨w.heap.size, 9, none⟩ = some (.slice a l cap) := hx1.cell 9 rfl
  have q0 : W1.cell? ⟨w.heap.size + 1, 0, none⟩ = some (.int .i64 e) := hx2.cell 0 rfl
  have q1 : W1.cell? ⟨w.heap.size + 1, 1, none⟩ = some (.int .i64 c) := hx2.cell 1 rfl
  have q2 : W1.cell? ⟨w.heap.size + 1, 2, none⟩ = some (.int .i64 p) := hx2.cell 2 rfl
  have q3 : W1.cell? ⟨w.heap.size + 1, 3, none⟩ = some (.int .i64 n) := hx2.cell 3 rfl
  have q4 : W1.cell? ⟨w.heap.size + 1, 4, none⟩ = some (.bool h) := hx2.cell 4 rfl
  have q5 : W1.cell? ⟨w.heap.size + 1, 5, none⟩ = some (.int .i64 k') := hx2.cell 5 rfl
  have q6 : W1.cell? ⟨w.heap.size + 1, 6, none⟩ = some (.int .i64 m') := hx2.cell 6 rfl
  have q7 : W1.cell? ⟨w.heap.size + 1, 7, none⟩ = some (.int .u64 b') := hx2.cell 7 rfl
  have q8 : W1.cell? ⟨w.heap.size + 1, 8, none⟩ = some (.string t') := hx2.cell 8 rfl
  have q9 : W1.cell? ⟨w.heap.size + 1, 9, none⟩ = some (.slice a' l' cap') := hx2.cell 9 rfl
  go_enter Try.func10, Try.ntmps10
  go_upto_region 1 with fail
  rw [← hW1]
  clear hW1
  go_wp2_with (go_at_call 12; refine (HS.out _ (HB.out.trans (hb1.mono HB.out.size))).mono ?_; rintro x w2 ⟨rfl, hb2⟩)
  go_ret
  exact ⟨by simp, hb1.trans (hb2.mono hb1.size)⟩

theorem zeroD (w : World) : Rep w (.agg #[.int .i64 0, .int .i64 0, .int .u64 0, .string ⟨#[]⟩, .slice none 0 0]) (.mk 0 0 0 ⟨#[]⟩ []) := rep_plain w 0 0 (by decide) (by decide)
theorem rsame_any {w0 : World} {Q Q' : Nat → Prop} {o : Out} {v v' : Value} (h : ResV w0 Q v o) (h' : ResV w0 Q' v' o) (w : World) (hb0 : Below w0.heap.size w0 w) :
    Calls Try.prog 10 #[v, v'] w fun x w' => x = .returned (.bool true) ∧ Below w.heap.size w w' := by
  cases o with
  | gave d =>
    obtain ⟨k, m, b, t, a, n, cap, rfl, h2⟩ := h
    obtain ⟨k', m', b', t', a', n', cap', rfl, h2'⟩ := h'
    exact rsame_lit h2.rep h2'.rep w hb0
  | pan p n =>
    obtain rfl : v = _ := h
    obtain rfl : v' = _ := h'
    exact rsame_lit (zeroD w0) (zeroD w0) w hb0
  | err =>
    obtain rfl : v = _ := h
    obtain rfl : v' = _ := h'
    exact rsame_lit (zeroD w0) (zeroD w0) w hb0

set_option maxRecDepth 100000 in
set_option maxHeartbeats 3200000 in
theorem fit_any {w0 : World} {A B : D} {op n : Int} {k m b : Int} {t : ByteArray} {a : Option Addr} {l cap : Nat} {k' m' b' : Int} {t' : ByteArray} {a' : Option Addr} {l' cap' : Nat} (hv : Rep w0 (.agg #[.int .i64 k, .int .i64 m, .int .u64 b, .string t, .slice a l cap]) A) (hv' : Rep w0 (.agg #[.int .i64 k', .int .i64 m', .int .u64 b', .string t', .slice a' l' cap']) B) (w : World) (hb0 : Below w0.heap.size w0 w) :
    Calls Try.prog 6 #[(.agg #[.int .i64 op, .int .i64 k, .int .i64 m, .int .u64 b, .string t, .slice a l cap, .int .i64 k', .int .i64 m', .int .u64 b', .string t', .slice a' l' cap', .int .i64 n])] w fun x w' => ∃ r : Bool, x = .returned (.bool r) ∧ (r = true → Good A ∧ Good B) ∧ Below w.heap.size w w' := by
  have HA := Lib.hid (fun W hW => valid_any hv W hW)
  have HB' := Lib.hid (fun W hW => valid_any hv' W hW)
  have HB := Lib.hid hb0
  clear hv hv' hb0
  obtain ⟨W1, hW1, hb1, hx1⟩ := act1_world w (.int .i64 op) (.int .i64 k) (.int .i64 m) (.int .u64 b) (.string t) (.slice a l cap) (.int .i64 k') (.int .i64 m') (.int .u64 b') (.string t') (.slice a' l' cap') (.int .i64 n)
  have p0 : W1.cell? ⟨w.heap.size, 0, none⟩ = some (.int .i64 op) := hx1.cell 0 rfl
  have p1 : W1.cell? ⟨w.heap.size, 1, none⟩ = some (.int .i64 k) := hx1.cell 1 rfl
  have p2 : W1.cell? ⟨w.heap.size, 2, none⟩ = some (.int .i64 m) := hx1.cell 2 rfl
  have p3 : W1.cell? ⟨w.heap.size, 3, none⟩ = some (.int .u64 b) := hx1.cell 3 rfl
  have p4 : W1.cell? ⟨w.heap.size, 4, none⟩ = some (.string t) := hx1.cell 4 rfl
  have p5 : W1.cell? ⟨w.heap.size, 5, none⟩ = some (.slice a l cap) := hx1.cell 5 rfl
  have p6 : W1.cell? ⟨w.heap.size, 6, none⟩ = some (.int .i64 k') := hx1.cell 6 rfl
  have p7 : W1.cell? ⟨w.heap.size, 7, none⟩ = some (.int .i64 m') := hx1.cell 7 rfl
  have p8 : W1.cell? ⟨w.heap.size, 8, none⟩ = some (.int .u64 b') := hx1.cell 8 rfl
  have p9 : W1.cell? ⟨w.heap.size, 9, none⟩ = some (.string t') := hx1.cell 9 rfl
  have p10 : W1.cell? ⟨w.heap.size, 10, none⟩ = some (.slice a' l' cap') := hx1.cell 10 rfl
  have p11 : W1.cell? ⟨w.heap.size, 11, none⟩ = some (.int .i64 n) := hx1.cell 11 rfl
  go_enter Try.func6, Try.ntmps6
  go_upto_region 1 with fail
  rw [← hW1]
  clear hW1
  go_wp2_with fail
  refine (HA.out _ (HB.out.trans (hb1.mono HB.out.size))).mono ?_
  rintro x w2 ⟨r, rfl, hr, hb2⟩
  have hb12 := hb1.trans (hb2.mono hb1.size)
  have hx2 := hx1.later hb2
  clear p0 p1 p2 p3 p4 p5 p6 p7 p8 p9 p10 p11
  have p0 : w2.cell? ⟨w.heap.size, 0, none⟩ = some (.int .i64 op) := hx2.cell 0 rfl
  have p1 : w2.cell? ⟨w.heap.size, 1, none⟩ = some (.int .i64 k) := hx2.cell 1 rfl
  have p2 : w2.cell? ⟨w.heap.size, 2, none⟩ = some (.int .i64 m) := hx2.cell 2 rfl
  have p3 : w2.cell? ⟨w.heap.size, 3, none⟩ = some (.int .u64 b) := hx2.cell 3 rfl
  have p4 : w2.cell? ⟨w.heap.size, 4, none⟩ = some (.string t) := hx2.cell 4 rfl
  have p5 : w2.cell? ⟨w.heap.size, 5, none⟩ = some (.slice a l cap) := hx2.cell 5 rfl
  have p6 : w2.cell? ⟨w.heap.size, 6, none⟩ = some (.int .i64 k') := hx2.cell 6 rfl
  have p7 : w2.cell? ⟨w.heap.size, 7, none⟩ = some (.int .i64 m') := hx2.cell 7 rfl
  have p8 : w2.cell? ⟨w.heap.size, 8, none⟩ = some (.int .u64 b') := hx2.cell 8 rfl
  have p9 : w2.cell? ⟨w.heap.size, 9, none⟩ = some (.string t') := hx2.cell 9 rfl
  have p10 : w2.cell? ⟨w.heap.size, 10, none⟩ = some (.slice a' l' cap') := hx2.cell 10 rfl
  have p11 : w2.cell? ⟨w.heap.size, 11, none⟩ = some (.int .i64 n) := hx2.cell 11 rfl
  cases r
  · dsimp only
    go_wp2_with fail
    go_ret
    exact ⟨false, rfl, (fun h => by cases h), hb12⟩
  · have hG := hr rfl
    clear hr
    dsimp only
    go_wp2_with (go_at_call 13; refine (HB'.out _ (HB.out.trans (hb12.mono HB.out.size))).mono ?_; rintro x w3 ⟨r', rfl, hr', hb3⟩)
    go_ret
    exact ⟨r', rfl, fun h => ⟨hG, hr' h⟩, hb12.trans (hb3.mono hb12.size)⟩
end Go.Proofs.Yteplhhlgceppkab

/- GuardTries: the law's own walk. -/
namespace Go.Proofs.Yteplhhlgceppkab
open Go Go.RowKit Go.ChangeShapes Go.WideShapes

theorem Row.act1 {w : World} {g : Nat} {T : TypeId} {c0 c1 c2 c3 c4 c5 c6 c7 c8 c9 c10 c11 : Value} (h : Row w g #[c0, c1, c2, c3, c4, c5, c6, c7, c8, c9, c10, c11] T) (x0 x1 x2 x3 x4 : Value) : Row (((((w.setCell ⟨g, 1, none⟩ (x0)).setCell ⟨g, 2, none⟩ (x1)).setCell ⟨g, 3, none⟩ (x2)).setCell ⟨g, 4, none⟩ (x3)).setCell ⟨g, 5, none⟩ (x4)) g #[c0, x0, x1, x2, x3, x4, c6, c7, c8, c9, c10, c11] T := by
  have h1 := ((((h.set 1 x0).set 2 x1).set 3 x2).set 4 x3).set 5 x4
  simpa using h1
theorem heap_act1 (w : World) (g : Nat) (x0 x1 x2 x3 x4 : Value) (i : Nat) (h : i ≠ g) : (((((w.setCell ⟨g, 1, none⟩ (x0)).setCell ⟨g, 2, none⟩ (x1)).setCell ⟨g, 3, none⟩ (x2)).setCell ⟨g, 4, none⟩ (x3)).setCell ⟨g, 5, none⟩ (x4)).heap[i]? = w.heap[i]? := by
  rw [heap_setCell_other _ _ _ _ h, heap_setCell_other _ _ _ _ h, heap_setCell_other _ _ _ _ h, heap_setCell_other _ _ _ _ h, heap_setCell_other _ _ _ _ h]
theorem size_act1 (w : World) (g : Nat) (x0 x1 x2 x3 x4 : Value) : (((((w.setCell ⟨g, 1, none⟩ (x0)).setCell ⟨g, 2, none⟩ (x1)).setCell ⟨g, 3, none⟩ (x2)).setCell ⟨g, 4, none⟩ (x3)).setCell ⟨g, 5, none⟩ (x4)).heap.size = w.heap.size := by simp
theorem RepQ.act1 {w : World} {N g : Nat} {v : Value} {d : D} (h : RepQ w (fun b => N ≤ b) v d) (hb : g < N) (x0 x1 x2 x3 x4 : Value) : RepQ (((((w.setCell ⟨g, 1, none⟩ (x0)).setCell ⟨g, 2, none⟩ (x1)).setCell ⟨g, 3, none⟩ (x2)).setCell ⟨g, 4, none⟩ (x3)).setCell ⟨g, 5, none⟩ (x4)) (fun b => N ≤ b) v d :=
  h.carry (fun i hi _ => ⟨heap_act1 w g _ _ _ _ _ i (by have : N ≤ i := hi; omega), hi⟩) (by rw [size_act1]; exact Nat.le_refl _)
theorem Row.oth1 {w : World} {g b : Nat} {T : TypeId} {cs : Array Value} (h : Row w b cs T) (hb : b ≠ g) (x0 x1 x2 x3 x4 : Value) : Row (((((w.setCell ⟨g, 1, none⟩ (x0)).setCell ⟨g, 2, none⟩ (x1)).setCell ⟨g, 3, none⟩ (x2)).setCell ⟨g, 4, none⟩ (x3)).setCell ⟨g, 5, none⟩ (x4)) b cs T := h.keep (heap_act1 w g _ _ _ _ _ b hb)
theorem below_act1 {B g : Nat} {w w1 : World} (h : Below B w w1) (hb : B ≤ g) (x0 x1 x2 x3 x4 : Value) : Below B w (((((w1.setCell ⟨g, 1, none⟩ (x0)).setCell ⟨g, 2, none⟩ (x1)).setCell ⟨g, 3, none⟩ (x2)).setCell ⟨g, 4, none⟩ (x3)).setCell ⟨g, 5, none⟩ (x4)) :=
  ((((h.setCell (p := ⟨g, 1, none⟩) hb _).setCell (p := ⟨g, 2, none⟩) hb _).setCell (p := ⟨g, 3, none⟩) hb _).setCell (p := ⟨g, 4, none⟩) hb _).setCell (p := ⟨g, 5, none⟩) hb _

theorem Row.act6 {w : World} {g : Nat} {T : TypeId} {c0 c1 c2 c3 c4 c5 c6 c7 c8 c9 c10 c11 : Value} (h : Row w g #[c0, c1, c2, c3, c4, c5, c6, c7, c8, c9, c10, c11] T) (x0 x1 x2 x3 x4 : Value) : Row (((((w.setCell ⟨g, 6, none⟩ (x0)).setCell ⟨g, 7, none⟩ (x1)).setCell ⟨g, 8, none⟩ (x2)).setCell ⟨g, 9, none⟩ (x3)).setCell ⟨g, 10, none⟩ (x4)) g #[c0, c1, c2, c3, c4, c5, x0, x1, x2, x3, x4, c11] T := by
  have h1 := ((((h.set 6 x0).set 7 x1).set 8 x2).set 9 x3).set 10 x4
  simpa using h1
theorem heap_act6 (w : World) (g : Nat) (x0 x1 x2 x3 x4 : Value) (i : Nat) (h : i ≠ g) : (((((w.setCell ⟨g, 6, none⟩ (x0)).setCell ⟨g, 7, none⟩ (x1)).setCell ⟨g, 8, none⟩ (x2)).setCell ⟨g, 9, none⟩ (x3)).setCell ⟨g, 10, none⟩ (x4)).heap[i]? = w.heap[i]? := by
  rw [heap_setCell_other _ _ _ _ h, heap_setCell_other _ _ _ _ h, heap_setCell_other _ _ _ _ h, heap_setCell_other _ _ _ _ h, heap_setCell_other _ _ _ _ h]
theorem size_act6 (w : World) (g : Nat) (x0 x1 x2 x3 x4 : Value) : (((((w.setCell ⟨g, 6, none⟩ (x0)).setCell ⟨g, 7, none⟩ (x1)).setCell ⟨g, 8, none⟩ (x2)).setCell ⟨g, 9, none⟩ (x3)).setCell ⟨g, 10, none⟩ (x4)).heap.size = w.heap.size := by simp
theorem RepQ.act6 {w : World} {N g : Nat} {v : Value} {d : D} (h : RepQ w (fun b => N ≤ b) v d) (hb : g < N) (x0 x1 x2 x3 x4 : Value) : RepQ (((((w.setCell ⟨g, 6, none⟩ (x0)).setCell ⟨g, 7, none⟩ (x1)).setCell ⟨g, 8, none⟩ (x2)).setCell ⟨g, 9, none⟩ (x3)).setCell ⟨g, 10, none⟩ (x4)) (fun b => N ≤ b) v d :=
  h.carry (fun i hi _ => ⟨heap_act6 w g _ _ _ _ _ i (by have : N ≤ i := hi; omega), hi⟩) (by rw [size_act6]; exact Nat.le_refl _)
theorem Row.oth6 {w : World} {g b : Nat} {T : TypeId} {cs : Array Value} (h : Row w b cs T) (hb : b ≠ g) (x0 x1 x2 x3 x4 : Value) : Row (((((w.setCell ⟨g, 6, none⟩ (x0)).setCell ⟨g, 7, none⟩ (x1)).setCell ⟨g, 8, none⟩ (x2)).setCell ⟨g, 9, none⟩ (x3)).setCell ⟨g, 10, none⟩ (x4)) b cs T := h.keep (heap_act6 w g _ _ _ _ _ b hb)
theorem below_act6 {B g : Nat} {w w1 : World} (h : Below B w w1) (hb : B ≤ g) (x0 x1 x2 x3 x4 : Value) : Below B w (((((w1.setCell ⟨g, 6, none⟩ (x0)).setCell ⟨g, 7, none⟩ (x1)).setCell ⟨g, 8, none⟩ (x2)).setCell ⟨g, 9, none⟩ (x3)).setCell ⟨g, 10, none⟩ (x4)) :=
  ((((h.setCell (p := ⟨g, 6, none⟩) hb _).setCell (p := ⟨g, 7, none⟩) hb _).setCell (p := ⟨g, 8, none⟩) hb _).setCell (p := ⟨g, 9, none⟩) hb _).setCell (p := ⟨g, 10, none⟩) hb _

set_option maxRecDepth 100000 in
set_option maxHeartbeats 12800000 in
theorem tries_any {A B : D} {op n : Int} {k m b : Int} {t : ByteArray} {a : Option Addr} {l cap : Nat} {k' m' b' : Int} {t' : ByteArray} {a' : Option Addr} {l' cap' : Nat} {w : World} (hv : Rep w (.agg #[.int .i64 k, .int .i64 m, .int .u64 b, .string t, .slice a l cap]) A) (hv' : Rep w (.agg #[.int .i64 k', .int .i64 m', .int .u64 b', .string t', .slice a' l' cap']) B) :
    Calls Try.prog 3 #[(.agg #[.int .i64 op, .int .i64 k, .int .i64 m, .int .u64 b, .string t, .slice a l cap, .int .i64 k', .int .i64 m', .int .u64 b', .string t', .slice a' l' cap', .int .i64 n])] w fun x w' => x = .returned (.bool true) ∧ Below w.heap.size w w' := by
  have HF := Lib.hid (fun W hW => fit_any (op := op) (n := n) hv hv' W hW)
  obtain ⟨W1, hW1, hb1, hx1⟩ := act1_world w (.int .i64 op) (.int .i64 k) (.int .i64 m) (.int .u64 b) (.string t) (.slice a l cap) (.int .i64 k') (.int .i64 m') (.int .u64 b') (.string t') (.slice a' l' cap') (.int .i64 n)
  have p0 : W1.cell? ⟨w.heap.size, 0, none⟩ = some (.int .i64 op) := hx1.cell 0 rfl
  have p1 : W1.cell? ⟨w.heap.size, 1, none⟩ = some (.int .i64 k) := hx1.cell 1 rfl
  have p2 : W1.cell? ⟨w.heap.size, 2, none⟩ = some (.int .i64 m) := hx1.cell 2 rfl
  have p3 : W1.cell? ⟨w.heap.size, 3, none⟩ = some (.int .u64 b) := hx1.cell 3 rfl
  have p4 : W1.cell? ⟨w.heap.size, 4, none⟩ = some (.string t) := hx1.cell 4 rfl
  have p5 : W1.cell? ⟨w.heap.size, 5, none⟩ = some (.slice a l cap) := hx1.cell 5 rfl
  have p6 : W1.cell? ⟨w.heap.size, 6, none⟩ = some (.int .i64 k') := hx1.cell 6 rfl
  have p7 : W1.cell? ⟨w.heap.size, 7, none⟩ = some (.int .i64 m') := hx1.cell 7 rfl
  have p8 : W1.cell? ⟨w.heap.size, 8, none⟩ = some (.int .u64 b') := hx1.cell 8 rfl
  have p9 : W1.cell? ⟨w.heap.size, 9, none⟩ = some (.string t') := hx1.cell 9 rfl
  have p10 : W1.cell? ⟨w.heap.size, 10, none⟩ = some (.slice a' l' cap') := hx1.cell 10 rfl
  have p11 : W1.cell? ⟨w.heap.size, 11, none⟩ = some (.int .i64 n) := hx1.cell 11 rfl
  go_enter Try.func3, Try.ntmps3
  go_upto_region 1 with fail
  rw [← hW1]
  clear hW1
  go_wp2_with fail
  refine (HF.out _ hb1).mono ?_
  rintro x w2 ⟨r, rfl, hr, hb2⟩
  have hb12 := hb1.trans (hb2.mono hb1.size)
  have hx2 := hx1.later hb2
  have hlt1 := hx1.lt
  clear p0 p1 p2 p3 p4 p5 p6 p7 p8 p9 p10 p11 HF hx1
  cases r
  · dsimp only
    go_wp2_with (go_at_call 7; refine (awake_any _).mono ?_; rintro e w3 ⟨rfl, hb3⟩)
    go_ret
    exact ⟨rfl, hb12.trans (hb3.mono hb12.size)⟩
  · obtain ⟨hA, hB⟩ := hr rfl
    clear hr
    obtain ⟨o, ho⟩ := both_any hA hB op n
    have HT := Lib.hid ho.2
    have HCA := Lib.hid (fun W hW => copy_any hv hA.1 W hW)
    have HCB := Lib.hid (fun W hW => copy_any hv' hB.1 W hW)
    have HV := Lib.hid hv
    have HV' := Lib.hid hv'
    clear hv hv' hA hB ho
    have p0 : w2.cell? ⟨w.heap.size, 0, none⟩ = some (.int .i64 op) := hx2.cell 0 rfl
    have p1 : w2.cell? ⟨w.heap.size, 1, none⟩ = some (.int .i64 k) := hx2.cell 1 rfl
    have p2 : w2.cell? ⟨w.heap.size, 2, none⟩ = some (.int .i64 m) := hx2.cell 2 rfl
    have p3 : w2.cell? ⟨w.heap.size, 3, none⟩ = some (.int .u64 b) := hx2.cell 3 rfl
    have p4 : w2.cell? ⟨w.heap.size, 4, none⟩ = some (.string t) := hx2.cell 4 rfl
    have p5 : w2.cell? ⟨w.heap.size, 5, none⟩ = some (.slice a l cap) := hx2.cell 5 rfl
    have p6 : w2.cell? ⟨w.heap.size, 6, none⟩ = some (.int .i64 k') := hx2.cell 6 rfl
    have p7 : w2.cell? ⟨w.heap.size, 7, none⟩ = some (.int .i64 m') := hx2.cell 7 rfl
    have p8 : w2.cell? ⟨w.heap.size, 8, none⟩ = some (.int .u64 b') := hx2.cell 8 rfl
    have p9 : w2.cell? ⟨w.heap.size, 9, none⟩ = some (.string t') := hx2.cell 9 rfl
    have p10 : w2.cell? ⟨w.heap.size, 10, none⟩ = some (.slice a' l' cap') := hx2.cell 10 rfl
    have p11 : w2.cell? ⟨w.heap.size, 11, none⟩ = some (.int .i64 n) := hx2.cell 11 rfl
    obtain ⟨Wa, hWa⟩ : ∃ Wa, Wa = w2.alloc (.cells #[.int .i64 op, .int .i64 k, .int .i64 m, .int .u64 b, .string t, .slice a l cap, .int .i64 k', .int .i64 m', .int .u64 b', .string t', .slice a' l' cap', .int .i64 n] 27) := ⟨_, rfl⟩
    have hba : Below w2.heap.size w2 Wa := by rw [hWa]; exact (Below.refl _ _).alloc (Nat.le_refl _) _
    have hbw := hb12.trans (hba.mono hb12.size)
    have ha := hx2.later hba
    have hx : Row Wa w2.heap.size #[.int .i64 op, .int .i64 k, .int .i64 m, .int .u64 b, .string t, .slice a l cap, .int .i64 k', .int .i64 m', .int .u64 b', .string t', .slice a' l' cap', .int .i64 n] 27 := by rw [hWa]; exact Row.new _ _ _
    have hXw : w.heap.size < w2.heap.size := hx2.lt
    have hXN : w2.heap.size < Wa.heap.size := hx.lt
    dsimp only
    go_upto_region 4 with fail
    rw [← hWa]
    clear hWa p0 p1 p2 p3 p4 p5 p6 p7 p8 p9 p10 p11
    have hsz : Wa.heap.size ≤ Wa.heap.size := Nat.le_refl _
    generalize hX : w2.heap.size = X at *
    go_cut [3] (fun s3 wc => s3 = .pointer (some ⟨X, 0, none⟩) ∧ ∃ (k5 m5 b5 : Int) (t5 : ByteArray) (a5 : Option Addr) (n5 cap5 : Nat) (k6 m6 b6 : Int) (t6 : ByteArray) (a6 : Option Addr) (n6 cap6 : Nat), Row wc w.heap.size #[.int .i64 op, .int .i64 k, .int .i64 m, .int .u64 b, .string t, .slice a l cap, .int .i64 k', .int .i64 m', .int .u64 b', .string t', .slice a' l' cap', .int .i64 n] 27 ∧ Row wc X #[.int .i64 op, .int .i64 k5, .int .i64 m5, .int .u64 b5, .string t5, .slice a5 n5 cap5, .int .i64 k6, .int .i64 m6, .int .u64 b6, .string t6, .slice a6 n6 cap6, .int .i64 n] 27 ∧ RepQ wc (fun b => Wa.heap.size ≤ b) (.agg #[.int .i64 k5, .int .i64 m5, .int .u64 b5, .string t5, .slice a5 n5 cap5]) A ∧ RepQ wc (fun b => Wa.heap.size ≤ b) (.agg #[.int .i64 k6, .int .i64 m6, .int .u64 b6, .string t6, .slice a6 n6 cap6]) B ∧ Below w.heap.size w wc ∧ Wa.heap.size ≤ wc.heap.size)
    case first =>
      refine wp_region_any (by kernel_rfl) ?_
      have hdr : Below Wa.heap.size Wa Wa.drew := by go_grown
      have ha0 := ha
      have ha := ha.later hdr
      have hx := hx.later hdr
      have hbw := hbw.trans (hdr.mono hbw.size)
      have hsz := hdr.size
      clear hdr
      refine wpAny_take (i := 0) (v := ?_) rfl (by kernel_rfl) (by kernel_rfl) (by kernel_rfl) (fun _ _ _ h => h) (Or.inl ⟨by rfl, ?_⟩) ?_
      rotate_left
      · intro w; go_simp
        try with_reducible rfl
      refine wpAny_take (i := 3) (v := ?_) rfl (by kernel_rfl) (by kernel_rfl) (by kernel_rfl) (fun _ _ _ h => h) (Or.inl ⟨by rfl, ?_⟩) ?_
      rotate_left
      · intro w; go_simp
        try with_reducible rfl
      refine wpAny_ready (rs := [1, 4]) (by kernel_rfl) (by simp) ?_
      refine AllReady.cons rfl (fun K hK => ?_) ?_
      · have q0 : Wa.cell? ⟨w.heap.size, 1, none⟩ = some (.int .i64 k) := ha0.cell 1 rfl
        have q1 : Wa.cell? ⟨w.heap.size, 2, none⟩ = some (.int .i64 m) := ha0.cell 2 rfl
        have q2 : Wa.cell? ⟨w.heap.size, 3, none⟩ = some (.int .u64 b) := ha0.cell 3 rfl
        have q3 : Wa.cell? ⟨w.heap.size, 4, none⟩ = some (.string t) := ha0.cell 4 rfl
        have q4 : Wa.cell? ⟨w.heap.size, 5, none⟩ = some (.slice a l cap) := ha0.cell 5 rfl
        go_simp
        clear q0 q1 q2 q3 q4
        refine hK _ _ ?_
        clear hK K
        refine wpAny_ready (rs := [2, 4]) (by kernel_rfl) (by simp) ?_
        refine AllReady.cons rfl (fun K hK => ?_) ?_
        · go_simp
          go_at_call 8
          refine (HCA.out _ hbw).mono ?_
          rintro e y1 ⟨v', rfl, hA, hbc⟩
          obtain ⟨k5, m5, b5, t5, a5, n5, cap5, rfl⟩ := hA.form
          have hA := hA.wide hsz
          have ha := ha.later hbc
          have hx := hx.later hbc
          have hbw := hbw.trans (hbc.mono hbw.size)
          have hsz := Nat.le_trans hsz hbc.size
          clear hbc
          dsimp only
          refine hK _ _ ?_
          clear hK K
          refine wpAny_take (i := 6) (v := ?_) rfl (by kernel_rfl) (by kernel_rfl) (by kernel_rfl) (fun _ _ _ h => h) (Or.inl ⟨by rfl, ?_⟩) ?_
          rotate_left
          · intro w; go_simp
            try with_reducible rfl
          refine wpAny_ready (rs := [4]) (by kernel_rfl) (by simp) ?_
          refine AllReady.cons rfl (fun K hK => ?_) ?_
          · have q0 : y1.cell? ⟨w.heap.size, 6, none⟩ = some (.int .i64 k') := ha.cell 6 rfl
            have q1 : y1.cell? ⟨w.heap.size, 7, none⟩ = some (.int .i64 m') := ha.cell 7 rfl
            have q2 : y1.cell? ⟨w.heap.size, 8, none⟩ = some (.int .u64 b') := ha.cell 8 rfl
            have q3 : y1.cell? ⟨w.heap.size, 9, none⟩ = some (.string t') := ha.cell 9 rfl
            have q4 : y1.cell? ⟨w.heap.size, 10, none⟩ = some (.slice a' l' cap') := ha.cell 10 rfl
            go_simp
            clear q0 q1 q2 q3 q4
            refine hK _ _ ?_
            clear hK K
            refine wpAny_ready (rs := [5]) (by kernel_rfl) (by simp) ?_
            refine AllReady.cons rfl (fun K hK => ?_) ?_
            · go_simp
              go_at_call 8
              refine (HCB.out _ hbw).mono ?_
              rintro e y2 ⟨v', rfl, hB, hbc⟩
              obtain ⟨k6, m6, b6, t6, a6, n6, cap6, rfl⟩ := hB.form
              have hB := hB.wide hsz
              have hA := hA.later hbc
              have ha := ha.later hbc
              have hx := hx.later hbc
              have hbw := hbw.trans (hbc.mono hbw.size)
              have hsz := Nat.le_trans hsz hbc.size
              clear hbc
              dsimp only
              refine hK _ _ ?_
              clear hK K
              refine wpAny_ready (rs := [7]) (by kernel_rfl) (by simp) ?_
              refine AllReady.cons rfl (fun K hK => ?_) ?_
              · have q0 : y2.cell? ⟨X, 0, none⟩ = some (.int .i64 op) := hx.cell 0 rfl
                have q1 : y2.cell? ⟨X, 1, none⟩ = some (.int .i64 k) := hx.cell 1 rfl
                have q2 : y2.cell? ⟨X, 2, none⟩ = some (.int .i64 m) := hx.cell 2 rfl
                have q3 : y2.cell? ⟨X, 3, none⟩ = some (.int .u64 b) := hx.cell 3 rfl
                have q4 : y2.cell? ⟨X, 4, none⟩ = some (.string t) := hx.cell 4 rfl
                have q5 : y2.cell? ⟨X, 5, none⟩ = some (.slice a l cap) := hx.cell 5 rfl
                have q6 : y2.cell? ⟨X, 6, none⟩ = some (.int .i64 k') := hx.cell 6 rfl
                have q7 : y2.cell? ⟨X, 7, none⟩ = some (.int .i64 m') := hx.cell 7 rfl
                have q8 : y2.cell? ⟨X, 8, none⟩ = some (.int .u64 b') := hx.cell 8 rfl
                have q9 : y2.cell? ⟨X, 9, none⟩ = some (.string t') := hx.cell 9 rfl
                have q10 : y2.cell? ⟨X, 10, none⟩ = some (.slice a' l' cap') := hx.cell 10 rfl
                have q11 : y2.cell? ⟨X, 11, none⟩ = some (.int .i64 n) := hx.cell 11 rfl
                have fz := hx.thaw
                go_simp
                clear fz q0 q1 q2 q3 q4 q5 q6 q7 q8 q9 q10 q11
                refine hK _ _ ?_
                clear hK K
                have ha := ha.oth1 (g := X) (by omega) (.int .i64 k5) (.int .i64 m5) (.int .u64 b5) (.string t5) (.slice a5 n5 cap5)
                have hx := hx.act1 (.int .i64 k5) (.int .i64 m5) (.int .u64 b5) (.string t5) (.slice a5 n5 cap5)
                have hA := hA.act1 (g := X) (by omega) (.int .i64 k5) (.int .i64 m5) (.int .u64 b5) (.string t5) (.slice a5 n5 cap5)
                have hB := hB.act1 (g := X) (by omega) (.int .i64 k5) (.int .i64 m5) (.int .u64 b5) (.string t5) (.slice a5 n5 cap5)
                have hbw := below_act1 (g := X) hbw (by omega) (.int .i64 k5) (.int .i64 m5) (.int .u64 b5) (.string t5) (.slice a5 n5 cap5)
                have hsz := Nat.le_trans hsz (Nat.le_of_eq (size_act1 y2 X (.int .i64 k5) (.int .i64 m5) (.int .u64 b5) (.string t5) (.slice a5 n5 cap5)).symm)
                generalize (((((y2.setCell ⟨X, 1, none⟩ (.int .i64 k5)).setCell ⟨X, 2, none⟩ (.int .i64 m5)).setCell ⟨X, 3, none⟩ (.int .u64 b5)).setCell ⟨X, 4, none⟩ (.string t5)).setCell ⟨X, 5, none⟩ (.slice a5 n5 cap5)) = y3 at ha hx hA hB hbw hsz ⊢
                refine wpAny_take (i := 8) (v := ?_) rfl (by kernel_rfl) (by kernel_rfl) (by kernel_rfl) (fun _ _ _ h => h) (Or.inl ⟨by rfl, ?_⟩) ?_
                rotate_left
                · intro w; go_simp
                  try with_reducible rfl
                refine wpAny_ready (rs := [9]) (by kernel_rfl) (by simp) ?_
                refine AllReady.cons rfl (fun K hK => ?_) ?_
                · have q0 : y3.cell? ⟨X, 0, none⟩ = some (.int .i64 op) := hx.cell 0 rfl
                  have q1 : y3.cell? ⟨X, 1, none⟩ = some (.int .i64 k5) := hx.cell 1 rfl
                  have q2 : y3.cell? ⟨X, 2, none⟩ = some (.int .i64 m5) := hx.cell 2 rfl
                  have q3 : y3.cell? ⟨X, 3, none⟩ = some (.int .u64 b5) := hx.cell 3 rfl
                  have q4 : y3.cell? ⟨X, 4, none⟩ = some (.string t5) := hx.cell 4 rfl
                  have q5 : y3.cell? ⟨X, 5, none⟩ = some (.slice a5 n5 cap5) := hx.cell 5 rfl
                  have q6 : y3.cell? ⟨X, 6, none⟩ = some (.int .i64 k') := hx.cell 6 rfl
                  have q7 : y3.cell? ⟨X, 7, none⟩ = some (.int .i64 m') := hx.cell 7 rfl
                  have q8 : y3.cell? ⟨X, 8, none⟩ = some (.int .u64 b') := hx.cell 8 rfl
                  have q9 : y3.cell? ⟨X, 9, none⟩ = some (.string t') := hx.cell 9 rfl
                  have q10 : y3.cell? ⟨X, 10, none⟩ = some (.slice a' l' cap') := hx.cell 10 rfl
                  have q11 : y3.cell? ⟨X, 11, none⟩ = some (.int .i64 n) := hx.cell 11 rfl
                  have fz := hx.thaw
                  go_simp
                  clear fz q0 q1 q2 q3 q4 q5 q6 q7 q8 q9 q10 q11
                  refine hK _ _ ?_
                  clear hK K
                  have ha := ha.oth6 (g := X) (by omega) (.int .i64 k6) (.int .i64 m6) (.int .u64 b6) (.string t6) (.slice a6 n6 cap6)
                  have hx := hx.act6 (.int .i64 k6) (.int .i64 m6) (.int .u64 b6) (.string t6) (.slice a6 n6 cap6)
                  have hA := hA.act6 (g := X) (by omega) (.int .i64 k6) (.int .i64 m6) (.int .u64 b6) (.string t6) (.slice a6 n6 cap6)
                  have hB := hB.act6 (g := X) (by omega) (.int .i64 k6) (.int .i64 m6) (.int .u64 b6) (.string t6) (.slice a6 n6 cap6)
                  have hbw := below_act6 (g := X) hbw (by omega) (.int .i64 k6) (.int .i64 m6) (.int .u64 b6) (.string t6) (.slice a6 n6 cap6)
                  have hsz := Nat.le_trans hsz (Nat.le_of_eq (size_act6 y3 X (.int .i64 k6) (.int .i64 m6) (.int .u64 b6) (.string t6) (.slice a6 n6 cap6)).symm)
                  generalize (((((y3.setCell ⟨X, 6, none⟩ (.int .i64 k6)).setCell ⟨X, 7, none⟩ (.int .i64 m6)).setCell ⟨X, 8, none⟩ (.int .u64 b6)).setCell ⟨X, 9, none⟩ (.string t6)).setCell ⟨X, 10, none⟩ (.slice a6 n6 cap6)) = y4 at ha hx hA hB hbw hsz ⊢
                  refine wpAny_done (by kernel_rfl) ?_ _
                  go_wp2_with fail
                  go_meet
                  case rel => exact ⟨rfl, _, _, _, _, _, _, _, _, _, _, _, _, _, _, ha, hx, hA, hB, hbw, hsz⟩
                exact AllReady.nil
              exact AllReady.nil
            exact AllReady.nil
          exact AllReady.nil
        refine AllReady.cons rfl (fun K hK => ?_) ?_
        · have q0 : Wa.cell? ⟨w.heap.size, 6, none⟩ = some (.int .i64 k') := ha0.cell 6 rfl
          have q1 : Wa.cell? ⟨w.heap.size, 7, none⟩ = some (.int .i64 m') := ha0.cell 7 rfl
          have q2 : Wa.cell? ⟨w.heap.size, 8, none⟩ = some (.int .u64 b') := ha0.cell 8 rfl
          have q3 : Wa.cell? ⟨w.heap.size, 9, none⟩ = some (.string t') := ha0.cell 9 rfl
          have q4 : Wa.cell? ⟨w.heap.size, 10, none⟩ = some (.slice a' l' cap') := ha0.cell 10 rfl
          go_simp
          clear q0 q1 q2 q3 q4
          refine hK _ _ ?_
          clear hK K
          refine wpAny_ready (rs := [2]) (by kernel_rfl) (by simp) ?_
          refine AllReady.cons rfl (fun K hK => ?_) ?_
          · go_simp
            go_at_call 8
            refine (HCA.out _ hbw).mono ?_
            rintro e y5 ⟨v', rfl, hA, hbc⟩
            obtain ⟨k5, m5, b5, t5, a5, n5, cap5, rfl⟩ := hA.form
            have hA := hA.wide hsz
            have ha := ha.later hbc
            have hx := hx.later hbc
            have hbw := hbw.trans (hbc.mono hbw.size)
            have hsz := Nat.le_trans hsz hbc.size
            clear hbc
            dsimp only
            refine hK _ _ ?_
            clear hK K
            refine wpAny_take (i := 6) (v := ?_) rfl (by kernel_rfl) (by kernel_rfl) (by kernel_rfl) (fun _ _ _ h => h) (Or.inl ⟨by rfl, ?_⟩) ?_
            rotate_left
            · intro w; go_simp
              try with_reducible rfl
            refine wpAny_ready (rs := [5]) (by kernel_rfl) (by simp) ?_
            refine AllReady.cons rfl (fun K hK => ?_) ?_
            · go_simp
              go_at_call 8
              refine (HCB.out _ hbw).mono ?_
              rintro e y6 ⟨v', rfl, hB, hbc⟩
              obtain ⟨k6, m6, b6, t6, a6, n6, cap6, rfl⟩ := hB.form
              have hB := hB.wide hsz
              have hA := hA.later hbc
              have ha := ha.later hbc
              have hx := hx.later hbc
              have hbw := hbw.trans (hbc.mono hbw.size)
              have hsz := Nat.le_trans hsz hbc.size
              clear hbc
              dsimp only
              refine hK _ _ ?_
              clear hK K
              refine wpAny_ready (rs := [7]) (by kernel_rfl) (by simp) ?_
              refine AllReady.cons rfl (fun K hK => ?_) ?_
              · have q0 : y6.cell? ⟨X, 0, none⟩ = some (.int .i64 op) := hx.cell 0 rfl
                have q1 : y6.cell? ⟨X, 1, none⟩ = some (.int .i64 k) := hx.cell 1 rfl
                have q2 : y6.cell? ⟨X, 2, none⟩ = some (.int .i64 m) := hx.cell 2 rfl
                have q3 : y6.cell? ⟨X, 3, none⟩ = some (.int .u64 b) := hx.cell 3 rfl
                have q4 : y6.cell? ⟨X, 4, none⟩ = some (.string t) := hx.cell 4 rfl
                have q5 : y6.cell? ⟨X, 5, none⟩ = some (.slice a l cap) := hx.cell 5 rfl
                have q6 : y6.cell? ⟨X, 6, none⟩ = some (.int .i64 k') := hx.cell 6 rfl
                have q7 : y6.cell? ⟨X, 7, none⟩ = some (.int .i64 m') := hx.cell 7 rfl
                have q8 : y6.cell? ⟨X, 8, none⟩ = some (.int .u64 b') := hx.cell 8 rfl
                have q9 : y6.cell? ⟨X, 9, none⟩ = some (.string t') := hx.cell 9 rfl
                have q10 : y6.cell? ⟨X, 10, none⟩ = some (.slice a' l' cap') := hx.cell 10 rfl
                have q11 : y6.cell? ⟨X, 11, none⟩ = some (.int .i64 n) := hx.cell 11 rfl
                have fz := hx.thaw
                go_simp
                clear fz q0 q1 q2 q3 q4 q5 q6 q7 q8 q9 q10 q11
                refine hK _ _ ?_
                clear hK K
                have ha := ha.oth1 (g := X) (by omega) (.int .i64 k5) (.int .i64 m5) (.int .u64 b5) (.string t5) (.slice a5 n5 cap5)
                have hx := hx.act1 (.int .i64 k5) (.int .i64 m5) (.int .u64 b5) (.string t5) (.slice a5 n5 cap5)
                have hA := hA.act1 (g := X) (by omega) (.int .i64 k5) (.int .i64 m5) (.int .u64 b5) (.string t5) (.slice a5 n5 cap5)
                have hB := hB.act1 (g := X) (by omega) (.int .i64 k5) (.int .i64 m5) (.int .u64 b5) (.string t5) (.slice a5 n5 cap5)
                have hbw := below_act1 (g := X) hbw (by omega) (.int .i64 k5) (.int .i64 m5) (.int .u64 b5) (.string t5) (.slice a5 n5 cap5)
                have hsz := Nat.le_trans hsz (Nat.le_of_eq (size_act1 y6 X (.int .i64 k5) (.int .i64 m5) (.int .u64 b5) (.string t5) (.slice a5 n5 cap5)).symm)
                generalize (((((y6.setCell ⟨X, 1, none⟩ (.int .i64 k5)).setCell ⟨X, 2, none⟩ (.int .i64 m5)).setCell ⟨X, 3, none⟩ (.int .u64 b5)).setCell ⟨X, 4, none⟩ (.string t5)).setCell ⟨X, 5, none⟩ (.slice a5 n5 cap5)) = y7 at ha hx hA hB hbw hsz ⊢
                refine wpAny_take (i := 8) (v := ?_) rfl (by kernel_rfl) (by kernel_rfl) (by kernel_rfl) (fun _ _ _ h => h) (Or.inl ⟨by rfl, ?_⟩) ?_
                rotate_left
                · intro w; go_simp
                  try with_reducible rfl
                refine wpAny_ready (rs := [9]) (by kernel_rfl) (by simp) ?_
                refine AllReady.cons rfl (fun K hK => ?_) ?_
                · have q0 : y7.cell? ⟨X, 0, none⟩ = some (.int .i64 op) := hx.cell 0 rfl
                  have q1 : y7.cell? ⟨X, 1, none⟩ = some (.int .i64 k5) := hx.cell 1 rfl
                  have q2 : y7.cell? ⟨X, 2, none⟩ = some (.int .i64 m5) := hx.cell 2 rfl
                  have q3 : y7.cell? ⟨X, 3, none⟩ = some (.int .u64 b5) := hx.cell 3 rfl
                  have q4 : y7.cell? ⟨X, 4, none⟩ = some (.string t5) := hx.cell 4 rfl
                  have q5 : y7.cell? ⟨X, 5, none⟩ = some (.slice a5 n5 cap5) := hx.cell 5 rfl
                  have q6 : y7.cell? ⟨X, 6, none⟩ = some (.int .i64 k') := hx.cell 6 rfl
                  have q7 : y7.cell? ⟨X, 7, none⟩ = some (.int .i64 m') := hx.cell 7 rfl
                  have q8 : y7.cell? ⟨X, 8, none⟩ = some (.int .u64 b') := hx.cell 8 rfl
                  have q9 : y7.cell? ⟨X, 9, none⟩ = some (.string t') := hx.cell 9 rfl
                  have q10 : y7.cell? ⟨X, 10, none⟩ = some (.slice a' l' cap') := hx.cell 10 rfl
                  have q11 : y7.cell? ⟨X, 11, none⟩ = some (.int .i64 n) := hx.cell 11 rfl
                  have fz := hx.thaw
                  go_simp
                  clear fz q0 q1 q2 q3 q4 q5 q6 q7 q8 q9 q10 q11
                  refine hK _ _ ?_
                  clear hK K
                  have ha := ha.oth6 (g := X) (by omega) (.int .i64 k6) (.int .i64 m6) (.int .u64 b6) (.string t6) (.slice a6 n6 cap6)
                  have hx := hx.act6 (.int .i64 k6) (.int .i64 m6) (.int .u64 b6) (.string t6) (.slice a6 n6 cap6)
                  have hA := hA.act6 (g := X) (by omega) (.int .i64 k6) (.int .i64 m6) (.int .u64 b6) (.string t6) (.slice a6 n6 cap6)
                  have hB := hB.act6 (g := X) (by omega) (.int .i64 k6) (.int .i64 m6) (.int .u64 b6) (.string t6) (.slice a6 n6 cap6)
                  have hbw := below_act6 (g := X) hbw (by omega) (.int .i64 k6) (.int .i64 m6) (.int .u64 b6) (.string t6) (.slice a6 n6 cap6)
                  have hsz := Nat.le_trans hsz (Nat.le_of_eq (size_act6 y7 X (.int .i64 k6) (.int .i64 m6) (.int .u64 b6) (.string t6) (.slice a6 n6 cap6)).symm)
                  generalize (((((y7.setCell ⟨X, 6, none⟩ (.int .i64 k6)).setCell ⟨X, 7, none⟩ (.int .i64 m6)).setCell ⟨X, 8, none⟩ (.int .u64 b6)).setCell ⟨X, 9, none⟩ (.string t6)).setCell ⟨X, 10, none⟩ (.slice a6 n6 cap6)) = y8 at ha hx hA hB hbw hsz ⊢
                  refine wpAny_done (by kernel_rfl) ?_ _
                  go_wp2_with fail
                  go_meet
                  case rel => exact ⟨rfl, _, _, _, _, _, _, _, _, _, _, _, _, _, _, ha, hx, hA, hB, hbw, hsz⟩
                exact AllReady.nil
              exact AllReady.nil
            exact AllReady.nil
          exact AllReady.nil
        exact AllReady.nil
      refine AllReady.cons rfl (fun K hK => ?_) ?_
      · have q0 : Wa.cell? ⟨w.heap.size, 6, none⟩ = some (.int .i64 k') := ha0.cell 6 rfl
        have q1 : Wa.cell? ⟨w.heap.size, 7, none⟩ = some (.int .i64 m') := ha0.cell 7 rfl
        have q2 : Wa.cell? ⟨w.heap.size, 8, none⟩ = some (.int .u64 b') := ha0.cell 8 rfl
        have q3 : Wa.cell? ⟨w.heap.size, 9, none⟩ = some (.string t') := ha0.cell 9 rfl
        have q4 : Wa.cell? ⟨w.heap.size, 10, none⟩ = some (.slice a' l' cap') := ha0.cell 10 rfl
        go_simp
        clear q0 q1 q2 q3 q4
        refine hK _ _ ?_
        clear hK K
        refine wpAny_ready (rs := [1]) (by kernel_rfl) (by simp) ?_
        refine AllReady.cons rfl (fun K hK => ?_) ?_
        · have q0 : Wa.cell? ⟨w.heap.size, 1, none⟩ = some (.int .i64 k) := ha0.cell 1 rfl
          have q1 : Wa.cell? ⟨w.heap.size, 2, none⟩ = some (.int .i64 m) := ha0.cell 2 rfl
          have q2 : Wa.cell? ⟨w.heap.size, 3, none⟩ = some (.int .u64 b) := ha0.cell 3 rfl
          have q3 : Wa.cell? ⟨w.heap.size, 4, none⟩ = some (.string t) := ha0.cell 4 rfl
          have q4 : Wa.cell? ⟨w.heap.size, 5, none⟩ = some (.slice a l cap) := ha0.cell 5 rfl
          go_simp
          clear q0 q1 q2 q3 q4
          refine hK _ _ ?_
          clear hK K
          refine wpAny_ready (rs := [2]) (by kernel_rfl) (by simp) ?_
          refine AllReady.cons rfl (fun K hK => ?_) ?_
          · go_simp
            go_at_call 8
            refine (HCA.out _ hbw).mono ?_
            rintro e y9 ⟨v', rfl, hA, hbc⟩
            obtain ⟨k5, m5, b5, t5, a5, n5, cap5, rfl⟩ := hA.form
            have hA := hA.wide hsz
            have ha := ha.later hbc
            have hx := hx.later hbc
            have hbw := hbw.trans (hbc.mono hbw.size)
            have hsz := Nat.le_trans hsz hbc.size
            clear hbc
            dsimp only
            refine hK _ _ ?_
            clear hK K
            refine wpAny_take (i := 6) (v := ?_) rfl (by kernel_rfl) (by kernel_rfl) (by kernel_rfl) (fun _ _ _ h => h) (Or.inl ⟨by rfl, ?_⟩) ?_
            rotate_left
            · intro w; go_simp
              try with_reducible rfl
            refine wpAny_ready (rs := [5]) (by kernel_rfl) (by simp) ?_
            refine AllReady.cons rfl (fun K hK => ?_) ?_
            · go_simp
              go_at_call 8
              refine (HCB.out _ hbw).mono ?_
              rintro e y10 ⟨v', rfl, hB, hbc⟩
              obtain ⟨k6, m6, b6, t6, a6, n6, cap6, rfl⟩ := hB.form
              have hB := hB.wide hsz
              have hA := hA.later hbc
              have ha := ha.later hbc
              have hx := hx.later hbc
              have hbw := hbw.trans (hbc.mono hbw.size)
              have hsz := Nat.le_trans hsz hbc.size
              clear hbc
              dsimp only
              refine hK _ _ ?_
              clear hK K
              refine wpAny_ready (rs := [7]) (by kernel_rfl) (by simp) ?_
              refine AllReady.cons rfl (fun K hK => ?_) ?_
              · have q0 : y10.cell? ⟨X, 0, none⟩ = some (.int .i64 op) := hx.cell 0 rfl
                have q1 : y10.cell? ⟨X, 1, none⟩ = some (.int .i64 k) := hx.cell 1 rfl
                have q2 : y10.cell? ⟨X, 2, none⟩ = some (.int .i64 m) := hx.cell 2 rfl
                have q3 : y10.cell? ⟨X, 3, none⟩ = some (.int .u64 b) := hx.cell 3 rfl
                have q4 : y10.cell? ⟨X, 4, none⟩ = some (.string t) := hx.cell 4 rfl
                have q5 : y10.cell? ⟨X, 5, none⟩ = some (.slice a l cap) := hx.cell 5 rfl
                have q6 : y10.cell? ⟨X, 6, none⟩ = some (.int .i64 k') := hx.cell 6 rfl
                have q7 : y10.cell? ⟨X, 7, none⟩ = some (.int .i64 m') := hx.cell 7 rfl
                have q8 : y10.cell? ⟨X, 8, none⟩ = some (.int .u64 b') := hx.cell 8 rfl
                have q9 : y10.cell? ⟨X, 9, none⟩ = some (.string t') := hx.cell 9 rfl
                have q10 : y10.cell? ⟨X, 10, none⟩ = some (.slice a' l' cap') := hx.cell 10 rfl
                have q11 : y10.cell? ⟨X, 11, none⟩ = some (.int .i64 n) := hx.cell 11 rfl
                have fz := hx.thaw
                go_simp
                clear fz q0 q1 q2 q3 q4 q5 q6 q7 q8 q9 q10 q11
                refine hK _ _ ?_
                clear hK K
                have ha := ha.oth1 (g := X) (by omega) (.int .i64 k5) (.int .i64 m5) (.int .u64 b5) (.string t5) (.slice a5 n5 cap5)
                have hx := hx.act1 (.int .i64 k5) (.int .i64 m5) (.int .u64 b5) (.string t5) (.slice a5 n5 cap5)
                have hA := hA.act1 (g := X) (by omega) (.int .i64 k5) (.int .i64 m5) (.int .u64 b5) (.string t5) (.slice a5 n5 cap5)
                have hB := hB.act1 (g := X) (by omega) (.int .i64 k5) (.int .i64 m5) (.int .u64 b5) (.string t5) (.slice a5 n5 cap5)
                have hbw := below_act1 (g := X) hbw (by omega) (.int .i64 k5) (.int .i64 m5) (.int .u64 b5) (.string t5) (.slice a5 n5 cap5)
                have hsz := Nat.le_trans hsz (Nat.le_of_eq (size_act1 y10 X (.int .i64 k5) (.int .i64 m5) (.int .u64 b5) (.string t5) (.slice a5 n5 cap5)).symm)
                generalize (((((y10.setCell ⟨X, 1, none⟩ (.int .i64 k5)).setCell ⟨X, 2, none⟩ (.int .i64 m5)).setCell ⟨X, 3, none⟩ (.int .u64 b5)).setCell ⟨X, 4, none⟩ (.string t5)).setCell ⟨X, 5, none⟩ (.slice a5 n5 cap5)) = y11 at ha hx hA hB hbw hsz ⊢
                refine wpAny_take (i := 8) (v := ?_) rfl (by kernel_rfl) (by kernel_rfl) (by kernel_rfl) (fun _ _ _ h => h) (Or.inl ⟨by rfl, ?_⟩) ?_
                rotate_left
                · intro w; go_simp
                  try with_reducible rfl
                refine wpAny_ready (rs := [9]) (by kernel_rfl) (by simp) ?_
                refine AllReady.cons rfl (fun K hK => ?_) ?_
                · have q0 : y11.cell? ⟨X, 0, none⟩ = some (.int .i64 op) := hx.cell 0 rfl
                  have q1 : y11.cell? ⟨X, 1, none⟩ = some (.int .i64 k5) := hx.cell 1 rfl
                  have q2 : y11.cell? ⟨X, 2, none⟩ = some (.int .i64 m5) := hx.cell 2 rfl
                  have q3 : y11.cell? ⟨X, 3, none⟩ = some (.int .u64 b5) := hx.cell 3 rfl
                  have q4 : y11.cell? ⟨X, 4, none⟩ = some (.string t5) := hx.cell 4 rfl
                  have q5 : y11.cell? ⟨X, 5, none⟩ = some (.slice a5 n5 cap5) := hx.cell 5 rfl
                  have q6 : y11.cell? ⟨X, 6, none⟩ = some (.int .i64 k') := hx.cell 6 rfl
                  have q7 : y11.cell? ⟨X, 7, none⟩ = some (.int .i64 m') := hx.cell 7 rfl
                  have q8 : y11.cell? ⟨X, 8, none⟩ = some (.int .u64 b') := hx.cell 8 rfl
                  have q9 : y11.cell? ⟨X, 9, none⟩ = some (.string t') := hx.cell 9 rfl
                  have q10 : y11.cell? ⟨X, 10, none⟩ = some (.slice a' l' cap') := hx.cell 10 rfl
                  have q11 : y11.cell? ⟨X, 11, none⟩ = some (.int .i64 n) := hx.cell 11 rfl
                  have fz := hx.thaw
                  go_simp
                  clear fz q0 q1 q2 q3 q4 q5 q6 q7 q8 q9 q10 q11
                  refine hK _ _ ?_
                  clear hK K
                  have ha := ha.oth6 (g := X) (by omega) (.int .i64 k6) (.int .i64 m6) (.int .u64 b6) (.string t6) (.slice a6 n6 cap6)
                  have hx := hx.act6 (.int .i64 k6) (.int .i64 m6) (.int .u64 b6) (.string t6) (.slice a6 n6 cap6)
                  have hA := hA.act6 (g := X) (by omega) (.int .i64 k6) (.int .i64 m6) (.int .u64 b6) (.string t6) (.slice a6 n6 cap6)
                  have hB := hB.act6 (g := X) (by omega) (.int .i64 k6) (.int .i64 m6) (.int .u64 b6) (.string t6) (.slice a6 n6 cap6)
                  have hbw := below_act6 (g := X) hbw (by omega) (.int .i64 k6) (.int .i64 m6) (.int .u64 b6) (.string t6) (.slice a6 n6 cap6)
                  have hsz := Nat.le_trans hsz (Nat.le_of_eq (size_act6 y11 X (.int .i64 k6) (.int .i64 m6) (.int .u64 b6) (.string t6) (.slice a6 n6 cap6)).symm)
                  generalize (((((y11.setCell ⟨X, 6, none⟩ (.int .i64 k6)).setCell ⟨X, 7, none⟩ (.int .i64 m6)).setCell ⟨X, 8, none⟩ (.int .u64 b6)).setCell ⟨X, 9, none⟩ (.string t6)).setCell ⟨X, 10, none⟩ (.slice a6 n6 cap6)) = y12 at ha hx hA hB hbw hsz ⊢
                  refine wpAny_done (by kernel_rfl) ?_ _
                  go_wp2_with fail
                  go_meet
                  case rel => exact ⟨rfl, _, _, _, _, _, _, _, _, _, _, _, _, _, _, ha, hx, hA, hB, hbw, hsz⟩
                exact AllReady.nil
              exact AllReady.nil
            exact AllReady.nil
          exact AllReady.nil
        exact AllReady.nil
      exact AllReady.nil
    case rest =>
      obtain ⟨rfl, k5, m5, b5, t5, a5, n5, cap5, k6, m6, b6, t6, a6, n6, cap6, ha, hx, hA, hB, hbw, hsz⟩ := hcut
      obtain ⟨Wc, rfl⟩ : ∃ Wc : World, Wc = wc := ⟨_, rfl⟩
      have p0 : Wc.cell? ⟨X, 0, none⟩ = some (.int .i64 op) := hx.cell 0 rfl
      have p1 : Wc.cell? ⟨X, 1, none⟩ = some (.int .i64 k5) := hx.cell 1 rfl
      have p2 : Wc.cell? ⟨X, 2, none⟩ = some (.int .i64 m5) := hx.cell 2 rfl
      have p3 : Wc.cell? ⟨X, 3, none⟩ = some (.int .u64 b5) := hx.cell 3 rfl
      have p4 : Wc.cell? ⟨X, 4, none⟩ = some (.string t5) := hx.cell 4 rfl
      have p5 : Wc.cell? ⟨X, 5, none⟩ = some (.slice a5 n5 cap5) := hx.cell 5 rfl
      have p6 : Wc.cell? ⟨X, 6, none⟩ = some (.int .i64 k6) := hx.cell 6 rfl
      have p7 : Wc.cell? ⟨X, 7, none⟩ = some (.int .i64 m6) := hx.cell 7 rfl
      have p8 : Wc.cell? ⟨X, 8, none⟩ = some (.int .u64 b6) := hx.cell 8 rfl
      have p9 : Wc.cell? ⟨X, 9, none⟩ = some (.string t6) := hx.cell 9 rfl
      have p10 : Wc.cell? ⟨X, 10, none⟩ = some (.slice a6 n6 cap6) := hx.cell 10 rfl
      have p11 : Wc.cell? ⟨X, 11, none⟩ = some (.int .i64 n) := hx.cell 11 rfl
      have HG := Lib.hid (HT.out Wc _ _ _ _ _ _ _ _ _ _ _ _ _ _ hA.rep hB.rep)
      go_wp2_with fail
      refine (HG.out _ (Below.refl _ _)).1.mono ?_
      rintro e w4 ⟨v4, rfl, hg4, hb4⟩
      have hgf := hg4.form
      obtain ⟨e4, c4, p4', n4, h4, k7, m7, b7, t7, a7, l7, cap7, rfl⟩ := hgf
      have ha4 := ha.later hb4
      have hx4 := hx.later hb4
      have hbw4 := hbw.trans (hb4.mono hbw.size)
      clear p0 p1 p2 p3 p4 p5 p6 p7 p8 p9 p10 p11
      obtain ⟨Wb, hWb⟩ : ∃ Wb, Wb = w4.alloc (.cells #[.int .i64 e4, .int .i64 c4, .int .i64 p4', .int .i64 n4, .bool h4, .int .i64 k7, .int .i64 m7, .int .u64 b7, .string t7, .slice a7 l7 cap7] 35) := ⟨_, rfl⟩
      have hbb : Below w4.heap.size w4 Wb := by rw [hWb]; exact (Below.refl _ _).alloc (Nat.le_refl _) _
      have hbcb := hb4.trans (hbb.mono hb4.size)
      have hbwb := hbw4.trans (hbb.mono hbw4.size)
      have ha5 := ha4.later hbb
      have hx5 := hx4.later hbb
      have hr5 : Row Wb w4.heap.size #[.int .i64 e4, .int .i64 c4, .int .i64 p4', .int .i64 n4, .bool h4, .int .i64 k7, .int .i64 m7, .int .u64 b7, .string t7, .slice a7 l7 cap7] 35 := by rw [hWb]; exact Row.new _ _ _
      have hg5 := hg4.later hbb
      dsimp only
      go_upto_region 6 with fail
      rw [← hWb]
      clear hWb
      go_cut [24] (fun s24 wc => s24 = .bool false ∧ Below Wb.heap.size Wb wc)
      case first =>
        have p0 : Wb.cell? ⟨w.heap.size, 0, none⟩ = some (.int .i64 op) := ha5.cell 0 rfl
        have p1 : Wb.cell? ⟨w.heap.size, 1, none⟩ = some (.int .i64 k) := ha5.cell 1 rfl
        have p2 : Wb.cell? ⟨w.heap.size, 2, none⟩ = some (.int .i64 m) := ha5.cell 2 rfl
        have p3 : Wb.cell? ⟨w.heap.size, 3, none⟩ = some (.int .u64 b) := ha5.cell 3 rfl
        have p4 : Wb.cell? ⟨w.heap.size, 4, none⟩ = some (.string t) := ha5.cell 4 rfl
        have p5 : Wb.cell? ⟨w.heap.size, 5, none⟩ = some (.slice a l cap) := ha5.cell 5 rfl
        have p6 : Wb.cell? ⟨w.heap.size, 6, none⟩ = some (.int .i64 k') := ha5.cell 6 rfl
        have p7 : Wb.cell? ⟨w.heap.size, 7, none⟩ = some (.int .i64 m') := ha5.cell 7 rfl
        have p8 : Wb.cell? ⟨w.heap.size, 8, none⟩ = some (.int .u64 b') := ha5.cell 8 rfl
        have p9 : Wb.cell? ⟨w.heap.size, 9, none⟩ = some (.string t') := ha5.cell 9 rfl
        have p10 : Wb.cell? ⟨w.heap.size, 10, none⟩ = some (.slice a' l' cap') := ha5.cell 10 rfl
        have p11 : Wb.cell? ⟨w.heap.size, 11, none⟩ = some (.int .i64 n) := ha5.cell 11 rfl
        have q0 : Wb.cell? ⟨w4.heap.size, 0, none⟩ = some (.int .i64 e4) := hr5.cell 0 rfl
        have q1 : Wb.cell? ⟨w4.heap.size, 1, none⟩ = some (.int .i64 c4) := hr5.cell 1 rfl
        have q2 : Wb.cell? ⟨w4.heap.size, 2, none⟩ = some (.int .i64 p4') := hr5.cell 2 rfl
        have q3 : Wb.cell? ⟨w4.heap.size, 3, none⟩ = some (.int .i64 n4) := hr5.cell 3 rfl
        have q4 : Wb.cell? ⟨w4.heap.size, 4, none⟩ = some (.bool h4) := hr5.cell 4 rfl
        have q5 : Wb.cell? ⟨w4.heap.size, 5, none⟩ = some (.int .i64 k7) := hr5.cell 5 rfl
        have q6 : Wb.cell? ⟨w4.heap.size, 6, none⟩ = some (.int .i64 m7) := hr5.cell 6 rfl
        have q7 : Wb.cell? ⟨w4.heap.size, 7, none⟩ = some (.int .u64 b7) := hr5.cell 7 rfl
        have q8 : Wb.cell? ⟨w4.heap.size, 8, none⟩ = some (.string t7) := hr5.cell 8 rfl
        have q9 : Wb.cell? ⟨w4.heap.size, 9, none⟩ = some (.slice a7 l7 cap7) := hr5.cell 9 rfl
        have HR := Lib.hid (HT.out w _ _ _ _ _ _ _ _ _ _ _ _ _ _ HV.out HV'.out)
        have HS := Lib.hid (fun (W : World) (v' : Value) (Q' : Nat → Prop) (hW : Below Wb.heap.size Wb W) (h' : ResV W Q' v' o) => rsame_any (hg5.later hW) h' W (Below.refl _ _))
        have hdr : Below Wb.heap.size Wb Wb.drew := by go_grown
        have hbwe := hbwb.trans (hdr.mono hbwb.size)
        go_region_with (first | (go_at_call 11; refine (HR.out _ hbwe).2.mono ?_; rintro e w5 ⟨v5, rfl, hg6, hb5'⟩; have hb5 := hdr.trans (hb5'.mono hdr.size); have hr6 := hr5.later hb5; have z0 : w5.cell? ⟨w4.heap.size, 0, none⟩ = some (.int .i64 e4) := hr6.cell 0 rfl; have z1 : w5.cell? ⟨w4.heap.size, 1, none⟩ = some (.int .i64 c4) := hr6.cell 1 rfl; have z2 : w5.cell? ⟨w4.heap.size, 2, none⟩ = some (.int .i64 p4') := hr6.cell 2 rfl; have z3 : w5.cell? ⟨w4.heap.size, 3, none⟩ = some (.int .i64 n4) := hr6.cell 3 rfl; have z4 : w5.cell? ⟨w4.heap.size, 4, none⟩ = some (.bool h4) := hr6.cell 4 rfl; have z5 : w5.cell? ⟨w4.heap.size, 5, none⟩ = some (.int .i64 k7) := hr6.cell 5 rfl; have z6 : w5.cell? ⟨w4.heap.size, 6, none⟩ = some (.int .i64 m7) := hr6.cell 6 rfl; have z7 : w5.cell? ⟨w4.heap.size, 7, none⟩ = some (.int .u64 b7) := hr6.cell 7 rfl; have z8 : w5.cell? ⟨w4.heap.size, 8, none⟩ = some (.string t7) := hr6.cell 8 rfl; have z9 : w5.cell? ⟨w4.heap.size, 9, none⟩ = some (.slice a7 l7 cap7) := hr6.cell 9 rfl; dsimp only) | (go_at_call 10; refine (HS.out _ _ _ hb5 hg6).mono ?_; rintro e w6 ⟨rfl, hb6⟩; have hbd := hb5.trans (hb6.mono hb5.size); dsimp only))
        all_goals (go_wp2_with fail; go_meet; exact ⟨rfl, hbd⟩)
      case rest =>
        obtain ⟨rfl, hbd⟩ := hcut
        have ha6 := ha5.later hbd
        have hx6 := hx5.later hbd
        have hbwd := hbwb.trans (hbd.mono hbwb.size)
        have hbcd := hbcb.trans (hbd.mono hbcb.size)
        have hcd := hbw.size
        have p0 : wc.cell? ⟨w.heap.size, 0, none⟩ = some (.int .i64 op) := ha6.cell 0 rfl
        have p1 : wc.cell? ⟨w.heap.size, 1, none⟩ = some (.int .i64 k) := ha6.cell 1 rfl
        have p2 : wc.cell? ⟨w.heap.size, 2, none⟩ = some (.int .i64 m) := ha6.cell 2 rfl
        have p3 : wc.cell? ⟨w.heap.size, 3, none⟩ = some (.int .u64 b) := ha6.cell 3 rfl
        have p4 : wc.cell? ⟨w.heap.size, 4, none⟩ = some (.string t) := ha6.cell 4 rfl
        have p5 : wc.cell? ⟨w.heap.size, 5, none⟩ = some (.slice a l cap) := ha6.cell 5 rfl
        have p6 : wc.cell? ⟨w.heap.size, 6, none⟩ = some (.int .i64 k') := ha6.cell 6 rfl
        have p7 : wc.cell? ⟨w.heap.size, 7, none⟩ = some (.int .i64 m') := ha6.cell 7 rfl
        have p8 : wc.cell? ⟨w.heap.size, 8, none⟩ = some (.int .u64 b') := ha6.cell 8 rfl
        have p9 : wc.cell? ⟨w.heap.size, 9, none⟩ = some (.string t') := ha6.cell 9 rfl
        have p10 : wc.cell? ⟨w.heap.size, 10, none⟩ = some (.slice a' l' cap') := ha6.cell 10 rfl
        have p11 : wc.cell? ⟨w.heap.size, 11, none⟩ = some (.int .i64 n) := ha6.cell 11 rfl
        have q0 : wc.cell? ⟨X, 0, none⟩ = some (.int .i64 op) := hx6.cell 0 rfl
        have q1 : wc.cell? ⟨X, 1, none⟩ = some (.int .i64 k5) := hx6.cell 1 rfl
        have q2 : wc.cell? ⟨X, 2, none⟩ = some (.int .i64 m5) := hx6.cell 2 rfl
        have q3 : wc.cell? ⟨X, 3, none⟩ = some (.int .u64 b5) := hx6.cell 3 rfl
        have q4 : wc.cell? ⟨X, 4, none⟩ = some (.string t5) := hx6.cell 4 rfl
        have q5 : wc.cell? ⟨X, 5, none⟩ = some (.slice a5 n5 cap5) := hx6.cell 5 rfl
        have q6 : wc.cell? ⟨X, 6, none⟩ = some (.int .i64 k6) := hx6.cell 6 rfl
        have q7 : wc.cell? ⟨X, 7, none⟩ = some (.int .i64 m6) := hx6.cell 7 rfl
        have q8 : wc.cell? ⟨X, 8, none⟩ = some (.int .u64 b6) := hx6.cell 8 rfl
        have q9 : wc.cell? ⟨X, 9, none⟩ = some (.string t6) := hx6.cell 9 rfl
        have q10 : wc.cell? ⟨X, 10, none⟩ = some (.slice a6 n6 cap6) := hx6.cell 10 rfl
        have q11 : wc.cell? ⟨X, 11, none⟩ = some (.int .i64 n) := hx6.cell 11 rfl
        go_wp2_with fail
        refine (same_self (w0 := wc) (hA.rep.carry hbcd) _ (HV.out.carry hbwd) _ (Below.refl _ _)).mono ?_
        rintro e w7 ⟨rfl, hb7⟩
        have ha7 := ha6.later hb7
        have hx7 := hx6.later hb7
        have hbw7 := hbwd.trans (hb7.mono hbwd.size)
        have hbc7 := hbcd.trans (hb7.mono hbcd.size)
        clear p0 p1 p2 p3 p4 p5 p6 p7 p8 p9 p10 p11 q0 q1 q2 q3 q4 q5 q6 q7 q8 q9 q10 q11
        have p0 : w7.cell? ⟨w.heap.size, 0, none⟩ = some (.int .i64 op) := ha7.cell 0 rfl
        have p1 : w7.cell? ⟨w.heap.size, 1, none⟩ = some (.int .i64 k) := ha7.cell 1 rfl
        have p2 : w7.cell? ⟨w.heap.size, 2, none⟩ = some (.int .i64 m) := ha7.cell 2 rfl
        have p3 : w7.cell? ⟨w.heap.size, 3, none⟩ = some (.int .u64 b) := ha7.cell 3 rfl
        have p4 : w7.cell? ⟨w.heap.size, 4, none⟩ = some (.string t) := ha7.cell 4 rfl
        have p5 : w7.cell? ⟨w.heap.size, 5, none⟩ = some (.slice a l cap) := ha7.cell 5 rfl
        have p6 : w7.cell? ⟨w.heap.size, 6, none⟩ = some (.int .i64 k') := ha7.cell 6 rfl
        have p7 : w7.cell? ⟨w.heap.size, 7, none⟩ = some (.int .i64 m') := ha7.cell 7 rfl
        have p8 : w7.cell? ⟨w.heap.size, 8, none⟩ = some (.int .u64 b') := ha7.cell 8 rfl
        have p9 : w7.cell? ⟨w.heap.size, 9, none⟩ = some (.string t') := ha7.cell 9 rfl
        have p10 : w7.cell? ⟨w.heap.size, 10, none⟩ = some (.slice a' l' cap') := ha7.cell 10 rfl
        have p11 : w7.cell? ⟨w.heap.size, 11, none⟩ = some (.int .i64 n) := ha7.cell 11 rfl
        have q0 : w7.cell? ⟨X, 0, none⟩ = some (.int .i64 op) := hx7.cell 0 rfl
        have q1 : w7.cell? ⟨X, 1, none⟩ = some (.int .i64 k5) := hx7.cell 1 rfl
        have q2 : w7.cell? ⟨X, 2, none⟩ = some (.int .i64 m5) := hx7.cell 2 rfl
        have q3 : w7.cell? ⟨X, 3, none⟩ = some (.int .u64 b5) := hx7.cell 3 rfl
        have q4 : w7.cell? ⟨X, 4, none⟩ = some (.string t5) := hx7.cell 4 rfl
        have q5 : w7.cell? ⟨X, 5, none⟩ = some (.slice a5 n5 cap5) := hx7.cell 5 rfl
        have q6 : w7.cell? ⟨X, 6, none⟩ = some (.int .i64 k6) := hx7.cell 6 rfl
        have q7 : w7.cell? ⟨X, 7, none⟩ = some (.int .i64 m6) := hx7.cell 7 rfl
        have q8 : w7.cell? ⟨X, 8, none⟩ = some (.int .u64 b6) := hx7.cell 8 rfl
        have q9 : w7.cell? ⟨X, 9, none⟩ = some (.string t6) := hx7.cell 9 rfl
        have q10 : w7.cell? ⟨X, 10, none⟩ = some (.slice a6 n6 cap6) := hx7.cell 10 rfl
        have q11 : w7.cell? ⟨X, 11, none⟩ = some (.int .i64 n) := hx7.cell 11 rfl
        dsimp only
        go_wp2_with fail
        refine (same_self (w0 := w7) (hB.rep.carry hbc7) _ (HV'.out.carry hbw7) _ (Below.refl _ _)).mono ?_
        rintro e w8 ⟨rfl, hb8⟩
        have hbw8 := hbw7.trans (hb8.mono hbw7.size)
        dsimp only
        go_wp2_with (go_at_call 7; refine (awake_any _).mono ?_; rintro e w9 ⟨rfl, hb9⟩)
        go_ret
        exact ⟨rfl, hbw8.trans (hb9.mono hbw8.size)⟩
end Go.Proofs.Yteplhhlgceppkab

/- What an Act reads as, opened. -/
namespace Go.Proofs.Yteplhhlgceppkab
open Go Go.RowKit Go.ChangeShapes Go.WideShapes
section
variable {H : Type} {enc : TypeId × Value → H}
theorem cells27 : Try.prog.cellsOf 27 = 12 := by kernel_rfl
theorem list12 {α : Type} {l : List α} (h : l.length = 12) : ∃ a0 a1 a2 a3 a4 a5 a6 a7 a8 a9 a10 a11, l = [a0, a1, a2, a3, a4, a5, a6, a7, a8, a9, a10, a11] := by
  match l, h with
  | [a0, a1, a2, a3, a4, a5, a6, a7, a8, a9, a10, a11], _ => exact ⟨a0, a1, a2, a3, a4, a5, a6, a7, a8, a9, a10, a11, rfl⟩
theorem Rep.lit {w : World} {c0 c1 c2 c3 c4 : Value} {d : D} (h : Rep w (.agg #[c0, c1, c2, c3, c4]) d) : ∃ (k m b : Int) (t : ByteArray) (a : Option Addr) (l cap : Nat), c0 = .int .i64 k ∧ c1 = .int .i64 m ∧ c2 = .int .u64 b ∧ c3 = .string t ∧ c4 = .slice a l cap := by
  obtain ⟨k, m, b, t, a, cap, g, o, c, kids, e, _⟩ := h.inv
  simp only [Value.agg.injEq, Array.mk.injEq, List.cons.injEq, and_true] at e
  obtain ⟨rfl, rfl, rfl, rfl, rfl⟩ := e
  exact ⟨_, _, _, _, _, _, _, rfl, rfl, rfl, rfl, rfl⟩
set_option maxRecDepth 100000 in
theorem act_of_trod {w : World} {base : Nat} {sp : Nat → Bool} {held : Bool} (fuel : Nat) (cs : List Value) (x : DataW H × List MemPlace) (h : DataW.trod enc Try.prog w base sp held fuel 27 cs = some x) :
    ∃ (op n : Int) (k m b : Int) (t : ByteArray) (a : Option Addr) (l cap : Nat) (k' m' b' : Int) (t' : ByteArray) (a' : Option Addr) (l' cap' : Nat) (A B : D), cs.toArray = #[.int .i64 op, .int .i64 k, .int .i64 m, .int .u64 b, .string t, .slice a l cap, .int .i64 k', .int .i64 m', .int .u64 b', .string t', .slice a' l' cap', .int .i64 n] ∧ Rep w (.agg #[.int .i64 k, .int .i64 m, .int .u64 b, .string t, .slice a l cap]) A ∧ Rep w (.agg #[.int .i64 k', .int .i64 m', .int .u64 b', .string t', .slice a' l' cap']) B ∧ (Lit.int .i64 op).wf = true ∧ (Lit.int .i64 n).wf = true := by
  obtain ⟨xs, f, rfl, rfl, hl, hxl, hf⟩ := DataW.trod_struct Try.underlying27 h
  rw [cells27] at hl
  obtain ⟨c0, c1, c2, c3, c4, c5, c6, c7, c8, c9, c10, c11, rfl⟩ := list12 hl
  obtain ⟨x0, h0⟩ : ∃ x, DataW.trod enc Try.prog w base sp held f 3 (([c0, c1, c2, c3, c4, c5, c6, c7, c8, c9, c10, c11].drop 0).take (Try.prog.cellsOf 3)) = some x := field_of hf hxl 0 _ rfl
  obtain ⟨x1, h1⟩ : ∃ x, DataW.trod enc Try.prog w base sp held f 25 (([c0, c1, c2, c3, c4, c5, c6, c7, c8, c9, c10, c11].drop 1).take (Try.prog.cellsOf 25)) = some x := field_of hf hxl 1 _ rfl
  obtain ⟨x2, h2⟩ : ∃ x, DataW.trod enc Try.prog w base sp held f 25 (([c0, c1, c2, c3, c4, c5, c6, c7, c8, c9, c10, c11].drop 6).take (Try.prog.cellsOf 25)) = some x := field_of hf hxl 2 _ rfl
  obtain ⟨x3, h3⟩ : ∃ x, DataW.trod enc Try.prog w base sp held f 2 (([c0, c1, c2, c3, c4, c5, c6, c7, c8, c9, c10, c11].drop 11).take (Try.prog.cellsOf 2)) = some x := field_of hf hxl 3 _ rfl
  rw [cells1.1] at h0
  rw [cells1.2.1] at h3
  rw [cells25] at h1 h2
  simp only [List.drop_zero, List.drop_succ_cons, List.take_succ_cons, List.take_zero] at h0 h1 h2 h3
  obtain ⟨op, e0, _, w0⟩ := DataW.trod_int Try.underlying3 h0
  obtain ⟨n, e3, _, w3⟩ := DataW.trod_int Try.underlying2 h3
  obtain ⟨A, hA⟩ := rep_of_trod _ _ _ h1
  obtain ⟨B, hB⟩ := rep_of_trod _ _ _ h2
  obtain ⟨k, m, b, t, a, l, cap, rfl, rfl, rfl, rfl, rfl⟩ := hA.lit
  obtain ⟨k', m', b', t', a', l', cap', rfl, rfl, rfl, rfl, rfl⟩ := hB.lit
  simp only [List.cons.injEq, and_true] at e0 e3
  subst e0 e3
  exact ⟨op, n, _, _, _, _, _, _, _, _, _, _, _, _, _, _, A, B, rfl, hA, hB, w0, w3⟩
end

set_option maxRecDepth 100000 in
theorem open_act {H : Type} {enc : TypeId × Value → H} {W : World} {base : Nat} {v : Value} {d : DataW H} {p : List MemPlace} (hv : Value.okWide Try.prog W .any base 27 v) (h : DataW.Trod enc Try.prog W 0 (fun _ => true) true 27 v d p) :
    ∃ (op n : Int) (k m b : Int) (t : ByteArray) (a : Option Addr) (l cap : Nat) (k' m' b' : Int) (t' : ByteArray) (a' : Option Addr) (l' cap' : Nat) (A B : D), v = .agg #[.int .i64 op, .int .i64 k, .int .i64 m, .int .u64 b, .string t, .slice a l cap, .int .i64 k', .int .i64 m', .int .u64 b', .string t', .slice a' l' cap', .int .i64 n] ∧ Rep W (.agg #[.int .i64 k, .int .i64 m, .int .u64 b, .string t, .slice a l cap]) A ∧ Rep W (.agg #[.int .i64 k', .int .i64 m', .int .u64 b', .string t', .slice a' l' cap']) B ∧ (Lit.int .i64 op).wf = true ∧ (Lit.int .i64 n).wf = true := by
  obtain ⟨cs, rfl, hsz⟩ := okWide_struct Try.underlying27 hv
  clear hsz
  obtain ⟨l, rfl⟩ : ∃ l : List Value, cs = l.toArray := ⟨cs.toList, by simp⟩
  obtain ⟨fuel, hf⟩ := h
  obtain ⟨op, n, k, m, b, t, a, l0, cap, k', m', b', t', a', l', cap', A, B, e, hA, hB, w0, w3⟩ := act_of_trod fuel _ _ hf
  exact ⟨op, n, k, m, b, t, a, l0, cap, k', m', b', t', a', l', cap', A, B, congrArg Value.agg e, hA, hB, w0, w3⟩
end Go.Proofs.Yteplhhlgceppkab

/- From a walk (the law returns true; of what was there nothing has turned) to the row's promise: the arguments and the listed variables read as they did. Whatever the program, whatever the parameters' types. -/
namespace Go.Proofs.Yteplhhlgceppkab.LawKit
open Go.ChangeShapes Go.WideShapes Go.ChangeAt Go.RowKit
section
variable {H : Type} {enc : TypeId × Value → H} {P : Program}

theorem trodAll_below (hl : laidOutB P = true) {W W' : World} (hb : Below W.heap.size W W') :
    ∀ (ts : List TypeId) (vs : List Value) (ds : List (DataW H)) (ps : List MemPlace), (∀ t ∈ ts, P.readableRec t = true ∧ t < P.types.size) →
      DataW.TrodAll enc P W 0 (fun _ => true) true ts vs ds ps → (∀ x ∈ ps, x.block < W.heap.size) →
      DataW.TrodAll enc P W' 0 (fun b => decide (b < W.heap.size)) true ts vs ds ps
  | [], [], [], _, _, h, _ => h
  | t :: ts, v :: vs, d :: ds, ps, hr, h, hlt => by
    obtain ⟨p, q, h1, h2, rfl⟩ := h
    refine ⟨p, q, Below.trod hl (hr t (by simp)).1 (hr t (by simp)).2 h1 hb (fun x hx => hlt x (by simp [hx])), ?_, rfl⟩
    exact trodAll_below hl hb ts vs ds q (fun t' ht => hr t' (by simp [ht])) h2 (fun x hx => hlt x (by simp [hx]))
  | [], _ :: _, _, _, _, h, _ => h.elim
  | [], [], _ :: _, _, _, h, _ => h.elim
  | _ :: _, [], _, _, _, h, _ => h.elim
  | _ :: _, _ :: _, [], _, _, h, _ => h.elim

theorem trodVars_below (hl : laidOutB P = true) {W W' : World} (hb : Below W.heap.size W W') :
    ∀ (ns : List String) (gs : List (DataW H)) (ps : List MemPlace), (∀ n ∈ ns, ∀ g t, P.globalNamed n = some g → (P.globals[g]?).map (·.type) = some t → P.readableRec t = true ∧ t < P.types.size) →
      DataW.TrodVars enc P W (fun _ => true) ns gs ps → (∀ x ∈ ps, x.block < W.heap.size) →
      DataW.TrodVars enc P W' (fun b => decide (b < W.heap.size)) ns gs ps
  | [], [], _, _, h, _ => h
  | n :: ns, d :: ds, ps, hr, h, hlt => by
    obtain ⟨g, t, cs, fuel, p, q, h1, h2, h3, h4, h5, rfl⟩ := h
    have hgB : g < W.heap.size := by
      unfold World.var? at h3
      simp only [h1, Option.bind_some] at h3
      cases hh : W.heap[g]? with
      | none => rw [hh] at h3; simp at h3
      | some o => exact (Array.getElem?_eq_some_iff.1 hh).1
    have hT : DataW.Trod enc P W 0 (fun _ => true) true t (.agg cs) d p := ⟨fuel, h4⟩
    obtain ⟨hr1, hr2⟩ := hr n (by simp) g t h1 h2
    obtain ⟨fuel', h4'⟩ := Below.trod hl hr1 hr2 hT hb (fun x hx => hlt x (by simp [hx]))
    exact ⟨g, t, cs, fuel', p, q, h1, h2, var?_below hb h1 hgB h3, h4', trodVars_below hl hb ns ds q (fun m hm => hr m (by simp [hm])) h5 (fun x hx => hlt x (by simp [hx])), rfl⟩
  | [], _ :: _, _, _, h, _ => h.elim
  | _ :: _, [], _, _, h, _ => h.elim

theorem law_post (hl : laidOutB P = true) {fn : Func} {s : ChangeSpec} {W W' : World} {args : Array Value} {ds gs : List (DataW H)} {before : List MemPlace} {tb : TypeId}
    (hts0 : (fn.params.toList.all fun t => P.readableRec t && decide (t < P.types.size)) = true)
    (hvs : ∀ n ∈ s.vars, ∀ g t, P.globalNamed n = some g → (P.globals[g]?).map (·.type) = some t → P.readableRec t = true ∧ t < P.types.size)
    (hrt : fn.resultTypes = #[tb]) (hub : P.underlying tb = some .bool)
    (hW : DataW.Whole enc P fn.params.toList s.vars false W args.toList ds gs before) (hb : Below W.heap.size W W')
    (er : (s.fn H (ds ++ gs)).results = [.lit (.bool true)]) (ea : (s.fn H (ds ++ gs)).args = ds) (ev : (s.fn H (ds ++ gs)).vars = gs) :
    s.post enc P fn false true false false W args (.bool true) W' := by
  have hts : ∀ t ∈ fn.params.toList, P.readableRec t = true ∧ t < P.types.size := fun t ht => by
    have h := List.all_eq_true.1 hts0 t ht
    simpa only [Bool.and_eq_true, decide_eq_true_eq] using h
  have hlt := hW.lt
  have hW' := hW
  obtain ⟨p, q, hA, hV, rfl, _, _⟩ := hW
  refine ⟨ds, gs, p ++ q, [], p, q, hW', ?_, ?_, ?_, hb.frame _, fun h => by cases h⟩
  · rw [er, hrt]
    exact trodAll_cons_mk (p := []) (p' := []) (shut_bool hub _) trodAll_mk0
  · rw [ea]
    exact trodAll_below hl hb _ _ _ _ hts hA (fun x hx => hlt x (by simp [hx]))
  · rw [ev]
    exact trodVars_below hl hb _ _ _ hvs hV (fun x hx => hlt x (by simp [hx]))

theorem mapM_each {α β : Type} {g : α → Option β} : ∀ {l : List α} {ys : List β}, l.mapM g = some ys → ∀ x ∈ l, ∃ y, g x = some y
  | [], _, _, x, hx => by cases hx
  | a :: l, ys, h, x, hx => by
    rw [List.mapM_cons] at h
    cases hg : g a with
    | none => rw [hg] at h; simp at h
    | some y =>
      rw [hg] at h
      cases hl : l.mapM g with
      | none => rw [hl] at h; simp at h
      | some zs =>
        rcases List.mem_cons.1 hx with rfl | hx
        · exact ⟨y, hg⟩
        · exact mapM_each hl x hx

/-- A field of a struct that reads: its own cells read. -/
theorem trod_field {w : World} {base : Nat} {spare : Nat → Bool} {held : Bool} {t : TypeId} {fs : Array Field} {cs : List Value} {fuel : Nat} {x : DataW H × List MemPlace} (hs : P.underlying t = some (.struct fs)) (h : DataW.trod enc P w base spare held fuel t cs = some x) (i : Nat) {f : Field} (hi : fs[i]? = some f) :
    ∃ n y, DataW.trod enc P w base spare held n f.type ((cs.drop f.offset).take (P.cellsOf f.type)) = some y := by
  cases fuel with
  | zero => simp [DataW.trod] at h
  | succ fuel =>
    unfold DataW.trod at h
    rw [hs] at h
    simp only at h
    split at h
    · cases hm : fs.toList.mapM fun f => DataW.trod enc P w base spare held fuel f.type ((cs.drop f.offset).take (P.cellsOf f.type)) with
      | none => rw [hm] at h; simp at h
      | some ys =>
        obtain ⟨y, hy⟩ := mapM_each hm f (by
          have := Array.getElem?_eq_some_iff.1 hi
          obtain ⟨h1, h2⟩ := this
          rw [← h2]; simp)
        exact ⟨fuel, y, hy⟩
    · cases h
end
end Go.Proofs.Yteplhhlgceppkab.LawKit
