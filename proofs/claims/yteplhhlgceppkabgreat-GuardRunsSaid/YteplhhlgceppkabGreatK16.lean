/- Guard: contracts, joined texts (G76, G78, Law): for a seat without GuardTries. -/
import Derived.Laws.StructEq
import Derived.WalkKit
import Derived.ProofKit
import Derived.SizedLaws
import Derived.WalkSmall
import Derived.OpenShut
import Derived.Test.YteplhhlgceppkabGreatM15

/- Contracts of the reference's Same of results, of fit. -/
namespace Go.Proofs.YteplhhlgceppkabGreat
open Go Go.RowKit Go.ChangeShapes Go.WideShapes

theorem res2_worlds (w : World) (c0 c1 c2 c3 c4 c5 c6 c7 c8 c9 e0 e1 e2 e3 e4 e5 e6 e7 e8 e9 : Value) : ∃ W1, W1 = (w.alloc (.cells #[c0, c1, c2, c3, c4, c5, c6, c7, c8, c9] 42)).alloc (.cells #[e0, e1, e2, e3, e4, e5, e6, e7, e8, e9] 42) ∧ Below w.heap.size w W1 ∧ Hid (W1.heap.size = w.heap.size + 2) ∧ Row W1 w.heap.size #[c0, c1, c2, c3, c4, c5, c6, c7, c8, c9] 42 ∧ Row W1 (w.heap.size + 1) #[e0, e1, e2, e3, e4, e5, e6, e7, e8, e9] 42 := by
  refine ⟨_, rfl, by go_grown, Lib.hid (by simp), (Row.new w _ _).old _, ?_⟩
  have h := Row.new (w.alloc (.cells #[c0, c1, c2, c3, c4, c5, c6, c7, c8, c9] 42)) #[e0, e1, e2, e3, e4, e5, e6, e7, e8, e9] 42
  simpa using h
theorem act1_world (w : World) (a0 a1 a2 a3 a4 a5 a6 a7 a8 a9 a10 a11 : Value) : ∃ W1, W1 = w.alloc (.cells #[a0, a1, a2, a3, a4, a5, a6, a7, a8, a9, a10, a11] 28) ∧ Below w.heap.size w W1 ∧ Row W1 w.heap.size #[a0, a1, a2, a3, a4, a5, a6, a7, a8, a9, a10, a11] 28 := ⟨_, rfl, by go_grown, Row.new _ _ _⟩

set_option maxRecDepth 100000 in
set_option maxHeartbeats 3200000 in
theorem rsame_lit {w0 : World} {e c p n : Int} {h : Bool} {d : D} {k m b : Int} {t : ByteArray} {a : Option Addr} {l cap : Nat} {k' m' b' : Int} {t' : ByteArray} {a' : Option Addr} {l' cap' : Nat} (hv : Rep w0 (.agg #[.int .i64 k, .int .i64 m, .int .u64 b, .string t, .slice a l cap]) d) (hv' : Rep w0 (.agg #[.int .i64 k', .int .i64 m', .int .u64 b', .string t', .slice a' l' cap']) d) (w : World) (hb0 : Below w0.heap.size w0 w) :
    Calls Tryz.prog 9 #[(.agg #[.int .i64 e, .int .i64 c, .int .i64 p, .int .i64 n, .bool h, .int .i64 k, .int .i64 m, .int .u64 b, .string t, .slice a l cap]), (.agg #[.int .i64 e, .int .i64 c, .int .i64 p, .int .i64 n, .bool h, .int .i64 k', .int .i64 m', .int .u64 b', .string t', .slice a' l' cap'])] w fun x w' => x = .returned (.bool true) ∧ Below w.heap.size w w' := by
  have HS := Lib.hid (fun W hW => same_self hv _ hv' W hW)
  have HB := Lib.hid hb0
  clear hv hv' hb0
  obtain ⟨W1, hW1, hb1, hz, hx1, hx2⟩ := res2_worlds w (.int .i64 e) (.int .i64 c) (.int .i64 p) (.int .i64 n) (.bool h) (.int .i64 k) (.int .i64 m) (.int .u64 b) (.string t) (.slice a l cap) (.int .i64 e) (.int .i64 c) (.int .i64 p) (.int .i64 n) (.bool h) (.int .i64 k') (.int .i64 m') (.int .u64 b') (.string t') (.slice a' l' cap')
  have p0 : W1.cell? ⟨w.heap.size, 0, none⟩ = some (.int .i64 e) := hx1.cell 0 rfl
  have p1 : W1.cell? ⟨w.heap.size, 1, none⟩ = some (.int .i64 c) := hx1.cell 1 rfl
  have p2 : W1.cell? ⟨w.heap.size, 2, none⟩ = some (.int .i64 p) := hx1.cell 2 rfl
  have p3 : W1.cell? ⟨w.heap.size, 3, none⟩ = some (.int .i64 n) := hx1.cell 3 rfl
  have p4 : W1.cell? ⟨w.heap.size, 4, none⟩ = some (.bool h) := hx1.cell 4 rfl
  have p5 : W1.cell? ⟨w.heap.size, 5, none⟩ = some (.int .i64 k) := hx1.cell 5 rfl
  have p6 : W1.cell? ⟨w.heap.size, 6, none⟩ = some (.int .i64 m) := hx1.cell 6 rfl
  have p7 : W1.cell? ⟨w.heap.size, 7, none⟩ = some (.int .u64 b) := hx1.cell 7 rfl
  have p8 : W1.cell? ⟨w.heap.size, 8, none⟩ = some (.string t) := hx1.cell 8 rfl
  have p9 : W1.cell? ⟨w.heap.size, 9, none⟩ = some (.slice a l cap) := hx1.cell 9 rfl
  have q0 : W1.cell? ⟨w.heap.size + 1, 0, none⟩ = some (.int .i64 e) := hx2.cell 0 rfl
  have q1 : W1.cell? ⟨w.heap.size + 1, 1, none⟩ = some (.int .i64 c) := hx2.cell 1 rfl
  have q2 : W1.cell? ⟨w.heap.size + 1, 2, none⟩ = some (.int .i64 p) := hx2.cell 2 rfl
  have q3 : W1.cell? ⟨w.heap.size + 1, 3, none⟩ = some (.int .i64 n) := hx2.cell 3 rfl
  have q4 : W1.cell? ⟨w.heap.size + 1, 4, none⟩ = some (.bool h) := hx2.cell 4 rfl
  have q5 : W1.cell? ⟨w.heap.size + 1, 5, none⟩ = some (.int .i64 k') := hx2.cell 5 rfl
  have q6 : W1.cell? ⟨w.heap.size + 1, 6, none⟩ = some (.int .i64 m') := hx2.cell 6 rfl
  have q7 : W1.cell? ⟨w.heap.size + 1, 7, none⟩ = some (.int .u64 b') := hx2.cell 7 rfl
  have q8 : W1.cell? ⟨w.heap.size + 1, 8, none⟩ = some (.string t') := hx2.cell 8 rfl
  have q9 : W1.cell? ⟨w.heap.size + 1, 9, none⟩ = some (.slice a' l' cap') := hx2.cell 9 rfl
  go_enter Tryz.func9, Tryz.ntmps9
  go_upto_region 1 with fail
  rw [← hW1]
  clear hW1
  go_wp2_with (go_at_call 16; refine (HS.out _ (HB.out.trans (hb1.mono HB.out.size))).mono ?_; rintro x w2 ⟨rfl, hb2⟩)
  go_ret
  exact ⟨by simp, hb1.trans (hb2.mono hb1.size)⟩

theorem zeroD (w : World) : Rep w (.agg #[.int .i64 0, .int .i64 0, .int .u64 0, .string ⟨#[]⟩, .slice none 0 0]) (.mk 0 0 0 ⟨#[]⟩ []) := rep_plain w 0 0 (by decide) (by decide)
theorem rsame_any {w0 : World} {Q Q' : Nat → Prop} {o : Out} {v v' : Value} (h : ResV w0 Q v o) (h' : ResV w0 Q' v' o) (w : World) (hb0 : Below w0.heap.size w0 w) :
    Calls Tryz.prog 9 #[v, v'] w fun x w' => x = .returned (.bool true) ∧ Below w.heap.size w w' := by
  cases o with
  | gave d =>
    obtain ⟨k, m, b, t, a, n, cap, rfl, h2⟩ := h
    obtain ⟨k', m', b', t', a', n', cap', rfl, h2'⟩ := h'
    exact rsame_lit h2.rep h2'.rep w hb0
  | pan p n =>
    obtain rfl : v = _ := h
    obtain rfl : v' = _ := h'
    exact rsame_lit (zeroD w0) (zeroD w0) w hb0
  | err =>
    obtain rfl : v = _ := h
    obtain rfl : v' = _ := h'
    exact rsame_lit (zeroD w0) (zeroD w0) w hb0

set_option maxRecDepth 100000 in
set_option maxHeartbeats 3200000 in
theorem fit_any {w0 : World} {A B : D} {op n : Int} {k m b : Int} {t : ByteArray} {a : Option Addr} {l cap : Nat} {k' m' b' : Int} {t' : ByteArray} {a' : Option Addr} {l' cap' : Nat} (hv : Rep w0 (.agg #[.int .i64 k, .int .i64 m, .int .u64 b, .string t, .slice a l cap]) A) (hv' : Rep w0 (.agg #[.int .i64 k', .int .i64 m', .int .u64 b', .string t', .slice a' l' cap']) B) (w : World) (hb0 : Below w0.heap.size w0 w) :
    Calls Tryz.prog 4 #[(.agg #[.int .i64 op, .int .i64 k, .int .i64 m, .int .u64 b, .string t, .slice a l cap, .int .i64 k', .int .i64 m', .int .u64 b', .string t', .slice a' l' cap', .int .i64 n])] w fun x w' => ∃ r : Bool, x = .returned (.bool r) ∧ (r = true → Good A ∧ Good B) ∧ Below w.heap.size w w' := by
  have HA := Lib.hid (fun W hW => valid_any hv W hW)
  have HB' := Lib.hid (fun W hW => valid_any hv' W hW)
  have HB := Lib.hid hb0
  clear hv hv' hb0
  obtain ⟨W1, hW1, hb1, hx1⟩ := act1_world w (.int .i64 op) (.int .i64 k) (.int .i64 m) (.int .u64 b) (.string t) (.slice a l cap) (.int .i64 k') (.int .i64 m') (.int .u64 b') (.string t') (.slice a' l' cap') (.int .i64 n)
  have p0 : W1.cell? ⟨w.heap.size, 0, none⟩ = some (.int .i64 op) := hx1.cell 0 rfl
  have p1 : W1.cell? ⟨w.heap.size, 1, none⟩ = some (.int .i64 k) := hx1.cell 1 rfl
  have p2 : W1.cell? ⟨w.heap.size, 2, none⟩ = some (.int .i64 m) := hx1.cell 2 rfl
  have p3 : W1.cell? ⟨w.heap.size, 3, none⟩ = some (.int .u64 b) := hx1.cell 3 rfl
  have p4 : W1.cell? ⟨w.heap.size, 4, none⟩ = some (.string t) := hx1.cell 4 rfl
  have p5 : W1.cell? ⟨w.heap.size, 5, none⟩ = some (.slice a l cap) := hx1.cell 5 rfl
  have p6 : W1.cell? ⟨w.heap.size, 6, none⟩ = some (.int .i64 k') := hx1.cell 6 rfl
  have p7 : W1.cell? ⟨w.heap.size, 7, none⟩ = some (.int .i64 m') := hx1.cell 7 rfl
  have p8 : W1.cell? ⟨w.heap.size, 8, none⟩ = some (.int .u64 b') := hx1.cell 8 rfl
  have p9 : W1.cell? ⟨w.heap.size, 9, none⟩ = some (.string t') := hx1.cell 9 rfl
  have p10 : W1.cell? ⟨w.heap.size, 10, none⟩ = some (.slice a' l' cap') := hx1.cell 10 rfl
  have p11 : W1.cell? ⟨w.heap.size, 11, none⟩ = some (.int .i64 n) := hx1.cell 11 rfl
  go_enter Tryz.func4, Tryz.ntmps4
  go_upto_region 1 with fail
  rw [← hW1]
  clear hW1
  go_wp2_with fail
  refine (HA.out _ (HB.out.trans (hb1.mono HB.out.size))).mono ?_
  rintro x w2 ⟨r, rfl, hr, hb2⟩
  have hb12 := hb1.trans (hb2.mono hb1.size)
  have hx2 := hx1.later hb2
  clear p0 p1 p2 p3 p4 p5 p6 p7 p8 p9 p10 p11
  have p0 : w2.cell? ⟨w.heap.size, 0, none⟩ = some (.int .i64 op) := hx2.cell 0 rfl
  have p1 : w2.cell? ⟨w.heap.size, 1, none⟩ = some (.int .i64 k) := hx2.cell 1 rfl
  have p2 : w2.cell? ⟨w.heap.size, 2, none⟩ = some (.int .i64 m) := hx2.cell 2 rfl
  have p3 : w2.cell? ⟨w.heap.size, 3, none⟩ = some (.int .u64 b) := hx2.cell 3 rfl
  have p4 : w2.cell? ⟨w.heap.size, 4, none⟩ = some (.string t) := hx2.cell 4 rfl
  have p5 : w2.cell? ⟨w.heap.size, 5, none⟩ = some (.slice a l cap) := hx2.cell 5 rfl
  have p6 : w2.cell? ⟨w.heap.size, 6, none⟩ = some (.int .i64 k') := hx2.cell 6 rfl
  have p7 : w2.cell? ⟨w.heap.size, 7, none⟩ = some (.int .i64 m') := hx2.cell 7 rfl
  have p8 : w2.cell? ⟨w.heap.size, 8, none⟩ = some (.int .u64 b') := hx2.cell 8 rfl
  have p9 : w2.cell? ⟨w.heap.size, 9, none⟩ = some (.string t') := hx2.cell 9 rfl
  have p10 : w2.cell? ⟨w.heap.size, 10, none⟩ = some (.slice a' l' cap') := hx2.cell 10 rfl
  have p11 : w2.cell? ⟨w.heap.size, 11, none⟩ = some (.int .i64 n) := hx2.cell 11 rfl
  cases r
  · dsimp only
    go_wp2_with fail
    go_ret
    exact ⟨false, rfl, (fun h => by cases h), hb12⟩
  · have hG := hr rfl
    clear hr
    dsimp only
    go_wp2_with (go_at_call 11; refine (HB'.out _ (HB.out.trans (hb12.mono HB.out.size))).mono ?_; rintro x w3 ⟨r', rfl, hr', hb3⟩)
    go_ret
    exact ⟨r', rfl, fun h => ⟨hG, hr' h⟩, hb12.trans (hb3.mono hb12.size)⟩
end Go.Proofs.YteplhhlgceppkabGreat

/- What an Act reads as, opened. -/
namespace Go.Proofs.YteplhhlgceppkabGreat
open Go Go.RowKit Go.ChangeShapes Go.WideShapes
section
variable {H : Type} {enc : TypeId × Value → H}
theorem cells27 : Tryz.prog.cellsOf 28 = 12 := by kernel_rfl
theorem list12 {α : Type} {l : List α} (h : l.length = 12) : ∃ a0 a1 a2 a3 a4 a5 a6 a7 a8 a9 a10 a11, l = [a0, a1, a2, a3, a4, a5, a6, a7, a8, a9, a10, a11] := by
  match l, h with
  | [a0, a1, a2, a3, a4, a5, a6, a7, a8, a9, a10, a11], _ => exact ⟨a0, a1, a2, a3, a4, a5, a6, a7, a8, a9, a10, a11, rfl⟩
theorem Rep.lit {w : World} {c0 c1 c2 c3 c4 : Value} {d : D} (h : Rep w (.agg #[c0, c1, c2, c3, c4]) d) : ∃ (k m b : Int) (t : ByteArray) (a : Option Addr) (l cap : Nat), c0 = .int .i64 k ∧ c1 = .int .i64 m ∧ c2 = .int .u64 b ∧ c3 = .string t ∧ c4 = .slice a l cap := by
  obtain ⟨k, m, b, t, a, cap, g, o, c, kids, e, _⟩ := h.inv
  simp only [Value.agg.injEq, Array.mk.injEq, List.cons.injEq, and_true] at e
  obtain ⟨rfl, rfl, rfl, rfl, rfl⟩ := e
  exact ⟨_, _, _, _, _, _, _, rfl, rfl, rfl, rfl, rfl⟩
set_option maxRecDepth 100000 in
theorem act_of_trod {w : World} {base : Nat} {sp : Nat → Bool} {held : Bool} (fuel : Nat) (cs : List Value) (x : DataW H × List MemPlace) (h : DataW.trod enc Tryz.prog w base sp held fuel 28 cs = some x) :
    ∃ (op n : Int) (k m b : Int) (t : ByteArray) (a : Option Addr) (l cap : Nat) (k' m' b' : Int) (t' : ByteArray) (a' : Option Addr) (l' cap' : Nat) (A B : D), cs.toArray = #[.int .i64 op, .int .i64 k, .int .i64 m, .int .u64 b, .string t, .slice a l cap, .int .i64 k', .int .i64 m', .int .u64 b', .string t', .slice a' l' cap', .int .i64 n] ∧ Rep w (.agg #[.int .i64 k, .int .i64 m, .int .u64 b, .string t, .slice a l cap]) A ∧ Rep w (.agg #[.int .i64 k', .int .i64 m', .int .u64 b', .string t', .slice a' l' cap']) B ∧ (Lit.int .i64 op).wf = true ∧ (Lit.int .i64 n).wf = true := by
  obtain ⟨xs, f, rfl, rfl, hl, hxl, hf⟩ := DataW.trod_struct Tryz.underlying28 h
  rw [cells27] at hl
  obtain ⟨c0, c1, c2, c3, c4, c5, c6, c7, c8, c9, c10, c11, rfl⟩ := list12 hl
  obtain ⟨x0, h0⟩ : ∃ x, DataW.trod enc Tryz.prog w base sp held f 3 (([c0, c1, c2, c3, c4, c5, c6, c7, c8, c9, c10, c11].drop 0).take (Tryz.prog.cellsOf 3)) = some x := field_of hf hxl 0 _ rfl
  obtain ⟨x1, h1⟩ : ∃ x, DataW.trod enc Tryz.prog w base sp held f 26 (([c0, c1, c2, c3, c4, c5, c6, c7, c8, c9, c10, c11].drop 1).take (Tryz.prog.cellsOf 26)) = some x := field_of hf hxl 1 _ rfl
  obtain ⟨x2, h2⟩ : ∃ x, DataW.trod enc Tryz.prog w base sp held f 26 (([c0, c1, c2, c3, c4, c5, c6, c7, c8, c9, c10, c11].drop 6).take (Tryz.prog.cellsOf 26)) = some x := field_of hf hxl 2 _ rfl
  obtain ⟨x3, h3⟩ : ∃ x, DataW.trod enc Tryz.prog w base sp held f 2 (([c0, c1, c2, c3, c4, c5, c6, c7, c8, c9, c10, c11].drop 11).take (Tryz.prog.cellsOf 2)) = some x := field_of hf hxl 3 _ rfl
  rw [cells1.1] at h0
  rw [cells1.2.1] at h3
  rw [cells25] at h1 h2
  simp only [List.drop_zero, List.drop_succ_cons, List.take_succ_cons, List.take_zero] at h0 h1 h2 h3
  obtain ⟨op, e0, _, w0⟩ := DataW.trod_int Tryz.underlying3 h0
  obtain ⟨n, e3, _, w3⟩ := DataW.trod_int Tryz.underlying2 h3
  obtain ⟨A, hA⟩ := rep_of_trod _ _ _ h1
  obtain ⟨B, hB⟩ := rep_of_trod _ _ _ h2
  obtain ⟨k, m, b, t, a, l, cap, rfl, rfl, rfl, rfl, rfl⟩ := hA.lit
  obtain ⟨k', m', b', t', a', l', cap', rfl, rfl, rfl, rfl, rfl⟩ := hB.lit
  simp only [List.cons.injEq, and_true] at e0 e3
  subst e0 e3
  exact ⟨op, n, _, _, _, _, _, _, _, _, _, _, _, _, _, _, A, B, rfl, hA, hB, w0, w3⟩
end

set_option maxRecDepth 100000 in
theorem open_act {H : Type} {enc : TypeId × Value → H} {W : World} {base : Nat} {v : Value} {d : DataW H} {p : List MemPlace} (hv : Value.okWide Tryz.prog W .any base 28 v) (h : DataW.Trod enc Tryz.prog W 0 (fun _ => true) true 28 v d p) :
    ∃ (op n : Int) (k m b : Int) (t : ByteArray) (a : Option Addr) (l cap : Nat) (k' m' b' : Int) (t' : ByteArray) (a' : Option Addr) (l' cap' : Nat) (A B : D), v = .agg #[.int .i64 op, .int .i64 k, .int .i64 m, .int .u64 b, .string t, .slice a l cap, .int .i64 k', .int .i64 m', .int .u64 b', .string t', .slice a' l' cap', .int .i64 n] ∧ Rep W (.agg #[.int .i64 k, .int .i64 m, .int .u64 b, .string t, .slice a l cap]) A ∧ Rep W (.agg #[.int .i64 k', .int .i64 m', .int .u64 b', .string t', .slice a' l' cap']) B ∧ (Lit.int .i64 op).wf = true ∧ (Lit.int .i64 n).wf = true := by
  obtain ⟨cs, rfl, hsz⟩ := okWide_struct Tryz.underlying28 hv
  clear hsz
  obtain ⟨l, rfl⟩ : ∃ l : List Value, cs = l.toArray := ⟨cs.toList, by simp⟩
  obtain ⟨fuel, hf⟩ := h
  obtain ⟨op, n, k, m, b, t, a, l0, cap, k', m', b', t', a', l', cap', A, B, e, hA, hB, w0, w3⟩ := act_of_trod fuel _ _ hf
  exact ⟨op, n, k, m, b, t, a, l0, cap, k', m', b', t', a', l', cap', A, B, congrArg Value.agg e, hA, hB, w0, w3⟩
end Go.Proofs.YteplhhlgceppkabGreat

/- From a walk (the law returns true; of what was there nothing has turned) to the row's promise: the arguments and the listed variables read as they did. Whatever the program, whatever the parameters' types. -/
namespace Go.Proofs.YteplhhlgceppkabGreat.LawKit
open Go.ChangeShapes Go.WideShapes Go.ChangeAt Go.RowKit
section
variable {H : Type} {enc : TypeId × Value → H} {P : Program}

theorem trodAll_below (hl : laidOutB P = true) {W W' : World} (hb : Below W.heap.size W W') :
    ∀ (ts : List TypeId) (vs : List Value) (ds : List (DataW H)) (ps : List MemPlace), (∀ t ∈ ts, P.readableRec t = true ∧ t < P.types.size) →
      DataW.TrodAll enc P W 0 (fun _ => true) true ts vs ds ps → (∀ x ∈ ps, x.block < W.heap.size) →
      DataW.TrodAll enc P W' 0 (fun b => decide (b < W.heap.size)) true ts vs ds ps
  | [], [], [], _, _, h, _ => h
  | t :: ts, v :: vs, d :: ds, ps, hr, h, hlt => by
    obtain ⟨p, q, h1, h2, rfl⟩ := h
    refine ⟨p, q, Below.trod hl (hr t (by simp)).1 (hr t (by simp)).2 h1 hb (fun x hx => hlt x (by simp [hx])), ?_, rfl⟩
    exact trodAll_below hl hb ts vs ds q (fun t' ht => hr t' (by simp [ht])) h2 (fun x hx => hlt x (by simp [hx]))
  | [], _ :: _, _, _, _, h, _ => h.elim
  | [], [], _ :: _, _, _, h, _ => h.elim
  | _ :: _, [], _, _, _, h, _ => h.elim
  | _ :: _, _ :: _, [], _, _, h, _ => h.elim

theorem trodVars_below (hl : laidOutB P = true) {W W' : World} (hb : Below W.heap.size W W') :
    ∀ (ns : List String) (gs : List (DataW H)) (ps : List MemPlace), (∀ n ∈ ns, ∀ g t, P.globalNamed n = some g → (P.globals[g]?).map (·.type) = some t → P.readableRec t = true ∧ t < P.types.size) →
      DataW.TrodVars enc P W (fun _ => true) ns gs ps → (∀ x ∈ ps, x.block < W.heap.size) →
      DataW.TrodVars enc P W' (fun b => decide (b < W.heap.size)) ns gs ps
  | [], [], _, _, h, _ => h
  | n :: ns, d :: ds, ps, hr, h, hlt => by
    obtain ⟨g, t, cs, fuel, p, q, h1, h2, h3, h4, h5, rfl⟩ := h
    have hgB : g < W.heap.size := by
      unfold World.var? at h3
      simp only [h1, Option.bind_some] at h3
      cases hh : W.heap[g]? with
      | none => rw [hh] at h3; simp at h3
      | some o => exact (Array.getElem?_eq_some_iff.1 hh).1
    have hT : DataW.Trod enc P W 0 (fun _ => true) true t (.agg cs) d p := ⟨fuel, h4⟩
    obtain ⟨hr1, hr2⟩ := hr n (by simp) g t h1 h2
    obtain ⟨fuel', h4'⟩ := Below.trod hl hr1 hr2 hT hb (fun x hx => hlt x (by simp [hx]))
    exact ⟨g, t, cs, fuel', p, q, h1, h2, var?_below hb h1 hgB h3, h4', trodVars_below hl hb ns ds q (fun m hm => hr m (by simp [hm])) h5 (fun x hx => hlt x (by simp [hx])), rfl⟩
  | [], _ :: _, _, _, h, _ => h.elim
  | _ :: _, [], _, _, h, _ => h.elim

theorem law_post (hl : laidOutB P = true) {fn : Func} {s : ChangeSpec} {W W' : World} {args : Array Value} {ds gs : List (DataW H)} {before : List MemPlace} {tb : TypeId}
    (hts0 : (fn.params.toList.all fun t => P.readableRec t && decide (t < P.types.size)) = true)
    (hvs : ∀ n ∈ s.vars, ∀ g t, P.globalNamed n = some g → (P.globals[g]?).map (·.type) = some t → P.readableRec t = true ∧ t < P.types.size)
    (hrt : fn.resultTypes = #[tb]) (hub : P.underlying tb = some .bool)
    (hW : DataW.Whole enc P fn.params.toList s.vars false W args.toList ds gs before) (hb : Below W.heap.size W W')
    (er : (s.fn H (ds ++ gs)).results = [.lit (.bool true)]) (ea : (s.fn H (ds ++ gs)).args = ds) (ev : (s.fn H (ds ++ gs)).vars = gs) :
    s.post enc P fn false true false false W args (.bool true) W' := by
  have hts : ∀ t ∈ fn.params.toList, P.readableRec t = true ∧ t < P.types.size := fun t ht => by
    have h := List.all_eq_true.1 hts0 t ht
    simpa only [Bool.and_eq_true, decide_eq_true_eq] using h
  have hlt := hW.lt
  have hW' := hW
  obtain ⟨p, q, hA, hV, rfl, _, _⟩ := hW
  refine ⟨ds, gs, p ++ q, [], p, q, hW', ?_, ?_, ?_, hb.frame _, fun h => by cases h⟩
  · rw [er, hrt]
    exact trodAll_cons_mk (p := []) (p' := []) (shut_bool hub _) trodAll_mk0
  · rw [ea]
    exact trodAll_below hl hb _ _ _ _ hts hA (fun x hx => hlt x (by simp [hx]))
  · rw [ev]
    exact trodVars_below hl hb _ _ _ hvs hV (fun x hx => hlt x (by simp [hx]))

theorem mapM_each {α β : Type} {g : α → Option β} : ∀ {l : List α} {ys : List β}, l.mapM g = some ys → ∀ x ∈ l, ∃ y, g x = some y
  | [], _, _, x, hx => by cases hx
  | a :: l, ys, h, x, hx => by
    rw [List.mapM_cons] at h
    cases hg : g a with
    | none => rw [hg] at h; simp at h
    | some y =>
      rw [hg] at h
      cases hl : l.mapM g with
      | none => rw [hl] at h; simp at h
      | some zs =>
        rcases List.mem_cons.1 hx with rfl | hx
        · exact ⟨y, hg⟩
        · exact mapM_each hl x hx

/-- A field of a struct that reads: its own cells read. -/
theorem trod_field {w : World} {base : Nat} {spare : Nat → Bool} {held : Bool} {t : TypeId} {fs : Array Field} {cs : List Value} {fuel : Nat} {x : DataW H × List MemPlace} (hs : P.underlying t = some (.struct fs)) (h : DataW.trod enc P w base spare held fuel t cs = some x) (i : Nat) {f : Field} (hi : fs[i]? = some f) :
    ∃ n y, DataW.trod enc P w base spare held n f.type ((cs.drop f.offset).take (P.cellsOf f.type)) = some y := by
  cases fuel with
  | zero => simp [DataW.trod] at h
  | succ fuel =>
    unfold DataW.trod at h
    rw [hs] at h
    simp only at h
    split at h
    · cases hm : fs.toList.mapM fun f => DataW.trod enc P w base spare held fuel f.type ((cs.drop f.offset).take (P.cellsOf f.type)) with
      | none => rw [hm] at h; simp at h
      | some ys =>
        obtain ⟨y, hy⟩ := mapM_each hm f (by
          have := Array.getElem?_eq_some_iff.1 hi
          obtain ⟨h1, h2⟩ := this
          rw [← h2]; simp)
        exact ⟨fuel, y, hy⟩
    · cases h
end
end Go.Proofs.YteplhhlgceppkabGreat.LawKit
