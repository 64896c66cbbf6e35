/- Guard: contracts, joined texts (G69, G70, G71, G53). -/
import Derived.Test.YteplhhlgceppkabGreatM06
import Derived.Test.YteplhhlgceppkabGreatM12

/- Contract of the reference's Equal of values. -/
namespace Go.Proofs.YteplhhlgceppkabGreat
open Go Go.RowKit Go.ChangeShapes Go.WideShapes

/-- What the reference's Equal answers. -/
def eqR : Option Bool → Value
  | none => .tuple #[.bool false, .int .i64 10]
  | some r => .tuple #[.bool r, .int .i64 0]
theorem rows2b (w : World) (c0 c1 c2 c3 c4 d0 d1 d2 d3 d4 : Value) : ∃ W1, W1 = (w.alloc (.cells #[c0, c1, c2, c3, c4] 26)).alloc (.cells #[d0, d1, d2, d3, d4] 26) ∧ Below w.heap.size w W1 ∧ Hid (W1.heap.size = w.heap.size + 2) ∧ Row W1 w.heap.size #[c0, c1, c2, c3, c4] 26 ∧ Row W1 (w.heap.size + 1) #[d0, d1, d2, d3, d4] 26 := by
  refine ⟨_, rfl, by go_grown, Lib.hid (by simp), (Row.new w _ _).old _, ?_⟩
  have h := Row.new (w.alloc (.cells #[c0, c1, c2, c3, c4] 26)) #[d0, d1, d2, d3, d4] 26
  simpa using h

set_option maxRecDepth 100000 in
set_option maxHeartbeats 1600000 in
theorem requal_kind {k : Int} {m b : Int} {t : ByteArray} {a : Option Addr} {l cap : Nat} {k' : Int} {m' b' : Int} {t' : ByteArray} {a' : Option Addr} {l' cap' : Nat} (h : k ≠ k') (w : World) :
    Calls Tryz.prog 27 #[(.agg #[.int .i64 k, .int .i64 m, .int .u64 b, .string t, .slice a l cap]), (.agg #[.int .i64 k', .int .i64 m', .int .u64 b', .string t', .slice a' l' cap'])] w fun x w' => x = .returned (eqR (some false)) ∧ Below w.heap.size w w' := by
  obtain ⟨W1, hW1, hb1, hz, hx1, hx2⟩ := rows2b w (.int .i64 k) (.int .i64 m) (.int .u64 b) (.string t) (.slice a l cap) (.int .i64 k') (.int .i64 m') (.int .u64 b') (.string t') (.slice a' l' cap')
  have p0 : W1.cell? ⟨w.heap.size, 0, none⟩ = some (.int .i64 k) := hx1.cell 0 rfl
  have p1 : W1.cell? ⟨w.heap.size, 1, none⟩ = some (.int .i64 m) := hx1.cell 1 rfl
  have p2 : W1.cell? ⟨w.heap.size, 2, none⟩ = some (.int .u64 b) := hx1.cell 2 rfl
  have p3 : W1.cell? ⟨w.heap.size, 3, none⟩ = some (.string t) := hx1.cell 3 rfl
  have p4 : W1.cell? ⟨w.heap.size, 4, none⟩ = some (.slice a l cap) := hx1.cell 4 rfl
  have q0 : W1.cell? ⟨w.heap.size + 1, 0, none⟩ = some (.int .i64 k') := hx2.cell 0 rfl
  have q1 : W1.cell? ⟨w.heap.size + 1, 1, none⟩ = some (.int .i64 m') := hx2.cell 1 rfl
  have q2 : W1.cell? ⟨w.heap.size + 1, 2, none⟩ = some (.int .u64 b') := hx2.cell 2 rfl
  have q3 : W1.cell? ⟨w.heap.size + 1, 3, none⟩ = some (.string t') := hx2.cell 3 rfl
  have q4 : W1.cell? ⟨w.heap.size + 1, 4, none⟩ = some (.slice a' l' cap') := hx2.cell 4 rfl
  go_enter Tryz.func27, Tryz.ntmps27
  go_upto_region 1 with fail
  rw [← hW1]
  clear hW1
  go_wp2_with fail
  go_ret2
  exact ⟨rfl, hb1⟩

set_option maxRecDepth 100000 in
set_option maxHeartbeats 1600000 in
theorem requal_rows {k : Int} {m b : Int} {t : ByteArray} {a : Option Addr} {l cap : Nat} {k' : Int} {m' b' : Int} {t' : ByteArray} {a' : Option Addr} {l' cap' : Nat} (h : k = k') (h7 : k = 7 ∨ k = 8) (w : World) :
    Calls Tryz.prog 27 #[(.agg #[.int .i64 k, .int .i64 m, .int .u64 b, .string t, .slice a l cap]), (.agg #[.int .i64 k', .int .i64 m', .int .u64 b', .string t', .slice a' l' cap'])] w fun x w' => x = .returned (eqR none) ∧ Below w.heap.size w w' := by
  subst h
  obtain ⟨W1, hW1, hb1, hz, hx1, hx2⟩ := rows2b w (.int .i64 k) (.int .i64 m) (.int .u64 b) (.string t) (.slice a l cap) (.int .i64 k) (.int .i64 m') (.int .u64 b') (.string t') (.slice a' l' cap')
  have p0 : W1.cell? ⟨w.heap.size, 0, none⟩ = some (.int .i64 k) := hx1.cell 0 rfl
  have p1 : W1.cell? ⟨w.heap.size, 1, none⟩ = some (.int .i64 m) := hx1.cell 1 rfl
  have p2 : W1.cell? ⟨w.heap.size, 2, none⟩ = some (.int .u64 b) := hx1.cell 2 rfl
  have p3 : W1.cell? ⟨w.heap.size, 3, none⟩ = some (.string t) := hx1.cell 3 rfl
  have p4 : W1.cell? ⟨w.heap.size, 4, none⟩ = some (.slice a l cap) := hx1.cell 4 rfl
  have q0 : W1.cell? ⟨w.heap.size + 1, 0, none⟩ = some (.int .i64 k) := hx2.cell 0 rfl
  have q1 : W1.cell? ⟨w.heap.size + 1, 1, none⟩ = some (.int .i64 m') := hx2.cell 1 rfl
  have q2 : W1.cell? ⟨w.heap.size + 1, 2, none⟩ = some (.int .u64 b') := hx2.cell 2 rfl
  have q3 : W1.cell? ⟨w.heap.size + 1, 3, none⟩ = some (.string t') := hx2.cell 3 rfl
  have q4 : W1.cell? ⟨w.heap.size + 1, 4, none⟩ = some (.slice a' l' cap') := hx2.cell 4 rfl
  rcases h7 with rfl | rfl
  all_goals (
    go_enter Tryz.func27, Tryz.ntmps27
    go_upto_region 1 with fail
    rw [← hW1]
    clear hW1
    go_wp2_with fail
    go_ret2
    exact ⟨rfl, hb1⟩)

set_option maxRecDepth 100000 in
set_option maxHeartbeats 1600000 in
theorem requal_float {m b : Int} {t : ByteArray} {a : Option Addr} {l cap : Nat} {m' b' : Int} {t' : ByteArray} {a' : Option Addr} {l' cap' : Nat} (w : World) :
    Calls Tryz.prog 27 #[(.agg #[.int .i64 3, .int .i64 m, .int .u64 b, .string t, .slice a l cap]), (.agg #[.int .i64 3, .int .i64 m', .int .u64 b', .string t', .slice a' l' cap'])] w fun x w' => x = .returned (eqR (some (Op.floatEq .f64 b.toNat b'.toNat))) ∧ Below w.heap.size w w' := by
  obtain ⟨W1, hW1, hb1, hz, hx1, hx2⟩ := rows2b w (.int .i64 3) (.int .i64 m) (.int .u64 b) (.string t) (.slice a l cap) (.int .i64 3) (.int .i64 m') (.int .u64 b') (.string t') (.slice a' l' cap')
  have p0 : W1.cell? ⟨w.heap.size, 0, none⟩ = some (.int .i64 3) := hx1.cell 0 rfl
  have p1 : W1.cell? ⟨w.heap.size, 1, none⟩ = some (.int .i64 m) := hx1.cell 1 rfl
  have p2 : W1.cell? ⟨w.heap.size, 2, none⟩ = some (.int .u64 b) := hx1.cell 2 rfl
  have p3 : W1.cell? ⟨w.heap.size, 3, none⟩ = some (.string t) := hx1.cell 3 rfl
  have p4 : W1.cell? ⟨w.heap.size, 4, none⟩ = some (.slice a l cap) := hx1.cell 4 rfl
  have q0 : W1.cell? ⟨w.heap.size + 1, 0, none⟩ = some (.int .i64 3) := hx2.cell 0 rfl
  have q1 : W1.cell? ⟨w.heap.size + 1, 1, none⟩ = some (.int .i64 m') := hx2.cell 1 rfl
  have q2 : W1.cell? ⟨w.heap.size + 1, 2, none⟩ = some (.int .u64 b') := hx2.cell 2 rfl
  have q3 : W1.cell? ⟨w.heap.size + 1, 3, none⟩ = some (.string t') := hx2.cell 3 rfl
  have q4 : W1.cell? ⟨w.heap.size + 1, 4, none⟩ = some (.slice a' l' cap') := hx2.cell 4 rfl
  have hfb := frombits
  go_enter Tryz.func27, Tryz.ntmps27
  go_upto_region 1 with fail
  rw [← hW1]
  clear hW1
  go_upto_region 8 with fail
  go_region
  go_wp2_with fail
  all_goals
    go_ret2
    exact ⟨rfl, by first | exact hb1 | exact hb1.drew | (go_grown)⟩

set_option maxRecDepth 100000 in
set_option maxHeartbeats 1600000 in
theorem requal_plain {k : Int} {m b : Int} {t : ByteArray} {a : Option Addr} {l cap : Nat} {k' : Int} {m' b' : Int} {t' : ByteArray} {a' : Option Addr} {l' cap' : Nat} (h : k = k') (h7 : k ≠ 7) (h8 : k ≠ 8) (h3 : k ≠ 3) (h9 : k ≠ 9) (w : World) :
    Calls Tryz.prog 27 #[(.agg #[.int .i64 k, .int .i64 m, .int .u64 b, .string t, .slice a l cap]), (.agg #[.int .i64 k', .int .i64 m', .int .u64 b', .string t', .slice a' l' cap'])] w fun x w' => x = .returned (eqR (some (m == m' && t == t'))) ∧ Below w.heap.size w w' := by
  subst h
  obtain ⟨W1, hW1, hb1, hz, hx1, hx2⟩ := rows2b w (.int .i64 k) (.int .i64 m) (.int .u64 b) (.string t) (.slice a l cap) (.int .i64 k) (.int .i64 m') (.int .u64 b') (.string t') (.slice a' l' cap')
  have p0 : W1.cell? ⟨w.heap.size, 0, none⟩ = some (.int .i64 k) := hx1.cell 0 rfl
  have p1 : W1.cell? ⟨w.heap.size, 1, none⟩ = some (.int .i64 m) := hx1.cell 1 rfl
  have p2 : W1.cell? ⟨w.heap.size, 2, none⟩ = some (.int .u64 b) := hx1.cell 2 rfl
  have p3 : W1.cell? ⟨w.heap.size, 3, none⟩ = some (.string t) := hx1.cell 3 rfl
  have p4 : W1.cell? ⟨w.heap.size, 4, none⟩ = some (.slice a l cap) := hx1.cell 4 rfl
  have q0 : W1.cell? ⟨w.heap.size + 1, 0, none⟩ = some (.int .i64 k) := hx2.cell 0 rfl
  have q1 : W1.cell? ⟨w.heap.size + 1, 1, none⟩ = some (.int .i64 m') := hx2.cell 1 rfl
  have q2 : W1.cell? ⟨w.heap.size + 1, 2, none⟩ = some (.int .u64 b') := hx2.cell 2 rfl
  have q3 : W1.cell? ⟨w.heap.size + 1, 3, none⟩ = some (.string t') := hx2.cell 3 rfl
  have q4 : W1.cell? ⟨w.heap.size + 1, 4, none⟩ = some (.slice a' l' cap') := hx2.cell 4 rfl
  go_enter Tryz.func27, Tryz.ntmps27
  go_upto_region 1 with fail
  rw [← hW1]
  clear hW1
  go_wp2_with fail
  all_goals go_ret2
  all_goals first
    | exact ⟨rfl, hb1⟩
    | (refine ⟨?_, hb1⟩; simp_all [eqR, beq_toListBytes])
end Go.Proofs.YteplhhlgceppkabGreat

/- Contract of the reference's Equal of any two Datums. -/
namespace Go.Proofs.YteplhhlgceppkabGreat
open Go Go.RowKit Go.ChangeShapes Go.WideShapes

theorem kids2 {l : List D} (h : l.length = 2) : ∃ x y, l = [x, y] := by
  match l, h with
  | [x, y], _ => exact ⟨x, y, rfl⟩
theorem eqThen_true (r : Option Bool) : eqThen r (some true) = r := by
  rcases r with _ | _ | _ <;> rfl

set_option maxRecDepth 100000 in
set_option maxHeartbeats 6400000 in
theorem requal_pair_none {w0 : World} {m b : Int} {t : ByteArray} {g o cap : Nat} {m' b' : Int} {t' : ByteArray} {g' o' cap' : Nat} {x0 x1 x2 x3 x4 y0 y1 y2 y3 y4 u0 u1 u2 u3 u4 v0 v1 v2 v3 v4 : Value} {s : Bool} {e : Int}
    (hg : g < w0.heap.size) (hcap : 2 ≤ cap ∧ cap ≤ 9223372036854775807) (hg' : g' < w0.heap.size) (hcap' : 2 ≤ cap' ∧ cap' ≤ 9223372036854775807)
    (hx : w0.cell? ⟨g, o, none⟩ = some x0 ∧ w0.cell? ⟨g, o + 1, none⟩ = some x1 ∧ w0.cell? ⟨g, o + 2, none⟩ = some x2 ∧ w0.cell? ⟨g, o + 3, none⟩ = some x3 ∧ w0.cell? ⟨g, o + 4, none⟩ = some x4) (hy : w0.cell? ⟨g', o', none⟩ = some y0 ∧ w0.cell? ⟨g', o' + 1, none⟩ = some y1 ∧ w0.cell? ⟨g', o' + 2, none⟩ = some y2 ∧ w0.cell? ⟨g', o' + 3, none⟩ = some y3 ∧ w0.cell? ⟨g', o' + 4, none⟩ = some y4) (hu : w0.cell? ⟨g, o + 5, none⟩ = some u0 ∧ w0.cell? ⟨g, o + 5 + 1, none⟩ = some u1 ∧ w0.cell? ⟨g, o + 5 + 2, none⟩ = some u2 ∧ w0.cell? ⟨g, o + 5 + 3, none⟩ = some u3 ∧ w0.cell? ⟨g, o + 5 + 4, none⟩ = some u4) (hv : w0.cell? ⟨g', o' + 5, none⟩ = some v0 ∧ w0.cell? ⟨g', o' + 5 + 1, none⟩ = some v1 ∧ w0.cell? ⟨g', o' + 5 + 2, none⟩ = some v2 ∧ w0.cell? ⟨g', o' + 5 + 3, none⟩ = some v3 ∧ w0.cell? ⟨g', o' + 5 + 4, none⟩ = some v4)
    (H1 : ∀ W, Below w0.heap.size w0 W → Calls Tryz.prog 27 #[.agg #[x0, x1, x2, x3, x4], .agg #[y0, y1, y2, y3, y4]] W fun x w' => x = .returned (.tuple #[.bool false, .int .i64 10]) ∧ Below W.heap.size W w')
    (_H2 : ∀ W, Below w0.heap.size w0 W → Calls Tryz.prog 27 #[.agg #[u0, u1, u2, u3, u4], .agg #[v0, v1, v2, v3, v4]] W fun x w' => x = .returned (.tuple #[.bool s, .int .i64 e]) ∧ Below W.heap.size W w') (w : World) (hb0 : Below w0.heap.size w0 w) :
    Calls Tryz.prog 27 #[(.agg #[.int .i64 9, .int .i64 m, .int .u64 b, .string t, .slice (some ⟨g, o, none⟩) 2 cap]), (.agg #[.int .i64 9, .int .i64 m', .int .u64 b', .string t', .slice (some ⟨g', o', none⟩) 2 cap'])] w fun x w' => x = .returned (.tuple #[.bool false, .int .i64 10]) ∧ Below w.heap.size w w' := by
  have HH1 := Lib.hid H1
  obtain ⟨hx0, hx1, hx2, hx3, hx4⟩ := hx
  obtain ⟨hy0, hy1, hy2, hy3, hy4⟩ := hy
  obtain ⟨hu0, hu1, hu2, hu3, hu4⟩ := hu
  obtain ⟨hv0, hv1, hv2, hv3, hv4⟩ := hv
  obtain ⟨hc1, hc2⟩ := hcap
  obtain ⟨hc3, hc4⟩ := hcap'
  clear H1
  have HG := Lib.hid hg
  have HG' := Lib.hid hg'
  obtain ⟨W1, hW1, hb1, hz, hp, hq⟩ := rows2b w (.int .i64 9) (.int .i64 m) (.int .u64 b) (.string t) (.slice (some ⟨g, o, none⟩) 2 cap) (.int .i64 9) (.int .i64 m') (.int .u64 b') (.string t') (.slice (some ⟨g', o', none⟩) 2 cap')
  have h01 : Below w0.heap.size w0 W1 := hb0.trans (hb1.mono hb0.size)
  have hl0 := h01.size
  have hzo := hz.out
  have hS1 : w.heap.size + 2 ≤ W1.heap.size := by omega
  have hS2 : g < W1.heap.size := by omega
  have hS3 : g' < W1.heap.size := by omega
  have HB := Lib.hid h01
  clear hb0 hl0 hzo hg hg'
  have p0 : W1.cell? ⟨w.heap.size, 0, none⟩ = some (.int .i64 9) := hp.cell 0 rfl
  have p1 : W1.cell? ⟨w.heap.size, 1, none⟩ = some (.int .i64 m) := hp.cell 1 rfl
  have p2 : W1.cell? ⟨w.heap.size, 2, none⟩ = some (.int .u64 b) := hp.cell 2 rfl
  have p3 : W1.cell? ⟨w.heap.size, 3, none⟩ = some (.string t) := hp.cell 3 rfl
  have p4 : W1.cell? ⟨w.heap.size, 4, none⟩ = some (.slice (some ⟨g, o, none⟩) 2 cap) := hp.cell 4 rfl
  have q0 : W1.cell? ⟨w.heap.size + 1, 0, none⟩ = some (.int .i64 9) := hq.cell 0 rfl
  have q1 : W1.cell? ⟨w.heap.size + 1, 1, none⟩ = some (.int .i64 m') := hq.cell 1 rfl
  have q2 : W1.cell? ⟨w.heap.size + 1, 2, none⟩ = some (.int .u64 b') := hq.cell 2 rfl
  have q3 : W1.cell? ⟨w.heap.size + 1, 3, none⟩ = some (.string t') := hq.cell 3 rfl
  have q4 : W1.cell? ⟨w.heap.size + 1, 4, none⟩ = some (.slice (some ⟨g', o', none⟩) 2 cap') := hq.cell 4 rfl
  have kx0 : W1.cell? ⟨g, o, none⟩ = some x0 := (HB.out.cell (p := ⟨g, o, none⟩) (by have := HG.out; simpa using this)).trans hx0
  have kx1 : W1.cell? ⟨g, o + 1, none⟩ = some x1 := (HB.out.cell (p := ⟨g, o + 1, none⟩) (by have := HG.out; simpa using this)).trans hx1
  have kx2 : W1.cell? ⟨g, o + 2, none⟩ = some x2 := (HB.out.cell (p := ⟨g, o + 2, none⟩) (by have := HG.out; simpa using this)).trans hx2
  have kx3 : W1.cell? ⟨g, o + 3, none⟩ = some x3 := (HB.out.cell (p := ⟨g, o + 3, none⟩) (by have := HG.out; simpa using this)).trans hx3
  have kx4 : W1.cell? ⟨g, o + 4, none⟩ = some x4 := (HB.out.cell (p := ⟨g, o + 4, none⟩) (by have := HG.out; simpa using this)).trans hx4
  have ky0 : W1.cell? ⟨g', o', none⟩ = some y0 := (HB.out.cell (p := ⟨g', o', none⟩) (by have := HG'.out; simpa using this)).trans hy0
  have ky1 : W1.cell? ⟨g', o' + 1, none⟩ = some y1 := (HB.out.cell (p := ⟨g', o' + 1, none⟩) (by have := HG'.out; simpa using this)).trans hy1
  have ky2 : W1.cell? ⟨g', o' + 2, none⟩ = some y2 := (HB.out.cell (p := ⟨g', o' + 2, none⟩) (by have := HG'.out; simpa using this)).trans hy2
  have ky3 : W1.cell? ⟨g', o' + 3, none⟩ = some y3 := (HB.out.cell (p := ⟨g', o' + 3, none⟩) (by have := HG'.out; simpa using this)).trans hy3
  have ky4 : W1.cell? ⟨g', o' + 4, none⟩ = some y4 := (HB.out.cell (p := ⟨g', o' + 4, none⟩) (by have := HG'.out; simpa using this)).trans hy4
  have ku0 : W1.cell? ⟨g, o + 5, none⟩ = some u0 := (HB.out.cell (p := ⟨g, o + 5, none⟩) (by have := HG.out; simpa using this)).trans hu0
  have ku1 : W1.cell? ⟨g, o + 5 + 1, none⟩ = some u1 := (HB.out.cell (p := ⟨g, o + 5 + 1, none⟩) (by have := HG.out; simpa using this)).trans hu1
  have ku2 : W1.cell? ⟨g, o + 5 + 2, none⟩ = some u2 := (HB.out.cell (p := ⟨g, o + 5 + 2, none⟩) (by have := HG.out; simpa using this)).trans hu2
  have ku3 : W1.cell? ⟨g, o + 5 + 3, none⟩ = some u3 := (HB.out.cell (p := ⟨g, o + 5 + 3, none⟩) (by have := HG.out; simpa using this)).trans hu3
  have ku4 : W1.cell? ⟨g, o + 5 + 4, none⟩ = some u4 := (HB.out.cell (p := ⟨g, o + 5 + 4, none⟩) (by have := HG.out; simpa using this)).trans hu4
  have kv0 : W1.cell? ⟨g', o' + 5, none⟩ = some v0 := (HB.out.cell (p := ⟨g', o' + 5, none⟩) (by have := HG'.out; simpa using this)).trans hv0
  have kv1 : W1.cell? ⟨g', o' + 5 + 1, none⟩ = some v1 := (HB.out.cell (p := ⟨g', o' + 5 + 1, none⟩) (by have := HG'.out; simpa using this)).trans hv1
  have kv2 : W1.cell? ⟨g', o' + 5 + 2, none⟩ = some v2 := (HB.out.cell (p := ⟨g', o' + 5 + 2, none⟩) (by have := HG'.out; simpa using this)).trans hv2
  have kv3 : W1.cell? ⟨g', o' + 5 + 3, none⟩ = some v3 := (HB.out.cell (p := ⟨g', o' + 5 + 3, none⟩) (by have := HG'.out; simpa using this)).trans hv3
  have kv4 : W1.cell? ⟨g', o' + 5 + 4, none⟩ = some v4 := (HB.out.cell (p := ⟨g', o' + 5 + 4, none⟩) (by have := HG'.out; simpa using this)).trans hv4
  clear hx0 hx1 hx2 hx3 hx4 hy0 hy1 hy2 hy3 hy4 hu0 hu1 hu2 hu3 hu4 hv0 hv1 hv2 hv3 hv4
  have kp4 := p4
  have kq4 := q4
  go_enter Tryz.func27, Tryz.ntmps27
  go_upto_region 1 with fail
  rw [← hW1]
  clear hW1
  go_upto_region 10 with fail
  go_region_held3 (fun w' => w'.cell? ⟨w.heap.size, 4, none⟩ = some (.slice (some ⟨g, o, none⟩) 2 cap) ∧ w'.cell? ⟨w.heap.size + 1, 4, none⟩ = some (.slice (some ⟨g', o', none⟩) 2 cap') ∧ w'.cell? ⟨g, o, none⟩ = some x0 ∧ w'.cell? ⟨g, o + 1, none⟩ = some x1 ∧ w'.cell? ⟨g, o + 2, none⟩ = some x2 ∧ w'.cell? ⟨g, o + 3, none⟩ = some x3 ∧ w'.cell? ⟨g, o + 4, none⟩ = some x4 ∧ w'.cell? ⟨g', o', none⟩ = some y0 ∧ w'.cell? ⟨g', o' + 1, none⟩ = some y1 ∧ w'.cell? ⟨g', o' + 2, none⟩ = some y2 ∧ w'.cell? ⟨g', o' + 3, none⟩ = some y3 ∧ w'.cell? ⟨g', o' + 4, none⟩ = some y4 ∧ Below W1.heap.size W1 w')
    (first | (exact ⟨kp4, kq4, kx0, kx1, kx2, kx3, kx4, ky0, ky1, ky2, ky3, ky4, by go_grown⟩) | (exact keep12 hS1 hS2 hS3 (by assumption) (by assumption)) | fail)
    (try (go_at_call 27; refine (HH1.out _ (HB.out.trans ((held12 (by assumption)).mono HB.out.size))).mono ?_; rintro x w2 ⟨rfl, hb2⟩))
  have hq2 := held12 (by assumption)
  clear kp4 kq4
  go_wp2_with fail
  go_ret2
  exact ⟨rfl, hb1.trans (hq2.mono hb1.size)⟩

set_option maxRecDepth 100000 in
set_option maxHeartbeats 6400000 in
theorem requal_pair_false {w0 : World} {m b : Int} {t : ByteArray} {g o cap : Nat} {m' b' : Int} {t' : ByteArray} {g' o' cap' : Nat} {x0 x1 x2 x3 x4 y0 y1 y2 y3 y4 u0 u1 u2 u3 u4 v0 v1 v2 v3 v4 : Value} {s : Bool} {e : Int}
    (hg : g < w0.heap.size) (hcap : 2 ≤ cap ∧ cap ≤ 9223372036854775807) (hg' : g' < w0.heap.size) (hcap' : 2 ≤ cap' ∧ cap' ≤ 9223372036854775807)
    (hx : w0.cell? ⟨g, o, none⟩ = some x0 ∧ w0.cell? ⟨g, o + 1, none⟩ = some x1 ∧ w0.cell? ⟨g, o + 2, none⟩ = some x2 ∧ w0.cell? ⟨g, o + 3, none⟩ = some x3 ∧ w0.cell? ⟨g, o + 4, none⟩ = some x4) (hy : w0.cell? ⟨g', o', none⟩ = some y0 ∧ w0.cell? ⟨g', o' + 1, none⟩ = some y1 ∧ w0.cell? ⟨g', o' + 2, none⟩ = some y2 ∧ w0.cell? ⟨g', o' + 3, none⟩ = some y3 ∧ w0.cell? ⟨g', o' + 4, none⟩ = some y4) (hu : w0.cell? ⟨g, o + 5, none⟩ = some u0 ∧ w0.cell? ⟨g, o + 5 + 1, none⟩ = some u1 ∧ w0.cell? ⟨g, o + 5 + 2, none⟩ = some u2 ∧ w0.cell? ⟨g, o + 5 + 3, none⟩ = some u3 ∧ w0.cell? ⟨g, o + 5 + 4, none⟩ = some u4) (hv : w0.cell? ⟨g', o' + 5, none⟩ = some v0 ∧ w0.cell? ⟨g', o' + 5 + 1, none⟩ = some v1 ∧ w0.cell? ⟨g', o' + 5 + 2, none⟩ = some v2 ∧ w0.cell? ⟨g', o' + 5 + 3, none⟩ = some v3 ∧ w0.cell? ⟨g', o' + 5 + 4, none⟩ = some v4)
    (H1 : ∀ W, Below w0.heap.size w0 W → Calls Tryz.prog 27 #[.agg #[x0, x1, x2, x3, x4], .agg #[y0, y1, y2, y3, y4]] W fun x w' => x = .returned (.tuple #[.bool false, .int .i64 0]) ∧ Below W.heap.size W w')
    (_H2 : ∀ W, Below w0.heap.size w0 W → Calls Tryz.prog 27 #[.agg #[u0, u1, u2, u3, u4], .agg #[v0, v1, v2, v3, v4]] W fun x w' => x = .returned (.tuple #[.bool s, .int .i64 e]) ∧ Below W.heap.size W w') (w : World) (hb0 : Below w0.heap.size w0 w) :
    Calls Tryz.prog 27 #[(.agg #[.int .i64 9, .int .i64 m, .int .u64 b, .string t, .slice (some ⟨g, o, none⟩) 2 cap]), (.agg #[.int .i64 9, .int .i64 m', .int .u64 b', .string t', .slice (some ⟨g', o', none⟩) 2 cap'])] w fun x w' => x = .returned (.tuple #[.bool false, .int .i64 0]) ∧ Below w.heap.size w w' := by
  have HH1 := Lib.hid H1
  obtain ⟨hx0, hx1, hx2, hx3, hx4⟩ := hx
  obtain ⟨hy0, hy1, hy2, hy3, hy4⟩ := hy
  obtain ⟨hu0, hu1, hu2, hu3, hu4⟩ := hu
  obtain ⟨hv0, hv1, hv2, hv3, hv4⟩ := hv
  obtain ⟨hc1, hc2⟩ := hcap
  obtain ⟨hc3, hc4⟩ := hcap'
  clear H1
  have HG := Lib.hid hg
  have HG' := Lib.hid hg'
  obtain ⟨W1, hW1, hb1, hz, hp, hq⟩ := rows2b w (.int .i64 9) (.int .i64 m) (.int .u64 b) (.string t) (.slice (some ⟨g, o, none⟩) 2 cap) (.int .i64 9) (.int .i64 m') (.int .u64 b') (.string t') (.slice (some ⟨g', o', none⟩) 2 cap')
  have h01 : Below w0.heap.size w0 W1 := hb0.trans (hb1.mono hb0.size)
  have hl0 := h01.size
  have hzo := hz.out
  have hS1 : w.heap.size + 2 ≤ W1.heap.size := by omega
  have hS2 : g < W1.heap.size := by omega
  have hS3 : g' < W1.heap.size := by omega
  have HB := Lib.hid h01
  clear hb0 hl0 hzo hg hg'
  have p0 : W1.cell? ⟨w.heap.size, 0, none⟩ = some (.int .i64 9) := hp.cell 0 rfl
  have p1 : W1.cell? ⟨w.heap.size, 1, none⟩ = some (.int .i64 m) := hp.cell 1 rfl
  have p2 : W1.cell? ⟨w.heap.size, 2, none⟩ = some (.int .u64 b) := hp.cell 2 rfl
  have p3 : W1.cell? ⟨w.heap.size, 3, none⟩ = some (.string t) := hp.cell 3 rfl
  have p4 : W1.cell? ⟨w.heap.size, 4, none⟩ = some (.slice (some ⟨g, o, none⟩) 2 cap) := hp.cell 4 rfl
  have q0 : W1.cell? ⟨w.heap.size + 1, 0, none⟩ = some (.int .i64 9) := hq.cell 0 rfl
  have q1 : W1.cell? ⟨w.heap.size + 1, 1, none⟩ = some (.int .i64 m') := hq.cell 1 rfl
  have q2 : W1.cell? ⟨w.heap.size + 1, 2, none⟩ = some (.int .u64 b') := hq.cell 2 rfl
  have q3 : W1.cell? ⟨w.heap.size + 1, 3, none⟩ = some (.string t') := hq.cell 3 rfl
  have q4 : W1.cell? ⟨w.heap.size + 1, 4, none⟩ = some (.slice (some ⟨g', o', none⟩) 2 cap') := hq.cell 4 rfl
  have kx0 : W1.cell? ⟨g, o, none⟩ = some x0 := (HB.out.cell (p := ⟨g, o, none⟩) (by have := HG.out; simpa using this)).trans hx0
  have kx1 : W1.cell? ⟨g, o + 1, none⟩ = some x1 := (HB.out.cell (p := ⟨g, o + 1, none⟩) (by have := HG.out; simpa using this)).trans hx1
  have kx2 : W1.cell? ⟨g, o + 2, none⟩ = some x2 := (HB.out.cell (p := ⟨g, o + 2, none⟩) (by have := HG.out; simpa using this)).trans hx2
  have kx3 : W1.cell? ⟨g, o + 3, none⟩ = some x3 := (HB.out.cell (p := ⟨g, o + 3, none⟩) (by have := HG.out; simpa using this)).trans hx3
  have kx4 : W1.cell? ⟨g, o + 4, none⟩ = some x4 := (HB.out.cell (p := ⟨g, o + 4, none⟩) (by have := HG.out; simpa using this)).trans hx4
  have ky0 : W1.cell? ⟨g', o', none⟩ = some y0 := (HB.out.cell (p := ⟨g', o', none⟩) (by have := HG'.out; simpa using this)).trans hy0
  have ky1 : W1.cell? ⟨g', o' + 1, none⟩ = some y1 := (HB.out.cell (p := ⟨g', o' + 1, none⟩) (by have := HG'.out; simpa using this)).trans hy1
  have ky2 : W1.cell? ⟨g', o' + 2, none⟩ = some y2 := (HB.out.cell (p := ⟨g', o' + 2, none⟩) (by have := HG'.out; simpa using this)).trans hy2
  have ky3 : W1.cell? ⟨g', o' + 3, none⟩ = some y3 := (HB.out.cell (p := ⟨g', o' + 3, none⟩) (by have := HG'.out; simpa using this)).trans hy3
  have ky4 : W1.cell? ⟨g', o' + 4, none⟩ = some y4 := (HB.out.cell (p := ⟨g', o' + 4, none⟩) (by have := HG'.out; simpa using this)).trans hy4
  have ku0 : W1.cell? ⟨g, o + 5, none⟩ = some u0 := (HB.out.cell (p := ⟨g, o + 5, none⟩) (by have := HG.out; simpa using this)).trans hu0
  have ku1 : W1.cell? ⟨g, o + 5 + 1, none⟩ = some u1 := (HB.out.cell (p := ⟨g, o + 5 + 1, none⟩) (by have := HG.out; simpa using this)).trans hu1
  have ku2 : W1.cell? ⟨g, o + 5 + 2, none⟩ = some u2 := (HB.out.cell (p := ⟨g, o + 5 + 2, none⟩) (by have := HG.out; simpa using this)).trans hu2
  have ku3 : W1.cell? ⟨g, o + 5 + 3, none⟩ = some u3 := (HB.out.cell (p := ⟨g, o + 5 + 3, none⟩) (by have := HG.out; simpa using this)).trans hu3
  have ku4 : W1.cell? ⟨g, o + 5 + 4, none⟩ = some u4 := (HB.out.cell (p := ⟨g, o + 5 + 4, none⟩) (by have := HG.out; simpa using this)).trans hu4
  have kv0 : W1.cell? ⟨g', o' + 5, none⟩ = some v0 := (HB.out.cell (p := ⟨g', o' + 5, none⟩) (by have := HG'.out; simpa using this)).trans hv0
  have kv1 : W1.cell? ⟨g', o' + 5 + 1, none⟩ = some v1 := (HB.out.cell (p := ⟨g', o' + 5 + 1, none⟩) (by have := HG'.out; simpa using this)).trans hv1
  have kv2 : W1.cell? ⟨g', o' + 5 + 2, none⟩ = some v2 := (HB.out.cell (p := ⟨g', o' + 5 + 2, none⟩) (by have := HG'.out; simpa using this)).trans hv2
  have kv3 : W1.cell? ⟨g', o' + 5 + 3, none⟩ = some v3 := (HB.out.cell (p := ⟨g', o' + 5 + 3, none⟩) (by have := HG'.out; simpa using this)).trans hv3
  have kv4 : W1.cell? ⟨g', o' + 5 + 4, none⟩ = some v4 := (HB.out.cell (p := ⟨g', o' + 5 + 4, none⟩) (by have := HG'.out; simpa using this)).trans hv4
  clear hx0 hx1 hx2 hx3 hx4 hy0 hy1 hy2 hy3 hy4 hu0 hu1 hu2 hu3 hu4 hv0 hv1 hv2 hv3 hv4
  have kp4 := p4
  have kq4 := q4
  go_enter Tryz.func27, Tryz.ntmps27
  go_upto_region 1 with fail
  rw [← hW1]
  clear hW1
  go_upto_region 10 with fail
  go_region_held3 (fun w' => w'.cell? ⟨w.heap.size, 4, none⟩ = some (.slice (some ⟨g, o, none⟩) 2 cap) ∧ w'.cell? ⟨w.heap.size + 1, 4, none⟩ = some (.slice (some ⟨g', o', none⟩) 2 cap') ∧ w'.cell? ⟨g, o, none⟩ = some x0 ∧ w'.cell? ⟨g, o + 1, none⟩ = some x1 ∧ w'.cell? ⟨g, o + 2, none⟩ = some x2 ∧ w'.cell? ⟨g, o + 3, none⟩ = some x3 ∧ w'.cell? ⟨g, o + 4, none⟩ = some x4 ∧ w'.cell? ⟨g', o', none⟩ = some y0 ∧ w'.cell? ⟨g', o' + 1, none⟩ = some y1 ∧ w'.cell? ⟨g', o' + 2, none⟩ = some y2 ∧ w'.cell? ⟨g', o' + 3, none⟩ = some y3 ∧ w'.cell? ⟨g', o' + 4, none⟩ = some y4 ∧ Below W1.heap.size W1 w')
    (first | (exact ⟨kp4, kq4, kx0, kx1, kx2, kx3, kx4, ky0, ky1, ky2, ky3, ky4, by go_grown⟩) | (exact keep12 hS1 hS2 hS3 (by assumption) (by assumption)) | fail)
    (try (go_at_call 27; refine (HH1.out _ (HB.out.trans ((held12 (by assumption)).mono HB.out.size))).mono ?_; rintro x w2 ⟨rfl, hb2⟩))
  have hq2 := held12 (by assumption)
  clear kp4 kq4
  go_wp2_with fail
  go_ret2
  exact ⟨rfl, hb1.trans (hq2.mono hb1.size)⟩

set_option maxRecDepth 100000 in
set_option maxHeartbeats 6400000 in
theorem requal_pair_true {w0 : World} {m b : Int} {t : ByteArray} {g o cap : Nat} {m' b' : Int} {t' : ByteArray} {g' o' cap' : Nat} {x0 x1 x2 x3 x4 y0 y1 y2 y3 y4 u0 u1 u2 u3 u4 v0 v1 v2 v3 v4 : Value} {s : Bool} {e : Int}
    (hg : g < w0.heap.size) (hcap : 2 ≤ cap ∧ cap ≤ 9223372036854775807) (hg' : g' < w0.heap.size) (hcap' : 2 ≤ cap' ∧ cap' ≤ 9223372036854775807)
    (hx : w0.cell? ⟨g, o, none⟩ = some x0 ∧ w0.cell? ⟨g, o + 1, none⟩ = some x1 ∧ w0.cell? ⟨g, o + 2, none⟩ = some x2 ∧ w0.cell? ⟨g, o + 3, none⟩ = some x3 ∧ w0.cell? ⟨g, o + 4, none⟩ = some x4) (hy : w0.cell? ⟨g', o', none⟩ = some y0 ∧ w0.cell? ⟨g', o' + 1, none⟩ = some y1 ∧ w0.cell? ⟨g', o' + 2, none⟩ = some y2 ∧ w0.cell? ⟨g', o' + 3, none⟩ = some y3 ∧ w0.cell? ⟨g', o' + 4, none⟩ = some y4) (hu : w0.cell? ⟨g, o + 5, none⟩ = some u0 ∧ w0.cell? ⟨g, o + 5 + 1, none⟩ = some u1 ∧ w0.cell? ⟨g, o + 5 + 2, none⟩ = some u2 ∧ w0.cell? ⟨g, o + 5 + 3, none⟩ = some u3 ∧ w0.cell? ⟨g, o + 5 + 4, none⟩ = some u4) (hv : w0.cell? ⟨g', o' + 5, none⟩ = some v0 ∧ w0.cell? ⟨g', o' + 5 + 1, none⟩ = some v1 ∧ w0.cell? ⟨g', o' + 5 + 2, none⟩ = some v2 ∧ w0.cell? ⟨g', o' + 5 + 3, none⟩ = some v3 ∧ w0.cell? ⟨g', o' + 5 + 4, none⟩ = some v4)
    (H1 : ∀ W, Below w0.heap.size w0 W → Calls Tryz.prog 27 #[.agg #[x0, x1, x2, x3, x4], .agg #[y0, y1, y2, y3, y4]] W fun x w' => x = .returned (.tuple #[.bool true, .int .i64 0]) ∧ Below W.heap.size W w')
    (H2 : ∀ W, Below w0.heap.size w0 W → Calls Tryz.prog 27 #[.agg #[u0, u1, u2, u3, u4], .agg #[v0, v1, v2, v3, v4]] W fun x w' => x = .returned (.tuple #[.bool s, .int .i64 e]) ∧ Below W.heap.size W w') (w : World) (hb0 : Below w0.heap.size w0 w) :
    Calls Tryz.prog 27 #[(.agg #[.int .i64 9, .int .i64 m, .int .u64 b, .string t, .slice (some ⟨g, o, none⟩) 2 cap]), (.agg #[.int .i64 9, .int .i64 m', .int .u64 b', .string t', .slice (some ⟨g', o', none⟩) 2 cap'])] w fun x w' => x = .returned (.tuple #[.bool s, .int .i64 e]) ∧ Below w.heap.size w w' := by
  have HH1 := Lib.hid H1
  have HH2 := Lib.hid H2
  obtain ⟨hx0, hx1, hx2, hx3, hx4⟩ := hx
  obtain ⟨hy0, hy1, hy2, hy3, hy4⟩ := hy
  obtain ⟨hu0, hu1, hu2, hu3, hu4⟩ := hu
  obtain ⟨hv0, hv1, hv2, hv3, hv4⟩ := hv
  obtain ⟨hc1, hc2⟩ := hcap
  obtain ⟨hc3, hc4⟩ := hcap'
  clear H1 H2
  have HG := Lib.hid hg
  have HG' := Lib.hid hg'
  obtain ⟨W1, hW1, hb1, hz, hp, hq⟩ := rows2b w (.int .i64 9) (.int .i64 m) (.int .u64 b) (.string t) (.slice (some ⟨g, o, none⟩) 2 cap) (.int .i64 9) (.int .i64 m') (.int .u64 b') (.string t') (.slice (some ⟨g', o', none⟩) 2 cap')
  have h01 : Below w0.heap.size w0 W1 := hb0.trans (hb1.mono hb0.size)
  have hl0 := h01.size
  have hzo := hz.out
  have hS1 : w.heap.size + 2 ≤ W1.heap.size := by omega
  have hS2 : g < W1.heap.size := by omega
  have hS3 : g' < W1.heap.size := by omega
  have HB := Lib.hid h01
  clear hb0 hl0 hzo hg hg'
  have p0 : W1.cell? ⟨w.heap.size, 0, none⟩ = some (.int .i64 9) := hp.cell 0 rfl
  have p1 : W1.cell? ⟨w.heap.size, 1, none⟩ = some (.int .i64 m) := hp.cell 1 rfl
  have p2 : W1.cell? ⟨w.heap.size, 2, none⟩ = some (.int .u64 b) := hp.cell 2 rfl
  have p3 : W1.cell? ⟨w.heap.size, 3, none⟩ = some (.string t) := hp.cell 3 rfl
  have p4 : W1.cell? ⟨w.heap.size, 4, none⟩ = some (.slice (some ⟨g, o, none⟩) 2 cap) := hp.cell 4 rfl
  have q0 : W1.cell? ⟨w.heap.size + 1, 0, none⟩ = some (.int .i64 9) := hq.cell 0 rfl
  have q1 : W1.cell? ⟨w.heap.size + 1, 1, none⟩ = some (.int .i64 m') := hq.cell 1 rfl
  have q2 : W1.cell? ⟨w.heap.size + 1, 2, none⟩ = some (.int .u64 b') := hq.cell 2 rfl
  have q3 : W1.cell? ⟨w.heap.size + 1, 3, none⟩ = some (.string t') := hq.cell 3 rfl
  have q4 : W1.cell? ⟨w.heap.size + 1, 4, none⟩ = some (.slice (some ⟨g', o', none⟩) 2 cap') := hq.cell 4 rfl
  have kx0 : W1.cell? ⟨g, o, none⟩ = some x0 := (HB.out.cell (p := ⟨g, o, none⟩) (by have := HG.out; simpa using this)).trans hx0
  have kx1 : W1.cell? ⟨g, o + 1, none⟩ = some x1 := (HB.out.cell (p := ⟨g, o + 1, none⟩) (by have := HG.out; simpa using this)).trans hx1
  have kx2 : W1.cell? ⟨g, o + 2, none⟩ = some x2 := (HB.out.cell (p := ⟨g, o + 2, none⟩) (by have := HG.out; simpa using this)).trans hx2
  have kx3 : W1.cell? ⟨g, o + 3, none⟩ = some x3 := (HB.out.cell (p := ⟨g, o + 3, none⟩) (by have := HG.out; simpa using this)).trans hx3
  have kx4 : W1.cell? ⟨g, o + 4, none⟩ = some x4 := (HB.out.cell (p := ⟨g, o + 4, none⟩) (by have := HG.out; simpa using this)).trans hx4
  have ky0 : W1.cell? ⟨g', o', none⟩ = some y0 := (HB.out.cell (p := ⟨g', o', none⟩) (by have := HG'.out; simpa using this)).trans hy0
  have ky1 : W1.cell? ⟨g', o' + 1, none⟩ = some y1 := (HB.out.cell (p := ⟨g', o' + 1, none⟩) (by have := HG'.out; simpa using this)).trans hy1
  have ky2 : W1.cell? ⟨g', o' + 2, none⟩ = some y2 := (HB.out.cell (p := ⟨g', o' + 2, none⟩) (by have := HG'.out; simpa using this)).trans hy2
  have ky3 : W1.cell? ⟨g', o' + 3, none⟩ = some y3 := (HB.out.cell (p := ⟨g', o' + 3, none⟩) (by have := HG'.out; simpa using this)).trans hy3
  have ky4 : W1.cell? ⟨g', o' + 4, none⟩ = some y4 := (HB.out.cell (p := ⟨g', o' + 4, none⟩) (by have := HG'.out; simpa using this)).trans hy4
  have ku0 : W1.cell? ⟨g, o + 5, none⟩ = some u0 := (HB.out.cell (p := ⟨g, o + 5, none⟩) (by have := HG.out; simpa using this)).trans hu0
  have ku1 : W1.cell? ⟨g, o + 5 + 1, none⟩ = some u1 := (HB.out.cell (p := ⟨g, o + 5 + 1, none⟩) (by have := HG.out; simpa using this)).trans hu1
  have ku2 : W1.cell? ⟨g, o + 5 + 2, none⟩ = some u2 := (HB.out.cell (p := ⟨g, o + 5 + 2, none⟩) (by have := HG.out; simpa using this)).trans hu2
  have ku3 : W1.cell? ⟨g, o + 5 + 3, none⟩ = some u3 := (HB.out.cell (p := ⟨g, o + 5 + 3, none⟩) (by have := HG.out; simpa using this)).trans hu3
  have ku4 : W1.cell? ⟨g, o + 5 + 4, none⟩ = some u4 := (HB.out.cell (p := ⟨g, o + 5 + 4, none⟩) (by have := HG.out; simpa using this)).trans hu4
  have kv0 : W1.cell? ⟨g', o' + 5, none⟩ = some v0 := (HB.out.cell (p := ⟨g', o' + 5, none⟩) (by have := HG'.out; simpa using this)).trans hv0
  have kv1 : W1.cell? ⟨g', o' + 5 + 1, none⟩ = some v1 := (HB.out.cell (p := ⟨g', o' + 5 + 1, none⟩) (by have := HG'.out; simpa using this)).trans hv1
  have kv2 : W1.cell? ⟨g', o' + 5 + 2, none⟩ = some v2 := (HB.out.cell (p := ⟨g', o' + 5 + 2, none⟩) (by have := HG'.out; simpa using this)).trans hv2
  have kv3 : W1.cell? ⟨g', o' + 5 + 3, none⟩ = some v3 := (HB.out.cell (p := ⟨g', o' + 5 + 3, none⟩) (by have := HG'.out; simpa using this)).trans hv3
  have kv4 : W1.cell? ⟨g', o' + 5 + 4, none⟩ = some v4 := (HB.out.cell (p := ⟨g', o' + 5 + 4, none⟩) (by have := HG'.out; simpa using this)).trans hv4
  clear hx0 hx1 hx2 hx3 hx4 hy0 hy1 hy2 hy3 hy4 hu0 hu1 hu2 hu3 hu4 hv0 hv1 hv2 hv3 hv4
  have kp4 := p4
  have kq4 := q4
  go_enter Tryz.func27, Tryz.ntmps27
  go_upto_region 1 with fail
  rw [← hW1]
  clear hW1
  go_upto_region 10 with fail
  go_region_held3 (fun w' => w'.cell? ⟨w.heap.size, 4, none⟩ = some (.slice (some ⟨g, o, none⟩) 2 cap) ∧ w'.cell? ⟨w.heap.size + 1, 4, none⟩ = some (.slice (some ⟨g', o', none⟩) 2 cap') ∧ w'.cell? ⟨g, o, none⟩ = some x0 ∧ w'.cell? ⟨g, o + 1, none⟩ = some x1 ∧ w'.cell? ⟨g, o + 2, none⟩ = some x2 ∧ w'.cell? ⟨g, o + 3, none⟩ = some x3 ∧ w'.cell? ⟨g, o + 4, none⟩ = some x4 ∧ w'.cell? ⟨g', o', none⟩ = some y0 ∧ w'.cell? ⟨g', o' + 1, none⟩ = some y1 ∧ w'.cell? ⟨g', o' + 2, none⟩ = some y2 ∧ w'.cell? ⟨g', o' + 3, none⟩ = some y3 ∧ w'.cell? ⟨g', o' + 4, none⟩ = some y4 ∧ Below W1.heap.size W1 w')
    (first | (exact ⟨kp4, kq4, kx0, kx1, kx2, kx3, kx4, ky0, ky1, ky2, ky3, ky4, by go_grown⟩) | (exact keep12 hS1 hS2 hS3 (by assumption) (by assumption)) | fail)
    (try (go_at_call 27; refine (HH1.out _ (HB.out.trans ((held12 (by assumption)).mono HB.out.size))).mono ?_; rintro x w2 ⟨rfl, hb2⟩))
  have hq2 := held12 (by assumption)
  clear kp4 kq4
  have np4 : w2.cell? ⟨w.heap.size, 4, none⟩ = some (.slice (some ⟨g, o, none⟩) 2 cap) := (hq2.cell (p := ⟨w.heap.size, 4, none⟩) (by simp; omega)).trans p4
  have nq4 : w2.cell? ⟨w.heap.size + 1, 4, none⟩ = some (.slice (some ⟨g', o', none⟩) 2 cap') := (hq2.cell (p := ⟨w.heap.size + 1, 4, none⟩) (by simp; omega)).trans q4
  have nu0 : w2.cell? ⟨g, o + 5, none⟩ = some (u0) := (hq2.cell (p := ⟨g, o + 5, none⟩) (by simpa using hS2)).trans ku0
  have nu1 : w2.cell? ⟨g, o + 5 + 1, none⟩ = some (u1) := (hq2.cell (p := ⟨g, o + 5 + 1, none⟩) (by simpa using hS2)).trans ku1
  have nu2 : w2.cell? ⟨g, o + 5 + 2, none⟩ = some (u2) := (hq2.cell (p := ⟨g, o + 5 + 2, none⟩) (by simpa using hS2)).trans ku2
  have nu3 : w2.cell? ⟨g, o + 5 + 3, none⟩ = some (u3) := (hq2.cell (p := ⟨g, o + 5 + 3, none⟩) (by simpa using hS2)).trans ku3
  have nu4 : w2.cell? ⟨g, o + 5 + 4, none⟩ = some (u4) := (hq2.cell (p := ⟨g, o + 5 + 4, none⟩) (by simpa using hS2)).trans ku4
  have nv0 : w2.cell? ⟨g', o' + 5, none⟩ = some (v0) := (hq2.cell (p := ⟨g', o' + 5, none⟩) (by simpa using hS3)).trans kv0
  have nv1 : w2.cell? ⟨g', o' + 5 + 1, none⟩ = some (v1) := (hq2.cell (p := ⟨g', o' + 5 + 1, none⟩) (by simpa using hS3)).trans kv1
  have nv2 : w2.cell? ⟨g', o' + 5 + 2, none⟩ = some (v2) := (hq2.cell (p := ⟨g', o' + 5 + 2, none⟩) (by simpa using hS3)).trans kv2
  have nv3 : w2.cell? ⟨g', o' + 5 + 3, none⟩ = some (v3) := (hq2.cell (p := ⟨g', o' + 5 + 3, none⟩) (by simpa using hS3)).trans kv3
  have nv4 : w2.cell? ⟨g', o' + 5 + 4, none⟩ = some (v4) := (hq2.cell (p := ⟨g', o' + 5 + 4, none⟩) (by simpa using hS3)).trans kv4
  have hT1 : w.heap.size + 2 ≤ w2.heap.size := Nat.le_trans hS1 hq2.size
  have hT2 : g < w2.heap.size := Nat.lt_of_lt_of_le hS2 hq2.size
  have hT3 : g' < w2.heap.size := Nat.lt_of_lt_of_le hS3 hq2.size
  have HB2 := Lib.hid (HB.out.trans (hq2.mono HB.out.size))
  clear kx0 kx1 kx2 kx3 kx4 ky0 ky1 ky2 ky3 ky4 ku0 ku1 ku2 ku3 ku4 kv0 kv1 kv2 kv3 kv4 p0 p1 p2 p3 p4 q0 q1 q2 q3 q4
  go_upto_region 13 with fail
  go_region_held3 (fun w' => w'.cell? ⟨w.heap.size, 4, none⟩ = some (.slice (some ⟨g, o, none⟩) 2 cap) ∧ w'.cell? ⟨w.heap.size + 1, 4, none⟩ = some (.slice (some ⟨g', o', none⟩) 2 cap') ∧ w'.cell? ⟨g, o + 5, none⟩ = some u0 ∧ w'.cell? ⟨g, o + 5 + 1, none⟩ = some u1 ∧ w'.cell? ⟨g, o + 5 + 2, none⟩ = some u2 ∧ w'.cell? ⟨g, o + 5 + 3, none⟩ = some u3 ∧ w'.cell? ⟨g, o + 5 + 4, none⟩ = some u4 ∧ w'.cell? ⟨g', o' + 5, none⟩ = some v0 ∧ w'.cell? ⟨g', o' + 5 + 1, none⟩ = some v1 ∧ w'.cell? ⟨g', o' + 5 + 2, none⟩ = some v2 ∧ w'.cell? ⟨g', o' + 5 + 3, none⟩ = some v3 ∧ w'.cell? ⟨g', o' + 5 + 4, none⟩ = some v4 ∧ Below w2.heap.size w2 w')
    (first | (exact ⟨np4, nq4, nu0, nu1, nu2, nu3, nu4, nv0, nv1, nv2, nv3, nv4, by go_grown⟩) | (exact keep12 hT1 hT2 hT3 (by assumption) (by assumption)) | fail)
    (try (go_at_call 27; refine (HH2.out _ (HB2.out.trans ((held12 (by assumption)).mono HB2.out.size))).mono ?_; rintro x w3 ⟨rfl, hb3⟩))
  have hq3 := held12 (by assumption)
  go_wp2_with fail
  go_ret2
  exact ⟨rfl, (hb1.trans (hq2.mono hb1.size)).trans (hq3.mono (hb1.trans (hq2.mono hb1.size)).size)⟩
end Go.Proofs.YteplhhlgceppkabGreat

/- Contract of the reference's Equal of any two Datums. -/
namespace Go.Proofs.YteplhhlgceppkabGreat
open Go Go.RowKit Go.ChangeShapes Go.WideShapes

theorem eqD_kind {k m b : Int} {t : ByteArray} {l : List D} {e : D} (h : k ≠ e.kind) : eqD (.mk k m b t l) e = some false := by
  rw [eqD, if_pos h]
theorem eqD_rows {k m b : Int} {t : ByteArray} {l : List D} {e : D} (h : k = e.kind) (h7 : k = 7 ∨ k = 8) : eqD (.mk k m b t l) e = none := by
  rw [eqD, if_neg (by simp [h]), if_pos h7]
theorem eqD_float {k m b : Int} {t : ByteArray} {l : List D} {e : D} (h : k = e.kind) (h3 : k = 3) : eqD (.mk k m b t l) e = some (Op.floatEq .f64 b.toNat e.bits.toNat) := by
  rw [eqD, if_neg (by simp [h]), if_neg (by omega), if_pos h3]
theorem eqD_pair {k m b : Int} {t : ByteArray} {l : List D} {e : D} (h : k = e.kind) (h9 : k = 9) : eqD (.mk k m b t l) e = eqL l e.kids := by
  rw [eqD, if_neg (by simp [h]), if_neg (by omega), if_neg (by omega), if_pos h9]
theorem eqD_plain {k m b : Int} {t : ByteArray} {l : List D} {e : D} (h : k = e.kind) (h7 : k ≠ 7) (h8 : k ≠ 8) (h3 : k ≠ 3) (h9 : k ≠ 9) : eqD (.mk k m b t l) e = some (m == e.num && t == e.text) := by
  rw [eqD, if_neg (by simp [h]), if_neg (by omega), if_neg h3, if_neg h9]
theorem eqL_two (x y x' y' : D) : eqL [x, y] [x', y'] = eqThen (eqD x x') (eqD y y') := by
  rw [eqL, eqL, eqL, eqThen_true]

set_option maxHeartbeats 1600000 in
theorem requal_any {w0 : World} {v : Value} {d : D} (h : Rep w0 v d) : Right d → ∀ (v' : Value) (d' : D), Rep w0 v' d' → Right d' → ∀ (w : World), Below w0.heap.size w0 w →
    Calls Tryz.prog 27 #[v, v'] w fun x w' => x = .returned (eqR (eqD d d')) ∧ Below w.heap.size w w' := by
  induction h with
  | mk k m b t a cap g o c kids hw ha hc hk ih =>
    intro hR v' d' h' hR' w hb
    obtain ⟨k', m', b', t', a', cap', g', o', c', kids', rfl, rfl, hw', ha', hc', hk'⟩ := h'.inv
    by_cases hkk : k = k'
    · by_cases h78 : k = 7 ∨ k = 8
      · rw [eqD_rows hkk h78]
        exact requal_rows hkk h78 w
      · by_cases h3 : k = 3
        · rw [eqD_float hkk h3]
          subst hkk h3
          exact requal_float w
        · by_cases h9 : k = 9
          · rw [eqD_pair hkk h9]
            subst hkk h9
            obtain ⟨x, y, rfl⟩ := kids2 (hR.inv.1.2.2.1 rfl)
            obtain ⟨x', y', rfl⟩ := kids2 (hR'.inv.1.2.2.1 rfl)
            show Calls _ _ _ _ fun z w' => z = .returned (eqR (eqL [x, y] [x', y'])) ∧ _
            rw [eqL_two]
            obtain ⟨rfl, hg, hcp, hcm⟩ := ha (by simp)
            obtain ⟨rfl, hg', hcp', hcm'⟩ := ha' (by simp)
            have r0 := hc 0 (by simp)
            have r1 := hc 1 (by simp)
            have s0 := hc' 0 (by simp)
            have s1 := hc' 1 (by simp)
            simp only [Nat.zero_mul, Nat.one_mul, Nat.add_zero] at r0 r1 s0 s1
            have H1 := fun W hW => ih 0 x rfl (hR.inv.2 x (by simp)) (five c' 0) x' (hk' 0 x' rfl) (hR'.inv.2 x' (by simp)) W hW
            have H2 := fun W hW => ih 1 y rfl (hR.inv.2 y (by simp)) (five c' 1) y' (hk' 1 y' rfl) (hR'.inv.2 y' (by simp)) W hW
            have hcap : 2 ≤ cap ∧ cap ≤ 9223372036854775807 := ⟨by simpa using hcp, hcm⟩
            have hcap' : 2 ≤ cap' ∧ cap' ≤ 9223372036854775807 := ⟨by simpa using hcp', hcm'⟩
            generalize eqD y y' = s at *
            have H2' : ∃ (q : Bool) (e : Int), eqR s = .tuple #[.bool q, .int .i64 e] := by
              rcases s with _ | q
              · exact ⟨_, _, rfl⟩
              · exact ⟨_, _, rfl⟩
            obtain ⟨q, e, hqe⟩ := H2'
            rw [hqe] at H2
            generalize eqD x x' = r at *
            rcases r with _ | _ | _
            · exact requal_pair_none hg hcap hg' hcap' r0 s0 r1 s1 H1 H2 w hb
            · exact requal_pair_false hg hcap hg' hcap' r0 s0 r1 s1 H1 H2 w hb
            · show Calls _ _ _ _ fun z w' => z = .returned (eqR s) ∧ _
              rw [hqe]
              exact requal_pair_true hg hcap hg' hcap' r0 s0 r1 s1 H1 H2 w hb
          · rw [eqD_plain hkk (by omega) (by omega) h3 h9]
            exact requal_plain hkk (by omega) (by omega) h3 h9 w
    · rw [eqD_kind hkk]
      exact requal_kind hkk w
end Go.Proofs.YteplhhlgceppkabGreat

/- Contract of datum's equal, of any two Datums. -/
namespace Go.Proofs.YteplhhlgceppkabGreat
open Go Go.RowKit Go.ChangeShapes Go.WideShapes

theorem tp_1 (v : Value) (w : World) : (Instr.typeAssert (.iface 118 v) 20 130 true).run Tryz.prog w = .ok (.tuple #[.agg #[.nilIface, .nilIface], .bool false]) w := by kernel_rfl
theorem tp_2 (v : Value) (w : World) : (Instr.typeAssert (.iface 119 v) 20 130 true).run Tryz.prog w = .ok (.tuple #[.agg #[.nilIface, .nilIface], .bool false]) w := by kernel_rfl
theorem tp_3 (v : Value) (w : World) : (Instr.typeAssert (.iface 120 v) 20 130 true).run Tryz.prog w = .ok (.tuple #[.agg #[.nilIface, .nilIface], .bool false]) w := by kernel_rfl
theorem tp_4 (v : Value) (w : World) : (Instr.typeAssert (.iface 121 v) 20 130 true).run Tryz.prog w = .ok (.tuple #[.agg #[.nilIface, .nilIface], .bool false]) w := by kernel_rfl
theorem tp_5 (v : Value) (w : World) : (Instr.typeAssert (.iface 122 v) 20 130 true).run Tryz.prog w = .ok (.tuple #[.agg #[.nilIface, .nilIface], .bool false]) w := by kernel_rfl
theorem tp_6 (v : Value) (w : World) : (Instr.typeAssert (.iface 123 v) 20 130 true).run Tryz.prog w = .ok (.tuple #[.agg #[.nilIface, .nilIface], .bool false]) w := by kernel_rfl
theorem tp_7 (v : Value) (w : World) : (Instr.typeAssert (.iface 125 v) 20 130 true).run Tryz.prog w = .ok (.tuple #[.agg #[.nilIface, .nilIface], .bool false]) w := by kernel_rfl
theorem tp_8 (v : Value) (w : World) : (Instr.typeAssert (.iface 127 v) 20 130 true).run Tryz.prog w = .ok (.tuple #[.agg #[.nilIface, .nilIface], .bool false]) w := by kernel_rfl
theorem tp_10 (v : Value) (w : World) : (Instr.typeAssert (.iface 132 v) 20 130 true).run Tryz.prog w = .ok (.tuple #[.agg #[.nilIface, .nilIface], .bool false]) w := by kernel_rfl
theorem tp_11 (v : Value) (w : World) : (Instr.typeAssert (.iface 133 v) 20 130 true).run Tryz.prog w = .ok (.tuple #[.agg #[.nilIface, .nilIface], .bool false]) w := by kernel_rfl
theorem tp_13 (v : Value) (w : World) : (Instr.typeAssert (.iface 136 v) 20 130 true).run Tryz.prog w = .ok (.tuple #[.agg #[.nilIface, .nilIface], .bool false]) w := by kernel_rfl
theorem IV.asPair {F : DataW Unit} {d : D} {u : Value} (h : IV F d u) : ∃ x0 x1, AsPair u x0 x1 (decide (d.kind = 9)) ∧ x0.oneCell' = true ∧ x1.oneCell' = true := by
  cases h with
  | nil m b t l => exact ⟨_, _, fun w => tp_nil w, rfl, rfl⟩
  | int m b t l => exact ⟨_, _, fun w => tp_1 _ w, rfl, rfl⟩
  | key m b t l => exact ⟨_, _, fun w => tp_2 _ w, rfl, rfl⟩
  | float m b t l => exact ⟨_, _, fun w => tp_3 _ w, rfl, rfl⟩
  | text m b t l => exact ⟨_, _, fun w => tp_4 _ w, rfl, rfl⟩
  | name m b t l => exact ⟨_, _, fun w => tp_5 _ w, rfl, rfl⟩
  | bool m b t l => exact ⟨_, _, fun w => tp_6 _ w, rfl, rfl⟩
  | bytes m b t l a c => exact ⟨_, _, fun w => tp_7 _ w, rfl, rfl⟩
  | list m b t l a c => exact ⟨_, _, fun w => tp_8 _ w, rfl, rfl⟩
  | pair m b t x y u v hx hy => exact ⟨u, v, fun w => tp_9 _ w, hx.one, hy.one⟩
  | err m b t l => exact ⟨_, _, fun w => tp_10 _ w, rfl, rfl⟩
  | ptr m b t l g hg => exact ⟨_, _, fun w => tp_11 _ w, rfl, rfl⟩
  | noptr m b t l => exact ⟨_, _, fun w => tp_11 _ w, rfl, rfl⟩
  | unit m b t l => exact ⟨_, _, fun w => tp_13 _ w, rfl, rfl⟩

/-- What '==' does of two interface values in a world. -/
def EqAt (r : Option Bool) (u v : Value) (W : World) : Prop :=
  match r with
  | some b => (binOp .eql 20 u v).run Tryz.prog W = .ok (.bool b) W
  | none => ∃ V z, (binOp .eql 20 u v).run Tryz.prog W = .halt (.panic (.iface V z)) W
theorem flat_any {F : DataW Unit} {d d' : D} {u v : Value} (hu : IV F d u) (hv : IV F d' v) (hab : (decide (d.kind = 9) && decide (d'.kind = 9)) = false) (r : Option Bool) (w : World) (h : ∀ W, Below w.heap.size w W → EqAt r u v W) :
    Calls Tryz.prog 62 #[u, v] w (EqPost r w) := by
  obtain ⟨x0, x1, hp, h0, h1⟩ := hu.asPair
  obtain ⟨y0, y1, hq, h2, h3⟩ := hv.asPair
  have hh := h _ (eqWorld_below w x0 x1 y0 y1)
  rcases r with _ | b
  · obtain ⟨V, z, hr⟩ := hh
    rcases hu.form with rfl | ⟨T, x, rfl⟩ <;> rcases hv.form with rfl | ⟨U, y, rfl⟩
    · rw [eq_nil] at hr; cases hr
    · rw [eq_nil1] at hr; cases hr
    · rw [eq_nil2] at hr; cases hr
    · exact (flat_pan_ii T U x y x0 x1 y0 y1 _ _ hab V z w h0 h1 h2 h3 hp hq hr).mono fun e w' ⟨he, hb⟩ => ⟨⟨V, z, he⟩, hb⟩
  · have hr : (binOp .eql 20 u v).run Tryz.prog (eqWorld w x0 x1 y0 y1) = .ok (.bool b) (eqWorld w x0 x1 y0 y1) := hh
    rcases hu.form with rfl | ⟨T, x, rfl⟩ <;> rcases hv.form with rfl | ⟨U, y, rfl⟩
    · rw [eq_nil] at hr
      cases hr
      exact flat_nn w
    · exact flat_ret_ni U y x0 x1 y0 y1 _ _ hab b w h0 h1 h2 h3 hp hq hr
    · exact flat_ret_in T x x0 x1 y0 y1 _ _ hab b w h0 h1 h2 h3 hp hq hr
    · exact flat_ret_ii T U x y x0 x1 y0 y1 _ _ hab b w h0 h1 h2 h3 hp hq hr

theorem IV.differ {F : DataW Unit} {d d' : D} {u v : Value} (hu : IV F d u) (hv : IV F d' v) (h : d.kind ≠ d'.kind) (W : World) : EqAt (some false) u v W := by
  show (binOp .eql 20 u v).run Tryz.prog W = .ok (.bool false) W
  cases hu <;> cases hv <;> first
    | (simp [D.kind] at h; done)
    | with_reducible exact eq_nil1 _ _ W
    | with_reducible exact eq_nil2 _ _ W
    | with_reducible exact eq_11_01 _ W
    | with_reducible exact eq_11_10 _ W
    | exact eq_diff (by decide) _ _ W

theorem empty_eq {s t : ByteArray} (hs : s.toList = []) (ht : t.toList = []) : (s == t) = true := by
  rw [beq_toListBytes, hs, ht]
  rfl

theorem bool_eq {a b : Int} (ha : a = 0 ∨ a = 1) (hb : b = 0 ∨ b = 1) : ((a == 1) == (b == 1)) = (a == b) := by
  rcases ha with rfl | rfl <;> rcases hb with rfl | rfl <;> rfl

/-- Of one kind, no pairs. -/
theorem IV.alike {F : DataW Unit} {M n : Nat} {d d' : D} {u v : Value} (hu : IV F d u) (hv : IV F d' v) (hR : Right d) (hR' : Right d') (h : d.kind = d'.kind) (h9 : d.kind ≠ 9) (W : World) (hbx : BoxesAt W M n F) : EqAt (eqD d d') u v W := by
  cases hu <;> cases hv <;> first
    | (simp [D.kind] at h; done)
    | (simp [D.kind] at h9; done)
    | skip
  case nil.nil m b t l m' b' t' l' =>
    have e := hR.inv.1
    have e' := hR'.inv.1
    have hm : m = 0 := by have := e.2.2.2.2.2.2.1; omega
    have hm' : m' = 0 := by have := e'.2.2.2.2.2.2.1; omega
    have ht : t.toList = [] := e.2.2.2.2.2.2.2.2.1.resolve_left (by omega)
    have ht' : t'.toList = [] := e'.2.2.2.2.2.2.2.2.1.resolve_left (by omega)
    have er : eqD (.mk 0 m b t l) (.mk 0 m' b' t' l') = some true := by
      simp [eqD, D.kind, D.num, D.text, hm, hm', empty_eq ht ht']
    rw [er]
    exact eq_nil W
  case int.int m b t l m' b' t' l' =>
    have e := hR.inv.1
    have e' := hR'.inv.1
    have ht : t.toList = [] := e.2.2.2.2.2.2.2.2.1.resolve_left (by omega)
    have ht' : t'.toList = [] := e'.2.2.2.2.2.2.2.2.1.resolve_left (by omega)
    have er : eqD (.mk 1 m b t l) (.mk 1 m' b' t' l') = some (m == m') := by
      simp [eqD, D.kind, D.num, D.text, empty_eq ht ht']
    rw [er]
    exact eq_1 m m' W
  case key.key m b t l m' b' t' l' =>
    have e := hR.inv.1
    have e' := hR'.inv.1
    have ht : t.toList = [] := e.2.2.2.2.2.2.2.2.1.resolve_left (by omega)
    have ht' : t'.toList = [] := e'.2.2.2.2.2.2.2.2.1.resolve_left (by omega)
    have er : eqD (.mk 2 m b t l) (.mk 2 m' b' t' l') = some (m == m') := by
      simp [eqD, D.kind, D.num, D.text, empty_eq ht ht']
    rw [er]
    exact eq_2 m m' W
  case float.float m b t l m' b' t' l' =>
    have er : eqD (.mk 3 m b t l) (.mk 3 m' b' t' l') = some (Op.floatEq .f64 b.toNat b'.toNat) := by
      simp [eqD, D.kind, D.bits]
    rw [er]
    exact eq_3 _ _ W
  case text.text m b t l m' b' t' l' =>
    have e := hR.inv.1
    have e' := hR'.inv.1
    have hm : m = 0 := by have := e.2.2.2.2.2.2.1; omega
    have hm' : m' = 0 := by have := e'.2.2.2.2.2.2.1; omega
    have er : eqD (.mk 4 m b t l) (.mk 4 m' b' t' l') = some (t == t') := by
      simp [eqD, D.kind, D.num, D.text, hm, hm']
    rw [er]
    exact eq_4 t t' W
  case name.name m b t l m' b' t' l' =>
    have e := hR.inv.1
    have e' := hR'.inv.1
    have hm : m = 0 := by have := e.2.2.2.2.2.2.1; omega
    have hm' : m' = 0 := by have := e'.2.2.2.2.2.2.1; omega
    have er : eqD (.mk 5 m b t l) (.mk 5 m' b' t' l') = some (t == t') := by
      simp [eqD, D.kind, D.num, D.text, hm, hm']
    rw [er]
    exact eq_5 t t' W
  case bool.bool m b t l m' b' t' l' =>
    have e := hR.inv.1
    have e' := hR'.inv.1
    have ht : t.toList = [] := e.2.2.2.2.2.2.2.2.1.resolve_left (by omega)
    have ht' : t'.toList = [] := e'.2.2.2.2.2.2.2.2.1.resolve_left (by omega)
    have er : eqD (.mk 6 m b t l) (.mk 6 m' b' t' l') = some ((m == 1) == (m' == 1)) := by
      rw [bool_eq (e.2.2.2.2.2.2.2.2.2.1 rfl) (e'.2.2.2.2.2.2.2.2.2.1 rfl)]
      simp [eqD, D.kind, D.num, D.text, empty_eq ht ht']
    rw [er]
    exact eq_6 _ _ W
  case bytes.bytes m b t l a c m' b' t' l' a' c' =>
    have er : eqD (.mk 7 m b t l) (.mk 7 m' b' t' l') = none := by simp [eqD, D.kind]
    rw [er]
    obtain ⟨V, z, hz⟩ := eq_bad (T := 125) (by kernel_rfl) (by kernel_rfl) (by kernel_rfl) (.slice a t.size c) (.slice a' t'.size c')
    exact ⟨V, z, hz W⟩
  case list.list m b t l a c m' b' t' l' a' c' =>
    have er : eqD (.mk 8 m b t l) (.mk 8 m' b' t' l') = none := by simp [eqD, D.kind]
    rw [er]
    obtain ⟨V, z, hz⟩ := eq_bad (T := 127) (by kernel_rfl) (by kernel_rfl) (by kernel_rfl) (.slice a l.length c) (.slice a' l'.length c')
    exact ⟨V, z, hz W⟩
  case err.err m b t l m' b' t' l' =>
    have er : eqD (.mk 10 m b t l) (.mk 10 m' b' t' l') = some (m == m' && t == t') := by simp [eqD, D.kind, D.num, D.text]
    rw [er]
    exact eq_10 m m' t t' W
  case ptr.ptr m b t l g hg m' b' t' l' g' hg' =>
    have e := hR.inv.1
    have e' := hR'.inv.1
    have ht : t.toList = [] := e.2.2.2.2.2.2.2.2.1.resolve_left (by omega)
    have ht' : t'.toList = [] := e'.2.2.2.2.2.2.2.2.1.resolve_left (by omega)
    have er : eqD (.mk 11 m b t l) (.mk 11 m' b' t' l') = some (m == m') := by
      simp [eqD, D.kind, D.num, D.text, empty_eq ht ht']
    rw [er]
    by_cases hmm : m = m'
    · subst hmm
      have hgg : g' = g := by rw [hg] at hg'; exact (Option.some.inj hg').symm
      subst hgg
      rw [show (m == m) = true from by simp]
      exact eq_11_same _ W
    · rw [show (m == m') = false from by simpa using hmm]
      obtain ⟨_, x, hx⟩ := hbx.2 m g hg
      obtain ⟨_, y, hy⟩ := hbx.2 m' g' hg'
      exact eq_11_other (fun hgg => hmm (hbx.inj hg (by rw [hgg]; exact hg'))) hx hy
  case noptr.noptr m b t l m' b' t' l' =>
    have e := hR.inv.1
    have e' := hR'.inv.1
    have hm : m = 0 := by have := e.2.2.2.2.2.2.1; omega
    have hm' : m' = 0 := by have := e'.2.2.2.2.2.2.1; omega
    have ht : t.toList = [] := e.2.2.2.2.2.2.2.2.1.resolve_left (by omega)
    have ht' : t'.toList = [] := e'.2.2.2.2.2.2.2.2.1.resolve_left (by omega)
    have er : eqD (.mk 12 m b t l) (.mk 12 m' b' t' l') = some (true) := by
      simp [eqD, D.kind, D.num, D.text, hm, hm', empty_eq ht ht']
    rw [er]
    exact eq_11_00 W
  case unit.unit m b t l m' b' t' l' =>
    have e := hR.inv.1
    have e' := hR'.inv.1
    have hm : m = 0 := by have := e.2.2.2.2.2.2.1; omega
    have hm' : m' = 0 := by have := e'.2.2.2.2.2.2.1; omega
    have ht : t.toList = [] := e.2.2.2.2.2.2.2.2.1.resolve_left (by omega)
    have ht' : t'.toList = [] := e'.2.2.2.2.2.2.2.2.1.resolve_left (by omega)
    have er : eqD (.mk 13 m b t l) (.mk 13 m' b' t' l') = some (true) := by
      simp [eqD, D.kind, D.num, D.text, hm, hm', empty_eq ht ht']
    rw [er]
    exact eq_13 W

/-- Whatever the two. -/
theorem equal_any {F : DataW Unit} {d : D} {u : Value} (hu : IV F d u) : ∀ {d' : D} {v : Value}, IV F d' v → Right d → Right d' → ∀ (w : World) (M n : Nat), BoxesAt w M n F → Calls Tryz.prog 62 #[u, v] w (EqPost (eqD d d') w) := by
  have flat : ∀ {d : D} {u : Value}, IV F d u → ∀ {d' : D} {v : Value}, IV F d' v → Right d → Right d' → ¬ (d.kind = 9 ∧ d'.kind = 9) → ∀ (w : World) (M n : Nat), BoxesAt w M n F → Calls Tryz.prog 62 #[u, v] w (EqPost (eqD d d') w) := by
    intro d u hu d' v hv hR hR' h9 w M n hbx
    refine flat_any hu hv (by simp; intro h h'; exact h9 ⟨h, h'⟩) (eqD d d') w (fun W hW => ?_)
    by_cases hk : d.kind = d'.kind
    · exact hu.alike hv hR hR' hk (fun h => h9 ⟨h, hk ▸ h⟩) W (hbx.later hW)
    · have er : eqD d d' = some false := by
        cases d with
        | mk k m b t l =>
          have hk' : k ≠ d'.kind := hk
          simp [eqD, hk']
      rw [er]
      exact hu.differ hv hk W
  induction hu with
  | pair m b t x y u1 u2 hx hy ihx ihy =>
    intro d' v hv hR hR' w M n hbx
    by_cases h9 : d'.kind = 9
    · cases hv <;> first
        | (simp [D.kind] at h9; done)
        | skip
      case pair m' b' t' x' y' v1 v2 hx' hy' =>
        have hRx : ∀ z ∈ [x, y], Right z := hR.inv.2
        have hRx' : ∀ z ∈ [x', y'], Right z := hR'.inv.2
        have er : eqD (.mk 9 m b t [x, y]) (.mk 9 m' b' t' [x', y']) = eqThen (eqD x x') (eqThen (eqD y y') (some true)) := by
          simp [eqD, eqL, D.kind, D.kids]
        have er2 : ∀ r, eqThen r (some true) = r := fun r => by rcases r with _ | _ | _ <;> rfl
        rw [er, er2]
        exact pair_eq u1 u2 v1 v2 hx.one hy.one hx'.one hy'.one _ _ w (fun W hW => ihx hx' (hRx x (by simp)) (hRx' x' (by simp)) W M n (hbx.later hW)) (fun W hW => ihy hy' (hRx y (by simp)) (hRx' y' (by simp)) W M n (hbx.later hW))
    · exact flat (.pair m b t x y u1 u2 hx hy) hv hR hR' (fun h => h9 h.2) w M n hbx
  | nil m b t l => exact fun hv hR hR' w M n hbx => flat (.nil m b t l) hv hR hR' (fun h => by simp [D.kind] at h) w M n hbx
  | int m b t l => exact fun hv hR hR' w M n hbx => flat (.int m b t l) hv hR hR' (fun h => by simp [D.kind] at h) w M n hbx
  | key m b t l => exact fun hv hR hR' w M n hbx => flat (.key m b t l) hv hR hR' (fun h => by simp [D.kind] at h) w M n hbx
  | float m b t l => exact fun hv hR hR' w M n hbx => flat (.float m b t l) hv hR hR' (fun h => by simp [D.kind] at h) w M n hbx
  | text m b t l => exact fun hv hR hR' w M n hbx => flat (.text m b t l) hv hR hR' (fun h => by simp [D.kind] at h) w M n hbx
  | name m b t l => exact fun hv hR hR' w M n hbx => flat (.name m b t l) hv hR hR' (fun h => by simp [D.kind] at h) w M n hbx
  | bool m b t l => exact fun hv hR hR' w M n hbx => flat (.bool m b t l) hv hR hR' (fun h => by simp [D.kind] at h) w M n hbx
  | bytes m b t l a c => exact fun hv hR hR' w M n hbx => flat (.bytes m b t l a c) hv hR hR' (fun h => by simp [D.kind] at h) w M n hbx
  | list m b t l a c => exact fun hv hR hR' w M n hbx => flat (.list m b t l a c) hv hR hR' (fun h => by simp [D.kind] at h) w M n hbx
  | err m b t l => exact fun hv hR hR' w M n hbx => flat (.err m b t l) hv hR hR' (fun h => by simp [D.kind] at h) w M n hbx
  | ptr m b t l g hg => exact fun hv hR hR' w M n hbx => flat (.ptr m b t l g hg) hv hR hR' (fun h => by simp [D.kind] at h) w M n hbx
  | noptr m b t l => exact fun hv hR hR' w M n hbx => flat (.noptr m b t l) hv hR hR' (fun h => by simp [D.kind] at h) w M n hbx
  | unit m b t l => exact fun hv hR hR' w M n hbx => flat (.unit m b t l) hv hR hR' (fun h => by simp [D.kind] at h) w M n hbx
end Go.Proofs.YteplhhlgceppkabGreat
