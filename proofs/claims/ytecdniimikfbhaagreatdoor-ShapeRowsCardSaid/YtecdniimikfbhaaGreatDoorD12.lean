/- ShapeRows: the law's own walk. -/
import Derived.Test.YtecdniimikfbhaaGreatDoorD11
import Derived.Test.YtecdniimikfbhaaGreatDoorV6
import Derived.Deep.RegionHeld3
namespace Go.Proofs.YtecdniimikfbhaaGreatDoor
open Go Go.RowKit Go.ChangeShapes Go.WideShapes

theorem RMV.err_ne {w : World} {Q : Nat → Prop} {e c p n : Int} {hs : Bool} {k m b : Int} {t : ByteArray} {a : Option Addr} {l cap : Nat} {e' pk pn : Int} (h : RMV w Q (.agg #[.int .i64 e, .int .i64 c, .int .i64 p, .int .i64 n, .bool hs, .int .i64 k, .int .i64 m, .int .u64 b, .string t, .slice a l cap]) (.err e' pk pn)) : e = e' := by
  have h1 : ((.agg #[.int .i64 e, .int .i64 c, .int .i64 p, .int .i64 n, .bool hs, .int .i64 k, .int .i64 m, .int .u64 b, .string t, .slice a l cap]) : Value) = errV e' pk pn := h
  unfold errV at h1
  simp only [Value.agg.injEq, Array.mk.injEq, List.cons.injEq, Value.int.injEq, true_and, and_true] at h1
  exact h1.1
theorem RMV.gave_ok {w : World} {Q : Nat → Prop} {e c p n : Int} {hs : Bool} {k m b : Int} {t : ByteArray} {a : Option Addr} {l cap : Nat} {x : D} (h : RMV w Q (.agg #[.int .i64 e, .int .i64 c, .int .i64 p, .int .i64 n, .bool hs, .int .i64 k, .int .i64 m, .int .u64 b, .string t, .slice a l cap]) (.gave x)) : e = 0 ∧ Rep w (.agg #[.int .i64 k, .int .i64 m, .int .u64 b, .string t, .slice a l cap]) x := by
  obtain ⟨k', m', b', t', a', n', cap', h1, h2⟩ := h
  simp only [Value.agg.injEq, Array.mk.injEq, List.cons.injEq, Value.int.injEq, Value.slice.injEq, Value.string.injEq, true_and, and_true] at h1
  obtain ⟨rfl, -, -, -, -, rfl, rfl, rfl, rfl, rfl, rfl, rfl⟩ := h1
  exact ⟨rfl, h2.rep⟩
theorem heldR8 {W w1 : World} {g0 g1 : Nat} {u0 u1 u2 u3 u4 u5 u6 u7 u8 u9 u10 u11 u12 u13 u14 : Value} (h : w1.cell? ⟨g0, 0, none⟩ = some (u0) ∧ w1.cell? ⟨g0, 1, none⟩ = some (u1) ∧ w1.cell? ⟨g0, 2, none⟩ = some (u2) ∧ w1.cell? ⟨g0, 3, none⟩ = some (u3) ∧ w1.cell? ⟨g0, 4, none⟩ = some (u4) ∧ w1.cell? ⟨g0, 5, none⟩ = some (u5) ∧ w1.cell? ⟨g0, 6, none⟩ = some (u6) ∧ w1.cell? ⟨g0, 7, none⟩ = some (u7) ∧ w1.cell? ⟨g0, 8, none⟩ = some (u8) ∧ w1.cell? ⟨g0, 9, none⟩ = some (u9) ∧ w1.cell? ⟨g1, 0, none⟩ = some (u10) ∧ w1.cell? ⟨g1, 1, none⟩ = some (u11) ∧ w1.cell? ⟨g1, 2, none⟩ = some (u12) ∧ w1.cell? ⟨g1, 3, none⟩ = some (u13) ∧ w1.cell? ⟨g1, 4, none⟩ = some (u14) ∧ Below W.heap.size W w1) : Below W.heap.size W w1 := by
  obtain ⟨_, _, _, _, _, _, _, _, _, _, _, _, _, _, _, h⟩ := h
  exact h
theorem keepR8 {W w1 w2 : World} {g0 g1 : Nat} {u0 u1 u2 u3 u4 u5 u6 u7 u8 u9 u10 u11 u12 u13 u14 : Value} (h0 : g0 < W.heap.size) (h1 : g1 < W.heap.size) (h : w1.cell? ⟨g0, 0, none⟩ = some (u0) ∧ w1.cell? ⟨g0, 1, none⟩ = some (u1) ∧ w1.cell? ⟨g0, 2, none⟩ = some (u2) ∧ w1.cell? ⟨g0, 3, none⟩ = some (u3) ∧ w1.cell? ⟨g0, 4, none⟩ = some (u4) ∧ w1.cell? ⟨g0, 5, none⟩ = some (u5) ∧ w1.cell? ⟨g0, 6, none⟩ = some (u6) ∧ w1.cell? ⟨g0, 7, none⟩ = some (u7) ∧ w1.cell? ⟨g0, 8, none⟩ = some (u8) ∧ w1.cell? ⟨g0, 9, none⟩ = some (u9) ∧ w1.cell? ⟨g1, 0, none⟩ = some (u10) ∧ w1.cell? ⟨g1, 1, none⟩ = some (u11) ∧ w1.cell? ⟨g1, 2, none⟩ = some (u12) ∧ w1.cell? ⟨g1, 3, none⟩ = some (u13) ∧ w1.cell? ⟨g1, 4, none⟩ = some (u14) ∧ Below W.heap.size W w1) (hb : Below w1.heap.size w1 w2) : w2.cell? ⟨g0, 0, none⟩ = some (u0) ∧ w2.cell? ⟨g0, 1, none⟩ = some (u1) ∧ w2.cell? ⟨g0, 2, none⟩ = some (u2) ∧ w2.cell? ⟨g0, 3, none⟩ = some (u3) ∧ w2.cell? ⟨g0, 4, none⟩ = some (u4) ∧ w2.cell? ⟨g0, 5, none⟩ = some (u5) ∧ w2.cell? ⟨g0, 6, none⟩ = some (u6) ∧ w2.cell? ⟨g0, 7, none⟩ = some (u7) ∧ w2.cell? ⟨g0, 8, none⟩ = some (u8) ∧ w2.cell? ⟨g0, 9, none⟩ = some (u9) ∧ w2.cell? ⟨g1, 0, none⟩ = some (u10) ∧ w2.cell? ⟨g1, 1, none⟩ = some (u11) ∧ w2.cell? ⟨g1, 2, none⟩ = some (u12) ∧ w2.cell? ⟨g1, 3, none⟩ = some (u13) ∧ w2.cell? ⟨g1, 4, none⟩ = some (u14) ∧ Below W.heap.size W w2 := by
  obtain ⟨c0, c1, c2, c3, c4, c5, c6, c7, c8, c9, c10, c11, c12, c13, c14, h⟩ := h
  have hz := h.size
  exact ⟨(hb.cell (p := ⟨g0, _, none⟩) (Nat.lt_of_lt_of_le h0 hz)).trans c0, (hb.cell (p := ⟨g0, _, none⟩) (Nat.lt_of_lt_of_le h0 hz)).trans c1, (hb.cell (p := ⟨g0, _, none⟩) (Nat.lt_of_lt_of_le h0 hz)).trans c2, (hb.cell (p := ⟨g0, _, none⟩) (Nat.lt_of_lt_of_le h0 hz)).trans c3, (hb.cell (p := ⟨g0, _, none⟩) (Nat.lt_of_lt_of_le h0 hz)).trans c4, (hb.cell (p := ⟨g0, _, none⟩) (Nat.lt_of_lt_of_le h0 hz)).trans c5, (hb.cell (p := ⟨g0, _, none⟩) (Nat.lt_of_lt_of_le h0 hz)).trans c6, (hb.cell (p := ⟨g0, _, none⟩) (Nat.lt_of_lt_of_le h0 hz)).trans c7, (hb.cell (p := ⟨g0, _, none⟩) (Nat.lt_of_lt_of_le h0 hz)).trans c8, (hb.cell (p := ⟨g0, _, none⟩) (Nat.lt_of_lt_of_le h0 hz)).trans c9, (hb.cell (p := ⟨g1, _, none⟩) (Nat.lt_of_lt_of_le h1 hz)).trans c10, (hb.cell (p := ⟨g1, _, none⟩) (Nat.lt_of_lt_of_le h1 hz)).trans c11, (hb.cell (p := ⟨g1, _, none⟩) (Nat.lt_of_lt_of_le h1 hz)).trans c12, (hb.cell (p := ⟨g1, _, none⟩) (Nat.lt_of_lt_of_le h1 hz)).trans c13, (hb.cell (p := ⟨g1, _, none⟩) (Nat.lt_of_lt_of_le h1 hz)).trans c14, h.trans (hb.mono hz)⟩
theorem heldR12 {W w1 : World} {g0 g1 : Nat} {u0 u1 u2 u3 u4 u5 u6 u7 u8 u9 u10 u11 u12 u13 u14 u15 u16 u17 u18 u19 : Value} (h : w1.cell? ⟨g0, 0, none⟩ = some (u0) ∧ w1.cell? ⟨g0, 1, none⟩ = some (u1) ∧ w1.cell? ⟨g0, 2, none⟩ = some (u2) ∧ w1.cell? ⟨g0, 3, none⟩ = some (u3) ∧ w1.cell? ⟨g0, 4, none⟩ = some (u4) ∧ w1.cell? ⟨g0, 5, none⟩ = some (u5) ∧ w1.cell? ⟨g0, 6, none⟩ = some (u6) ∧ w1.cell? ⟨g0, 7, none⟩ = some (u7) ∧ w1.cell? ⟨g0, 8, none⟩ = some (u8) ∧ w1.cell? ⟨g0, 9, none⟩ = some (u9) ∧ w1.cell? ⟨g1, 0, none⟩ = some (u10) ∧ w1.cell? ⟨g1, 1, none⟩ = some (u11) ∧ w1.cell? ⟨g1, 2, none⟩ = some (u12) ∧ w1.cell? ⟨g1, 3, none⟩ = some (u13) ∧ w1.cell? ⟨g1, 4, none⟩ = some (u14) ∧ w1.cell? ⟨g1, 5, none⟩ = some (u15) ∧ w1.cell? ⟨g1, 6, none⟩ = some (u16) ∧ w1.cell? ⟨g1, 7, none⟩ = some (u17) ∧ w1.cell? ⟨g1, 8, none⟩ = some (u18) ∧ w1.cell? ⟨g1, 9, none⟩ = some (u19) ∧ Below W.heap.size W w1) : Below W.heap.size W w1 := by
  obtain ⟨_, _, _, _, _, _, _, _, _, _, _, _, _, _, _, _, _, _, _, _, h⟩ := h
  exact h
theorem keepR12 {W w1 w2 : World} {g0 g1 : Nat} {u0 u1 u2 u3 u4 u5 u6 u7 u8 u9 u10 u11 u12 u13 u14 u15 u16 u17 u18 u19 : Value} (h0 : g0 < W.heap.size) (h1 : g1 < W.heap.size) (h : w1.cell? ⟨g0, 0, none⟩ = some (u0) ∧ w1.cell? ⟨g0, 1, none⟩ = some (u1) ∧ w1.cell? ⟨g0, 2, none⟩ = some (u2) ∧ w1.cell? ⟨g0, 3, none⟩ = some (u3) ∧ w1.cell? ⟨g0, 4, none⟩ = some (u4) ∧ w1.cell? ⟨g0, 5, none⟩ = some (u5) ∧ w1.cell? ⟨g0, 6, none⟩ = some (u6) ∧ w1.cell? ⟨g0, 7, none⟩ = some (u7) ∧ w1.cell? ⟨g0, 8, none⟩ = some (u8) ∧ w1.cell? ⟨g0, 9, none⟩ = some (u9) ∧ w1.cell? ⟨g1, 0, none⟩ = some (u10) ∧ w1.cell? ⟨g1, 1, none⟩ = some (u11) ∧ w1.cell? ⟨g1, 2, none⟩ = some (u12) ∧ w1.cell? ⟨g1, 3, none⟩ = some (u13) ∧ w1.cell? ⟨g1, 4, none⟩ = some (u14) ∧ w1.cell? ⟨g1, 5, none⟩ = some (u15) ∧ w1.cell? ⟨g1, 6, none⟩ = some (u16) ∧ w1.cell? ⟨g1, 7, none⟩ = some (u17) ∧ w1.cell? ⟨g1, 8, none⟩ = some (u18) ∧ w1.cell? ⟨g1, 9, none⟩ = some (u19) ∧ Below W.heap.size W w1) (hb : Below w1.heap.size w1 w2) : w2.cell? ⟨g0, 0, none⟩ = some (u0) ∧ w2.cell? ⟨g0, 1, none⟩ = some (u1) ∧ w2.cell? ⟨g0, 2, none⟩ = some (u2) ∧ w2.cell? ⟨g0, 3, none⟩ = some (u3) ∧ w2.cell? ⟨g0, 4, none⟩ = some (u4) ∧ w2.cell? ⟨g0, 5, none⟩ = some (u5) ∧ w2.cell? ⟨g0, 6, none⟩ = some (u6) ∧ w2.cell? ⟨g0, 7, none⟩ = some (u7) ∧ w2.cell? ⟨g0, 8, none⟩ = some (u8) ∧ w2.cell? ⟨g0, 9, none⟩ = some (u9) ∧ w2.cell? ⟨g1, 0, none⟩ = some (u10) ∧ w2.cell? ⟨g1, 1, none⟩ = some (u11) ∧ w2.cell? ⟨g1, 2, none⟩ = some (u12) ∧ w2.cell? ⟨g1, 3, none⟩ = some (u13) ∧ w2.cell? ⟨g1, 4, none⟩ = some (u14) ∧ w2.cell? ⟨g1, 5, none⟩ = some (u15) ∧ w2.cell? ⟨g1, 6, none⟩ = some (u16) ∧ w2.cell? ⟨g1, 7, none⟩ = some (u17) ∧ w2.cell? ⟨g1, 8, none⟩ = some (u18) ∧ w2.cell? ⟨g1, 9, none⟩ = some (u19) ∧ Below W.heap.size W w2 := by
  obtain ⟨c0, c1, c2, c3, c4, c5, c6, c7, c8, c9, c10, c11, c12, c13, c14, c15, c16, c17, c18, c19, h⟩ := h
  have hz := h.size
  exact ⟨(hb.cell (p := ⟨g0, _, none⟩) (Nat.lt_of_lt_of_le h0 hz)).trans c0, (hb.cell (p := ⟨g0, _, none⟩) (Nat.lt_of_lt_of_le h0 hz)).trans c1, (hb.cell (p := ⟨g0, _, none⟩) (Nat.lt_of_lt_of_le h0 hz)).trans c2, (hb.cell (p := ⟨g0, _, none⟩) (Nat.lt_of_lt_of_le h0 hz)).trans c3, (hb.cell (p := ⟨g0, _, none⟩) (Nat.lt_of_lt_of_le h0 hz)).trans c4, (hb.cell (p := ⟨g0, _, none⟩) (Nat.lt_of_lt_of_le h0 hz)).trans c5, (hb.cell (p := ⟨g0, _, none⟩) (Nat.lt_of_lt_of_le h0 hz)).trans c6, (hb.cell (p := ⟨g0, _, none⟩) (Nat.lt_of_lt_of_le h0 hz)).trans c7, (hb.cell (p := ⟨g0, _, none⟩) (Nat.lt_of_lt_of_le h0 hz)).trans c8, (hb.cell (p := ⟨g0, _, none⟩) (Nat.lt_of_lt_of_le h0 hz)).trans c9, (hb.cell (p := ⟨g1, _, none⟩) (Nat.lt_of_lt_of_le h1 hz)).trans c10, (hb.cell (p := ⟨g1, _, none⟩) (Nat.lt_of_lt_of_le h1 hz)).trans c11, (hb.cell (p := ⟨g1, _, none⟩) (Nat.lt_of_lt_of_le h1 hz)).trans c12, (hb.cell (p := ⟨g1, _, none⟩) (Nat.lt_of_lt_of_le h1 hz)).trans c13, (hb.cell (p := ⟨g1, _, none⟩) (Nat.lt_of_lt_of_le h1 hz)).trans c14, (hb.cell (p := ⟨g1, _, none⟩) (Nat.lt_of_lt_of_le h1 hz)).trans c15, (hb.cell (p := ⟨g1, _, none⟩) (Nat.lt_of_lt_of_le h1 hz)).trans c16, (hb.cell (p := ⟨g1, _, none⟩) (Nat.lt_of_lt_of_le h1 hz)).trans c17, (hb.cell (p := ⟨g1, _, none⟩) (Nat.lt_of_lt_of_le h1 hz)).trans c18, (hb.cell (p := ⟨g1, _, none⟩) (Nat.lt_of_lt_of_le h1 hz)).trans c19, h.trans (hb.mono hz)⟩

set_option maxRecDepth 100000 in
set_option maxHeartbeats 12800000 in
theorem rowslaw_any {w : World} {lo lm : Value} {ops more : List Int} (hI : Ints w lo ops) (hJ : Ints w lm more) (hlen : ops.length + more.length ≤ 9223372036854775807) (tp : ByteArray) (htp : tp.size ≤ maxLen) {d : D} {k m b : Int} {t : ByteArray} {a : Option Addr} {l cap : Nat} (hd : Rep w (.agg #[.int .i64 k, .int .i64 m, .int .u64 b, .string t, .slice a l cap]) d) (htab : Tab w) :
    Calls Tryz.prog 4 #[lo, lm, .string tp, (.agg #[.int .i64 k, .int .i64 m, .int .u64 b, .string t, .slice a l cap])] w fun x w' => x = .returned (.bool true) ∧ Below w.heap.size w w' := by
  have HV := Lib.hid (fun W hW => validx_any hd W hW)
  have hI0 := hI
  have hJ0 := hJ
  obtain ⟨ia, icap, rfl, -⟩ := hI0
  obtain ⟨ja, jcap, rfl, -⟩ := hJ0
  obtain ⟨W1, hW1, hb1, hx1⟩ := boxes1r w (.int .i64 k) (.int .i64 m) (.int .u64 b) (.string t) (.slice a l cap)
  have p0 : W1.cell? ⟨w.heap.size, 0, none⟩ = some (.int .i64 k) := hx1.cell 0 rfl
  have p1 : W1.cell? ⟨w.heap.size, 1, none⟩ = some (.int .i64 m) := hx1.cell 1 rfl
  have p2 : W1.cell? ⟨w.heap.size, 2, none⟩ = some (.int .u64 b) := hx1.cell 2 rfl
  have p3 : W1.cell? ⟨w.heap.size, 3, none⟩ = some (.string t) := hx1.cell 3 rfl
  have p4 : W1.cell? ⟨w.heap.size, 4, none⟩ = some (.slice a l cap) := hx1.cell 4 rfl
  have hz1 : W1.heap.size = w.heap.size + 1 := by rw [hW1]; simp
  obtain ⟨q40, hq40⟩ : ∃ q, decide ((40 : Int) < (ops.length : Int) + more.length) = q := ⟨_, rfl⟩
  have hwr : wrap64 ((ops.length : Int) + more.length) = (ops.length : Int) + more.length := by unfold wrap64; omega
  go_enter Tryz.func4, Tryz.ntmps4
  go_upto_region 1 with fail
  rw [← hW1]
  clear hW1
  go_wp2_with fail
  refine (HV.out _ hb1).mono ?_
  rintro e w2 ⟨r, rfl, hr, hb2⟩
  have hbw2 := hb1.trans (hb2.mono hb1.size)
  have hx2 := hx1.later hb2
  clear p0 p1 p2 p3 p4
  cases r
  · dsimp only
    go_wp2_with (go_at_call 6; refine (sawake_any _).mono ?_; rintro e w5 ⟨rfl, hb5⟩)
    go_ret
    exact ⟨rfl, hbw2.trans (hb5.mono hbw2.size)⟩
  have hfit := hr.1 rfl
  clear hr
  by_cases htl : 65535 < tp.size
  · dsimp only
    go_wp2_with (go_at_call 6; refine (sawake_any _).mono ?_; rintro e w5 ⟨rfl, hb5⟩)
    go_ret
    exact ⟨rfl, hbw2.trans (hb5.mono hbw2.size)⟩
  cases q40 with
  | true =>
    have h40 : (40 : Int) < (ops.length : Int) + more.length := of_decide_eq_true hq40
    dsimp only
    go_wp2_with (go_at_call 6; refine (sawake_any _).mono ?_; rintro e w5 ⟨rfl, hb5⟩)
    go_ret
    exact ⟨rfl, hbw2.trans (hb5.mono hbw2.size)⟩
  | false =>
  have h40 : ops.length + more.length ≤ 40 := by have := of_decide_eq_false hq40; omega
  have hz2 := hb2.size
  have hI2 := hI.later hbw2
  dsimp only
  go_upto_region 4 with fail
  go_wp2_with (at_builtin; refine wpList_append_ints rfl (.tmp 29) (.tmp 30) rfl (w.heap.size + 1) rfl rfl (owned_nil _ _) hI2 (by simp; omega) (by omega) ?_)
  intro v3 w3 hown3 hgr3 _
  have hbw3 : Below w.heap.size w w3 := Below.grown hbw2 hgr3 (by omega) (fun r hr => by cases hr)
  have hz3 := hgr3.size
  have hx3 := hx2.keep (hgr3.block _ hx2.lt (fun e => by cases e))
  have hJ3 := hJ.later hbw3
  have hlt3 := World.ownsRow.lt hown3
  go_upto_region 5 with fail
  go_wp2_with (at_builtin; refine wpList_append_ints rfl (.tmp 32) (.tmp 33) rfl (w.heap.size + 1) rfl rfl hown3 hJ3 (by omega) (by omega) ?_)
  intro v4 w4 hown4 hgr4 _
  have hbw4 : Below w.heap.size w w4 := Below.grown hbw3 hgr4 (by omega) (fun r hr => by have := (hlt3 r hr).1; omega)
  have hx4 := hx3.keep (hgr4.block _ hx3.lt (fun e => by have := (hlt3 _ e.symm).1; omega))
  have hA4 := ints_of_owned (xs := ops ++ more) (by rw [List.length_append]; exact hown4)
  obtain ⟨al, hal⟩ : ∃ al, al = ops ++ more := ⟨_, rfl⟩
  rw [← hal] at hA4
  replace hal := Lib.hid hal
  obtain ⟨aa, acap, rfl, -⟩ : ∃ aa acap, v4 = .slice aa al.length acap ∧ True := by
    obtain ⟨aa, acap, h, -⟩ := hA4
    exact ⟨aa, acap, h, trivial⟩
  clear hown3 hgr3 hgr4 hlt3 hx2 hx3 hbw2 hbw3 hI2 hJ3 hown4
  obtain ⟨F, hF⟩ := isValue
  have HS5 := Lib.hid (smaps_any hd hfit htab hF hI tp htp w4 hbw4)
  have p0 : w4.cell? ⟨w.heap.size, 0, none⟩ = some (.int .i64 k) := hx4.cell 0 rfl
  have p1 : w4.cell? ⟨w.heap.size, 1, none⟩ = some (.int .i64 m) := hx4.cell 1 rfl
  have p2 : w4.cell? ⟨w.heap.size, 2, none⟩ = some (.int .u64 b) := hx4.cell 2 rfl
  have p3 : w4.cell? ⟨w.heap.size, 3, none⟩ = some (.string t) := hx4.cell 3 rfl
  have p4 : w4.cell? ⟨w.heap.size, 4, none⟩ = some (.slice a l cap) := hx4.cell 4 rfl
  go_wp2_with fail
  refine HS5.out.mono ?_
  rintro e w5 ⟨v5, rfl, hg5, hfa, hb5⟩
  obtain ⟨e5, c5, pk5, pn5, hs5, k5, m5, b5, t5, a5, l5, cap5, rfl⟩ := hg5.form
  have hbw5 := hbw4.trans (hb5.mono hbw4.size)
  have hx5 := hx4.later hb5
  have hA5 := hA4.later hb5
  clear p0 p1 p2 p3 p4
  clear HS5
  obtain ⟨W6, hW6⟩ : ∃ W', W' = w5.alloc (.cells #[.int .i64 e5, .int .i64 c5, .int .i64 pk5, .int .i64 pn5, .bool hs5, .int .i64 k5, .int .i64 m5, .int .u64 b5, .string t5, .slice a5 l5 cap5] 33) := ⟨_, rfl⟩
  have hbW6 : Below w5.heap.size w5 W6 := by rw [hW6]; exact (Below.refl _ _).alloc (Nat.le_refl _) _
  have hrW6 : Row W6 w5.heap.size #[.int .i64 e5, .int .i64 c5, .int .i64 pk5, .int .i64 pn5, .bool hs5, .int .i64 k5, .int .i64 m5, .int .u64 b5, .string t5, .slice a5 l5 cap5] 33 := by rw [hW6]; exact Row.new _ _ _
  have hbw6 := hbw5.trans (hbW6.mono hbw5.size)
  have hx6 := hx5.later hbW6
  have hA6 := hA5.later hbW6
  have hg6 := hg5.later hbW6
  have HS7 := Lib.hid (smaps_any (hd.carry hbw6) hfit (htab.later hbw6) hF hA6 tp htp W6 (Below.refl _ _))
  have p0 : W6.cell? ⟨w.heap.size, 0, none⟩ = some (.int .i64 k) := hx6.cell 0 rfl
  have p1 : W6.cell? ⟨w.heap.size, 1, none⟩ = some (.int .i64 m) := hx6.cell 1 rfl
  have p2 : W6.cell? ⟨w.heap.size, 2, none⟩ = some (.int .u64 b) := hx6.cell 2 rfl
  have p3 : W6.cell? ⟨w.heap.size, 3, none⟩ = some (.string t) := hx6.cell 3 rfl
  have p4 : W6.cell? ⟨w.heap.size, 4, none⟩ = some (.slice a l cap) := hx6.cell 4 rfl
  dsimp only
  go_upto_region 7 with fail
  rw [← hW6]
  clear hW6
  go_wp2_with fail
  refine HS7.out.mono ?_
  rintro e w7 ⟨v7, rfl, hg7, -, hb7⟩
  obtain ⟨e7, c7, pk7, pn7, hs7, k7, m7, b7, t7, a7, l7, cap7, rfl⟩ := hg7.form
  have hbw7 := hbw6.trans (hb7.mono hbw6.size)
  have hx7 := hx6.later hb7
  have hy7 := hrW6.later hb7
  have hg67 := hg6.later hb7
  clear p0 p1 p2 p3 p4
  clear HS7
  obtain ⟨W8, hW8⟩ : ∃ W', W' = w7.alloc (.cells #[.int .i64 e7, .int .i64 c7, .int .i64 pk7, .int .i64 pn7, .bool hs7, .int .i64 k7, .int .i64 m7, .int .u64 b7, .string t7, .slice a7 l7 cap7] 33) := ⟨_, rfl⟩
  have hbW8 : Below w7.heap.size w7 W8 := by rw [hW8]; exact (Below.refl _ _).alloc (Nat.le_refl _) _
  have hrW8 : Row W8 w7.heap.size #[.int .i64 e7, .int .i64 c7, .int .i64 pk7, .int .i64 pn7, .bool hs7, .int .i64 k7, .int .i64 m7, .int .u64 b7, .string t7, .slice a7 l7 cap7] 33 := by rw [hW8]; exact Row.new _ _ _
  have hbw8 := hbw7.trans (hbW8.mono hbw7.size)
  have hx8 := hx7.later hbW8
  have hy8 := hy7.later hbW8
  have hga := hg67.later hbW8
  have hgb := hg7.later hbW8
  have hJ8 := hJ.later hbw8
  have htab8 := htab.later hbw8
  have HR := Lib.hid (fun (W : World) (hW : Below W8.heap.size W8 W) => (rmaps_any hd hfit htab hF hI tp htp W (hbw8.trans (hW.mono hbw8.size))).mono fun x w' ⟨v', h1, h2, _, h3⟩ => (show ∃ v', x = Ending.returned v' ∧ RMV w' (fun i => W.heap.size ≤ i) v' (mapsE F tp ops d) ∧ Below W.heap.size W w' from ⟨v', h1, h2, h3⟩))
  have HS := Lib.hid (fun (W : World) (v' : Value) (Q' : Nat → Prop) (hW : Below W8.heap.size W8 W) (h' : RMV W Q' v' (mapsE F tp ops d)) => rsame_mo (hga.later hW) h' W (Below.refl _ _))
  have HAp := Lib.hid (show mapsE F tp al d = _ from (congrArg (fun z => mapsE F tp z d) hal.out).trans (mapsE_append (F := F) (tp := tp) ops more d))
  have HErr := Lib.hid (fun e pk pn (h : mapsE F tp ops d = .err e pk pn) => mapsE_err (F := F) (tp := tp) ops d h)
  generalize mapsE F tp ops d = mo at *
  clear hg5 hg6 hg7 hg67 hd hfit hI hJ htab hA4 hA5 hA6 hx4 hx5 hx6 hx7 HV
  have hl0 := hy8.lt
  have hl1 := hx8.lt
  have hl2 := hrW8.lt
  have q0 : W8.cell? ⟨w5.heap.size, 0, none⟩ = some (.int .i64 e5) := hy8.cell 0 rfl
  have q1 : W8.cell? ⟨w5.heap.size, 1, none⟩ = some (.int .i64 c5) := hy8.cell 1 rfl
  have q2 : W8.cell? ⟨w5.heap.size, 2, none⟩ = some (.int .i64 pk5) := hy8.cell 2 rfl
  have q3 : W8.cell? ⟨w5.heap.size, 3, none⟩ = some (.int .i64 pn5) := hy8.cell 3 rfl
  have q4 : W8.cell? ⟨w5.heap.size, 4, none⟩ = some (.bool hs5) := hy8.cell 4 rfl
  have q5 : W8.cell? ⟨w5.heap.size, 5, none⟩ = some (.int .i64 k5) := hy8.cell 5 rfl
  have q6 : W8.cell? ⟨w5.heap.size, 6, none⟩ = some (.int .i64 m5) := hy8.cell 6 rfl
  have q7 : W8.cell? ⟨w5.heap.size, 7, none⟩ = some (.int .u64 b5) := hy8.cell 7 rfl
  have q8 : W8.cell? ⟨w5.heap.size, 8, none⟩ = some (.string t5) := hy8.cell 8 rfl
  have q9 : W8.cell? ⟨w5.heap.size, 9, none⟩ = some (.slice a5 l5 cap5) := hy8.cell 9 rfl
  have p0 : W8.cell? ⟨w.heap.size, 0, none⟩ = some (.int .i64 k) := hx8.cell 0 rfl
  have p1 : W8.cell? ⟨w.heap.size, 1, none⟩ = some (.int .i64 m) := hx8.cell 1 rfl
  have p2 : W8.cell? ⟨w.heap.size, 2, none⟩ = some (.int .u64 b) := hx8.cell 2 rfl
  have p3 : W8.cell? ⟨w.heap.size, 3, none⟩ = some (.string t) := hx8.cell 3 rfl
  have p4 : W8.cell? ⟨w.heap.size, 4, none⟩ = some (.slice a l cap) := hx8.cell 4 rfl
  dsimp only
  go_upto_region 8 with fail
  rw [← hW8]
  clear hW8
  go_region_held3 (fun w' => w'.cell? ⟨w5.heap.size, 0, none⟩ = some (.int .i64 e5) ∧ w'.cell? ⟨w5.heap.size, 1, none⟩ = some (.int .i64 c5) ∧ w'.cell? ⟨w5.heap.size, 2, none⟩ = some (.int .i64 pk5) ∧ w'.cell? ⟨w5.heap.size, 3, none⟩ = some (.int .i64 pn5) ∧ w'.cell? ⟨w5.heap.size, 4, none⟩ = some (.bool hs5) ∧ w'.cell? ⟨w5.heap.size, 5, none⟩ = some (.int .i64 k5) ∧ w'.cell? ⟨w5.heap.size, 6, none⟩ = some (.int .i64 m5) ∧ w'.cell? ⟨w5.heap.size, 7, none⟩ = some (.int .u64 b5) ∧ w'.cell? ⟨w5.heap.size, 8, none⟩ = some (.string t5) ∧ w'.cell? ⟨w5.heap.size, 9, none⟩ = some (.slice a5 l5 cap5) ∧ w'.cell? ⟨w.heap.size, 0, none⟩ = some (.int .i64 k) ∧ w'.cell? ⟨w.heap.size, 1, none⟩ = some (.int .i64 m) ∧ w'.cell? ⟨w.heap.size, 2, none⟩ = some (.int .u64 b) ∧ w'.cell? ⟨w.heap.size, 3, none⟩ = some (.string t) ∧ w'.cell? ⟨w.heap.size, 4, none⟩ = some (.slice a l cap) ∧ Below W8.heap.size W8 w')
    (first | (with_reducible assumption) | (with_reducible exact keepR8 hl0 hl1 (by assumption) (by assumption)) | (exact ⟨q0, q1, q2, q3, q4, q5, q6, q7, q8, q9, p0, p1, p2, p3, p4, by go_grown⟩) | fail)
    (first
      | (go_at_call 13; refine (HR.out _ (heldR8 (by assumption))).mono ?_; rintro e y1 ⟨v9, rfl, hg9, hb1'⟩)
      | (go_at_call 9; refine (HS.out _ _ _ (heldR8 (by assumption)) hg9).mono ?_; rintro e y2 ⟨rfl, hb2'⟩))
  rename_i hH9
  have hb9 : Below W8.heap.size W8 y2 := heldR8 hH9
  clear hH9 hg9 hb1' hb2'
  clear q0 q1 q2 q3 q4 q5 q6 q7 q8 q9
  clear p0 p1 p2 p3 p4
  have hbw9 := hbw8.trans (hb9.mono hbw8.size)
  have hy9 := hy8.later hb9
  have hr9 := hrW8.later hb9
  have hga9 := hga.later hb9
  have hgb9 := hgb.later hb9
  have hJ9 := hJ8.later hb9
  have htab9 := htab8.later hb9
  have hl0' := hr9.lt
  have hl1' := hy9.lt
  rw [HAp.out] at hgb9
  clear HR HS HAp hgb hJ8 htab8 hy8 hrW8 hx8 hl0 hl1 hl2
  cases mo with
  | err e pk pn =>
    have he5 : (e5 != 0) = true := by
      obtain rfl := hga.err_ne
      simpa using HErr.out _ _ _ rfl
    have HS9 := Lib.hid (rsame_mo (o := .err e pk pn) hgb9 hga9 y2 (Below.refl _ _))
    clear HErr hga hga9 hgb9 hfa hJ9 htab9
    have q0 : y2.cell? ⟨w5.heap.size, 0, none⟩ = some (.int .i64 e5) := hy9.cell 0 rfl
    have q1 : y2.cell? ⟨w5.heap.size, 1, none⟩ = some (.int .i64 c5) := hy9.cell 1 rfl
    have q2 : y2.cell? ⟨w5.heap.size, 2, none⟩ = some (.int .i64 pk5) := hy9.cell 2 rfl
    have q3 : y2.cell? ⟨w5.heap.size, 3, none⟩ = some (.int .i64 pn5) := hy9.cell 3 rfl
    have q4 : y2.cell? ⟨w5.heap.size, 4, none⟩ = some (.bool hs5) := hy9.cell 4 rfl
    have q5 : y2.cell? ⟨w5.heap.size, 5, none⟩ = some (.int .i64 k5) := hy9.cell 5 rfl
    have q6 : y2.cell? ⟨w5.heap.size, 6, none⟩ = some (.int .i64 m5) := hy9.cell 6 rfl
    have q7 : y2.cell? ⟨w5.heap.size, 7, none⟩ = some (.int .u64 b5) := hy9.cell 7 rfl
    have q8 : y2.cell? ⟨w5.heap.size, 8, none⟩ = some (.string t5) := hy9.cell 8 rfl
    have q9 : y2.cell? ⟨w5.heap.size, 9, none⟩ = some (.slice a5 l5 cap5) := hy9.cell 9 rfl
    have p0 : y2.cell? ⟨w7.heap.size, 0, none⟩ = some (.int .i64 e7) := hr9.cell 0 rfl
    have p1 : y2.cell? ⟨w7.heap.size, 1, none⟩ = some (.int .i64 c7) := hr9.cell 1 rfl
    have p2 : y2.cell? ⟨w7.heap.size, 2, none⟩ = some (.int .i64 pk7) := hr9.cell 2 rfl
    have p3 : y2.cell? ⟨w7.heap.size, 3, none⟩ = some (.int .i64 pn7) := hr9.cell 3 rfl
    have p4 : y2.cell? ⟨w7.heap.size, 4, none⟩ = some (.bool hs7) := hr9.cell 4 rfl
    have p5 : y2.cell? ⟨w7.heap.size, 5, none⟩ = some (.int .i64 k7) := hr9.cell 5 rfl
    have p6 : y2.cell? ⟨w7.heap.size, 6, none⟩ = some (.int .i64 m7) := hr9.cell 6 rfl
    have p7 : y2.cell? ⟨w7.heap.size, 7, none⟩ = some (.int .u64 b7) := hr9.cell 7 rfl
    have p8 : y2.cell? ⟨w7.heap.size, 8, none⟩ = some (.string t7) := hr9.cell 8 rfl
    have p9 : y2.cell? ⟨w7.heap.size, 9, none⟩ = some (.slice a7 l7 cap7) := hr9.cell 9 rfl

    go_wp2_with fail
    refine HS9.out.mono ?_
    rintro e w10 ⟨rfl, hb10⟩
    have hbw10 := hbw9.trans (hb10.mono hbw9.size)
    go_wp2_with (go_at_call 6; refine (sawake_any _).mono ?_; rintro e w11 ⟨rfl, hb11⟩)
    go_ret
    exact ⟨rfl, hbw10.trans (hb11.mono hbw10.size)⟩
  | gave x =>
    obtain ⟨rfl, hx5⟩ := hga.gave_ok
    have hfx := hfa x rfl
    have HM := Lib.hid (fun (W : World) (hW : Below y2.heap.size y2 W) => (smaps_any (hx5.carry hb9) hfx htab9 hF hJ9 tp htp W hW).mono fun x' w' ⟨v', h1, h2, _, h3⟩ => (show ∃ v', x' = Ending.returned v' ∧ RMV w' (fun i => W.heap.size ≤ i) v' (mapsE F tp more x) ∧ Below W.heap.size W w' from ⟨v', h1, h2, h3⟩))
    have HS9 := Lib.hid (fun (W : World) (v' : Value) (Q' : Nat → Prop) (hW : Below y2.heap.size y2 W) (h' : RMV W Q' v' (mapsE F tp more x)) => rsame_mo (o := mapsE F tp more x) (hgb9.later hW) h' W (Below.refl _ _))
    clear HErr hga hga9 hfa hJ9 htab9 hfx hx5
    clear hgb9
    generalize mapsE F tp more x = mq at *
    have q0 : y2.cell? ⟨w5.heap.size, 0, none⟩ = some (.int .i64 0) := hy9.cell 0 rfl
    have q1 : y2.cell? ⟨w5.heap.size, 1, none⟩ = some (.int .i64 c5) := hy9.cell 1 rfl
    have q2 : y2.cell? ⟨w5.heap.size, 2, none⟩ = some (.int .i64 pk5) := hy9.cell 2 rfl
    have q3 : y2.cell? ⟨w5.heap.size, 3, none⟩ = some (.int .i64 pn5) := hy9.cell 3 rfl
    have q4 : y2.cell? ⟨w5.heap.size, 4, none⟩ = some (.bool hs5) := hy9.cell 4 rfl
    have q5 : y2.cell? ⟨w5.heap.size, 5, none⟩ = some (.int .i64 k5) := hy9.cell 5 rfl
    have q6 : y2.cell? ⟨w5.heap.size, 6, none⟩ = some (.int .i64 m5) := hy9.cell 6 rfl
    have q7 : y2.cell? ⟨w5.heap.size, 7, none⟩ = some (.int .u64 b5) := hy9.cell 7 rfl
    have q8 : y2.cell? ⟨w5.heap.size, 8, none⟩ = some (.string t5) := hy9.cell 8 rfl
    have q9 : y2.cell? ⟨w5.heap.size, 9, none⟩ = some (.slice a5 l5 cap5) := hy9.cell 9 rfl
    have p0 : y2.cell? ⟨w7.heap.size, 0, none⟩ = some (.int .i64 e7) := hr9.cell 0 rfl
    have p1 : y2.cell? ⟨w7.heap.size, 1, none⟩ = some (.int .i64 c7) := hr9.cell 1 rfl
    have p2 : y2.cell? ⟨w7.heap.size, 2, none⟩ = some (.int .i64 pk7) := hr9.cell 2 rfl
    have p3 : y2.cell? ⟨w7.heap.size, 3, none⟩ = some (.int .i64 pn7) := hr9.cell 3 rfl
    have p4 : y2.cell? ⟨w7.heap.size, 4, none⟩ = some (.bool hs7) := hr9.cell 4 rfl
    have p5 : y2.cell? ⟨w7.heap.size, 5, none⟩ = some (.int .i64 k7) := hr9.cell 5 rfl
    have p6 : y2.cell? ⟨w7.heap.size, 6, none⟩ = some (.int .i64 m7) := hr9.cell 6 rfl
    have p7 : y2.cell? ⟨w7.heap.size, 7, none⟩ = some (.int .u64 b7) := hr9.cell 7 rfl
    have p8 : y2.cell? ⟨w7.heap.size, 8, none⟩ = some (.string t7) := hr9.cell 8 rfl
    have p9 : y2.cell? ⟨w7.heap.size, 9, none⟩ = some (.slice a7 l7 cap7) := hr9.cell 9 rfl

    go_upto_region 12 with fail
    go_region_held3 (fun w' => w'.cell? ⟨w7.heap.size, 0, none⟩ = some (.int .i64 e7) ∧ w'.cell? ⟨w7.heap.size, 1, none⟩ = some (.int .i64 c7) ∧ w'.cell? ⟨w7.heap.size, 2, none⟩ = some (.int .i64 pk7) ∧ w'.cell? ⟨w7.heap.size, 3, none⟩ = some (.int .i64 pn7) ∧ w'.cell? ⟨w7.heap.size, 4, none⟩ = some (.bool hs7) ∧ w'.cell? ⟨w7.heap.size, 5, none⟩ = some (.int .i64 k7) ∧ w'.cell? ⟨w7.heap.size, 6, none⟩ = some (.int .i64 m7) ∧ w'.cell? ⟨w7.heap.size, 7, none⟩ = some (.int .u64 b7) ∧ w'.cell? ⟨w7.heap.size, 8, none⟩ = some (.string t7) ∧ w'.cell? ⟨w7.heap.size, 9, none⟩ = some (.slice a7 l7 cap7) ∧ w'.cell? ⟨w5.heap.size, 0, none⟩ = some (.int .i64 0) ∧ w'.cell? ⟨w5.heap.size, 1, none⟩ = some (.int .i64 c5) ∧ w'.cell? ⟨w5.heap.size, 2, none⟩ = some (.int .i64 pk5) ∧ w'.cell? ⟨w5.heap.size, 3, none⟩ = some (.int .i64 pn5) ∧ w'.cell? ⟨w5.heap.size, 4, none⟩ = some (.bool hs5) ∧ w'.cell? ⟨w5.heap.size, 5, none⟩ = some (.int .i64 k5) ∧ w'.cell? ⟨w5.heap.size, 6, none⟩ = some (.int .i64 m5) ∧ w'.cell? ⟨w5.heap.size, 7, none⟩ = some (.int .u64 b5) ∧ w'.cell? ⟨w5.heap.size, 8, none⟩ = some (.string t5) ∧ w'.cell? ⟨w5.heap.size, 9, none⟩ = some (.slice a5 l5 cap5) ∧ Below y2.heap.size y2 w')
      (first | (with_reducible assumption) | (with_reducible exact keepR12 hl0' hl1' (by assumption) (by assumption)) | (exact ⟨p0, p1, p2, p3, p4, p5, p6, p7, p8, p9, q0, q1, q2, q3, q4, q5, q6, q7, q8, q9, by go_grown⟩) | fail)
      (first
        | (go_at_call 12; refine (HM.out _ (heldR12 (by assumption))).mono ?_; rintro e z1 ⟨v9, rfl, hg9, hb1'⟩)
        | (go_at_call 9; refine (HS9.out _ _ _ (heldR12 (by assumption)) hg9).mono ?_; rintro e z2 ⟨rfl, hb2'⟩)
        | (go_at_call 6; refine (sawake_any _).mono ?_; rintro e z3 ⟨rfl, hb3'⟩))
    have hbE := heldR12 (by assumption)
    go_wp2_with fail
    go_ret
    exact ⟨rfl, hbw9.trans (hbE.mono hbw9.size)⟩
end Go.Proofs.YtecdniimikfbhaaGreatDoor
