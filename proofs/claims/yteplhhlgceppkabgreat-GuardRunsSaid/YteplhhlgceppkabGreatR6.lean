/- GuardRuns: the law's own walk. -/
import Derived.Test.YteplhhlgceppkabGreatR5
import Derived.Deep.RegionHeld3
namespace Go.Proofs.YteplhhlgceppkabGreat
open Go Go.RowKit Go.ChangeShapes Go.WideShapes

theorem runO_get : ∀ (os : List Out) (j : Nat) (o : Out), (runO os)[j]? = some o → os[j]? = some o
  | [], j, o, h => by simp [runO] at h
  | x :: os, 0, o, h => by
    unfold runO at h
    simpa using h
  | x :: os, j + 1, o, h => by
    unfold runO at h
    rw [List.getElem?_cons_succ] at h ⊢
    split at h
    · simp at h
    · exact runO_get os j o h

theorem heldR {W w1 : World} {g8 g9 ga gi gk p8 oa pi : Nat} {u0 u1 u2 u3 u4 u5 u6 u7 u8 u9 v0 v1 v2 v3 v4 v5 v6 v7 v8 v9 y0 y1 y2 y3 y4 y5 y6 y7 y8 y9 y10 y11 ci ck : Value} (h : w1.cell? ⟨g8, p8, none⟩ = some (u0) ∧ w1.cell? ⟨g8, p8 + 1, none⟩ = some (u1) ∧ w1.cell? ⟨g8, p8 + 2, none⟩ = some (u2) ∧ w1.cell? ⟨g8, p8 + 3, none⟩ = some (u3) ∧ w1.cell? ⟨g8, p8 + 4, none⟩ = some (u4) ∧ w1.cell? ⟨g8, p8 + 5, none⟩ = some (u5) ∧ w1.cell? ⟨g8, p8 + 6, none⟩ = some (u6) ∧ w1.cell? ⟨g8, p8 + 7, none⟩ = some (u7) ∧ w1.cell? ⟨g8, p8 + 8, none⟩ = some (u8) ∧ w1.cell? ⟨g8, p8 + 9, none⟩ = some (u9) ∧ w1.cell? ⟨g9, p8, none⟩ = some (v0) ∧ w1.cell? ⟨g9, p8 + 1, none⟩ = some (v1) ∧ w1.cell? ⟨g9, p8 + 2, none⟩ = some (v2) ∧ w1.cell? ⟨g9, p8 + 3, none⟩ = some (v3) ∧ w1.cell? ⟨g9, p8 + 4, none⟩ = some (v4) ∧ w1.cell? ⟨g9, p8 + 5, none⟩ = some (v5) ∧ w1.cell? ⟨g9, p8 + 6, none⟩ = some (v6) ∧ w1.cell? ⟨g9, p8 + 7, none⟩ = some (v7) ∧ w1.cell? ⟨g9, p8 + 8, none⟩ = some (v8) ∧ w1.cell? ⟨g9, p8 + 9, none⟩ = some (v9) ∧ w1.cell? ⟨ga, oa, none⟩ = some (y0) ∧ w1.cell? ⟨ga, oa + 1, none⟩ = some (y1) ∧ w1.cell? ⟨ga, oa + 2, none⟩ = some (y2) ∧ w1.cell? ⟨ga, oa + 3, none⟩ = some (y3) ∧ w1.cell? ⟨ga, oa + 4, none⟩ = some (y4) ∧ w1.cell? ⟨ga, oa + 5, none⟩ = some (y5) ∧ w1.cell? ⟨ga, oa + 6, none⟩ = some (y6) ∧ w1.cell? ⟨ga, oa + 7, none⟩ = some (y7) ∧ w1.cell? ⟨ga, oa + 8, none⟩ = some (y8) ∧ w1.cell? ⟨ga, oa + 9, none⟩ = some (y9) ∧ w1.cell? ⟨ga, oa + 10, none⟩ = some (y10) ∧ w1.cell? ⟨ga, oa + 11, none⟩ = some (y11) ∧ w1.cell? ⟨gi, pi, none⟩ = some (ci) ∧ w1.cell? ⟨gk, pi, none⟩ = some (ck) ∧ Below W.heap.size W w1) : Below W.heap.size W w1 := by
  obtain ⟨_, _, _, _, _, _, _, _, _, _, _, _, _, _, _, _, _, _, _, _, _, _, _, _, _, _, _, _, _, _, _, _, _, _, h⟩ := h
  exact h
theorem keepR {W w1 w2 : World} {g8 g9 ga gi gk p8 oa pi : Nat} {u0 u1 u2 u3 u4 u5 u6 u7 u8 u9 v0 v1 v2 v3 v4 v5 v6 v7 v8 v9 y0 y1 y2 y3 y4 y5 y6 y7 y8 y9 y10 y11 ci ck : Value} (h8 : g8 < W.heap.size) (h9 : g9 < W.heap.size) (ha : ga < W.heap.size) (hi : gi < W.heap.size) (hk : gk < W.heap.size) (h : w1.cell? ⟨g8, p8, none⟩ = some (u0) ∧ w1.cell? ⟨g8, p8 + 1, none⟩ = some (u1) ∧ w1.cell? ⟨g8, p8 + 2, none⟩ = some (u2) ∧ w1.cell? ⟨g8, p8 + 3, none⟩ = some (u3) ∧ w1.cell? ⟨g8, p8 + 4, none⟩ = some (u4) ∧ w1.cell? ⟨g8, p8 + 5, none⟩ = some (u5) ∧ w1.cell? ⟨g8, p8 + 6, none⟩ = some (u6) ∧ w1.cell? ⟨g8, p8 + 7, none⟩ = some (u7) ∧ w1.cell? ⟨g8, p8 + 8, none⟩ = some (u8) ∧ w1.cell? ⟨g8, p8 + 9, none⟩ = some (u9) ∧ w1.cell? ⟨g9, p8, none⟩ = some (v0) ∧ w1.cell? ⟨g9, p8 + 1, none⟩ = some (v1) ∧ w1.cell? ⟨g9, p8 + 2, none⟩ = some (v2) ∧ w1.cell? ⟨g9, p8 + 3, none⟩ = some (v3) ∧ w1.cell? ⟨g9, p8 + 4, none⟩ = some (v4) ∧ w1.cell? ⟨g9, p8 + 5, none⟩ = some (v5) ∧ w1.cell? ⟨g9, p8 + 6, none⟩ = some (v6) ∧ w1.cell? ⟨g9, p8 + 7, none⟩ = some (v7) ∧ w1.cell? ⟨g9, p8 + 8, none⟩ = some (v8) ∧ w1.cell? ⟨g9, p8 + 9, none⟩ = some (v9) ∧ w1.cell? ⟨ga, oa, none⟩ = some (y0) ∧ w1.cell? ⟨ga, oa + 1, none⟩ = some (y1) ∧ w1.cell? ⟨ga, oa + 2, none⟩ = some (y2) ∧ w1.cell? ⟨ga, oa + 3, none⟩ = some (y3) ∧ w1.cell? ⟨ga, oa + 4, none⟩ = some (y4) ∧ w1.cell? ⟨ga, oa + 5, none⟩ = some (y5) ∧ w1.cell? ⟨ga, oa + 6, none⟩ = some (y6) ∧ w1.cell? ⟨ga, oa + 7, none⟩ = some (y7) ∧ w1.cell? ⟨ga, oa + 8, none⟩ = some (y8) ∧ w1.cell? ⟨ga, oa + 9, none⟩ = some (y9) ∧ w1.cell? ⟨ga, oa + 10, none⟩ = some (y10) ∧ w1.cell? ⟨ga, oa + 11, none⟩ = some (y11) ∧ w1.cell? ⟨gi, pi, none⟩ = some (ci) ∧ w1.cell? ⟨gk, pi, none⟩ = some (ck) ∧ Below W.heap.size W w1) (hb : Below w1.heap.size w1 w2) : w2.cell? ⟨g8, p8, none⟩ = some (u0) ∧ w2.cell? ⟨g8, p8 + 1, none⟩ = some (u1) ∧ w2.cell? ⟨g8, p8 + 2, none⟩ = some (u2) ∧ w2.cell? ⟨g8, p8 + 3, none⟩ = some (u3) ∧ w2.cell? ⟨g8, p8 + 4, none⟩ = some (u4) ∧ w2.cell? ⟨g8, p8 + 5, none⟩ = some (u5) ∧ w2.cell? ⟨g8, p8 + 6, none⟩ = some (u6) ∧ w2.cell? ⟨g8, p8 + 7, none⟩ = some (u7) ∧ w2.cell? ⟨g8, p8 + 8, none⟩ = some (u8) ∧ w2.cell? ⟨g8, p8 + 9, none⟩ = some (u9) ∧ w2.cell? ⟨g9, p8, none⟩ = some (v0) ∧ w2.cell? ⟨g9, p8 + 1, none⟩ = some (v1) ∧ w2.cell? ⟨g9, p8 + 2, none⟩ = some (v2) ∧ w2.cell? ⟨g9, p8 + 3, none⟩ = some (v3) ∧ w2.cell? ⟨g9, p8 + 4, none⟩ = some (v4) ∧ w2.cell? ⟨g9, p8 + 5, none⟩ = some (v5) ∧ w2.cell? ⟨g9, p8 + 6, none⟩ = some (v6) ∧ w2.cell? ⟨g9, p8 + 7, none⟩ = some (v7) ∧ w2.cell? ⟨g9, p8 + 8, none⟩ = some (v8) ∧ w2.cell? ⟨g9, p8 + 9, none⟩ = some (v9) ∧ w2.cell? ⟨ga, oa, none⟩ = some (y0) ∧ w2.cell? ⟨ga, oa + 1, none⟩ = some (y1) ∧ w2.cell? ⟨ga, oa + 2, none⟩ = some (y2) ∧ w2.cell? ⟨ga, oa + 3, none⟩ = some (y3) ∧ w2.cell? ⟨ga, oa + 4, none⟩ = some (y4) ∧ w2.cell? ⟨ga, oa + 5, none⟩ = some (y5) ∧ w2.cell? ⟨ga, oa + 6, none⟩ = some (y6) ∧ w2.cell? ⟨ga, oa + 7, none⟩ = some (y7) ∧ w2.cell? ⟨ga, oa + 8, none⟩ = some (y8) ∧ w2.cell? ⟨ga, oa + 9, none⟩ = some (y9) ∧ w2.cell? ⟨ga, oa + 10, none⟩ = some (y10) ∧ w2.cell? ⟨ga, oa + 11, none⟩ = some (y11) ∧ w2.cell? ⟨gi, pi, none⟩ = some (ci) ∧ w2.cell? ⟨gk, pi, none⟩ = some (ck) ∧ Below W.heap.size W w2 := by
  obtain ⟨c0, c1, c2, c3, c4, c5, c6, c7, c8, c9, c10, c11, c12, c13, c14, c15, c16, c17, c18, c19, c20, c21, c22, c23, c24, c25, c26, c27, c28, c29, c30, c31, c32, c33, h⟩ := h
  have hz := h.size
  exact ⟨(hb.cell (p := ⟨g8, _, none⟩) (Nat.lt_of_lt_of_le h8 hz)).trans c0, (hb.cell (p := ⟨g8, _, none⟩) (Nat.lt_of_lt_of_le h8 hz)).trans c1, (hb.cell (p := ⟨g8, _, none⟩) (Nat.lt_of_lt_of_le h8 hz)).trans c2, (hb.cell (p := ⟨g8, _, none⟩) (Nat.lt_of_lt_of_le h8 hz)).trans c3, (hb.cell (p := ⟨g8, _, none⟩) (Nat.lt_of_lt_of_le h8 hz)).trans c4, (hb.cell (p := ⟨g8, _, none⟩) (Nat.lt_of_lt_of_le h8 hz)).trans c5, (hb.cell (p := ⟨g8, _, none⟩) (Nat.lt_of_lt_of_le h8 hz)).trans c6, (hb.cell (p := ⟨g8, _, none⟩) (Nat.lt_of_lt_of_le h8 hz)).trans c7, (hb.cell (p := ⟨g8, _, none⟩) (Nat.lt_of_lt_of_le h8 hz)).trans c8, (hb.cell (p := ⟨g8, _, none⟩) (Nat.lt_of_lt_of_le h8 hz)).trans c9, (hb.cell (p := ⟨g9, _, none⟩) (Nat.lt_of_lt_of_le h9 hz)).trans c10, (hb.cell (p := ⟨g9, _, none⟩) (Nat.lt_of_lt_of_le h9 hz)).trans c11, (hb.cell (p := ⟨g9, _, none⟩) (Nat.lt_of_lt_of_le h9 hz)).trans c12, (hb.cell (p := ⟨g9, _, none⟩) (Nat.lt_of_lt_of_le h9 hz)).trans c13, (hb.cell (p := ⟨g9, _, none⟩) (Nat.lt_of_lt_of_le h9 hz)).trans c14, (hb.cell (p := ⟨g9, _, none⟩) (Nat.lt_of_lt_of_le h9 hz)).trans c15, (hb.cell (p := ⟨g9, _, none⟩) (Nat.lt_of_lt_of_le h9 hz)).trans c16, (hb.cell (p := ⟨g9, _, none⟩) (Nat.lt_of_lt_of_le h9 hz)).trans c17, (hb.cell (p := ⟨g9, _, none⟩) (Nat.lt_of_lt_of_le h9 hz)).trans c18, (hb.cell (p := ⟨g9, _, none⟩) (Nat.lt_of_lt_of_le h9 hz)).trans c19, (hb.cell (p := ⟨ga, _, none⟩) (Nat.lt_of_lt_of_le ha hz)).trans c20, (hb.cell (p := ⟨ga, _, none⟩) (Nat.lt_of_lt_of_le ha hz)).trans c21, (hb.cell (p := ⟨ga, _, none⟩) (Nat.lt_of_lt_of_le ha hz)).trans c22, (hb.cell (p := ⟨ga, _, none⟩) (Nat.lt_of_lt_of_le ha hz)).trans c23, (hb.cell (p := ⟨ga, _, none⟩) (Nat.lt_of_lt_of_le ha hz)).trans c24, (hb.cell (p := ⟨ga, _, none⟩) (Nat.lt_of_lt_of_le ha hz)).trans c25, (hb.cell (p := ⟨ga, _, none⟩) (Nat.lt_of_lt_of_le ha hz)).trans c26, (hb.cell (p := ⟨ga, _, none⟩) (Nat.lt_of_lt_of_le ha hz)).trans c27, (hb.cell (p := ⟨ga, _, none⟩) (Nat.lt_of_lt_of_le ha hz)).trans c28, (hb.cell (p := ⟨ga, _, none⟩) (Nat.lt_of_lt_of_le ha hz)).trans c29, (hb.cell (p := ⟨ga, _, none⟩) (Nat.lt_of_lt_of_le ha hz)).trans c30, (hb.cell (p := ⟨ga, _, none⟩) (Nat.lt_of_lt_of_le ha hz)).trans c31, (hb.cell (p := ⟨gi, _, none⟩) (Nat.lt_of_lt_of_le hi hz)).trans c32, (hb.cell (p := ⟨gk, _, none⟩) (Nat.lt_of_lt_of_le hk hz)).trans c33, h.trans (hb.mono hz)⟩

set_option maxRecDepth 100000 in
set_option maxHeartbeats 6400000 in
theorem runs_any {w : World} {lv : Value} {xs : List Ac} (hA : Acts w lv xs) :
    Calls Tryz.prog 3 #[lv] w fun x w' => x = .returned (.bool true) ∧ Below w.heap.size w w' := by
  have HA := Lib.hid hA
  obtain ⟨p, cp, rfl, hmx, hX⟩ := hA
  have HX := Lib.hid hX
  clear hX
  go_enter Tryz.func3, Tryz.ntmps3
  go_wp2_with fail
  go_loopw [3, 15] (fun vn i wr => ∃ j N : Nat, j ≤ xs.length ∧ i = .int .i64 j ∧ vn = .int .i64 N ∧ j ≤ N ∧ N ≤ 65536 ∧ (∀ x ∈ xs.take j, Good x.A ∧ Good x.B) ∧ Below w.heap.size w wr) (fun _ i _ => xs.length - (intOf i).toNat)
  case atStart => exact ⟨0, 0, Nat.zero_le _, rfl, rfl, Nat.le_refl _, by omega, (fun x hx => by simp at hx), Below.refl _ _⟩
  case round =>
    obtain ⟨j, N, hj, rfl, rfl, hjN, hN, hgood, hbr⟩ := hrel
    by_cases hlt : j < xs.length
    · obtain ⟨x, hx⟩ : ∃ x, xs[j]? = some x := ⟨_, List.getElem?_eq_getElem hlt⟩
      obtain ⟨g, o, k, m, b, t, a1, l1, cap1, k', m', b', t', a2, l2, cap2, rfl, hgw, hcp, hcm, c0, c1, c2, c3, c4, c5, c6, c7, c8, c9, c10, c11, hrA, hrB⟩ := HX.out j x hx
      have HTK := Lib.hid (show xs.take (j + 1) = xs.take j ++ [x] by rw [List.take_add_one, hx]; rfl)
      have HG := Lib.hid hgood
      clear hgood hx
      have d0 : wr.cell? ⟨g, o + j * 12, none⟩ = some (.int .i64 x.op) := (hbr.cell (p := ⟨g, _, none⟩) hgw).trans c0
      have d1 : wr.cell? ⟨g, o + j * 12 + 1, none⟩ = some (.int .i64 k) := (hbr.cell (p := ⟨g, _, none⟩) hgw).trans c1
      have d2 : wr.cell? ⟨g, o + j * 12 + 2, none⟩ = some (.int .i64 m) := (hbr.cell (p := ⟨g, _, none⟩) hgw).trans c2
      have d3 : wr.cell? ⟨g, o + j * 12 + 3, none⟩ = some (.int .u64 b) := (hbr.cell (p := ⟨g, _, none⟩) hgw).trans c3
      have d4 : wr.cell? ⟨g, o + j * 12 + 4, none⟩ = some (.string t) := (hbr.cell (p := ⟨g, _, none⟩) hgw).trans c4
      have d5 : wr.cell? ⟨g, o + j * 12 + 5, none⟩ = some (.slice a1 l1 cap1) := (hbr.cell (p := ⟨g, _, none⟩) hgw).trans c5
      have d6 : wr.cell? ⟨g, o + j * 12 + 6, none⟩ = some (.int .i64 k') := (hbr.cell (p := ⟨g, _, none⟩) hgw).trans c6
      have d7 : wr.cell? ⟨g, o + j * 12 + 7, none⟩ = some (.int .i64 m') := (hbr.cell (p := ⟨g, _, none⟩) hgw).trans c7
      have d8 : wr.cell? ⟨g, o + j * 12 + 8, none⟩ = some (.int .u64 b') := (hbr.cell (p := ⟨g, _, none⟩) hgw).trans c8
      have d9 : wr.cell? ⟨g, o + j * 12 + 9, none⟩ = some (.string t') := (hbr.cell (p := ⟨g, _, none⟩) hgw).trans c9
      have d10 : wr.cell? ⟨g, o + j * 12 + 10, none⟩ = some (.slice a2 l2 cap2) := (hbr.cell (p := ⟨g, _, none⟩) hgw).trans c10
      have d11 : wr.cell? ⟨g, o + j * 12 + 11, none⟩ = some (.int .i64 x.n) := (hbr.cell (p := ⟨g, _, none⟩) hgw).trans c11
      clear c0 c1 c2 c3 c4 c5 c6 c7 c8 c9 c10 c11
      have HF := Lib.hid (fun W hW => fit_any (op := x.op) (n := x.n) hrA hrB W hW)
      have HP := Lib.hid (fun W hW => parts_any hrA W hW)
      clear hrA hrB
      obtain ⟨Wa, hWa⟩ : ∃ Wa, Wa = wr.alloc (.cells #[.int .i64 x.op, .int .i64 k, .int .i64 m, .int .u64 b, .string t, .slice a1 l1 cap1, .int .i64 k', .int .i64 m', .int .u64 b', .string t', .slice a2 l2 cap2, .int .i64 x.n] 28) := ⟨_, rfl⟩
      have hba : Below wr.heap.size wr Wa := by rw [hWa]; exact (Below.refl _ _).alloc (Nat.le_refl _) _
      have hra : Row Wa wr.heap.size #[.int .i64 x.op, .int .i64 k, .int .i64 m, .int .u64 b, .string t, .slice a1 l1 cap1, .int .i64 k', .int .i64 m', .int .u64 b', .string t', .slice a2 l2 cap2, .int .i64 x.n] 28 := by rw [hWa]; exact Row.new _ _ _
      have hbwa := hbr.trans (hba.mono hbr.size)
      go_upto_region 5 with fail
      rw [← hWa]
      clear hWa d0 d1 d2 d3 d4 d5 d6 d7 d8 d9 d10 d11
      have q0 : Wa.cell? ⟨wr.heap.size, 0, none⟩ = some (.int .i64 x.op) := hra.cell 0 rfl
      have q1 : Wa.cell? ⟨wr.heap.size, 1, none⟩ = some (.int .i64 k) := hra.cell 1 rfl
      have q2 : Wa.cell? ⟨wr.heap.size, 2, none⟩ = some (.int .i64 m) := hra.cell 2 rfl
      have q3 : Wa.cell? ⟨wr.heap.size, 3, none⟩ = some (.int .u64 b) := hra.cell 3 rfl
      have q4 : Wa.cell? ⟨wr.heap.size, 4, none⟩ = some (.string t) := hra.cell 4 rfl
      have q5 : Wa.cell? ⟨wr.heap.size, 5, none⟩ = some (.slice a1 l1 cap1) := hra.cell 5 rfl
      have q6 : Wa.cell? ⟨wr.heap.size, 6, none⟩ = some (.int .i64 k') := hra.cell 6 rfl
      have q7 : Wa.cell? ⟨wr.heap.size, 7, none⟩ = some (.int .i64 m') := hra.cell 7 rfl
      have q8 : Wa.cell? ⟨wr.heap.size, 8, none⟩ = some (.int .u64 b') := hra.cell 8 rfl
      have q9 : Wa.cell? ⟨wr.heap.size, 9, none⟩ = some (.string t') := hra.cell 9 rfl
      have q10 : Wa.cell? ⟨wr.heap.size, 10, none⟩ = some (.slice a2 l2 cap2) := hra.cell 10 rfl
      have q11 : Wa.cell? ⟨wr.heap.size, 11, none⟩ = some (.int .i64 x.n) := hra.cell 11 rfl
      go_wp2_with fail
      refine (HF.out _ hbwa).mono ?_
      rintro e w2 ⟨r, rfl, hr, hb2⟩
      have hbw2 := hbwa.trans (hb2.mono hbwa.size)
      clear q0 q1 q2 q3 q4 q5 q6 q7 q8 q9 q10 q11
      cases r
      · dsimp only
        go_wp2_with (go_at_call 5; refine (awake_any _).mono ?_; rintro e w3 ⟨rfl, hb3⟩)
        go_ret
        exact ⟨rfl, hbw2.trans (hb3.mono hbw2.size)⟩
      · have hgx := hr rfl
        clear hr
        have hra2 := hra.later hb2
        have q0 : w2.cell? ⟨wr.heap.size, 0, none⟩ = some (.int .i64 x.op) := hra2.cell 0 rfl
        have q1 : w2.cell? ⟨wr.heap.size, 1, none⟩ = some (.int .i64 k) := hra2.cell 1 rfl
        have q2 : w2.cell? ⟨wr.heap.size, 2, none⟩ = some (.int .i64 m) := hra2.cell 2 rfl
        have q3 : w2.cell? ⟨wr.heap.size, 3, none⟩ = some (.int .u64 b) := hra2.cell 3 rfl
        have q4 : w2.cell? ⟨wr.heap.size, 4, none⟩ = some (.string t) := hra2.cell 4 rfl
        have q5 : w2.cell? ⟨wr.heap.size, 5, none⟩ = some (.slice a1 l1 cap1) := hra2.cell 5 rfl
        have q6 : w2.cell? ⟨wr.heap.size, 6, none⟩ = some (.int .i64 k') := hra2.cell 6 rfl
        have q7 : w2.cell? ⟨wr.heap.size, 7, none⟩ = some (.int .i64 m') := hra2.cell 7 rfl
        have q8 : w2.cell? ⟨wr.heap.size, 8, none⟩ = some (.int .u64 b') := hra2.cell 8 rfl
        have q9 : w2.cell? ⟨wr.heap.size, 9, none⟩ = some (.string t') := hra2.cell 9 rfl
        have q10 : w2.cell? ⟨wr.heap.size, 10, none⟩ = some (.slice a2 l2 cap2) := hra2.cell 10 rfl
        have q11 : w2.cell? ⟨wr.heap.size, 11, none⟩ = some (.int .i64 x.n) := hra2.cell 11 rfl
        dsimp only
        go_wp2_with fail
        refine (HP.out _ hbw2).mono ?_
        rintro e w3 ⟨n3, m3, rfl, hn1, hn2, hb3⟩
        have hbw3 := hbw2.trans (hb3.mono hbw2.size)
        clear q0 q1 q2 q3 q4 q5 q6 q7 q8 q9 q10 q11
        obtain ⟨n3, rfl⟩ : ∃ n' : Nat, n3 = n' := ⟨n3.toNat, by omega⟩
        dsimp only
        by_cases hbig : N + n3 ≤ 65536
        · have ht : decide (65536 < (N : Int) + n3) = false := by simp; omega
          go_wp2_with fail
          go_roundw
          case rel =>
            refine ⟨j + 1, N + n3, by omega, by go_num, by go_num, by omega, hbig, ?_, hbw3⟩
            rw [HTK.out]
            intro y hy
            rcases List.mem_append.1 hy with h | h
            · exact HG.out y h
            · rw [List.mem_singleton.1 h]; exact hgx
          case measure => simp [intOf]; omega
        · have ht : decide (65536 < (N : Int) + n3) = true := by simp; omega
          go_wp2_with (go_at_call 5; refine (awake_any _).mono ?_; rintro e w4 ⟨rfl, hb4⟩)
          go_ret
          exact ⟨rfl, hbw3.trans (hb4.mono hbw3.size)⟩
    · obtain rfl : j = xs.length := by omega
      have hall : ∀ x ∈ xs, Good x.A ∧ Good x.B := by rw [List.take_length] at hgood; exact hgood
      clear hgood
      have hlen : xs.length ≤ 65536 := by omega
      have HRun := Lib.hid (fun W hW => run_any HA.out hall hlen W hW)
      have HRef := Lib.hid (fun W hW => rrun_any HA.out hall hlen W hW)
      have HALL := Lib.hid hall
      have hml := runO_len (xs.map outA)
      have hml2 : (xs.map outA).length = xs.length := by simp
      clear hall
      go_wp2_with fail
      refine (HRun.out _ hbr).mono ?_
      rintro e w2 ⟨rv, ov, rfl, hR, hM, hb2⟩
      have hbw2 := hbr.trans (hb2.mono hbr.size)
      obtain ⟨a8, c8, rfl⟩ := hR.form
      obtain ⟨a9, c9, rfl⟩ := hM.form
      rw [downs_len] at hM ⊢
      dsimp only
      go_wp2_with fail
      refine (HRef.out _ hbw2).mono ?_
      rintro e w3 ⟨rv', ov', rfl, hR', hM', hb3⟩
      have hbw3 := hbw2.trans (hb3.mono hbw2.size)
      obtain ⟨a10, c10, rfl⟩ := hR'.form
      obtain ⟨a11, c11, rfl⟩ := hM'.form
      rw [downs_len] at hM' ⊢
      have hR3 := Lib.hid (hR.later hb3)
      have hM3 := Lib.hid (hM.below hb3)
      have hR3' := Lib.hid hR'
      have hM3' := Lib.hid hM'
      have HO := Lib.hid (fun j o h => runO_get (xs.map outA) j o h)
      clear hR hM hR' hM'
      generalize hrr : runO (xs.map outA) = rs at *
      generalize hmm : rs.length = mm at *
      dsimp only
      go_wp2_with fail
      go_loopw [60] (fun i wr => ∃ j : Nat, j ≤ mm ∧ i = .int .i64 j ∧ Below w3.heap.size w3 wr) (fun i _ => mm - (intOf i).toNat)
      case atStart => exact ⟨0, Nat.zero_le _, rfl, Below.refl _ _⟩
      case round =>
        obtain ⟨j, hj, rfl, hbq⟩ := hrel
        by_cases hlt : j < mm
        · obtain ⟨ro, hro⟩ : ∃ ro, rs[j]? = some ro := ⟨_, List.getElem?_eq_getElem (by omega)⟩
          have hox := HO.out j ro hro
          obtain ⟨x, hx, hxo⟩ : ∃ x, xs[j]? = some x ∧ outA x = ro := by
            rw [List.getElem?_map] at hox
            cases hxx : xs[j]? with
            | none => rw [hxx] at hox; cases hox
            | some x => rw [hxx] at hox; exact ⟨x, rfl, Option.some.inj hox⟩
          obtain ⟨hgA, hgB⟩ := HALL.out x (List.mem_of_getElem? hx)
          have hT := (outA_both hgA hgB).2
          rw [hxo] at hT
          have HT := Lib.hid hT
          clear hT hgA hgB hox
          obtain ⟨g8, q8, r0, r1, r2, r3, r4, k5, m5, b5, t5, a5, n5, cap5, e8, hl8, hq8, hc8, hg8, i0, i1, i2, i3, i4, i5, i6, i7, i8, i9, hv8⟩ := (hR3.out.later hbq).get hro
          obtain ⟨g10, q10, s0, s1, s2, s3, s4, k6, m6, b6, t6, a6, n6, cap6, e10, hl10, hq10, hc10, hg10, j0, j1, j2, j3, j4, j5, j6, j7, j8, j9, hv10⟩ := (hR3'.out.later hbq).get hro
          have hdn : (downs 0 mm)[j]? = some ((mm : Int) - 1 - j) := by
            rw [downs_get 0 mm j hlt]
            congr 1
            omega
          obtain ⟨g9, q9, e9, hl9, hq9, hc9, hg9, z9⟩ := (hM3.out.below hbq).get hdn
          obtain ⟨g11, q11, e11, hl11, hq11, hc11, hg11, z11⟩ := (hM3'.out.below hbq).get hdn
          rw [downs_len] at e9 e11 hq9 hq11
          rw [hmm] at e8 e10 hq8 hq10
          simp only [Value.slice.injEq, true_and] at e8 e9 e10 e11
          obtain ⟨rfl, rfl⟩ := e8
          obtain ⟨rfl, rfl⟩ := e9
          obtain ⟨rfl, rfl⟩ := e10
          obtain ⟨rfl, rfl⟩ := e11
          obtain ⟨g, o, k, m, b, t, a1, l1, cap1, k', m', b', t', a2, l2, cap2, rfl, hgw, hcp, hcm, f0, f1, f2, f3, f4, f5, f6, f7, f8, f9, f10, f11, hrA, hrB⟩ := HX.out j x hx
          have hbwq := hbw3.trans (hbq.mono hbw3.size)
          have hzq := hbwq.size
          have hjx : j < xs.length := (List.getElem?_eq_some_iff.1 hx).1
          have d0 : wr.cell? ⟨g, o + j * 12, none⟩ = some (.int .i64 x.op) := (hbwq.cell (p := ⟨g, _, none⟩) hgw).trans f0
          have d1 : wr.cell? ⟨g, o + j * 12 + 1, none⟩ = some (.int .i64 k) := (hbwq.cell (p := ⟨g, _, none⟩) hgw).trans f1
          have d2 : wr.cell? ⟨g, o + j * 12 + 2, none⟩ = some (.int .i64 m) := (hbwq.cell (p := ⟨g, _, none⟩) hgw).trans f2
          have d3 : wr.cell? ⟨g, o + j * 12 + 3, none⟩ = some (.int .u64 b) := (hbwq.cell (p := ⟨g, _, none⟩) hgw).trans f3
          have d4 : wr.cell? ⟨g, o + j * 12 + 4, none⟩ = some (.string t) := (hbwq.cell (p := ⟨g, _, none⟩) hgw).trans f4
          have d5 : wr.cell? ⟨g, o + j * 12 + 5, none⟩ = some (.slice a1 l1 cap1) := (hbwq.cell (p := ⟨g, _, none⟩) hgw).trans f5
          have d6 : wr.cell? ⟨g, o + j * 12 + 6, none⟩ = some (.int .i64 k') := (hbwq.cell (p := ⟨g, _, none⟩) hgw).trans f6
          have d7 : wr.cell? ⟨g, o + j * 12 + 7, none⟩ = some (.int .i64 m') := (hbwq.cell (p := ⟨g, _, none⟩) hgw).trans f7
          have d8 : wr.cell? ⟨g, o + j * 12 + 8, none⟩ = some (.int .u64 b') := (hbwq.cell (p := ⟨g, _, none⟩) hgw).trans f8
          have d9 : wr.cell? ⟨g, o + j * 12 + 9, none⟩ = some (.string t') := (hbwq.cell (p := ⟨g, _, none⟩) hgw).trans f9
          have d10 : wr.cell? ⟨g, o + j * 12 + 10, none⟩ = some (.slice a2 l2 cap2) := (hbwq.cell (p := ⟨g, _, none⟩) hgw).trans f10
          have d11 : wr.cell? ⟨g, o + j * 12 + 11, none⟩ = some (.int .i64 x.n) := (hbwq.cell (p := ⟨g, _, none⟩) hgw).trans f11
          clear f0 f1 f2 f3 f4 f5 f6 f7 f8 f9 f10 f11
          have HW := Lib.hid (HT.out w _ _ _ _ _ _ _ _ _ _ _ _ _ _ hrA hrB)
          have HV8 := Lib.hid hv8
          have HV10 := Lib.hid hv10
          clear HT hrA hrB hv8 hv10 hxo hx hro hdn
          have hga : g < wr.heap.size := by omega
          have hne : ((mm : Int) - 1 - j != IntKind.i64.wrap (IntKind.i64.wrap ((mm : Int) - 1) - j)) = false := by
            have e1 : IntKind.i64.wrap ((mm : Int) - 1) = (mm : Int) - 1 := by rw [IntKind.wrap_i64]; omega
            have e2 : IntKind.i64.wrap ((mm : Int) - 1 - j) = (mm : Int) - 1 - j := by rw [IntKind.wrap_i64]; omega
            rw [e1, e2]
            simp
          go_upto_region 19 with fail
          go_region_held3 (fun w' => w'.cell? ⟨g8, j * 10, none⟩ = some (.int .i64 r0) ∧ w'.cell? ⟨g8, j * 10 + 1, none⟩ = some (.int .i64 r1) ∧ w'.cell? ⟨g8, j * 10 + 2, none⟩ = some (.int .i64 r2) ∧ w'.cell? ⟨g8, j * 10 + 3, none⟩ = some (.int .i64 r3) ∧ w'.cell? ⟨g8, j * 10 + 4, none⟩ = some (.bool r4) ∧ w'.cell? ⟨g8, j * 10 + 5, none⟩ = some (.int .i64 k5) ∧ w'.cell? ⟨g8, j * 10 + 6, none⟩ = some (.int .i64 m5) ∧ w'.cell? ⟨g8, j * 10 + 7, none⟩ = some (.int .u64 b5) ∧ w'.cell? ⟨g8, j * 10 + 8, none⟩ = some (.string t5) ∧ w'.cell? ⟨g8, j * 10 + 9, none⟩ = some (.slice a5 n5 cap5) ∧ w'.cell? ⟨g10, j * 10, none⟩ = some (.int .i64 s0) ∧ w'.cell? ⟨g10, j * 10 + 1, none⟩ = some (.int .i64 s1) ∧ w'.cell? ⟨g10, j * 10 + 2, none⟩ = some (.int .i64 s2) ∧ w'.cell? ⟨g10, j * 10 + 3, none⟩ = some (.int .i64 s3) ∧ w'.cell? ⟨g10, j * 10 + 4, none⟩ = some (.bool s4) ∧ w'.cell? ⟨g10, j * 10 + 5, none⟩ = some (.int .i64 k6) ∧ w'.cell? ⟨g10, j * 10 + 6, none⟩ = some (.int .i64 m6) ∧ w'.cell? ⟨g10, j * 10 + 7, none⟩ = some (.int .u64 b6) ∧ w'.cell? ⟨g10, j * 10 + 8, none⟩ = some (.string t6) ∧ w'.cell? ⟨g10, j * 10 + 9, none⟩ = some (.slice a6 n6 cap6) ∧ w'.cell? ⟨g, o + j * 12, none⟩ = some (.int .i64 x.op) ∧ w'.cell? ⟨g, o + j * 12 + 1, none⟩ = some (.int .i64 k) ∧ w'.cell? ⟨g, o + j * 12 + 2, none⟩ = some (.int .i64 m) ∧ w'.cell? ⟨g, o + j * 12 + 3, none⟩ = some (.int .u64 b) ∧ w'.cell? ⟨g, o + j * 12 + 4, none⟩ = some (.string t) ∧ w'.cell? ⟨g, o + j * 12 + 5, none⟩ = some (.slice a1 l1 cap1) ∧ w'.cell? ⟨g, o + j * 12 + 6, none⟩ = some (.int .i64 k') ∧ w'.cell? ⟨g, o + j * 12 + 7, none⟩ = some (.int .i64 m') ∧ w'.cell? ⟨g, o + j * 12 + 8, none⟩ = some (.int .u64 b') ∧ w'.cell? ⟨g, o + j * 12 + 9, none⟩ = some (.string t') ∧ w'.cell? ⟨g, o + j * 12 + 10, none⟩ = some (.slice a2 l2 cap2) ∧ w'.cell? ⟨g, o + j * 12 + 11, none⟩ = some (.int .i64 x.n) ∧ w'.cell? ⟨g9, j, none⟩ = some (.int .i64 ((mm : Int) - 1 - j)) ∧ w'.cell? ⟨g11, j, none⟩ = some (.int .i64 ((mm : Int) - 1 - j)) ∧ Below wr.heap.size wr w')
            (first | (with_reducible assumption) | (with_reducible exact keepR hg8 hg10 hga hg9 hg11 (by assumption) (by assumption)) | (exact ⟨i0, i1, i2, i3, i4, i5, i6, i7, i8, i9, j0, j1, j2, j3, j4, j5, j6, j7, j8, j9, d0, d1, d2, d3, d4, d5, d6, d7, d8, d9, d10, d11, z9, z11, by go_grown⟩) | fail)
            (first
              | (have _h := hbT; go_at_call 9; refine (rsame_any (HV8.out.later hbY) hgT _ (Below.refl _ _)).mono ?_; rintro e y3 ⟨rfl, hb3'⟩)
              | (go_at_call 10; refine (HW.out _ (hbwq.trans ((heldR (by assumption)).mono hzq))).1.mono ?_; rintro e y2 ⟨v5, rfl, hgT, hbT⟩; have hbY := (heldR (by assumption)).trans (hbT.mono (heldR (by assumption)).size); obtain ⟨x0, x1, x2, x3, x4, k7, m7, b7, t7, a7, n7, cap7, rfl⟩ := hgT.form)
              | (go_at_call 9; refine (rsame_any HV8.out HV10.out _ (heldR (by assumption))).mono ?_; rintro e y1 ⟨rfl, hb1'⟩))
          have hbE := heldR (by assumption)
          go_wp2_with fail
          go_roundw
          case rel => exact ⟨j + 1, by omega, by go_num, hbq.trans (hbE.mono hbq.size)⟩
          case measure => simp [intOf]; omega
        · obtain rfl : j = mm := by omega
          have hbwq := hbw3.trans (hbq.mono hbw3.size)
          go_wp2_with (go_at_call 5; refine (awake_any _).mono ?_; rintro e w5 ⟨rfl, hb5⟩)
          go_ret
          exact ⟨rfl, hbwq.trans (hb5.mono hbwq.size)⟩
end Go.Proofs.YteplhhlgceppkabGreat
