/- ShapeMaps: the law's own walk. -/
import Derived.Test.YtecdniimikfbhaaGreatDoorD7
import Derived.Test.YtecdniimikfbhaaGreatDoorV6
import Derived.Deep.RegionHeld3
namespace Go.Proofs.YtecdniimikfbhaaGreatDoor
open Go Go.RowKit Go.ChangeShapes Go.WideShapes

theorem heldM {W w1 : World} {g0 g1 g2 : Nat} {u0 u1 u2 u3 u4 u5 u6 u7 u8 u9 u10 u11 u12 u13 u14 u15 u16 u17 u18 u19 : Value} (h : w1.cell? ⟨g0, 0, none⟩ = some (u0) ∧ w1.cell? ⟨g0, 1, none⟩ = some (u1) ∧ w1.cell? ⟨g0, 2, none⟩ = some (u2) ∧ w1.cell? ⟨g0, 3, none⟩ = some (u3) ∧ w1.cell? ⟨g0, 4, none⟩ = some (u4) ∧ w1.cell? ⟨g0, 5, none⟩ = some (u5) ∧ w1.cell? ⟨g0, 6, none⟩ = some (u6) ∧ w1.cell? ⟨g0, 7, none⟩ = some (u7) ∧ w1.cell? ⟨g0, 8, none⟩ = some (u8) ∧ w1.cell? ⟨g0, 9, none⟩ = some (u9) ∧ w1.cell? ⟨g1, 0, none⟩ = some (u10) ∧ w1.cell? ⟨g1, 1, none⟩ = some (u11) ∧ w1.cell? ⟨g1, 2, none⟩ = some (u12) ∧ w1.cell? ⟨g1, 3, none⟩ = some (u13) ∧ w1.cell? ⟨g1, 4, none⟩ = some (u14) ∧ w1.cell? ⟨g2, 0, none⟩ = some (u15) ∧ w1.cell? ⟨g2, 1, none⟩ = some (u16) ∧ w1.cell? ⟨g2, 2, none⟩ = some (u17) ∧ w1.cell? ⟨g2, 3, none⟩ = some (u18) ∧ w1.cell? ⟨g2, 4, none⟩ = some (u19) ∧ Below W.heap.size W w1) : Below W.heap.size W w1 := by
  obtain ⟨_, _, _, _, _, _, _, _, _, _, _, _, _, _, _, _, _, _, _, _, h⟩ := h
  exact h
theorem keepM {W w1 w2 : World} {g0 g1 g2 : Nat} {u0 u1 u2 u3 u4 u5 u6 u7 u8 u9 u10 u11 u12 u13 u14 u15 u16 u17 u18 u19 : Value} (h0 : g0 < W.heap.size) (h1 : g1 < W.heap.size) (h2 : g2 < W.heap.size) (h : w1.cell? ⟨g0, 0, none⟩ = some (u0) ∧ w1.cell? ⟨g0, 1, none⟩ = some (u1) ∧ w1.cell? ⟨g0, 2, none⟩ = some (u2) ∧ w1.cell? ⟨g0, 3, none⟩ = some (u3) ∧ w1.cell? ⟨g0, 4, none⟩ = some (u4) ∧ w1.cell? ⟨g0, 5, none⟩ = some (u5) ∧ w1.cell? ⟨g0, 6, none⟩ = some (u6) ∧ w1.cell? ⟨g0, 7, none⟩ = some (u7) ∧ w1.cell? ⟨g0, 8, none⟩ = some (u8) ∧ w1.cell? ⟨g0, 9, none⟩ = some (u9) ∧ w1.cell? ⟨g1, 0, none⟩ = some (u10) ∧ w1.cell? ⟨g1, 1, none⟩ = some (u11) ∧ w1.cell? ⟨g1, 2, none⟩ = some (u12) ∧ w1.cell? ⟨g1, 3, none⟩ = some (u13) ∧ w1.cell? ⟨g1, 4, none⟩ = some (u14) ∧ w1.cell? ⟨g2, 0, none⟩ = some (u15) ∧ w1.cell? ⟨g2, 1, none⟩ = some (u16) ∧ w1.cell? ⟨g2, 2, none⟩ = some (u17) ∧ w1.cell? ⟨g2, 3, none⟩ = some (u18) ∧ w1.cell? ⟨g2, 4, none⟩ = some (u19) ∧ Below W.heap.size W w1) (hb : Below w1.heap.size w1 w2) : w2.cell? ⟨g0, 0, none⟩ = some (u0) ∧ w2.cell? ⟨g0, 1, none⟩ = some (u1) ∧ w2.cell? ⟨g0, 2, none⟩ = some (u2) ∧ w2.cell? ⟨g0, 3, none⟩ = some (u3) ∧ w2.cell? ⟨g0, 4, none⟩ = some (u4) ∧ w2.cell? ⟨g0, 5, none⟩ = some (u5) ∧ w2.cell? ⟨g0, 6, none⟩ = some (u6) ∧ w2.cell? ⟨g0, 7, none⟩ = some (u7) ∧ w2.cell? ⟨g0, 8, none⟩ = some (u8) ∧ w2.cell? ⟨g0, 9, none⟩ = some (u9) ∧ w2.cell? ⟨g1, 0, none⟩ = some (u10) ∧ w2.cell? ⟨g1, 1, none⟩ = some (u11) ∧ w2.cell? ⟨g1, 2, none⟩ = some (u12) ∧ w2.cell? ⟨g1, 3, none⟩ = some (u13) ∧ w2.cell? ⟨g1, 4, none⟩ = some (u14) ∧ w2.cell? ⟨g2, 0, none⟩ = some (u15) ∧ w2.cell? ⟨g2, 1, none⟩ = some (u16) ∧ w2.cell? ⟨g2, 2, none⟩ = some (u17) ∧ w2.cell? ⟨g2, 3, none⟩ = some (u18) ∧ w2.cell? ⟨g2, 4, none⟩ = some (u19) ∧ Below W.heap.size W w2 := by
  obtain ⟨c0, c1, c2, c3, c4, c5, c6, c7, c8, c9, c10, c11, c12, c13, c14, c15, c16, c17, c18, c19, h⟩ := h
  have hz := h.size
  exact ⟨(hb.cell (p := ⟨g0, _, none⟩) (Nat.lt_of_lt_of_le h0 hz)).trans c0, (hb.cell (p := ⟨g0, _, none⟩) (Nat.lt_of_lt_of_le h0 hz)).trans c1, (hb.cell (p := ⟨g0, _, none⟩) (Nat.lt_of_lt_of_le h0 hz)).trans c2, (hb.cell (p := ⟨g0, _, none⟩) (Nat.lt_of_lt_of_le h0 hz)).trans c3, (hb.cell (p := ⟨g0, _, none⟩) (Nat.lt_of_lt_of_le h0 hz)).trans c4, (hb.cell (p := ⟨g0, _, none⟩) (Nat.lt_of_lt_of_le h0 hz)).trans c5, (hb.cell (p := ⟨g0, _, none⟩) (Nat.lt_of_lt_of_le h0 hz)).trans c6, (hb.cell (p := ⟨g0, _, none⟩) (Nat.lt_of_lt_of_le h0 hz)).trans c7, (hb.cell (p := ⟨g0, _, none⟩) (Nat.lt_of_lt_of_le h0 hz)).trans c8, (hb.cell (p := ⟨g0, _, none⟩) (Nat.lt_of_lt_of_le h0 hz)).trans c9, (hb.cell (p := ⟨g1, _, none⟩) (Nat.lt_of_lt_of_le h1 hz)).trans c10, (hb.cell (p := ⟨g1, _, none⟩) (Nat.lt_of_lt_of_le h1 hz)).trans c11, (hb.cell (p := ⟨g1, _, none⟩) (Nat.lt_of_lt_of_le h1 hz)).trans c12, (hb.cell (p := ⟨g1, _, none⟩) (Nat.lt_of_lt_of_le h1 hz)).trans c13, (hb.cell (p := ⟨g1, _, none⟩) (Nat.lt_of_lt_of_le h1 hz)).trans c14, (hb.cell (p := ⟨g2, _, none⟩) (Nat.lt_of_lt_of_le h2 hz)).trans c15, (hb.cell (p := ⟨g2, _, none⟩) (Nat.lt_of_lt_of_le h2 hz)).trans c16, (hb.cell (p := ⟨g2, _, none⟩) (Nat.lt_of_lt_of_le h2 hz)).trans c17, (hb.cell (p := ⟨g2, _, none⟩) (Nat.lt_of_lt_of_le h2 hz)).trans c18, (hb.cell (p := ⟨g2, _, none⟩) (Nat.lt_of_lt_of_le h2 hz)).trans c19, h.trans (hb.mono hz)⟩

set_option maxRecDepth 100000 in
set_option maxHeartbeats 6400000 in
theorem mapslaw_any (op : Int) (tp : ByteArray) (htp : tp.size ≤ maxLen) {w : World} {d : D} {k m b : Int} {t : ByteArray} {a : Option Addr} {l cap : Nat} (hd : Rep w (.agg #[.int .i64 k, .int .i64 m, .int .u64 b, .string t, .slice a l cap]) d) (htab : Tab w) :
    Calls Tryz.prog 3 #[.int .i64 op, .string tp, (.agg #[.int .i64 k, .int .i64 m, .int .u64 b, .string t, .slice a l cap])] w fun x w' => x = .returned (.bool true) ∧ Below w.heap.size w w' := by
  have HV := Lib.hid (fun W hW => validx_any hd W hW)
  obtain ⟨W1, hW1, hb1, hx1⟩ := boxes1r w (.int .i64 k) (.int .i64 m) (.int .u64 b) (.string t) (.slice a l cap)
  have p0 : W1.cell? ⟨w.heap.size, 0, none⟩ = some (.int .i64 k) := hx1.cell 0 rfl
  have p1 : W1.cell? ⟨w.heap.size, 1, none⟩ = some (.int .i64 m) := hx1.cell 1 rfl
  have p2 : W1.cell? ⟨w.heap.size, 2, none⟩ = some (.int .u64 b) := hx1.cell 2 rfl
  have p3 : W1.cell? ⟨w.heap.size, 3, none⟩ = some (.string t) := hx1.cell 3 rfl
  have p4 : W1.cell? ⟨w.heap.size, 4, none⟩ = some (.slice a l cap) := hx1.cell 4 rfl
  have hq0 : (decide (65535 < tp.size)) = decide (65535 < tp.size) := rfl
  clear hq0
  go_enter Tryz.func3, Tryz.ntmps3
  go_upto_region 1 with fail
  rw [← hW1]
  clear hW1
  go_wp2_with fail
  refine (HV.out _ hb1).mono ?_
  rintro e w2 ⟨r, rfl, hr, hb2⟩
  have hbw2 := hb1.trans (hb2.mono hb1.size)
  have hx2 := hx1.later hb2
  clear p0 p1 p2 p3 p4
  cases r
  · dsimp only
    go_wp2_with (go_at_call 6; refine (sawake_any _).mono ?_; rintro e w5 ⟨rfl, hb5⟩)
    go_ret
    exact ⟨rfl, hbw2.trans (hb5.mono hbw2.size)⟩
  have hfit := hr.1 rfl
  clear hr
  by_cases hlen : 65535 < tp.size
  · dsimp only
    go_wp2_with (go_at_call 6; refine (sawake_any _).mono ?_; rintro e w5 ⟨rfl, hb5⟩)
    go_ret
    exact ⟨rfl, hbw2.trans (hb5.mono hbw2.size)⟩
  have HC := Lib.hid (fun W hW => copy_any hd (hfit.slim (by omega)) W hW)
  have p0 : w2.cell? ⟨w.heap.size, 0, none⟩ = some (.int .i64 k) := hx2.cell 0 rfl
  have p1 : w2.cell? ⟨w.heap.size, 1, none⟩ = some (.int .i64 m) := hx2.cell 1 rfl
  have p2 : w2.cell? ⟨w.heap.size, 2, none⟩ = some (.int .u64 b) := hx2.cell 2 rfl
  have p3 : w2.cell? ⟨w.heap.size, 3, none⟩ = some (.string t) := hx2.cell 3 rfl
  have p4 : w2.cell? ⟨w.heap.size, 4, none⟩ = some (.slice a l cap) := hx2.cell 4 rfl
  dsimp only
  go_wp2_with fail
  refine (HC.out _ hbw2).mono ?_
  rintro e w3 ⟨v3, rfl, hq3, hb3⟩
  obtain ⟨k5, m5, b5, t5, a5, n5, cap5, rfl⟩ := hq3.form
  have hown3 := hq3.rep
  clear hq3 HC
  have hbw3 := hbw2.trans (hb3.mono hbw2.size)
  have hx3 := hx2.later hb3
  clear p0 p1 p2 p3 p4
  obtain ⟨W4, hW4⟩ : ∃ W', W' = w3.alloc (.cells #[.int .i64 k5, .int .i64 m5, .int .u64 b5, .string t5, .slice a5 n5 cap5] 25) := ⟨_, rfl⟩
  have hbW4 : Below w3.heap.size w3 W4 := by rw [hW4]; exact (Below.refl _ _).alloc (Nat.le_refl _) _
  have hrW4 : Row W4 w3.heap.size #[.int .i64 k5, .int .i64 m5, .int .u64 b5, .string t5, .slice a5 n5 cap5] 25 := by rw [hW4]; exact Row.new _ _ _
  have hbw4 := hbw3.trans (hbW4.mono hbw3.size)
  have hx4 := hx3.later hbW4
  have hown4 := hown3.carry hbW4
  have htab4 := htab.later hbw4
  have q0 : W4.cell? ⟨w3.heap.size, 0, none⟩ = some (.int .i64 k5) := hrW4.cell 0 rfl
  have q1 : W4.cell? ⟨w3.heap.size, 1, none⟩ = some (.int .i64 m5) := hrW4.cell 1 rfl
  have q2 : W4.cell? ⟨w3.heap.size, 2, none⟩ = some (.int .u64 b5) := hrW4.cell 2 rfl
  have q3 : W4.cell? ⟨w3.heap.size, 3, none⟩ = some (.string t5) := hrW4.cell 3 rfl
  have q4 : W4.cell? ⟨w3.heap.size, 4, none⟩ = some (.slice a5 n5 cap5) := hrW4.cell 4 rfl
  dsimp only
  go_upto_region 4 with fail
  rw [← hW4]
  clear hW4
  obtain ⟨F, hF⟩ := isValue
  have HM := Lib.hid (smapE hown4 hfit htab4 hF op tp htp W4 (Below.refl _ _))
  go_wp2_with fail
  refine HM.out.mono ?_
  rintro e w5 ⟨v5, rfl, hg5, hb5⟩
  obtain ⟨e7, c7, pk7, pn7, hs7, k7, m7, b7, t7, a7, l7, cap7, rfl⟩ := hg5.form
  have hbw5 := hbw4.trans (hb5.mono hbw4.size)
  have hx5 := hx4.later hb5
  have ho5 := hrW4.later hb5
  clear q0 q1 q2 q3 q4
  clear HM
  obtain ⟨W6, hW6⟩ : ∃ W', W' = w5.alloc (.cells #[.int .i64 e7, .int .i64 c7, .int .i64 pk7, .int .i64 pn7, .bool hs7, .int .i64 k7, .int .i64 m7, .int .u64 b7, .string t7, .slice a7 l7 cap7] 33) := ⟨_, rfl⟩
  have hbW6 : Below w5.heap.size w5 W6 := by rw [hW6]; exact (Below.refl _ _).alloc (Nat.le_refl _) _
  have hrW6 : Row W6 w5.heap.size #[.int .i64 e7, .int .i64 c7, .int .i64 pk7, .int .i64 pn7, .bool hs7, .int .i64 k7, .int .i64 m7, .int .u64 b7, .string t7, .slice a7 l7 cap7] 33 := by rw [hW6]; exact Row.new _ _ _
  have hbw6 := hbw5.trans (hbW6.mono hbw5.size)
  have hx6 := hx5.later hbW6
  have ho6 := ho5.later hbW6
  have hg6 := hg5.later hbW6
  have hb46 := hb5.trans (hbW6.mono hb5.size)
  have hown6 := hown4.carry hb46
  have htab6 := htab.later hbw6
  obtain ⟨x7, hx7, hfit7⟩ := hg6.body (fun x hx => mapE_fits hF hd hfit hx)
  have HR := Lib.hid (fun (W : World) (hW : Below W6.heap.size W6 W) => rmapE hd hfit htab hF op tp htp W (hbw6.trans (hW.mono hbw6.size)))
  have HS := Lib.hid (fun (W : World) (v' : Value) (Q' : Nat → Prop) (hW : Below W6.heap.size W6 W) (h' : RMV W Q' v' (mapE F tp op d)) => rsame_mo (hg6.later hW) h' W (Below.refl _ _))
  have HV7 := Lib.hid (fun (W : World) (hW : Below W6.heap.size W6 W) => (validx_any hx7 W hW).mono fun x w' ⟨r, h1, h2, h3⟩ => (show x = Ending.returned (.bool true) ∧ Below W.heap.size W w' from ⟨by rw [h1, h2.2 hfit7], h3⟩))
  have HO := Lib.hid (fun (W : World) (hW : Below W6.heap.size W6 W) => same_self hown6 _ (hd.carry hbw6) W hW)
  generalize mapE F tp op d = mo at *
  clear hg5 hg6 hx7 hfit7 hown3 hown4 hown6 htab htab4 htab6 hfit hd hF HV
  have hz0 := hrW6.lt
  have hz1 := hx6.lt
  have hz2 := ho6.lt
  have p0 : W6.cell? ⟨w5.heap.size, 0, none⟩ = some (.int .i64 e7) := hrW6.cell 0 rfl
  have p1 : W6.cell? ⟨w5.heap.size, 1, none⟩ = some (.int .i64 c7) := hrW6.cell 1 rfl
  have p2 : W6.cell? ⟨w5.heap.size, 2, none⟩ = some (.int .i64 pk7) := hrW6.cell 2 rfl
  have p3 : W6.cell? ⟨w5.heap.size, 3, none⟩ = some (.int .i64 pn7) := hrW6.cell 3 rfl
  have p4 : W6.cell? ⟨w5.heap.size, 4, none⟩ = some (.bool hs7) := hrW6.cell 4 rfl
  have p5 : W6.cell? ⟨w5.heap.size, 5, none⟩ = some (.int .i64 k7) := hrW6.cell 5 rfl
  have p6 : W6.cell? ⟨w5.heap.size, 6, none⟩ = some (.int .i64 m7) := hrW6.cell 6 rfl
  have p7 : W6.cell? ⟨w5.heap.size, 7, none⟩ = some (.int .u64 b7) := hrW6.cell 7 rfl
  have p8 : W6.cell? ⟨w5.heap.size, 8, none⟩ = some (.string t7) := hrW6.cell 8 rfl
  have p9 : W6.cell? ⟨w5.heap.size, 9, none⟩ = some (.slice a7 l7 cap7) := hrW6.cell 9 rfl
  have q0 : W6.cell? ⟨w.heap.size, 0, none⟩ = some (.int .i64 k) := hx6.cell 0 rfl
  have q1 : W6.cell? ⟨w.heap.size, 1, none⟩ = some (.int .i64 m) := hx6.cell 1 rfl
  have q2 : W6.cell? ⟨w.heap.size, 2, none⟩ = some (.int .u64 b) := hx6.cell 2 rfl
  have q3 : W6.cell? ⟨w.heap.size, 3, none⟩ = some (.string t) := hx6.cell 3 rfl
  have q4 : W6.cell? ⟨w.heap.size, 4, none⟩ = some (.slice a l cap) := hx6.cell 4 rfl
  have z0 : W6.cell? ⟨w3.heap.size, 0, none⟩ = some (.int .i64 k5) := ho6.cell 0 rfl
  have z1 : W6.cell? ⟨w3.heap.size, 1, none⟩ = some (.int .i64 m5) := ho6.cell 1 rfl
  have z2 : W6.cell? ⟨w3.heap.size, 2, none⟩ = some (.int .u64 b5) := ho6.cell 2 rfl
  have z3 : W6.cell? ⟨w3.heap.size, 3, none⟩ = some (.string t5) := ho6.cell 3 rfl
  have z4 : W6.cell? ⟨w3.heap.size, 4, none⟩ = some (.slice a5 n5 cap5) := ho6.cell 4 rfl
  dsimp only
  go_upto_region 5 with fail
  rw [← hW6]
  clear hW6
  go_region_held3 (fun w' => w'.cell? ⟨w5.heap.size, 0, none⟩ = some (.int .i64 e7) ∧ w'.cell? ⟨w5.heap.size, 1, none⟩ = some (.int .i64 c7) ∧ w'.cell? ⟨w5.heap.size, 2, none⟩ = some (.int .i64 pk7) ∧ w'.cell? ⟨w5.heap.size, 3, none⟩ = some (.int .i64 pn7) ∧ w'.cell? ⟨w5.heap.size, 4, none⟩ = some (.bool hs7) ∧ w'.cell? ⟨w5.heap.size, 5, none⟩ = some (.int .i64 k7) ∧ w'.cell? ⟨w5.heap.size, 6, none⟩ = some (.int .i64 m7) ∧ w'.cell? ⟨w5.heap.size, 7, none⟩ = some (.int .u64 b7) ∧ w'.cell? ⟨w5.heap.size, 8, none⟩ = some (.string t7) ∧ w'.cell? ⟨w5.heap.size, 9, none⟩ = some (.slice a7 l7 cap7) ∧ w'.cell? ⟨w.heap.size, 0, none⟩ = some (.int .i64 k) ∧ w'.cell? ⟨w.heap.size, 1, none⟩ = some (.int .i64 m) ∧ w'.cell? ⟨w.heap.size, 2, none⟩ = some (.int .u64 b) ∧ w'.cell? ⟨w.heap.size, 3, none⟩ = some (.string t) ∧ w'.cell? ⟨w.heap.size, 4, none⟩ = some (.slice a l cap) ∧ w'.cell? ⟨w3.heap.size, 0, none⟩ = some (.int .i64 k5) ∧ w'.cell? ⟨w3.heap.size, 1, none⟩ = some (.int .i64 m5) ∧ w'.cell? ⟨w3.heap.size, 2, none⟩ = some (.int .u64 b5) ∧ w'.cell? ⟨w3.heap.size, 3, none⟩ = some (.string t5) ∧ w'.cell? ⟨w3.heap.size, 4, none⟩ = some (.slice a5 n5 cap5) ∧ Below W6.heap.size W6 w')
    (first | (with_reducible assumption) | (with_reducible exact keepM hz0 hz1 hz2 (by assumption) (by assumption)) | (exact ⟨p0, p1, p2, p3, p4, p5, p6, p7, p8, p9, q0, q1, q2, q3, q4, z0, z1, z2, z3, z4, by go_grown⟩) | fail)
    (first
      | (go_at_call 10; refine (HR.out _ (heldM (by assumption))).mono ?_; rintro e y1 ⟨v8, rfl, hg8, hb1'⟩)
      | (go_at_call 9; refine (HS.out _ _ _ (heldM (by assumption)) hg8).mono ?_; rintro e y2 ⟨rfl, hb2'⟩)
      | (go_at_call 5; refine (HV7.out _ (heldM (by assumption))).mono ?_; rintro e y3 ⟨rfl, hb3'⟩)
      | (go_at_call 11; refine (HO.out _ (heldM (by assumption))).mono ?_; rintro e y4 ⟨rfl, hb4'⟩)
      | (go_at_call 6; refine (sawake_any _).mono ?_; rintro e y5 ⟨rfl, hb5'⟩))
  have hbE := heldM (by assumption)
  go_wp2_with fail
  go_ret
  exact ⟨rfl, hbw6.trans (hbE.mono hbw6.size)⟩
end Go.Proofs.YtecdniimikfbhaaGreatDoor
