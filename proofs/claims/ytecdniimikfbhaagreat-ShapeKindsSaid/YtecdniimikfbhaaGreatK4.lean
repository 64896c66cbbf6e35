/- ShapeKinds: the law's own walk. -/
import Derived.Test.YtecdniimikfbhaaGreatU8
import Derived.Test.YtecdniimikfbhaaGreatK3
import Derived.Test.YtecdniimikfbhaaGreatV6
import Derived.Test.YtecdniimikfbhaaGreatF3
namespace Go.Proofs.YtecdniimikfbhaaGreat
open Go Go.RowKit Go.ChangeShapes Go.WideShapes

theorem kinds_one8 : ∀ (op : Fin 9) (j : Fin 14), kindsTo op.val ((2 : Int) ^ j.val % 4294967296) 14 = outK op.val j.val := by decide +kernel
theorem kinds_one (op : Int) {j : Nat} (hj : j ≤ 13) : kindsTo op ((2 : Int) ^ j % 4294967296) 14 = outK op j := by
  by_cases h : op ≤ 0 ∨ 9 ≤ op
  · rw [kindsTo_none h]
    unfold outK
    rw [if_neg (by omega), if_neg (by omega), if_neg (by omega), if_neg (by omega), if_neg (by omega), if_neg (by omega), if_neg (by omega), if_neg (by omega)]
  · obtain ⟨n, rfl⟩ : ∃ n : Nat, op = n := ⟨op.toNat, by omega⟩
    exact kinds_one8 ⟨n, by omega⟩ ⟨j, by omega⟩
theorem inSet_zero : ∀ j : Fin 14, inSet 0 j.val = false := by decide +kernel
theorem i64_wf {m : Int} (h : (Lit.int .i64 m).wf = true) : -9223372036854775808 ≤ m ∧ m ≤ 9223372036854775807 := by
  have h1 : IntKind.i64.min = -9223372036854775808 := by decide
  have h2 : IntKind.i64.max = 9223372036854775807 := by decide
  simp only [Lit.wf, h1, h2, Bool.and_eq_true, decide_eq_true_eq] at h
  exact h
theorem isValue : ∃ F : D → Bool, ∀ x, F x = true ↔ FitsIn 0 1 x := ⟨fun x => @decide (FitsIn 0 1 x) (Classical.propDecidable _), fun x => by simp⟩
/-- What the law needs to know of what Map told: an error, or a value of a kind that Kinds names. -/
def ToldOk (ok : Int) (v : Value) : Prop := (∃ e pk pn : Int, e ≠ 0 ∧ v = errV e pk pn) ∨ ∃ (j : Nat) (m b : Int) (t : ByteArray) (a : Option Addr) (n cap : Nat), j ≤ 13 ∧ inSet ok j = true ∧ v = .agg #[.int .i64 0, .int .i64 0, .int .i64 0, .int .i64 0, .bool true, .int .i64 j, .int .i64 m, .int .u64 b, .string t, .slice a n cap]
theorem told_ok {F : D → Bool} {s tp : ByteArray} {op : Int} {d : D} (hd : FitsIn 0 1 d) {j : Nat} (hj : d.kind = j) {w : World} {Q : Nat → Prop} {v : Value} (h : MV w Q v (mapO F s tp op d)) : ToldOk (outK op j) v := by
  cases ho : mapO F s tp op d with
  | gave x =>
    rw [ho] at h
    obtain ⟨k5, m5, b5, t5, a5, n5, cap5, rfl, hq⟩ := h
    obtain ⟨kids, e5, -⟩ := hq.rep.shape'
    obtain ⟨i, hi, h13, hin⟩ := mapO_kind hd hj ho
    have e : k5 = i := by rw [← hi, e5]; rfl
    subst e
    exact Or.inr ⟨i, m5, b5, t5, a5, n5, cap5, h13, hin, rfl⟩
  | err e pk pn =>
    rw [ho] at h
    exact Or.inl ⟨e, pk, pn, mapO_err ho, h⟩

set_option maxRecDepth 100000 in
set_option maxHeartbeats 6400000 in
theorem kindslaw_any (op mask : Int) {w : World} {d : D} {k m b : Int} {t : ByteArray} {a : Option Addr} {l cap : Nat} (hd : Rep w (.agg #[.int .i64 k, .int .i64 m, .int .u64 b, .string t, .slice a l cap]) d) (htab : TabAny w) :
    Calls Tryz.prog 3 #[.int .i64 op, .int .u32 mask, (.agg #[.int .i64 k, .int .i64 m, .int .u64 b, .string t, .slice a l cap])] w fun x w' => x = .returned (.bool true) ∧ Below w.heap.size w w' := by
  have HS := Lib.hid (fun W => skinds_any op mask W)
  have HR := Lib.hid (fun W => rkinds_any op mask W)
  have HV := Lib.hid (fun W hW => validx_any hd W hW)
  have HT := Lib.hid htab
  generalize kindsTo op mask 14 = kk at *
  clear htab
  obtain ⟨W1, hW1, hb1, hx1⟩ := boxes1r w (.int .i64 k) (.int .i64 m) (.int .u64 b) (.string t) (.slice a l cap)
  go_enter Tryz.func3, Tryz.ntmps3
  go_upto_region 1 with fail
  rw [← hW1]
  clear hW1
  go_wp2_with fail
  refine (HS.out _).mono ?_
  rintro e w2 ⟨rfl, hb2⟩
  have hbw2 := hb1.trans (hb2.mono hb1.size)
  have hx2 := hx1.later hb2
  dsimp only
  go_wp2_with fail
  refine (HR.out _).mono ?_
  rintro e w3 ⟨rfl, hb3⟩
  have hbw3 := hbw2.trans (hb3.mono hbw2.size)
  have hx3 := hx2.later hb3
  have p0 : w3.cell? ⟨w.heap.size, 0, none⟩ = some (.int .i64 k) := hx3.cell 0 rfl
  have p1 : w3.cell? ⟨w.heap.size, 1, none⟩ = some (.int .i64 m) := hx3.cell 1 rfl
  have p2 : w3.cell? ⟨w.heap.size, 2, none⟩ = some (.int .u64 b) := hx3.cell 2 rfl
  have p3 : w3.cell? ⟨w.heap.size, 3, none⟩ = some (.string t) := hx3.cell 3 rfl
  have p4 : w3.cell? ⟨w.heap.size, 4, none⟩ = some (.slice a l cap) := hx3.cell 4 rfl
  clear HS HR
  dsimp only
  go_wp2_with fail
  refine (HV.out _ hbw3).mono ?_
  rintro e w4 ⟨r, rfl, hr, hb4⟩
  have hbw4 := hbw3.trans (hb4.mono hbw3.size)
  have hx4 := hx3.later hb4
  clear p0 p1 p2 p3 p4 HV
  cases r
  · dsimp only
    go_wp2_with (go_at_call 8; refine (sawake_any _).mono ?_; rintro e w5 ⟨rfl, hb5⟩)
    go_ret
    exact ⟨rfl, hbw4.trans (hb5.mono hbw4.size)⟩
  have hfit := hr.1 rfl
  clear hr
  obtain ⟨kids, rfl, -⟩ := hd.shape'
  have hk1 := hfit.top.1
  have hk2 := hfit.top.2.1
  obtain ⟨j, rfl⟩ : ∃ j : Nat, k = j := ⟨k.toNat, by omega⟩
  have hj : j ≤ 13 := by omega
  have eu : ((j : Int) % 18446744073709551616) = j := by omega
  obtain ⟨F, hF⟩ := isValue
  have hwf : -9223372036854775808 ≤ m ∧ m ≤ 9223372036854775807 := by
    obtain ⟨k0, m0, b0, t0, a0, cap0, g, o, c, kids0, e, e2, hw, -⟩ := hd.inv
    simp only [D.mk.injEq] at e2
    obtain ⟨rfl, rfl, rfl, rfl, rfl⟩ := e2
    exact i64_wf hw.2.1
  have HM0 : ∀ W, Below w.heap.size w W → Calls Tryz.prog 9 #[.int .i64 op, .string ⟨#[116]⟩, (.agg #[.int .i64 j, .int .i64 m, .int .u64 b, .string t, .slice a l cap])] W fun x w' => ∃ v', x = .returned v' ∧ ToldOk (outK op j) v' ∧ Below W.heap.size W w' := fun W hW =>
    (smap_any hd hfit (P := fun s => s.size ≤ 24) ⟨⟨#[]⟩, by decide⟩ (fun s hs => by omega) hF op ⟨#[116]⟩ (by decide) W hW (fun W2 hW2 => fmtint_any m hwf.1 hwf.2 W2 ((HT.out.later hW).later hW2))).mono fun x w' ⟨v', s, _, hx, hmv, hb⟩ => ⟨v', hx, told_ok hfit (j := j) rfl hmv, hb⟩
  have HM := Lib.hid HM0
  clear HM0
  have HO := Lib.hid (fun W => (kinds_one op hj) ▸ skinds_any op ((2 : Int) ^ j % 4294967296) W)
  generalize outK op j = ok at *
  clear hd hfit hF HT
  have p0 : w4.cell? ⟨w.heap.size, 0, none⟩ = some (.int .i64 j) := hx4.cell 0 rfl
  have p1 : w4.cell? ⟨w.heap.size, 1, none⟩ = some (.int .i64 m) := hx4.cell 1 rfl
  have p2 : w4.cell? ⟨w.heap.size, 2, none⟩ = some (.int .u64 b) := hx4.cell 2 rfl
  have p3 : w4.cell? ⟨w.heap.size, 3, none⟩ = some (.string t) := hx4.cell 3 rfl
  have p4 : w4.cell? ⟨w.heap.size, 4, none⟩ = some (.slice a l cap) := hx4.cell 4 rfl
  dsimp only
  go_wp2_with fail
  refine (HO.out _).mono ?_
  rintro e w5 ⟨rfl, hb5⟩
  have hbw5 := hbw4.trans (hb5.mono hbw4.size)
  have hx5 := hx4.later hb5
  clear p0 p1 p2 p3 p4 HO
  have p0 : w5.cell? ⟨w.heap.size, 0, none⟩ = some (.int .i64 j) := hx5.cell 0 rfl
  have p1 : w5.cell? ⟨w.heap.size, 1, none⟩ = some (.int .i64 m) := hx5.cell 1 rfl
  have p2 : w5.cell? ⟨w.heap.size, 2, none⟩ = some (.int .u64 b) := hx5.cell 2 rfl
  have p3 : w5.cell? ⟨w.heap.size, 3, none⟩ = some (.string t) := hx5.cell 3 rfl
  have p4 : w5.cell? ⟨w.heap.size, 4, none⟩ = some (.slice a l cap) := hx5.cell 4 rfl
  dsimp only
  go_wp2_with fail
  refine (HM.out _ hbw5).mono ?_
  rintro e w6 ⟨v6, rfl, htold, hb6⟩
  have hbw6 := hbw5.trans (hb6.mono hbw5.size)
  clear p0 p1 p2 p3 p4 HM
  rcases htold with ⟨e, pk, pn, he, rfl⟩ | ⟨j6, m6, b6, t6, a6, n6, cap6, hj6, hin, rfl⟩
  · unfold errV
    have e0 : (e == 0) = false := by simpa using he
    have e1 : (e != 0) = true := by simpa using he
    obtain ⟨W7, hW7⟩ : ∃ W7, W7 = w6.alloc (.cells #[.int .i64 e, .int .i64 0, .int .i64 pk, .int .i64 pn, .bool false, .int .i64 0, .int .i64 0, .int .u64 0, .string ⟨#[]⟩, .slice none 0 0] 35) := ⟨_, rfl⟩
    have hb7 : Below w6.heap.size w6 W7 := by rw [hW7]; exact (Below.refl _ _).alloc (Nat.le_refl _) _
    have hz : Row W7 w6.heap.size #[.int .i64 e, .int .i64 0, .int .i64 pk, .int .i64 pn, .bool false, .int .i64 0, .int .i64 0, .int .u64 0, .string ⟨#[]⟩, .slice none 0 0] 35 := by rw [hW7]; exact Row.new _ _ _
    have hbw7 := hbw6.trans (hb7.mono hbw6.size)
    obtain ⟨q, hq⟩ : ∃ q, (ok == 0) = q := ⟨_, rfl⟩
    dsimp only
    go_upto_region 7 with fail
    rw [← hW7]
    clear hW7 he
    have q0 : W7.cell? ⟨w6.heap.size, 0, none⟩ = some (.int .i64 e) := hz.cell 0 rfl
    cases q
    all_goals
      go_wp2_with (go_at_call 8; refine (sawake_any _).mono ?_; rintro e w8 ⟨rfl, hb8⟩)
      go_ret
      exact ⟨rfl, hbw7.trans (hb8.mono hbw7.size)⟩
  · have hne : (ok == 0) = false := by
      cases h0 : (ok == 0)
      · rfl
      · rw [eq_of_beq h0, inSet_zero ⟨j6, by omega⟩] at hin; cases hin
    have eu6 : ((j6 : Int) % 18446744073709551616) = j6 := by omega
    unfold inSet at hin
    obtain ⟨W7, hW7⟩ : ∃ W7, W7 = w6.alloc (.cells #[.int .i64 0, .int .i64 0, .int .i64 0, .int .i64 0, .bool true, .int .i64 j6, .int .i64 m6, .int .u64 b6, .string t6, .slice a6 n6 cap6] 35) := ⟨_, rfl⟩
    have hb7 : Below w6.heap.size w6 W7 := by rw [hW7]; exact (Below.refl _ _).alloc (Nat.le_refl _) _
    have hz : Row W7 w6.heap.size #[.int .i64 0, .int .i64 0, .int .i64 0, .int .i64 0, .bool true, .int .i64 j6, .int .i64 m6, .int .u64 b6, .string t6, .slice a6 n6 cap6] 35 := by rw [hW7]; exact Row.new _ _ _
    have hbw7 := hbw6.trans (hb7.mono hbw6.size)
    dsimp only
    go_upto_region 7 with fail
    rw [← hW7]
    clear hW7
    have q0 : W7.cell? ⟨w6.heap.size, 0, none⟩ = some (.int .i64 0) := hz.cell 0 rfl
    have q4 : W7.cell? ⟨w6.heap.size, 4, none⟩ = some (.bool true) := hz.cell 4 rfl
    have q5 : W7.cell? ⟨w6.heap.size, 5, none⟩ = some (.int .i64 j6) := hz.cell 5 rfl
    go_wp2_with (go_at_call 8; refine (sawake_any _).mono ?_; rintro e w8 ⟨rfl, hb8⟩)
    go_ret
    exact ⟨rfl, hbw7.trans (hb8.mono hbw7.size)⟩
end Go.Proofs.YtecdniimikfbhaaGreat
