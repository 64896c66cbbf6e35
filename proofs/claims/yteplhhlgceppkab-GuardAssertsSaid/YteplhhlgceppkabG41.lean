/- GuardAsserts: the law's own walk. -/
import Derived.Test.YteplhhlgceppkabG40
namespace Go.Proofs.Yteplhhlgceppkab
open Go Go.RowKit Go.ChangeShapes Go.WideShapes

theorem isB_out {k : Nat} (hk : k ≤ 13) {n : Int} (hn : ¬ (1 ≤ n ∧ n < 14)) : isB k n = false := by
  have h : typedB k n = false := by
    unfold typedB
    split
    · rfl
    · rename_i h0
      split
      · simp; omega
      · simp; omega
  exact isB_f h

set_option maxRecDepth 100000 in
set_option maxHeartbeats 3200000 in
theorem asserts_true_true {w0 : World} {k : Nat} {m b : Int} {t : ByteArray} {a : Option Addr} {l cap : Nat} {d : D} (hv : Rep w0 (.agg #[.int .i64 k, .int .i64 m, .int .u64 b, .string t, .slice a l cap]) d) (hs : Slim d) (hR : Right d) (hp : d.parts ≤ 4096) (hk : k ≤ 13) (n : Int) (hP : isB k n = true) (hQ : hasFi k n = true) (w : World) (hb0 : Below w0.heap.size w0 w) :
    Calls Try.prog 4 #[.agg #[.int .i64 k, .int .i64 m, .int .u64 b, .string t, .slice a l cap], .int .i64 n] w fun x w' => x = .returned (.bool true) ∧ Below w.heap.size w w' := by
  have HV := Lib.hid (fun W h => valid_any hv W h)
  have HK := Lib.hid (fun W h => law_kind_true hv hs hR hp hk n hP W h)
  have HF := Lib.hid (fun W h => law_face_true hv hs hR hp hk n hQ W h)
  have HZ := Lib.hid (fun W h => law_size hv hs hR hp hk W h)
  have HB := Lib.hid hb0
  have HP := Lib.hid hP
  have HQ := Lib.hid hQ
  clear hv hs hR hp hb0 hP hQ
  obtain ⟨W1, hW1, hb1, hz1, hx1⟩ := boxes1 w (.int .i64 k) (.int .i64 m) (.int .u64 b) (.string t) (.slice a l cap)
  have hz := Lib.hid hz1
  clear hz1
  obtain ⟨p0, p1, p2, p3, p4⟩ := hx1.cells
  go_enter Try.func4, Try.ntmps4
  go_upto_region 1 with fail
  rw [← hW1]
  clear hW1
  go_wp2_with fail
  refine (HV.out _ (HB.out.trans (hb1.mono HB.out.size))).mono ?_
  rintro e w2 ⟨r, rfl, -, hb2⟩
  have hbw2 := hb1.trans (hb2.mono hb1.size)
  have hx2 := hx1.row.later hb2
  clear p0 p1 p2 p3 p4
  cases r
  · go_wp2_with (go_at_call 7; refine (awake_any _).mono ?_; rintro e w3 ⟨rfl, hb3⟩)
    go_ret
    exact ⟨rfl, hbw2.trans (hb3.mono hbw2.size)⟩
  · have p0 : w2.cell? ⟨w.heap.size, 0, none⟩ = some (.int .i64 k) := hx2.cell 0 rfl
    have p1 : w2.cell? ⟨w.heap.size, 1, none⟩ = some (.int .i64 m) := hx2.cell 1 rfl
    have p2 : w2.cell? ⟨w.heap.size, 2, none⟩ = some (.int .u64 b) := hx2.cell 2 rfl
    have p3 : w2.cell? ⟨w.heap.size, 3, none⟩ = some (.string t) := hx2.cell 3 rfl
    have p4 : w2.cell? ⟨w.heap.size, 4, none⟩ = some (.slice a l cap) := hx2.cell 4 rfl
    dsimp only
    go_wp2_with fail
    refine (HK.out _ (HB.out.trans (hbw2.mono HB.out.size))).mono ?_
    rintro e w3 ⟨v3, rfl, ⟨c6, pn6, k6, m6, b6, t6, a6, l6, cap6, rfl⟩, hb3⟩
    have hbw3 := hbw2.trans (hb3.mono hbw2.size)
    have hx3 := hx2.later hb3
    clear p0 p1 p2 p3 p4
    obtain ⟨Wa, hWa⟩ : ∃ Wa, Wa = w3.alloc (.cells #[.int .i64 0, .int .i64 c6, .int .i64 0, .int .i64 pn6, .bool true, .int .i64 k6, .int .i64 m6, .int .u64 b6, .string t6, .slice a6 l6 cap6] 35) := ⟨_, rfl⟩
    have hba : Below w3.heap.size w3 Wa := by rw [hWa]; exact (Below.refl _ _).alloc (Nat.le_refl _) _
    have hbwa := hbw3.trans (hba.mono hbw3.size)
    have hxa := hx3.later hba
    have hya : Row Wa w3.heap.size #[.int .i64 0, .int .i64 c6, .int .i64 0, .int .i64 pn6, .bool true, .int .i64 k6, .int .i64 m6, .int .u64 b6, .string t6, .slice a6 l6 cap6] 35 := by rw [hWa]; exact Row.new _ _ _
    have p0 : Wa.cell? ⟨w.heap.size, 0, none⟩ = some (.int .i64 k) := hxa.cell 0 rfl
    have p1 : Wa.cell? ⟨w.heap.size, 1, none⟩ = some (.int .i64 m) := hxa.cell 1 rfl
    have p2 : Wa.cell? ⟨w.heap.size, 2, none⟩ = some (.int .u64 b) := hxa.cell 2 rfl
    have p3 : Wa.cell? ⟨w.heap.size, 3, none⟩ = some (.string t) := hxa.cell 3 rfl
    have p4 : Wa.cell? ⟨w.heap.size, 4, none⟩ = some (.slice a l cap) := hxa.cell 4 rfl
    dsimp only
    go_upto_region 4 with fail
    rw [← hWa]
    clear hWa
    go_wp2_with fail
    refine (HF.out _ (HB.out.trans (hbwa.mono HB.out.size))).mono ?_
    rintro e w4 ⟨v4, rfl, ⟨c7, pn7, k7, m7, b7, t7, a7, l7, cap7, rfl⟩, hb4⟩
    have hbw4 := hbwa.trans (hb4.mono hbwa.size)
    have hx4 := hxa.later hb4
    have hy4 := hya.later hb4
    clear p0 p1 p2 p3 p4
    obtain ⟨Wb, hWb⟩ : ∃ Wb, Wb = w4.alloc (.cells #[.int .i64 0, .int .i64 c7, .int .i64 0, .int .i64 pn7, .bool true, .int .i64 k7, .int .i64 m7, .int .u64 b7, .string t7, .slice a7 l7 cap7] 35) := ⟨_, rfl⟩
    have hbb : Below w4.heap.size w4 Wb := by rw [hWb]; exact (Below.refl _ _).alloc (Nat.le_refl _) _
    have hbwb := hbw4.trans (hbb.mono hbw4.size)
    have hxb := hx4.later hbb
    have hyb := hy4.later hbb
    have hzb : Row Wb w4.heap.size #[.int .i64 0, .int .i64 c7, .int .i64 0, .int .i64 pn7, .bool true, .int .i64 k7, .int .i64 m7, .int .u64 b7, .string t7, .slice a7 l7 cap7] 35 := by rw [hWb]; exact Row.new _ _ _
    have p0 : Wb.cell? ⟨w.heap.size, 0, none⟩ = some (.int .i64 k) := hxb.cell 0 rfl
    have p1 : Wb.cell? ⟨w.heap.size, 1, none⟩ = some (.int .i64 m) := hxb.cell 1 rfl
    have p2 : Wb.cell? ⟨w.heap.size, 2, none⟩ = some (.int .u64 b) := hxb.cell 2 rfl
    have p3 : Wb.cell? ⟨w.heap.size, 3, none⟩ = some (.string t) := hxb.cell 3 rfl
    have p4 : Wb.cell? ⟨w.heap.size, 4, none⟩ = some (.slice a l cap) := hxb.cell 4 rfl
    dsimp only
    go_upto_region 5 with fail
    rw [← hWb]
    clear hWb
    go_cut [7] from 10 (fun s7 wc => s7 = .bool true ∧ Below Wb.heap.size Wb wc)
    case first =>
      by_cases hn : 1 ≤ n ∧ n < 14
      · obtain ⟨n, rfl⟩ : ∃ n' : Nat, n = n' := ⟨n.toNat, by omega⟩
        have HM := Lib.hid (fun W => match_kind n k (by omega) hk (.int .i64 m) (.int .u64 b) (.string t) (.slice a l cap) W)
        rw [HP.out] at HM
        have g1 : decide ((0 : Int) < n) = true := by simp; omega
        have g2 : decide ((n : Int) < 14) = true := by simp; omega
        have g3 : 0 < n := by omega
        go_wp2_with (go_at_call 14; refine (HM.out _).mono ?_; rintro e w5 ⟨rfl, hb5⟩)
        go_meet
        case rel => exact ⟨rfl, hb5⟩
      · have hno := isB_out hk hn
        rw [HP.out] at hno
        cases hno
    case rest =>
      obtain ⟨rfl, hbc⟩ := hcut
      have hbwc := hbwb.trans (hbc.mono hbwb.size)
      have hxc := hxb.later hbc
      have hyc := hyb.later hbc
      have hzc := hzb.later hbc
      clear p0 p1 p2 p3 p4
      have p0 : wc.cell? ⟨w.heap.size, 0, none⟩ = some (.int .i64 k) := hxc.cell 0 rfl
      have p1 : wc.cell? ⟨w.heap.size, 1, none⟩ = some (.int .i64 m) := hxc.cell 1 rfl
      have p2 : wc.cell? ⟨w.heap.size, 2, none⟩ = some (.int .u64 b) := hxc.cell 2 rfl
      have p3 : wc.cell? ⟨w.heap.size, 3, none⟩ = some (.string t) := hxc.cell 3 rfl
      have p4 : wc.cell? ⟨w.heap.size, 4, none⟩ = some (.slice a l cap) := hxc.cell 4 rfl
      go_upto_region 6 with fail
      obtain ⟨Wc, rfl⟩ : ∃ Wc : World, Wc = wc := ⟨_, rfl⟩
      go_cut [8] from 10 (fun s8 wc => s8 = .bool true ∧ Below Wc.heap.size Wc wc)
      case first =>
        by_cases hn : 0 ≤ n ∧ n < 10
        · obtain ⟨n, rfl⟩ : ∃ n' : Nat, n = n' := ⟨n.toNat, by omega⟩
          have HM := Lib.hid (fun W => match_face n k (by omega) hk (.int .i64 m) (.int .u64 b) (.string t) (.slice a l cap) W)
          rw [← hasFi_nat (by omega) k, HQ.out] at HM
          have g1 : decide ((0 : Int) ≤ n) = true := by simp
          have g2 : decide ((n : Int) < 10) = true := by simp; omega
          go_wp2_with (go_at_call 14; refine (HM.out _).mono ?_; rintro e w5 ⟨rfl, hb5⟩)
          go_meet
          case rel => exact ⟨rfl, hb5⟩
        · have hno := hasFi_out k n hn
          rw [HQ.out] at hno
          cases hno
      case rest =>
        obtain ⟨rfl, hbd⟩ := hcut
        have hbwd := hbwc.trans (hbd.mono hbwc.size)
        have hxd := hxc.later hbd
        have hyd := hyc.later hbd
        have hzd := hzc.later hbd
        clear p0 p1 p2 p3 p4
        have p0 : wc.cell? ⟨w.heap.size, 0, none⟩ = some (.int .i64 k) := hxd.cell 0 rfl
        have p1 : wc.cell? ⟨w.heap.size, 1, none⟩ = some (.int .i64 m) := hxd.cell 1 rfl
        have p2 : wc.cell? ⟨w.heap.size, 2, none⟩ = some (.int .u64 b) := hxd.cell 2 rfl
        have p3 : wc.cell? ⟨w.heap.size, 3, none⟩ = some (.string t) := hxd.cell 3 rfl
        have p4 : wc.cell? ⟨w.heap.size, 4, none⟩ = some (.slice a l cap) := hxd.cell 4 rfl
        have q0 : wc.cell? ⟨w3.heap.size, 0, none⟩ = some (.int .i64 0) := hyd.cell 0 rfl
        have q2 : wc.cell? ⟨w3.heap.size, 2, none⟩ = some (.int .i64 0) := hyd.cell 2 rfl
        have q4 : wc.cell? ⟨w3.heap.size, 4, none⟩ = some (.bool true) := hyd.cell 4 rfl
        have r0 : wc.cell? ⟨w4.heap.size, 0, none⟩ = some (.int .i64 0) := hzd.cell 0 rfl
        have r2 : wc.cell? ⟨w4.heap.size, 2, none⟩ = some (.int .i64 0) := hzd.cell 2 rfl
        have r4 : wc.cell? ⟨w4.heap.size, 4, none⟩ = some (.bool true) := hzd.cell 4 rfl
        go_wp2_with fail
        refine (HZ.out _ (HB.out.trans (hbwd.mono HB.out.size))).mono ?_
        rintro e w6 ⟨v6, e6, hh, rfl, hor, ⟨k8, m8, b8, t8, a8, l8, cap8, rfl⟩, hb6⟩
        have hbw6 := hbwd.trans (hb6.mono hbwd.size)
        rcases hor with rfl | rfl
        all_goals
          dsimp only
          go_wp2_with (go_at_call 7; refine (awake_any _).mono ?_; rintro e w7 ⟨rfl, hb7⟩)
          go_ret
          exact ⟨rfl, (hbw6.alloc hbw6.size _).trans (hb7.mono (by have := hbw6.size; simp; omega))⟩
set_option maxRecDepth 100000 in
set_option maxHeartbeats 3200000 in
theorem asserts_true_false {w0 : World} {k : Nat} {m b : Int} {t : ByteArray} {a : Option Addr} {l cap : Nat} {d : D} (hv : Rep w0 (.agg #[.int .i64 k, .int .i64 m, .int .u64 b, .string t, .slice a l cap]) d) (hs : Slim d) (hR : Right d) (hp : d.parts ≤ 4096) (hk : k ≤ 13) (n : Int) (hP : isB k n = true) (hQ : hasFi k n = false) (w : World) (hb0 : Below w0.heap.size w0 w) :
    Calls Try.prog 4 #[.agg #[.int .i64 k, .int .i64 m, .int .u64 b, .string t, .slice a l cap], .int .i64 n] w fun x w' => x = .returned (.bool true) ∧ Below w.heap.size w w' := by
  have HV := Lib.hid (fun W h => valid_any hv W h)
  have HK := Lib.hid (fun W h => law_kind_true hv hs hR hp hk n hP W h)
  have HF := Lib.hid (fun W h => law_face_false hv hs hR hp hk n hQ W h)
  have HZ := Lib.hid (fun W h => law_size hv hs hR hp hk W h)
  have HB := Lib.hid hb0
  have HP := Lib.hid hP
  have HQ := Lib.hid hQ
  clear hv hs hR hp hb0 hP hQ
  obtain ⟨W1, hW1, hb1, hz1, hx1⟩ := boxes1 w (.int .i64 k) (.int .i64 m) (.int .u64 b) (.string t) (.slice a l cap)
  have hz := Lib.hid hz1
  clear hz1
  obtain ⟨p0, p1, p2, p3, p4⟩ := hx1.cells
  go_enter Try.func4, Try.ntmps4
  go_upto_region 1 with fail
  rw [← hW1]
  clear hW1
  go_wp2_with fail
  refine (HV.out _ (HB.out.trans (hb1.mono HB.out.size))).mono ?_
  rintro e w2 ⟨r, rfl, -, hb2⟩
  have hbw2 := hb1.trans (hb2.mono hb1.size)
  have hx2 := hx1.row.later hb2
  clear p0 p1 p2 p3 p4
  cases r
  · go_wp2_with (go_at_call 7; refine (awake_any _).mono ?_; rintro e w3 ⟨rfl, hb3⟩)
    go_ret
    exact ⟨rfl, hbw2.trans (hb3.mono hbw2.size)⟩
  · have p0 : w2.cell? ⟨w.heap.size, 0, none⟩ = some (.int .i64 k) := hx2.cell 0 rfl
    have p1 : w2.cell? ⟨w.heap.size, 1, none⟩ = some (.int .i64 m) := hx2.cell 1 rfl
    have p2 : w2.cell? ⟨w.heap.size, 2, none⟩ = some (.int .u64 b) := hx2.cell 2 rfl
    have p3 : w2.cell? ⟨w.heap.size, 3, none⟩ = some (.string t) := hx2.cell 3 rfl
    have p4 : w2.cell? ⟨w.heap.size, 4, none⟩ = some (.slice a l cap) := hx2.cell 4 rfl
    dsimp only
    go_wp2_with fail
    refine (HK.out _ (HB.out.trans (hbw2.mono HB.out.size))).mono ?_
    rintro e w3 ⟨v3, rfl, ⟨c6, pn6, k6, m6, b6, t6, a6, l6, cap6, rfl⟩, hb3⟩
    have hbw3 := hbw2.trans (hb3.mono hbw2.size)
    have hx3 := hx2.later hb3
    clear p0 p1 p2 p3 p4
    obtain ⟨Wa, hWa⟩ : ∃ Wa, Wa = w3.alloc (.cells #[.int .i64 0, .int .i64 c6, .int .i64 0, .int .i64 pn6, .bool true, .int .i64 k6, .int .i64 m6, .int .u64 b6, .string t6, .slice a6 l6 cap6] 35) := ⟨_, rfl⟩
    have hba : Below w3.heap.size w3 Wa := by rw [hWa]; exact (Below.refl _ _).alloc (Nat.le_refl _) _
    have hbwa := hbw3.trans (hba.mono hbw3.size)
    have hxa := hx3.later hba
    have hya : Row Wa w3.heap.size #[.int .i64 0, .int .i64 c6, .int .i64 0, .int .i64 pn6, .bool true, .int .i64 k6, .int .i64 m6, .int .u64 b6, .string t6, .slice a6 l6 cap6] 35 := by rw [hWa]; exact Row.new _ _ _
    have p0 : Wa.cell? ⟨w.heap.size, 0, none⟩ = some (.int .i64 k) := hxa.cell 0 rfl
    have p1 : Wa.cell? ⟨w.heap.size, 1, none⟩ = some (.int .i64 m) := hxa.cell 1 rfl
    have p2 : Wa.cell? ⟨w.heap.size, 2, none⟩ = some (.int .u64 b) := hxa.cell 2 rfl
    have p3 : Wa.cell? ⟨w.heap.size, 3, none⟩ = some (.string t) := hxa.cell 3 rfl
    have p4 : Wa.cell? ⟨w.heap.size, 4, none⟩ = some (.slice a l cap) := hxa.cell 4 rfl
    dsimp only
    go_upto_region 4 with fail
    rw [← hWa]
    clear hWa
    go_wp2_with fail
    refine (HF.out _ (HB.out.trans (hbwa.mono HB.out.size))).mono ?_
    rintro e w4 ⟨v4, rfl, ⟨c7, pn7, k7, m7, b7, t7, a7, l7, cap7, rfl⟩, hb4⟩
    have hbw4 := hbwa.trans (hb4.mono hbwa.size)
    have hx4 := hxa.later hb4
    have hy4 := hya.later hb4
    clear p0 p1 p2 p3 p4
    obtain ⟨Wb, hWb⟩ : ∃ Wb, Wb = w4.alloc (.cells #[.int .i64 110, .int .i64 c7, .int .i64 2, .int .i64 pn7, .bool false, .int .i64 k7, .int .i64 m7, .int .u64 b7, .string t7, .slice a7 l7 cap7] 35) := ⟨_, rfl⟩
    have hbb : Below w4.heap.size w4 Wb := by rw [hWb]; exact (Below.refl _ _).alloc (Nat.le_refl _) _
    have hbwb := hbw4.trans (hbb.mono hbw4.size)
    have hxb := hx4.later hbb
    have hyb := hy4.later hbb
    have hzb : Row Wb w4.heap.size #[.int .i64 110, .int .i64 c7, .int .i64 2, .int .i64 pn7, .bool false, .int .i64 k7, .int .i64 m7, .int .u64 b7, .string t7, .slice a7 l7 cap7] 35 := by rw [hWb]; exact Row.new _ _ _
    have p0 : Wb.cell? ⟨w.heap.size, 0, none⟩ = some (.int .i64 k) := hxb.cell 0 rfl
    have p1 : Wb.cell? ⟨w.heap.size, 1, none⟩ = some (.int .i64 m) := hxb.cell 1 rfl
    have p2 : Wb.cell? ⟨w.heap.size, 2, none⟩ = some (.int .u64 b) := hxb.cell 2 rfl
    have p3 : Wb.cell? ⟨w.heap.size, 3, none⟩ = some (.string t) := hxb.cell 3 rfl
    have p4 : Wb.cell? ⟨w.heap.size, 4, none⟩ = some (.slice a l cap) := hxb.cell 4 rfl
    dsimp only
    go_upto_region 5 with fail
    rw [← hWb]
    clear hWb
    go_cut [7] from 10 (fun s7 wc => s7 = .bool true ∧ Below Wb.heap.size Wb wc)
    case first =>
      by_cases hn : 1 ≤ n ∧ n < 14
      · obtain ⟨n, rfl⟩ : ∃ n' : Nat, n = n' := ⟨n.toNat, by omega⟩
        have HM := Lib.hid (fun W => match_kind n k (by omega) hk (.int .i64 m) (.int .u64 b) (.string t) (.slice a l cap) W)
        rw [HP.out] at HM
        have g1 : decide ((0 : Int) < n) = true := by simp; omega
        have g2 : decide ((n : Int) < 14) = true := by simp; omega
        have g3 : 0 < n := by omega
        go_wp2_with (go_at_call 14; refine (HM.out _).mono ?_; rintro e w5 ⟨rfl, hb5⟩)
        go_meet
        case rel => exact ⟨rfl, hb5⟩
      · have hno := isB_out hk hn
        rw [HP.out] at hno
        cases hno
    case rest =>
      obtain ⟨rfl, hbc⟩ := hcut
      have hbwc := hbwb.trans (hbc.mono hbwb.size)
      have hxc := hxb.later hbc
      have hyc := hyb.later hbc
      have hzc := hzb.later hbc
      clear p0 p1 p2 p3 p4
      have p0 : wc.cell? ⟨w.heap.size, 0, none⟩ = some (.int .i64 k) := hxc.cell 0 rfl
      have p1 : wc.cell? ⟨w.heap.size, 1, none⟩ = some (.int .i64 m) := hxc.cell 1 rfl
      have p2 : wc.cell? ⟨w.heap.size, 2, none⟩ = some (.int .u64 b) := hxc.cell 2 rfl
      have p3 : wc.cell? ⟨w.heap.size, 3, none⟩ = some (.string t) := hxc.cell 3 rfl
      have p4 : wc.cell? ⟨w.heap.size, 4, none⟩ = some (.slice a l cap) := hxc.cell 4 rfl
      go_upto_region 6 with fail
      obtain ⟨Wc, rfl⟩ : ∃ Wc : World, Wc = wc := ⟨_, rfl⟩
      go_cut [8] from 10 (fun s8 wc => s8 = .bool false ∧ Below Wc.heap.size Wc wc)
      case first =>
        by_cases hn : 0 ≤ n ∧ n < 10
        · obtain ⟨n, rfl⟩ : ∃ n' : Nat, n = n' := ⟨n.toNat, by omega⟩
          have HM := Lib.hid (fun W => match_face n k (by omega) hk (.int .i64 m) (.int .u64 b) (.string t) (.slice a l cap) W)
          rw [← hasFi_nat (by omega) k, HQ.out] at HM
          have g1 : decide ((0 : Int) ≤ n) = true := by simp
          have g2 : decide ((n : Int) < 10) = true := by simp; omega
          go_wp2_with (go_at_call 14; refine (HM.out _).mono ?_; rintro e w5 ⟨rfl, hb5⟩)
          go_meet
          case rel => exact ⟨rfl, hb5⟩
        · have hno := hasFi_out k n hn
          by_cases hn1 : n < 0
          · have g1 : decide ((0 : Int) ≤ n) = false := by simp; omega
            go_wp2_with fail
            go_meet
            case rel => exact ⟨rfl, Below.refl _ _⟩
          · have g1 : decide ((0 : Int) ≤ n) = true := by simp; omega
            have g2 : decide (n < 10) = false := by simp; omega
            go_wp2_with fail
            go_meet
            case rel => exact ⟨rfl, Below.refl _ _⟩
      case rest =>
        obtain ⟨rfl, hbd⟩ := hcut
        have hbwd := hbwc.trans (hbd.mono hbwc.size)
        have hxd := hxc.later hbd
        have hyd := hyc.later hbd
        have hzd := hzc.later hbd
        clear p0 p1 p2 p3 p4
        have p0 : wc.cell? ⟨w.heap.size, 0, none⟩ = some (.int .i64 k) := hxd.cell 0 rfl
        have p1 : wc.cell? ⟨w.heap.size, 1, none⟩ = some (.int .i64 m) := hxd.cell 1 rfl
        have p2 : wc.cell? ⟨w.heap.size, 2, none⟩ = some (.int .u64 b) := hxd.cell 2 rfl
        have p3 : wc.cell? ⟨w.heap.size, 3, none⟩ = some (.string t) := hxd.cell 3 rfl
        have p4 : wc.cell? ⟨w.heap.size, 4, none⟩ = some (.slice a l cap) := hxd.cell 4 rfl
        have q0 : wc.cell? ⟨w3.heap.size, 0, none⟩ = some (.int .i64 0) := hyd.cell 0 rfl
        have q2 : wc.cell? ⟨w3.heap.size, 2, none⟩ = some (.int .i64 0) := hyd.cell 2 rfl
        have q4 : wc.cell? ⟨w3.heap.size, 4, none⟩ = some (.bool true) := hyd.cell 4 rfl
        have r0 : wc.cell? ⟨w4.heap.size, 0, none⟩ = some (.int .i64 110) := hzd.cell 0 rfl
        have r2 : wc.cell? ⟨w4.heap.size, 2, none⟩ = some (.int .i64 2) := hzd.cell 2 rfl
        have r4 : wc.cell? ⟨w4.heap.size, 4, none⟩ = some (.bool false) := hzd.cell 4 rfl
        go_wp2_with fail
        refine (HZ.out _ (HB.out.trans (hbwd.mono HB.out.size))).mono ?_
        rintro e w6 ⟨v6, e6, hh, rfl, hor, ⟨k8, m8, b8, t8, a8, l8, cap8, rfl⟩, hb6⟩
        have hbw6 := hbwd.trans (hb6.mono hbwd.size)
        rcases hor with rfl | rfl
        all_goals
          dsimp only
          go_wp2_with (go_at_call 7; refine (awake_any _).mono ?_; rintro e w7 ⟨rfl, hb7⟩)
          go_ret
          exact ⟨rfl, (hbw6.alloc hbw6.size _).trans (hb7.mono (by have := hbw6.size; simp; omega))⟩
set_option maxRecDepth 100000 in
set_option maxHeartbeats 3200000 in
theorem asserts_false_true {w0 : World} {k : Nat} {m b : Int} {t : ByteArray} {a : Option Addr} {l cap : Nat} {d : D} (hv : Rep w0 (.agg #[.int .i64 k, .int .i64 m, .int .u64 b, .string t, .slice a l cap]) d) (hs : Slim d) (hR : Right d) (hp : d.parts ≤ 4096) (hk : k ≤ 13) (n : Int) (hP : isB k n = false) (hQ : hasFi k n = true) (w : World) (hb0 : Below w0.heap.size w0 w) :
    Calls Try.prog 4 #[.agg #[.int .i64 k, .int .i64 m, .int .u64 b, .string t, .slice a l cap], .int .i64 n] w fun x w' => x = .returned (.bool true) ∧ Below w.heap.size w w' := by
  have HV := Lib.hid (fun W h => valid_any hv W h)
  have HK := Lib.hid (fun W h => law_kind_false hv hs hR hp hk n hP W h)
  have HF := Lib.hid (fun W h => law_face_true hv hs hR hp hk n hQ W h)
  have HZ := Lib.hid (fun W h => law_size hv hs hR hp hk W h)
  have HB := Lib.hid hb0
  have HP := Lib.hid hP
  have HQ := Lib.hid hQ
  clear hv hs hR hp hb0 hP hQ
  obtain ⟨W1, hW1, hb1, hz1, hx1⟩ := boxes1 w (.int .i64 k) (.int .i64 m) (.int .u64 b) (.string t) (.slice a l cap)
  have hz := Lib.hid hz1
  clear hz1
  obtain ⟨p0, p1, p2, p3, p4⟩ := hx1.cells
  go_enter Try.func4, Try.ntmps4
  go_upto_region 1 with fail
  rw [← hW1]
  clear hW1
  go_wp2_with fail
  refine (HV.out _ (HB.out.trans (hb1.mono HB.out.size))).mono ?_
  rintro e w2 ⟨r, rfl, -, hb2⟩
  have hbw2 := hb1.trans (hb2.mono hb1.size)
  have hx2 := hx1.row.later hb2
  clear p0 p1 p2 p3 p4
  cases r
  · go_wp2_with (go_at_call 7; refine (awake_any _).mono ?_; rintro e w3 ⟨rfl, hb3⟩)
    go_ret
    exact ⟨rfl, hbw2.trans (hb3.mono hbw2.size)⟩
  · have p0 : w2.cell? ⟨w.heap.size, 0, none⟩ = some (.int .i64 k) := hx2.cell 0 rfl
    have p1 : w2.cell? ⟨w.heap.size, 1, none⟩ = some (.int .i64 m) := hx2.cell 1 rfl
    have p2 : w2.cell? ⟨w.heap.size, 2, none⟩ = some (.int .u64 b) := hx2.cell 2 rfl
    have p3 : w2.cell? ⟨w.heap.size, 3, none⟩ = some (.string t) := hx2.cell 3 rfl
    have p4 : w2.cell? ⟨w.heap.size, 4, none⟩ = some (.slice a l cap) := hx2.cell 4 rfl
    dsimp only
    go_wp2_with fail
    refine (HK.out _ (HB.out.trans (hbw2.mono HB.out.size))).mono ?_
    rintro e w3 ⟨v3, rfl, ⟨c6, pn6, k6, m6, b6, t6, a6, l6, cap6, rfl⟩, hb3⟩
    have hbw3 := hbw2.trans (hb3.mono hbw2.size)
    have hx3 := hx2.later hb3
    clear p0 p1 p2 p3 p4
    obtain ⟨Wa, hWa⟩ : ∃ Wa, Wa = w3.alloc (.cells #[.int .i64 110, .int .i64 c6, .int .i64 2, .int .i64 pn6, .bool false, .int .i64 k6, .int .i64 m6, .int .u64 b6, .string t6, .slice a6 l6 cap6] 35) := ⟨_, rfl⟩
    have hba : Below w3.heap.size w3 Wa := by rw [hWa]; exact (Below.refl _ _).alloc (Nat.le_refl _) _
    have hbwa := hbw3.trans (hba.mono hbw3.size)
    have hxa := hx3.later hba
    have hya : Row Wa w3.heap.size #[.int .i64 110, .int .i64 c6, .int .i64 2, .int .i64 pn6, .bool false, .int .i64 k6, .int .i64 m6, .int .u64 b6, .string t6, .slice a6 l6 cap6] 35 := by rw [hWa]; exact Row.new _ _ _
    have p0 : Wa.cell? ⟨w.heap.size, 0, none⟩ = some (.int .i64 k) := hxa.cell 0 rfl
    have p1 : Wa.cell? ⟨w.heap.size, 1, none⟩ = some (.int .i64 m) := hxa.cell 1 rfl
    have p2 : Wa.cell? ⟨w.heap.size, 2, none⟩ = some (.int .u64 b) := hxa.cell 2 rfl
    have p3 : Wa.cell? ⟨w.heap.size, 3, none⟩ = some (.string t) := hxa.cell 3 rfl
    have p4 : Wa.cell? ⟨w.heap.size, 4, none⟩ = some (.slice a l cap) := hxa.cell 4 rfl
    dsimp only
    go_upto_region 4 with fail
    rw [← hWa]
    clear hWa
    go_wp2_with fail
    refine (HF.out _ (HB.out.trans (hbwa.mono HB.out.size))).mono ?_
    rintro e w4 ⟨v4, rfl, ⟨c7, pn7, k7, m7, b7, t7, a7, l7, cap7, rfl⟩, hb4⟩
    have hbw4 := hbwa.trans (hb4.mono hbwa.size)
    have hx4 := hxa.later hb4
    have hy4 := hya.later hb4
    clear p0 p1 p2 p3 p4
    obtain ⟨Wb, hWb⟩ : ∃ Wb, Wb = w4.alloc (.cells #[.int .i64 0, .int .i64 c7, .int .i64 0, .int .i64 pn7, .bool true, .int .i64 k7, .int .i64 m7, .int .u64 b7, .string t7, .slice a7 l7 cap7] 35) := ⟨_, rfl⟩
    have hbb : Below w4.heap.size w4 Wb := by rw [hWb]; exact (Below.refl _ _).alloc (Nat.le_refl _) _
    have hbwb := hbw4.trans (hbb.mono hbw4.size)
    have hxb := hx4.later hbb
    have hyb := hy4.later hbb
    have hzb : Row Wb w4.heap.size #[.int .i64 0, .int .i64 c7, .int .i64 0, .int .i64 pn7, .bool true, .int .i64 k7, .int .i64 m7, .int .u64 b7, .string t7, .slice a7 l7 cap7] 35 := by rw [hWb]; exact Row.new _ _ _
    have p0 : Wb.cell? ⟨w.heap.size, 0, none⟩ = some (.int .i64 k) := hxb.cell 0 rfl
    have p1 : Wb.cell? ⟨w.heap.size, 1, none⟩ = some (.int .i64 m) := hxb.cell 1 rfl
    have p2 : Wb.cell? ⟨w.heap.size, 2, none⟩ = some (.int .u64 b) := hxb.cell 2 rfl
    have p3 : Wb.cell? ⟨w.heap.size, 3, none⟩ = some (.string t) := hxb.cell 3 rfl
    have p4 : Wb.cell? ⟨w.heap.size, 4, none⟩ = some (.slice a l cap) := hxb.cell 4 rfl
    dsimp only
    go_upto_region 5 with fail
    rw [← hWb]
    clear hWb
    go_cut [7] from 10 (fun s7 wc => s7 = .bool false ∧ Below Wb.heap.size Wb wc)
    case first =>
      by_cases hn : 1 ≤ n ∧ n < 14
      · obtain ⟨n, rfl⟩ : ∃ n' : Nat, n = n' := ⟨n.toNat, by omega⟩
        have HM := Lib.hid (fun W => match_kind n k (by omega) hk (.int .i64 m) (.int .u64 b) (.string t) (.slice a l cap) W)
        rw [HP.out] at HM
        have g1 : decide ((0 : Int) < n) = true := by simp; omega
        have g2 : decide ((n : Int) < 14) = true := by simp; omega
        have g3 : 0 < n := by omega
        go_wp2_with (go_at_call 14; refine (HM.out _).mono ?_; rintro e w5 ⟨rfl, hb5⟩)
        go_meet
        case rel => exact ⟨rfl, hb5⟩
      · have hno := isB_out hk hn
        by_cases hn1 : n < 1
        · have g1 : decide ((0 : Int) < n) = false := by simp; omega
          go_wp2_with fail
          go_meet
          case rel => exact ⟨rfl, Below.refl _ _⟩
        · have g1 : decide ((0 : Int) < n) = true := by simp; omega
          have g2 : decide (n < 14) = false := by simp; omega
          go_wp2_with fail
          go_meet
          case rel => exact ⟨rfl, Below.refl _ _⟩
    case rest =>
      obtain ⟨rfl, hbc⟩ := hcut
      have hbwc := hbwb.trans (hbc.mono hbwb.size)
      have hxc := hxb.later hbc
      have hyc := hyb.later hbc
      have hzc := hzb.later hbc
      clear p0 p1 p2 p3 p4
      have p0 : wc.cell? ⟨w.heap.size, 0, none⟩ = some (.int .i64 k) := hxc.cell 0 rfl
      have p1 : wc.cell? ⟨w.heap.size, 1, none⟩ = some (.int .i64 m) := hxc.cell 1 rfl
      have p2 : wc.cell? ⟨w.heap.size, 2, none⟩ = some (.int .u64 b) := hxc.cell 2 rfl
      have p3 : wc.cell? ⟨w.heap.size, 3, none⟩ = some (.string t) := hxc.cell 3 rfl
      have p4 : wc.cell? ⟨w.heap.size, 4, none⟩ = some (.slice a l cap) := hxc.cell 4 rfl
      go_upto_region 6 with fail
      obtain ⟨Wc, rfl⟩ : ∃ Wc : World, Wc = wc := ⟨_, rfl⟩
      go_cut [8] from 10 (fun s8 wc => s8 = .bool true ∧ Below Wc.heap.size Wc wc)
      case first =>
        by_cases hn : 0 ≤ n ∧ n < 10
        · obtain ⟨n, rfl⟩ : ∃ n' : Nat, n = n' := ⟨n.toNat, by omega⟩
          have HM := Lib.hid (fun W => match_face n k (by omega) hk (.int .i64 m) (.int .u64 b) (.string t) (.slice a l cap) W)
          rw [← hasFi_nat (by omega) k, HQ.out] at HM
          have g1 : decide ((0 : Int) ≤ n) = true := by simp
          have g2 : decide ((n : Int) < 10) = true := by simp; omega
          go_wp2_with (go_at_call 14; refine (HM.out _).mono ?_; rintro e w5 ⟨rfl, hb5⟩)
          go_meet
          case rel => exact ⟨rfl, hb5⟩
        · have hno := hasFi_out k n hn
          rw [HQ.out] at hno
          cases hno
      case rest =>
        obtain ⟨rfl, hbd⟩ := hcut
        have hbwd := hbwc.trans (hbd.mono hbwc.size)
        have hxd := hxc.later hbd
        have hyd := hyc.later hbd
        have hzd := hzc.later hbd
        clear p0 p1 p2 p3 p4
        have p0 : wc.cell? ⟨w.heap.size, 0, none⟩ = some (.int .i64 k) := hxd.cell 0 rfl
        have p1 : wc.cell? ⟨w.heap.size, 1, none⟩ = some (.int .i64 m) := hxd.cell 1 rfl
        have p2 : wc.cell? ⟨w.heap.size, 2, none⟩ = some (.int .u64 b) := hxd.cell 2 rfl
        have p3 : wc.cell? ⟨w.heap.size, 3, none⟩ = some (.string t) := hxd.cell 3 rfl
        have p4 : wc.cell? ⟨w.heap.size, 4, none⟩ = some (.slice a l cap) := hxd.cell 4 rfl
        have q0 : wc.cell? ⟨w3.heap.size, 0, none⟩ = some (.int .i64 110) := hyd.cell 0 rfl
        have q2 : wc.cell? ⟨w3.heap.size, 2, none⟩ = some (.int .i64 2) := hyd.cell 2 rfl
        have q4 : wc.cell? ⟨w3.heap.size, 4, none⟩ = some (.bool false) := hyd.cell 4 rfl
        have r0 : wc.cell? ⟨w4.heap.size, 0, none⟩ = some (.int .i64 0) := hzd.cell 0 rfl
        have r2 : wc.cell? ⟨w4.heap.size, 2, none⟩ = some (.int .i64 0) := hzd.cell 2 rfl
        have r4 : wc.cell? ⟨w4.heap.size, 4, none⟩ = some (.bool true) := hzd.cell 4 rfl
        go_wp2_with fail
        refine (HZ.out _ (HB.out.trans (hbwd.mono HB.out.size))).mono ?_
        rintro e w6 ⟨v6, e6, hh, rfl, hor, ⟨k8, m8, b8, t8, a8, l8, cap8, rfl⟩, hb6⟩
        have hbw6 := hbwd.trans (hb6.mono hbwd.size)
        rcases hor with rfl | rfl
        all_goals
          dsimp only
          go_wp2_with (go_at_call 7; refine (awake_any _).mono ?_; rintro e w7 ⟨rfl, hb7⟩)
          go_ret
          exact ⟨rfl, (hbw6.alloc hbw6.size _).trans (hb7.mono (by have := hbw6.size; simp; omega))⟩
set_option maxRecDepth 100000 in
set_option maxHeartbeats 3200000 in
theorem asserts_false_false {w0 : World} {k : Nat} {m b : Int} {t : ByteArray} {a : Option Addr} {l cap : Nat} {d : D} (hv : Rep w0 (.agg #[.int .i64 k, .int .i64 m, .int .u64 b, .string t, .slice a l cap]) d) (hs : Slim d) (hR : Right d) (hp : d.parts ≤ 4096) (hk : k ≤ 13) (n : Int) (hP : isB k n = false) (hQ : hasFi k n = false) (w : World) (hb0 : Below w0.heap.size w0 w) :
    Calls Try.prog 4 #[.agg #[.int .i64 k, .int .i64 m, .int .u64 b, .string t, .slice a l cap], .int .i64 n] w fun x w' => x = .returned (.bool true) ∧ Below w.heap.size w w' := by
  have HV := Lib.hid (fun W h => valid_any hv W h)
  have HK := Lib.hid (fun W h => law_kind_false hv hs hR hp hk n hP W h)
  have HF := Lib.hid (fun W h => law_face_false hv hs hR hp hk n hQ W h)
  have HZ := Lib.hid (fun W h => law_size hv hs hR hp hk W h)
  have HB := Lib.hid hb0
  have HP := Lib.hid hP
  have HQ := Lib.hid hQ
  clear hv hs hR hp hb0 hP hQ
  obtain ⟨W1, hW1, hb1, hz1, hx1⟩ := boxes1 w (.int .i64 k) (.int .i64 m) (.int .u64 b) (.string t) (.slice a l cap)
  have hz := Lib.hid hz1
  clear hz1
  obtain ⟨p0, p1, p2, p3, p4⟩ := hx1.cells
  go_enter Try.func4, Try.ntmps4
  go_upto_region 1 with fail
  rw [← hW1]
  clear hW1
  go_wp2_with fail
  refine (HV.out _ (HB.out.trans (hb1.mono HB.out.size))).mono ?_
  rintro e w2 ⟨r, rfl, -, hb2⟩
  have hbw2 := hb1.trans (hb2.mono hb1.size)
  have hx2 := hx1.row.later hb2
  clear p0 p1 p2 p3 p4
  cases r
  · go_wp2_with (go_at_call 7; refine (awake_any _).mono ?_; rintro e w3 ⟨rfl, hb3⟩)
    go_ret
    exact ⟨rfl, hbw2.trans (hb3.mono hbw2.size)⟩
  · have p0 : w2.cell? ⟨w.heap.size, 0, none⟩ = some (.int .i64 k) := hx2.cell 0 rfl
    have p1 : w2.cell? ⟨w.heap.size, 1, none⟩ = some (.int .i64 m) := hx2.cell 1 rfl
    have p2 : w2.cell? ⟨w.heap.size, 2, none⟩ = some (.int .u64 b) := hx2.cell 2 rfl
    have p3 : w2.cell? ⟨w.heap.size, 3, none⟩ = some (.string t) := hx2.cell 3 rfl
    have p4 : w2.cell? ⟨w.heap.size, 4, none⟩ = some (.slice a l cap) := hx2.cell 4 rfl
    dsimp only
    go_wp2_with fail
    refine (HK.out _ (HB.out.trans (hbw2.mono HB.out.size))).mono ?_
    rintro e w3 ⟨v3, rfl, ⟨c6, pn6, k6, m6, b6, t6, a6, l6, cap6, rfl⟩, hb3⟩
    have hbw3 := hbw2.trans (hb3.mono hbw2.size)
    have hx3 := hx2.later hb3
    clear p0 p1 p2 p3 p4
    obtain ⟨Wa, hWa⟩ : ∃ Wa, Wa = w3.alloc (.cells #[.int .i64 110, .int .i64 c6, .int .i64 2, .int .i64 pn6, .bool false, .int .i64 k6, .int .i64 m6, .int .u64 b6, .string t6, .slice a6 l6 cap6] 35) := ⟨_, rfl⟩
    have hba : Below w3.heap.size w3 Wa := by rw [hWa]; exact (Below.refl _ _).alloc (Nat.le_refl _) _
    have hbwa := hbw3.trans (hba.mono hbw3.size)
    have hxa := hx3.later hba
    have hya : Row Wa w3.heap.size #[.int .i64 110, .int .i64 c6, .int .i64 2, .int .i64 pn6, .bool false, .int .i64 k6, .int .i64 m6, .int .u64 b6, .string t6, .slice a6 l6 cap6] 35 := by rw [hWa]; exact Row.new _ _ _
    have p0 : Wa.cell? ⟨w.heap.size, 0, none⟩ = some (.int .i64 k) := hxa.cell 0 rfl
    have p1 : Wa.cell? ⟨w.heap.size, 1, none⟩ = some (.int .i64 m) := hxa.cell 1 rfl
    have p2 : Wa.cell? ⟨w.heap.size, 2, none⟩ = some (.int .u64 b) := hxa.cell 2 rfl
    have p3 : Wa.cell? ⟨w.heap.size, 3, none⟩ = some (.string t) := hxa.cell 3 rfl
    have p4 : Wa.cell? ⟨w.heap.size, 4, none⟩ = some (.slice a l cap) := hxa.cell 4 rfl
    dsimp only
    go_upto_region 4 with fail
    rw [← hWa]
    clear hWa
    go_wp2_with fail
    refine (HF.out _ (HB.out.trans (hbwa.mono HB.out.size))).mono ?_
    rintro e w4 ⟨v4, rfl, ⟨c7, pn7, k7, m7, b7, t7, a7, l7, cap7, rfl⟩, hb4⟩
    have hbw4 := hbwa.trans (hb4.mono hbwa.size)
    have hx4 := hxa.later hb4
    have hy4 := hya.later hb4
    clear p0 p1 p2 p3 p4
    obtain ⟨Wb, hWb⟩ : ∃ Wb, Wb = w4.alloc (.cells #[.int .i64 110, .int .i64 c7, .int .i64 2, .int .i64 pn7, .bool false, .int .i64 k7, .int .i64 m7, .int .u64 b7, .string t7, .slice a7 l7 cap7] 35) := ⟨_, rfl⟩
    have hbb : Below w4.heap.size w4 Wb := by rw [hWb]; exact (Below.refl _ _).alloc (Nat.le_refl _) _
    have hbwb := hbw4.trans (hbb.mono hbw4.size)
    have hxb := hx4.later hbb
    have hyb := hy4.later hbb
    have hzb : Row Wb w4.heap.size #[.int .i64 110, .int .i64 c7, .int .i64 2, .int .i64 pn7, .bool false, .int .i64 k7, .int .i64 m7, .int .u64 b7, .string t7, .slice a7 l7 cap7] 35 := by rw [hWb]; exact Row.new _ _ _
    have p0 : Wb.cell? ⟨w.heap.size, 0, none⟩ = some (.int .i64 k) := hxb.cell 0 rfl
    have p1 : Wb.cell? ⟨w.heap.size, 1, none⟩ = some (.int .i64 m) := hxb.cell 1 rfl
    have p2 : Wb.cell? ⟨w.heap.size, 2, none⟩ = some (.int .u64 b) := hxb.cell 2 rfl
    have p3 : Wb.cell? ⟨w.heap.size, 3, none⟩ = some (.string t) := hxb.cell 3 rfl
    have p4 : Wb.cell? ⟨w.heap.size, 4, none⟩ = some (.slice a l cap) := hxb.cell 4 rfl
    dsimp only
    go_upto_region 5 with fail
    rw [← hWb]
    clear hWb
    go_cut [7] from 10 (fun s7 wc => s7 = .bool false ∧ Below Wb.heap.size Wb wc)
    case first =>
      by_cases hn : 1 ≤ n ∧ n < 14
      · obtain ⟨n, rfl⟩ : ∃ n' : Nat, n = n' := ⟨n.toNat, by omega⟩
        have HM := Lib.hid (fun W => match_kind n k (by omega) hk (.int .i64 m) (.int .u64 b) (.string t) (.slice a l cap) W)
        rw [HP.out] at HM
        have g1 : decide ((0 : Int) < n) = true := by simp; omega
        have g2 : decide ((n : Int) < 14) = true := by simp; omega
        have g3 : 0 < n := by omega
        go_wp2_with (go_at_call 14; refine (HM.out _).mono ?_; rintro e w5 ⟨rfl, hb5⟩)
        go_meet
        case rel => exact ⟨rfl, hb5⟩
      · have hno := isB_out hk hn
        by_cases hn1 : n < 1
        · have g1 : decide ((0 : Int) < n) = false := by simp; omega
          go_wp2_with fail
          go_meet
          case rel => exact ⟨rfl, Below.refl _ _⟩
        · have g1 : decide ((0 : Int) < n) = true := by simp; omega
          have g2 : decide (n < 14) = false := by simp; omega
          go_wp2_with fail
          go_meet
          case rel => exact ⟨rfl, Below.refl _ _⟩
    case rest =>
      obtain ⟨rfl, hbc⟩ := hcut
      have hbwc := hbwb.trans (hbc.mono hbwb.size)
      have hxc := hxb.later hbc
      have hyc := hyb.later hbc
      have hzc := hzb.later hbc
      clear p0 p1 p2 p3 p4
      have p0 : wc.cell? ⟨w.heap.size, 0, none⟩ = some (.int .i64 k) := hxc.cell 0 rfl
      have p1 : wc.cell? ⟨w.heap.size, 1, none⟩ = some (.int .i64 m) := hxc.cell 1 rfl
      have p2 : wc.cell? ⟨w.heap.size, 2, none⟩ = some (.int .u64 b) := hxc.cell 2 rfl
      have p3 : wc.cell? ⟨w.heap.size, 3, none⟩ = some (.string t) := hxc.cell 3 rfl
      have p4 : wc.cell? ⟨w.heap.size, 4, none⟩ = some (.slice a l cap) := hxc.cell 4 rfl
      go_upto_region 6 with fail
      obtain ⟨Wc, rfl⟩ : ∃ Wc : World, Wc = wc := ⟨_, rfl⟩
      go_cut [8] from 10 (fun s8 wc => s8 = .bool false ∧ Below Wc.heap.size Wc wc)
      case first =>
        by_cases hn : 0 ≤ n ∧ n < 10
        · obtain ⟨n, rfl⟩ : ∃ n' : Nat, n = n' := ⟨n.toNat, by omega⟩
          have HM := Lib.hid (fun W => match_face n k (by omega) hk (.int .i64 m) (.int .u64 b) (.string t) (.slice a l cap) W)
          rw [← hasFi_nat (by omega) k, HQ.out] at HM
          have g1 : decide ((0 : Int) ≤ n) = true := by simp
          have g2 : decide ((n : Int) < 10) = true := by simp; omega
          go_wp2_with (go_at_call 14; refine (HM.out _).mono ?_; rintro e w5 ⟨rfl, hb5⟩)
          go_meet
          case rel => exact ⟨rfl, hb5⟩
        · have hno := hasFi_out k n hn
          by_cases hn1 : n < 0
          · have g1 : decide ((0 : Int) ≤ n) = false := by simp; omega
            go_wp2_with fail
            go_meet
            case rel => exact ⟨rfl, Below.refl _ _⟩
          · have g1 : decide ((0 : Int) ≤ n) = true := by simp; omega
            have g2 : decide (n < 10) = false := by simp; omega
            go_wp2_with fail
            go_meet
            case rel => exact ⟨rfl, Below.refl _ _⟩
      case rest =>
        obtain ⟨rfl, hbd⟩ := hcut
        have hbwd := hbwc.trans (hbd.mono hbwc.size)
        have hxd := hxc.later hbd
        have hyd := hyc.later hbd
        have hzd := hzc.later hbd
        clear p0 p1 p2 p3 p4
        have p0 : wc.cell? ⟨w.heap.size, 0, none⟩ = some (.int .i64 k) := hxd.cell 0 rfl
        have p1 : wc.cell? ⟨w.heap.size, 1, none⟩ = some (.int .i64 m) := hxd.cell 1 rfl
        have p2 : wc.cell? ⟨w.heap.size, 2, none⟩ = some (.int .u64 b) := hxd.cell 2 rfl
        have p3 : wc.cell? ⟨w.heap.size, 3, none⟩ = some (.string t) := hxd.cell 3 rfl
        have p4 : wc.cell? ⟨w.heap.size, 4, none⟩ = some (.slice a l cap) := hxd.cell 4 rfl
        have q0 : wc.cell? ⟨w3.heap.size, 0, none⟩ = some (.int .i64 110) := hyd.cell 0 rfl
        have q2 : wc.cell? ⟨w3.heap.size, 2, none⟩ = some (.int .i64 2) := hyd.cell 2 rfl
        have q4 : wc.cell? ⟨w3.heap.size, 4, none⟩ = some (.bool false) := hyd.cell 4 rfl
        have r0 : wc.cell? ⟨w4.heap.size, 0, none⟩ = some (.int .i64 110) := hzd.cell 0 rfl
        have r2 : wc.cell? ⟨w4.heap.size, 2, none⟩ = some (.int .i64 2) := hzd.cell 2 rfl
        have r4 : wc.cell? ⟨w4.heap.size, 4, none⟩ = some (.bool false) := hzd.cell 4 rfl
        go_wp2_with fail
        refine (HZ.out _ (HB.out.trans (hbwd.mono HB.out.size))).mono ?_
        rintro e w6 ⟨v6, e6, hh, rfl, hor, ⟨k8, m8, b8, t8, a8, l8, cap8, rfl⟩, hb6⟩
        have hbw6 := hbwd.trans (hb6.mono hbwd.size)
        rcases hor with rfl | rfl
        all_goals
          dsimp only
          go_wp2_with (go_at_call 7; refine (awake_any _).mono ?_; rintro e w7 ⟨rfl, hb7⟩)
          go_ret
          exact ⟨rfl, (hbw6.alloc hbw6.size _).trans (hb7.mono (by have := hbw6.size; simp; omega))⟩
set_option maxRecDepth 100000 in
set_option maxHeartbeats 800000 in
theorem asserts_bad {w0 : World} {k m b : Int} {t : ByteArray} {a : Option Addr} {l cap : Nat} {d : D} (hv : Rep w0 (.agg #[.int .i64 k, .int .i64 m, .int .u64 b, .string t, .slice a l cap]) d) (hno : ¬ (Slim d ∧ Right d ∧ d.parts ≤ 4096)) (n : Int) (w : World) (hb0 : Below w0.heap.size w0 w) :
    Calls Try.prog 4 #[.agg #[.int .i64 k, .int .i64 m, .int .u64 b, .string t, .slice a l cap], .int .i64 n] w fun x w' => x = .returned (.bool true) ∧ Below w.heap.size w w' := by
  have HV := Lib.hid (fun W h => valid_any hv W h)
  have HB := Lib.hid hb0
  have HN := Lib.hid hno
  clear hv hno hb0
  obtain ⟨W1, hW1, hb1, hz1, hx1⟩ := boxes1 w (.int .i64 k) (.int .i64 m) (.int .u64 b) (.string t) (.slice a l cap)
  obtain ⟨p0, p1, p2, p3, p4⟩ := hx1.cells
  clear hz1
  go_enter Try.func4, Try.ntmps4
  go_upto_region 1 with fail
  rw [← hW1]
  clear hW1
  go_wp2_with fail
  refine (HV.out _ (HB.out.trans (hb1.mono HB.out.size))).mono ?_
  rintro e w2 ⟨r, rfl, hr, hb2⟩
  have hrf : r = false := by
    cases r
    · rfl
    · exact absurd (hr rfl) HN.out
  subst hrf
  have hbw2 := hb1.trans (hb2.mono hb1.size)
  clear p0 p1 p2 p3 p4 hr
  dsimp only
  go_wp2_with (go_at_call 7; refine (awake_any _).mono ?_; rintro e w3 ⟨rfl, hb3⟩)
  go_ret
  exact ⟨rfl, hbw2.trans (hb3.mono hbw2.size)⟩

theorem asserts_any {w : World} {v : Value} {d : D} (hv : Rep w v d) (n : Int) :
    Calls Try.prog 4 #[v, .int .i64 n] w fun x w' => x = .returned (.bool true) ∧ Below w.heap.size w w' := by
  obtain ⟨k, m, b, t, a, cap, g, o, c, kids, rfl, rfl, _⟩ := hv.inv
  by_cases hg : Slim (.mk k m b t kids) ∧ Right (.mk k m b t kids) ∧ (D.mk k m b t kids).parts ≤ 4096
  · obtain ⟨hs, hR, hp⟩ := hg
    have hk := hR.inv.1
    obtain ⟨j, rfl⟩ : ∃ j : Nat, k = j := ⟨k.toNat, by have := hk.1; omega⟩
    have hj : j ≤ 13 := by have := hk.2.1; omega
    cases hP : isB j n <;> cases hQ : hasFi j n
    · exact asserts_false_false hv hs hR hp hj n hP hQ w (Below.refl _ _)
    · exact asserts_false_true hv hs hR hp hj n hP hQ w (Below.refl _ _)
    · exact asserts_true_false hv hs hR hp hj n hP hQ w (Below.refl _ _)
    · exact asserts_true_true hv hs hR hp hj n hP hQ w (Below.refl _ _)
  · exact asserts_bad hv hg n w (Below.refl _ _)
end Go.Proofs.Yteplhhlgceppkab
