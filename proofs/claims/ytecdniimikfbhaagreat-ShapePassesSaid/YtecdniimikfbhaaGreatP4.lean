/- Shape: what is a fit pattern. -/
import Derived.Test.YtecdniimikfbhaaGreatP3
namespace Go.Proofs.YtecdniimikfbhaaGreat
open Go Go.RowKit Go.ChangeShapes Go.WideShapes

set_option maxRecDepth 100000 in
set_option maxHeartbeats 12800000 in
theorem plook_any {w0 : World} {v : Value} {t : WT} (h : WRep w0 v t) : ∀ (deep seen : Int) (w : World), Below w0.heap.size w0 w → 1 ≤ deep → deep ≤ 129 → 0 ≤ seen → seen ≤ 16385 →
    Calls Tryz.prog 20 #[v, .int .i64 deep, .int .i64 seen] w fun x w' => ∃ n : Int, x = .returned (.int .i64 n) ∧ (n = -1 ∨ 0 ≤ n ∧ n ≤ 16384 ∧ FitT t) ∧ Below w.heap.size w w' := by
  induction h with
  | mk op num a cap g o c kids ha hc hk ih =>
    intro deep seen w hb0 hd1 hd2 hs1 hs2
    have HA := Lib.hid ha
    have HC := Lib.hid hc
    have HK := Lib.hid hk
    have HI := Lib.hid ih
    clear ha hc hk ih
    obtain ⟨W1, hW1, hb1, hx1⟩ := want1_world w (.int .i64 op) (.int .i64 num) (.slice a kids.length cap)
    have h01 := hb0.trans (hb1.mono hb0.size)
    have p0 : W1.cell? ⟨w.heap.size, 0, none⟩ = some (.int .i64 op) := hx1.cell 0 rfl
    have p1 : W1.cell? ⟨w.heap.size, 1, none⟩ = some (.int .i64 num) := hx1.cell 1 rfl
    have p2 : W1.cell? ⟨w.heap.size, 2, none⟩ = some (.slice a kids.length cap) := hx1.cell 2 rfl
    go_enter Tryz.func20, Tryz.ntmps20
    go_upto_region 1 with fail
    rw [← hW1]
    clear hW1
    by_cases h1 : 128 < deep
    · have e1 : decide (128 < deep) = true := by simp [h1]
      go_wp2_with fail
      go_ret
      exact ⟨-1, rfl, Or.inl rfl, hb1⟩
    have e1 : decide (128 < deep) = false := by simp [h1]
    by_cases h2 : 16384 < seen
    · have e2 : decide (16384 < seen) = true := by simp [h2]
      go_wp2_with fail
      go_ret
      exact ⟨-1, rfl, Or.inl rfl, hb1⟩
    have e2 : decide (16384 < seen) = false := by simp [h2]
    by_cases hop1 : op = 1
    · subst hop1
      by_cases hm : num = 0
      · have e4 : (num != 0) = false := by simp [hm]
        by_cases hn : kids.length = 0
        · have e5 : ((kids.length : Int) != 0) = false := by simp [hn]
          go_wp2_with fail
          go_loopw [2, 8] (fun sv i wr => ∃ (j : Nat) (q : Int), j ≤ kids.length ∧ i = .int .i64 j ∧ sv = .int .i64 q ∧ 0 ≤ q ∧ q ≤ 16384 ∧ (∀ x ∈ kids.take j, FitT x) ∧ Below W1.heap.size W1 wr) (fun _ i _ => kids.length - (intOf i).toNat)
          case atStart => exact ⟨0, seen, Nat.zero_le _, rfl, rfl, hs1, by omega, (fun x hx => by simp at hx), Below.refl _ _⟩
          case round =>
            obtain ⟨j, q, hj, rfl, rfl, hq0, hq1, hfit, hbr⟩ := hrel
            have h0r := h01.trans (hbr.mono h01.size)
            have hxr := hx1.later hbr
            clear p0 p1 p2
            clear hfit
            by_cases hlt : j < kids.length
            · omega
            · obtain rfl : j = kids.length := by omega
              have p2 : wr.cell? ⟨w.heap.size, 2, none⟩ = some (.slice a kids.length cap) := hxr.cell 2 rfl
              go_wp2_with fail
              go_ret
              exact ⟨q, rfl, Or.inr ⟨hq0, hq1, (by rw [hm, List.length_eq_zero_iff.1 hn]; exact FitT.any)⟩, hb1.trans (hbr.mono hb1.size)⟩
        · have e5 : ((kids.length : Int) != 0) = true := bne_iff_ne.2 (by omega)
          go_wp2_with fail
          go_ret
          exact ⟨-1, rfl, Or.inl rfl, hb1⟩
      · have e4 : (num != 0) = true := by simp [hm]
        go_wp2_with fail
        go_ret
        exact ⟨-1, rfl, Or.inl rfl, hb1⟩
    have z1 : (op == 1) = false := by simp; omega
    by_cases hop2 : op = 2
    · subst hop2
      by_cases hm : num < 0
      · have e4 : decide (num < 0) = true := by simp [hm]
        go_wp2_with fail
        go_ret
        exact ⟨-1, rfl, Or.inl rfl, hb1⟩
      · have e4 : decide (num < 0) = false := by simp [hm]
        by_cases hm2 : 14 ≤ num
        · have e5 : decide (14 ≤ num) = true := by simp [hm2]
          go_wp2_with fail
          go_ret
          exact ⟨-1, rfl, Or.inl rfl, hb1⟩
        · have e5 : decide (14 ≤ num) = false := by simp [hm2]
          obtain ⟨nn, rfl⟩ : ∃ n' : Nat, num = n' := ⟨num.toNat, by omega⟩
          by_cases hn : kids.length = 0
          · have e6 : ((kids.length : Int) != 0) = false := by simp [hn]
            go_wp2_with fail
            go_loopw [2, 8] (fun sv i wr => ∃ (j : Nat) (q : Int), j ≤ kids.length ∧ i = .int .i64 j ∧ sv = .int .i64 q ∧ 0 ≤ q ∧ q ≤ 16384 ∧ (∀ x ∈ kids.take j, FitT x) ∧ Below W1.heap.size W1 wr) (fun _ i _ => kids.length - (intOf i).toNat)
            case atStart => exact ⟨0, seen, Nat.zero_le _, rfl, rfl, hs1, by omega, (fun x hx => by simp at hx), Below.refl _ _⟩
            case round =>
              obtain ⟨j, q, hj, rfl, rfl, hq0, hq1, hfit, hbr⟩ := hrel
              have h0r := h01.trans (hbr.mono h01.size)
              have hxr := hx1.later hbr
              clear p0 p1 p2
              clear hfit
              by_cases hlt : j < kids.length
              · omega
              · obtain rfl : j = kids.length := by omega
                have p2 : wr.cell? ⟨w.heap.size, 2, none⟩ = some (.slice a kids.length cap) := hxr.cell 2 rfl
                go_wp2_with fail
                go_ret
                exact ⟨q, rfl, Or.inr ⟨hq0, hq1, (by rw [List.length_eq_zero_iff.1 hn]; exact FitT.kind nn (by omega))⟩, hb1.trans (hbr.mono hb1.size)⟩
          · have e6 : ((kids.length : Int) != 0) = true := bne_iff_ne.2 (by omega)
            go_wp2_with fail
            go_ret
            exact ⟨-1, rfl, Or.inl rfl, hb1⟩
    have z2 : (op == 2) = false := by simp; omega
    by_cases hop3 : op = 3
    · subst hop3
      by_cases hm : num < 0
      · have e4 : decide (num < 0) = true := by simp [hm]
        go_wp2_with fail
        go_ret
        exact ⟨-1, rfl, Or.inl rfl, hb1⟩
      · have e4 : decide (num < 0) = false := by simp [hm]
        by_cases hm2 : 10 ≤ num
        · have e5 : decide (10 ≤ num) = true := by simp [hm2]
          go_wp2_with fail
          go_ret
          exact ⟨-1, rfl, Or.inl rfl, hb1⟩
        · have e5 : decide (10 ≤ num) = false := by simp [hm2]
          obtain ⟨nn, rfl⟩ : ∃ n' : Nat, num = n' := ⟨num.toNat, by omega⟩
          by_cases hn : kids.length = 0
          · have e6 : ((kids.length : Int) != 0) = false := by simp [hn]
            go_wp2_with fail
            go_loopw [2, 8] (fun sv i wr => ∃ (j : Nat) (q : Int), j ≤ kids.length ∧ i = .int .i64 j ∧ sv = .int .i64 q ∧ 0 ≤ q ∧ q ≤ 16384 ∧ (∀ x ∈ kids.take j, FitT x) ∧ Below W1.heap.size W1 wr) (fun _ i _ => kids.length - (intOf i).toNat)
            case atStart => exact ⟨0, seen, Nat.zero_le _, rfl, rfl, hs1, by omega, (fun x hx => by simp at hx), Below.refl _ _⟩
            case round =>
              obtain ⟨j, q, hj, rfl, rfl, hq0, hq1, hfit, hbr⟩ := hrel
              have h0r := h01.trans (hbr.mono h01.size)
              have hxr := hx1.later hbr
              clear p0 p1 p2
              clear hfit
              by_cases hlt : j < kids.length
              · omega
              · obtain rfl : j = kids.length := by omega
                have p2 : wr.cell? ⟨w.heap.size, 2, none⟩ = some (.slice a kids.length cap) := hxr.cell 2 rfl
                go_wp2_with fail
                go_ret
                exact ⟨q, rfl, Or.inr ⟨hq0, hq1, (by rw [List.length_eq_zero_iff.1 hn]; exact FitT.face nn (by omega))⟩, hb1.trans (hbr.mono hb1.size)⟩
          · have e6 : ((kids.length : Int) != 0) = true := bne_iff_ne.2 (by omega)
            go_wp2_with fail
            go_ret
            exact ⟨-1, rfl, Or.inl rfl, hb1⟩
    have z3 : (op == 3) = false := by simp; omega
    by_cases hop4 : op = 4
    · subst hop4
      by_cases hm : num = 0
      · have e4 : (num != 0) = false := by simp [hm]
        by_cases hn : kids.length < 2
        · have e5 : decide ((kids.length : Int) < 2) = true := by simp; omega
          go_wp2_with fail
          go_ret
          exact ⟨-1, rfl, Or.inl rfl, hb1⟩
        · have e5 : decide ((kids.length : Int) < 2) = false := by simp; omega
          go_wp2_with fail
          go_loopw [2, 8] (fun sv i wr => ∃ (j : Nat) (q : Int), j ≤ kids.length ∧ i = .int .i64 j ∧ sv = .int .i64 q ∧ 0 ≤ q ∧ q ≤ 16384 ∧ (∀ x ∈ kids.take j, FitT x) ∧ Below W1.heap.size W1 wr) (fun _ i _ => kids.length - (intOf i).toNat)
          case atStart => exact ⟨0, seen, Nat.zero_le _, rfl, rfl, hs1, by omega, (fun x hx => by simp at hx), Below.refl _ _⟩
          case round =>
            obtain ⟨j, q, hj, rfl, rfl, hq0, hq1, hfit, hbr⟩ := hrel
            have h0r := h01.trans (hbr.mono h01.size)
            have hxr := hx1.later hbr
            clear p0 p1 p2
            have HFit := Lib.hid hfit
            clear hfit
            by_cases hlt : j < kids.length
            · obtain ⟨rfl, hg, hcp, hcm⟩ := HA.out (by omega)
              have p2 : wr.cell? ⟨w.heap.size, 2, none⟩ = some (.slice (some ⟨g, o, none⟩) kids.length cap) := hxr.cell 2 rfl
              have hx : kids[j]? = some kids[j] := List.getElem?_eq_getElem hlt
              have HTK := Lib.hid (show kids.take (j + 1) = kids.take j ++ [kids[j]] by rw [List.take_add_one, hx]; rfl)
              have hwr := HK.out j _ hx
              have HX := Lib.hid (HI.out j _ hx (deep + 1) (q + 1))
              obtain ⟨op', num', a', l', cap', e5⟩ := hwr.form
              obtain ⟨f0, f1, f2⟩ := three_inv e5
              obtain ⟨r0, r1, r2⟩ := (HC.out.below hg h0r) j hlt
              rw [f0] at r0
              rw [f1] at r1
              rw [f2] at r2
              rw [e5] at HX
              clear hwr e5 f0 f1 f2 hx
              generalize kids[j] = x at *
              go_wp2_with fail
              refine (HX.out _ h0r (by omega) (by omega) (by omega) (by omega)).mono ?_
              rintro e w2 ⟨n2, rfl, hor, hb2⟩
              have hbr2 := hbr.trans (hb2.mono hbr.size)
              rcases hor with rfl | ⟨hn0, hn1, hfx⟩
              · dsimp only
                go_wp2_with fail
                go_ret
                exact ⟨-1, rfl, Or.inl rfl, hb1.trans (hbr2.mono hb1.size)⟩
              · have e3 : decide (n2 < 0) = false := by simp; omega
                dsimp only
                go_wp2_with fail
                go_roundw
                case rel =>
                  refine ⟨j + 1, n2, by omega, by go_num, rfl, hn0, hn1, ?_, hbr2⟩
                  rw [HTK.out]
                  intro y hy
                  rcases List.mem_append.1 hy with h | h
                  · exact HFit.out y h
                  · rw [List.mem_singleton.1 h]; exact hfx
                case measure => simp [intOf]; omega
            · obtain rfl : j = kids.length := by omega
              have p2 : wr.cell? ⟨w.heap.size, 2, none⟩ = some (.slice a kids.length cap) := hxr.cell 2 rfl
              have hall : ∀ x ∈ kids, FitT x := by have := HFit.out; rw [List.take_length] at this; exact this
              go_wp2_with fail
              go_ret
              exact ⟨q, rfl, Or.inr ⟨hq0, hq1, (by rw [hm]; exact FitT.or kids (by omega) hall)⟩, hb1.trans (hbr.mono hb1.size)⟩
      · have e4 : (num != 0) = true := by simp [hm]
        go_wp2_with fail
        go_ret
        exact ⟨-1, rfl, Or.inl rfl, hb1⟩
    have z4 : (op == 4) = false := by simp; omega
    by_cases hop5 : op = 5
    · subst hop5
      by_cases hm : num = 0
      · have e4 : (num != 0) = false := by simp [hm]
        by_cases hn : kids.length < 2
        · have e5 : decide ((kids.length : Int) < 2) = true := by simp; omega
          go_wp2_with fail
          go_ret
          exact ⟨-1, rfl, Or.inl rfl, hb1⟩
        · have e5 : decide ((kids.length : Int) < 2) = false := by simp; omega
          go_wp2_with fail
          go_loopw [2, 8] (fun sv i wr => ∃ (j : Nat) (q : Int), j ≤ kids.length ∧ i = .int .i64 j ∧ sv = .int .i64 q ∧ 0 ≤ q ∧ q ≤ 16384 ∧ (∀ x ∈ kids.take j, FitT x) ∧ Below W1.heap.size W1 wr) (fun _ i _ => kids.length - (intOf i).toNat)
          case atStart => exact ⟨0, seen, Nat.zero_le _, rfl, rfl, hs1, by omega, (fun x hx => by simp at hx), Below.refl _ _⟩
          case round =>
            obtain ⟨j, q, hj, rfl, rfl, hq0, hq1, hfit, hbr⟩ := hrel
            have h0r := h01.trans (hbr.mono h01.size)
            have hxr := hx1.later hbr
            clear p0 p1 p2
            have HFit := Lib.hid hfit
            clear hfit
            by_cases hlt : j < kids.length
            · obtain ⟨rfl, hg, hcp, hcm⟩ := HA.out (by omega)
              have p2 : wr.cell? ⟨w.heap.size, 2, none⟩ = some (.slice (some ⟨g, o, none⟩) kids.length cap) := hxr.cell 2 rfl
              have hx : kids[j]? = some kids[j] := List.getElem?_eq_getElem hlt
              have HTK := Lib.hid (show kids.take (j + 1) = kids.take j ++ [kids[j]] by rw [List.take_add_one, hx]; rfl)
              have hwr := HK.out j _ hx
              have HX := Lib.hid (HI.out j _ hx (deep + 1) (q + 1))
              obtain ⟨op', num', a', l', cap', e5⟩ := hwr.form
              obtain ⟨f0, f1, f2⟩ := three_inv e5
              obtain ⟨r0, r1, r2⟩ := (HC.out.below hg h0r) j hlt
              rw [f0] at r0
              rw [f1] at r1
              rw [f2] at r2
              rw [e5] at HX
              clear hwr e5 f0 f1 f2 hx
              generalize kids[j] = x at *
              go_wp2_with fail
              refine (HX.out _ h0r (by omega) (by omega) (by omega) (by omega)).mono ?_
              rintro e w2 ⟨n2, rfl, hor, hb2⟩
              have hbr2 := hbr.trans (hb2.mono hbr.size)
              rcases hor with rfl | ⟨hn0, hn1, hfx⟩
              · dsimp only
                go_wp2_with fail
                go_ret
                exact ⟨-1, rfl, Or.inl rfl, hb1.trans (hbr2.mono hb1.size)⟩
              · have e3 : decide (n2 < 0) = false := by simp; omega
                dsimp only
                go_wp2_with fail
                go_roundw
                case rel =>
                  refine ⟨j + 1, n2, by omega, by go_num, rfl, hn0, hn1, ?_, hbr2⟩
                  rw [HTK.out]
                  intro y hy
                  rcases List.mem_append.1 hy with h | h
                  · exact HFit.out y h
                  · rw [List.mem_singleton.1 h]; exact hfx
                case measure => simp [intOf]; omega
            · obtain rfl : j = kids.length := by omega
              have p2 : wr.cell? ⟨w.heap.size, 2, none⟩ = some (.slice a kids.length cap) := hxr.cell 2 rfl
              have hall : ∀ x ∈ kids, FitT x := by have := HFit.out; rw [List.take_length] at this; exact this
              go_wp2_with fail
              go_ret
              exact ⟨q, rfl, Or.inr ⟨hq0, hq1, (by rw [hm]; exact FitT.and kids (by omega) hall)⟩, hb1.trans (hbr.mono hb1.size)⟩
      · have e4 : (num != 0) = true := by simp [hm]
        go_wp2_with fail
        go_ret
        exact ⟨-1, rfl, Or.inl rfl, hb1⟩
    have z5 : (op == 5) = false := by simp; omega
    by_cases hop6 : op = 6
    · subst hop6
      by_cases hm : num = 0
      · have e4 : (num != 0) = false := by simp [hm]
        by_cases hn : kids.length = 1
        · have e5 : ((kids.length : Int) != 1) = false := by simp [hn]
          go_wp2_with fail
          go_loopw [2, 8] (fun sv i wr => ∃ (j : Nat) (q : Int), j ≤ kids.length ∧ i = .int .i64 j ∧ sv = .int .i64 q ∧ 0 ≤ q ∧ q ≤ 16384 ∧ (∀ x ∈ kids.take j, FitT x) ∧ Below W1.heap.size W1 wr) (fun _ i _ => kids.length - (intOf i).toNat)
          case atStart => exact ⟨0, seen, Nat.zero_le _, rfl, rfl, hs1, by omega, (fun x hx => by simp at hx), Below.refl _ _⟩
          case round =>
            obtain ⟨j, q, hj, rfl, rfl, hq0, hq1, hfit, hbr⟩ := hrel
            have h0r := h01.trans (hbr.mono h01.size)
            have hxr := hx1.later hbr
            clear p0 p1 p2
            have HFit := Lib.hid hfit
            clear hfit
            by_cases hlt : j < kids.length
            · obtain ⟨rfl, hg, hcp, hcm⟩ := HA.out (by omega)
              have p2 : wr.cell? ⟨w.heap.size, 2, none⟩ = some (.slice (some ⟨g, o, none⟩) kids.length cap) := hxr.cell 2 rfl
              have hx : kids[j]? = some kids[j] := List.getElem?_eq_getElem hlt
              have HTK := Lib.hid (show kids.take (j + 1) = kids.take j ++ [kids[j]] by rw [List.take_add_one, hx]; rfl)
              have hwr := HK.out j _ hx
              have HX := Lib.hid (HI.out j _ hx (deep + 1) (q + 1))
              obtain ⟨op', num', a', l', cap', e5⟩ := hwr.form
              obtain ⟨f0, f1, f2⟩ := three_inv e5
              obtain ⟨r0, r1, r2⟩ := (HC.out.below hg h0r) j hlt
              rw [f0] at r0
              rw [f1] at r1
              rw [f2] at r2
              rw [e5] at HX
              clear hwr e5 f0 f1 f2 hx
              generalize kids[j] = x at *
              go_wp2_with fail
              refine (HX.out _ h0r (by omega) (by omega) (by omega) (by omega)).mono ?_
              rintro e w2 ⟨n2, rfl, hor, hb2⟩
              have hbr2 := hbr.trans (hb2.mono hbr.size)
              rcases hor with rfl | ⟨hn0, hn1, hfx⟩
              · dsimp only
                go_wp2_with fail
                go_ret
                exact ⟨-1, rfl, Or.inl rfl, hb1.trans (hbr2.mono hb1.size)⟩
              · have e3 : decide (n2 < 0) = false := by simp; omega
                dsimp only
                go_wp2_with fail
                go_roundw
                case rel =>
                  refine ⟨j + 1, n2, by omega, by go_num, rfl, hn0, hn1, ?_, hbr2⟩
                  rw [HTK.out]
                  intro y hy
                  rcases List.mem_append.1 hy with h | h
                  · exact HFit.out y h
                  · rw [List.mem_singleton.1 h]; exact hfx
                case measure => simp [intOf]; omega
            · obtain rfl : j = kids.length := by omega
              have p2 : wr.cell? ⟨w.heap.size, 2, none⟩ = some (.slice a kids.length cap) := hxr.cell 2 rfl
              have hall : ∀ x ∈ kids, FitT x := by have := HFit.out; rw [List.take_length] at this; exact this
              go_wp2_with fail
              go_ret
              exact ⟨q, rfl, Or.inr ⟨hq0, hq1, (by rw [hm]; obtain ⟨x, hx⟩ := List.length_eq_one_iff.1 hn; rw [hx] at hall ⊢; exact FitT.not x (hall x (by simp)))⟩, hb1.trans (hbr.mono hb1.size)⟩
        · have e5 : ((kids.length : Int) != 1) = true := bne_iff_ne.2 (by omega)
          go_wp2_with fail
          go_ret
          exact ⟨-1, rfl, Or.inl rfl, hb1⟩
      · have e4 : (num != 0) = true := by simp [hm]
        go_wp2_with fail
        go_ret
        exact ⟨-1, rfl, Or.inl rfl, hb1⟩
    have z6 : (op == 6) = false := by simp; omega
    go_wp2_with fail
    go_ret
    exact ⟨-1, rfl, Or.inl rfl, hb1⟩
end Go.Proofs.YtecdniimikfbhaaGreat
