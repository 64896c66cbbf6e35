/- Shape: the kinds of a fit pattern, by both. -/
import Derived.Test.YtecdniimikfbhaaGreatP2
namespace Go.Proofs.YtecdniimikfbhaaGreat
open Go Go.RowKit Go.ChangeShapes Go.WideShapes

set_option maxRecDepth 100000 in
set_option maxHeartbeats 3200000 in
theorem rk_or {w0 : World} {l : List WT} (hl : 2 ≤ l.length) {a : Option Addr} {cap g o : Nat} {c : Nat → Nat → Value} (ha : 0 < l.length → a = some ⟨g, o, none⟩ ∧ g < w0.heap.size ∧ l.length ≤ cap ∧ cap ≤ 9223372036854775807) (hc : Row3 w0 g o l.length c) (hk : ∀ i x, l[i]? = some x → WRep w0 (three c i) x)
    (IH : ∀ x ∈ l, ∀ v, WRep w0 v x → ∀ W, Below w0.heap.size w0 W → Calls Tryz.prog 22 #[v] W fun y w' => y = .returned (.int .u32 (kindsT x)) ∧ Below W.heap.size W w') (w : World) (hb0 : Below w0.heap.size w0 w) :
    Calls Tryz.prog 22 #[.agg #[.int .i64 4, .int .i64 0, .slice a l.length cap]] w fun y w' => y = .returned (.int .u32 (orT 0 l)) ∧ Below w.heap.size w w' := by
  obtain ⟨rfl, hg, hcp, hcm⟩ := ha (by omega)
  have HC := Lib.hid hc
  have HK := Lib.hid hk
  have HI := Lib.hid IH
  clear ha hc hk IH
  obtain ⟨W1, hW1, hb1, hx1⟩ := want1_world w (.int .i64 4) (.int .i64 0) (.slice (some ⟨g, o, none⟩) l.length cap)
  have h01 := hb0.trans (hb1.mono hb0.size)
  have p0 : W1.cell? ⟨w.heap.size, 0, none⟩ = some (.int .i64 4) := hx1.cell 0 rfl
  have p1 : W1.cell? ⟨w.heap.size, 1, none⟩ = some (.int .i64 0) := hx1.cell 1 rfl
  have p2 : W1.cell? ⟨w.heap.size, 2, none⟩ = some (.slice (some ⟨g, o, none⟩) l.length cap) := hx1.cell 2 rfl
  go_enter Tryz.func22, Tryz.ntmps22
  go_upto_region 1 with fail
  rw [← hW1]
  clear hW1
  go_wp2_with fail
  go_loopw [5, 6] (fun s i wr => ∃ j : Nat, j ≤ l.length ∧ i = .int .i64 j ∧ s = .int .u32 (orT 0 (l.take j)) ∧ Below W1.heap.size W1 wr) (fun _ i _ => l.length - (intOf i).toNat)
  case atStart => exact ⟨0, by omega, rfl, rfl, Below.refl _ _⟩
  case round =>
    obtain ⟨j, hj, rfl, rfl, hbr⟩ := hrel
    have h0r := h01.trans (hbr.mono h01.size)
    have hxr := hx1.later hbr
    clear p0 p1 p2
    have p2 : wr.cell? ⟨w.heap.size, 2, none⟩ = some (.slice (some ⟨g, o, none⟩) l.length cap) := hxr.cell 2 rfl
    by_cases hlt : j < l.length
    · have hx : l[j]? = some l[j] := List.getElem?_eq_getElem hlt
      have hwr := HK.out j _ hx
      have HX := Lib.hid (HI.out _ (List.getElem_mem hlt) _ hwr)
      obtain ⟨op', num', a', l', cap', e5⟩ := hwr.form
      obtain ⟨f0, f1, f2⟩ := three_inv e5
      obtain ⟨r0, r1, r2⟩ := (HC.out.below hg h0r) j hlt
      rw [f0] at r0
      rw [f1] at r1
      rw [f2] at r2
      rw [e5] at HX
      have HT := Lib.hid (orT_take (s := 0) hx)
      clear hwr e5 f0 f1 f2 hx
      generalize l[j] = x at *
      go_wp2_with (go_at_call 22; refine (HX.out _ h0r).mono ?_; rintro e w2 ⟨rfl, hb2⟩)
      go_roundw
      case rel => exact ⟨j + 1, by omega, by go_num, by rw [HT.out], hbr.trans (hb2.mono hbr.size)⟩
      case measure => simp [intOf]; omega
    · obtain rfl : j = l.length := by omega
      go_wp2_with fail
      go_ret
      exact ⟨by rw [List.take_length]; rfl, hb1.trans (hbr.mono hb1.size)⟩

set_option maxRecDepth 100000 in
set_option maxHeartbeats 3200000 in
theorem wk_or {w0 : World} {l : List WT} (hl : 2 ≤ l.length) {a : Option Addr} {cap g o : Nat} {c : Nat → Nat → Value} (ha : 0 < l.length → a = some ⟨g, o, none⟩ ∧ g < w0.heap.size ∧ l.length ≤ cap ∧ cap ≤ 9223372036854775807) (hc : Row3 w0 g o l.length c) (hk : ∀ i x, l[i]? = some x → WRep w0 (three c i) x)
    (IH : ∀ x ∈ l, ∀ v, WRep w0 v x → ∀ W, Below w0.heap.size w0 W → Calls Tryz.prog 26 #[v] W fun y w' => y = .returned (.int .u32 (kindsT x)) ∧ Below W.heap.size W w') (w : World) (hb0 : Below w0.heap.size w0 w) :
    Calls Tryz.prog 26 #[.agg #[.int .i64 4, .int .i64 0, .slice a l.length cap]] w fun y w' => y = .returned (.int .u32 (orT 0 l)) ∧ Below w.heap.size w w' := by
  obtain ⟨rfl, hg, hcp, hcm⟩ := ha (by omega)
  have HC := Lib.hid hc
  have HK := Lib.hid hk
  have HI := Lib.hid IH
  clear ha hc hk IH
  obtain ⟨W1, hW1, hb1, hx1⟩ := want1_world w (.int .i64 4) (.int .i64 0) (.slice (some ⟨g, o, none⟩) l.length cap)
  have h01 := hb0.trans (hb1.mono hb0.size)
  have p0 : W1.cell? ⟨w.heap.size, 0, none⟩ = some (.int .i64 4) := hx1.cell 0 rfl
  have p1 : W1.cell? ⟨w.heap.size, 1, none⟩ = some (.int .i64 0) := hx1.cell 1 rfl
  have p2 : W1.cell? ⟨w.heap.size, 2, none⟩ = some (.slice (some ⟨g, o, none⟩) l.length cap) := hx1.cell 2 rfl
  go_enter Tryz.func26, Tryz.ntmps26
  go_upto_region 1 with fail
  rw [← hW1]
  clear hW1
  go_wp2_with fail
  go_loopw [3, 16] (fun s i wr => ∃ j : Nat, j ≤ l.length ∧ i = .int .i64 j ∧ s = .int .u32 (orT 0 (l.take j)) ∧ Below W1.heap.size W1 wr) (fun _ i _ => l.length - (intOf i).toNat)
  case atStart => exact ⟨0, by omega, rfl, rfl, Below.refl _ _⟩
  case round =>
    obtain ⟨j, hj, rfl, rfl, hbr⟩ := hrel
    have h0r := h01.trans (hbr.mono h01.size)
    have hxr := hx1.later hbr
    clear p0 p1 p2
    have p2 : wr.cell? ⟨w.heap.size, 2, none⟩ = some (.slice (some ⟨g, o, none⟩) l.length cap) := hxr.cell 2 rfl
    by_cases hlt : j < l.length
    · have hx : l[j]? = some l[j] := List.getElem?_eq_getElem hlt
      have hwr := HK.out j _ hx
      have HX := Lib.hid (HI.out _ (List.getElem_mem hlt) _ hwr)
      obtain ⟨op', num', a', l', cap', e5⟩ := hwr.form
      obtain ⟨f0, f1, f2⟩ := three_inv e5
      obtain ⟨r0, r1, r2⟩ := (HC.out.below hg h0r) j hlt
      rw [f0] at r0
      rw [f1] at r1
      rw [f2] at r2
      rw [e5] at HX
      have HT := Lib.hid (orT_take (s := 0) hx)
      clear hwr e5 f0 f1 f2 hx
      generalize l[j] = x at *
      obtain ⟨Wa, hWa, hba, hya⟩ := want1_world wr (.int .i64 op') (.int .i64 num') (.slice a' l' cap')
      have q0 : Wa.cell? ⟨wr.heap.size, 0, none⟩ = some (.int .i64 op') := hya.cell 0 rfl
      have q1 : Wa.cell? ⟨wr.heap.size, 1, none⟩ = some (.int .i64 num') := hya.cell 1 rfl
      have q2 : Wa.cell? ⟨wr.heap.size, 2, none⟩ = some (.slice a' l' cap') := hya.cell 2 rfl
      go_upto_region 7 with fail
      rw [← hWa]
      clear hWa p2 r0 r1 r2
      go_wp2_with (go_at_call 26; refine (HX.out _ (h0r.trans (hba.mono h0r.size))).mono ?_; rintro e w2 ⟨rfl, hb2⟩)
      go_roundw
      case rel => exact ⟨j + 1, by omega, by go_num, by rw [HT.out], hbr.trans ((hba.trans (hb2.mono hba.size)).mono hbr.size)⟩
      case measure => simp [intOf]; omega
    · obtain rfl : j = l.length := by omega
      clear p2
      go_wp2_with fail
      go_ret
      exact ⟨by rw [List.take_length]; rfl, hb1.trans (hbr.mono hb1.size)⟩

set_option maxRecDepth 100000 in
set_option maxHeartbeats 3200000 in
theorem rk_and {w0 : World} {l : List WT} (hl : 2 ≤ l.length) {a : Option Addr} {cap g o : Nat} {c : Nat → Nat → Value} (ha : 0 < l.length → a = some ⟨g, o, none⟩ ∧ g < w0.heap.size ∧ l.length ≤ cap ∧ cap ≤ 9223372036854775807) (hc : Row3 w0 g o l.length c) (hk : ∀ i x, l[i]? = some x → WRep w0 (three c i) x)
    (IH : ∀ x ∈ l, ∀ v, WRep w0 v x → ∀ W, Below w0.heap.size w0 W → Calls Tryz.prog 22 #[v] W fun y w' => y = .returned (.int .u32 (kindsT x)) ∧ Below W.heap.size W w') (w : World) (hb0 : Below w0.heap.size w0 w) :
    Calls Tryz.prog 22 #[.agg #[.int .i64 5, .int .i64 0, .slice a l.length cap]] w fun y w' => y = .returned (.int .u32 (andT 16383 l)) ∧ Below w.heap.size w w' := by
  obtain ⟨rfl, hg, hcp, hcm⟩ := ha (by omega)
  have HC := Lib.hid hc
  have HK := Lib.hid hk
  have HI := Lib.hid IH
  clear ha hc hk IH
  obtain ⟨W1, hW1, hb1, hx1⟩ := want1_world w (.int .i64 5) (.int .i64 0) (.slice (some ⟨g, o, none⟩) l.length cap)
  have h01 := hb0.trans (hb1.mono hb0.size)
  have p0 : W1.cell? ⟨w.heap.size, 0, none⟩ = some (.int .i64 5) := hx1.cell 0 rfl
  have p1 : W1.cell? ⟨w.heap.size, 1, none⟩ = some (.int .i64 0) := hx1.cell 1 rfl
  have p2 : W1.cell? ⟨w.heap.size, 2, none⟩ = some (.slice (some ⟨g, o, none⟩) l.length cap) := hx1.cell 2 rfl
  go_enter Tryz.func22, Tryz.ntmps22
  go_upto_region 1 with fail
  rw [← hW1]
  clear hW1
  go_wp2_with fail
  go_loopw [7, 8] (fun s i wr => ∃ j : Nat, j ≤ l.length ∧ i = .int .i64 j ∧ s = .int .u32 (andT 16383 (l.take j)) ∧ Below W1.heap.size W1 wr) (fun _ i _ => l.length - (intOf i).toNat)
  case atStart => exact ⟨0, by omega, rfl, rfl, Below.refl _ _⟩
  case round =>
    obtain ⟨j, hj, rfl, rfl, hbr⟩ := hrel
    have h0r := h01.trans (hbr.mono h01.size)
    have hxr := hx1.later hbr
    clear p0 p1 p2
    have p2 : wr.cell? ⟨w.heap.size, 2, none⟩ = some (.slice (some ⟨g, o, none⟩) l.length cap) := hxr.cell 2 rfl
    by_cases hlt : j < l.length
    · have hx : l[j]? = some l[j] := List.getElem?_eq_getElem hlt
      have hwr := HK.out j _ hx
      have HX := Lib.hid (HI.out _ (List.getElem_mem hlt) _ hwr)
      obtain ⟨op', num', a', l', cap', e5⟩ := hwr.form
      obtain ⟨f0, f1, f2⟩ := three_inv e5
      obtain ⟨r0, r1, r2⟩ := (HC.out.below hg h0r) j hlt
      rw [f0] at r0
      rw [f1] at r1
      rw [f2] at r2
      rw [e5] at HX
      have HT := Lib.hid (andT_take (s := 16383) hx)
      clear hwr e5 f0 f1 f2 hx
      generalize l[j] = x at *
      go_wp2_with (go_at_call 22; refine (HX.out _ h0r).mono ?_; rintro e w2 ⟨rfl, hb2⟩)
      go_roundw
      case rel => exact ⟨j + 1, by omega, by go_num, by rw [HT.out], hbr.trans (hb2.mono hbr.size)⟩
      case measure => simp [intOf]; omega
    · obtain rfl : j = l.length := by omega
      go_wp2_with fail
      go_ret
      exact ⟨by rw [List.take_length]; rfl, hb1.trans (hbr.mono hb1.size)⟩

set_option maxRecDepth 100000 in
set_option maxHeartbeats 3200000 in
theorem wk_and {w0 : World} {l : List WT} (hl : 2 ≤ l.length) {a : Option Addr} {cap g o : Nat} {c : Nat → Nat → Value} (ha : 0 < l.length → a = some ⟨g, o, none⟩ ∧ g < w0.heap.size ∧ l.length ≤ cap ∧ cap ≤ 9223372036854775807) (hc : Row3 w0 g o l.length c) (hk : ∀ i x, l[i]? = some x → WRep w0 (three c i) x)
    (IH : ∀ x ∈ l, ∀ v, WRep w0 v x → ∀ W, Below w0.heap.size w0 W → Calls Tryz.prog 26 #[v] W fun y w' => y = .returned (.int .u32 (kindsT x)) ∧ Below W.heap.size W w') (w : World) (hb0 : Below w0.heap.size w0 w) :
    Calls Tryz.prog 26 #[.agg #[.int .i64 5, .int .i64 0, .slice a l.length cap]] w fun y w' => y = .returned (.int .u32 (andT 16383 l)) ∧ Below w.heap.size w w' := by
  obtain ⟨rfl, hg, hcp, hcm⟩ := ha (by omega)
  have HC := Lib.hid hc
  have HK := Lib.hid hk
  have HI := Lib.hid IH
  clear ha hc hk IH
  obtain ⟨W1, hW1, hb1, hx1⟩ := want1_world w (.int .i64 5) (.int .i64 0) (.slice (some ⟨g, o, none⟩) l.length cap)
  have h01 := hb0.trans (hb1.mono hb0.size)
  have p0 : W1.cell? ⟨w.heap.size, 0, none⟩ = some (.int .i64 5) := hx1.cell 0 rfl
  have p1 : W1.cell? ⟨w.heap.size, 1, none⟩ = some (.int .i64 0) := hx1.cell 1 rfl
  have p2 : W1.cell? ⟨w.heap.size, 2, none⟩ = some (.slice (some ⟨g, o, none⟩) l.length cap) := hx1.cell 2 rfl
  go_enter Tryz.func26, Tryz.ntmps26
  go_upto_region 1 with fail
  rw [← hW1]
  clear hW1
  go_wp2_with fail
  go_loopw [6, 31] (fun s i wr => ∃ j : Nat, j ≤ l.length ∧ i = .int .i64 j ∧ s = .int .u32 (andT 16383 (l.take j)) ∧ Below W1.heap.size W1 wr) (fun _ i _ => l.length - (intOf i).toNat)
  case atStart => exact ⟨0, by omega, rfl, rfl, Below.refl _ _⟩
  case round =>
    obtain ⟨j, hj, rfl, rfl, hbr⟩ := hrel
    have h0r := h01.trans (hbr.mono h01.size)
    have hxr := hx1.later hbr
    clear p0 p1 p2
    have p2 : wr.cell? ⟨w.heap.size, 2, none⟩ = some (.slice (some ⟨g, o, none⟩) l.length cap) := hxr.cell 2 rfl
    by_cases hlt : j < l.length
    · have hx : l[j]? = some l[j] := List.getElem?_eq_getElem hlt
      have hwr := HK.out j _ hx
      have HX := Lib.hid (HI.out _ (List.getElem_mem hlt) _ hwr)
      obtain ⟨op', num', a', l', cap', e5⟩ := hwr.form
      obtain ⟨f0, f1, f2⟩ := three_inv e5
      obtain ⟨r0, r1, r2⟩ := (HC.out.below hg h0r) j hlt
      rw [f0] at r0
      rw [f1] at r1
      rw [f2] at r2
      rw [e5] at HX
      have HT := Lib.hid (andT_take (s := 16383) hx)
      clear hwr e5 f0 f1 f2 hx
      generalize l[j] = x at *
      obtain ⟨Wa, hWa, hba, hya⟩ := want1_world wr (.int .i64 op') (.int .i64 num') (.slice a' l' cap')
      have q0 : Wa.cell? ⟨wr.heap.size, 0, none⟩ = some (.int .i64 op') := hya.cell 0 rfl
      have q1 : Wa.cell? ⟨wr.heap.size, 1, none⟩ = some (.int .i64 num') := hya.cell 1 rfl
      have q2 : Wa.cell? ⟨wr.heap.size, 2, none⟩ = some (.slice a' l' cap') := hya.cell 2 rfl
      go_upto_region 15 with fail
      rw [← hWa]
      clear hWa p2 r0 r1 r2
      go_wp2_with (go_at_call 26; refine (HX.out _ (h0r.trans (hba.mono h0r.size))).mono ?_; rintro e w2 ⟨rfl, hb2⟩)
      go_roundw
      case rel => exact ⟨j + 1, by omega, by go_num, by rw [HT.out], hbr.trans ((hba.trans (hb2.mono hba.size)).mono hbr.size)⟩
      case measure => simp [intOf]; omega
    · obtain rfl : j = l.length := by omega
      clear p2
      go_wp2_with fail
      go_ret
      exact ⟨by rw [List.take_length]; rfl, hb1.trans (hbr.mono hb1.size)⟩

set_option maxRecDepth 100000 in
set_option maxHeartbeats 1600000 in
theorem rk_not {w0 : World} {x : WT} {a : Option Addr} {cap g o : Nat} {c : Nat → Nat → Value} (ha : a = some ⟨g, o, none⟩ ∧ g < w0.heap.size ∧ 1 ≤ cap ∧ cap ≤ 9223372036854775807) (hc : Row3 w0 g o 1 c) (hk : WRep w0 (three c 0) x)
    (IH : ∀ v, WRep w0 v x → ∀ W, Below w0.heap.size w0 W → Calls Tryz.prog 22 #[v] W fun y w' => y = .returned (.int .u32 (kindsT x)) ∧ Below W.heap.size W w') (w : World) (hb0 : Below w0.heap.size w0 w) :
    Calls Tryz.prog 22 #[.agg #[.int .i64 6, .int .i64 0, .slice a 1 cap]] w fun y w' => y = .returned (.int .u32 (bits .andNot .u32 16383 (kindsT x))) ∧ Below w.heap.size w w' := by
  obtain ⟨rfl, hg, hcp, hcm⟩ := ha
  have HX := Lib.hid (IH _ hk)
  obtain ⟨op', num', a', l', cap', e5⟩ := hk.form
  obtain ⟨f0, f1, f2⟩ := three_inv e5
  obtain ⟨W1, hW1, hb1, hx1⟩ := want1_world w (.int .i64 6) (.int .i64 0) (.slice (some ⟨g, o, none⟩) 1 cap)
  have h01 := hb0.trans (hb1.mono hb0.size)
  obtain ⟨r0, r1, r2⟩ := (hc.below hg h01) 0 (by omega)
  simp only [Nat.zero_mul, Nat.add_zero] at r0 r1 r2
  rw [f0] at r0
  rw [f1] at r1
  rw [f2] at r2
  rw [e5] at HX
  clear hc hk IH e5 f0 f1 f2
  have p0 : W1.cell? ⟨w.heap.size, 0, none⟩ = some (.int .i64 6) := hx1.cell 0 rfl
  have p1 : W1.cell? ⟨w.heap.size, 1, none⟩ = some (.int .i64 0) := hx1.cell 1 rfl
  have p2 : W1.cell? ⟨w.heap.size, 2, none⟩ = some (.slice (some ⟨g, o, none⟩) 1 cap) := hx1.cell 2 rfl
  go_enter Tryz.func22, Tryz.ntmps22
  go_upto_region 1 with fail
  rw [← hW1]
  clear hW1
  go_wp2_with (go_at_call 22; refine (HX.out _ h01).mono ?_; rintro e w2 ⟨rfl, hb2⟩)
  go_ret
  exact ⟨rfl, hb1.trans (hb2.mono hb1.size)⟩

set_option maxRecDepth 100000 in
set_option maxHeartbeats 1600000 in
theorem wk_not {w0 : World} {x : WT} {a : Option Addr} {cap g o : Nat} {c : Nat → Nat → Value} (ha : a = some ⟨g, o, none⟩ ∧ g < w0.heap.size ∧ 1 ≤ cap ∧ cap ≤ 9223372036854775807) (hc : Row3 w0 g o 1 c) (hk : WRep w0 (three c 0) x)
    (IH : ∀ v, WRep w0 v x → ∀ W, Below w0.heap.size w0 W → Calls Tryz.prog 26 #[v] W fun y w' => y = .returned (.int .u32 (kindsT x)) ∧ Below W.heap.size W w') (w : World) (hb0 : Below w0.heap.size w0 w) :
    Calls Tryz.prog 26 #[.agg #[.int .i64 6, .int .i64 0, .slice a 1 cap]] w fun y w' => y = .returned (.int .u32 (bits .andNot .u32 16383 (kindsT x))) ∧ Below w.heap.size w w' := by
  obtain ⟨rfl, hg, hcp, hcm⟩ := ha
  have HX := Lib.hid (IH _ hk)
  obtain ⟨op', num', a', l', cap', e5⟩ := hk.form
  obtain ⟨f0, f1, f2⟩ := three_inv e5
  obtain ⟨W1, hW1, hb1, hx1⟩ := want1_world w (.int .i64 6) (.int .i64 0) (.slice (some ⟨g, o, none⟩) 1 cap)
  have h01 := hb0.trans (hb1.mono hb0.size)
  obtain ⟨r0, r1, r2⟩ := (hc.below hg h01) 0 (by omega)
  simp only [Nat.zero_mul, Nat.add_zero] at r0 r1 r2
  rw [f0] at r0
  rw [f1] at r1
  rw [f2] at r2
  rw [e5] at HX
  clear hc hk IH e5 f0 f1 f2
  have p0 : W1.cell? ⟨w.heap.size, 0, none⟩ = some (.int .i64 6) := hx1.cell 0 rfl
  have p1 : W1.cell? ⟨w.heap.size, 1, none⟩ = some (.int .i64 0) := hx1.cell 1 rfl
  have p2 : W1.cell? ⟨w.heap.size, 2, none⟩ = some (.slice (some ⟨g, o, none⟩) 1 cap) := hx1.cell 2 rfl
  go_enter Tryz.func26, Tryz.ntmps26
  go_upto_region 1 with fail
  rw [← hW1]
  clear hW1
  go_wp2_with (go_at_call 26; refine (HX.out _ h01).mono ?_; rintro e w2 ⟨rfl, hb2⟩)
  go_ret
  exact ⟨rfl, hb1.trans (hb2.mono hb1.size)⟩

set_option maxRecDepth 100000 in
set_option maxHeartbeats 800000 in
theorem wK_any (a : Option Addr) (cap : Nat) (w : World) : Calls Tryz.prog 26 #[.agg #[.int .i64 1, .int .i64 0, .slice a 0 cap]] w fun x w' => x = .returned (.int .u32 16382) ∧ Below w.heap.size w w' := by
  obtain ⟨W1, hW1, hb1, hx1⟩ := want1_world w (.int .i64 1) (.int .i64 0) (.slice a 0 cap)
  have p0 : W1.cell? ⟨w.heap.size, 0, none⟩ = some (.int .i64 1) := hx1.cell 0 rfl
  have p1 : W1.cell? ⟨w.heap.size, 1, none⟩ = some (.int .i64 0) := hx1.cell 1 rfl
  have p2 : W1.cell? ⟨w.heap.size, 2, none⟩ = some (.slice a 0 cap) := hx1.cell 2 rfl
  go_enter Tryz.func26, Tryz.ntmps26
  go_upto_region 1 with fail
  rw [← hW1]
  clear hW1
  go_wp2_with (go_at_call 44; refine (wk_any a cap _).mono ?_; rintro e w2 ⟨rfl, hb2⟩)
  go_ret
  exact ⟨rfl, hb1.trans (hb2.mono hb1.size)⟩

set_option maxRecDepth 100000 in
set_option maxHeartbeats 800000 in
theorem wK_kind (n : Nat) (hn : n < 14) (a : Option Addr) (cap : Nat) (w : World) : Calls Tryz.prog 26 #[.agg #[.int .i64 2, .int .i64 n, .slice a 0 cap]] w fun x w' => x = .returned (.int .u32 ((kmask n : Nat) : Int)) ∧ Below w.heap.size w w' := by
  obtain ⟨W1, hW1, hb1, hx1⟩ := want1_world w (.int .i64 2) (.int .i64 n) (.slice a 0 cap)
  have p0 : W1.cell? ⟨w.heap.size, 0, none⟩ = some (.int .i64 2) := hx1.cell 0 rfl
  have p1 : W1.cell? ⟨w.heap.size, 1, none⟩ = some (.int .i64 n) := hx1.cell 1 rfl
  have p2 : W1.cell? ⟨w.heap.size, 2, none⟩ = some (.slice a 0 cap) := hx1.cell 2 rfl
  go_enter Tryz.func26, Tryz.ntmps26
  go_upto_region 1 with fail
  rw [← hW1]
  clear hW1
  go_wp2_with (go_at_call 44; refine (wk_kind n hn a cap _).mono ?_; rintro e w2 ⟨rfl, hb2⟩)
  go_ret
  exact ⟨rfl, hb1.trans (hb2.mono hb1.size)⟩

set_option maxRecDepth 100000 in
set_option maxHeartbeats 800000 in
theorem wK_face (f : Nat) (hf : f < 10) (a : Option Addr) (cap : Nat) (w : World) : Calls Tryz.prog 26 #[.agg #[.int .i64 3, .int .i64 f, .slice a 0 cap]] w fun x w' => x = .returned (.int .u32 (fmask f 14 : Nat)) ∧ Below w.heap.size w w' := by
  obtain ⟨W1, hW1, hb1, hx1⟩ := want1_world w (.int .i64 3) (.int .i64 f) (.slice a 0 cap)
  have p0 : W1.cell? ⟨w.heap.size, 0, none⟩ = some (.int .i64 3) := hx1.cell 0 rfl
  have p1 : W1.cell? ⟨w.heap.size, 1, none⟩ = some (.int .i64 f) := hx1.cell 1 rfl
  have p2 : W1.cell? ⟨w.heap.size, 2, none⟩ = some (.slice a 0 cap) := hx1.cell 2 rfl
  go_enter Tryz.func26, Tryz.ntmps26
  go_upto_region 1 with fail
  rw [← hW1]
  clear hW1
  go_wp2_with (go_at_call 44; refine (wk_face f hf a cap _).mono ?_; rintro e w2 ⟨rfl, hb2⟩)
  go_ret
  exact ⟨rfl, hb1.trans (hb2.mono hb1.size)⟩

theorem WRep.leaf {w : World} {v : Value} {op num : Int} (h : WRep w v (.mk op num [])) : ∃ a cap, v = .agg #[.int .i64 op, .int .i64 num, .slice a 0 cap] := by
  cases h with
  | mk op num a cap g o c kids ha hc hk => exact ⟨_, _, rfl⟩
theorem rkinds_any {w0 : World} {t : WT} (ht : FitT t) : ∀ v, WRep w0 v t → ∀ W, Below w0.heap.size w0 W → Calls Tryz.prog 22 #[v] W fun x w' => x = .returned (.int .u32 (kindsT t)) ∧ Below W.heap.size W w' := by
  induction ht with
  | any =>
    intro v hv W hW
    obtain ⟨a, cap, rfl⟩ := hv.leaf
    exact rk_any a cap W
  | kind n h =>
    intro v hv W hW
    obtain ⟨a, cap, rfl⟩ := hv.leaf
    exact rk_kind n h a cap W
  | face n h =>
    intro v hv W hW
    obtain ⟨a, cap, rfl⟩ := hv.leaf
    exact rk_face a cap n h W
  | or l hl hk ih =>
    intro v hv W hW
    cases hv with
    | mk op num a cap g o c kids ha hc hkk => exact rk_or hl ha hc hkk ih W hW
  | and l hl hk ih =>
    intro v hv W hW
    cases hv with
    | mk op num a cap g o c kids ha hc hkk => exact rk_and hl ha hc hkk ih W hW
  | not x hx ih =>
    intro v hv W hW
    cases hv with
    | mk op num a cap g o c kids ha hc hkk => exact rk_not (ha (by simp)) hc (hkk 0 x rfl) ih W hW

theorem wkinds_any {w0 : World} {t : WT} (ht : FitT t) : ∀ v, WRep w0 v t → ∀ W, Below w0.heap.size w0 W → Calls Tryz.prog 26 #[v] W fun x w' => x = .returned (.int .u32 (kindsT t)) ∧ Below W.heap.size W w' := by
  induction ht with
  | any =>
    intro v hv W hW
    obtain ⟨a, cap, rfl⟩ := hv.leaf
    exact wK_any a cap W
  | kind n h =>
    intro v hv W hW
    obtain ⟨a, cap, rfl⟩ := hv.leaf
    exact wK_kind n h a cap W
  | face n h =>
    intro v hv W hW
    obtain ⟨a, cap, rfl⟩ := hv.leaf
    exact wK_face n h a cap W
  | or l hl hk ih =>
    intro v hv W hW
    cases hv with
    | mk op num a cap g o c kids ha hc hkk => exact wk_or hl ha hc hkk ih W hW
  | and l hl hk ih =>
    intro v hv W hW
    cases hv with
    | mk op num a cap g o c kids ha hc hkk => exact wk_and hl ha hc hkk ih W hW
  | not x hx ih =>
    intro v hv W hW
    cases hv with
    | mk op num a cap g o c kids ha hc hkk => exact wk_not (ha (by simp)) hc (hkk 0 x rfl) ih W hW
end Go.Proofs.YtecdniimikfbhaaGreat
