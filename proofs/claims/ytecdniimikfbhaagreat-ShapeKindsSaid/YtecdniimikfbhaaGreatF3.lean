/- strconv.FormatInt at base 10, whatever the table of powers holds: the call returns a text of at most 24 bytes. -/
import Derived.Test.YtecdniimikfbhaaGreatF2
import Derived.Lib.ItoaMem
namespace Go.Proofs.YtecdniimikfbhaaGreat
open Go Go.RowKit Go.ChangeShapes Go.WideShapes Go.Shelf Go.Sort Go.Lib

/-- What stands behind a call of FormatInt. -/
def FmtPost (w : World) (x : Ending) (w' : World) : Prop := ∃ s : ByteArray, x = .returned (.string s) ∧ s.size ≤ 24 ∧ Below w.heap.size w w'
theorem u8_zeros (w : World) (T : TypeId) : U8 (w.alloc (.cells Lib.zeros24 T)) w.heap.size := fun t ht => by
  refine ⟨⟨0, by omega, ?_⟩, World.frozen?_alloc_new _ _ _ _⟩
  rw [World.cell?_alloc_new]
  exact Lib.zeros24_at t ht
/-- A row of bytes read as a text. -/
theorem u8_text {P : Program} {W : World} {blk off nd cap : Nat} {s t e : TypeId} (hs : P.underlying s = some (.slice e)) (he : P.underlying e = some (.int .u8)) (ht : P.underlying t = some .string) (h : U8 W blk) (hn : off + nd ≤ 24) : ∃ x : ByteArray, x.size = nd ∧ (convert s t (.slice (some ⟨blk, off, none⟩) nd cap)).run P W = .ok (.string x) W := by
  obtain ⟨F, hF⟩ := Classical.axiomOfChoice (r := fun (i : Nat) (b : UInt8) => i < nd → W.cell? ⟨blk, off + i, none⟩ = some (.int .u8 (b.toNat : Int))) (fun i => by
    by_cases hi : i < nd
    · obtain ⟨⟨x, hx, hc⟩, _⟩ := h (off + i) (by omega)
      refine ⟨UInt8.ofNat x.toNat, fun _ => ?_⟩
      rw [hc]
      have e : ((UInt8.ofNat x.toNat).toNat : Int) = x := by
        simp only [UInt8.toNat_ofNat']
        omega
      rw [e]
    · exact ⟨0, fun h => absurd h hi⟩)
  have hl : ((List.range nd).map F).length = nd := by simp
  refine ⟨⟨((List.range nd).map F).toArray⟩, by simp [ByteArray.size], ?_⟩
  have hh := run_convert_bytes_back (P := P) W s t e ⟨blk, off, none⟩ cap ((List.range nd).map F) hs he ht (fun j hj => by
    rw [hl] at hj
    rw [Lib.add_plain, List.getElem_map, List.getElem_range]
    exact hF j hj)
  rw [hl] at hh
  exact hh
theorem arr24 : Tryz.prog.arrayLen 227 = 24 := by kernel_rfl
theorem slice_from1 (g nd : Nat) (h : nd ≤ 20) (W : World) : (Instr.sliceAt 227 (.pointer (some ⟨g, 0, none⟩)) (some (.int .i64 1)) (some (.int .i64 (1 + (nd : Int)))) none).run Tryz.prog W = .ok (.slice (some ⟨g, 1, none⟩) nd 23) W := by
  rw [run_sliceAt_array_lh W 227 ⟨g, 0, none⟩ (by kernel_rfl) .i64 .i64 1 (1 + (nd : Int)) (by omega) (by omega) (by rw [arr24]; omega), arr24]
  go_simp
  omega
theorem slice_from0 (g nd : Nat) (h : nd ≤ 20) (W : World) : (Instr.sliceAt 227 (.pointer (some ⟨g, 0, none⟩)) none (some (.int .i64 (1 + (nd : Int)))) none).run Tryz.prog W = .ok (.slice (some ⟨g, 0, none⟩) (1 + nd) 24) W := by
  rw [run_sliceAt_array_h W 227 ⟨g, 0, none⟩ (by kernel_rfl) .i64 (1 + (nd : Int)) (by omega) (by rw [arr24]; omega), arr24]
  go_simp
  omega

set_option maxRecDepth 100000 in
set_option maxHeartbeats 3200000 in
theorem ifmt_neg (u : Nat) (h1 : 1 ≤ u) (h2 : u ≤ 9223372036854775808) (w : World) (htab : TabAny w) : Calls Tryz.prog 126 #[.int .i64 (-(u : Int)), .int .i64 10] w fun x w' => FmtPost w x w' := by
  have hwr : IntKind.u64.wrap (-IntKind.u64.wrap (-(u : Int))) = (u : Int) := by rw [IntKind.wrap_u64, IntKind.wrap_u64]; omega
  obtain ⟨W1, hW1⟩ : ∃ W1, W1 = w.alloc (.cells Lib.zeros24 227) := ⟨_, rfl⟩
  have hb1 : Below w.heap.size w W1 := by rw [hW1]; exact (Below.refl _ _).alloc (Nat.le_refl _) _
  have hU1 := Lib.hid (show U8 W1 w.heap.size by rw [hW1]; exact u8_zeros w _)
  have HN := Lib.hid (fun (W : World) (h : TabAny W) => ndig_any u h1 (by omega) W h)
  have HT := Lib.hid (htab.later hb1)
  have h64 : u < 18446744073709551616 := by omega
  have hlt : (-(u : Int)) < 0 := by omega
  clear htab h2
  unfold Lib.zeros24 at hW1
  go_enter Tryz.func126, Tryz.ntmps126
  go_upto_region 5 with fail
  rw [← hW1]
  clear hW1
  go_wp2_with (go_at_call 128; refine (HN.out _ HT.out).mono ?_; rintro e w' ⟨⟨nd, hnd, rfl⟩, rfl⟩; have hsl1 := slice_from1 w.heap.size nd hnd)
  go_at_call 129
  refine (fmt_any w.heap.size 1 23 nd (by omega) u h64 _ hU1.out).mono ?_
  rintro e W2 ⟨rfl, hU2⟩
  obtain ⟨⟨y, hy, hc0⟩, hf0⟩ := hU2.1 0 (by omega)
  have hU3 := hU2.set 0 45 (by omega)
  have hsl2 := slice_from0 w.heap.size nd hnd
  obtain ⟨x, hx, hcv⟩ := u8_text (P := Tryz.prog) (s := 106) (t := 9) (e := 5) (cap := 24) Tryz.underlying106 Tryz.underlying5 Tryz.underlying9 hU3.1 (show 0 + (1 + nd) ≤ 24 by omega)
  have HB := Lib.hid (hU3.2 _ _ hb1 (Nat.le_refl _))
  clear hU2 hU3 hU1 HN HT hsl1
  go_wp2
  go_ret
  exact ⟨x, rfl, by omega, HB.out⟩

set_option maxRecDepth 100000 in
set_option maxHeartbeats 3200000 in
theorem ifmt_pos (u : Nat) (h1 : 100 ≤ u) (h2 : u < 9223372036854775808) (w : World) (htab : TabAny w) : Calls Tryz.prog 126 #[.int .i64 u, .int .i64 10] w fun x w' => FmtPost w x w' := by
  obtain ⟨W1, hW1⟩ : ∃ W1, W1 = w.alloc (.cells Lib.zeros24 227) := ⟨_, rfl⟩
  have hb1 : Below w.heap.size w W1 := by rw [hW1]; exact (Below.refl _ _).alloc (Nat.le_refl _) _
  have hU1 := Lib.hid (show U8 W1 w.heap.size by rw [hW1]; exact u8_zeros w _)
  have HN := Lib.hid (fun (W : World) (h : TabAny W) => ndig_any u (by omega) (by omega) W h)
  have HT := Lib.hid (htab.later hb1)
  have h64 : u < 18446744073709551616 := by omega
  have hlt : ¬ ((u : Int) < 100) := by omega
  have hmod : ((u : Int) % 18446744073709551616) = u := by omega
  clear htab
  unfold Lib.zeros24 at hW1
  go_enter Tryz.func126, Tryz.ntmps126
  go_upto_region 5 with fail
  rw [← hW1]
  clear hW1
  go_wp2_with (go_at_call 128; refine (HN.out _ HT.out).mono ?_; rintro e w' ⟨⟨nd, hnd, rfl⟩, rfl⟩; have hsl1 := slice_from1 w.heap.size nd hnd)
  go_at_call 129
  refine (fmt_any w.heap.size 1 23 nd (by omega) u h64 _ hU1.out).mono ?_
  rintro e W2 ⟨rfl, hU2⟩
  obtain ⟨x, hx, hcv⟩ := u8_text (P := Tryz.prog) (s := 106) (t := 9) (e := 5) (cap := 23) Tryz.underlying106 Tryz.underlying5 Tryz.underlying9 hU2.1 (show 1 + nd ≤ 24 by omega)
  have HB := Lib.hid (hU2.2 _ _ hb1 (Nat.le_refl _))
  clear hU2 hU1 HN HT
  go_wp2
  go_ret
  exact ⟨x, rfl, by omega, HB.out⟩

theorem ifmt_any (n : Int) (h0 : -9223372036854775808 ≤ n) (h1 : n ≤ 9223372036854775807) (w : World) (htab : TabAny w) : Calls Tryz.prog 126 #[.int .i64 n, .int .i64 10] w fun x w' => FmtPost w x w' := by
  by_cases hs : 0 ≤ n ∧ n < 100
  · obtain ⟨i, rfl⟩ : ∃ i : Nat, n = i := ⟨n.toNat, by omega⟩
    refine (Tryz.internal_strconv_FormatInt_10_small i (by omega) w).mono fun x w' ⟨hx, hw⟩ => ⟨_, hx, ?_, by rw [hw]; exact Below.refl _ _⟩
    have h3 := Lib.decDigits_length i
    have h4 : Lib.nDigits i ≤ 2 := by
      by_cases h : i < 10
      · rw [Lib.nDigits_small h]; omega
      · rw [Lib.nDigits_big h, Lib.nDigits_small (by omega)]; omega
    simp only [ByteArray.size, List.size_toArray]
    omega
  · by_cases hn : n < 0
    · obtain ⟨u, rfl⟩ : ∃ u : Nat, n = -(u : Int) := ⟨n.natAbs, by omega⟩
      exact ifmt_neg u (by omega) (by omega) w htab
    · obtain ⟨u, rfl⟩ : ∃ u : Nat, n = u := ⟨n.toNat, by omega⟩
      exact ifmt_pos u (by omega) (by omega) w htab

set_option maxRecDepth 100000 in
set_option maxHeartbeats 400000 in
theorem fmtint_any (n : Int) (h0 : -9223372036854775808 ≤ n) (h1 : n ≤ 9223372036854775807) (w : World) (htab : TabAny w) : Calls Tryz.prog 125 #[.int .i64 n, .int .i64 10] w fun x w' => ∃ s : ByteArray, x = .returned (.string s) ∧ s.size ≤ 24 ∧ Below w.heap.size w w' := by
  have HF := Lib.hid (ifmt_any n h0 h1 w htab)
  clear htab
  go_enter Tryz.func125, Tryz.ntmps125
  go_wp2_with (go_at_call 126; refine (HF.out).mono ?_; rintro e w2 ⟨s, rfl, hs, hb⟩)
  go_ret
  exact ⟨s, rfl, hs, hb⟩
end Go.Proofs.YtecdniimikfbhaaGreat
