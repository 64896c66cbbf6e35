/- Contracts of want's is and must. -/
import Derived.Test.YteplhhlgceppkabG10
namespace Go.Proofs.Yteplhhlgceppkab
open Go Go.RowKit Go.ChangeShapes Go.WideShapes

/-- Is a value of kind k of the type of kind n? -/
def isB (k : Nat) (n : Int) : Bool := typedB k n && (n != 12 || (k : Int) == 12)
theorem isB_f {k : Nat} {n : Int} (h : typedB k n = false) : isB k n = false := by simp [isB, h]
theorem isB_n {k : Nat} {n : Int} (h : typedB k n = true) (h2 : (n != 12) = true) : isB k n = true := by simp [isB, h, h2]
theorem isB_m {k : Nat} {n : Int} (h : typedB k n = true) (h2 : (n != 12) = false) : isB k n = ((k : Int) == 12) := by simp [isB, h, h2]

theorem is_any (k : Nat) (hk : k ≤ 13) (n : Int) (v : Value) (hv : SampV k v) (m b t sl : Value) (w : World) :
    Calls Try.prog 63 #[v, .agg #[.int .i64 k, m, b, t, sl], .int .i64 n] w fun x w' => x = .returned (.bool (isB k n)) ∧ Below w.heap.size w w' := by
  have HT := Lib.hid (typed_any k hk n v hv)
  clear hv
  cases h : typedB k n
  · rw [isB_f h]
    rw [h] at HT
    clear h
    go_enter Try.func63, Try.ntmps63
    go_wp2_with (go_at_call 68; refine (HT.out _).mono ?_; rintro e w' ⟨rfl, rfl⟩)
    go_ret
    exact ⟨rfl, by go_grown⟩
  · cases h2 : (n != 12)
    · rw [isB_m h h2]
      rw [h] at HT
      clear h
      go_enter Try.func63, Try.ntmps63
      go_wp2_with (go_at_call 68; refine (HT.out _).mono ?_; rintro e w' ⟨rfl, rfl⟩)
      go_ret
      exact ⟨rfl, by go_grown⟩
    · rw [isB_n h h2]
      rw [h] at HT
      clear h
      go_enter Try.func63, Try.ntmps63
      go_wp2_with (go_at_call 68; refine (HT.out _).mono ?_; rintro e w' ⟨rfl, rfl⟩)
      go_ret
      exact ⟨rfl, by go_grown⟩

theorem RepQ.set5 {w : World} {N M b : Nat} {v : Value} {d : D} (h : RepQ w (fun b => N ≤ b) v d) (hb : b < N) (hM : M ≤ N) {x0 x1 x2 x3 x4 : Value} :
    RepQ (((((w.setCell ⟨b, 0, none⟩ x0).setCell ⟨b, 1, none⟩ x1).setCell ⟨b, 2, none⟩ x2).setCell ⟨b, 3, none⟩ x3).setCell ⟨b, 4, none⟩ x4) (fun b => M ≤ b) v d :=
  h.carry (fun i hi _ => ⟨set5_other w b _ _ _ _ _ i (by omega), by omega⟩) (by rw [set5_size]; exact Nat.le_refl _)
theorem set5_below {B b : Nat} {w w1 : World} (h : Below B w w1) (hb : B ≤ b) {x0 x1 x2 x3 x4 : Value} :
    Below B w (((((w1.setCell ⟨b, 0, none⟩ x0).setCell ⟨b, 1, none⟩ x1).setCell ⟨b, 2, none⟩ x2).setCell ⟨b, 3, none⟩ x3).setCell ⟨b, 4, none⟩ x4) :=
  ((((h.setCell (p := ⟨b, 0, none⟩) hb _).setCell (p := ⟨b, 1, none⟩) hb _).setCell (p := ⟨b, 2, none⟩) hb _).setCell (p := ⟨b, 3, none⟩) hb _).setCell (p := ⟨b, 4, none⟩) hb _
theorem boxes1 (w : World) (c0 c1 c2 c3 c4 : Value) : ∃ W1, W1 = w.alloc (.cells #[c0, c1, c2, c3, c4] 25) ∧ Below w.heap.size w W1 ∧ W1.heap.size = w.heap.size + 1 ∧ Box5 W1 w.heap.size c0 c1 c2 c3 c4 :=
  ⟨_, rfl, by go_grown, by simp, heap_alloc_new w _⟩
theorem boxes2 (w : World) (c0 c1 c2 c3 c4 d0 d1 d2 d3 d4 : Value) : ∃ W1, W1 = (w.alloc (.cells #[c0, c1, c2, c3, c4] 25)).alloc (.cells #[d0, d1, d2, d3, d4] 25) ∧ Below w.heap.size w W1 ∧ W1.heap.size = w.heap.size + 2 ∧ Box5 W1 w.heap.size c0 c1 c2 c3 c4 ∧ Box5 W1 (w.heap.size + 1) d0 d1 d2 d3 d4 := by
  refine ⟨_, rfl, by go_grown, by simp, ?_, ?_⟩
  · exact Box5.keep (heap_alloc_new w _) (((Below.refl _ _).alloc (Nat.le_refl _) _).block _ (by simp))
  · have h := heap_alloc_new (w.alloc (.cells #[c0, c1, c2, c3, c4] 25)) (.cells #[d0, d1, d2, d3, d4] 25)
    simpa [Box5] using h

theorem must_no (k : Nat) (hk : k ≤ 13) (n : Int) (v : Value) (hv : SampV k v) (h : isB k n = false) (m b t sl : Value) (w : World) :
    Calls Try.prog 54 #[v, .agg #[.int .i64 k, m, b, t, sl], .int .i64 n] w fun x w' => x = .panicked [{ v := .iface 104 (.agg #[.int .i64 k, .int .i64 (-1)]), recovered := false }] ∧ Below w.heap.size w w' := by
  have HT := Lib.hid (is_any k hk n v hv)
  clear hv
  rw [h] at HT
  clear h
  obtain ⟨W1, hW1, hb1, hz1, hx1, hx2⟩ := boxes2 w (.int .i64 k) m b t sl (.int .i64 0) (.int .i64 0) (.int .u64 0) (.string ⟨#[]⟩) (.slice none 0 0)
  obtain ⟨p0, p1, p2, p3, p4⟩ := hx1.cells
  go_enter Try.func54, Try.ntmps54
  go_upto_region 1 with fail
  rw [← hW1]
  clear hW1
  go_wp2_with (go_at_call 63; refine (HT.out _ _ _ _ _).mono ?_; rintro e w2 ⟨rfl, hb⟩; have q0 := (hx1.keep (hb.block _ (by omega))).cells.1)
  exact ⟨rfl, rfl, hb1.trans (hb.mono (by omega))⟩

set_option maxHeartbeats 800000 in
theorem must_yes (k : Nat) (hk : k ≤ 13) (n : Int) (u : Value) (hu : SampV k u) (h : isB k n = true) {w0 : World} {m b : Int} {t : ByteArray} {a : Option Addr} {l cap : Nat} {d : D} (hv : Rep w0 (.agg #[.int .i64 k, .int .i64 m, .int .u64 b, .string t, .slice a l cap]) d) (hs : Slim d) (w : World) (hb0 : Below w0.heap.size w0 w) :
    Calls Try.prog 54 #[u, .agg #[.int .i64 k, .int .i64 m, .int .u64 b, .string t, .slice a l cap], .int .i64 n] w fun x w' => ∃ v', x = .returned v' ∧ RepQ w' (fun b => w.heap.size ≤ b) v' d ∧ Below w.heap.size w w' := by
  have HT := Lib.hid (is_any k hk n u hu)
  clear hu
  rw [h] at HT
  clear h
  have HV := Lib.hid (fun W h => wown_any hv hs W h)
  obtain ⟨W1, hW1, hb1, hz1, hx1, hx2⟩ := boxes2 w (.int .i64 k) (.int .i64 m) (.int .u64 b) (.string t) (.slice a l cap) (.int .i64 0) (.int .i64 0) (.int .u64 0) (.string ⟨#[]⟩) (.slice none 0 0)
  obtain ⟨p0, p1, p2, p3, p4⟩ := hx1.cells
  go_enter Try.func54, Try.ntmps54
  go_upto_region 1 with fail
  rw [← hW1]
  clear hW1
  go_wp2_with (go_at_call 63; refine (HT.out _ _ _ _ _).mono ?_; rintro e w2 ⟨rfl, hb2⟩; obtain ⟨q0, q1, q2, q3, q4⟩ := (hx1.keep (hb2.block _ (by omega))).cells; have hy2 := hx2.keep (hb2.block _ (by omega)); have hz2 := hb2.size; have hbw2 := hb1.trans (hb2.mono (by omega)); clear p0 p1 p2 p3 p4)
  refine (HV.out _ (hb0.trans (hbw2.mono hb0.size))).mono ?_
  rintro e w3 ⟨v', rfl, hv', hb3⟩
  obtain ⟨k5, m5, b5, t5, a5, n5, cap5, rfl⟩ := hv'.form
  dsimp only
  have hy3 := hy2.keep (hb3.block _ (by omega))
  obtain ⟨z0, z1, z2, z3, z4⟩ := hy3.cells
  have zf := hy3.thaw
  clear q0 q1 q2 q3 q4
  go_wp2_with fail
  refine bodyPost_ret (v := .agg #[.int .i64 k5, .int .i64 m5, .int .u64 b5, .string t5, .slice a5 n5 cap5]) ?_ rfl ?_
  · exact results_cell_row rfl _ _ (w.heap.size + 1) 25 _ (0, 0) _ rfl (hy3.set5 _ _ _ _ _) Try.underlying25 rfl (by kernel_rfl)
  · exact ⟨_, rfl, hv'.set5 (by omega) (by omega), set5_below (hbw2.trans (hb3.mono hbw2.size)) (by omega)⟩
end Go.Proofs.Yteplhhlgceppkab
