/- Contracts of the functions that copy a Datum. -/
import Derived.Test.YteplhhlgceppkabG5
namespace Go.Proofs.Yteplhhlgceppkab
open Go Go.RowKit Go.ChangeShapes Go.WideShapes

theorem info25 : (Try.prog.info? 25).map (fun i => (i.zero, i.size, i.bytes)) = some (some (.agg #[.int .i64 0, .int .i64 0, .int .u64 0, .string ⟨#[]⟩, .slice none 0 0]), 5, 64) := by kernel_rfl

theorem owns_below {w w1 : World} {B n : Nat} {v : Value} {xs : List Value} (h : w.ownsRow B 25 5 v n xs) (hb : Below w.heap.size w w1) : w1.ownsRow B 25 5 v n xs := by
  obtain ⟨h1, h2⟩ := h
  refine ⟨h1, ?_⟩
  rcases h2 with h2 | ⟨g, cap, cur, hv, hg, hh, r⟩
  · exact Or.inl h2
  · exact Or.inr ⟨g, cap, cur, hv, hg, by rw [hb.block g (Array.getElem?_eq_some_iff.1 hh).1]; exact hh, r⟩
theorem RepQ.form {w : World} {Q : Nat → Prop} {v : Value} {d : D} (h : RepQ w Q v d) : ∃ (k m b : Int) (t : ByteArray) (a : Option Addr) (n cap : Nat), v = .agg #[.int .i64 k, .int .i64 m, .int .u64 b, .string t, .slice a n cap] := by
  cases h with
  | mk k m b t a cap g o c kids hw ha hc hk => exact ⟨_, _, _, _, _, _, _, rfl⟩
/-- A block of five cells. -/
def Box5 (w : World) (b : Nat) (c0 c1 c2 c3 c4 : Value) : Prop := w.heap[b]? = some (.cells #[c0, c1, c2, c3, c4] 25 (0, 0))
theorem Box5.cells {w : World} {b : Nat} {c0 c1 c2 c3 c4 : Value} (h : Box5 w b c0 c1 c2 c3 c4) :
    w.cell? ⟨b, 0, none⟩ = some c0 ∧ w.cell? ⟨b, 1, none⟩ = some c1 ∧ w.cell? ⟨b, 2, none⟩ = some c2 ∧ w.cell? ⟨b, 3, none⟩ = some c3 ∧ w.cell? ⟨b, 4, none⟩ = some c4 := by
  refine ⟨?_, ?_, ?_, ?_, ?_⟩ <;> (rw [cell_of_row w b _ _ _ _ h]; rfl)
theorem Box5.thaw {w : World} {b : Nat} {c0 c1 c2 c3 c4 : Value} (h : Box5 w b c0 c1 c2 c3 c4) : ∀ j, w.frozen? ⟨b, j, none⟩ = false := fun j => by
  unfold World.frozen?
  have h' : w.heap[b]? = some (.cells #[c0, c1, c2, c3, c4] 25 (0, 0)) := h
  simp only [h']
  simp
theorem Box5.lt {w : World} {b : Nat} {c0 c1 c2 c3 c4 : Value} (h : Box5 w b c0 c1 c2 c3 c4) : b < w.heap.size := (Array.getElem?_eq_some_iff.1 h).1
theorem Box5.set4 {w : World} {b : Nat} {c0 c1 c2 c3 c4 : Value} (h : Box5 w b c0 c1 c2 c3 c4) (x : Value) : Box5 (w.setCell ⟨b, 4, none⟩ x) b c0 c1 c2 c3 x := heap_setCell_same w b 4 _ _ x h
theorem Box5.set5 {w : World} {b : Nat} {c0 c1 c2 c3 c4 : Value} (h : Box5 w b c0 c1 c2 c3 c4) (x0 x1 x2 x3 x4 : Value) :
    Box5 (((((w.setCell ⟨b, 0, none⟩ x0).setCell ⟨b, 1, none⟩ x1).setCell ⟨b, 2, none⟩ x2).setCell ⟨b, 3, none⟩ x3).setCell ⟨b, 4, none⟩ x4) b x0 x1 x2 x3 x4 :=
  heap_setCell_same _ b 4 _ _ x4 (heap_setCell_same _ b 3 _ _ x3 (heap_setCell_same _ b 2 _ _ x2 (heap_setCell_same _ b 1 _ _ x1 (heap_setCell_same w b 0 _ _ x0 h))))
theorem set5_other (w : World) (b : Nat) (x0 x1 x2 x3 x4 : Value) (i : Nat) (h : i ≠ b) : (((((w.setCell ⟨b, 0, none⟩ x0).setCell ⟨b, 1, none⟩ x1).setCell ⟨b, 2, none⟩ x2).setCell ⟨b, 3, none⟩ x3).setCell ⟨b, 4, none⟩ x4).heap[i]? = w.heap[i]? := by
  rw [heap_setCell_other _ _ _ _ h, heap_setCell_other _ _ _ _ h, heap_setCell_other _ _ _ _ h, heap_setCell_other _ _ _ _ h, heap_setCell_other _ _ _ _ h]
theorem set5_size (w : World) (b : Nat) (x0 x1 x2 x3 x4 : Value) : (((((w.setCell ⟨b, 0, none⟩ x0).setCell ⟨b, 1, none⟩ x1).setCell ⟨b, 2, none⟩ x2).setCell ⟨b, 3, none⟩ x3).setCell ⟨b, 4, none⟩ x4).heap.size = w.heap.size := by simp
theorem Box5.keep {w w1 : World} {b : Nat} {c0 c1 c2 c3 c4 : Value} (h : Box5 w b c0 c1 c2 c3 c4) (hb : w1.heap[b]? = w.heap[b]?) : Box5 w1 b c0 c1 c2 c3 c4 := hb.trans h

theorem Box5.behind {W3 ww w5 : World} {ob : Obj} {B b n : Nat} {sl c0 c1 c2 c3 c4 : Value} {xs : List Value} (h : Box5 W3 b c0 c1 c2 c3 c4) (hb : Below W3.heap.size W3 ww) (ho : ww.ownsRow B 25 5 sl n xs) (hgr : (ww.alloc ob).grownBy w5 sl.ownBlock) (hlt : b < B) : Box5 w5 b c0 c1 c2 c3 c4 := by
  have h3 := h.lt
  have hz := hb.size
  have e1 : w5.heap[b]? = (ww.alloc ob).heap[b]? := hgr.block b (by simp; omega) (fun e => by have := (World.ownsRow.lt ho b e.symm).1; omega)
  have e2 : (ww.alloc ob).heap[b]? = ww.heap[b]? := heap_alloc_old ww ob (by omega)
  exact h.keep (e1.trans (e2.trans (hb.block b h3)))

/-- Behind the append: the row holds one element more. -/
theorem OwnQ.behind {W3 ww w5 : World} {ob : Obj} {B n N g5 cap6 : Nat} {sl : Value} {ks : List D} {x : D} {cc : Nat → Nat → Value} {k5 m5 b5 : Int} {t5 : ByteArray} {a5 : Option Addr} {n5 cap5 : Nat}
    (hn : ks.length = n) (hown : W3.ownsRow B 25 5 sl n (rowCells cc n)) (hkk : ∀ i x, ks[i]? = some x → RepQ W3 (fun b => B ≤ b ∧ some b ≠ sl.ownBlock) (five cc i) x)
    (hb4 : Below W3.heap.size W3 ww) (hN : N = W3.heap.size) (hB : B ≤ W3.heap.size) (hv : RepQ ww (fun b => N ≤ b) (.agg #[.int .i64 k5, .int .i64 m5, .int .u64 b5, .string t5, .slice a5 n5 cap5]) x)
    (hown5 : w5.ownsRow B 25 5 (.slice (some ⟨g5, 0, none⟩) (n + 1) cap6) (n + 1) (rowCells cc n ++ [.int .i64 k5, .int .i64 m5, .int .u64 b5, .string t5, .slice a5 n5 cap5]))
    (hgrow : (ww.alloc ob).grownBy w5 sl.ownBlock) (hat : sl.ownBlock = some g5 ∨ g5 = (ww.alloc ob).heap.size) : OwnQ w5 B (.slice (some ⟨g5, 0, none⟩) (n + 1) cap6) (ks ++ [x]) := by
  subst hn hN
  have hz := hb4.size
  refine OwnQ.snoc (fun i x hx => (hkk i x hx).carry (fun b hq hl => ⟨?_, hq⟩) (by simp; omega)) (hv.carry (fun b hq hl => ⟨heap_alloc_old ww ob hl, by omega, fun e => ?_⟩) (by simp)) hown5 hgrow hat
  · exact (heap_alloc_old ww ob (by omega)).trans (hb4.block b hl)
  · have := (World.ownsRow.lt hown b e.symm).2
    omega

set_option maxRecDepth 100000 in
set_option maxHeartbeats 3200000 in
theorem gclone_any {w0 : World} {v : Value} {d : D} (h : Rep w0 v d) : Slim d → ∀ (w : World), Below w0.heap.size w0 w →
    Calls Try.prog 44 #[v] w fun x w' => ∃ v', x = .returned v' ∧ RepQ w' (fun b => w.heap.size ≤ b) v' d ∧ Below w.heap.size w w' := by
  induction h with
  | mk k m b t a cap g o c kids hw ha hc hk ih =>
    intro hsl w hb
    obtain ⟨hn, hks⟩ := hsl.inv
    obtain ⟨i0, hi, hz0, hz1, hz2⟩ := info_parts info25
    have HI := Lib.hid ih
    have HA := Lib.hid ha
    have HC := Lib.hid hc
    have HW := Lib.hid hw
    have HS := Lib.hid hks
    have HK := Lib.hid hk
    clear ih ha hc hk hw hsl hks
    obtain ⟨W1, hW1⟩ : ∃ W1, W1 = (w.alloc (.cells #[.int .i64 k, .int .i64 m, .int .u64 b, .string t, .slice none 0 0] 25)).alloc (.cells #[.int .i64 0, .int .i64 0, .int .u64 0, .string ⟨#[]⟩, .slice none 0 0] 25) := ⟨_, rfl⟩
    have hbW : Below w.heap.size w W1 := by rw [hW1]; go_grown
    have hzW : W1.heap.size = w.heap.size + 2 := by rw [hW1]; simp
    have hx1 : Box5 W1 w.heap.size (.int .i64 k) (.int .i64 m) (.int .u64 b) (.string t) (.slice none 0 0) := by
      rw [hW1]; exact Box5.keep (heap_alloc_new w _) (((Below.refl _ _).alloc (Nat.le_refl _) _).block _ (by simp))
    have hx2 : Box5 W1 (w.heap.size + 1) (.int .i64 0) (.int .i64 0) (.int .u64 0) (.string ⟨#[]⟩) (.slice none 0 0) := by
      rw [hW1]
      have h := heap_alloc_new (w.alloc (.cells #[.int .i64 k, .int .i64 m, .int .u64 b, .string t, .slice none 0 0] 25)) (.cells #[.int .i64 0, .int .i64 0, .int .u64 0, .string ⟨#[]⟩, .slice none 0 0] 25)
      simpa [Box5] using h
    have hB0 : Below w0.heap.size w0 W1 := hb.trans (hbW.mono hb.size)
    go_enter Try.func44, Try.ntmps44
    go_wp2_with fail
    rw [← hW1]
    clear hW1
    go_loopw [11] (fun i wr => ∃ (j : Nat) (a2 : Option Addr) (cap2 : Nat), j ≤ kids.length ∧ i = .int .i64 j ∧ Box5 wr w.heap.size (.int .i64 k) (.int .i64 m) (.int .u64 b) (.string t) (.slice a2 j cap2) ∧
      Box5 wr (w.heap.size + 1) (.int .i64 0) (.int .i64 0) (.int .u64 0) (.string ⟨#[]⟩) (.slice none 0 0) ∧ OwnQ wr (w.heap.size + 2) (.slice a2 j cap2) (kids.take j) ∧ Below w.heap.size w wr ∧ w.heap.size + 2 ≤ wr.heap.size) (fun i _ => kids.length - (intOf i).toNat)
    case atStart => exact ⟨0, none, 0, by omega, rfl, hx1, hx2, OwnQ.nil _ _, hbW, by omega⟩
    case round =>
      obtain ⟨j, a2, cap2, hj, rfl, hy1, hy2, hO, hbr, hzr⟩ := hrel
      clear hx1 hx2 hbW hzW
      by_cases hlt : j < kids.length
      · obtain ⟨rfl, hg, hcp, hcm⟩ := HA.out (by omega)
        have hB1 : Below w0.heap.size w0 wr := hb.trans (hbr.mono hb.size)
        obtain ⟨q0, q1, q2, q3, q4⟩ := (HC.out.below hg hB1) j hlt
        have hx : kids[j]? = some kids[j] := List.getElem?_eq_getElem hlt
        have HX := Lib.hid (HI.out j _ hx (HS.out _ (List.getElem_mem hlt)))
        obtain ⟨k2, m2, b2, t2, a3, cap3, g3, o3, c3, kids3, e5, e6, hw3, _⟩ := (HK.out j _ hx).inv
        obtain ⟨f0, f1, f2, f3, f4⟩ := five_inv e5
        rw [f0] at q0
        rw [f1] at q1
        rw [f2] at q2
        rw [f3] at q3
        rw [f4] at q4
        rw [e5] at HX
        generalize hkj : kids[j] = x at *
        generalize kids3.length = n3 at *
        clear hx e6 f0 f1 f2 f3 f4 e5
        obtain ⟨W3, hW3⟩ : ∃ W3, W3 = wr.alloc (.cells #[.int .i64 k2, .int .i64 m2, .int .u64 b2, .string t2, .slice a3 n3 cap3] 25) := ⟨_, rfl⟩
        have hb3 : Below wr.heap.size wr W3 := by rw [hW3]; exact (Below.refl _ _).alloc (Nat.le_refl _) _
        have hz3 : W3.heap.size = wr.heap.size + 1 := by rw [hW3]; simp
        have hv1 : Box5 W3 w.heap.size (.int .i64 k) (.int .i64 m) (.int .u64 b) (.string t) (.slice a2 j cap2) := hy1.keep (hb3.block _ (by omega))
        have hv2 : Box5 W3 (w.heap.size + 1) (.int .i64 0) (.int .i64 0) (.int .u64 0) (.string ⟨#[]⟩) (.slice none 0 0) := hy2.keep (hb3.block _ (by omega))
        have hv3 : Box5 W3 wr.heap.size (.int .i64 k2) (.int .i64 m2) (.int .u64 b2) (.string t2) (.slice a3 n3 cap3) := by rw [hW3]; exact heap_alloc_new wr _
        have hO3 : OwnQ W3 (w.heap.size + 2) (.slice a2 j cap2) (kids.take j) := hO.carry (fun b _ hl => hb3.block b hl) (by omega)
        have hB3 : Below w0.heap.size w0 W3 := hB1.trans (hb3.mono hB1.size)
        have hbw3 : Below w.heap.size w W3 := hbr.trans (hb3.mono hbr.size)
        have HX2 := Lib.hid (fun w' (h : Below W3.heap.size W3 w') => HX.out w' (hB3.trans (h.mono hB3.size)))
        go_upto_region 6 with fail
        rw [← hW3]
        obtain ⟨_, _, _, _, p4⟩ := hv1.cells
        have pf := hv1.thaw 4
        obtain ⟨g0, g1, g2, g3, g4⟩ := hv3.cells
        obtain ⟨cc, hown, hkk⟩ := hO3
        have htl : (kids.take j).length = j := by rw [List.length_take]; omega
        rw [htl] at hown
        have HKK := Lib.hid hkk
        clear hkk
        clear hW3 hy1 hy2 hO HX q0 q1 q2 q3 q4
        have hone : ∀ (k5 m5 b5 : Int) (t5 : ByteArray) (a5 : Option Addr) (n5 cap5 : Nat), ∀ u ∈ [Value.int .i64 k5, .int .i64 m5, .int .u64 b5, .string t5, .slice a5 n5 cap5], u.oneCell' = true := fun k5 m5 b5 t5 a5 n5 cap5 u hu => by
          simp at hu
          rcases hu with rfl | rfl | rfl | rfl | rfl <;> rfl
        have hj1 : j + 1 ≤ maxLen := by unfold maxLen; omega
        have hj2 : (j + 1) * 64 ≤ 140737488355328 := by omega
        have hO1 := Lib.hid hone
        clear hone
        go_region_law (first
          | (refine step_append_lies _ (by rfl) (.tmp 16) (.tmp 19) 23 (by rfl) (w.heap.size + 2) 25 i0 (.agg #[.int .i64 0, .int .i64 0, .int .u64 0, .string ⟨#[]⟩, .slice none 0 0]) 5 64 Try.underlying23 hi hz0 hz1 hz2 (by rfl) (by decide) _ _ _ (by rfl) (World.ownsRow.alloc hown4 _) ⟨ww.heap.size, 0, none⟩ 1 1 [.int .i64 k5, .int .i64 m5, .int .u64 b5, .string t5, .slice a5 n5 cap5] (by rfl) (by rfl) (World.news_of_block (heap_alloc_new ww _)) (hO1.out _ _ _ _ _ _ _) (by decide) hj1 hj2 (hbase _) _ (by rfl) ?_; intro g5 cap6 w5 hown5 hgrow hat hlt5; have hbx := Box5.behind hv1 hb4 hown4 hgrow (by omega); have hp5 := hbx.cells.2.2.2.2; have hpf := hbx.thaw 4)
          | (go_simp; go_at_call 44; refine (HX2.out _ (by go_grown)).mono ?_; rintro x ww ⟨v', rfl, hv', hb2⟩; obtain ⟨k5, m5, b5, t5, a5, n5, cap5, rfl⟩ := hv'.form; have hb4 : Below W3.heap.size W3 ww := Below.trans (by go_grown) hb2; have hown4 := owns_below hown hb4; have hz4 := hb4.size; have hbase : ∀ ob, w.heap.size + 2 ≤ (ww.alloc ob).heap.size := (fun ob => by simp; omega); have hp4 : ww.cell? ⟨w.heap.size, 4, none⟩ = some (.slice a2 j cap2) := (hb4.cell (p := ⟨w.heap.size, 4, none⟩) (by simp; omega)).trans p4; have hp6 : ∀ ob, (ww.alloc ob).cell? ⟨w.heap.size, 4, none⟩ = some (.slice a2 j cap2) := (fun ob => (World.cell?_of_block (w := ww) (heap_alloc_old ww ob (show w.heap.size < ww.heap.size by omega))).trans hp4); (try dsimp only)))
        all_goals (
          have hO5 := OwnQ.behind htl hown HKK.out hb4 (by rfl) (by omega) hv' hown5 hgrow hat
          have hbx2 := Box5.behind hv2 hb4 hown4 hgrow (by omega)
          have hz5 := hgrow.size
          have hbw5 : Below w.heap.size w w5 := Below.grown ((hbw3.trans (hb4.mono (by omega))).alloc (by omega) _) hgrow (by simp; omega) (fun r hr => Nat.le_trans (by omega) (World.ownsRow.lt hown4 r hr).1)
          have hO6 := hO5.carry (w1 := w5.setCell ⟨w.heap.size, 4, none⟩ (.slice (some ⟨g5, 0, none⟩) (j + 1) cap6)) (fun b hb _ => heap_setCell_other _ _ _ _ (by simp; omega)) (by simp)
          have htk : kids.take (j + 1) = kids.take j ++ [x] := by rw [List.take_succ_eq_append_getElem hlt, hkj]
          rw [← htk] at hO6
          have hbx3 := hbx.set4 (.slice (some ⟨g5, 0, none⟩) (j + 1) cap6)
          have hbx4 := hbx2.keep (w1 := w5.setCell ⟨w.heap.size, 4, none⟩ (.slice (some ⟨g5, 0, none⟩) (j + 1) cap6)) (heap_setCell_other _ _ _ _ (by simp))
          have hbw6 := hbw5.setCell (p := ⟨w.heap.size, 4, none⟩) (Nat.le_refl _) (.slice (some ⟨g5, 0, none⟩) (j + 1) cap6)
          have hz6 : w.heap.size + 2 ≤ (w5.setCell ⟨w.heap.size, 4, none⟩ (.slice (some ⟨g5, 0, none⟩) (j + 1) cap6)).heap.size := by simp at hz5 ⊢; omega
          generalize w5.setCell ⟨w.heap.size, 4, none⟩ (.slice (some ⟨g5, 0, none⟩) (j + 1) cap6) = w6 at *
          clear hgrow hat hown5 hown4 hown hv' hO5 hbx hbx2 hv1 hv2 hv3 hp4 hp5 hp6 hpf p4 pf hbase hlt5
          go_wp2_with fail
          go_roundw
          case rel => exact ⟨j + 1, _, cap6, by omega, by go_num, hbx3, hbx4, hO6, hbw6, hz6⟩
          case measure => simp [intOf]; omega)
      · obtain rfl : j = kids.length := by omega
        rw [List.take_length] at hO
        obtain ⟨z0, z1, z2, z3, z4⟩ := hy1.cells
        have zf := hy2.thaw
        obtain ⟨y0, y1, y2, y3, y4⟩ := hy2.cells
        have hne : w.heap.size + 1 ≠ w.heap.size := by omega
        go_wp2_with fail
        have hF := hy2.set5 (.int .i64 k) (.int .i64 m) (.int .u64 b) (.string t) (.slice a2 kids.length cap2)
        have hFo := set5_other wr (w.heap.size + 1) (.int .i64 k) (.int .i64 m) (.int .u64 b) (.string t) (.slice a2 kids.length cap2)
        have hFs := set5_size wr (w.heap.size + 1) (.int .i64 k) (.int .i64 m) (.int .u64 b) (.string t) (.slice a2 kids.length cap2)
        have hFb : Below w.heap.size w (((((wr.setCell ⟨w.heap.size + 1, 0, none⟩ (.int .i64 k)).setCell ⟨w.heap.size + 1, 1, none⟩ (.int .i64 m)).setCell ⟨w.heap.size + 1, 2, none⟩ (.int .u64 b)).setCell ⟨w.heap.size + 1, 3, none⟩ (.string t)).setCell ⟨w.heap.size + 1, 4, none⟩ (.slice a2 kids.length cap2)) :=
          ((((hbr.setCell (p := ⟨w.heap.size + 1, 0, none⟩) (by simp) _).setCell (p := ⟨w.heap.size + 1, 1, none⟩) (by simp) _).setCell (p := ⟨w.heap.size + 1, 2, none⟩) (by simp) _).setCell (p := ⟨w.heap.size + 1, 3, none⟩) (by simp) _).setCell (p := ⟨w.heap.size + 1, 4, none⟩) (by simp) _
        generalize ((((wr.setCell ⟨w.heap.size + 1, 0, none⟩ (.int .i64 k)).setCell ⟨w.heap.size + 1, 1, none⟩ (.int .i64 m)).setCell ⟨w.heap.size + 1, 2, none⟩ (.int .u64 b)).setCell ⟨w.heap.size + 1, 3, none⟩ (.string t)).setCell ⟨w.heap.size + 1, 4, none⟩ (.slice a2 kids.length cap2) = Wf at *
        obtain ⟨r0, r1, r2, r3, r4⟩ := hF.cells
        have hO2 : OwnQ Wf (w.heap.size + 2) (.slice a2 kids.length cap2) kids := hO.carry (fun b hb _ => hFo b (by omega)) (by omega)
        have hR := (hO2.repQ HW.out).carry (Q1 := fun b => w.heap.size ≤ b) (fun b hb _ => ⟨rfl, by omega⟩) (Nat.le_refl _)
        refine bodyPost_ret (v := .agg #[.int .i64 k, .int .i64 m, .int .u64 b, .string t, .slice a2 kids.length cap2]) ?_ rfl ?_
        · exact results_cell_row rfl _ Wf (w.heap.size + 1) 25 _ (0, 0) _ rfl hF Try.underlying25 rfl (by kernel_rfl)
        · exact ⟨_, rfl, hR, hFb⟩
end Go.Proofs.Yteplhhlgceppkab
