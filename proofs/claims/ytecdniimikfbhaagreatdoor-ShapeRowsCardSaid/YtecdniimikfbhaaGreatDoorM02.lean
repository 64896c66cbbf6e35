/- Guard: contracts, joined texts (G6, G7, G9, G10, G11). -/
import Derived.Test.YtecdniimikfbhaaGreatDoorM01

/- Contracts of the functions that copy a Datum. -/
namespace Go.Proofs.YtecdniimikfbhaaGreatDoor
open Go Go.RowKit Go.ChangeShapes Go.WideShapes

theorem info25 : (Tryz.prog.info? 25).map (fun i => (i.zero, i.size, i.bytes)) = some (some (.agg #[.int .i64 0, .int .i64 0, .int .u64 0, .string ⟨#[]⟩, .slice none 0 0]), 5, 64) := by kernel_rfl

theorem owns_below {w w1 : World} {B n : Nat} {v : Value} {xs : List Value} (h : w.ownsRow B 25 5 v n xs) (hb : Below w.heap.size w w1) : w1.ownsRow B 25 5 v n xs := by
  obtain ⟨h1, h2⟩ := h
  refine ⟨h1, ?_⟩
  rcases h2 with h2 | ⟨g, cap, cur, hv, hg, hh, r⟩
  · exact Or.inl h2
  · exact Or.inr ⟨g, cap, cur, hv, hg, by rw [hb.block g (Array.getElem?_eq_some_iff.1 hh).1]; exact hh, r⟩
theorem RepQ.form {w : World} {Q : Nat → Prop} {v : Value} {d : D} (h : RepQ w Q v d) : ∃ (k m b : Int) (t : ByteArray) (a : Option Addr) (n cap : Nat), v = .agg #[.int .i64 k, .int .i64 m, .int .u64 b, .string t, .slice a n cap] := by
  cases h with
  | mk k m b t a cap g o c kids hw ha hc hk => exact ⟨_, _, _, _, _, _, _, rfl⟩
/-- A block of five cells. -/
def Box5 (w : World) (b : Nat) (c0 c1 c2 c3 c4 : Value) : Prop := w.heap[b]? = some (.cells #[c0, c1, c2, c3, c4] 25 (0, 0))
theorem Box5.cells {w : World} {b : Nat} {c0 c1 c2 c3 c4 : Value} (h : Box5 w b c0 c1 c2 c3 c4) :
    w.cell? ⟨b, 0, none⟩ = some c0 ∧ w.cell? ⟨b, 1, none⟩ = some c1 ∧ w.cell? ⟨b, 2, none⟩ = some c2 ∧ w.cell? ⟨b, 3, none⟩ = some c3 ∧ w.cell? ⟨b, 4, none⟩ = some c4 := by
  refine ⟨?_, ?_, ?_, ?_, ?_⟩ <;> (rw [cell_of_row w b _ _ _ _ h]; rfl)
theorem Box5.thaw {w : World} {b : Nat} {c0 c1 c2 c3 c4 : Value} (h : Box5 w b c0 c1 c2 c3 c4) : ∀ j, w.frozen? ⟨b, j, none⟩ = false := fun j => by
  unfold World.frozen?
  have h' : w.heap[b]? = some (.cells #[c0, c1, c2, c3, c4] 25 (0, 0)) := h
  simp only [h']
  simp
theorem Box5.lt {w : World} {b : Nat} {c0 c1 c2 c3 c4 : Value} (h : Box5 w b c0 c1 c2 c3 c4) : b < w.heap.size := (Array.getElem?_eq_some_iff.1 h).1
theorem Box5.set4 {w : World} {b : Nat} {c0 c1 c2 c3 c4 : Value} (h : Box5 w b c0 c1 c2 c3 c4) (x : Value) : Box5 (w.setCell ⟨b, 4, none⟩ x) b c0 c1 c2 c3 x := heap_setCell_same w b 4 _ _ x h
theorem Box5.set5 {w : World} {b : Nat} {c0 c1 c2 c3 c4 : Value} (h : Box5 w b c0 c1 c2 c3 c4) (x0 x1 x2 x3 x4 : Value) :
    Box5 (((((w.setCell ⟨b, 0, none⟩ x0).setCell ⟨b, 1, none⟩ x1).setCell ⟨b, 2, none⟩ x2).setCell ⟨b, 3, none⟩ x3).setCell ⟨b, 4, none⟩ x4) b x0 x1 x2 x3 x4 :=
  heap_setCell_same _ b 4 _ _ x4 (heap_setCell_same _ b 3 _ _ x3 (heap_setCell_same _ b 2 _ _ x2 (heap_setCell_same _ b 1 _ _ x1 (heap_setCell_same w b 0 _ _ x0 h))))
theorem set5_other (w : World) (b : Nat) (x0 x1 x2 x3 x4 : Value) (i : Nat) (h : i ≠ b) : (((((w.setCell ⟨b, 0, none⟩ x0).setCell ⟨b, 1, none⟩ x1).setCell ⟨b, 2, none⟩ x2).setCell ⟨b, 3, none⟩ x3).setCell ⟨b, 4, none⟩ x4).heap[i]? = w.heap[i]? := by
  rw [heap_setCell_other _ _ _ _ h, heap_setCell_other _ _ _ _ h, heap_setCell_other _ _ _ _ h, heap_setCell_other _ _ _ _ h, heap_setCell_other _ _ _ _ h]
theorem set5_size (w : World) (b : Nat) (x0 x1 x2 x3 x4 : Value) : (((((w.setCell ⟨b, 0, none⟩ x0).setCell ⟨b, 1, none⟩ x1).setCell ⟨b, 2, none⟩ x2).setCell ⟨b, 3, none⟩ x3).setCell ⟨b, 4, none⟩ x4).heap.size = w.heap.size := by simp
theorem Box5.keep {w w1 : World} {b : Nat} {c0 c1 c2 c3 c4 : Value} (h : Box5 w b c0 c1 c2 c3 c4) (hb : w1.heap[b]? = w.heap[b]?) : Box5 w1 b c0 c1 c2 c3 c4 := hb.trans h

theorem Box5.behind {W3 ww w5 : World} {ob : Obj} {B b n : Nat} {sl c0 c1 c2 c3 c4 : Value} {xs : List Value} (h : Box5 W3 b c0 c1 c2 c3 c4) (hb : Below W3.heap.size W3 ww) (ho : ww.ownsRow B 25 5 sl n xs) (hgr : (ww.alloc ob).grownBy w5 sl.ownBlock) (hlt : b < B) : Box5 w5 b c0 c1 c2 c3 c4 := by
  have h3 := h.lt
  have hz := hb.size
  have e1 : w5.heap[b]? = (ww.alloc ob).heap[b]? := hgr.block b (by simp; omega) (fun e => by have := (World.ownsRow.lt ho b e.symm).1; omega)
  have e2 : (ww.alloc ob).heap[b]? = ww.heap[b]? := heap_alloc_old ww ob (by omega)
  exact h.keep (e1.trans (e2.trans (hb.block b h3)))

/-- Behind the append: the row holds one element more. -/
theorem OwnQ.behind {W3 ww w5 : World} {ob : Obj} {B n N g5 cap6 : Nat} {sl : Value} {ks : List D} {x : D} {cc : Nat → Nat → Value} {k5 m5 b5 : Int} {t5 : ByteArray} {a5 : Option Addr} {n5 cap5 : Nat}
    (hn : ks.length = n) (hown : W3.ownsRow B 25 5 sl n (rowCells cc n)) (hkk : ∀ i x, ks[i]? = some x → RepQ W3 (fun b => B ≤ b ∧ some b ≠ sl.ownBlock) (five cc i) x)
    (hb4 : Below W3.heap.size W3 ww) (hN : N = W3.heap.size) (hB : B ≤ W3.heap.size) (hv : RepQ ww (fun b => N ≤ b) (.agg #[.int .i64 k5, .int .i64 m5, .int .u64 b5, .string t5, .slice a5 n5 cap5]) x)
    (hown5 : w5.ownsRow B 25 5 (.slice (some ⟨g5, 0, none⟩) (n + 1) cap6) (n + 1) (rowCells cc n ++ [.int .i64 k5, .int .i64 m5, .int .u64 b5, .string t5, .slice a5 n5 cap5]))
    (hgrow : (ww.alloc ob).grownBy w5 sl.ownBlock) (hat : sl.ownBlock = some g5 ∨ g5 = (ww.alloc ob).heap.size) : OwnQ w5 B (.slice (some ⟨g5, 0, none⟩) (n + 1) cap6) (ks ++ [x]) := by
  subst hn hN
  have hz := hb4.size
  refine OwnQ.snoc (fun i x hx => (hkk i x hx).carry (fun b hq hl => ⟨?_, hq⟩) (by simp; omega)) (hv.carry (fun b hq hl => ⟨heap_alloc_old ww ob hl, by omega, fun e => ?_⟩) (by simp)) hown5 hgrow hat
  · exact (heap_alloc_old ww ob (by omega)).trans (hb4.block b hl)
  · have := (World.ownsRow.lt hown b e.symm).2
    omega

set_option maxRecDepth 100000 in
set_option maxHeartbeats 3200000 in
theorem gclone_any {w0 : World} {v : Value} {d : D} (h : Rep w0 v d) : Slim d → ∀ (w : World), Below w0.heap.size w0 w →
    Calls Tryz.prog 94 #[v] w fun x w' => ∃ v', x = .returned v' ∧ RepQ w' (fun b => w.heap.size ≤ b) v' d ∧ Below w.heap.size w w' := by
  induction h with
  | mk k m b t a cap g o c kids hw ha hc hk ih =>
    intro hsl w hb
    obtain ⟨hn, hks⟩ := hsl.inv
    obtain ⟨i0, hi, hz0, hz1, hz2⟩ := info_parts info25
    have HI := Lib.hid ih
    have HA := Lib.hid ha
    have HC := Lib.hid hc
    have HW := Lib.hid hw
    have HS := Lib.hid hks
    have HK := Lib.hid hk
    clear ih ha hc hk hw hsl hks
    obtain ⟨W1, hW1⟩ : ∃ W1, W1 = (w.alloc (.cells #[.int .i64 k, .int .i64 m, .int .u64 b, .string t, .slice none 0 0] 25)).alloc (.cells #[.int .i64 0, .int .i64 0, .int .u64 0, .string ⟨#[]⟩, .slice none 0 0] 25) := ⟨_, rfl⟩
    have hbW : Below w.heap.size w W1 := by rw [hW1]; go_grown
    have hzW : W1.heap.size = w.heap.size + 2 := by rw [hW1]; simp
    have hx1 : Box5 W1 w.heap.size (.int .i64 k) (.int .i64 m) (.int .u64 b) (.string t) (.slice none 0 0) := by
      rw [hW1]; exact Box5.keep (heap_alloc_new w _) (((Below.refl _ _).alloc (Nat.le_refl _) _).block _ (by simp))
    have hx2 : Box5 W1 (w.heap.size + 1) (.int .i64 0) (.int .i64 0) (.int .u64 0) (.string ⟨#[]⟩) (.slice none 0 0) := by
      rw [hW1]
      have h := heap_alloc_new (w.alloc (.cells #[.int .i64 k, .int .i64 m, .int .u64 b, .string t, .slice none 0 0] 25)) (.cells #[.int .i64 0, .int .i64 0, .int .u64 0, .string ⟨#[]⟩, .slice none 0 0] 25)
      simpa [Box5] using h
    have hB0 : Below w0.heap.size w0 W1 := hb.trans (hbW.mono hb.size)
    go_enter Tryz.func94, Tryz.ntmps94
    go_wp2_with fail
    rw [← hW1]
    clear hW1
    go_loopw [11] (fun i wr => ∃ (j : Nat) (a2 : Option Addr) (cap2 : Nat), j ≤ kids.length ∧ i = .int .i64 j ∧ Box5 wr w.heap.size (.int .i64 k) (.int .i64 m) (.int .u64 b) (.string t) (.slice a2 j cap2) ∧
      Box5 wr (w.heap.size + 1) (.int .i64 0) (.int .i64 0) (.int .u64 0) (.string ⟨#[]⟩) (.slice none 0 0) ∧ OwnQ wr (w.heap.size + 2) (.slice a2 j cap2) (kids.take j) ∧ Below w.heap.size w wr ∧ w.heap.size + 2 ≤ wr.heap.size) (fun i _ => kids.length - (intOf i).toNat)
    case atStart => exact ⟨0, none, 0, by omega, rfl, hx1, hx2, OwnQ.nil _ _, hbW, by omega⟩
    case round =>
      obtain ⟨j, a2, cap2, hj, rfl, hy1, hy2, hO, hbr, hzr⟩ := hrel
      clear hx1 hx2 hbW hzW
      by_cases hlt : j < kids.length
      · obtain ⟨rfl, hg, hcp, hcm⟩ := HA.out (by omega)
        have hB1 : Below w0.heap.size w0 wr := hb.trans (hbr.mono hb.size)
        obtain ⟨q0, q1, q2, q3, q4⟩ := (HC.out.below hg hB1) j hlt
        have hx : kids[j]? = some kids[j] := List.getElem?_eq_getElem hlt
        have HX := Lib.hid (HI.out j _ hx (HS.out _ (List.getElem_mem hlt)))
        obtain ⟨k2, m2, b2, t2, a3, cap3, g3, o3, c3, kids3, e5, e6, hw3, _⟩ := (HK.out j _ hx).inv
        obtain ⟨f0, f1, f2, f3, f4⟩ := five_inv e5
        rw [f0] at q0
        rw [f1] at q1
        rw [f2] at q2
        rw [f3] at q3
        rw [f4] at q4
        rw [e5] at HX
        generalize hkj : kids[j] = x at *
        generalize kids3.length = n3 at *
        clear hx e6 f0 f1 f2 f3 f4 e5
        obtain ⟨W3, hW3⟩ : ∃ W3, W3 = wr.alloc (.cells #[.int .i64 k2, .int .i64 m2, .int .u64 b2, .string t2, .slice a3 n3 cap3] 25) := ⟨_, rfl⟩
        have hb3 : Below wr.heap.size wr W3 := by rw [hW3]; exact (Below.refl _ _).alloc (Nat.le_refl _) _
        have hz3 : W3.heap.size = wr.heap.size + 1 := by rw [hW3]; simp
        have hv1 : Box5 W3 w.heap.size (.int .i64 k) (.int .i64 m) (.int .u64 b) (.string t) (.slice a2 j cap2) := hy1.keep (hb3.block _ (by omega))
        have hv2 : Box5 W3 (w.heap.size + 1) (.int .i64 0) (.int .i64 0) (.int .u64 0) (.string ⟨#[]⟩) (.slice none 0 0) := hy2.keep (hb3.block _ (by omega))
        have hv3 : Box5 W3 wr.heap.size (.int .i64 k2) (.int .i64 m2) (.int .u64 b2) (.string t2) (.slice a3 n3 cap3) := by rw [hW3]; exact heap_alloc_new wr _
        have hO3 : OwnQ W3 (w.heap.size + 2) (.slice a2 j cap2) (kids.take j) := hO.carry (fun b _ hl => hb3.block b hl) (by omega)
        have hB3 : Below w0.heap.size w0 W3 := hB1.trans (hb3.mono hB1.size)
        have hbw3 : Below w.heap.size w W3 := hbr.trans (hb3.mono hbr.size)
        have HX2 := Lib.hid (fun w' (h : Below W3.heap.size W3 w') => HX.out w' (hB3.trans (h.mono hB3.size)))
        go_upto_region 6 with fail
        rw [← hW3]
        obtain ⟨_, _, _, _, p4⟩ := hv1.cells
        have pf := hv1.thaw 4
        obtain ⟨g0, g1, g2, g3, g4⟩ := hv3.cells
        obtain ⟨cc, hown, hkk⟩ := hO3
        have htl : (kids.take j).length = j := by rw [List.length_take]; omega
        rw [htl] at hown
        have HKK := Lib.hid hkk
        clear hkk
        clear hW3 hy1 hy2 hO HX q0 q1 q2 q3 q4
        have hone : ∀ (k5 m5 b5 : Int) (t5 : ByteArray) (a5 : Option Addr) (n5 cap5 : Nat), ∀ u ∈ [Value.int .i64 k5, .int .i64 m5, .int .u64 b5, .string t5, .slice a5 n5 cap5], u.oneCell' = true := fun k5 m5 b5 t5 a5 n5 cap5 u hu => by
          simp at hu
          rcases hu with rfl | rfl | rfl | rfl | rfl <;> rfl
        have hj1 : j + 1 ≤ maxLen := by unfold maxLen; omega
        have hj2 : (j + 1) * 64 ≤ 140737488355328 := by omega
        have hO1 := Lib.hid hone
        clear hone
        go_region_law (first
          | (refine step_append_lies _ (by rfl) (.tmp 16) (.tmp 19) 23 (by rfl) (w.heap.size + 2) 25 i0 (.agg #[.int .i64 0, .int .i64 0, .int .u64 0, .string ⟨#[]⟩, .slice none 0 0]) 5 64 Tryz.underlying23 hi hz0 hz1 hz2 (by rfl) (by decide) _ _ _ (by rfl) (World.ownsRow.alloc hown4 _) ⟨ww.heap.size, 0, none⟩ 1 1 [.int .i64 k5, .int .i64 m5, .int .u64 b5, .string t5, .slice a5 n5 cap5] (by rfl) (by rfl) (World.news_of_block (heap_alloc_new ww _)) (hO1.out _ _ _ _ _ _ _) (by decide) hj1 hj2 (hbase _) _ (by rfl) ?_; intro g5 cap6 w5 hown5 hgrow hat hlt5; have hbx := Box5.behind hv1 hb4 hown4 hgrow (by omega); have hp5 := hbx.cells.2.2.2.2; have hpf := hbx.thaw 4)
          | (go_simp; go_at_call 94; refine (HX2.out _ (by go_grown)).mono ?_; rintro x ww ⟨v', rfl, hv', hb2⟩; obtain ⟨k5, m5, b5, t5, a5, n5, cap5, rfl⟩ := hv'.form; have hb4 : Below W3.heap.size W3 ww := Below.trans (by go_grown) hb2; have hown4 := owns_below hown hb4; have hz4 := hb4.size; have hbase : ∀ ob, w.heap.size + 2 ≤ (ww.alloc ob).heap.size := (fun ob => by simp; omega); have hp4 : ww.cell? ⟨w.heap.size, 4, none⟩ = some (.slice a2 j cap2) := (hb4.cell (p := ⟨w.heap.size, 4, none⟩) (by simp; omega)).trans p4; have hp6 : ∀ ob, (ww.alloc ob).cell? ⟨w.heap.size, 4, none⟩ = some (.slice a2 j cap2) := (fun ob => (World.cell?_of_block (w := ww) (heap_alloc_old ww ob (show w.heap.size < ww.heap.size by omega))).trans hp4); (try dsimp only)))
        all_goals (
          have hO5 := OwnQ.behind htl hown HKK.out hb4 (by rfl) (by omega) hv' hown5 hgrow hat
          have hbx2 := Box5.behind hv2 hb4 hown4 hgrow (by omega)
          have hz5 := hgrow.size
          have hbw5 : Below w.heap.size w w5 := Below.grown ((hbw3.trans (hb4.mono (by omega))).alloc (by omega) _) hgrow (by simp; omega) (fun r hr => Nat.le_trans (by omega) (World.ownsRow.lt hown4 r hr).1)
          have hO6 := hO5.carry (w1 := w5.setCell ⟨w.heap.size, 4, none⟩ (.slice (some ⟨g5, 0, none⟩) (j + 1) cap6)) (fun b hb _ => heap_setCell_other _ _ _ _ (by simp; omega)) (by simp)
          have htk : kids.take (j + 1) = kids.take j ++ [x] := by rw [List.take_succ_eq_append_getElem hlt, hkj]
          rw [← htk] at hO6
          have hbx3 := hbx.set4 (.slice (some ⟨g5, 0, none⟩) (j + 1) cap6)
          have hbx4 := hbx2.keep (w1 := w5.setCell ⟨w.heap.size, 4, none⟩ (.slice (some ⟨g5, 0, none⟩) (j + 1) cap6)) (heap_setCell_other _ _ _ _ (by simp))
          have hbw6 := hbw5.setCell (p := ⟨w.heap.size, 4, none⟩) (Nat.le_refl _) (.slice (some ⟨g5, 0, none⟩) (j + 1) cap6)
          have hz6 : w.heap.size + 2 ≤ (w5.setCell ⟨w.heap.size, 4, none⟩ (.slice (some ⟨g5, 0, none⟩) (j + 1) cap6)).heap.size := by simp at hz5 ⊢; omega
          generalize w5.setCell ⟨w.heap.size, 4, none⟩ (.slice (some ⟨g5, 0, none⟩) (j + 1) cap6) = w6 at *
          clear hgrow hat hown5 hown4 hown hv' hO5 hbx hbx2 hv1 hv2 hv3 hp4 hp5 hp6 hpf p4 pf hbase hlt5
          go_wp2_with fail
          go_roundw
          case rel => exact ⟨j + 1, _, cap6, by omega, by go_num, hbx3, hbx4, hO6, hbw6, hz6⟩
          case measure => simp [intOf]; omega)
      · obtain rfl : j = kids.length := by omega
        rw [List.take_length] at hO
        obtain ⟨z0, z1, z2, z3, z4⟩ := hy1.cells
        have zf := hy2.thaw
        obtain ⟨y0, y1, y2, y3, y4⟩ := hy2.cells
        have hne : w.heap.size + 1 ≠ w.heap.size := by omega
        go_wp2_with fail
        have hF := hy2.set5 (.int .i64 k) (.int .i64 m) (.int .u64 b) (.string t) (.slice a2 kids.length cap2)
        have hFo := set5_other wr (w.heap.size + 1) (.int .i64 k) (.int .i64 m) (.int .u64 b) (.string t) (.slice a2 kids.length cap2)
        have hFs := set5_size wr (w.heap.size + 1) (.int .i64 k) (.int .i64 m) (.int .u64 b) (.string t) (.slice a2 kids.length cap2)
        have hFb : Below w.heap.size w (((((wr.setCell ⟨w.heap.size + 1, 0, none⟩ (.int .i64 k)).setCell ⟨w.heap.size + 1, 1, none⟩ (.int .i64 m)).setCell ⟨w.heap.size + 1, 2, none⟩ (.int .u64 b)).setCell ⟨w.heap.size + 1, 3, none⟩ (.string t)).setCell ⟨w.heap.size + 1, 4, none⟩ (.slice a2 kids.length cap2)) :=
          ((((hbr.setCell (p := ⟨w.heap.size + 1, 0, none⟩) (by simp) _).setCell (p := ⟨w.heap.size + 1, 1, none⟩) (by simp) _).setCell (p := ⟨w.heap.size + 1, 2, none⟩) (by simp) _).setCell (p := ⟨w.heap.size + 1, 3, none⟩) (by simp) _).setCell (p := ⟨w.heap.size + 1, 4, none⟩) (by simp) _
        generalize ((((wr.setCell ⟨w.heap.size + 1, 0, none⟩ (.int .i64 k)).setCell ⟨w.heap.size + 1, 1, none⟩ (.int .i64 m)).setCell ⟨w.heap.size + 1, 2, none⟩ (.int .u64 b)).setCell ⟨w.heap.size + 1, 3, none⟩ (.string t)).setCell ⟨w.heap.size + 1, 4, none⟩ (.slice a2 kids.length cap2) = Wf at *
        obtain ⟨r0, r1, r2, r3, r4⟩ := hF.cells
        have hO2 : OwnQ Wf (w.heap.size + 2) (.slice a2 kids.length cap2) kids := hO.carry (fun b hb _ => hFo b (by omega)) (by omega)
        have hR := (hO2.repQ HW.out).carry (Q1 := fun b => w.heap.size ≤ b) (fun b hb _ => ⟨rfl, by omega⟩) (Nat.le_refl _)
        refine bodyPost_ret (v := .agg #[.int .i64 k, .int .i64 m, .int .u64 b, .string t, .slice a2 kids.length cap2]) ?_ rfl ?_
        · exact results_cell_row rfl _ Wf (w.heap.size + 1) 25 _ (0, 0) _ rfl hF Tryz.underlying25 rfl (by kernel_rfl)
        · exact ⟨_, rfl, hR, hFb⟩
end Go.Proofs.YtecdniimikfbhaaGreatDoor

/- The other two functions that copy a Datum: the same text under other names. -/
namespace Go.Proofs.YtecdniimikfbhaaGreatDoor
open Go Go.RowKit Go.ChangeShapes Go.WideShapes

set_option maxRecDepth 100000 in
set_option maxHeartbeats 3200000 in
theorem dclone_any {w0 : World} {v : Value} {d : D} (h : Rep w0 v d) : Slim d → ∀ (w : World), Below w0.heap.size w0 w →
    Calls Tryz.prog 107 #[v] w fun x w' => ∃ v', x = .returned v' ∧ RepQ w' (fun b => w.heap.size ≤ b) v' d ∧ Below w.heap.size w w' := by
  induction h with
  | mk k m b t a cap g o c kids hw ha hc hk ih =>
    intro hsl w hb
    obtain ⟨hn, hks⟩ := hsl.inv
    obtain ⟨i0, hi, hz0, hz1, hz2⟩ := info_parts info25
    have HI := Lib.hid ih
    have HA := Lib.hid ha
    have HC := Lib.hid hc
    have HW := Lib.hid hw
    have HS := Lib.hid hks
    have HK := Lib.hid hk
    clear ih ha hc hk hw hsl hks
    obtain ⟨W1, hW1⟩ : ∃ W1, W1 = (w.alloc (.cells #[.int .i64 k, .int .i64 m, .int .u64 b, .string t, .slice none 0 0] 25)).alloc (.cells #[.int .i64 0, .int .i64 0, .int .u64 0, .string ⟨#[]⟩, .slice none 0 0] 25) := ⟨_, rfl⟩
    have hbW : Below w.heap.size w W1 := by rw [hW1]; go_grown
    have hzW : W1.heap.size = w.heap.size + 2 := by rw [hW1]; simp
    have hx1 : Box5 W1 w.heap.size (.int .i64 k) (.int .i64 m) (.int .u64 b) (.string t) (.slice none 0 0) := by
      rw [hW1]; exact Box5.keep (heap_alloc_new w _) (((Below.refl _ _).alloc (Nat.le_refl _) _).block _ (by simp))
    have hx2 : Box5 W1 (w.heap.size + 1) (.int .i64 0) (.int .i64 0) (.int .u64 0) (.string ⟨#[]⟩) (.slice none 0 0) := by
      rw [hW1]
      have h := heap_alloc_new (w.alloc (.cells #[.int .i64 k, .int .i64 m, .int .u64 b, .string t, .slice none 0 0] 25)) (.cells #[.int .i64 0, .int .i64 0, .int .u64 0, .string ⟨#[]⟩, .slice none 0 0] 25)
      simpa [Box5] using h
    have hB0 : Below w0.heap.size w0 W1 := hb.trans (hbW.mono hb.size)
    go_enter Tryz.func107, Tryz.ntmps107
    go_wp2_with fail
    rw [← hW1]
    clear hW1
    go_loopw [11] (fun i wr => ∃ (j : Nat) (a2 : Option Addr) (cap2 : Nat), j ≤ kids.length ∧ i = .int .i64 j ∧ Box5 wr w.heap.size (.int .i64 k) (.int .i64 m) (.int .u64 b) (.string t) (.slice a2 j cap2) ∧
      Box5 wr (w.heap.size + 1) (.int .i64 0) (.int .i64 0) (.int .u64 0) (.string ⟨#[]⟩) (.slice none 0 0) ∧ OwnQ wr (w.heap.size + 2) (.slice a2 j cap2) (kids.take j) ∧ Below w.heap.size w wr ∧ w.heap.size + 2 ≤ wr.heap.size) (fun i _ => kids.length - (intOf i).toNat)
    case atStart => exact ⟨0, none, 0, by omega, rfl, hx1, hx2, OwnQ.nil _ _, hbW, by omega⟩
    case round =>
      obtain ⟨j, a2, cap2, hj, rfl, hy1, hy2, hO, hbr, hzr⟩ := hrel
      clear hx1 hx2 hbW hzW
      by_cases hlt : j < kids.length
      · obtain ⟨rfl, hg, hcp, hcm⟩ := HA.out (by omega)
        have hB1 : Below w0.heap.size w0 wr := hb.trans (hbr.mono hb.size)
        obtain ⟨q0, q1, q2, q3, q4⟩ := (HC.out.below hg hB1) j hlt
        have hx : kids[j]? = some kids[j] := List.getElem?_eq_getElem hlt
        have HX := Lib.hid (HI.out j _ hx (HS.out _ (List.getElem_mem hlt)))
        obtain ⟨k2, m2, b2, t2, a3, cap3, g3, o3, c3, kids3, e5, e6, hw3, _⟩ := (HK.out j _ hx).inv
        obtain ⟨f0, f1, f2, f3, f4⟩ := five_inv e5
        rw [f0] at q0
        rw [f1] at q1
        rw [f2] at q2
        rw [f3] at q3
        rw [f4] at q4
        rw [e5] at HX
        generalize hkj : kids[j] = x at *
        generalize kids3.length = n3 at *
        clear hx e6 f0 f1 f2 f3 f4 e5
        obtain ⟨W3, hW3⟩ : ∃ W3, W3 = wr.alloc (.cells #[.int .i64 k2, .int .i64 m2, .int .u64 b2, .string t2, .slice a3 n3 cap3] 25) := ⟨_, rfl⟩
        have hb3 : Below wr.heap.size wr W3 := by rw [hW3]; exact (Below.refl _ _).alloc (Nat.le_refl _) _
        have hz3 : W3.heap.size = wr.heap.size + 1 := by rw [hW3]; simp
        have hv1 : Box5 W3 w.heap.size (.int .i64 k) (.int .i64 m) (.int .u64 b) (.string t) (.slice a2 j cap2) := hy1.keep (hb3.block _ (by omega))
        have hv2 : Box5 W3 (w.heap.size + 1) (.int .i64 0) (.int .i64 0) (.int .u64 0) (.string ⟨#[]⟩) (.slice none 0 0) := hy2.keep (hb3.block _ (by omega))
        have hv3 : Box5 W3 wr.heap.size (.int .i64 k2) (.int .i64 m2) (.int .u64 b2) (.string t2) (.slice a3 n3 cap3) := by rw [hW3]; exact heap_alloc_new wr _
        have hO3 : OwnQ W3 (w.heap.size + 2) (.slice a2 j cap2) (kids.take j) := hO.carry (fun b _ hl => hb3.block b hl) (by omega)
        have hB3 : Below w0.heap.size w0 W3 := hB1.trans (hb3.mono hB1.size)
        have hbw3 : Below w.heap.size w W3 := hbr.trans (hb3.mono hbr.size)
        have HX2 := Lib.hid (fun w' (h : Below W3.heap.size W3 w') => HX.out w' (hB3.trans (h.mono hB3.size)))
        go_upto_region 6 with fail
        rw [← hW3]
        obtain ⟨_, _, _, _, p4⟩ := hv1.cells
        have pf := hv1.thaw 4
        obtain ⟨g0, g1, g2, g3, g4⟩ := hv3.cells
        obtain ⟨cc, hown, hkk⟩ := hO3
        have htl : (kids.take j).length = j := by rw [List.length_take]; omega
        rw [htl] at hown
        have HKK := Lib.hid hkk
        clear hkk
        clear hW3 hy1 hy2 hO HX q0 q1 q2 q3 q4
        have hone : ∀ (k5 m5 b5 : Int) (t5 : ByteArray) (a5 : Option Addr) (n5 cap5 : Nat), ∀ u ∈ [Value.int .i64 k5, .int .i64 m5, .int .u64 b5, .string t5, .slice a5 n5 cap5], u.oneCell' = true := fun k5 m5 b5 t5 a5 n5 cap5 u hu => by
          simp at hu
          rcases hu with rfl | rfl | rfl | rfl | rfl <;> rfl
        have hj1 : j + 1 ≤ maxLen := by unfold maxLen; omega
        have hj2 : (j + 1) * 64 ≤ 140737488355328 := by omega
        have hO1 := Lib.hid hone
        clear hone
        go_region_law (first
          | (refine step_append_lies _ (by rfl) (.tmp 16) (.tmp 19) 23 (by rfl) (w.heap.size + 2) 25 i0 (.agg #[.int .i64 0, .int .i64 0, .int .u64 0, .string ⟨#[]⟩, .slice none 0 0]) 5 64 Tryz.underlying23 hi hz0 hz1 hz2 (by rfl) (by decide) _ _ _ (by rfl) (World.ownsRow.alloc hown4 _) ⟨ww.heap.size, 0, none⟩ 1 1 [.int .i64 k5, .int .i64 m5, .int .u64 b5, .string t5, .slice a5 n5 cap5] (by rfl) (by rfl) (World.news_of_block (heap_alloc_new ww _)) (hO1.out _ _ _ _ _ _ _) (by decide) hj1 hj2 (hbase _) _ (by rfl) ?_; intro g5 cap6 w5 hown5 hgrow hat hlt5; have hbx := Box5.behind hv1 hb4 hown4 hgrow (by omega); have hp5 := hbx.cells.2.2.2.2; have hpf := hbx.thaw 4)
          | (go_simp; go_at_call 107; refine (HX2.out _ (by go_grown)).mono ?_; rintro x ww ⟨v', rfl, hv', hb2⟩; obtain ⟨k5, m5, b5, t5, a5, n5, cap5, rfl⟩ := hv'.form; have hb4 : Below W3.heap.size W3 ww := Below.trans (by go_grown) hb2; have hown4 := owns_below hown hb4; have hz4 := hb4.size; have hbase : ∀ ob, w.heap.size + 2 ≤ (ww.alloc ob).heap.size := (fun ob => by simp; omega); have hp4 : ww.cell? ⟨w.heap.size, 4, none⟩ = some (.slice a2 j cap2) := (hb4.cell (p := ⟨w.heap.size, 4, none⟩) (by simp; omega)).trans p4; have hp6 : ∀ ob, (ww.alloc ob).cell? ⟨w.heap.size, 4, none⟩ = some (.slice a2 j cap2) := (fun ob => (World.cell?_of_block (w := ww) (heap_alloc_old ww ob (show w.heap.size < ww.heap.size by omega))).trans hp4); (try dsimp only)))
        all_goals (
          have hO5 := OwnQ.behind htl hown HKK.out hb4 (by rfl) (by omega) hv' hown5 hgrow hat
          have hbx2 := Box5.behind hv2 hb4 hown4 hgrow (by omega)
          have hz5 := hgrow.size
          have hbw5 : Below w.heap.size w w5 := Below.grown ((hbw3.trans (hb4.mono (by omega))).alloc (by omega) _) hgrow (by simp; omega) (fun r hr => Nat.le_trans (by omega) (World.ownsRow.lt hown4 r hr).1)
          have hO6 := hO5.carry (w1 := w5.setCell ⟨w.heap.size, 4, none⟩ (.slice (some ⟨g5, 0, none⟩) (j + 1) cap6)) (fun b hb _ => heap_setCell_other _ _ _ _ (by simp; omega)) (by simp)
          have htk : kids.take (j + 1) = kids.take j ++ [x] := by rw [List.take_succ_eq_append_getElem hlt, hkj]
          rw [← htk] at hO6
          have hbx3 := hbx.set4 (.slice (some ⟨g5, 0, none⟩) (j + 1) cap6)
          have hbx4 := hbx2.keep (w1 := w5.setCell ⟨w.heap.size, 4, none⟩ (.slice (some ⟨g5, 0, none⟩) (j + 1) cap6)) (heap_setCell_other _ _ _ _ (by simp))
          have hbw6 := hbw5.setCell (p := ⟨w.heap.size, 4, none⟩) (Nat.le_refl _) (.slice (some ⟨g5, 0, none⟩) (j + 1) cap6)
          have hz6 : w.heap.size + 2 ≤ (w5.setCell ⟨w.heap.size, 4, none⟩ (.slice (some ⟨g5, 0, none⟩) (j + 1) cap6)).heap.size := by simp at hz5 ⊢; omega
          generalize w5.setCell ⟨w.heap.size, 4, none⟩ (.slice (some ⟨g5, 0, none⟩) (j + 1) cap6) = w6 at *
          clear hgrow hat hown5 hown4 hown hv' hO5 hbx hbx2 hv1 hv2 hv3 hp4 hp5 hp6 hpf p4 pf hbase hlt5
          go_wp2_with fail
          go_roundw
          case rel => exact ⟨j + 1, _, cap6, by omega, by go_num, hbx3, hbx4, hO6, hbw6, hz6⟩
          case measure => simp [intOf]; omega)
      · obtain rfl : j = kids.length := by omega
        rw [List.take_length] at hO
        obtain ⟨z0, z1, z2, z3, z4⟩ := hy1.cells
        have zf := hy2.thaw
        obtain ⟨y0, y1, y2, y3, y4⟩ := hy2.cells
        have hne : w.heap.size + 1 ≠ w.heap.size := by omega
        go_wp2_with fail
        have hF := hy2.set5 (.int .i64 k) (.int .i64 m) (.int .u64 b) (.string t) (.slice a2 kids.length cap2)
        have hFo := set5_other wr (w.heap.size + 1) (.int .i64 k) (.int .i64 m) (.int .u64 b) (.string t) (.slice a2 kids.length cap2)
        have hFs := set5_size wr (w.heap.size + 1) (.int .i64 k) (.int .i64 m) (.int .u64 b) (.string t) (.slice a2 kids.length cap2)
        have hFb : Below w.heap.size w (((((wr.setCell ⟨w.heap.size + 1, 0, none⟩ (.int .i64 k)).setCell ⟨w.heap.size + 1, 1, none⟩ (.int .i64 m)).setCell ⟨w.heap.size + 1, 2, none⟩ (.int .u64 b)).setCell ⟨w.heap.size + 1, 3, none⟩ (.string t)).setCell ⟨w.heap.size + 1, 4, none⟩ (.slice a2 kids.length cap2)) :=
          ((((hbr.setCell (p := ⟨w.heap.size + 1, 0, none⟩) (by simp) _).setCell (p := ⟨w.heap.size + 1, 1, none⟩) (by simp) _).setCell (p := ⟨w.heap.size + 1, 2, none⟩) (by simp) _).setCell (p := ⟨w.heap.size + 1, 3, none⟩) (by simp) _).setCell (p := ⟨w.heap.size + 1, 4, none⟩) (by simp) _
        generalize ((((wr.setCell ⟨w.heap.size + 1, 0, none⟩ (.int .i64 k)).setCell ⟨w.heap.size + 1, 1, none⟩ (.int .i64 m)).setCell ⟨w.heap.size + 1, 2, none⟩ (.int .u64 b)).setCell ⟨w.heap.size + 1, 3, none⟩ (.string t)).setCell ⟨w.heap.size + 1, 4, none⟩ (.slice a2 kids.length cap2) = Wf at *
        obtain ⟨r0, r1, r2, r3, r4⟩ := hF.cells
        have hO2 : OwnQ Wf (w.heap.size + 2) (.slice a2 kids.length cap2) kids := hO.carry (fun b hb _ => hFo b (by omega)) (by omega)
        have hR := (hO2.repQ HW.out).carry (Q1 := fun b => w.heap.size ≤ b) (fun b hb _ => ⟨rfl, by omega⟩) (Nat.le_refl _)
        refine bodyPost_ret (v := .agg #[.int .i64 k, .int .i64 m, .int .u64 b, .string t, .slice a2 kids.length cap2]) ?_ rfl ?_
        · exact results_cell_row rfl _ Wf (w.heap.size + 1) 25 _ (0, 0) _ rfl hF Tryz.underlying25 rfl (by kernel_rfl)
        · exact ⟨_, rfl, hR, hFb⟩

set_option maxRecDepth 100000 in
set_option maxHeartbeats 3200000 in
theorem wown_any {w0 : World} {v : Value} {d : D} (h : Rep w0 v d) : Slim d → ∀ (w : World), Below w0.heap.size w0 w →
    Calls Tryz.prog 111 #[v] w fun x w' => ∃ v', x = .returned v' ∧ RepQ w' (fun b => w.heap.size ≤ b) v' d ∧ Below w.heap.size w w' := by
  induction h with
  | mk k m b t a cap g o c kids hw ha hc hk ih =>
    intro hsl w hb
    obtain ⟨hn, hks⟩ := hsl.inv
    obtain ⟨i0, hi, hz0, hz1, hz2⟩ := info_parts info25
    have HI := Lib.hid ih
    have HA := Lib.hid ha
    have HC := Lib.hid hc
    have HW := Lib.hid hw
    have HS := Lib.hid hks
    have HK := Lib.hid hk
    clear ih ha hc hk hw hsl hks
    obtain ⟨W1, hW1⟩ : ∃ W1, W1 = (w.alloc (.cells #[.int .i64 k, .int .i64 m, .int .u64 b, .string t, .slice none 0 0] 25)).alloc (.cells #[.int .i64 0, .int .i64 0, .int .u64 0, .string ⟨#[]⟩, .slice none 0 0] 25) := ⟨_, rfl⟩
    have hbW : Below w.heap.size w W1 := by rw [hW1]; go_grown
    have hzW : W1.heap.size = w.heap.size + 2 := by rw [hW1]; simp
    have hx1 : Box5 W1 w.heap.size (.int .i64 k) (.int .i64 m) (.int .u64 b) (.string t) (.slice none 0 0) := by
      rw [hW1]; exact Box5.keep (heap_alloc_new w _) (((Below.refl _ _).alloc (Nat.le_refl _) _).block _ (by simp))
    have hx2 : Box5 W1 (w.heap.size + 1) (.int .i64 0) (.int .i64 0) (.int .u64 0) (.string ⟨#[]⟩) (.slice none 0 0) := by
      rw [hW1]
      have h := heap_alloc_new (w.alloc (.cells #[.int .i64 k, .int .i64 m, .int .u64 b, .string t, .slice none 0 0] 25)) (.cells #[.int .i64 0, .int .i64 0, .int .u64 0, .string ⟨#[]⟩, .slice none 0 0] 25)
      simpa [Box5] using h
    have hB0 : Below w0.heap.size w0 W1 := hb.trans (hbW.mono hb.size)
    go_enter Tryz.func111, Tryz.ntmps111
    go_wp2_with fail
    rw [← hW1]
    clear hW1
    go_loopw [11] (fun i wr => ∃ (j : Nat) (a2 : Option Addr) (cap2 : Nat), j ≤ kids.length ∧ i = .int .i64 j ∧ Box5 wr w.heap.size (.int .i64 k) (.int .i64 m) (.int .u64 b) (.string t) (.slice a2 j cap2) ∧
      Box5 wr (w.heap.size + 1) (.int .i64 0) (.int .i64 0) (.int .u64 0) (.string ⟨#[]⟩) (.slice none 0 0) ∧ OwnQ wr (w.heap.size + 2) (.slice a2 j cap2) (kids.take j) ∧ Below w.heap.size w wr ∧ w.heap.size + 2 ≤ wr.heap.size) (fun i _ => kids.length - (intOf i).toNat)
    case atStart => exact ⟨0, none, 0, by omega, rfl, hx1, hx2, OwnQ.nil _ _, hbW, by omega⟩
    case round =>
      obtain ⟨j, a2, cap2, hj, rfl, hy1, hy2, hO, hbr, hzr⟩ := hrel
      clear hx1 hx2 hbW hzW
      by_cases hlt : j < kids.length
      · obtain ⟨rfl, hg, hcp, hcm⟩ := HA.out (by omega)
        have hB1 : Below w0.heap.size w0 wr := hb.trans (hbr.mono hb.size)
        obtain ⟨q0, q1, q2, q3, q4⟩ := (HC.out.below hg hB1) j hlt
        have hx : kids[j]? = some kids[j] := List.getElem?_eq_getElem hlt
        have HX := Lib.hid (HI.out j _ hx (HS.out _ (List.getElem_mem hlt)))
        obtain ⟨k2, m2, b2, t2, a3, cap3, g3, o3, c3, kids3, e5, e6, hw3, _⟩ := (HK.out j _ hx).inv
        obtain ⟨f0, f1, f2, f3, f4⟩ := five_inv e5
        rw [f0] at q0
        rw [f1] at q1
        rw [f2] at q2
        rw [f3] at q3
        rw [f4] at q4
        rw [e5] at HX
        generalize hkj : kids[j] = x at *
        generalize kids3.length = n3 at *
        clear hx e6 f0 f1 f2 f3 f4 e5
        obtain ⟨W3, hW3⟩ : ∃ W3, W3 = wr.alloc (.cells #[.int .i64 k2, .int .i64 m2, .int .u64 b2, .string t2, .slice a3 n3 cap3] 25) := ⟨_, rfl⟩
        have hb3 : Below wr.heap.size wr W3 := by rw [hW3]; exact (Below.refl _ _).alloc (Nat.le_refl _) _
        have hz3 : W3.heap.size = wr.heap.size + 1 := by rw [hW3]; simp
        have hv1 : Box5 W3 w.heap.size (.int .i64 k) (.int .i64 m) (.int .u64 b) (.string t) (.slice a2 j cap2) := hy1.keep (hb3.block _ (by omega))
        have hv2 : Box5 W3 (w.heap.size + 1) (.int .i64 0) (.int .i64 0) (.int .u64 0) (.string ⟨#[]⟩) (.slice none 0 0) := hy2.keep (hb3.block _ (by omega))
        have hv3 : Box5 W3 wr.heap.size (.int .i64 k2) (.int .i64 m2) (.int .u64 b2) (.string t2) (.slice a3 n3 cap3) := by rw [hW3]; exact heap_alloc_new wr _
        have hO3 : OwnQ W3 (w.heap.size + 2) (.slice a2 j cap2) (kids.take j) := hO.carry (fun b _ hl => hb3.block b hl) (by omega)
        have hB3 : Below w0.heap.size w0 W3 := hB1.trans (hb3.mono hB1.size)
        have hbw3 : Below w.heap.size w W3 := hbr.trans (hb3.mono hbr.size)
        have HX2 := Lib.hid (fun w' (h : Below W3.heap.size W3 w') => HX.out w' (hB3.trans (h.mono hB3.size)))
        go_upto_region 6 with fail
        rw [← hW3]
        obtain ⟨_, _, _, _, p4⟩ := hv1.cells
        have pf := hv1.thaw 4
        obtain ⟨g0, g1, g2, g3, g4⟩ := hv3.cells
        obtain ⟨cc, hown, hkk⟩ := hO3
        have htl : (kids.take j).length = j := by rw [List.length_take]; omega
        rw [htl] at hown
        have HKK := Lib.hid hkk
        clear hkk
        clear hW3 hy1 hy2 hO HX q0 q1 q2 q3 q4
        have hone : ∀ (k5 m5 b5 : Int) (t5 : ByteArray) (a5 : Option Addr) (n5 cap5 : Nat), ∀ u ∈ [Value.int .i64 k5, .int .i64 m5, .int .u64 b5, .string t5, .slice a5 n5 cap5], u.oneCell' = true := fun k5 m5 b5 t5 a5 n5 cap5 u hu => by
          simp at hu
          rcases hu with rfl | rfl | rfl | rfl | rfl <;> rfl
        have hj1 : j + 1 ≤ maxLen := by unfold maxLen; omega
        have hj2 : (j + 1) * 64 ≤ 140737488355328 := by omega
        have hO1 := Lib.hid hone
        clear hone
        go_region_law (first
          | (refine step_append_lies _ (by rfl) (.tmp 16) (.tmp 19) 23 (by rfl) (w.heap.size + 2) 25 i0 (.agg #[.int .i64 0, .int .i64 0, .int .u64 0, .string ⟨#[]⟩, .slice none 0 0]) 5 64 Tryz.underlying23 hi hz0 hz1 hz2 (by rfl) (by decide) _ _ _ (by rfl) (World.ownsRow.alloc hown4 _) ⟨ww.heap.size, 0, none⟩ 1 1 [.int .i64 k5, .int .i64 m5, .int .u64 b5, .string t5, .slice a5 n5 cap5] (by rfl) (by rfl) (World.news_of_block (heap_alloc_new ww _)) (hO1.out _ _ _ _ _ _ _) (by decide) hj1 hj2 (hbase _) _ (by rfl) ?_; intro g5 cap6 w5 hown5 hgrow hat hlt5; have hbx := Box5.behind hv1 hb4 hown4 hgrow (by omega); have hp5 := hbx.cells.2.2.2.2; have hpf := hbx.thaw 4)
          | (go_simp; go_at_call 111; refine (HX2.out _ (by go_grown)).mono ?_; rintro x ww ⟨v', rfl, hv', hb2⟩; obtain ⟨k5, m5, b5, t5, a5, n5, cap5, rfl⟩ := hv'.form; have hb4 : Below W3.heap.size W3 ww := Below.trans (by go_grown) hb2; have hown4 := owns_below hown hb4; have hz4 := hb4.size; have hbase : ∀ ob, w.heap.size + 2 ≤ (ww.alloc ob).heap.size := (fun ob => by simp; omega); have hp4 : ww.cell? ⟨w.heap.size, 4, none⟩ = some (.slice a2 j cap2) := (hb4.cell (p := ⟨w.heap.size, 4, none⟩) (by simp; omega)).trans p4; have hp6 : ∀ ob, (ww.alloc ob).cell? ⟨w.heap.size, 4, none⟩ = some (.slice a2 j cap2) := (fun ob => (World.cell?_of_block (w := ww) (heap_alloc_old ww ob (show w.heap.size < ww.heap.size by omega))).trans hp4); (try dsimp only)))
        all_goals (
          have hO5 := OwnQ.behind htl hown HKK.out hb4 (by rfl) (by omega) hv' hown5 hgrow hat
          have hbx2 := Box5.behind hv2 hb4 hown4 hgrow (by omega)
          have hz5 := hgrow.size
          have hbw5 : Below w.heap.size w w5 := Below.grown ((hbw3.trans (hb4.mono (by omega))).alloc (by omega) _) hgrow (by simp; omega) (fun r hr => Nat.le_trans (by omega) (World.ownsRow.lt hown4 r hr).1)
          have hO6 := hO5.carry (w1 := w5.setCell ⟨w.heap.size, 4, none⟩ (.slice (some ⟨g5, 0, none⟩) (j + 1) cap6)) (fun b hb _ => heap_setCell_other _ _ _ _ (by simp; omega)) (by simp)
          have htk : kids.take (j + 1) = kids.take j ++ [x] := by rw [List.take_succ_eq_append_getElem hlt, hkj]
          rw [← htk] at hO6
          have hbx3 := hbx.set4 (.slice (some ⟨g5, 0, none⟩) (j + 1) cap6)
          have hbx4 := hbx2.keep (w1 := w5.setCell ⟨w.heap.size, 4, none⟩ (.slice (some ⟨g5, 0, none⟩) (j + 1) cap6)) (heap_setCell_other _ _ _ _ (by simp))
          have hbw6 := hbw5.setCell (p := ⟨w.heap.size, 4, none⟩) (Nat.le_refl _) (.slice (some ⟨g5, 0, none⟩) (j + 1) cap6)
          have hz6 : w.heap.size + 2 ≤ (w5.setCell ⟨w.heap.size, 4, none⟩ (.slice (some ⟨g5, 0, none⟩) (j + 1) cap6)).heap.size := by simp at hz5 ⊢; omega
          generalize w5.setCell ⟨w.heap.size, 4, none⟩ (.slice (some ⟨g5, 0, none⟩) (j + 1) cap6) = w6 at *
          clear hgrow hat hown5 hown4 hown hv' hO5 hbx hbx2 hv1 hv2 hv3 hp4 hp5 hp6 hpf p4 pf hbase hlt5
          go_wp2_with fail
          go_roundw
          case rel => exact ⟨j + 1, _, cap6, by omega, by go_num, hbx3, hbx4, hO6, hbw6, hz6⟩
          case measure => simp [intOf]; omega)
      · obtain rfl : j = kids.length := by omega
        rw [List.take_length] at hO
        obtain ⟨z0, z1, z2, z3, z4⟩ := hy1.cells
        have zf := hy2.thaw
        obtain ⟨y0, y1, y2, y3, y4⟩ := hy2.cells
        have hne : w.heap.size + 1 ≠ w.heap.size := by omega
        go_wp2_with fail
        have hF := hy2.set5 (.int .i64 k) (.int .i64 m) (.int .u64 b) (.string t) (.slice a2 kids.length cap2)
        have hFo := set5_other wr (w.heap.size + 1) (.int .i64 k) (.int .i64 m) (.int .u64 b) (.string t) (.slice a2 kids.length cap2)
        have hFs := set5_size wr (w.heap.size + 1) (.int .i64 k) (.int .i64 m) (.int .u64 b) (.string t) (.slice a2 kids.length cap2)
        have hFb : Below w.heap.size w (((((wr.setCell ⟨w.heap.size + 1, 0, none⟩ (.int .i64 k)).setCell ⟨w.heap.size + 1, 1, none⟩ (.int .i64 m)).setCell ⟨w.heap.size + 1, 2, none⟩ (.int .u64 b)).setCell ⟨w.heap.size + 1, 3, none⟩ (.string t)).setCell ⟨w.heap.size + 1, 4, none⟩ (.slice a2 kids.length cap2)) :=
          ((((hbr.setCell (p := ⟨w.heap.size + 1, 0, none⟩) (by simp) _).setCell (p := ⟨w.heap.size + 1, 1, none⟩) (by simp) _).setCell (p := ⟨w.heap.size + 1, 2, none⟩) (by simp) _).setCell (p := ⟨w.heap.size + 1, 3, none⟩) (by simp) _).setCell (p := ⟨w.heap.size + 1, 4, none⟩) (by simp) _
        generalize ((((wr.setCell ⟨w.heap.size + 1, 0, none⟩ (.int .i64 k)).setCell ⟨w.heap.size + 1, 1, none⟩ (.int .i64 m)).setCell ⟨w.heap.size + 1, 2, none⟩ (.int .u64 b)).setCell ⟨w.heap.size + 1, 3, none⟩ (.string t)).setCell ⟨w.heap.size + 1, 4, none⟩ (.slice a2 kids.length cap2) = Wf at *
        obtain ⟨r0, r1, r2, r3, r4⟩ := hF.cells
        have hO2 : OwnQ Wf (w.heap.size + 2) (.slice a2 kids.length cap2) kids := hO.carry (fun b hb _ => hFo b (by omega)) (by omega)
        have hR := (hO2.repQ HW.out).carry (Q1 := fun b => w.heap.size ≤ b) (fun b hb _ => ⟨rfl, by omega⟩) (Nat.le_refl _)
        refine bodyPost_ret (v := .agg #[.int .i64 k, .int .i64 m, .int .u64 b, .string t, .slice a2 kids.length cap2]) ?_ rfl ?_
        · exact results_cell_row rfl _ Wf (w.heap.size + 1) 25 _ (0, 0) _ rfl hF Tryz.underlying25 rfl (by kernel_rfl)
        · exact ⟨_, rfl, hR, hFb⟩

end Go.Proofs.YtecdniimikfbhaaGreatDoor

/- Contracts of want's sample, by kind. -/
namespace Go.Proofs.YtecdniimikfbhaaGreatDoor
open Go Go.RowKit Go.ChangeShapes Go.WideShapes

/-- The type of a kind's sample. -/
def sampT : Nat → TypeId
  | 1 => 164
  | 2 => 165
  | 3 => 166
  | 4 => 167
  | 5 => 168
  | 6 => 169
  | 7 => 170
  | 8 => 171
  | 9 => 173
  | 10 => 175
  | 11 => 176
  | 12 => 176
  | 13 => 179
  | _ => 0
theorem sample_1 (w : World) : Calls Tryz.prog 71 #[.int .i64 1] w fun x w' => x = .returned (.iface 164 (.int .i64 0)) ∧ Below w.heap.size w w' := by
  go_enter Tryz.func71, Tryz.ntmps71
  go_wp2_with fail
  go_ret
  exact ⟨rfl, by go_grown⟩
theorem sample_2 (w : World) : Calls Tryz.prog 71 #[.int .i64 2] w fun x w' => x = .returned (.iface 165 (.int .i64 0)) ∧ Below w.heap.size w w' := by
  go_enter Tryz.func71, Tryz.ntmps71
  go_wp2_with fail
  go_ret
  exact ⟨rfl, by go_grown⟩
theorem sample_3 (w : World) : Calls Tryz.prog 71 #[.int .i64 3] w fun x w' => (∃ v, x = .returned (.iface 166 v)) ∧ Below w.heap.size w w' := by
  go_enter Tryz.func71, Tryz.ntmps71
  go_wp2_with fail
  go_ret
  exact ⟨⟨_, rfl⟩, by go_grown⟩
theorem sample_4 (w : World) : Calls Tryz.prog 71 #[.int .i64 4] w fun x w' => x = .returned (.iface 167 (.string ⟨#[]⟩)) ∧ Below w.heap.size w w' := by
  go_enter Tryz.func71, Tryz.ntmps71
  go_wp2_with fail
  go_ret
  exact ⟨rfl, by go_grown⟩
theorem sample_5 (w : World) : Calls Tryz.prog 71 #[.int .i64 5] w fun x w' => x = .returned (.iface 168 (.string ⟨#[]⟩)) ∧ Below w.heap.size w w' := by
  go_enter Tryz.func71, Tryz.ntmps71
  go_wp2_with fail
  go_ret
  exact ⟨rfl, by go_grown⟩
theorem sample_6 (w : World) : Calls Tryz.prog 71 #[.int .i64 6] w fun x w' => x = .returned (.iface 169 (.bool false)) ∧ Below w.heap.size w w' := by
  go_enter Tryz.func71, Tryz.ntmps71
  go_wp2_with fail
  go_ret
  exact ⟨rfl, by go_grown⟩
theorem sample_7 (w : World) : Calls Tryz.prog 71 #[.int .i64 7] w fun x w' => x = .returned (.iface 170 (.slice none 0 0)) ∧ Below w.heap.size w w' := by
  go_enter Tryz.func71, Tryz.ntmps71
  go_wp2_with fail
  go_ret
  exact ⟨rfl, by go_grown⟩
theorem sample_8 (w : World) : Calls Tryz.prog 71 #[.int .i64 8] w fun x w' => x = .returned (.iface 171 (.slice none 0 0)) ∧ Below w.heap.size w w' := by
  go_enter Tryz.func71, Tryz.ntmps71
  go_wp2_with fail
  go_ret
  exact ⟨rfl, by go_grown⟩
theorem sample_9 (w : World) : Calls Tryz.prog 71 #[.int .i64 9] w fun x w' => x = .returned (.iface 173 (.agg #[.nilIface, .nilIface])) ∧ Below w.heap.size w w' := by
  go_enter Tryz.func71, Tryz.ntmps71
  go_wp2_with fail
  go_ret
  exact ⟨rfl, by go_grown⟩
theorem sample_10 (w : World) : Calls Tryz.prog 71 #[.int .i64 10] w fun x w' => x = .returned (.iface 175 (.agg #[.int .i64 0])) ∧ Below w.heap.size w w' := by
  go_enter Tryz.func71, Tryz.ntmps71
  go_wp2_with fail
  go_ret
  exact ⟨rfl, by go_grown⟩
theorem sample_11 (w : World) : Calls Tryz.prog 71 #[.int .i64 11] w fun x w' => (∃ v, x = .returned (.iface 176 v)) ∧ Below w.heap.size w w' := by
  go_enter Tryz.func71, Tryz.ntmps71
  go_wp2_with fail
  go_ret
  exact ⟨⟨_, rfl⟩, by go_grown⟩
theorem sample_12 (w : World) : Calls Tryz.prog 71 #[.int .i64 12] w fun x w' => x = .returned (.iface 176 (.pointer none)) ∧ Below w.heap.size w w' := by
  go_enter Tryz.func71, Tryz.ntmps71
  go_wp2_with fail
  go_ret
  exact ⟨rfl, by go_grown⟩
theorem sample_13 (w : World) : Calls Tryz.prog 71 #[.int .i64 13] w fun x w' => x = .returned (.iface 179 (.agg #[])) ∧ Below w.heap.size w w' := by
  go_enter Tryz.func71, Tryz.ntmps71
  go_wp2_with fail
  go_ret
  exact ⟨rfl, by go_grown⟩
theorem sample_0 (w : World) : Calls Tryz.prog 71 #[.int .i64 0] w fun x w' => x = .returned .nilIface ∧ Below w.heap.size w w' := by
  go_enter Tryz.func71, Tryz.ntmps71
  go_wp2_with fail
  go_ret
  exact ⟨rfl, by go_grown⟩
/-- Whatever the kind: nil, or a value of its type. -/
theorem sample_any (k : Nat) (hk : k ≤ 13) (w : World) : Calls Tryz.prog 71 #[.int .i64 k] w fun x w' => (k = 0 ∧ x = .returned .nilIface ∨ 1 ≤ k ∧ ∃ v, x = .returned (.iface (sampT k) v)) ∧ Below w.heap.size w w' := by
  match k, hk with
  | 0, _ => exact (sample_0 w).mono fun x w' ⟨h, hb⟩ => ⟨Or.inl ⟨rfl, h⟩, hb⟩
  | 1, _ => exact (sample_1 w).mono fun x w' ⟨h, hb⟩ => ⟨Or.inr ⟨by omega, _, h⟩, hb⟩
  | 2, _ => exact (sample_2 w).mono fun x w' ⟨h, hb⟩ => ⟨Or.inr ⟨by omega, _, h⟩, hb⟩
  | 3, _ => exact (sample_3 w).mono fun x w' ⟨h, hb⟩ => ⟨Or.inr ⟨by omega, h⟩, hb⟩
  | 4, _ => exact (sample_4 w).mono fun x w' ⟨h, hb⟩ => ⟨Or.inr ⟨by omega, _, h⟩, hb⟩
  | 5, _ => exact (sample_5 w).mono fun x w' ⟨h, hb⟩ => ⟨Or.inr ⟨by omega, _, h⟩, hb⟩
  | 6, _ => exact (sample_6 w).mono fun x w' ⟨h, hb⟩ => ⟨Or.inr ⟨by omega, _, h⟩, hb⟩
  | 7, _ => exact (sample_7 w).mono fun x w' ⟨h, hb⟩ => ⟨Or.inr ⟨by omega, _, h⟩, hb⟩
  | 8, _ => exact (sample_8 w).mono fun x w' ⟨h, hb⟩ => ⟨Or.inr ⟨by omega, _, h⟩, hb⟩
  | 9, _ => exact (sample_9 w).mono fun x w' ⟨h, hb⟩ => ⟨Or.inr ⟨by omega, _, h⟩, hb⟩
  | 10, _ => exact (sample_10 w).mono fun x w' ⟨h, hb⟩ => ⟨Or.inr ⟨by omega, _, h⟩, hb⟩
  | 11, _ => exact (sample_11 w).mono fun x w' ⟨h, hb⟩ => ⟨Or.inr ⟨by omega, h⟩, hb⟩
  | 12, _ => exact (sample_12 w).mono fun x w' ⟨h, hb⟩ => ⟨Or.inr ⟨by omega, _, h⟩, hb⟩
  | 13, _ => exact (sample_13 w).mono fun x w' ⟨h, hb⟩ => ⟨Or.inr ⟨by omega, _, h⟩, hb⟩
  | n + 14, h => omega
end Go.Proofs.YtecdniimikfbhaaGreatDoor

/- Contracts of want's typed: whatever the value, whether its type is a kind's. -/
namespace Go.Proofs.YtecdniimikfbhaaGreatDoor
open Go Go.RowKit Go.ChangeShapes Go.WideShapes

theorem ta1_1 (v : Value) (w : World) : (Instr.typeAssert (.iface 164 v) 20 164 true).run Tryz.prog w = .ok (.tuple #[v, .bool true]) w := by kernel_rfl
theorem ta2_1 (v : Value) (w : World) : (Instr.typeAssert (.iface 165 v) 20 164 true).run Tryz.prog w = .ok (.tuple #[.int .i64 0, .bool false]) w := by kernel_rfl
theorem ta2_2 (v : Value) (w : World) : (Instr.typeAssert (.iface 165 v) 20 165 true).run Tryz.prog w = .ok (.tuple #[v, .bool true]) w := by kernel_rfl
theorem ta3_1 (v : Value) (w : World) : (Instr.typeAssert (.iface 166 v) 20 164 true).run Tryz.prog w = .ok (.tuple #[.int .i64 0, .bool false]) w := by kernel_rfl
theorem ta3_2 (v : Value) (w : World) : (Instr.typeAssert (.iface 166 v) 20 165 true).run Tryz.prog w = .ok (.tuple #[.int .i64 0, .bool false]) w := by kernel_rfl
theorem ta3_3 (v : Value) (w : World) : (Instr.typeAssert (.iface 166 v) 20 166 true).run Tryz.prog w = .ok (.tuple #[v, .bool true]) w := by kernel_rfl
theorem ta4_1 (v : Value) (w : World) : (Instr.typeAssert (.iface 167 v) 20 164 true).run Tryz.prog w = .ok (.tuple #[.int .i64 0, .bool false]) w := by kernel_rfl
theorem ta4_2 (v : Value) (w : World) : (Instr.typeAssert (.iface 167 v) 20 165 true).run Tryz.prog w = .ok (.tuple #[.int .i64 0, .bool false]) w := by kernel_rfl
theorem ta4_3 (v : Value) (w : World) : (Instr.typeAssert (.iface 167 v) 20 166 true).run Tryz.prog w = .ok (.tuple #[.float .f64 0, .bool false]) w := by kernel_rfl
theorem ta4_4 (v : Value) (w : World) : (Instr.typeAssert (.iface 167 v) 20 167 true).run Tryz.prog w = .ok (.tuple #[v, .bool true]) w := by kernel_rfl
theorem ta5_1 (v : Value) (w : World) : (Instr.typeAssert (.iface 168 v) 20 164 true).run Tryz.prog w = .ok (.tuple #[.int .i64 0, .bool false]) w := by kernel_rfl
theorem ta5_2 (v : Value) (w : World) : (Instr.typeAssert (.iface 168 v) 20 165 true).run Tryz.prog w = .ok (.tuple #[.int .i64 0, .bool false]) w := by kernel_rfl
theorem ta5_3 (v : Value) (w : World) : (Instr.typeAssert (.iface 168 v) 20 166 true).run Tryz.prog w = .ok (.tuple #[.float .f64 0, .bool false]) w := by kernel_rfl
theorem ta5_4 (v : Value) (w : World) : (Instr.typeAssert (.iface 168 v) 20 167 true).run Tryz.prog w = .ok (.tuple #[.string ⟨#[]⟩, .bool false]) w := by kernel_rfl
theorem ta5_5 (v : Value) (w : World) : (Instr.typeAssert (.iface 168 v) 20 168 true).run Tryz.prog w = .ok (.tuple #[v, .bool true]) w := by kernel_rfl
theorem ta6_1 (v : Value) (w : World) : (Instr.typeAssert (.iface 169 v) 20 164 true).run Tryz.prog w = .ok (.tuple #[.int .i64 0, .bool false]) w := by kernel_rfl
theorem ta6_2 (v : Value) (w : World) : (Instr.typeAssert (.iface 169 v) 20 165 true).run Tryz.prog w = .ok (.tuple #[.int .i64 0, .bool false]) w := by kernel_rfl
theorem ta6_3 (v : Value) (w : World) : (Instr.typeAssert (.iface 169 v) 20 166 true).run Tryz.prog w = .ok (.tuple #[.float .f64 0, .bool false]) w := by kernel_rfl
theorem ta6_4 (v : Value) (w : World) : (Instr.typeAssert (.iface 169 v) 20 167 true).run Tryz.prog w = .ok (.tuple #[.string ⟨#[]⟩, .bool false]) w := by kernel_rfl
theorem ta6_5 (v : Value) (w : World) : (Instr.typeAssert (.iface 169 v) 20 168 true).run Tryz.prog w = .ok (.tuple #[.string ⟨#[]⟩, .bool false]) w := by kernel_rfl
theorem ta6_6 (v : Value) (w : World) : (Instr.typeAssert (.iface 169 v) 20 169 true).run Tryz.prog w = .ok (.tuple #[v, .bool true]) w := by kernel_rfl
theorem ta7_1 (v : Value) (w : World) : (Instr.typeAssert (.iface 170 v) 20 164 true).run Tryz.prog w = .ok (.tuple #[.int .i64 0, .bool false]) w := by kernel_rfl
theorem ta7_2 (v : Value) (w : World) : (Instr.typeAssert (.iface 170 v) 20 165 true).run Tryz.prog w = .ok (.tuple #[.int .i64 0, .bool false]) w := by kernel_rfl
theorem ta7_3 (v : Value) (w : World) : (Instr.typeAssert (.iface 170 v) 20 166 true).run Tryz.prog w = .ok (.tuple #[.float .f64 0, .bool false]) w := by kernel_rfl
theorem ta7_4 (v : Value) (w : World) : (Instr.typeAssert (.iface 170 v) 20 167 true).run Tryz.prog w = .ok (.tuple #[.string ⟨#[]⟩, .bool false]) w := by kernel_rfl
theorem ta7_5 (v : Value) (w : World) : (Instr.typeAssert (.iface 170 v) 20 168 true).run Tryz.prog w = .ok (.tuple #[.string ⟨#[]⟩, .bool false]) w := by kernel_rfl
theorem ta7_6 (v : Value) (w : World) : (Instr.typeAssert (.iface 170 v) 20 169 true).run Tryz.prog w = .ok (.tuple #[.bool false, .bool false]) w := by kernel_rfl
theorem ta7_7 (v : Value) (w : World) : (Instr.typeAssert (.iface 170 v) 20 170 true).run Tryz.prog w = .ok (.tuple #[v, .bool true]) w := by kernel_rfl
theorem ta8_1 (v : Value) (w : World) : (Instr.typeAssert (.iface 171 v) 20 164 true).run Tryz.prog w = .ok (.tuple #[.int .i64 0, .bool false]) w := by kernel_rfl
theorem ta8_2 (v : Value) (w : World) : (Instr.typeAssert (.iface 171 v) 20 165 true).run Tryz.prog w = .ok (.tuple #[.int .i64 0, .bool false]) w := by kernel_rfl
theorem ta8_3 (v : Value) (w : World) : (Instr.typeAssert (.iface 171 v) 20 166 true).run Tryz.prog w = .ok (.tuple #[.float .f64 0, .bool false]) w := by kernel_rfl
theorem ta8_4 (v : Value) (w : World) : (Instr.typeAssert (.iface 171 v) 20 167 true).run Tryz.prog w = .ok (.tuple #[.string ⟨#[]⟩, .bool false]) w := by kernel_rfl
theorem ta8_5 (v : Value) (w : World) : (Instr.typeAssert (.iface 171 v) 20 168 true).run Tryz.prog w = .ok (.tuple #[.string ⟨#[]⟩, .bool false]) w := by kernel_rfl
theorem ta8_6 (v : Value) (w : World) : (Instr.typeAssert (.iface 171 v) 20 169 true).run Tryz.prog w = .ok (.tuple #[.bool false, .bool false]) w := by kernel_rfl
theorem ta8_7 (v : Value) (w : World) : (Instr.typeAssert (.iface 171 v) 20 170 true).run Tryz.prog w = .ok (.tuple #[.slice none 0 0, .bool false]) w := by kernel_rfl
theorem ta8_8 (v : Value) (w : World) : (Instr.typeAssert (.iface 171 v) 20 171 true).run Tryz.prog w = .ok (.tuple #[v, .bool true]) w := by kernel_rfl
theorem ta9_1 (v : Value) (w : World) : (Instr.typeAssert (.iface 173 v) 20 164 true).run Tryz.prog w = .ok (.tuple #[.int .i64 0, .bool false]) w := by kernel_rfl
theorem ta9_2 (v : Value) (w : World) : (Instr.typeAssert (.iface 173 v) 20 165 true).run Tryz.prog w = .ok (.tuple #[.int .i64 0, .bool false]) w := by kernel_rfl
theorem ta9_3 (v : Value) (w : World) : (Instr.typeAssert (.iface 173 v) 20 166 true).run Tryz.prog w = .ok (.tuple #[.float .f64 0, .bool false]) w := by kernel_rfl
theorem ta9_4 (v : Value) (w : World) : (Instr.typeAssert (.iface 173 v) 20 167 true).run Tryz.prog w = .ok (.tuple #[.string ⟨#[]⟩, .bool false]) w := by kernel_rfl
theorem ta9_5 (v : Value) (w : World) : (Instr.typeAssert (.iface 173 v) 20 168 true).run Tryz.prog w = .ok (.tuple #[.string ⟨#[]⟩, .bool false]) w := by kernel_rfl
theorem ta9_6 (v : Value) (w : World) : (Instr.typeAssert (.iface 173 v) 20 169 true).run Tryz.prog w = .ok (.tuple #[.bool false, .bool false]) w := by kernel_rfl
theorem ta9_7 (v : Value) (w : World) : (Instr.typeAssert (.iface 173 v) 20 170 true).run Tryz.prog w = .ok (.tuple #[.slice none 0 0, .bool false]) w := by kernel_rfl
theorem ta9_8 (v : Value) (w : World) : (Instr.typeAssert (.iface 173 v) 20 171 true).run Tryz.prog w = .ok (.tuple #[.slice none 0 0, .bool false]) w := by kernel_rfl
theorem ta9_9 (v : Value) (w : World) : (Instr.typeAssert (.iface 173 v) 20 173 true).run Tryz.prog w = .ok (.tuple #[v, .bool true]) w := by kernel_rfl
theorem ta10_1 (v : Value) (w : World) : (Instr.typeAssert (.iface 175 v) 20 164 true).run Tryz.prog w = .ok (.tuple #[.int .i64 0, .bool false]) w := by kernel_rfl
theorem ta10_2 (v : Value) (w : World) : (Instr.typeAssert (.iface 175 v) 20 165 true).run Tryz.prog w = .ok (.tuple #[.int .i64 0, .bool false]) w := by kernel_rfl
theorem ta10_3 (v : Value) (w : World) : (Instr.typeAssert (.iface 175 v) 20 166 true).run Tryz.prog w = .ok (.tuple #[.float .f64 0, .bool false]) w := by kernel_rfl
theorem ta10_4 (v : Value) (w : World) : (Instr.typeAssert (.iface 175 v) 20 167 true).run Tryz.prog w = .ok (.tuple #[.string ⟨#[]⟩, .bool false]) w := by kernel_rfl
theorem ta10_5 (v : Value) (w : World) : (Instr.typeAssert (.iface 175 v) 20 168 true).run Tryz.prog w = .ok (.tuple #[.string ⟨#[]⟩, .bool false]) w := by kernel_rfl
theorem ta10_6 (v : Value) (w : World) : (Instr.typeAssert (.iface 175 v) 20 169 true).run Tryz.prog w = .ok (.tuple #[.bool false, .bool false]) w := by kernel_rfl
theorem ta10_7 (v : Value) (w : World) : (Instr.typeAssert (.iface 175 v) 20 170 true).run Tryz.prog w = .ok (.tuple #[.slice none 0 0, .bool false]) w := by kernel_rfl
theorem ta10_8 (v : Value) (w : World) : (Instr.typeAssert (.iface 175 v) 20 171 true).run Tryz.prog w = .ok (.tuple #[.slice none 0 0, .bool false]) w := by kernel_rfl
theorem ta10_9 (v : Value) (w : World) : (Instr.typeAssert (.iface 175 v) 20 173 true).run Tryz.prog w = .ok (.tuple #[.agg #[.nilIface, .nilIface], .bool false]) w := by kernel_rfl
theorem ta10_10 (v : Value) (w : World) : (Instr.typeAssert (.iface 175 v) 20 175 true).run Tryz.prog w = .ok (.tuple #[v, .bool true]) w := by kernel_rfl
theorem ta11_1 (v : Value) (w : World) : (Instr.typeAssert (.iface 176 v) 20 164 true).run Tryz.prog w = .ok (.tuple #[.int .i64 0, .bool false]) w := by kernel_rfl
theorem ta11_2 (v : Value) (w : World) : (Instr.typeAssert (.iface 176 v) 20 165 true).run Tryz.prog w = .ok (.tuple #[.int .i64 0, .bool false]) w := by kernel_rfl
theorem ta11_3 (v : Value) (w : World) : (Instr.typeAssert (.iface 176 v) 20 166 true).run Tryz.prog w = .ok (.tuple #[.float .f64 0, .bool false]) w := by kernel_rfl
theorem ta11_4 (v : Value) (w : World) : (Instr.typeAssert (.iface 176 v) 20 167 true).run Tryz.prog w = .ok (.tuple #[.string ⟨#[]⟩, .bool false]) w := by kernel_rfl
theorem ta11_5 (v : Value) (w : World) : (Instr.typeAssert (.iface 176 v) 20 168 true).run Tryz.prog w = .ok (.tuple #[.string ⟨#[]⟩, .bool false]) w := by kernel_rfl
theorem ta11_6 (v : Value) (w : World) : (Instr.typeAssert (.iface 176 v) 20 169 true).run Tryz.prog w = .ok (.tuple #[.bool false, .bool false]) w := by kernel_rfl
theorem ta11_7 (v : Value) (w : World) : (Instr.typeAssert (.iface 176 v) 20 170 true).run Tryz.prog w = .ok (.tuple #[.slice none 0 0, .bool false]) w := by kernel_rfl
theorem ta11_8 (v : Value) (w : World) : (Instr.typeAssert (.iface 176 v) 20 171 true).run Tryz.prog w = .ok (.tuple #[.slice none 0 0, .bool false]) w := by kernel_rfl
theorem ta11_9 (v : Value) (w : World) : (Instr.typeAssert (.iface 176 v) 20 173 true).run Tryz.prog w = .ok (.tuple #[.agg #[.nilIface, .nilIface], .bool false]) w := by kernel_rfl
theorem ta11_10 (v : Value) (w : World) : (Instr.typeAssert (.iface 176 v) 20 175 true).run Tryz.prog w = .ok (.tuple #[.agg #[.int .i64 0], .bool false]) w := by kernel_rfl
theorem ta11_11 (v : Value) (w : World) : (Instr.typeAssert (.iface 176 v) 20 176 true).run Tryz.prog w = .ok (.tuple #[v, .bool true]) w := by kernel_rfl
theorem ta13_1 (v : Value) (w : World) : (Instr.typeAssert (.iface 179 v) 20 164 true).run Tryz.prog w = .ok (.tuple #[.int .i64 0, .bool false]) w := by kernel_rfl
theorem ta13_2 (v : Value) (w : World) : (Instr.typeAssert (.iface 179 v) 20 165 true).run Tryz.prog w = .ok (.tuple #[.int .i64 0, .bool false]) w := by kernel_rfl
theorem ta13_3 (v : Value) (w : World) : (Instr.typeAssert (.iface 179 v) 20 166 true).run Tryz.prog w = .ok (.tuple #[.float .f64 0, .bool false]) w := by kernel_rfl
theorem ta13_4 (v : Value) (w : World) : (Instr.typeAssert (.iface 179 v) 20 167 true).run Tryz.prog w = .ok (.tuple #[.string ⟨#[]⟩, .bool false]) w := by kernel_rfl
theorem ta13_5 (v : Value) (w : World) : (Instr.typeAssert (.iface 179 v) 20 168 true).run Tryz.prog w = .ok (.tuple #[.string ⟨#[]⟩, .bool false]) w := by kernel_rfl
theorem ta13_6 (v : Value) (w : World) : (Instr.typeAssert (.iface 179 v) 20 169 true).run Tryz.prog w = .ok (.tuple #[.bool false, .bool false]) w := by kernel_rfl
theorem ta13_7 (v : Value) (w : World) : (Instr.typeAssert (.iface 179 v) 20 170 true).run Tryz.prog w = .ok (.tuple #[.slice none 0 0, .bool false]) w := by kernel_rfl
theorem ta13_8 (v : Value) (w : World) : (Instr.typeAssert (.iface 179 v) 20 171 true).run Tryz.prog w = .ok (.tuple #[.slice none 0 0, .bool false]) w := by kernel_rfl
theorem ta13_9 (v : Value) (w : World) : (Instr.typeAssert (.iface 179 v) 20 173 true).run Tryz.prog w = .ok (.tuple #[.agg #[.nilIface, .nilIface], .bool false]) w := by kernel_rfl
theorem ta13_10 (v : Value) (w : World) : (Instr.typeAssert (.iface 179 v) 20 175 true).run Tryz.prog w = .ok (.tuple #[.agg #[.int .i64 0], .bool false]) w := by kernel_rfl
theorem ta13_11 (v : Value) (w : World) : (Instr.typeAssert (.iface 179 v) 20 176 true).run Tryz.prog w = .ok (.tuple #[.pointer none, .bool false]) w := by kernel_rfl
theorem ta13_13 (v : Value) (w : World) : (Instr.typeAssert (.iface 179 v) 20 179 true).run Tryz.prog w = .ok (.tuple #[v, .bool true]) w := by kernel_rfl
attribute [local go_sem] ta1_1 ta2_1 ta2_2 ta3_1 ta3_2 ta3_3 ta4_1 ta4_2 ta4_3 ta4_4 ta5_1 ta5_2 ta5_3 ta5_4 ta5_5 ta6_1 ta6_2 ta6_3 ta6_4 ta6_5 ta6_6 ta7_1 ta7_2 ta7_3 ta7_4 ta7_5 ta7_6 ta7_7 ta8_1 ta8_2 ta8_3 ta8_4 ta8_5 ta8_6 ta8_7 ta8_8 ta9_1 ta9_2 ta9_3 ta9_4 ta9_5 ta9_6 ta9_7 ta9_8 ta9_9 ta10_1 ta10_2 ta10_3 ta10_4 ta10_5 ta10_6 ta10_7 ta10_8 ta10_9 ta10_10 ta11_1 ta11_2 ta11_3 ta11_4 ta11_5 ta11_6 ta11_7 ta11_8 ta11_9 ta11_10 ta11_11 ta13_1 ta13_2 ta13_3 ta13_4 ta13_5 ta13_6 ta13_7 ta13_8 ta13_9 ta13_10 ta13_11 ta13_13
/-- Has a kind's sample the type of another? -/
def typedB (k : Nat) (n : Int) : Bool := if k = 0 then false else if k = 11 ∨ k = 12 then (n == 11 || n == 12) else n == (k : Int)
set_option maxRecDepth 100000 in
theorem typed_1 (n : Int) (w : World) (v : Value) : Calls Tryz.prog 114 #[.iface 164 v, .int .i64 n] w fun x w' => x = .returned (.bool (n == 1)) ∧ w = w' := by
  go_enter Tryz.func114, Tryz.ntmps114
  go_wp2_with fail
  go_ret
  exact ⟨rfl, rfl⟩
set_option maxRecDepth 100000 in
theorem typed_2 (n : Int) (w : World) (v : Value) : Calls Tryz.prog 114 #[.iface 165 v, .int .i64 n] w fun x w' => x = .returned (.bool (n == 2)) ∧ w = w' := by
  go_enter Tryz.func114, Tryz.ntmps114
  go_wp2_with fail
  go_ret
  exact ⟨rfl, rfl⟩
set_option maxRecDepth 100000 in
theorem typed_3 (n : Int) (w : World) (v : Value) : Calls Tryz.prog 114 #[.iface 166 v, .int .i64 n] w fun x w' => x = .returned (.bool (n == 3)) ∧ w = w' := by
  go_enter Tryz.func114, Tryz.ntmps114
  go_wp2_with fail
  go_ret
  exact ⟨rfl, rfl⟩
set_option maxRecDepth 100000 in
theorem typed_4 (n : Int) (w : World) (v : Value) : Calls Tryz.prog 114 #[.iface 167 v, .int .i64 n] w fun x w' => x = .returned (.bool (n == 4)) ∧ w = w' := by
  go_enter Tryz.func114, Tryz.ntmps114
  go_wp2_with fail
  go_ret
  exact ⟨rfl, rfl⟩
set_option maxRecDepth 100000 in
theorem typed_5 (n : Int) (w : World) (v : Value) : Calls Tryz.prog 114 #[.iface 168 v, .int .i64 n] w fun x w' => x = .returned (.bool (n == 5)) ∧ w = w' := by
  go_enter Tryz.func114, Tryz.ntmps114
  go_wp2_with fail
  go_ret
  exact ⟨rfl, rfl⟩
set_option maxRecDepth 100000 in
theorem typed_6 (n : Int) (w : World) (v : Value) : Calls Tryz.prog 114 #[.iface 169 v, .int .i64 n] w fun x w' => x = .returned (.bool (n == 6)) ∧ w = w' := by
  go_enter Tryz.func114, Tryz.ntmps114
  go_wp2_with fail
  go_ret
  exact ⟨rfl, rfl⟩
set_option maxRecDepth 100000 in
theorem typed_7 (n : Int) (w : World) (v : Value) : Calls Tryz.prog 114 #[.iface 170 v, .int .i64 n] w fun x w' => x = .returned (.bool (n == 7)) ∧ w = w' := by
  go_enter Tryz.func114, Tryz.ntmps114
  go_wp2_with fail
  go_ret
  exact ⟨rfl, rfl⟩
set_option maxRecDepth 100000 in
theorem typed_8 (n : Int) (w : World) (v : Value) : Calls Tryz.prog 114 #[.iface 171 v, .int .i64 n] w fun x w' => x = .returned (.bool (n == 8)) ∧ w = w' := by
  go_enter Tryz.func114, Tryz.ntmps114
  go_wp2_with fail
  go_ret
  exact ⟨rfl, rfl⟩
set_option maxRecDepth 100000 in
theorem typed_9 (n : Int) (w : World) (v : Value) : Calls Tryz.prog 114 #[.iface 173 v, .int .i64 n] w fun x w' => x = .returned (.bool (n == 9)) ∧ w = w' := by
  go_enter Tryz.func114, Tryz.ntmps114
  go_wp2_with fail
  go_ret
  exact ⟨rfl, rfl⟩
set_option maxRecDepth 100000 in
theorem typed_10 (n : Int) (w : World) (v : Value) : Calls Tryz.prog 114 #[.iface 175 v, .int .i64 n] w fun x w' => x = .returned (.bool (n == 10)) ∧ w = w' := by
  go_enter Tryz.func114, Tryz.ntmps114
  go_wp2_with fail
  go_ret
  exact ⟨rfl, rfl⟩
set_option maxRecDepth 100000 in
theorem typed_13 (n : Int) (w : World) (v : Value) : Calls Tryz.prog 114 #[.iface 179 v, .int .i64 n] w fun x w' => x = .returned (.bool (n == 13)) ∧ w = w' := by
  go_enter Tryz.func114, Tryz.ntmps114
  go_wp2_with fail
  go_ret
  exact ⟨rfl, rfl⟩
set_option maxRecDepth 100000 in
theorem typed_11 (n : Int) (w : World) (v : Value) : Calls Tryz.prog 114 #[.iface 176 v, .int .i64 n] w fun x w' => x = .returned (.bool (n == 11 || n == 12)) ∧ w = w' := by
  by_cases h : n = 11
  · subst h
    go_enter Tryz.func114, Tryz.ntmps114
    go_wp2_with fail
    go_ret
    exact ⟨rfl, rfl⟩
  · have h1 : (n == 11) = false := by simpa using h
    clear h
    go_enter Tryz.func114, Tryz.ntmps114
    go_wp2_with fail
    go_ret
    exact ⟨by simp [h1], rfl⟩
set_option maxRecDepth 100000 in
theorem typed_0 (n : Int) (w : World) : Calls Tryz.prog 114 #[.nilIface, .int .i64 n] w fun x w' => x = .returned (.bool false) ∧ w = w' := by
  go_enter Tryz.func114, Tryz.ntmps114
  go_wp2_with fail
  go_ret
  exact ⟨rfl, rfl⟩
/-- A kind's sample, as sample gives it. -/
def SampV (k : Nat) (v : Value) : Prop := k = 0 ∧ v = .nilIface ∨ 1 ≤ k ∧ ∃ u, v = .iface (sampT k) u
theorem sample_v (k : Nat) (hk : k ≤ 13) (w : World) : Calls Tryz.prog 71 #[.int .i64 k] w fun x w' => ∃ v, x = .returned v ∧ SampV k v ∧ Below w.heap.size w w' :=
  (sample_any k hk w).mono fun x w' ⟨h, hb⟩ => by
    rcases h with ⟨h0, hx⟩ | ⟨h1, u, hx⟩
    · exact ⟨_, hx, Or.inl ⟨h0, rfl⟩, hb⟩
    · exact ⟨_, hx, Or.inr ⟨h1, u, rfl⟩, hb⟩
theorem typed_any (k : Nat) (hk : k ≤ 13) (n : Int) (v : Value) (hv : SampV k v) (w : World) : Calls Tryz.prog 114 #[v, .int .i64 n] w fun x w' => x = .returned (.bool (typedB k n)) ∧ w = w' := by
  rcases hv with ⟨rfl, rfl⟩ | ⟨h1, u, rfl⟩
  · exact typed_0 n w
  · match k, hk, h1 with
    | 1, _, _ => exact typed_1 n w u
    | 2, _, _ => exact typed_2 n w u
    | 3, _, _ => exact typed_3 n w u
    | 4, _, _ => exact typed_4 n w u
    | 5, _, _ => exact typed_5 n w u
    | 6, _, _ => exact typed_6 n w u
    | 7, _, _ => exact typed_7 n w u
    | 8, _, _ => exact typed_8 n w u
    | 9, _, _ => exact typed_9 n w u
    | 10, _, _ => exact typed_10 n w u
    | 11, _, _ => exact typed_11 n w u
    | 12, _, _ => exact typed_11 n w u
    | 13, _, _ => exact typed_13 n w u
    | n + 14, h, _ => omega
end Go.Proofs.YtecdniimikfbhaaGreatDoor

/- Contracts of want's is and must. -/
namespace Go.Proofs.YtecdniimikfbhaaGreatDoor
open Go Go.RowKit Go.ChangeShapes Go.WideShapes

/-- Is a value of kind k of the type of kind n? -/
def isB (k : Nat) (n : Int) : Bool := typedB k n && (n != 12 || (k : Int) == 12)
theorem isB_f {k : Nat} {n : Int} (h : typedB k n = false) : isB k n = false := by simp [isB, h]
theorem isB_n {k : Nat} {n : Int} (h : typedB k n = true) (h2 : (n != 12) = true) : isB k n = true := by simp [isB, h, h2]
theorem isB_m {k : Nat} {n : Int} (h : typedB k n = true) (h2 : (n != 12) = false) : isB k n = ((k : Int) == 12) := by simp [isB, h, h2]

theorem is_any (k : Nat) (hk : k ≤ 13) (n : Int) (v : Value) (hv : SampV k v) (m b t sl : Value) (w : World) :
    Calls Tryz.prog 110 #[v, .agg #[.int .i64 k, m, b, t, sl], .int .i64 n] w fun x w' => x = .returned (.bool (isB k n)) ∧ Below w.heap.size w w' := by
  have HT := Lib.hid (typed_any k hk n v hv)
  clear hv
  cases h : typedB k n
  · rw [isB_f h]
    rw [h] at HT
    clear h
    go_enter Tryz.func110, Tryz.ntmps110
    go_wp2_with (go_at_call 114; refine (HT.out _).mono ?_; rintro e w' ⟨rfl, rfl⟩)
    go_ret
    exact ⟨rfl, by go_grown⟩
  · cases h2 : (n != 12)
    · rw [isB_m h h2]
      rw [h] at HT
      clear h
      go_enter Tryz.func110, Tryz.ntmps110
      go_wp2_with (go_at_call 114; refine (HT.out _).mono ?_; rintro e w' ⟨rfl, rfl⟩)
      go_ret
      exact ⟨rfl, by go_grown⟩
    · rw [isB_n h h2]
      rw [h] at HT
      clear h
      go_enter Tryz.func110, Tryz.ntmps110
      go_wp2_with (go_at_call 114; refine (HT.out _).mono ?_; rintro e w' ⟨rfl, rfl⟩)
      go_ret
      exact ⟨rfl, by go_grown⟩

theorem RepQ.set5 {w : World} {N M b : Nat} {v : Value} {d : D} (h : RepQ w (fun b => N ≤ b) v d) (hb : b < N) (hM : M ≤ N) {x0 x1 x2 x3 x4 : Value} :
    RepQ (((((w.setCell ⟨b, 0, none⟩ x0).setCell ⟨b, 1, none⟩ x1).setCell ⟨b, 2, none⟩ x2).setCell ⟨b, 3, none⟩ x3).setCell ⟨b, 4, none⟩ x4) (fun b => M ≤ b) v d :=
  h.carry (fun i hi _ => ⟨set5_other w b _ _ _ _ _ i (by omega), by omega⟩) (by rw [set5_size]; exact Nat.le_refl _)
theorem set5_below {B b : Nat} {w w1 : World} (h : Below B w w1) (hb : B ≤ b) {x0 x1 x2 x3 x4 : Value} :
    Below B w (((((w1.setCell ⟨b, 0, none⟩ x0).setCell ⟨b, 1, none⟩ x1).setCell ⟨b, 2, none⟩ x2).setCell ⟨b, 3, none⟩ x3).setCell ⟨b, 4, none⟩ x4) :=
  ((((h.setCell (p := ⟨b, 0, none⟩) hb _).setCell (p := ⟨b, 1, none⟩) hb _).setCell (p := ⟨b, 2, none⟩) hb _).setCell (p := ⟨b, 3, none⟩) hb _).setCell (p := ⟨b, 4, none⟩) hb _
theorem boxes1 (w : World) (c0 c1 c2 c3 c4 : Value) : ∃ W1, W1 = w.alloc (.cells #[c0, c1, c2, c3, c4] 25) ∧ Below w.heap.size w W1 ∧ W1.heap.size = w.heap.size + 1 ∧ Box5 W1 w.heap.size c0 c1 c2 c3 c4 :=
  ⟨_, rfl, by go_grown, by simp, heap_alloc_new w _⟩
theorem boxes2 (w : World) (c0 c1 c2 c3 c4 d0 d1 d2 d3 d4 : Value) : ∃ W1, W1 = (w.alloc (.cells #[c0, c1, c2, c3, c4] 25)).alloc (.cells #[d0, d1, d2, d3, d4] 25) ∧ Below w.heap.size w W1 ∧ W1.heap.size = w.heap.size + 2 ∧ Box5 W1 w.heap.size c0 c1 c2 c3 c4 ∧ Box5 W1 (w.heap.size + 1) d0 d1 d2 d3 d4 := by
  refine ⟨_, rfl, by go_grown, by simp, ?_, ?_⟩
  · exact Box5.keep (heap_alloc_new w _) (((Below.refl _ _).alloc (Nat.le_refl _) _).block _ (by simp))
  · have h := heap_alloc_new (w.alloc (.cells #[c0, c1, c2, c3, c4] 25)) (.cells #[d0, d1, d2, d3, d4] 25)
    simpa [Box5] using h

theorem must_no (k : Nat) (hk : k ≤ 13) (n : Int) (v : Value) (hv : SampV k v) (h : isB k n = false) (m b t sl : Value) (w : World) :
    Calls Tryz.prog 103 #[v, .agg #[.int .i64 k, m, b, t, sl], .int .i64 n] w fun x w' => x = .panicked [{ v := .iface 220 (.agg #[.int .i64 k, .int .i64 (-1)]), recovered := false }] ∧ Below w.heap.size w w' := by
  have HT := Lib.hid (is_any k hk n v hv)
  clear hv
  rw [h] at HT
  clear h
  obtain ⟨W1, hW1, hb1, hz1, hx1, hx2⟩ := boxes2 w (.int .i64 k) m b t sl (.int .i64 0) (.int .i64 0) (.int .u64 0) (.string ⟨#[]⟩) (.slice none 0 0)
  obtain ⟨p0, p1, p2, p3, p4⟩ := hx1.cells
  go_enter Tryz.func103, Tryz.ntmps103
  go_upto_region 1 with fail
  rw [← hW1]
  clear hW1
  go_wp2_with (go_at_call 110; refine (HT.out _ _ _ _ _).mono ?_; rintro e w2 ⟨rfl, hb⟩; have q0 := (hx1.keep (hb.block _ (by omega))).cells.1)
  exact ⟨rfl, rfl, hb1.trans (hb.mono (by omega))⟩

set_option maxHeartbeats 800000 in
theorem must_yes (k : Nat) (hk : k ≤ 13) (n : Int) (u : Value) (hu : SampV k u) (h : isB k n = true) {w0 : World} {m b : Int} {t : ByteArray} {a : Option Addr} {l cap : Nat} {d : D} (hv : Rep w0 (.agg #[.int .i64 k, .int .i64 m, .int .u64 b, .string t, .slice a l cap]) d) (hs : Slim d) (w : World) (hb0 : Below w0.heap.size w0 w) :
    Calls Tryz.prog 103 #[u, .agg #[.int .i64 k, .int .i64 m, .int .u64 b, .string t, .slice a l cap], .int .i64 n] w fun x w' => ∃ v', x = .returned v' ∧ RepQ w' (fun b => w.heap.size ≤ b) v' d ∧ Below w.heap.size w w' := by
  have HT := Lib.hid (is_any k hk n u hu)
  clear hu
  rw [h] at HT
  clear h
  have HV := Lib.hid (fun W h => wown_any hv hs W h)
  obtain ⟨W1, hW1, hb1, hz1, hx1, hx2⟩ := boxes2 w (.int .i64 k) (.int .i64 m) (.int .u64 b) (.string t) (.slice a l cap) (.int .i64 0) (.int .i64 0) (.int .u64 0) (.string ⟨#[]⟩) (.slice none 0 0)
  obtain ⟨p0, p1, p2, p3, p4⟩ := hx1.cells
  go_enter Tryz.func103, Tryz.ntmps103
  go_upto_region 1 with fail
  rw [← hW1]
  clear hW1
  go_wp2_with (go_at_call 110; refine (HT.out _ _ _ _ _).mono ?_; rintro e w2 ⟨rfl, hb2⟩; obtain ⟨q0, q1, q2, q3, q4⟩ := (hx1.keep (hb2.block _ (by omega))).cells; have hy2 := hx2.keep (hb2.block _ (by omega)); have hz2 := hb2.size; have hbw2 := hb1.trans (hb2.mono (by omega)); clear p0 p1 p2 p3 p4)
  refine (HV.out _ (hb0.trans (hbw2.mono hb0.size))).mono ?_
  rintro e w3 ⟨v', rfl, hv', hb3⟩
  obtain ⟨k5, m5, b5, t5, a5, n5, cap5, rfl⟩ := hv'.form
  dsimp only
  have hy3 := hy2.keep (hb3.block _ (by omega))
  obtain ⟨z0, z1, z2, z3, z4⟩ := hy3.cells
  have zf := hy3.thaw
  clear q0 q1 q2 q3 q4
  go_wp2_with fail
  refine bodyPost_ret (v := .agg #[.int .i64 k5, .int .i64 m5, .int .u64 b5, .string t5, .slice a5 n5 cap5]) ?_ rfl ?_
  · exact results_cell_row rfl _ _ (w.heap.size + 1) 25 _ (0, 0) _ rfl (hy3.set5 _ _ _ _ _) Tryz.underlying25 rfl (by kernel_rfl)
  · exact ⟨_, rfl, hv'.set5 (by omega) (by omega), set5_below (hbw2.trans (hb3.mono hbw2.size)) (by omega)⟩
end Go.Proofs.YtecdniimikfbhaaGreatDoor
