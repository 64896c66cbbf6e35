/- Shape: clone, gave, must. -/
import Derived.Test.YtecdniimikfbhaaGreatDoorM10
namespace Go.Proofs.YtecdniimikfbhaaGreatDoor
open Go Go.RowKit Go.ChangeShapes Go.WideShapes

set_option maxRecDepth 100000 in
set_option maxHeartbeats 3200000 in
theorem sclone_any {w0 : World} {v : Value} {d : D} (h : Rep w0 v d) : Slim d → ∀ (w : World), Below w0.heap.size w0 w →
    Calls Tryz.prog 19 #[v] w fun x w' => ∃ v', x = .returned v' ∧ RepQ w' (fun b => w.heap.size ≤ b) v' d ∧ Below w.heap.size w w' := by
  induction h with
  | mk k m b t a cap g o c kids hw ha hc hk ih =>
    intro hsl w hb
    obtain ⟨hn, hks⟩ := hsl.inv
    obtain ⟨i0, hi, hz0, hz1, hz2⟩ := info_parts info25
    have HI := Lib.hid ih
    have HA := Lib.hid ha
    have HC := Lib.hid hc
    have HW := Lib.hid hw
    have HS := Lib.hid hks
    have HK := Lib.hid hk
    clear ih ha hc hk hw hsl hks
    obtain ⟨W1, hW1⟩ : ∃ W1, W1 = (w.alloc (.cells #[.int .i64 k, .int .i64 m, .int .u64 b, .string t, .slice none 0 0] 25)).alloc (.cells #[.int .i64 0, .int .i64 0, .int .u64 0, .string ⟨#[]⟩, .slice none 0 0] 25) := ⟨_, rfl⟩
    have hbW : Below w.heap.size w W1 := by rw [hW1]; go_grown
    have hzW : W1.heap.size = w.heap.size + 2 := by rw [hW1]; simp
    have hx1 : Box5 W1 w.heap.size (.int .i64 k) (.int .i64 m) (.int .u64 b) (.string t) (.slice none 0 0) := by
      rw [hW1]; exact Box5.keep (heap_alloc_new w _) (((Below.refl _ _).alloc (Nat.le_refl _) _).block _ (by simp))
    have hx2 : Box5 W1 (w.heap.size + 1) (.int .i64 0) (.int .i64 0) (.int .u64 0) (.string ⟨#[]⟩) (.slice none 0 0) := by
      rw [hW1]
      have h := heap_alloc_new (w.alloc (.cells #[.int .i64 k, .int .i64 m, .int .u64 b, .string t, .slice none 0 0] 25)) (.cells #[.int .i64 0, .int .i64 0, .int .u64 0, .string ⟨#[]⟩, .slice none 0 0] 25)
      simpa [Box5] using h
    have hB0 : Below w0.heap.size w0 W1 := hb.trans (hbW.mono hb.size)
    go_enter Tryz.func19, Tryz.ntmps19
    go_wp2_with fail
    rw [← hW1]
    clear hW1
    go_loopw [11] (fun i wr => ∃ (j : Nat) (a2 : Option Addr) (cap2 : Nat), j ≤ kids.length ∧ i = .int .i64 j ∧ Box5 wr w.heap.size (.int .i64 k) (.int .i64 m) (.int .u64 b) (.string t) (.slice a2 j cap2) ∧
      Box5 wr (w.heap.size + 1) (.int .i64 0) (.int .i64 0) (.int .u64 0) (.string ⟨#[]⟩) (.slice none 0 0) ∧ OwnQ wr (w.heap.size + 2) (.slice a2 j cap2) (kids.take j) ∧ Below w.heap.size w wr ∧ w.heap.size + 2 ≤ wr.heap.size) (fun i _ => kids.length - (intOf i).toNat)
    case atStart => exact ⟨0, none, 0, by omega, rfl, hx1, hx2, OwnQ.nil _ _, hbW, by omega⟩
    case round =>
      obtain ⟨j, a2, cap2, hj, rfl, hy1, hy2, hO, hbr, hzr⟩ := hrel
      clear hx1 hx2 hbW hzW
      by_cases hlt : j < kids.length
      · obtain ⟨rfl, hg, hcp, hcm⟩ := HA.out (by omega)
        have hB1 : Below w0.heap.size w0 wr := hb.trans (hbr.mono hb.size)
        obtain ⟨q0, q1, q2, q3, q4⟩ := (HC.out.below hg hB1) j hlt
        have hx : kids[j]? = some kids[j] := List.getElem?_eq_getElem hlt
        have HX := Lib.hid (HI.out j _ hx (HS.out _ (List.getElem_mem hlt)))
        obtain ⟨k2, m2, b2, t2, a3, cap3, g3, o3, c3, kids3, e5, e6, hw3, _⟩ := (HK.out j _ hx).inv
        obtain ⟨f0, f1, f2, f3, f4⟩ := five_inv e5
        rw [f0] at q0
        rw [f1] at q1
        rw [f2] at q2
        rw [f3] at q3
        rw [f4] at q4
        rw [e5] at HX
        generalize hkj : kids[j] = x at *
        generalize kids3.length = n3 at *
        clear hx e6 f0 f1 f2 f3 f4 e5
        obtain ⟨W3, hW3⟩ : ∃ W3, W3 = wr.alloc (.cells #[.int .i64 k2, .int .i64 m2, .int .u64 b2, .string t2, .slice a3 n3 cap3] 25) := ⟨_, rfl⟩
        have hb3 : Below wr.heap.size wr W3 := by rw [hW3]; exact (Below.refl _ _).alloc (Nat.le_refl _) _
        have hz3 : W3.heap.size = wr.heap.size + 1 := by rw [hW3]; simp
        have hv1 : Box5 W3 w.heap.size (.int .i64 k) (.int .i64 m) (.int .u64 b) (.string t) (.slice a2 j cap2) := hy1.keep (hb3.block _ (by omega))
        have hv2 : Box5 W3 (w.heap.size + 1) (.int .i64 0) (.int .i64 0) (.int .u64 0) (.string ⟨#[]⟩) (.slice none 0 0) := hy2.keep (hb3.block _ (by omega))
        have hv3 : Box5 W3 wr.heap.size (.int .i64 k2) (.int .i64 m2) (.int .u64 b2) (.string t2) (.slice a3 n3 cap3) := by rw [hW3]; exact heap_alloc_new wr _
        have hO3 : OwnQ W3 (w.heap.size + 2) (.slice a2 j cap2) (kids.take j) := hO.carry (fun b _ hl => hb3.block b hl) (by omega)
        have hB3 : Below w0.heap.size w0 W3 := hB1.trans (hb3.mono hB1.size)
        have hbw3 : Below w.heap.size w W3 := hbr.trans (hb3.mono hbr.size)
        have HX2 := Lib.hid (fun w' (h : Below W3.heap.size W3 w') => HX.out w' (hB3.trans (h.mono hB3.size)))
        go_upto_region 6 with fail
        rw [← hW3]
        obtain ⟨_, _, _, _, p4⟩ := hv1.cells
        have pf := hv1.thaw 4
        obtain ⟨g0, g1, g2, g3, g4⟩ := hv3.cells
        obtain ⟨cc, hown, hkk⟩ := hO3
        have htl : (kids.take j).length = j := by rw [List.length_take]; omega
        rw [htl] at hown
        have HKK := Lib.hid hkk
        clear hkk
        clear hW3 hy1 hy2 hO HX q0 q1 q2 q3 q4
        have hone : ∀ (k5 m5 b5 : Int) (t5 : ByteArray) (a5 : Option Addr) (n5 cap5 : Nat), ∀ u ∈ [Value.int .i64 k5, .int .i64 m5, .int .u64 b5, .string t5, .slice a5 n5 cap5], u.oneCell' = true := fun k5 m5 b5 t5 a5 n5 cap5 u hu => by
          simp at hu
          rcases hu with rfl | rfl | rfl | rfl | rfl <;> rfl
        have hj1 : j + 1 ≤ maxLen := by unfold maxLen; omega
        have hj2 : (j + 1) * 64 ≤ 140737488355328 := by omega
        have hO1 := Lib.hid hone
        clear hone
        go_region_law (first
          | (refine step_append_lies _ (by rfl) (.tmp 16) (.tmp 19) 23 (by rfl) (w.heap.size + 2) 25 i0 (.agg #[.int .i64 0, .int .i64 0, .int .u64 0, .string ⟨#[]⟩, .slice none 0 0]) 5 64 Tryz.underlying23 hi hz0 hz1 hz2 (by rfl) (by decide) _ _ _ (by rfl) (World.ownsRow.alloc hown4 _) ⟨ww.heap.size, 0, none⟩ 1 1 [.int .i64 k5, .int .i64 m5, .int .u64 b5, .string t5, .slice a5 n5 cap5] (by rfl) (by rfl) (World.news_of_block (heap_alloc_new ww _)) (hO1.out _ _ _ _ _ _ _) (by decide) hj1 hj2 (hbase _) _ (by rfl) ?_; intro g5 cap6 w5 hown5 hgrow hat hlt5; have hbx := Box5.behind hv1 hb4 hown4 hgrow (by omega); have hp5 := hbx.cells.2.2.2.2; have hpf := hbx.thaw 4)
          | (go_simp; go_at_call 19; refine (HX2.out _ (by go_grown)).mono ?_; rintro x ww ⟨v', rfl, hv', hb2⟩; obtain ⟨k5, m5, b5, t5, a5, n5, cap5, rfl⟩ := hv'.form; have hb4 : Below W3.heap.size W3 ww := Below.trans (by go_grown) hb2; have hown4 := owns_below hown hb4; have hz4 := hb4.size; have hbase : ∀ ob, w.heap.size + 2 ≤ (ww.alloc ob).heap.size := (fun ob => by simp; omega); have hp4 : ww.cell? ⟨w.heap.size, 4, none⟩ = some (.slice a2 j cap2) := (hb4.cell (p := ⟨w.heap.size, 4, none⟩) (by simp; omega)).trans p4; have hp6 : ∀ ob, (ww.alloc ob).cell? ⟨w.heap.size, 4, none⟩ = some (.slice a2 j cap2) := (fun ob => (World.cell?_of_block (w := ww) (heap_alloc_old ww ob (show w.heap.size < ww.heap.size by omega))).trans hp4); (try dsimp only)))
        all_goals (
          have hO5 := OwnQ.behind htl hown HKK.out hb4 (by rfl) (by omega) hv' hown5 hgrow hat
          have hbx2 := Box5.behind hv2 hb4 hown4 hgrow (by omega)
          have hz5 := hgrow.size
          have hbw5 : Below w.heap.size w w5 := Below.grown ((hbw3.trans (hb4.mono (by omega))).alloc (by omega) _) hgrow (by simp; omega) (fun r hr => Nat.le_trans (by omega) (World.ownsRow.lt hown4 r hr).1)
          have hO6 := hO5.carry (w1 := w5.setCell ⟨w.heap.size, 4, none⟩ (.slice (some ⟨g5, 0, none⟩) (j + 1) cap6)) (fun b hb _ => heap_setCell_other _ _ _ _ (by simp; omega)) (by simp)
          have htk : kids.take (j + 1) = kids.take j ++ [x] := by rw [List.take_succ_eq_append_getElem hlt, hkj]
          rw [← htk] at hO6
          have hbx3 := hbx.set4 (.slice (some ⟨g5, 0, none⟩) (j + 1) cap6)
          have hbx4 := hbx2.keep (w1 := w5.setCell ⟨w.heap.size, 4, none⟩ (.slice (some ⟨g5, 0, none⟩) (j + 1) cap6)) (heap_setCell_other _ _ _ _ (by simp))
          have hbw6 := hbw5.setCell (p := ⟨w.heap.size, 4, none⟩) (Nat.le_refl _) (.slice (some ⟨g5, 0, none⟩) (j + 1) cap6)
          have hz6 : w.heap.size + 2 ≤ (w5.setCell ⟨w.heap.size, 4, none⟩ (.slice (some ⟨g5, 0, none⟩) (j + 1) cap6)).heap.size := by simp at hz5 ⊢; omega
          generalize w5.setCell ⟨w.heap.size, 4, none⟩ (.slice (some ⟨g5, 0, none⟩) (j + 1) cap6) = w6 at *
          clear hgrow hat hown5 hown4 hown hv' hO5 hbx hbx2 hv1 hv2 hv3 hp4 hp5 hp6 hpf p4 pf hbase hlt5
          go_wp2_with fail
          go_roundw
          case rel => exact ⟨j + 1, _, cap6, by omega, by go_num, hbx3, hbx4, hO6, hbw6, hz6⟩
          case measure => simp [intOf]; omega)
      · obtain rfl : j = kids.length := by omega
        rw [List.take_length] at hO
        obtain ⟨z0, z1, z2, z3, z4⟩ := hy1.cells
        have zf := hy2.thaw
        obtain ⟨y0, y1, y2, y3, y4⟩ := hy2.cells
        have hne : w.heap.size + 1 ≠ w.heap.size := by omega
        go_wp2_with fail
        have hF := hy2.set5 (.int .i64 k) (.int .i64 m) (.int .u64 b) (.string t) (.slice a2 kids.length cap2)
        have hFo := set5_other wr (w.heap.size + 1) (.int .i64 k) (.int .i64 m) (.int .u64 b) (.string t) (.slice a2 kids.length cap2)
        have hFs := set5_size wr (w.heap.size + 1) (.int .i64 k) (.int .i64 m) (.int .u64 b) (.string t) (.slice a2 kids.length cap2)
        have hFb : Below w.heap.size w (((((wr.setCell ⟨w.heap.size + 1, 0, none⟩ (.int .i64 k)).setCell ⟨w.heap.size + 1, 1, none⟩ (.int .i64 m)).setCell ⟨w.heap.size + 1, 2, none⟩ (.int .u64 b)).setCell ⟨w.heap.size + 1, 3, none⟩ (.string t)).setCell ⟨w.heap.size + 1, 4, none⟩ (.slice a2 kids.length cap2)) :=
          ((((hbr.setCell (p := ⟨w.heap.size + 1, 0, none⟩) (by simp) _).setCell (p := ⟨w.heap.size + 1, 1, none⟩) (by simp) _).setCell (p := ⟨w.heap.size + 1, 2, none⟩) (by simp) _).setCell (p := ⟨w.heap.size + 1, 3, none⟩) (by simp) _).setCell (p := ⟨w.heap.size + 1, 4, none⟩) (by simp) _
        generalize ((((wr.setCell ⟨w.heap.size + 1, 0, none⟩ (.int .i64 k)).setCell ⟨w.heap.size + 1, 1, none⟩ (.int .i64 m)).setCell ⟨w.heap.size + 1, 2, none⟩ (.int .u64 b)).setCell ⟨w.heap.size + 1, 3, none⟩ (.string t)).setCell ⟨w.heap.size + 1, 4, none⟩ (.slice a2 kids.length cap2) = Wf at *
        obtain ⟨r0, r1, r2, r3, r4⟩ := hF.cells
        have hO2 : OwnQ Wf (w.heap.size + 2) (.slice a2 kids.length cap2) kids := hO.carry (fun b hb _ => hFo b (by omega)) (by omega)
        have hR := (hO2.repQ HW.out).carry (Q1 := fun b => w.heap.size ≤ b) (fun b hb _ => ⟨rfl, by omega⟩) (Nat.le_refl _)
        refine bodyPost_ret (v := .agg #[.int .i64 k, .int .i64 m, .int .u64 b, .string t, .slice a2 kids.length cap2]) ?_ rfl ?_
        · exact results_cell_row rfl _ Wf (w.heap.size + 1) 25 _ (0, 0) _ rfl hF Tryz.underlying25 rfl (by kernel_rfl)
        · exact ⟨_, rfl, hR, hFb⟩

set_option maxRecDepth 100000 in
set_option maxHeartbeats 800000 in
theorem sgave_v (k m b : Int) (t : ByteArray) (a : Option Addr) (l cap : Nat) (w : World) :
    Calls Tryz.prog 28 #[(.agg #[.int .i64 k, .int .i64 m, .int .u64 b, .string t, .slice a l cap])] w fun x w' => x = .returned (.agg #[.int .i64 0, .int .i64 0, .int .i64 0, .int .i64 0, .bool true, .int .i64 k, .int .i64 m, .int .u64 b, .string t, .slice a l cap]) ∧ Below w.heap.size w w' := by
  obtain ⟨W1, hW1, hb1, hz, hx1, hx2⟩ := res_worlds w (.int .i64 k) (.int .i64 m) (.int .u64 b) (.string t) (.slice a l cap)
  obtain ⟨p0, p1, p2, p3, p4⟩ := hx1.cells
  have q0 : W1.cell? ⟨w.heap.size + 1, 0, none⟩ = some (.int .i64 0) := hx2.cell 0 rfl
  have fq0 := hx2.thaw 0
  have q1 : W1.cell? ⟨w.heap.size + 1, 1, none⟩ = some (.int .i64 0) := hx2.cell 1 rfl
  have fq1 := hx2.thaw 1
  have q2 : W1.cell? ⟨w.heap.size + 1, 2, none⟩ = some (.int .i64 0) := hx2.cell 2 rfl
  have fq2 := hx2.thaw 2
  have q3 : W1.cell? ⟨w.heap.size + 1, 3, none⟩ = some (.int .i64 0) := hx2.cell 3 rfl
  have fq3 := hx2.thaw 3
  have q4 : W1.cell? ⟨w.heap.size + 1, 4, none⟩ = some (.bool false) := hx2.cell 4 rfl
  have fq4 := hx2.thaw 4
  have q5 : W1.cell? ⟨w.heap.size + 1, 5, none⟩ = some (.int .i64 0) := hx2.cell 5 rfl
  have fq5 := hx2.thaw 5
  have q6 : W1.cell? ⟨w.heap.size + 1, 6, none⟩ = some (.int .i64 0) := hx2.cell 6 rfl
  have fq6 := hx2.thaw 6
  have q7 : W1.cell? ⟨w.heap.size + 1, 7, none⟩ = some (.int .u64 0) := hx2.cell 7 rfl
  have fq7 := hx2.thaw 7
  have q8 : W1.cell? ⟨w.heap.size + 1, 8, none⟩ = some (.string ⟨#[]⟩) := hx2.cell 8 rfl
  have fq8 := hx2.thaw 8
  have q9 : W1.cell? ⟨w.heap.size + 1, 9, none⟩ = some (.slice none 0 0) := hx2.cell 9 rfl
  have fq9 := hx2.thaw 9
  go_enter Tryz.func28, Tryz.ntmps28
  go_upto_region 1 with fail
  rw [← hW1]
  clear hW1
  go_wp2_with fail
  exact bodyPost_ret (results_cell_row rfl _ _ (w.heap.size + 1) 33 _ (0, 0) _ rfl (hx2.set10 _ _ _ _ _ _ _ _ _ _) Tryz.underlying33 rfl (by kernel_rfl)) rfl ⟨rfl, set10_below hb1 (by omega)⟩


theorem resdat_worlds (w : World) (c0 c1 c2 c3 c4 c5 c6 c7 c8 c9 : Value) : ∃ W1, W1 = (w.alloc (.cells #[c0, c1, c2, c3, c4, c5, c6, c7, c8, c9] 33)).alloc (.cells #[.int .i64 0, .int .i64 0, .int .u64 0, .string ⟨#[]⟩, .slice none 0 0] 25) ∧ Below w.heap.size w W1 ∧ Row W1 w.heap.size #[c0, c1, c2, c3, c4, c5, c6, c7, c8, c9] 33 ∧ Row W1 (w.heap.size + 1) #[.int .i64 0, .int .i64 0, .int .u64 0, .string ⟨#[]⟩, .slice none 0 0] 25 := by
  refine ⟨_, rfl, by go_grown, (Row.new w _ _).old _, ?_⟩
  have h := Row.new (w.alloc (.cells #[c0, c1, c2, c3, c4, c5, c6, c7, c8, c9] 33)) #[.int .i64 0, .int .i64 0, .int .u64 0, .string ⟨#[]⟩, .slice none 0 0] 25
  simpa using h

set_option maxRecDepth 100000 in
set_option maxHeartbeats 1600000 in
theorem smust_ok {e c p n : Int} {h : Bool} {k m b : Int} {t : ByteArray} {a : Option Addr} {l cap : Nat} (he : e = 0) (w : World) :
    Calls Tryz.prog 64 #[(.agg #[.int .i64 e, .int .i64 c, .int .i64 p, .int .i64 n, .bool h, .int .i64 k, .int .i64 m, .int .u64 b, .string t, .slice a l cap])] w fun x w' => x = .returned (.agg #[.int .i64 k, .int .i64 m, .int .u64 b, .string t, .slice a l cap]) ∧ Below w.heap.size w w' := by
  subst he
  obtain ⟨W1, hW1, hb1, hx1, hx2⟩ := resdat_worlds w (.int .i64 0) (.int .i64 c) (.int .i64 p) (.int .i64 n) (.bool h) (.int .i64 k) (.int .i64 m) (.int .u64 b) (.string t) (.slice a l cap)
  have p0 : W1.cell? ⟨w.heap.size, 0, none⟩ = some (.int .i64 0) := hx1.cell 0 rfl
  have p1 : W1.cell? ⟨w.heap.size, 1, none⟩ = some (.int .i64 c) := hx1.cell 1 rfl
  have p2 : W1.cell? ⟨w.heap.size, 2, none⟩ = some (.int .i64 p) := hx1.cell 2 rfl
  have p3 : W1.cell? ⟨w.heap.size, 3, none⟩ = some (.int .i64 n) := hx1.cell 3 rfl
  have p4 : W1.cell? ⟨w.heap.size, 4, none⟩ = some (.bool h) := hx1.cell 4 rfl
  have p5 : W1.cell? ⟨w.heap.size, 5, none⟩ = some (.int .i64 k) := hx1.cell 5 rfl
  have p6 : W1.cell? ⟨w.heap.size, 6, none⟩ = some (.int .i64 m) := hx1.cell 6 rfl
  have p7 : W1.cell? ⟨w.heap.size, 7, none⟩ = some (.int .u64 b) := hx1.cell 7 rfl
  have p8 : W1.cell? ⟨w.heap.size, 8, none⟩ = some (.string t) := hx1.cell 8 rfl
  have p9 : W1.cell? ⟨w.heap.size, 9, none⟩ = some (.slice a l cap) := hx1.cell 9 rfl
  have q0 : W1.cell? ⟨w.heap.size + 1, 0, none⟩ = some (.int .i64 0) := hx2.cell 0 rfl
  have fq0 := hx2.thaw 0
  have q1 : W1.cell? ⟨w.heap.size + 1, 1, none⟩ = some (.int .i64 0) := hx2.cell 1 rfl
  have fq1 := hx2.thaw 1
  have q2 : W1.cell? ⟨w.heap.size + 1, 2, none⟩ = some (.int .u64 0) := hx2.cell 2 rfl
  have fq2 := hx2.thaw 2
  have q3 : W1.cell? ⟨w.heap.size + 1, 3, none⟩ = some (.string ⟨#[]⟩) := hx2.cell 3 rfl
  have fq3 := hx2.thaw 3
  have q4 : W1.cell? ⟨w.heap.size + 1, 4, none⟩ = some (.slice none 0 0) := hx2.cell 4 rfl
  have fq4 := hx2.thaw 4
  go_enter Tryz.func64, Tryz.ntmps64
  go_upto_region 1 with fail
  rw [← hW1]
  clear hW1
  go_wp2_with fail
  exact bodyPost_ret (results_cell_row rfl _ _ (w.heap.size + 1) 25 _ (0, 0) _ rfl (hx2.box.set5 _ _ _ _ _) Tryz.underlying25 rfl (by kernel_rfl)) rfl ⟨rfl, set5_below hb1 (by omega)⟩

set_option maxRecDepth 100000 in
set_option maxHeartbeats 1600000 in
theorem smust_no {e c p n : Int} {h : Bool} {k m b : Int} {t : ByteArray} {a : Option Addr} {l cap : Nat} (he : e ≠ 0) (w : World) :
    Calls Tryz.prog 64 #[(.agg #[.int .i64 e, .int .i64 c, .int .i64 p, .int .i64 n, .bool h, .int .i64 k, .int .i64 m, .int .u64 b, .string t, .slice a l cap])] w fun x w' => x = .panicked (thrown 50 (.agg #[.int .i64 e, .int .i64 c, .int .i64 p, .int .i64 n, .bool h, .int .i64 k, .int .i64 m, .int .u64 b, .string t, .slice a l cap])) ∧ Below w.heap.size w w' := by
  obtain ⟨W1, hW1, hb1, hx1, hx2⟩ := resdat_worlds w (.int .i64 e) (.int .i64 c) (.int .i64 p) (.int .i64 n) (.bool h) (.int .i64 k) (.int .i64 m) (.int .u64 b) (.string t) (.slice a l cap)
  have hne : (e != 0) = true := by simp [he]
  have p0 : W1.cell? ⟨w.heap.size, 0, none⟩ = some (.int .i64 e) := hx1.cell 0 rfl
  have p1 : W1.cell? ⟨w.heap.size, 1, none⟩ = some (.int .i64 c) := hx1.cell 1 rfl
  have p2 : W1.cell? ⟨w.heap.size, 2, none⟩ = some (.int .i64 p) := hx1.cell 2 rfl
  have p3 : W1.cell? ⟨w.heap.size, 3, none⟩ = some (.int .i64 n) := hx1.cell 3 rfl
  have p4 : W1.cell? ⟨w.heap.size, 4, none⟩ = some (.bool h) := hx1.cell 4 rfl
  have p5 : W1.cell? ⟨w.heap.size, 5, none⟩ = some (.int .i64 k) := hx1.cell 5 rfl
  have p6 : W1.cell? ⟨w.heap.size, 6, none⟩ = some (.int .i64 m) := hx1.cell 6 rfl
  have p7 : W1.cell? ⟨w.heap.size, 7, none⟩ = some (.int .u64 b) := hx1.cell 7 rfl
  have p8 : W1.cell? ⟨w.heap.size, 8, none⟩ = some (.string t) := hx1.cell 8 rfl
  have p9 : W1.cell? ⟨w.heap.size, 9, none⟩ = some (.slice a l cap) := hx1.cell 9 rfl
  go_enter Tryz.func64, Tryz.ntmps64
  go_upto_region 1 with fail
  rw [← hW1]
  clear hW1
  go_wp2_with fail
  exact ⟨rfl, rfl, hb1⟩

theorem boxes1r (w : World) (c0 c1 c2 c3 c4 : Value) : ∃ W1, W1 = w.alloc (.cells #[c0, c1, c2, c3, c4] 25) ∧ Below w.heap.size w W1 ∧ Row W1 w.heap.size #[c0, c1, c2, c3, c4] 25 := ⟨_, rfl, by go_grown, Row.new _ _ _⟩

set_option maxRecDepth 100000 in
set_option maxHeartbeats 1600000 in
theorem asked_ok {w0 : World} {k : Nat} {m b : Int} {t : ByteArray} {a : Option Addr} {l cap : Nat} {d : D} (hk : k ≤ 13) (hv : Rep w0 (.agg #[.int .i64 k, .int .i64 m, .int .u64 b, .string t, .slice a l cap]) d) (hs : Slim d) (f : Int) (h : hasFi k f = true) (w : World) (hb0 : Below w0.heap.size w0 w) :
    Calls Tryz.prog 57 #[(.agg #[.int .i64 k, .int .i64 m, .int .u64 b, .string t, .slice a l cap]), .int .i64 f] w fun x w' => x = .returned (.tuple #[]) ∧ Below w.heap.size w w' := by
  have HT := Lib.hid (fun (W : World) (hW : Below w0.heap.size w0 W) => try_ret (.int .i64 3) (.int .i64 k) (.int .i64 m) (.int .u64 b) (.string t) (.slice a l cap) (.int .i64 0) (.int .i64 0) (.int .u64 0) (.string ⟨#[]⟩) (.slice none 0 0) (.int .i64 f) (.gave d) W (fun W' hW' => act_face hk hv hs _ _ _ _ _ f h W' (hW.trans (hW'.mono hW.size))))
  have HB := Lib.hid hb0
  clear hv hs h hb0
  obtain ⟨W1, hW1, hb1, hx1⟩ := boxes1r w (.int .i64 k) (.int .i64 m) (.int .u64 b) (.string t) (.slice a l cap)
  have p0 : W1.cell? ⟨w.heap.size, 0, none⟩ = some (.int .i64 k) := hx1.cell 0 rfl
  have p1 : W1.cell? ⟨w.heap.size, 1, none⟩ = some (.int .i64 m) := hx1.cell 1 rfl
  have p2 : W1.cell? ⟨w.heap.size, 2, none⟩ = some (.int .u64 b) := hx1.cell 2 rfl
  have p3 : W1.cell? ⟨w.heap.size, 3, none⟩ = some (.string t) := hx1.cell 3 rfl
  have p4 : W1.cell? ⟨w.heap.size, 4, none⟩ = some (.slice a l cap) := hx1.cell 4 rfl
  go_enter Tryz.func57, Tryz.ntmps57
  go_upto_region 1 with fail
  rw [← hW1]
  clear hW1
  go_wp2_with fail
  refine (HT.out _ (HB.out.trans (hb1.mono HB.out.size))).mono ?_
  rintro e w2 ⟨v', rfl, hv', hb2⟩
  obtain ⟨k5, m5, b5, t5, a5, n5, cap5, rfl, -⟩ := hv'
  have hbw := hb1.trans (hb2.mono hb1.size)
  dsimp only
  go_wp2_with (go_at_call 64; refine (smust_ok rfl _).mono ?_; rintro e w3 ⟨rfl, hb3⟩)
  go_end0
  exact ⟨rfl, hbw.trans (hb3.mono hbw.size)⟩

set_option maxRecDepth 100000 in
set_option maxHeartbeats 1600000 in
theorem asked_no {k : Nat} {m b : Int} {t : ByteArray} {a : Option Addr} {l cap : Nat} (hk : k ≤ 13) (f : Int) (h : hasFi k f = false) (w : World) :
    Calls Tryz.prog 57 #[(.agg #[.int .i64 k, .int .i64 m, .int .u64 b, .string t, .slice a l cap]), .int .i64 f] w fun x w' => x = .panicked (thrown 50 (.agg #[.int .i64 110, .int .i64 0, .int .i64 2, .int .i64 (faceMiss k f), .bool false, .int .i64 0, .int .i64 0, .int .u64 0, .string ⟨#[]⟩, .slice none 0 0])) ∧ Below w.heap.size w w' := by
  have HT := Lib.hid (fun (W : World) => try_pan (.int .i64 3) (.int .i64 k) (.int .i64 m) (.int .u64 b) (.string t) (.slice a l cap) (.int .i64 0) (.int .i64 0) (.int .u64 0) (.string ⟨#[]⟩) (.slice none 0 0) (.int .i64 f) _ _ 2 (faceMiss k f) (told_0 _) W (fun W' _ => act_face_no (k := k) (m := m) (b := b) (t := t) (a := a) (l := l) (cap := cap) hk _ _ _ _ _ f h W'))
  clear h
  obtain ⟨W1, hW1, hb1, hx1⟩ := boxes1r w (.int .i64 k) (.int .i64 m) (.int .u64 b) (.string t) (.slice a l cap)
  have p0 : W1.cell? ⟨w.heap.size, 0, none⟩ = some (.int .i64 k) := hx1.cell 0 rfl
  have p1 : W1.cell? ⟨w.heap.size, 1, none⟩ = some (.int .i64 m) := hx1.cell 1 rfl
  have p2 : W1.cell? ⟨w.heap.size, 2, none⟩ = some (.int .u64 b) := hx1.cell 2 rfl
  have p3 : W1.cell? ⟨w.heap.size, 3, none⟩ = some (.string t) := hx1.cell 3 rfl
  have p4 : W1.cell? ⟨w.heap.size, 4, none⟩ = some (.slice a l cap) := hx1.cell 4 rfl
  go_enter Tryz.func57, Tryz.ntmps57
  go_upto_region 1 with fail
  rw [← hW1]
  clear hW1
  go_wp2_with fail
  refine (HT.out _).mono ?_
  rintro e w2 ⟨v', rfl, hv', hb2⟩
  obtain rfl : v' = _ := hv'
  have hbw := hb1.trans (hb2.mono hb1.size)
  dsimp only
  go_wp2_with (go_at_call 64; refine (smust_no (by decide) _).mono ?_; rintro e w3 ⟨rfl, hb3⟩)
  exact ⟨rfl, rfl, hbw.trans (hb3.mono hbw.size)⟩
end Go.Proofs.YtecdniimikfbhaaGreatDoor
