/- Guard: contracts, joined texts (G8, G67, G68, G72, G77). -/
import Derived.Laws.StructEq
import Derived.Test.YtecdniimikfbhaaGreatDoorM02
import Derived.Test.YtecdniimikfbhaaGreatDoorM07
import Derived.Test.YtecdniimikfbhaaGreatDoorM08
import Derived.Test.YtecdniimikfbhaaGreatDoorM09

/- The contract of the reference's Copy. -/
namespace Go.Proofs.YtecdniimikfbhaaGreatDoor
open Go Go.RowKit Go.ChangeShapes Go.WideShapes

set_option maxRecDepth 100000 in
set_option maxHeartbeats 3200000 in
theorem copy_any {w0 : World} {v : Value} {d : D} (h : Rep w0 v d) : Slim d → ∀ (w : World), Below w0.heap.size w0 w →
    Calls Tryz.prog 7 #[v] w fun x w' => ∃ v', x = .returned v' ∧ RepQ w' (fun b => w.heap.size ≤ b) v' d ∧ Below w.heap.size w w' := by
  induction h with
  | mk k m b t a cap g o c kids hw ha hc hk ih =>
    intro hsl w hb
    obtain ⟨hn, hks⟩ := hsl.inv
    obtain ⟨i0, hi, hz0, hz1, hz2⟩ := info_parts info25
    have HI := Lib.hid ih
    have HA := Lib.hid ha
    have HC := Lib.hid hc
    have HW := Lib.hid hw
    have HS := Lib.hid hks
    have HK := Lib.hid hk
    clear ih ha hc hk hw hsl hks
    obtain ⟨W1, hW1⟩ : ∃ W1, W1 = ((w.alloc (.cells #[.int .i64 k, .int .i64 m, .int .u64 b, .string t, .slice a kids.length cap] 25)).alloc (.cells #[.int .i64 0, .int .i64 0, .int .u64 0, .string ⟨#[]⟩, .slice none 0 0] 25)).alloc (.cells #[.int .i64 k, .int .i64 m, .int .u64 b, .string t, .slice none 0 0] 25) := ⟨_, rfl⟩
    have hbW : Below w.heap.size w W1 := by rw [hW1]; exact (((Below.refl _ _).alloc (Nat.le_refl _) _).alloc (by simp) _).alloc (by simp; omega) _
    have hzW : W1.heap.size = w.heap.size + 3 := by rw [hW1]; simp
    have hx0 : Box5 W1 w.heap.size (.int .i64 k) (.int .i64 m) (.int .u64 b) (.string t) (.slice a kids.length cap) := by
      rw [hW1]
      unfold Box5
      rw [heap_alloc_old _ _ (by simp; omega), heap_alloc_old _ _ (by simp)]
      exact heap_alloc_new w _
    have hx2 : Box5 W1 (w.heap.size + 1) (.int .i64 0) (.int .i64 0) (.int .u64 0) (.string ⟨#[]⟩) (.slice none 0 0) := by
      rw [hW1]
      unfold Box5
      rw [heap_alloc_old _ _ (by simp)]
      exact heap_alloc2_new w _ _
    have hx1 : Box5 W1 (w.heap.size + 1 + 1) (.int .i64 k) (.int .i64 m) (.int .u64 b) (.string t) (.slice none 0 0) := by
      rw [hW1]
      have h := heap_alloc_new ((w.alloc (.cells #[.int .i64 k, .int .i64 m, .int .u64 b, .string t, .slice a kids.length cap] 25)).alloc (.cells #[.int .i64 0, .int .i64 0, .int .u64 0, .string ⟨#[]⟩, .slice none 0 0] 25)) (.cells #[.int .i64 k, .int .i64 m, .int .u64 b, .string t, .slice none 0 0] 25)
      simpa [Box5] using h
    have hB0 : Below w0.heap.size w0 W1 := hb.trans (hbW.mono hb.size)
    go_enter Tryz.func7, Tryz.ntmps7
    go_wp2_with fail
    rw [← hW1]
    clear hW1
    go_loopw [10] (fun i wr => ∃ (j : Nat) (a2 : Option Addr) (cap2 : Nat), j ≤ kids.length ∧ i = .int .i64 j ∧ Box5 wr w.heap.size (.int .i64 k) (.int .i64 m) (.int .u64 b) (.string t) (.slice a kids.length cap) ∧ Box5 wr (w.heap.size + 1 + 1) (.int .i64 k) (.int .i64 m) (.int .u64 b) (.string t) (.slice a2 j cap2) ∧
      Box5 wr (w.heap.size + 1) (.int .i64 0) (.int .i64 0) (.int .u64 0) (.string ⟨#[]⟩) (.slice none 0 0) ∧ OwnQ wr (w.heap.size + 3) (.slice a2 j cap2) (kids.take j) ∧ Below w.heap.size w wr ∧ w.heap.size + 3 ≤ wr.heap.size) (fun i _ => kids.length - (intOf i).toNat)
    case atStart => exact ⟨0, none, 0, by omega, rfl, hx0, hx1, hx2, OwnQ.nil _ _, hbW, by omega⟩
    case round =>
      obtain ⟨j, a2, cap2, hj, rfl, hy0, hy1, hy2, hO, hbr, hzr⟩ := hrel
      clear hx0 hx1 hx2 hbW hzW
      by_cases hlt : j < kids.length
      · obtain ⟨rfl, hg, hcp, hcm⟩ := HA.out (by omega)
        have hB1 : Below w0.heap.size w0 wr := hb.trans (hbr.mono hb.size)
        obtain ⟨q0, q1, q2, q3, q4⟩ := (HC.out.below hg hB1) j hlt
        have hx : kids[j]? = some kids[j] := List.getElem?_eq_getElem hlt
        have HX := Lib.hid (HI.out j _ hx (HS.out _ (List.getElem_mem hlt)))
        obtain ⟨k2, m2, b2, t2, a3, cap3, g3, o3, c3, kids3, e5, e6, hw3, _⟩ := (HK.out j _ hx).inv
        obtain ⟨f0, f1, f2, f3, f4⟩ := five_inv e5
        rw [f0] at q0
        rw [f1] at q1
        rw [f2] at q2
        rw [f3] at q3
        rw [f4] at q4
        rw [e5] at HX
        generalize hkj : kids[j] = x at *
        generalize kids3.length = n3 at *
        clear hx e6 f0 f1 f2 f3 f4 e5
        obtain ⟨W3, hW3⟩ : ∃ W3, W3 = wr := ⟨_, rfl⟩
        have hv0 := hy0
        have hv1 := hy1
        have hv2 := hy2
        have hO3 := hO
        have hB3 := hB1
        have hbw3 := hbr
        have HX2 := Lib.hid (fun w' (h : Below wr.heap.size wr w') => HX.out w' (hB1.trans (h.mono hB1.size)))
        go_upto_region 6 with fail
        subst hW3
        obtain ⟨_, _, _, _, x4⟩ := hv0.cells
        obtain ⟨_, _, _, _, p4⟩ := hv1.cells
        have pf := hv1.thaw 4
        obtain ⟨cc, hown, hkk⟩ := hO3
        have htl : (kids.take j).length = j := by rw [List.length_take]; omega
        rw [htl] at hown
        have HKK := Lib.hid hkk
        clear hkk
        clear hy0 hy1 hy2 hO HX
        have hone : ∀ (k5 m5 b5 : Int) (t5 : ByteArray) (a5 : Option Addr) (n5 cap5 : Nat), ∀ u ∈ [Value.int .i64 k5, .int .i64 m5, .int .u64 b5, .string t5, .slice a5 n5 cap5], u.oneCell' = true := fun k5 m5 b5 t5 a5 n5 cap5 u hu => by
          simp at hu
          rcases hu with rfl | rfl | rfl | rfl | rfl <;> rfl
        have hj1 : j + 1 ≤ maxLen := by unfold maxLen; omega
        have hj2 : (j + 1) * 64 ≤ 140737488355328 := by omega
        have hO1 := Lib.hid hone
        clear hone
        go_region_law (first
          | (refine step_append_lies _ (by rfl) (.tmp 14) (.tmp 21) 23 (by rfl) (w.heap.size + 3) 25 i0 (.agg #[.int .i64 0, .int .i64 0, .int .u64 0, .string ⟨#[]⟩, .slice none 0 0]) 5 64 Tryz.underlying23 hi hz0 hz1 hz2 (by rfl) (by decide) _ _ _ (by rfl) (World.ownsRow.alloc hown4 _) ⟨ww.heap.size, 0, none⟩ 1 1 [.int .i64 k5, .int .i64 m5, .int .u64 b5, .string t5, .slice a5 n5 cap5] (by rfl) (by rfl) (World.news_of_block (heap_alloc_new ww _)) (hO1.out _ _ _ _ _ _ _) (by decide) hj1 hj2 (hbase _) _ (by rfl) ?_; intro g5 cap6 w5 hown5 hgrow hat hlt5; have hbx := Box5.behind hv1 hb4 hown4 hgrow (by omega); have hp5 := hbx.cells.2.2.2.2; have hpf := hbx.thaw 4)
          | (go_simp; go_at_call 7; refine (HX2.out _ (by go_grown)).mono ?_; rintro x ww ⟨v', rfl, hv', hb2⟩; obtain ⟨k5, m5, b5, t5, a5, n5, cap5, rfl⟩ := hv'.form; have hb4 : Below W3.heap.size W3 ww := Below.trans (by go_grown) hb2; have hown4 := owns_below hown hb4; have hz4 := hb4.size; have hbase : ∀ ob, w.heap.size + 3 ≤ (ww.alloc ob).heap.size := (fun ob => by simp; omega); have hp4 : ww.cell? ⟨w.heap.size + 1 + 1, 4, none⟩ = some (.slice a2 j cap2) := (hb4.cell (p := ⟨w.heap.size + 1 + 1, 4, none⟩) (by simp; omega)).trans p4; have hp6 : ∀ ob, (ww.alloc ob).cell? ⟨w.heap.size + 1 + 1, 4, none⟩ = some (.slice a2 j cap2) := (fun ob => (World.cell?_of_block (w := ww) (heap_alloc_old ww ob (show w.heap.size + 1 + 1 < ww.heap.size by omega))).trans hp4); (try dsimp only)))
        all_goals (
          have hO5 := OwnQ.behind htl hown HKK.out hb4 (by rfl) (by omega) hv' hown5 hgrow hat
          have hbx0 := Box5.behind hv0 hb4 hown4 hgrow (by omega)
          have hbx2 := Box5.behind hv2 hb4 hown4 hgrow (by omega)
          have hz5 := hgrow.size
          have hbw5 : Below w.heap.size w w5 := Below.grown ((hbw3.trans (hb4.mono (by omega))).alloc (by omega) _) hgrow (by simp; omega) (fun r hr => Nat.le_trans (by omega) (World.ownsRow.lt hown4 r hr).1)
          have hO6 := hO5.carry (w1 := w5.setCell ⟨w.heap.size + 1 + 1, 4, none⟩ (.slice (some ⟨g5, 0, none⟩) (j + 1) cap6)) (fun b hb _ => heap_setCell_other _ _ _ _ (by simp; omega)) (by simp)
          have htk : kids.take (j + 1) = kids.take j ++ [x] := by rw [List.take_succ_eq_append_getElem hlt, hkj]
          rw [← htk] at hO6
          have hbx3 := hbx.set4 (.slice (some ⟨g5, 0, none⟩) (j + 1) cap6)
          have hbx4 := hbx2.keep (w1 := w5.setCell ⟨w.heap.size + 1 + 1, 4, none⟩ (.slice (some ⟨g5, 0, none⟩) (j + 1) cap6)) (heap_setCell_other _ _ _ _ (by first | (simp; done) | (simp; omega)))
          have hbx5 := hbx0.keep (w1 := w5.setCell ⟨w.heap.size + 1 + 1, 4, none⟩ (.slice (some ⟨g5, 0, none⟩) (j + 1) cap6)) (heap_setCell_other _ _ _ _ (by first | (simp; done) | (simp; omega)))
          have hbw6 := hbw5.setCell (p := ⟨w.heap.size + 1 + 1, 4, none⟩) (show w.heap.size ≤ w.heap.size + 1 + 1 by omega) (.slice (some ⟨g5, 0, none⟩) (j + 1) cap6)
          have hz6 : w.heap.size + 3 ≤ (w5.setCell ⟨w.heap.size + 1 + 1, 4, none⟩ (.slice (some ⟨g5, 0, none⟩) (j + 1) cap6)).heap.size := by simp at hz5 ⊢; omega
          generalize w5.setCell ⟨w.heap.size + 1 + 1, 4, none⟩ (.slice (some ⟨g5, 0, none⟩) (j + 1) cap6) = w6 at *
          clear hgrow hat hown5 hown4 hown hv' hO5 hbx hbx0 hbx2 hv0 hv1 hv2 x4 hp4 hp5 hp6 hpf p4 pf hbase hlt5
          go_wp2_with fail
          go_roundw
          case rel => exact ⟨j + 1, _, cap6, by omega, by go_num, hbx5, hbx3, hbx4, hO6, hbw6, hz6⟩
          case measure => simp [intOf]; omega)
      · obtain rfl : j = kids.length := by omega
        rw [List.take_length] at hO
        obtain ⟨z0, z1, z2, z3, z4⟩ := hy1.cells
        have zf := hy2.thaw
        obtain ⟨y0, y1, y2, y3, y4⟩ := hy2.cells
        have hne : w.heap.size + 1 ≠ w.heap.size + 1 + 1 := by omega
        go_wp2_with fail
        have hF := hy2.set5 (.int .i64 k) (.int .i64 m) (.int .u64 b) (.string t) (.slice a2 kids.length cap2)
        have hFo := set5_other wr (w.heap.size + 1) (.int .i64 k) (.int .i64 m) (.int .u64 b) (.string t) (.slice a2 kids.length cap2)
        have hFs := set5_size wr (w.heap.size + 1) (.int .i64 k) (.int .i64 m) (.int .u64 b) (.string t) (.slice a2 kids.length cap2)
        have hFb : Below w.heap.size w (((((wr.setCell ⟨w.heap.size + 1, 0, none⟩ (.int .i64 k)).setCell ⟨w.heap.size + 1, 1, none⟩ (.int .i64 m)).setCell ⟨w.heap.size + 1, 2, none⟩ (.int .u64 b)).setCell ⟨w.heap.size + 1, 3, none⟩ (.string t)).setCell ⟨w.heap.size + 1, 4, none⟩ (.slice a2 kids.length cap2)) :=
          ((((hbr.setCell (p := ⟨w.heap.size + 1, 0, none⟩) (by simp) _).setCell (p := ⟨w.heap.size + 1, 1, none⟩) (by simp) _).setCell (p := ⟨w.heap.size + 1, 2, none⟩) (by simp) _).setCell (p := ⟨w.heap.size + 1, 3, none⟩) (by simp) _).setCell (p := ⟨w.heap.size + 1, 4, none⟩) (by simp) _
        generalize ((((wr.setCell ⟨w.heap.size + 1, 0, none⟩ (.int .i64 k)).setCell ⟨w.heap.size + 1, 1, none⟩ (.int .i64 m)).setCell ⟨w.heap.size + 1, 2, none⟩ (.int .u64 b)).setCell ⟨w.heap.size + 1, 3, none⟩ (.string t)).setCell ⟨w.heap.size + 1, 4, none⟩ (.slice a2 kids.length cap2) = Wf at *
        obtain ⟨r0, r1, r2, r3, r4⟩ := hF.cells
        have hO2 : OwnQ Wf (w.heap.size + 3) (.slice a2 kids.length cap2) kids := hO.carry (fun b hb _ => hFo b (by omega)) (by omega)
        have hR := (hO2.repQ HW.out).carry (Q1 := fun b => w.heap.size ≤ b) (fun b hb _ => ⟨rfl, by omega⟩) (Nat.le_refl _)
        refine bodyPost_ret (v := .agg #[.int .i64 k, .int .i64 m, .int .u64 b, .string t, .slice a2 kids.length cap2]) ?_ rfl ?_
        · exact results_cell_row rfl _ Wf (w.heap.size + 1) 25 _ (0, 0) _ rfl hF Tryz.underlying25 rfl (by kernel_rfl)
        · exact ⟨_, rfl, hR, hFb⟩

end Go.Proofs.YtecdniimikfbhaaGreatDoor

/- Contracts of the reference's Length, Kind, Face. -/
namespace Go.Proofs.YtecdniimikfbhaaGreatDoor
open Go Go.RowKit Go.ChangeShapes Go.WideShapes

theorem lenD_kind {d : D} {n : Int} (hn : lenD d = some n) : d.kind = 4 ∨ d.kind = 5 ∨ d.kind = 7 ∨ d.kind = 8 ∨ d.kind = 9 ∨ d.kind = 11 ∨ d.kind = 12 := by
  unfold lenD at hn
  by_cases h1 : d.kind = 4 ∨ d.kind = 5 ∨ d.kind = 7
  · omega
  · rw [if_neg h1] at hn
    by_cases h2 : d.kind = 8
    · omega
    · rw [if_neg h2] at hn
      by_cases h3 : d.kind = 9
      · omega
      · rw [if_neg h3] at hn
        by_cases h4 : d.kind = 11
        · omega
        · rw [if_neg h4] at hn
          by_cases h5 : d.kind = 12
          · omega
          · rw [if_neg h5] at hn; cases hn
theorem lenD_none {d : D} (hn : lenD d = none) : d.kind ≠ 4 ∧ d.kind ≠ 5 ∧ d.kind ≠ 7 ∧ d.kind ≠ 8 ∧ d.kind ≠ 9 ∧ d.kind ≠ 11 ∧ d.kind ≠ 12 := by
  unfold lenD at hn
  refine ⟨?_, ?_, ?_, ?_, ?_, ?_, ?_⟩ <;> (intro h; rw [h] at hn; simp at hn)

set_option maxRecDepth 100000 in
set_option maxHeartbeats 1600000 in
theorem rlength_some {k : Nat} (_hk : k ≤ 13) {m b : Int} {t : ByteArray} {a : Option Addr} {l cap : Nat} {kids : List D} (hl : kids.length = l) (n : Int) (hn : lenD (.mk k m b t kids) = some n) (w : World) :
    Calls Tryz.prog 25 #[(.agg #[.int .i64 k, .int .i64 m, .int .u64 b, .string t, .slice a l cap])] w fun x w' => x = .returned (.tuple #[.int .i64 n, .int .i64 0]) ∧ Below w.heap.size w w' := by
  subst hl
  have h4 : (k : Int) = 4 ∨ (k : Int) = 5 ∨ (k : Int) = 7 ∨ (k : Int) = 8 ∨ (k : Int) = 9 ∨ (k : Int) = 11 ∨ (k : Int) = 12 := lenD_kind hn
  have hk : k = 4 ∨ k = 5 ∨ k = 7 ∨ k = 8 ∨ k = 9 ∨ k = 11 ∨ k = 12 := by omega
  clear h4
  generalize hz : kids.length = l at *
  rcases hk with rfl | rfl | rfl | rfl | rfl | rfl | rfl
  all_goals (
    have e : n = _ := (Option.some.inj hn).symm
    subst e
    clear hn
    obtain ⟨W1, hW1, hb1, hz1, hx1⟩ := boxes1 w (.int .i64 _) (.int .i64 m) (.int .u64 b) (.string t) (.slice a l cap)
    obtain ⟨p0, p1, p2, p3, p4⟩ := hx1.cells
    go_enter Tryz.func25, Tryz.ntmps25
    go_upto_region 1 with fail
    rw [← hW1]
    clear hW1
    go_wp2_with fail
    go_ret2)
  all_goals first
    | exact ⟨rfl, hb1⟩
    | (rw [← hz]; exact ⟨rfl, hb1⟩)

set_option maxRecDepth 100000 in
set_option maxHeartbeats 1600000 in
theorem rlength_none {k : Nat} (_hk : k ≤ 13) {m b : Int} {t : ByteArray} {a : Option Addr} {l cap : Nat} {kids : List D} (hn : lenD (.mk k m b t kids) = none) (w : World) :
    Calls Tryz.prog 25 #[(.agg #[.int .i64 k, .int .i64 m, .int .u64 b, .string t, .slice a l cap])] w fun x w' => x = .returned (.tuple #[.int .i64 0, .int .i64 12]) ∧ Below w.heap.size w w' := by
  have h : (k : Int) ≠ 4 ∧ (k : Int) ≠ 5 ∧ (k : Int) ≠ 7 ∧ (k : Int) ≠ 8 ∧ (k : Int) ≠ 9 ∧ (k : Int) ≠ 11 ∧ (k : Int) ≠ 12 := lenD_none hn
  clear hn
  obtain ⟨h1, h2, h3, h4, h5, h6, h7⟩ := h
  obtain ⟨W1, hW1, hb1, hz1, hx1⟩ := boxes1 w (.int .i64 k) (.int .i64 m) (.int .u64 b) (.string t) (.slice a l cap)
  obtain ⟨p0, p1, p2, p3, p4⟩ := hx1.cells
  go_enter Tryz.func25, Tryz.ntmps25
  go_upto_region 1 with fail
  rw [← hW1]
  clear hW1
  go_wp2_with fail
  go_ret2
  exact ⟨rfl, hb1⟩

theorem missN_sign (k : Nat) : ∀ (l : List Nat), missN k l = -1 ∨ 0 ≤ missN k l
  | [] => Or.inl rfl
  | m :: l => by
    unfold missN
    split
    · exact missN_sign k l
    · right; omega
theorem hasFi_t {k : Nat} {f : Int} (h : hasFi k f = true) : k ≠ 0 ∧ 0 ≤ f ∧ f < 10 ∧ missN k (methsI f) = -1 := by
  have hf : 0 ≤ f ∧ f < 10 := by
    unfold hasFi at h
    simp only [Bool.and_eq_true, decide_eq_true_eq] at h
    exact h.1
  have e := hasFi_eq k f hf
  rw [h] at e
  have e' : missN k (methsI f) = -1 := of_decide_eq_true e.symm
  refine ⟨fun hk => ?_, hf.1, hf.2, e'⟩
  subst hk
  obtain ⟨n, rfl⟩ : ∃ n : Nat, f = n := ⟨f.toNat, by omega⟩
  have hn : n < 10 := by omega
  have : ∀ n : Nat, n < 10 → missN 0 (methsI n) ≠ -1 := by decide
  exact this n hn e'
theorem hasFi_f {k : Nat} {f : Int} (h : hasFi k f = false) : k = 0 ∨ (k ≠ 0 ∧ f < 0) ∨ (k ≠ 0 ∧ 10 ≤ f) ∨ (k ≠ 0 ∧ 0 ≤ f ∧ f < 10 ∧ 0 ≤ missN k (methsI f)) := by
  by_cases hf : 0 ≤ f ∧ f < 10
  · by_cases hk : k = 0
    · exact Or.inl hk
    · have e := hasFi_eq k f hf
      rw [h] at e
      have e' : missN k (methsI f) ≠ -1 := of_decide_eq_false e.symm
      rcases missN_sign k (methsI f) with h1 | h1
      · exact absurd h1 e'
      · exact Or.inr (Or.inr (Or.inr ⟨hk, hf.1, hf.2, h1⟩))
  · by_cases hk : k = 0
    · exact Or.inl hk
    · omega

set_option maxRecDepth 100000 in
set_option maxHeartbeats 3200000 in
theorem rface_yes {w0 : World} {d : D} {k : Nat} (hk : k ≤ 13) {m b : Int} {t : ByteArray} {a : Option Addr} {l cap : Nat} (hv : Rep w0 (.agg #[.int .i64 k, .int .i64 m, .int .u64 b, .string t, .slice a l cap]) d) (hs : Slim d) (f : Int) (h : hasFi k f = true) (w : World) (hb0 : Below w0.heap.size w0 w) :
    Calls Tryz.prog 20 #[(.agg #[.int .i64 k, .int .i64 m, .int .u64 b, .string t, .slice a l cap]), .int .i64 f] w fun x w' => ∃ v', x = .returned v' ∧ ResV w' (fun b => w.heap.size ≤ b) v' (.gave d) ∧ Below w.heap.size w w' := by
  have HL := Lib.hid (fun W => lacks_any k hk f W)
  obtain ⟨g0, g1, g2, g3⟩ := hasFi_t h
  rw [g3] at HL
  have g4 : (k : Int) ≠ 0 := by omega
  have g5 : ¬ f < 0 := by omega
  have g6 : ¬ 10 ≤ f := by omega
  clear h g0 g3
  have HC := Lib.hid (fun W h => copy_any hv hs W h)
  have HB := Lib.hid hb0
  clear hv hs hb0
  obtain ⟨W1, hW1, hb1, hz, hx1, hx2⟩ := res_worlds w (.int .i64 k) (.int .i64 m) (.int .u64 b) (.string t) (.slice a l cap)
  obtain ⟨p0, p1, p2, p3, p4⟩ := hx1.cells
  go_enter Tryz.func20, Tryz.ntmps20
  go_upto_region 1 with fail
  rw [← hW1]
  clear hW1
  go_wp2_with (first
    | (go_at_call 32; refine (HL.out _).mono ?_; rintro e w1 ⟨rfl, hb4⟩; have hx4 := hx1.row.later hb4; have r0 : w1.cell? ⟨w.heap.size, 0, none⟩ = some (.int .i64 k) := hx4.cell 0 rfl; have r1 : w1.cell? ⟨w.heap.size, 1, none⟩ = some (.int .i64 m) := hx4.cell 1 rfl; have r2 : w1.cell? ⟨w.heap.size, 2, none⟩ = some (.int .u64 b) := hx4.cell 2 rfl; have r3 : w1.cell? ⟨w.heap.size, 3, none⟩ = some (.string t) := hx4.cell 3 rfl; have r4 : w1.cell? ⟨w.heap.size, 4, none⟩ = some (.slice a l cap) := hx4.cell 4 rfl; have hx5 := hx2.later hb4; dsimp only)
    | (go_at_call 7; refine (HC.out _ (HB.out.trans ((hb1.trans (hb4.mono hb1.size)).mono HB.out.size))).mono ?_; rintro e w2 ⟨v', rfl, hv', hb2⟩; obtain ⟨k5, m5, b5, t5, a5, n5, cap5, rfl⟩ := hv'.form; have hy2 := hx5.later hb2; dsimp only)
    | (go_at_call 22; refine (rgave_v _ _ _ _ _ _ _ _).mono ?_; rintro e w3 ⟨rfl, hb3⟩; have hy := hy2.later hb3; have q0 : w3.cell? ⟨w.heap.size + 1, 0, none⟩ = some (.int .i64 0) := hy.cell 0 rfl; have fq0 := hy.thaw 0; have q1 : w3.cell? ⟨w.heap.size + 1, 1, none⟩ = some (.int .i64 0) := hy.cell 1 rfl; have fq1 := hy.thaw 1; have q2 : w3.cell? ⟨w.heap.size + 1, 2, none⟩ = some (.int .i64 0) := hy.cell 2 rfl; have fq2 := hy.thaw 2; have q3 : w3.cell? ⟨w.heap.size + 1, 3, none⟩ = some (.int .i64 0) := hy.cell 3 rfl; have fq3 := hy.thaw 3; have q4 : w3.cell? ⟨w.heap.size + 1, 4, none⟩ = some (.bool false) := hy.cell 4 rfl; have fq4 := hy.thaw 4; have q5 : w3.cell? ⟨w.heap.size + 1, 5, none⟩ = some (.int .i64 0) := hy.cell 5 rfl; have fq5 := hy.thaw 5; have q6 : w3.cell? ⟨w.heap.size + 1, 6, none⟩ = some (.int .i64 0) := hy.cell 6 rfl; have fq6 := hy.thaw 6; have q7 : w3.cell? ⟨w.heap.size + 1, 7, none⟩ = some (.int .u64 0) := hy.cell 7 rfl; have fq7 := hy.thaw 7; have q8 : w3.cell? ⟨w.heap.size + 1, 8, none⟩ = some (.string ⟨#[]⟩) := hy.cell 8 rfl; have fq8 := hy.thaw 8; have q9 : w3.cell? ⟨w.heap.size + 1, 9, none⟩ = some (.slice none 0 0) := hy.cell 9 rfl; have fq9 := hy.thaw 9; dsimp only))
  have hzl4 := hb4.size
  have hzl := hb2.size
  have hzo := hz.out
  have hbw2 := (hb1.trans (hb4.mono hb1.size)).trans (hb2.mono (hb1.trans (hb4.mono hb1.size)).size)
  exact bodyPost_ret (results_cell_row rfl _ _ (w.heap.size + 1) 33 _ (0, 0) _ rfl (hy.set10 _ _ _ _ _ _ _ _ _ _) Tryz.underlying33 rfl (by kernel_rfl)) rfl
    ⟨_, rfl, ⟨_, _, _, _, _, _, _, rfl, RepQ.set10 (N := w1.heap.size) (hv'.later hb3) (by omega) (by omega)⟩, set10_below (hbw2.trans (hb3.mono hbw2.size)) (by omega)⟩

set_option maxRecDepth 100000 in
set_option maxHeartbeats 3200000 in
theorem rface_no {k : Nat} (hk : k ≤ 13) {m b : Int} {t : ByteArray} {a : Option Addr} {l cap : Nat} (f : Int) (h : hasFi k f = false) (w : World) :
    Calls Tryz.prog 20 #[(.agg #[.int .i64 k, .int .i64 m, .int .u64 b, .string t, .slice a l cap]), .int .i64 f] w fun x w' => ∃ v', x = .returned v' ∧ ResV w' (fun b => w.heap.size ≤ b) v' (.pan 2 (faceMiss k f)) ∧ Below w.heap.size w w' := by
  have HL := Lib.hid (fun W => lacks_any k hk f W)
  have hF : k ≠ 0 → faceMiss k f = missN k (methsI f) := fun h0 => by unfold faceMiss; rw [if_neg h0]
  have hO : ¬ (0 ≤ f ∧ f < 10) → missN k (methsI f) = -1 := fun h0 => by unfold methsI; rw [if_neg h0]; rfl
  generalize hm : missN k (methsI f) = mm at *
  rcases hasFi_f h with h0 | ⟨h0, h1⟩ | ⟨h0, h1⟩ | ⟨h0, h1, h2, h3⟩
  · subst h0
    have e : faceMiss 0 f = -1 := rfl
    rw [e]
    show Calls Tryz.prog 20 #[(.agg #[.int .i64 0, .int .i64 m, .int .u64 b, .string t, .slice a l cap]), .int .i64 f] w _
    obtain ⟨W1, hW1, hb1, hz, hx1, hx2⟩ := res_worlds w (.int .i64 0) (.int .i64 m) (.int .u64 b) (.string t) (.slice a l cap)
    obtain ⟨p0, p1, p2, p3, p4⟩ := hx1.cells
    clear h hF hO hm
    go_enter Tryz.func20, Tryz.ntmps20
    go_upto_region 1 with fail
    rw [← hW1]
    clear hW1
    go_wp2_with (go_at_call 31; refine (rpan_v _ _ _).mono ?_; rintro e w3 ⟨rfl, hb3⟩; have hy := hx2.later hb3; have q0 : w3.cell? ⟨w.heap.size + 1, 0, none⟩ = some (.int .i64 0) := hy.cell 0 rfl; have fq0 := hy.thaw 0; have q1 : w3.cell? ⟨w.heap.size + 1, 1, none⟩ = some (.int .i64 0) := hy.cell 1 rfl; have fq1 := hy.thaw 1; have q2 : w3.cell? ⟨w.heap.size + 1, 2, none⟩ = some (.int .i64 0) := hy.cell 2 rfl; have fq2 := hy.thaw 2; have q3 : w3.cell? ⟨w.heap.size + 1, 3, none⟩ = some (.int .i64 0) := hy.cell 3 rfl; have fq3 := hy.thaw 3; have q4 : w3.cell? ⟨w.heap.size + 1, 4, none⟩ = some (.bool false) := hy.cell 4 rfl; have fq4 := hy.thaw 4; have q5 : w3.cell? ⟨w.heap.size + 1, 5, none⟩ = some (.int .i64 0) := hy.cell 5 rfl; have fq5 := hy.thaw 5; have q6 : w3.cell? ⟨w.heap.size + 1, 6, none⟩ = some (.int .i64 0) := hy.cell 6 rfl; have fq6 := hy.thaw 6; have q7 : w3.cell? ⟨w.heap.size + 1, 7, none⟩ = some (.int .u64 0) := hy.cell 7 rfl; have fq7 := hy.thaw 7; have q8 : w3.cell? ⟨w.heap.size + 1, 8, none⟩ = some (.string ⟨#[]⟩) := hy.cell 8 rfl; have fq8 := hy.thaw 8; have q9 : w3.cell? ⟨w.heap.size + 1, 9, none⟩ = some (.slice none 0 0) := hy.cell 9 rfl; have fq9 := hy.thaw 9; dsimp only)
    have hzo := hz.out
    exact bodyPost_ret (results_cell_row rfl _ _ (w.heap.size + 1) 33 _ (0, 0) _ rfl (hy.set10 _ _ _ _ _ _ _ _ _ _) Tryz.underlying33 rfl (by kernel_rfl)) rfl
      ⟨_, rfl, rfl, set10_below (hb1.trans (hb3.mono hb1.size)) (by omega)⟩
  · rw [hF h0, hO (by omega)]
    have g4 : (k : Int) ≠ 0 := by omega
    obtain ⟨W1, hW1, hb1, hz, hx1, hx2⟩ := res_worlds w (.int .i64 k) (.int .i64 m) (.int .u64 b) (.string t) (.slice a l cap)
    obtain ⟨p0, p1, p2, p3, p4⟩ := hx1.cells
    clear h hF hO hm h0
    go_enter Tryz.func20, Tryz.ntmps20
    go_upto_region 1 with fail
    rw [← hW1]
    clear hW1
    go_wp2_with (go_at_call 31; refine (rpan_v _ _ _).mono ?_; rintro e w3 ⟨rfl, hb3⟩; have hy := hx2.later hb3; have q0 : w3.cell? ⟨w.heap.size + 1, 0, none⟩ = some (.int .i64 0) := hy.cell 0 rfl; have fq0 := hy.thaw 0; have q1 : w3.cell? ⟨w.heap.size + 1, 1, none⟩ = some (.int .i64 0) := hy.cell 1 rfl; have fq1 := hy.thaw 1; have q2 : w3.cell? ⟨w.heap.size + 1, 2, none⟩ = some (.int .i64 0) := hy.cell 2 rfl; have fq2 := hy.thaw 2; have q3 : w3.cell? ⟨w.heap.size + 1, 3, none⟩ = some (.int .i64 0) := hy.cell 3 rfl; have fq3 := hy.thaw 3; have q4 : w3.cell? ⟨w.heap.size + 1, 4, none⟩ = some (.bool false) := hy.cell 4 rfl; have fq4 := hy.thaw 4; have q5 : w3.cell? ⟨w.heap.size + 1, 5, none⟩ = some (.int .i64 0) := hy.cell 5 rfl; have fq5 := hy.thaw 5; have q6 : w3.cell? ⟨w.heap.size + 1, 6, none⟩ = some (.int .i64 0) := hy.cell 6 rfl; have fq6 := hy.thaw 6; have q7 : w3.cell? ⟨w.heap.size + 1, 7, none⟩ = some (.int .u64 0) := hy.cell 7 rfl; have fq7 := hy.thaw 7; have q8 : w3.cell? ⟨w.heap.size + 1, 8, none⟩ = some (.string ⟨#[]⟩) := hy.cell 8 rfl; have fq8 := hy.thaw 8; have q9 : w3.cell? ⟨w.heap.size + 1, 9, none⟩ = some (.slice none 0 0) := hy.cell 9 rfl; have fq9 := hy.thaw 9; dsimp only)
    have hzo := hz.out
    exact bodyPost_ret (results_cell_row rfl _ _ (w.heap.size + 1) 33 _ (0, 0) _ rfl (hy.set10 _ _ _ _ _ _ _ _ _ _) Tryz.underlying33 rfl (by kernel_rfl)) rfl
      ⟨_, rfl, rfl, set10_below (hb1.trans (hb3.mono hb1.size)) (by omega)⟩
  · rw [hF h0, hO (by omega)]
    have g4 : (k : Int) ≠ 0 := by omega
    have g5 : ¬ f < 0 := by omega
    obtain ⟨W1, hW1, hb1, hz, hx1, hx2⟩ := res_worlds w (.int .i64 k) (.int .i64 m) (.int .u64 b) (.string t) (.slice a l cap)
    obtain ⟨p0, p1, p2, p3, p4⟩ := hx1.cells
    clear h hF hO hm h0
    go_enter Tryz.func20, Tryz.ntmps20
    go_upto_region 1 with fail
    rw [← hW1]
    clear hW1
    go_wp2_with (go_at_call 31; refine (rpan_v _ _ _).mono ?_; rintro e w3 ⟨rfl, hb3⟩; have hy := hx2.later hb3; have q0 : w3.cell? ⟨w.heap.size + 1, 0, none⟩ = some (.int .i64 0) := hy.cell 0 rfl; have fq0 := hy.thaw 0; have q1 : w3.cell? ⟨w.heap.size + 1, 1, none⟩ = some (.int .i64 0) := hy.cell 1 rfl; have fq1 := hy.thaw 1; have q2 : w3.cell? ⟨w.heap.size + 1, 2, none⟩ = some (.int .i64 0) := hy.cell 2 rfl; have fq2 := hy.thaw 2; have q3 : w3.cell? ⟨w.heap.size + 1, 3, none⟩ = some (.int .i64 0) := hy.cell 3 rfl; have fq3 := hy.thaw 3; have q4 : w3.cell? ⟨w.heap.size + 1, 4, none⟩ = some (.bool false) := hy.cell 4 rfl; have fq4 := hy.thaw 4; have q5 : w3.cell? ⟨w.heap.size + 1, 5, none⟩ = some (.int .i64 0) := hy.cell 5 rfl; have fq5 := hy.thaw 5; have q6 : w3.cell? ⟨w.heap.size + 1, 6, none⟩ = some (.int .i64 0) := hy.cell 6 rfl; have fq6 := hy.thaw 6; have q7 : w3.cell? ⟨w.heap.size + 1, 7, none⟩ = some (.int .u64 0) := hy.cell 7 rfl; have fq7 := hy.thaw 7; have q8 : w3.cell? ⟨w.heap.size + 1, 8, none⟩ = some (.string ⟨#[]⟩) := hy.cell 8 rfl; have fq8 := hy.thaw 8; have q9 : w3.cell? ⟨w.heap.size + 1, 9, none⟩ = some (.slice none 0 0) := hy.cell 9 rfl; have fq9 := hy.thaw 9; dsimp only)
    have hzo := hz.out
    exact bodyPost_ret (results_cell_row rfl _ _ (w.heap.size + 1) 33 _ (0, 0) _ rfl (hy.set10 _ _ _ _ _ _ _ _ _ _) Tryz.underlying33 rfl (by kernel_rfl)) rfl
      ⟨_, rfl, rfl, set10_below (hb1.trans (hb3.mono hb1.size)) (by omega)⟩
  · rw [hF h0]
    rw [hm] at h3
    have g4 : (k : Int) ≠ 0 := by omega
    have g5 : ¬ f < 0 := by omega
    have g6 : ¬ 10 ≤ f := by omega
    obtain ⟨W1, hW1, hb1, hz, hx1, hx2⟩ := res_worlds w (.int .i64 k) (.int .i64 m) (.int .u64 b) (.string t) (.slice a l cap)
    obtain ⟨p0, p1, p2, p3, p4⟩ := hx1.cells
    clear h hF hO hm h0
    go_enter Tryz.func20, Tryz.ntmps20
    go_upto_region 1 with fail
    rw [← hW1]
    clear hW1
    go_wp2_with (first | (go_at_call 32; refine (HL.out _).mono ?_; rintro e w1 ⟨rfl, hb4⟩; have hx5 := hx2.later hb4; dsimp only) | (go_at_call 31; refine (rpan_v _ _ _).mono ?_; rintro e w3 ⟨rfl, hb3⟩; have hy := hx5.later hb3; have q0 : w3.cell? ⟨w.heap.size + 1, 0, none⟩ = some (.int .i64 0) := hy.cell 0 rfl; have fq0 := hy.thaw 0; have q1 : w3.cell? ⟨w.heap.size + 1, 1, none⟩ = some (.int .i64 0) := hy.cell 1 rfl; have fq1 := hy.thaw 1; have q2 : w3.cell? ⟨w.heap.size + 1, 2, none⟩ = some (.int .i64 0) := hy.cell 2 rfl; have fq2 := hy.thaw 2; have q3 : w3.cell? ⟨w.heap.size + 1, 3, none⟩ = some (.int .i64 0) := hy.cell 3 rfl; have fq3 := hy.thaw 3; have q4 : w3.cell? ⟨w.heap.size + 1, 4, none⟩ = some (.bool false) := hy.cell 4 rfl; have fq4 := hy.thaw 4; have q5 : w3.cell? ⟨w.heap.size + 1, 5, none⟩ = some (.int .i64 0) := hy.cell 5 rfl; have fq5 := hy.thaw 5; have q6 : w3.cell? ⟨w.heap.size + 1, 6, none⟩ = some (.int .i64 0) := hy.cell 6 rfl; have fq6 := hy.thaw 6; have q7 : w3.cell? ⟨w.heap.size + 1, 7, none⟩ = some (.int .u64 0) := hy.cell 7 rfl; have fq7 := hy.thaw 7; have q8 : w3.cell? ⟨w.heap.size + 1, 8, none⟩ = some (.string ⟨#[]⟩) := hy.cell 8 rfl; have fq8 := hy.thaw 8; have q9 : w3.cell? ⟨w.heap.size + 1, 9, none⟩ = some (.slice none 0 0) := hy.cell 9 rfl; have fq9 := hy.thaw 9; dsimp only))
    have hzl4 := hb4.size
    have hzo := hz.out
    have hbw2 := hb1.trans (hb4.mono hb1.size)
    exact bodyPost_ret (results_cell_row rfl _ _ (w.heap.size + 1) 33 _ (0, 0) _ rfl (hy.set10 _ _ _ _ _ _ _ _ _ _) Tryz.underlying33 rfl (by kernel_rfl)) rfl
      ⟨_, rfl, rfl, set10_below (hbw2.trans (hb3.mono hbw2.size)) (by omega)⟩

set_option maxRecDepth 100000 in
set_option maxHeartbeats 3200000 in
theorem rkind_yes {w0 : World} {d : D} {k : Nat} (hk : k ≤ 13) {m b : Int} {t : ByteArray} {a : Option Addr} {l cap : Nat} (hv : Rep w0 (.agg #[.int .i64 k, .int .i64 m, .int .u64 b, .string t, .slice a l cap]) d) (hs : Slim d) (n : Int) (h : isB k n = true) (hn : 1 ≤ n ∧ n < 14) (w : World) (hb0 : Below w0.heap.size w0 w) :
    Calls Tryz.prog 27 #[(.agg #[.int .i64 k, .int .i64 m, .int .u64 b, .string t, .slice a l cap]), .int .i64 n] w fun x w' => ∃ v', x = .returned v' ∧ ResV w' (fun b => w.heap.size ≤ b) v' (.gave d) ∧ Below w.heap.size w w' := by
  obtain ⟨n, rfl⟩ : ∃ n' : Nat, n = n' := ⟨n.toNat, by omega⟩
  have HM := Lib.hid (fun W => match_kind n k (by omega) hk (.int .i64 m) (.int .u64 b) (.string t) (.slice a l cap) W)
  rw [h] at HM
  have g1 : ¬ ((n : Int) ≤ 0) := by omega
  have g2 : ¬ (14 ≤ (n : Int)) := by omega
  clear h hn
  have HC := Lib.hid (fun W h => copy_any hv hs W h)
  have HB := Lib.hid hb0
  clear hv hs hb0
  obtain ⟨W1, hW1, hb1, hz, hx1, hx2⟩ := res_worlds w (.int .i64 k) (.int .i64 m) (.int .u64 b) (.string t) (.slice a l cap)
  obtain ⟨p0, p1, p2, p3, p4⟩ := hx1.cells
  go_enter Tryz.func27, Tryz.ntmps27
  go_upto_region 1 with fail
  rw [← hW1]
  clear hW1
  go_wp2_with (first
    | (go_at_call 38; refine (HM.out _).mono ?_; rintro e w1 ⟨rfl, hb4⟩; have hx4 := hx1.row.later hb4; have r0 : w1.cell? ⟨w.heap.size, 0, none⟩ = some (.int .i64 k) := hx4.cell 0 rfl; have r1 : w1.cell? ⟨w.heap.size, 1, none⟩ = some (.int .i64 m) := hx4.cell 1 rfl; have r2 : w1.cell? ⟨w.heap.size, 2, none⟩ = some (.int .u64 b) := hx4.cell 2 rfl; have r3 : w1.cell? ⟨w.heap.size, 3, none⟩ = some (.string t) := hx4.cell 3 rfl; have r4 : w1.cell? ⟨w.heap.size, 4, none⟩ = some (.slice a l cap) := hx4.cell 4 rfl; have hx5 := hx2.later hb4; dsimp only)
    | (go_at_call 7; refine (HC.out _ (HB.out.trans ((hb1.trans (hb4.mono hb1.size)).mono HB.out.size))).mono ?_; rintro e w2 ⟨v', rfl, hv', hb2⟩; obtain ⟨k5, m5, b5, t5, a5, n5, cap5, rfl⟩ := hv'.form; have hy2 := hx5.later hb2; dsimp only)
    | (go_at_call 22; refine (rgave_v _ _ _ _ _ _ _ _).mono ?_; rintro e w3 ⟨rfl, hb3⟩; have hy := hy2.later hb3; have q0 : w3.cell? ⟨w.heap.size + 1, 0, none⟩ = some (.int .i64 0) := hy.cell 0 rfl; have fq0 := hy.thaw 0; have q1 : w3.cell? ⟨w.heap.size + 1, 1, none⟩ = some (.int .i64 0) := hy.cell 1 rfl; have fq1 := hy.thaw 1; have q2 : w3.cell? ⟨w.heap.size + 1, 2, none⟩ = some (.int .i64 0) := hy.cell 2 rfl; have fq2 := hy.thaw 2; have q3 : w3.cell? ⟨w.heap.size + 1, 3, none⟩ = some (.int .i64 0) := hy.cell 3 rfl; have fq3 := hy.thaw 3; have q4 : w3.cell? ⟨w.heap.size + 1, 4, none⟩ = some (.bool false) := hy.cell 4 rfl; have fq4 := hy.thaw 4; have q5 : w3.cell? ⟨w.heap.size + 1, 5, none⟩ = some (.int .i64 0) := hy.cell 5 rfl; have fq5 := hy.thaw 5; have q6 : w3.cell? ⟨w.heap.size + 1, 6, none⟩ = some (.int .i64 0) := hy.cell 6 rfl; have fq6 := hy.thaw 6; have q7 : w3.cell? ⟨w.heap.size + 1, 7, none⟩ = some (.int .u64 0) := hy.cell 7 rfl; have fq7 := hy.thaw 7; have q8 : w3.cell? ⟨w.heap.size + 1, 8, none⟩ = some (.string ⟨#[]⟩) := hy.cell 8 rfl; have fq8 := hy.thaw 8; have q9 : w3.cell? ⟨w.heap.size + 1, 9, none⟩ = some (.slice none 0 0) := hy.cell 9 rfl; have fq9 := hy.thaw 9; dsimp only))
  have hzl4 := hb4.size
  have hzl := hb2.size
  have hzo := hz.out
  have hbw2 := (hb1.trans (hb4.mono hb1.size)).trans (hb2.mono (hb1.trans (hb4.mono hb1.size)).size)
  exact bodyPost_ret (results_cell_row rfl _ _ (w.heap.size + 1) 33 _ (0, 0) _ rfl (hy.set10 _ _ _ _ _ _ _ _ _ _) Tryz.underlying33 rfl (by kernel_rfl)) rfl
    ⟨_, rfl, ⟨_, _, _, _, _, _, _, rfl, RepQ.set10 (N := w1.heap.size) (hv'.later hb3) (by omega) (by omega)⟩, set10_below (hbw2.trans (hb3.mono hbw2.size)) (by omega)⟩

set_option maxRecDepth 100000 in
set_option maxHeartbeats 3200000 in
theorem rkind_no {k : Nat} (hk : k ≤ 13) {m b : Int} {t : ByteArray} {a : Option Addr} {l cap : Nat} (n : Int) (h : isB k n = false) (w : World) :
    Calls Tryz.prog 27 #[(.agg #[.int .i64 k, .int .i64 m, .int .u64 b, .string t, .slice a l cap]), .int .i64 n] w fun x w' => ∃ v', x = .returned v' ∧ ResV w' (fun b => w.heap.size ≤ b) v' (.pan 2 k) ∧ Below w.heap.size w w' := by
  obtain ⟨W1, hW1, hb1, hz, hx1, hx2⟩ := res_worlds w (.int .i64 k) (.int .i64 m) (.int .u64 b) (.string t) (.slice a l cap)
  obtain ⟨p0, p1, p2, p3, p4⟩ := hx1.cells
  have hc : n ≤ 0 ∨ ¬ n ≤ 0 ∧ 14 ≤ n ∨ 1 ≤ n ∧ n < 14 := by omega
  rcases hc with h0 | ⟨h0, h1⟩ | h0
  · skip
    clear h
    go_enter Tryz.func27, Tryz.ntmps27
    go_upto_region 1 with fail
    rw [← hW1]
    clear hW1
    go_wp2_with (go_at_call 31; refine (rpan_v _ _ _).mono ?_; rintro e w3 ⟨rfl, hb3⟩; have hy := hx2.later hb3; have q0 : w3.cell? ⟨w.heap.size + 1, 0, none⟩ = some (.int .i64 0) := hy.cell 0 rfl; have fq0 := hy.thaw 0; have q1 : w3.cell? ⟨w.heap.size + 1, 1, none⟩ = some (.int .i64 0) := hy.cell 1 rfl; have fq1 := hy.thaw 1; have q2 : w3.cell? ⟨w.heap.size + 1, 2, none⟩ = some (.int .i64 0) := hy.cell 2 rfl; have fq2 := hy.thaw 2; have q3 : w3.cell? ⟨w.heap.size + 1, 3, none⟩ = some (.int .i64 0) := hy.cell 3 rfl; have fq3 := hy.thaw 3; have q4 : w3.cell? ⟨w.heap.size + 1, 4, none⟩ = some (.bool false) := hy.cell 4 rfl; have fq4 := hy.thaw 4; have q5 : w3.cell? ⟨w.heap.size + 1, 5, none⟩ = some (.int .i64 0) := hy.cell 5 rfl; have fq5 := hy.thaw 5; have q6 : w3.cell? ⟨w.heap.size + 1, 6, none⟩ = some (.int .i64 0) := hy.cell 6 rfl; have fq6 := hy.thaw 6; have q7 : w3.cell? ⟨w.heap.size + 1, 7, none⟩ = some (.int .u64 0) := hy.cell 7 rfl; have fq7 := hy.thaw 7; have q8 : w3.cell? ⟨w.heap.size + 1, 8, none⟩ = some (.string ⟨#[]⟩) := hy.cell 8 rfl; have fq8 := hy.thaw 8; have q9 : w3.cell? ⟨w.heap.size + 1, 9, none⟩ = some (.slice none 0 0) := hy.cell 9 rfl; have fq9 := hy.thaw 9; dsimp only)
    have hzo := hz.out
    exact bodyPost_ret (results_cell_row rfl _ _ (w.heap.size + 1) 33 _ (0, 0) _ rfl (hy.set10 _ _ _ _ _ _ _ _ _ _) Tryz.underlying33 rfl (by kernel_rfl)) rfl
      ⟨_, rfl, rfl, set10_below (hb1.trans (hb3.mono hb1.size)) (by omega)⟩
  · skip
    clear h
    go_enter Tryz.func27, Tryz.ntmps27
    go_upto_region 1 with fail
    rw [← hW1]
    clear hW1
    go_wp2_with (go_at_call 31; refine (rpan_v _ _ _).mono ?_; rintro e w3 ⟨rfl, hb3⟩; have hy := hx2.later hb3; have q0 : w3.cell? ⟨w.heap.size + 1, 0, none⟩ = some (.int .i64 0) := hy.cell 0 rfl; have fq0 := hy.thaw 0; have q1 : w3.cell? ⟨w.heap.size + 1, 1, none⟩ = some (.int .i64 0) := hy.cell 1 rfl; have fq1 := hy.thaw 1; have q2 : w3.cell? ⟨w.heap.size + 1, 2, none⟩ = some (.int .i64 0) := hy.cell 2 rfl; have fq2 := hy.thaw 2; have q3 : w3.cell? ⟨w.heap.size + 1, 3, none⟩ = some (.int .i64 0) := hy.cell 3 rfl; have fq3 := hy.thaw 3; have q4 : w3.cell? ⟨w.heap.size + 1, 4, none⟩ = some (.bool false) := hy.cell 4 rfl; have fq4 := hy.thaw 4; have q5 : w3.cell? ⟨w.heap.size + 1, 5, none⟩ = some (.int .i64 0) := hy.cell 5 rfl; have fq5 := hy.thaw 5; have q6 : w3.cell? ⟨w.heap.size + 1, 6, none⟩ = some (.int .i64 0) := hy.cell 6 rfl; have fq6 := hy.thaw 6; have q7 : w3.cell? ⟨w.heap.size + 1, 7, none⟩ = some (.int .u64 0) := hy.cell 7 rfl; have fq7 := hy.thaw 7; have q8 : w3.cell? ⟨w.heap.size + 1, 8, none⟩ = some (.string ⟨#[]⟩) := hy.cell 8 rfl; have fq8 := hy.thaw 8; have q9 : w3.cell? ⟨w.heap.size + 1, 9, none⟩ = some (.slice none 0 0) := hy.cell 9 rfl; have fq9 := hy.thaw 9; dsimp only)
    have hzo := hz.out
    exact bodyPost_ret (results_cell_row rfl _ _ (w.heap.size + 1) 33 _ (0, 0) _ rfl (hy.set10 _ _ _ _ _ _ _ _ _ _) Tryz.underlying33 rfl (by kernel_rfl)) rfl
      ⟨_, rfl, rfl, set10_below (hb1.trans (hb3.mono hb1.size)) (by omega)⟩
  · obtain ⟨n, rfl⟩ : ∃ n' : Nat, n = n' := ⟨n.toNat, by omega⟩
    have HM := Lib.hid (fun W => match_kind n k (by omega) hk (.int .i64 m) (.int .u64 b) (.string t) (.slice a l cap) W)
    rw [h] at HM
    have g1 : ¬ ((n : Int) ≤ 0) := by omega
    have g2 : ¬ (14 ≤ (n : Int)) := by omega
    clear h h0
    go_enter Tryz.func27, Tryz.ntmps27
    go_upto_region 1 with fail
    rw [← hW1]
    clear hW1
    go_wp2_with (first | (go_at_call 38; refine (HM.out _).mono ?_; rintro e w1 ⟨rfl, hb4⟩; have hx4 := hx1.row.later hb4; have r0 : w1.cell? ⟨w.heap.size, 0, none⟩ = some (.int .i64 k) := hx4.cell 0 rfl; have r1 : w1.cell? ⟨w.heap.size, 1, none⟩ = some (.int .i64 m) := hx4.cell 1 rfl; have r2 : w1.cell? ⟨w.heap.size, 2, none⟩ = some (.int .u64 b) := hx4.cell 2 rfl; have r3 : w1.cell? ⟨w.heap.size, 3, none⟩ = some (.string t) := hx4.cell 3 rfl; have r4 : w1.cell? ⟨w.heap.size, 4, none⟩ = some (.slice a l cap) := hx4.cell 4 rfl; have hx5 := hx2.later hb4; dsimp only) | (go_at_call 31; refine (rpan_v _ _ _).mono ?_; rintro e w3 ⟨rfl, hb3⟩; have hy := hx5.later hb3; have q0 : w3.cell? ⟨w.heap.size + 1, 0, none⟩ = some (.int .i64 0) := hy.cell 0 rfl; have fq0 := hy.thaw 0; have q1 : w3.cell? ⟨w.heap.size + 1, 1, none⟩ = some (.int .i64 0) := hy.cell 1 rfl; have fq1 := hy.thaw 1; have q2 : w3.cell? ⟨w.heap.size + 1, 2, none⟩ = some (.int .i64 0) := hy.cell 2 rfl; have fq2 := hy.thaw 2; have q3 : w3.cell? ⟨w.heap.size + 1, 3, none⟩ = some (.int .i64 0) := hy.cell 3 rfl; have fq3 := hy.thaw 3; have q4 : w3.cell? ⟨w.heap.size + 1, 4, none⟩ = some (.bool false) := hy.cell 4 rfl; have fq4 := hy.thaw 4; have q5 : w3.cell? ⟨w.heap.size + 1, 5, none⟩ = some (.int .i64 0) := hy.cell 5 rfl; have fq5 := hy.thaw 5; have q6 : w3.cell? ⟨w.heap.size + 1, 6, none⟩ = some (.int .i64 0) := hy.cell 6 rfl; have fq6 := hy.thaw 6; have q7 : w3.cell? ⟨w.heap.size + 1, 7, none⟩ = some (.int .u64 0) := hy.cell 7 rfl; have fq7 := hy.thaw 7; have q8 : w3.cell? ⟨w.heap.size + 1, 8, none⟩ = some (.string ⟨#[]⟩) := hy.cell 8 rfl; have fq8 := hy.thaw 8; have q9 : w3.cell? ⟨w.heap.size + 1, 9, none⟩ = some (.slice none 0 0) := hy.cell 9 rfl; have fq9 := hy.thaw 9; dsimp only))
    have hzl4 := hb4.size
    have hzo := hz.out
    have hbw2 := hb1.trans (hb4.mono hb1.size)
    exact bodyPost_ret (results_cell_row rfl _ _ (w.heap.size + 1) 33 _ (0, 0) _ rfl (hy.set10 _ _ _ _ _ _ _ _ _ _) Tryz.underlying33 rfl (by kernel_rfl)) rfl
      ⟨_, rfl, rfl, set10_below (hbw2.trans (hb3.mono hbw2.size)) (by omega)⟩
end Go.Proofs.YtecdniimikfbhaaGreatDoor

/- Contracts of the reference's Open (of values). -/
namespace Go.Proofs.YtecdniimikfbhaaGreatDoor
open Go Go.RowKit Go.ChangeShapes Go.WideShapes

/-- A part of a Datum in memory: where it lies. -/
theorem Rep.kid {w : World} {v : Value} {d x : D} (h : Rep w v d) {i : Nat} (hi : d.kids[i]? = some x) : ∃ (k m b : Int) (t : ByteArray) (cap g o : Nat) (k6 m6 b6 : Int) (t6 : ByteArray) (a6 : Option Addr) (n6 cap6 : Nat),
    v = .agg #[.int .i64 k, .int .i64 m, .int .u64 b, .string t, .slice (some ⟨g, o, none⟩) d.kids.length cap] ∧ i < d.kids.length ∧ d.kids.length ≤ cap ∧ cap ≤ 9223372036854775807 ∧ g < w.heap.size ∧
    w.cell? ⟨g, o + i * 5, none⟩ = some (.int .i64 k6) ∧ w.cell? ⟨g, o + i * 5 + 1, none⟩ = some (.int .i64 m6) ∧ w.cell? ⟨g, o + i * 5 + 2, none⟩ = some (.int .u64 b6) ∧ w.cell? ⟨g, o + i * 5 + 3, none⟩ = some (.string t6) ∧ w.cell? ⟨g, o + i * 5 + 4, none⟩ = some (.slice a6 n6 cap6) ∧
    Rep w (.agg #[.int .i64 k6, .int .i64 m6, .int .u64 b6, .string t6, .slice a6 n6 cap6]) x := by
  obtain ⟨k, m, b, t, a, cap, g, o, c, kids, rfl, rfl, hw, ha, hc, hk⟩ := h.inv
  have hi' : kids[i]? = some x := hi
  have hlt : i < kids.length := (List.getElem?_eq_some_iff.1 hi').1
  obtain ⟨rfl, hg, hcp, hcm⟩ := ha (by omega)
  obtain ⟨q0, q1, q2, q3, q4⟩ := hc i hlt
  have hx := hk i x hi'
  obtain ⟨k6, m6, b6, t6, a6, cap6, g6, o6, c6, kids6, e6, _⟩ := hx.inv
  obtain ⟨f0, f1, f2, f3, f4⟩ := five_inv e6
  rw [f0] at q0
  rw [f1] at q1
  rw [f2] at q2
  rw [f3] at q3
  rw [f4] at q4
  rw [e6] at hx
  exact ⟨k, m, b, t, cap, g, o, k6, m6, b6, t6, a6, _, cap6, rfl, hlt, hcp, hcm, hg, q0, q1, q2, q3, q4, hx⟩

theorem Slim.kid {d x : D} (h : Slim d) {i : Nat} (hi : d.kids[i]? = some x) : Slim x := by
  cases d
  exact h.inv.2 _ (List.mem_of_getElem? hi)
theorem Right.kid {d x : D} (h : Right d) {i : Nat} (hi : d.kids[i]? = some x) : Right x := by
  cases d
  exact h.inv.2 _ (List.mem_of_getElem? hi)

theorem ropen_end {W : World} {g : Nat} {tmps : Array Value} {x0 x1 x2 x3 x4 e : Value} (hx : Row W g #[x0, x1, x2, x3, x4] 25) (h4 : tmps.getD 2 undef = .pointer (some ⟨g, 0, none⟩)) (h5 : tmps.getD 3 undef = e) :
    (results Tryz.f36 tmps).run Tryz.prog W = .ok (.tuple #[.agg #[x0, x1, x2, x3, x4], e]) W := by
  have a0 : W.cell? ⟨g, 0, none⟩ = some x0 := hx.cell 0 rfl
  have a1 : W.cell? ⟨g, 1, none⟩ = some x1 := hx.cell 1 rfl
  have a2 : W.cell? ⟨g, 2, none⟩ = some x2 := hx.cell 2 rfl
  have a3 : W.cell? ⟨g, 3, none⟩ = some x3 := hx.cell 3 rfl
  have a4 : W.cell? ⟨g, 4, none⟩ = some x4 := hx.cell 4 rfl
  have h4' : tmps[2]?.getD undef = .pointer (some ⟨g, 0, none⟩) := by simpa using h4
  have h5' : tmps[3]?.getD undef = e := by simpa using h5
  simp [results, Tryz.results36, asAddr, a0, a1, a2, a3, a4, h4', h5', go_sem]

set_option maxRecDepth 100000 in
set_option maxHeartbeats 1600000 in
theorem ropen_nil {m b : Int} {t : ByteArray} {a : Option Addr} {l cap : Nat} (w : World) :
    Calls Tryz.prog 36 #[(.agg #[.int .i64 12, .int .i64 m, .int .u64 b, .string t, .slice a l cap])] w fun x w' => x = .returned (.tuple #[(.agg #[.int .i64 0, .int .i64 0, .int .u64 0, .string ⟨#[]⟩, .slice none 0 0]), .int .i64 13]) ∧ Below w.heap.size w w' := by
  obtain ⟨W1, hW1, hb1, hz, hx1, hx2⟩ := rows2 w (.int .i64 12) (.int .i64 m) (.int .u64 b) (.string t) (.slice a l cap)
  have p0 : W1.cell? ⟨w.heap.size, 0, none⟩ = some (.int .i64 12) := hx1.cell 0 rfl
  have p1 : W1.cell? ⟨w.heap.size, 1, none⟩ = some (.int .i64 m) := hx1.cell 1 rfl
  have p2 : W1.cell? ⟨w.heap.size, 2, none⟩ = some (.int .u64 b) := hx1.cell 2 rfl
  have p3 : W1.cell? ⟨w.heap.size, 3, none⟩ = some (.string t) := hx1.cell 3 rfl
  have p4 : W1.cell? ⟨w.heap.size, 4, none⟩ = some (.slice a l cap) := hx1.cell 4 rfl
  have q0 : W1.cell? ⟨w.heap.size + 1, 0, none⟩ = some (.int .i64 0) := hx2.cell 0 rfl
  have fq0 := hx2.thaw 0
  have q1 : W1.cell? ⟨w.heap.size + 1, 1, none⟩ = some (.int .i64 0) := hx2.cell 1 rfl
  have fq1 := hx2.thaw 1
  have q2 : W1.cell? ⟨w.heap.size + 1, 2, none⟩ = some (.int .u64 0) := hx2.cell 2 rfl
  have fq2 := hx2.thaw 2
  have q3 : W1.cell? ⟨w.heap.size + 1, 3, none⟩ = some (.string ⟨#[]⟩) := hx2.cell 3 rfl
  have fq3 := hx2.thaw 3
  have q4 : W1.cell? ⟨w.heap.size + 1, 4, none⟩ = some (.slice none 0 0) := hx2.cell 4 rfl
  have fq4 := hx2.thaw 4
  go_enter Tryz.func36, Tryz.ntmps36
  go_upto_region 1 with fail
  rw [← hW1]
  clear hW1
  go_wp2_with fail
  have hzo := hz.out
  exact bodyPost_ret (ropen_end ((((((hx2).set 0 _).set 1 _).set 2 _).set 3 _).set 4 _) rfl rfl) rfl ⟨rfl, set5_below hb1 (by omega)⟩

set_option maxRecDepth 100000 in
set_option maxHeartbeats 3200000 in
theorem ropen_box {w0 : World} {v : Value} {d x : D} (hv : Rep w0 v d) (hs : Slim d) (hk : d.kind = 11) (hi : d.kids[0]? = some x) (w : World) (hb0 : Below w0.heap.size w0 w) :
    Calls Tryz.prog 36 #[v] w fun y w' => ∃ v', y = .returned (.tuple #[v', .int .i64 0]) ∧ RepQ w' (fun b => w.heap.size ≤ b) v' x ∧ Below w.heap.size w w' := by
  obtain ⟨k, m, b, t, cap, g, o, k6, m6, b6, t6, a6, n6, cap6, rfl, hlt, hcp, hcm, hg, i0, i1, i2, i3, i4, hx⟩ := hv.kid hi
  obtain rfl : k = 11 := by
    obtain ⟨k', m', b', t', a', cap', g', o', c', kids', e1, rfl, _⟩ := hv.inv
    simp only [Value.agg.injEq, Array.mk.injEq, List.cons.injEq, Value.int.injEq, true_and] at e1
    exact e1.1.trans hk
  have HC := Lib.hid (fun W h => copy_any hx (hs.kid hi) W h)
  have HB := Lib.hid hb0
  simp only [Nat.zero_mul, Nat.add_zero] at i0 i1 i2 i3 i4
  generalize hl : d.kids.length = l at *
  have hgl := Lib.hid hg
  clear hv hs hk hi hx hg
  obtain ⟨W1, hW1, hb1, hz, hx1, hx2⟩ := rows2 w (.int .i64 11) (.int .i64 m) (.int .u64 b) (.string t) (.slice (some ⟨g, o, none⟩) l cap)
  have h01 : Below w0.heap.size w0 W1 := hb0.trans (hb1.mono hb0.size)
  clear hb0
  have p0 : W1.cell? ⟨w.heap.size, 0, none⟩ = some (.int .i64 11) := hx1.cell 0 rfl
  have p1 : W1.cell? ⟨w.heap.size, 1, none⟩ = some (.int .i64 m) := hx1.cell 1 rfl
  have p2 : W1.cell? ⟨w.heap.size, 2, none⟩ = some (.int .u64 b) := hx1.cell 2 rfl
  have p3 : W1.cell? ⟨w.heap.size, 3, none⟩ = some (.string t) := hx1.cell 3 rfl
  have p4 : W1.cell? ⟨w.heap.size, 4, none⟩ = some (.slice (some ⟨g, o, none⟩) l cap) := hx1.cell 4 rfl
  have j0 : W1.cell? ⟨g, o, none⟩ = some (.int .i64 k6) := (h01.cell (p := ⟨g, o, none⟩) hgl.out).trans i0
  have j1 : W1.cell? ⟨g, o + 1, none⟩ = some (.int .i64 m6) := (h01.cell (p := ⟨g, o + 1, none⟩) hgl.out).trans i1
  have j2 : W1.cell? ⟨g, o + 2, none⟩ = some (.int .u64 b6) := (h01.cell (p := ⟨g, o + 2, none⟩) hgl.out).trans i2
  have j3 : W1.cell? ⟨g, o + 3, none⟩ = some (.string t6) := (h01.cell (p := ⟨g, o + 3, none⟩) hgl.out).trans i3
  have j4 : W1.cell? ⟨g, o + 4, none⟩ = some (.slice a6 n6 cap6) := (h01.cell (p := ⟨g, o + 4, none⟩) hgl.out).trans i4
  clear i0 i1 i2 i3 i4
  go_enter Tryz.func36, Tryz.ntmps36
  go_upto_region 1 with fail
  rw [← hW1]
  clear hW1
  go_wp2_with (go_at_call 7; refine (HC.out _ h01).mono ?_; rintro e w2 ⟨v', rfl, hv', hb2⟩; obtain ⟨k5, m5, b5, t5, a5, n5, cap5, rfl⟩ := hv'.form; have hy := hx2.later hb2; have q0 : w2.cell? ⟨w.heap.size + 1, 0, none⟩ = some (.int .i64 0) := hy.cell 0 rfl; have fq0 := hy.thaw 0; have q1 : w2.cell? ⟨w.heap.size + 1, 1, none⟩ = some (.int .i64 0) := hy.cell 1 rfl; have fq1 := hy.thaw 1; have q2 : w2.cell? ⟨w.heap.size + 1, 2, none⟩ = some (.int .u64 0) := hy.cell 2 rfl; have fq2 := hy.thaw 2; have q3 : w2.cell? ⟨w.heap.size + 1, 3, none⟩ = some (.string ⟨#[]⟩) := hy.cell 3 rfl; have fq3 := hy.thaw 3; have q4 : w2.cell? ⟨w.heap.size + 1, 4, none⟩ = some (.slice none 0 0) := hy.cell 4 rfl; have fq4 := hy.thaw 4; dsimp only)
  have hzo := hz.out
  exact bodyPost_ret (ropen_end ((((((hy).set 0 _).set 1 _).set 2 _).set 3 _).set 4 _) rfl rfl) rfl
    ⟨_, rfl, RepQ.set5 (N := W1.heap.size) hv' (by omega) (by omega), set5_below (hb1.trans (hb2.mono hb1.size)) (by omega)⟩
end Go.Proofs.YtecdniimikfbhaaGreatDoor

/- Contracts of the reference's Open (as a result). -/
namespace Go.Proofs.YtecdniimikfbhaaGreatDoor
open Go Go.RowKit Go.ChangeShapes Go.WideShapes

set_option maxRecDepth 100000 in
set_option maxHeartbeats 3200000 in
theorem rgopen_no {k : Nat} (hk : k ≤ 13) {m b : Int} {t : ByteArray} {a : Option Addr} {l cap : Nat} (h : hasFi k 3 = false) (w : World) :
    Calls Tryz.prog 24 #[(.agg #[.int .i64 k, .int .i64 m, .int .u64 b, .string t, .slice a l cap])] w fun x w' => ∃ v', x = .returned v' ∧ ResV w' (fun b => w.heap.size ≤ b) v' (.pan 2 (faceMiss k 3)) ∧ Below w.heap.size w w' := by
  have HF := Lib.hid (fun W => rface_no hk (m := m) (b := b) (t := t) (a := a) (l := l) (cap := cap) 3 h W)
  generalize hm : faceMiss k 3 = mm at *
  clear h hm
  obtain ⟨W1, hW1, hb1, hz, hx1, hx2⟩ := res_worlds w (.int .i64 k) (.int .i64 m) (.int .u64 b) (.string t) (.slice a l cap)
  obtain ⟨p0, p1, p2, p3, p4⟩ := hx1.cells
  go_enter Tryz.func24, Tryz.ntmps24
  go_upto_region 1 with fail
  rw [← hW1]
  clear hW1
  go_upto_region 2 with (go_at_call 20; refine (HF.out _).mono ?_; rintro e w2 ⟨v', rfl, hv', hb2⟩; obtain rfl : v' = _ := hv'; dsimp only)
  obtain ⟨W2, hW2⟩ : ∃ W2, W2 = w2.alloc (.cells #[.int .i64 110, .int .i64 0, .int .i64 2, .int .i64 mm, .bool false, .int .i64 0, .int .i64 0, .int .u64 0, .string ⟨#[]⟩, .slice none 0 0] 33) := ⟨_, rfl⟩
  have hv2 : Row W2 w2.heap.size #[.int .i64 110, .int .i64 0, .int .i64 2, .int .i64 mm, .bool false, .int .i64 0, .int .i64 0, .int .u64 0, .string ⟨#[]⟩, .slice none 0 0] 33 := by rw [hW2]; exact Row.new _ _ _
  have ha2 : Below w2.heap.size w2 W2 := by rw [hW2]; exact (Below.refl _ _).alloc (Nat.le_refl _) _
  rw [← hW2]
  clear hW2
  have hy := (hx2.later hb2).later (ha2.mono (Nat.le_refl _))
  have r0 : W2.cell? ⟨w2.heap.size, 0, none⟩ = some (.int .i64 110) := hv2.cell 0 rfl
  have r1 : W2.cell? ⟨w2.heap.size, 1, none⟩ = some (.int .i64 0) := hv2.cell 1 rfl
  have r2 : W2.cell? ⟨w2.heap.size, 2, none⟩ = some (.int .i64 2) := hv2.cell 2 rfl
  have r3 : W2.cell? ⟨w2.heap.size, 3, none⟩ = some (.int .i64 mm) := hv2.cell 3 rfl
  have r4 : W2.cell? ⟨w2.heap.size, 4, none⟩ = some (.bool false) := hv2.cell 4 rfl
  have r5 : W2.cell? ⟨w2.heap.size, 5, none⟩ = some (.int .i64 0) := hv2.cell 5 rfl
  have r6 : W2.cell? ⟨w2.heap.size, 6, none⟩ = some (.int .i64 0) := hv2.cell 6 rfl
  have r7 : W2.cell? ⟨w2.heap.size, 7, none⟩ = some (.int .u64 0) := hv2.cell 7 rfl
  have r8 : W2.cell? ⟨w2.heap.size, 8, none⟩ = some (.string ⟨#[]⟩) := hv2.cell 8 rfl
  have r9 : W2.cell? ⟨w2.heap.size, 9, none⟩ = some (.slice none 0 0) := hv2.cell 9 rfl
  have q0 : W2.cell? ⟨w.heap.size + 1, 0, none⟩ = some (.int .i64 0) := hy.cell 0 rfl
  have fq0 := hy.thaw 0
  have q1 : W2.cell? ⟨w.heap.size + 1, 1, none⟩ = some (.int .i64 0) := hy.cell 1 rfl
  have fq1 := hy.thaw 1
  have q2 : W2.cell? ⟨w.heap.size + 1, 2, none⟩ = some (.int .i64 0) := hy.cell 2 rfl
  have fq2 := hy.thaw 2
  have q3 : W2.cell? ⟨w.heap.size + 1, 3, none⟩ = some (.int .i64 0) := hy.cell 3 rfl
  have fq3 := hy.thaw 3
  have q4 : W2.cell? ⟨w.heap.size + 1, 4, none⟩ = some (.bool false) := hy.cell 4 rfl
  have fq4 := hy.thaw 4
  have q5 : W2.cell? ⟨w.heap.size + 1, 5, none⟩ = some (.int .i64 0) := hy.cell 5 rfl
  have fq5 := hy.thaw 5
  have q6 : W2.cell? ⟨w.heap.size + 1, 6, none⟩ = some (.int .i64 0) := hy.cell 6 rfl
  have fq6 := hy.thaw 6
  have q7 : W2.cell? ⟨w.heap.size + 1, 7, none⟩ = some (.int .u64 0) := hy.cell 7 rfl
  have fq7 := hy.thaw 7
  have q8 : W2.cell? ⟨w.heap.size + 1, 8, none⟩ = some (.string ⟨#[]⟩) := hy.cell 8 rfl
  have fq8 := hy.thaw 8
  have q9 : W2.cell? ⟨w.heap.size + 1, 9, none⟩ = some (.slice none 0 0) := hy.cell 9 rfl
  have fq9 := hy.thaw 9
  go_wp2_with fail
  have hzo := hz.out
  have hb12 := hb1.trans ((hb2.trans (ha2.mono hb2.size)).mono hb1.size)
  exact bodyPost_ret (results_cell_row rfl _ _ (w.heap.size + 1) 33 _ (0, 0) _ rfl (hy.set10 _ _ _ _ _ _ _ _ _ _) Tryz.underlying33 rfl (by kernel_rfl)) rfl
    ⟨_, rfl, rfl, set10_below hb12 (by omega)⟩

set_option maxRecDepth 100000 in
set_option maxHeartbeats 3200000 in
theorem rgopen_nil {w0 : World} {k : Nat} (hk : k ≤ 13) {m b : Int} {t : ByteArray} {a : Option Addr} {l cap : Nat} {d : D} (hv : Rep w0 (.agg #[.int .i64 k, .int .i64 m, .int .u64 b, .string t, .slice a l cap]) d) (hs : Slim d) (h : hasFi k 3 = true) (hk12 : k = 12) (w : World) (hb0 : Below w0.heap.size w0 w) :
    Calls Tryz.prog 24 #[(.agg #[.int .i64 k, .int .i64 m, .int .u64 b, .string t, .slice a l cap])] w fun x w' => ∃ v', x = .returned v' ∧ ResV w' (fun b => w.heap.size ≤ b) v' (.pan 3 0) ∧ Below w.heap.size w w' := by
  have HF := Lib.hid (fun W hb => rface_yes hk hv hs 3 h W hb)
  have HB := Lib.hid hb0
  have HO := Lib.hid (fun W => ropen_nil (m := m) (b := b) (t := t) (a := a) (l := l) (cap := cap) W)
  have e12 : (12 : Int) = k := by omega
  rw [e12] at HO
  clear hv hs h hb0 hk12 e12
  obtain ⟨W1, hW1, hb1, hz, hx1, hx2⟩ := res_worlds w (.int .i64 k) (.int .i64 m) (.int .u64 b) (.string t) (.slice a l cap)
  obtain ⟨p0, p1, p2, p3, p4⟩ := hx1.cells
  go_enter Tryz.func24, Tryz.ntmps24
  go_upto_region 1 with fail
  rw [← hW1]
  clear hW1
  go_upto_region 2 with (go_at_call 20; refine (HF.out _ (HB.out.trans (hb1.mono HB.out.size))).mono ?_; rintro e w2 ⟨v', rfl, hv', hb2⟩; obtain ⟨k5, m5, b5, t5, a5, n5, cap5, rfl, -⟩ := hv'; dsimp only)
  obtain ⟨W2, hW2⟩ : ∃ W2, W2 = w2.alloc (.cells #[.int .i64 0, .int .i64 0, .int .i64 0, .int .i64 0, .bool true, .int .i64 k5, .int .i64 m5, .int .u64 b5, .string t5, .slice a5 n5 cap5] 33) := ⟨_, rfl⟩
  have hv2 : Row W2 w2.heap.size #[.int .i64 0, .int .i64 0, .int .i64 0, .int .i64 0, .bool true, .int .i64 k5, .int .i64 m5, .int .u64 b5, .string t5, .slice a5 n5 cap5] 33 := by rw [hW2]; exact Row.new _ _ _
  have ha2 : Below w2.heap.size w2 W2 := by rw [hW2]; exact (Below.refl _ _).alloc (Nat.le_refl _) _
  rw [← hW2]
  clear hW2
  have hb12 := hb2.trans (ha2.mono hb2.size)
  have hb02 := hb1.trans (hb12.mono hb1.size)
  have hy := hx2.later hb12
  have hx := hx1.row.later hb12
  clear p0 p1 p2 p3 p4
  have r0 : W2.cell? ⟨w2.heap.size, 0, none⟩ = some (.int .i64 0) := hv2.cell 0 rfl
  have r1 : W2.cell? ⟨w2.heap.size, 1, none⟩ = some (.int .i64 0) := hv2.cell 1 rfl
  have r2 : W2.cell? ⟨w2.heap.size, 2, none⟩ = some (.int .i64 0) := hv2.cell 2 rfl
  have r3 : W2.cell? ⟨w2.heap.size, 3, none⟩ = some (.int .i64 0) := hv2.cell 3 rfl
  have r4 : W2.cell? ⟨w2.heap.size, 4, none⟩ = some (.bool true) := hv2.cell 4 rfl
  have r5 : W2.cell? ⟨w2.heap.size, 5, none⟩ = some (.int .i64 k5) := hv2.cell 5 rfl
  have r6 : W2.cell? ⟨w2.heap.size, 6, none⟩ = some (.int .i64 m5) := hv2.cell 6 rfl
  have r7 : W2.cell? ⟨w2.heap.size, 7, none⟩ = some (.int .u64 b5) := hv2.cell 7 rfl
  have r8 : W2.cell? ⟨w2.heap.size, 8, none⟩ = some (.string t5) := hv2.cell 8 rfl
  have r9 : W2.cell? ⟨w2.heap.size, 9, none⟩ = some (.slice a5 n5 cap5) := hv2.cell 9 rfl
  have p0 : W2.cell? ⟨w.heap.size, 0, none⟩ = some (.int .i64 k) := hx.cell 0 rfl
  have p1 : W2.cell? ⟨w.heap.size, 1, none⟩ = some (.int .i64 m) := hx.cell 1 rfl
  have p2 : W2.cell? ⟨w.heap.size, 2, none⟩ = some (.int .u64 b) := hx.cell 2 rfl
  have p3 : W2.cell? ⟨w.heap.size, 3, none⟩ = some (.string t) := hx.cell 3 rfl
  have p4 : W2.cell? ⟨w.heap.size, 4, none⟩ = some (.slice a l cap) := hx.cell 4 rfl
  go_upto_region 5 with (go_at_call 36; refine (HO.out _).mono ?_; rintro e w3 ⟨rfl, hb3⟩; dsimp only)
  obtain ⟨W3, hW3⟩ : ∃ W3, W3 = w3.alloc (.cells #[.int .i64 0, .int .i64 0, .int .u64 0, .string ⟨#[]⟩, .slice none 0 0] 25) := ⟨_, rfl⟩
  have hv3 : Row W3 w3.heap.size #[.int .i64 0, .int .i64 0, .int .u64 0, .string ⟨#[]⟩, .slice none 0 0] 25 := by rw [hW3]; exact Row.new _ _ _
  have ha3 : Below w3.heap.size w3 W3 := by rw [hW3]; exact (Below.refl _ _).alloc (Nat.le_refl _) _
  rw [← hW3]
  clear hW3
  have hb23 := hb12.trans ((hb3.trans (ha3.mono hb3.size)).mono hb12.size)
  have hy3 := hx2.later hb23
  have r0 : W3.cell? ⟨w3.heap.size, 0, none⟩ = some (.int .i64 0) := hv3.cell 0 rfl
  have r1 : W3.cell? ⟨w3.heap.size, 1, none⟩ = some (.int .i64 0) := hv3.cell 1 rfl
  have r2 : W3.cell? ⟨w3.heap.size, 2, none⟩ = some (.int .u64 0) := hv3.cell 2 rfl
  have r3 : W3.cell? ⟨w3.heap.size, 3, none⟩ = some (.string ⟨#[]⟩) := hv3.cell 3 rfl
  have r4 : W3.cell? ⟨w3.heap.size, 4, none⟩ = some (.slice none 0 0) := hv3.cell 4 rfl
  have q0 : W3.cell? ⟨w.heap.size + 1, 0, none⟩ = some (.int .i64 0) := hy3.cell 0 rfl
  have fq0 := hy3.thaw 0
  have q1 : W3.cell? ⟨w.heap.size + 1, 1, none⟩ = some (.int .i64 0) := hy3.cell 1 rfl
  have fq1 := hy3.thaw 1
  have q2 : W3.cell? ⟨w.heap.size + 1, 2, none⟩ = some (.int .i64 0) := hy3.cell 2 rfl
  have fq2 := hy3.thaw 2
  have q3 : W3.cell? ⟨w.heap.size + 1, 3, none⟩ = some (.int .i64 0) := hy3.cell 3 rfl
  have fq3 := hy3.thaw 3
  have q4 : W3.cell? ⟨w.heap.size + 1, 4, none⟩ = some (.bool false) := hy3.cell 4 rfl
  have fq4 := hy3.thaw 4
  have q5 : W3.cell? ⟨w.heap.size + 1, 5, none⟩ = some (.int .i64 0) := hy3.cell 5 rfl
  have fq5 := hy3.thaw 5
  have q6 : W3.cell? ⟨w.heap.size + 1, 6, none⟩ = some (.int .i64 0) := hy3.cell 6 rfl
  have fq6 := hy3.thaw 6
  have q7 : W3.cell? ⟨w.heap.size + 1, 7, none⟩ = some (.int .u64 0) := hy3.cell 7 rfl
  have fq7 := hy3.thaw 7
  have q8 : W3.cell? ⟨w.heap.size + 1, 8, none⟩ = some (.string ⟨#[]⟩) := hy3.cell 8 rfl
  have fq8 := hy3.thaw 8
  have q9 : W3.cell? ⟨w.heap.size + 1, 9, none⟩ = some (.slice none 0 0) := hy3.cell 9 rfl
  have fq9 := hy3.thaw 9
  go_wp2_with (go_at_call 31; refine (rpan_v _ _ _).mono ?_; rintro e w4 ⟨rfl, hb4⟩; have hy4 := hy3.later hb4; have z0 : w4.cell? ⟨w.heap.size + 1, 0, none⟩ = some (.int .i64 0) := hy4.cell 0 rfl; have fz0 := hy4.thaw 0; have z1 : w4.cell? ⟨w.heap.size + 1, 1, none⟩ = some (.int .i64 0) := hy4.cell 1 rfl; have fz1 := hy4.thaw 1; have z2 : w4.cell? ⟨w.heap.size + 1, 2, none⟩ = some (.int .i64 0) := hy4.cell 2 rfl; have fz2 := hy4.thaw 2; have z3 : w4.cell? ⟨w.heap.size + 1, 3, none⟩ = some (.int .i64 0) := hy4.cell 3 rfl; have fz3 := hy4.thaw 3; have z4 : w4.cell? ⟨w.heap.size + 1, 4, none⟩ = some (.bool false) := hy4.cell 4 rfl; have fz4 := hy4.thaw 4; have z5 : w4.cell? ⟨w.heap.size + 1, 5, none⟩ = some (.int .i64 0) := hy4.cell 5 rfl; have fz5 := hy4.thaw 5; have z6 : w4.cell? ⟨w.heap.size + 1, 6, none⟩ = some (.int .i64 0) := hy4.cell 6 rfl; have fz6 := hy4.thaw 6; have z7 : w4.cell? ⟨w.heap.size + 1, 7, none⟩ = some (.int .u64 0) := hy4.cell 7 rfl; have fz7 := hy4.thaw 7; have z8 : w4.cell? ⟨w.heap.size + 1, 8, none⟩ = some (.string ⟨#[]⟩) := hy4.cell 8 rfl; have fz8 := hy4.thaw 8; have z9 : w4.cell? ⟨w.heap.size + 1, 9, none⟩ = some (.slice none 0 0) := hy4.cell 9 rfl; have fz9 := hy4.thaw 9; dsimp only)
  have hzo := hz.out
  have hb24 := hb23.trans (hb4.mono hb23.size)
  have hb04 := hb1.trans (hb24.mono hb1.size)
  exact bodyPost_ret (results_cell_row rfl _ _ (w.heap.size + 1) 33 _ (0, 0) _ rfl (hy4.set10 _ _ _ _ _ _ _ _ _ _) Tryz.underlying33 rfl (by kernel_rfl)) rfl
    ⟨_, rfl, rfl, set10_below hb04 (by omega)⟩

set_option maxRecDepth 100000 in
set_option maxHeartbeats 3200000 in
theorem rgopen_box {w0 : World} {k : Nat} (hk : k ≤ 13) {m b : Int} {t : ByteArray} {a : Option Addr} {l cap : Nat} {d : D} (hv : Rep w0 (.agg #[.int .i64 k, .int .i64 m, .int .u64 b, .string t, .slice a l cap]) d) (hs : Slim d) (h : hasFi k 3 = true) {x : D} (hk11 : k = 11) (hi : d.kids[0]? = some x) (w : World) (hb0 : Below w0.heap.size w0 w) :
    Calls Tryz.prog 24 #[(.agg #[.int .i64 k, .int .i64 m, .int .u64 b, .string t, .slice a l cap])] w fun y w' => ∃ v', y = .returned v' ∧ ResV w' (fun b => w.heap.size ≤ b) v' (.gave x) ∧ Below w.heap.size w w' := by
  have HF := Lib.hid (fun W hb => rface_yes hk hv hs 3 h W hb)
  have HB := Lib.hid hb0
  have hd : d.kind = 11 := by
    obtain ⟨k', m', b', t', a', cap', g', o', c', kids', e1, rfl, _⟩ := hv.inv
    simp only [Value.agg.injEq, Array.mk.injEq, List.cons.injEq, Value.int.injEq, true_and] at e1
    have := e1.1
    show k' = 11
    omega
  have HO := Lib.hid (fun W hb => ropen_box hv hs hd hi W hb)
  clear hv hs h hb0 hk11 hi hd
  obtain ⟨W1, hW1, hb1, hz, hx1, hx2⟩ := res_worlds w (.int .i64 k) (.int .i64 m) (.int .u64 b) (.string t) (.slice a l cap)
  obtain ⟨p0, p1, p2, p3, p4⟩ := hx1.cells
  go_enter Tryz.func24, Tryz.ntmps24
  go_upto_region 1 with fail
  rw [← hW1]
  clear hW1
  go_upto_region 2 with (go_at_call 20; refine (HF.out _ (HB.out.trans (hb1.mono HB.out.size))).mono ?_; rintro e w2 ⟨v', rfl, hv', hb2⟩; obtain ⟨k5, m5, b5, t5, a5, n5, cap5, rfl, -⟩ := hv'; dsimp only)
  obtain ⟨W2, hW2⟩ : ∃ W2, W2 = w2.alloc (.cells #[.int .i64 0, .int .i64 0, .int .i64 0, .int .i64 0, .bool true, .int .i64 k5, .int .i64 m5, .int .u64 b5, .string t5, .slice a5 n5 cap5] 33) := ⟨_, rfl⟩
  have hv2 : Row W2 w2.heap.size #[.int .i64 0, .int .i64 0, .int .i64 0, .int .i64 0, .bool true, .int .i64 k5, .int .i64 m5, .int .u64 b5, .string t5, .slice a5 n5 cap5] 33 := by rw [hW2]; exact Row.new _ _ _
  have ha2 : Below w2.heap.size w2 W2 := by rw [hW2]; exact (Below.refl _ _).alloc (Nat.le_refl _) _
  rw [← hW2]
  clear hW2
  have hb12 := hb2.trans (ha2.mono hb2.size)
  have hb02 := hb1.trans (hb12.mono hb1.size)
  have hy := hx2.later hb12
  have hx := hx1.row.later hb12
  clear p0 p1 p2 p3 p4
  have r0 : W2.cell? ⟨w2.heap.size, 0, none⟩ = some (.int .i64 0) := hv2.cell 0 rfl
  have r1 : W2.cell? ⟨w2.heap.size, 1, none⟩ = some (.int .i64 0) := hv2.cell 1 rfl
  have r2 : W2.cell? ⟨w2.heap.size, 2, none⟩ = some (.int .i64 0) := hv2.cell 2 rfl
  have r3 : W2.cell? ⟨w2.heap.size, 3, none⟩ = some (.int .i64 0) := hv2.cell 3 rfl
  have r4 : W2.cell? ⟨w2.heap.size, 4, none⟩ = some (.bool true) := hv2.cell 4 rfl
  have r5 : W2.cell? ⟨w2.heap.size, 5, none⟩ = some (.int .i64 k5) := hv2.cell 5 rfl
  have r6 : W2.cell? ⟨w2.heap.size, 6, none⟩ = some (.int .i64 m5) := hv2.cell 6 rfl
  have r7 : W2.cell? ⟨w2.heap.size, 7, none⟩ = some (.int .u64 b5) := hv2.cell 7 rfl
  have r8 : W2.cell? ⟨w2.heap.size, 8, none⟩ = some (.string t5) := hv2.cell 8 rfl
  have r9 : W2.cell? ⟨w2.heap.size, 9, none⟩ = some (.slice a5 n5 cap5) := hv2.cell 9 rfl
  have p0 : W2.cell? ⟨w.heap.size, 0, none⟩ = some (.int .i64 k) := hx.cell 0 rfl
  have p1 : W2.cell? ⟨w.heap.size, 1, none⟩ = some (.int .i64 m) := hx.cell 1 rfl
  have p2 : W2.cell? ⟨w.heap.size, 2, none⟩ = some (.int .u64 b) := hx.cell 2 rfl
  have p3 : W2.cell? ⟨w.heap.size, 3, none⟩ = some (.string t) := hx.cell 3 rfl
  have p4 : W2.cell? ⟨w.heap.size, 4, none⟩ = some (.slice a l cap) := hx.cell 4 rfl
  go_upto_region 5 with (go_at_call 36; refine (HO.out _ (HB.out.trans (hb02.mono HB.out.size))).mono ?_; rintro e w3 ⟨v', rfl, hq, hb3⟩; obtain ⟨k7, m7, b7, t7, a7, n7, cap7, rfl⟩ := hq.form; dsimp only)
  obtain ⟨W3, hW3⟩ : ∃ W3, W3 = w3.alloc (.cells #[.int .i64 k7, .int .i64 m7, .int .u64 b7, .string t7, .slice a7 n7 cap7] 25) := ⟨_, rfl⟩
  have hv3 : Row W3 w3.heap.size #[.int .i64 k7, .int .i64 m7, .int .u64 b7, .string t7, .slice a7 n7 cap7] 25 := by rw [hW3]; exact Row.new _ _ _
  have ha3 : Below w3.heap.size w3 W3 := by rw [hW3]; exact (Below.refl _ _).alloc (Nat.le_refl _) _
  rw [← hW3]
  clear hW3
  have hb23 := hb12.trans ((hb3.trans (ha3.mono hb3.size)).mono hb12.size)
  have hy3 := hx2.later hb23
  have r0 : W3.cell? ⟨w3.heap.size, 0, none⟩ = some (.int .i64 k7) := hv3.cell 0 rfl
  have r1 : W3.cell? ⟨w3.heap.size, 1, none⟩ = some (.int .i64 m7) := hv3.cell 1 rfl
  have r2 : W3.cell? ⟨w3.heap.size, 2, none⟩ = some (.int .u64 b7) := hv3.cell 2 rfl
  have r3 : W3.cell? ⟨w3.heap.size, 3, none⟩ = some (.string t7) := hv3.cell 3 rfl
  have r4 : W3.cell? ⟨w3.heap.size, 4, none⟩ = some (.slice a7 n7 cap7) := hv3.cell 4 rfl
  have q0 : W3.cell? ⟨w.heap.size + 1, 0, none⟩ = some (.int .i64 0) := hy3.cell 0 rfl
  have fq0 := hy3.thaw 0
  have q1 : W3.cell? ⟨w.heap.size + 1, 1, none⟩ = some (.int .i64 0) := hy3.cell 1 rfl
  have fq1 := hy3.thaw 1
  have q2 : W3.cell? ⟨w.heap.size + 1, 2, none⟩ = some (.int .i64 0) := hy3.cell 2 rfl
  have fq2 := hy3.thaw 2
  have q3 : W3.cell? ⟨w.heap.size + 1, 3, none⟩ = some (.int .i64 0) := hy3.cell 3 rfl
  have fq3 := hy3.thaw 3
  have q4 : W3.cell? ⟨w.heap.size + 1, 4, none⟩ = some (.bool false) := hy3.cell 4 rfl
  have fq4 := hy3.thaw 4
  have q5 : W3.cell? ⟨w.heap.size + 1, 5, none⟩ = some (.int .i64 0) := hy3.cell 5 rfl
  have fq5 := hy3.thaw 5
  have q6 : W3.cell? ⟨w.heap.size + 1, 6, none⟩ = some (.int .i64 0) := hy3.cell 6 rfl
  have fq6 := hy3.thaw 6
  have q7 : W3.cell? ⟨w.heap.size + 1, 7, none⟩ = some (.int .u64 0) := hy3.cell 7 rfl
  have fq7 := hy3.thaw 7
  have q8 : W3.cell? ⟨w.heap.size + 1, 8, none⟩ = some (.string ⟨#[]⟩) := hy3.cell 8 rfl
  have fq8 := hy3.thaw 8
  have q9 : W3.cell? ⟨w.heap.size + 1, 9, none⟩ = some (.slice none 0 0) := hy3.cell 9 rfl
  have fq9 := hy3.thaw 9
  go_wp2_with (go_at_call 22; refine (rgave_v _ _ _ _ _ _ _ _).mono ?_; rintro e w4 ⟨rfl, hb4⟩; have hy4 := hy3.later hb4; have z0 : w4.cell? ⟨w.heap.size + 1, 0, none⟩ = some (.int .i64 0) := hy4.cell 0 rfl; have fz0 := hy4.thaw 0; have z1 : w4.cell? ⟨w.heap.size + 1, 1, none⟩ = some (.int .i64 0) := hy4.cell 1 rfl; have fz1 := hy4.thaw 1; have z2 : w4.cell? ⟨w.heap.size + 1, 2, none⟩ = some (.int .i64 0) := hy4.cell 2 rfl; have fz2 := hy4.thaw 2; have z3 : w4.cell? ⟨w.heap.size + 1, 3, none⟩ = some (.int .i64 0) := hy4.cell 3 rfl; have fz3 := hy4.thaw 3; have z4 : w4.cell? ⟨w.heap.size + 1, 4, none⟩ = some (.bool false) := hy4.cell 4 rfl; have fz4 := hy4.thaw 4; have z5 : w4.cell? ⟨w.heap.size + 1, 5, none⟩ = some (.int .i64 0) := hy4.cell 5 rfl; have fz5 := hy4.thaw 5; have z6 : w4.cell? ⟨w.heap.size + 1, 6, none⟩ = some (.int .i64 0) := hy4.cell 6 rfl; have fz6 := hy4.thaw 6; have z7 : w4.cell? ⟨w.heap.size + 1, 7, none⟩ = some (.int .u64 0) := hy4.cell 7 rfl; have fz7 := hy4.thaw 7; have z8 : w4.cell? ⟨w.heap.size + 1, 8, none⟩ = some (.string ⟨#[]⟩) := hy4.cell 8 rfl; have fz8 := hy4.thaw 8; have z9 : w4.cell? ⟨w.heap.size + 1, 9, none⟩ = some (.slice none 0 0) := hy4.cell 9 rfl; have fz9 := hy4.thaw 9; dsimp only)
  have hzo := hz.out
  have hl2 := hb12.size
  have hl3 := hb3.size
  have hb24 := hb23.trans (hb4.mono hb23.size)
  have hb04 := hb1.trans (hb24.mono hb1.size)
  exact bodyPost_ret (results_cell_row rfl _ _ (w.heap.size + 1) 33 _ (0, 0) _ rfl (hy4.set10 _ _ _ _ _ _ _ _ _ _) Tryz.underlying33 rfl (by kernel_rfl)) rfl
    ⟨_, rfl, ⟨_, _, _, _, _, _, _, rfl, RepQ.set10 (N := W2.heap.size) (hq.later (ha3.trans (hb4.mono ha3.size))) (by omega) (by omega)⟩, set10_below hb04 (by omega)⟩
end Go.Proofs.YtecdniimikfbhaaGreatDoor

/- Contract of the reference's Same of results. -/
namespace Go.Proofs.YtecdniimikfbhaaGreatDoor
open Go Go.RowKit Go.ChangeShapes Go.WideShapes

theorem res2_worlds (w : World) (c0 c1 c2 c3 c4 c5 c6 c7 c8 c9 e0 e1 e2 e3 e4 e5 e6 e7 e8 e9 : Value) : ∃ W1, W1 = (w.alloc (.cells #[c0, c1, c2, c3, c4, c5, c6, c7, c8, c9] 33)).alloc (.cells #[e0, e1, e2, e3, e4, e5, e6, e7, e8, e9] 33) ∧ Below w.heap.size w W1 ∧ Hid (W1.heap.size = w.heap.size + 2) ∧ Row W1 w.heap.size #[c0, c1, c2, c3, c4, c5, c6, c7, c8, c9] 33 ∧ Row W1 (w.heap.size + 1) #[e0, e1, e2, e3, e4, e5, e6, e7, e8, e9] 33 := by
  refine ⟨_, rfl, by go_grown, Lib.hid (by simp), (Row.new w _ _).old _, ?_⟩
  have h := Row.new (w.alloc (.cells #[c0, c1, c2, c3, c4, c5, c6, c7, c8, c9] 33)) #[e0, e1, e2, e3, e4, e5, e6, e7, e8, e9] 33
  simpa using h
set_option maxRecDepth 100000 in
set_option maxHeartbeats 3200000 in
theorem rsame_lit {w0 : World} {e c p n : Int} {h : Bool} {d : D} {k m b : Int} {t : ByteArray} {a : Option Addr} {l cap : Nat} {k' m' b' : Int} {t' : ByteArray} {a' : Option Addr} {l' cap' : Nat} (hv : Rep w0 (.agg #[.int .i64 k, .int .i64 m, .int .u64 b, .string t, .slice a l cap]) d) (hv' : Rep w0 (.agg #[.int .i64 k', .int .i64 m', .int .u64 b', .string t', .slice a' l' cap']) d) (w : World) (hb0 : Below w0.heap.size w0 w) :
    Calls Tryz.prog 9 #[(.agg #[.int .i64 e, .int .i64 c, .int .i64 p, .int .i64 n, .bool h, .int .i64 k, .int .i64 m, .int .u64 b, .string t, .slice a l cap]), (.agg #[.int .i64 e, .int .i64 c, .int .i64 p, .int .i64 n, .bool h, .int .i64 k', .int .i64 m', .int .u64 b', .string t', .slice a' l' cap'])] w fun x w' => x = .returned (.bool true) ∧ Below w.heap.size w w' := by
  have HS := Lib.hid (fun W hW => same_self hv _ hv' W hW)
  have HB := Lib.hid hb0
  clear hv hv' hb0
  obtain ⟨W1, hW1, hb1, hz, hx1, hx2⟩ := res2_worlds w (.int .i64 e) (.int .i64 c) (.int .i64 p) (.int .i64 n) (.bool h) (.int .i64 k) (.int .i64 m) (.int .u64 b) (.string t) (.slice a l cap) (.int .i64 e) (.int .i64 c) (.int .i64 p) (.int .i64 n) (.bool h) (.int .i64 k') (.int .i64 m') (.int .u64 b') (.string t') (.slice a' l' cap')
  have p0 : W1.cell? ⟨w.heap.size, 0, none⟩ = some (.int .i64 e) := hx1.cell 0 rfl
  have p1 : W1.cell? ⟨w.heap.size, 1, none⟩ = some (.int .i64 c) := hx1.cell 1 rfl
  have p2 : W1.cell? ⟨w.heap.size, 2, none⟩ = some (.int .i64 p) := hx1.cell 2 rfl
  have p3 : W1.cell? ⟨w.heap.size, 3, none⟩ = some (.int .i64 n) := hx1.cell 3 rfl
  have p4 : W1.cell? ⟨w.heap.size, 4, none⟩ = some (.bool h) := hx1.cell 4 rfl
  have p5 : W1.cell? ⟨w.heap.size, 5, none⟩ = some (.int .i64 k) := hx1.cell 5 rfl
  have p6 : W1.cell? ⟨w.heap.size, 6, none⟩ = some (.int .i64 m) := hx1.cell 6 rfl
  have p7 : W1.cell? ⟨w.heap.size, 7, none⟩ = some (.int .u64 b) := hx1.cell 7 rfl
  have p8 : W1.cell? ⟨w.heap.size, 8, none⟩ = some (.string t) := hx1.cell 8 rfl
  have p9 : W1.cell? ⟨w.heap.size, 9, none⟩ = some (.slice a l cap) := hx1.cell 9 rfl
  have q0 : W1.cell? ⟨w.heap.size + 1, 0, none⟩ = some (.int .i64 e) := hx2.cell 0 rfl
  have q1 : W1.cell? ⟨w.heap.size + 1, 1, none⟩ = some (.int .i64 c) := hx2.cell 1 rfl
  have q2 : W1.cell? ⟨w.heap.size + 1, 2, none⟩ = some (.int .i64 p) := hx2.cell 2 rfl
  have q3 : W1.cell? ⟨w.heap.size + 1, 3, none⟩ = some (.int .i64 n) := hx2.cell 3 rfl
  have q4 : W1.cell? ⟨w.heap.size + 1, 4, none⟩ = some (.bool h) := hx2.cell 4 rfl
  have q5 : W1.cell? ⟨w.heap.size + 1, 5, none⟩ = some (.int .i64 k') := hx2.cell 5 rfl
  have q6 : W1.cell? ⟨w.heap.size + 1, 6, none⟩ = some (.int .i64 m') := hx2.cell 6 rfl
  have q7 : W1.cell? ⟨w.heap.size + 1, 7, none⟩ = some (.int .u64 b') := hx2.cell 7 rfl
  have q8 : W1.cell? ⟨w.heap.size + 1, 8, none⟩ = some (.string t') := hx2.cell 8 rfl
  have q9 : W1.cell? ⟨w.heap.size + 1, 9, none⟩ = some (.slice a' l' cap') := hx2.cell 9 rfl
  go_enter Tryz.func9, Tryz.ntmps9
  go_upto_region 1 with fail
  rw [← hW1]
  clear hW1
  go_wp2_with (go_at_call 11; refine (HS.out _ (HB.out.trans (hb1.mono HB.out.size))).mono ?_; rintro x w2 ⟨rfl, hb2⟩)
  go_ret
  exact ⟨by simp, hb1.trans (hb2.mono hb1.size)⟩

end Go.Proofs.YtecdniimikfbhaaGreatDoor
