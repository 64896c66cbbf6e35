/- Guard: contracts, joined texts (G33, G34, G35, G36). -/
import Derived.Deep.RegionHeld3
import Derived.Stop.Asserts
import Derived.Test.YtecdniimikfbhaaGreatM07

/- Contracts of boxes.value, of lists and of boxes. -/
namespace Go.Proofs.YtecdniimikfbhaaGreat
open Go Go.RowKit Go.ChangeShapes Go.WideShapes

set_option maxRecDepth 100000 in
set_option maxHeartbeats 800000 in
theorem val_8 (m b : Int) (t : ByteArray) {w0 : World} {kids : List D} {a : Option Addr} {cap g o : Nat} {c : Nat → Nat → Value} (ha : 0 < kids.length → a = some ⟨g, o, none⟩ ∧ g < w0.heap.size ∧ kids.length ≤ cap ∧ cap ≤ 9223372036854775807) (hc : Row5 w0 g o kids.length c)
    (hk : ∀ i x, kids[i]? = some x → Rep w0 (five c i) x) (HK : ∀ i x, kids[i]? = some x → ValueSays w0 (five c i) x) (w : World) (M n : Nat) (F : DataW Unit) (hb : Below w0.heap.size w0 w) (hw0 : w0.heap.size ≤ M) (hbx : BoxesAt w M n F) (hn : n + D.partsL kids ≤ 1000000) :
    Calls Tryz.prog 58 #[.map (some M), .agg #[.int .i64 8, .int .i64 m, .int .u64 b, .string t, .slice a kids.length cap]] w fun x w' => ∃ a' c' F1 n1, x = .returned (.iface 155 (.slice a' kids.length c')) ∧ BoxesAt w' M n1 F1 ∧ n1 ≤ n + D.partsL kids ∧ VStep M w.heap.size w w' F F1 := by
  have HV := Lib.hid (fun w hb hbx => values_of ha hc hk HK w M n F hb hw0 hbx hn)
  have HB := Lib.hid hb
  have HX := Lib.hid hbx
  clear ha hc hk HK hb hbx hn
  go_enter Tryz.func58, Tryz.ntmps58
  go_wp2_with (go_at_call 64; refine (HV.out _ (HB.out.alloc HB.out.size _) (HX.out.later (by go_grown))).mono ?_; rintro e w2 ⟨a', c', F1, n1, rfl, hbx2, hn2, hst⟩)
  exact bodyPost_ret (results_tmp rfl _ _ _) rfl ⟨_, _, F1, n1, rfl, hbx2, hn2, (VStep.of_below (by go_grown) (Nat.le_of_lt HX.out.lt)).trans hst (by simp)⟩

theorem BoxesAt.setBox {w : World} {M n : Nat} {F : DataW Unit} (h : BoxesAt w M n F) {m : Int} {b : Nat} (hm : boxOf F m = some b) (u : Value) : BoxesAt (w.setCell ⟨b, 1, none⟩ u) M n F := by
  obtain ⟨hMb, x, hx⟩ := h.2 m b hm
  refine ⟨ownsMap_block h.1 (heap_setCell_other _ _ _ _ (by simp; omega)), fun m' b' hm' => ?_⟩
  obtain ⟨h1, y, hy⟩ := h.2 m' b' hm'
  refine ⟨h1, ?_⟩
  by_cases e : b' = b
  · subst e
    exact ⟨u, hy.set 1 u⟩
  · exact ⟨y, hy.other 1 u e⟩
theorem VStep.setBox {M B : Nat} {w w1 : World} {F F1 : DataW Unit} (h : VStep M B w w1 F F1) {m : Int} {b n : Nat} (hb : BoxesAt w1 M n F1) (hm : boxOf F1 m = some b) (u : Value) : VStep M B w (w1.setCell ⟨b, 1, none⟩ u) F F1 := by
  have hMb := (hb.2 m b hm).1
  refine ⟨h.below.setCell (p := ⟨b, 1, none⟩) (by simp; omega) _, fun i hi hM hF => ?_, h.ext, h.new⟩
  have hne : i ≠ b := fun e => by
    subst e
    rcases h.new m i hm with h1 | h1
    · exact hF m h1
    · omega
  exact (heap_setCell_other _ _ _ _ (by simpa using hne)).trans (h.frame i hi hM hF)

theorem key_ok {m : Int} (h : (Lit.int .i64 m).wf = true) : keyOf Tryz.prog 2 (.int .i64 m) = some (.int .i64 m) := Maps.keyOf_int_mk Tryz.underlying2 h
theorem law_key : Maps.Keyed Tryz.prog 2 := Maps.int_keyed Tryz.underlying2
theorem zero_ptr (w : World) : (zeroValue 161).run Tryz.prog w = .ok (.pointer none) w := by kernel_rfl

/-- The look-up of a box. -/
theorem look_box {w : World} {M n : Nat} {F : DataW Unit} (h : BoxesAt w M n F) {m : Int} (hm : (Lit.int .i64 m).wf = true) :
    (boxOf F m = none ∧ (Instr.lookup 83 (.map (some M)) (.int .i64 m) false).run Tryz.prog w = .ok (.pointer none) w) ∨ ∃ g, boxOf F m = some g ∧ (Instr.lookup 83 (.map (some M)) (.int .i64 m) false).run Tryz.prog w = .ok (.pointer (some ⟨g, 0, none⟩)) w := by
  obtain ⟨v, ps, hrun, hv⟩ := h.1.lookup law_key Tryz.underlying83 (zero_ptr w) (show ptrElem (.pointer none) = some (.lit (.int .i64 0), []) from rfl) (key_ok hm)
  rcases ptrElem_inv hv with ⟨rfl, e⟩ | ⟨b, rfl, e⟩
  · exact Or.inl ⟨boxOf_none e, hrun⟩
  · exact Or.inr ⟨b, boxOf_some e, hrun⟩

/-- The store of a new box. -/
theorem store_box {w : World} {M n : Nat} {F : DataW Unit} (h : BoxesAt w M n F) {m : Int} (hm : (Lit.int .i64 m).wf = true) (hno : boxOf F m = none) (hn : n < 9223372036854775807) {g : Nat} {x : Value} (hg : Row w g #[.int .i64 m, x] 163) (hMg : M < g) :
    ∃ w', (Instr.mapUpdate 83 (.map (some M)) (.int .i64 m) (.pointer (some ⟨g, 0, none⟩))).run Tryz.prog w = .ok () w' ∧ BoxesAt w' M (n + 1) (F.put (.int .i64 m) (.lit (.int .i64 (g + 1)))) ∧ boxOf (F.put (.int .i64 m) (.lit (.int .i64 (g + 1)))) m = some g ∧
      ∀ B w0, VStep M B w0 w F F → B ≤ g → VStep M B w0 w' F (F.put (.int .i64 m) (.lit (.int .i64 (g + 1)))) := by
  obtain ⟨w', hrun, hown, hgr⟩ := h.1.update law_key Tryz.underlying83 (by unfold maxLen; omega) (key_ok hm) (show ptrElem (.pointer (some ⟨g, 0, none⟩)) = some (.lit (.int .i64 (g + 1)), []) from rfl)
  have hF := h.1.isMap
  have hsame := boxOf_put_same hF m g
  have hold : ∀ b, b < w.heap.size → b ≠ M → w'.heap[b]? = w.heap[b]? := fun b hb hne => hgr.block b hb (fun e => hne (Option.some.inj e))
  refine ⟨w', hrun, ⟨hown, fun m' b hm' => ?_⟩, hsame, fun B w0 hs hB => ?_⟩
  · by_cases e : m' = m
    · subst e
      rw [hsame] at hm'
      cases hm'
      exact ⟨hMg, x, hg.keep (hold g hg.lt (by omega))⟩
    · rw [boxOf_put_other e] at hm'
      obtain ⟨h1, y, hy⟩ := h.2 m' b hm'
      exact ⟨h1, y, hy.keep (hold b hy.lt (by omega))⟩
  · refine ⟨hs.below.trans (Below.grown (Below.refl _ _) hgr (Nat.le_of_lt h.lt) (fun r hr => by cases hr; exact Nat.le_refl _)), fun b hb hM hFb => ?_, fun m' b hm' => ?_, fun m' b hm' => ?_⟩
    · refine (?_ : w'.heap[b]? = w.heap[b]?).trans (hs.frame b hb hM hFb)
      exact hold b (by have := hg.lt; omega) hM
    · rw [boxOf_put_other (fun e => by rw [e, hno] at hm'; cases hm')]
      exact hm'
    · by_cases e : m' = m
      · subst e
        rw [hsame] at hm'
        cases hm'
        exact Or.inr hB
      · rw [boxOf_put_other e] at hm'
        exact Or.inl hm'
end Go.Proofs.YtecdniimikfbhaaGreat

/- Contract of boxes.value, of a box. -/
namespace Go.Proofs.YtecdniimikfbhaaGreat
open Go Go.RowKit Go.ChangeShapes Go.WideShapes

/-- What is said of a box. -/
def PtrSays (M n k : Nat) (F : DataW Unit) (m : Int) (p : Nat) (w : World) (e : Ending) (w' : World) : Prop :=
  ∃ F1 n1, e = .returned (.iface 161 (.pointer (some ⟨p, 0, none⟩))) ∧ boxOf F1 m = some p ∧ BoxesAt w' M n1 F1 ∧ n1 ≤ n + 1 + k ∧ VStep M w.heap.size w w' F F1

set_option maxRecDepth 100000 in
set_option maxHeartbeats 1600000 in
theorem val_11_old (m b : Int) (t : ByteArray) (hm : (Lit.int .i64 m).wf = true) {w0 : World} {x : D} {a : Option Addr} {cap g o : Nat} {k2 m2 b2 : Int} {t2 : ByteArray} {a2 : Option Addr} {n2 cap2 : Nat}
    (ha : a = some ⟨g, o, none⟩ ∧ g < w0.heap.size ∧ 1 ≤ cap ∧ cap ≤ 9223372036854775807)
    (hc0 : w0.cell? ⟨g, o, none⟩ = some (.int .i64 k2)) (hc1 : w0.cell? ⟨g, o + 1, none⟩ = some (.int .i64 m2)) (hc2 : w0.cell? ⟨g, o + 2, none⟩ = some (.int .u64 b2)) (hc3 : w0.cell? ⟨g, o + 3, none⟩ = some (.string t2)) (hc4 : w0.cell? ⟨g, o + 4, none⟩ = some (.slice a2 n2 cap2))
    (HK : ValueSays w0 (.agg #[.int .i64 k2, .int .i64 m2, .int .u64 b2, .string t2, .slice a2 n2 cap2]) x) (w : World) (M n : Nat) (F : DataW Unit) (hb : Below w0.heap.size w0 w) (hw0 : w0.heap.size ≤ M) (hbx : BoxesAt w M n F) (hn : n + 1 + x.parts ≤ 1000000) (p : Nat) (hp : boxOf F m = some p) :
    Calls Tryz.prog 58 #[.map (some M), .agg #[.int .i64 11, .int .i64 m, .int .u64 b, .string t, .slice a 1 cap]] w (PtrSays M n x.parts F m p w) := by
  obtain ⟨rfl, hg, hcp, hcm⟩ := ha
  have HX := Lib.hid (fun w n F hb hbx hn => HK w M n F hb hw0 hbx hn)
  have hMlt := Lib.hid hbx.lt
  obtain ⟨W1, hW1⟩ : ∃ W1, W1 = w.alloc (.cells #[.int .i64 11, .int .i64 m, .int .u64 b, .string t, .slice (some ⟨g, o, none⟩) 1 cap] 26) := ⟨_, rfl⟩
  have hb1 : Below w.heap.size w W1 := by rw [hW1]; exact (Below.refl _ _).alloc (Nat.le_refl _) _
  have hx1 : Row W1 w.heap.size #[.int .i64 11, .int .i64 m, .int .u64 b, .string t, .slice (some ⟨g, o, none⟩) 1 cap] 26 := by rw [hW1]; exact Row.new w _ _
  have hbx1 := hbx.later hb1
  have hB1 : Below w0.heap.size w0 W1 := hb.trans (hb1.mono hb.size)
  have hs1 := Lib.hid (show VStep M w.heap.size w W1 F F from VStep.of_below hb1 (Nat.le_of_lt hMlt.out))
  rcases look_box hbx1 hm with ⟨h0, _⟩ | ⟨p', h0, hrun⟩
  · rw [h0] at hp; cases hp
  obtain rfl : p' = p := by rw [h0] at hp; exact Option.some.inj hp
  clear hp
  have p1 : W1.cell? ⟨w.heap.size, 1, none⟩ = some (.int .i64 m) := hx1.cell 1 rfl
  have p0 : W1.cell? ⟨w.heap.size, 0, none⟩ = some (.int .i64 11) := hx1.cell 0 rfl
  have p4 : W1.cell? ⟨w.heap.size, 4, none⟩ = some (.slice (some ⟨g, o, none⟩) 1 cap) := hx1.cell 4 rfl
  have q0 : W1.cell? ⟨g, o, none⟩ = some (.int .i64 k2) := (hB1.cell (p := ⟨g, _, none⟩) hg).trans hc0
  have q1 : W1.cell? ⟨g, o + 1, none⟩ = some (.int .i64 m2) := (hB1.cell (p := ⟨g, _, none⟩) hg).trans hc1
  have q2 : W1.cell? ⟨g, o + 2, none⟩ = some (.int .u64 b2) := (hB1.cell (p := ⟨g, _, none⟩) hg).trans hc2
  have q3 : W1.cell? ⟨g, o + 3, none⟩ = some (.string t2) := (hB1.cell (p := ⟨g, _, none⟩) hg).trans hc3
  have q4 : W1.cell? ⟨g, o + 4, none⟩ = some (.slice a2 n2 cap2) := (hB1.cell (p := ⟨g, _, none⟩) hg).trans hc4
  have HB1 := Lib.hid hB1
  have HBX := Lib.hid hbx1
  have H0 := Lib.hid h0
  have HN := Lib.hid hn
  clear hB1 hbx1 hbx hb hb1 hx1 hc0 hc1 hc2 hc3 hc4 h0 hn HK
  go_enter Tryz.func58, Tryz.ntmps58
  go_upto_region 1 with fail
  rw [← hW1]
  clear hW1
  go_wp2_with fail
  refine (HX.out _ _ _ HB1.out HBX.out (by have := HN.out; omega)).mono ?_
  rintro e w4 ⟨u, F2, n5, rfl, hiv, hbx4, hn5, hst⟩
  have hpp := hst.ext _ _ H0.out
  obtain ⟨_, y, hy⟩ := hbx4.2 _ _ hpp
  have r1 : w4.cell? ⟨p', 1, none⟩ = some y := hy.cell 1 rfl
  have f1 := hy.thaw 1
  have HIV := Lib.hid hiv.form
  have HBX4 := Lib.hid hbx4
  have HST := Lib.hid hst
  have HP := Lib.hid hpp
  have HN5 := Lib.hid hn5
  clear hiv hbx4 hst hpp hy hn5 q0 q1 q2 q3 q4 p0 p1 p4 hrun
  rcases HIV.out with rfl | ⟨T, z, rfl⟩
  all_goals
    dsimp only
    go_wp2_with fail
    exact bodyPost_ret (results_tmp rfl _ _ _) rfl ⟨F2, n5, rfl, HP.out, HBX4.out.setBox HP.out _, by have := HN5.out; omega, (hs1.out.trans (HST.out.setBox HBX4.out HP.out _) (by have := hs1.out.below.size; omega))⟩

set_option maxRecDepth 100000 in
set_option maxHeartbeats 1600000 in
theorem val_11_new (m b : Int) (t : ByteArray) (hm : (Lit.int .i64 m).wf = true) {w0 : World} {x : D} {a : Option Addr} {cap g o : Nat} {k2 m2 b2 : Int} {t2 : ByteArray} {a2 : Option Addr} {n2 cap2 : Nat}
    (ha : a = some ⟨g, o, none⟩ ∧ g < w0.heap.size ∧ 1 ≤ cap ∧ cap ≤ 9223372036854775807)
    (hc0 : w0.cell? ⟨g, o, none⟩ = some (.int .i64 k2)) (hc1 : w0.cell? ⟨g, o + 1, none⟩ = some (.int .i64 m2)) (hc2 : w0.cell? ⟨g, o + 2, none⟩ = some (.int .u64 b2)) (hc3 : w0.cell? ⟨g, o + 3, none⟩ = some (.string t2)) (hc4 : w0.cell? ⟨g, o + 4, none⟩ = some (.slice a2 n2 cap2))
    (HK : ValueSays w0 (.agg #[.int .i64 k2, .int .i64 m2, .int .u64 b2, .string t2, .slice a2 n2 cap2]) x) (w : World) (M n : Nat) (F : DataW Unit) (hb : Below w0.heap.size w0 w) (hw0 : w0.heap.size ≤ M) (hbx : BoxesAt w M n F) (hn : n + 1 + x.parts ≤ 1000000) (hp : boxOf F m = none) :
    Calls Tryz.prog 58 #[.map (some M), .agg #[.int .i64 11, .int .i64 m, .int .u64 b, .string t, .slice a 1 cap]] w (fun e w' => ∃ p, PtrSays M n x.parts F m p w e w') := by
  obtain ⟨rfl, hg, hcp, hcm⟩ := ha
  have HX := Lib.hid (fun w n F hb hbx hn => HK w M n F hb hw0 hbx hn)
  have hMlt := Lib.hid hbx.lt
  obtain ⟨W1, hW1⟩ : ∃ W1, W1 = w.alloc (.cells #[.int .i64 11, .int .i64 m, .int .u64 b, .string t, .slice (some ⟨g, o, none⟩) 1 cap] 26) := ⟨_, rfl⟩
  have hb1 : Below w.heap.size w W1 := by rw [hW1]; exact (Below.refl _ _).alloc (Nat.le_refl _) _
  have hx1 : Row W1 w.heap.size #[.int .i64 11, .int .i64 m, .int .u64 b, .string t, .slice (some ⟨g, o, none⟩) 1 cap] 26 := by rw [hW1]; exact Row.new w _ _
  have hbx1 := hbx.later hb1
  have hB1 : Below w0.heap.size w0 W1 := hb.trans (hb1.mono hb.size)
  rcases look_box hbx1 hm with ⟨h0, hrun⟩ | ⟨p', h0, _⟩
  case inr => rw [h0] at hp; cases hp
  clear hp
  obtain ⟨w3, hrun3, hbx3, h3, hs3⟩ := store_box (hbx1.later ((Below.refl _ _).alloc (Nat.le_refl _) (.cells #[.int .i64 m, .nilIface] 163 (0, 0)))) hm h0 (by omega) (Row.new W1 #[.int .i64 m, .nilIface] 163) (by have := hMlt.out; have := hb1.size; omega)
  have hs13 := hs3 w.heap.size w (VStep.of_below (hb1.alloc hb1.size _) (Nat.le_of_lt hMlt.out)) hb1.size
  have hs23 := hs3 W1.heap.size _ (VStep.of_below (Below.refl _ _) (by have := hMlt.out; have := hb1.size; omega)) (Nat.le_refl _)
  have hx3 : Row w3 w.heap.size #[.int .i64 11, .int .i64 m, .int .u64 b, .string t, .slice (some ⟨g, o, none⟩) 1 cap] 26 := hs23.row (hx1.old _) hx1.lt (by have := hMlt.out; omega) (fun m' hm' => by have := hbx.blt hm'; omega)
  have hB3 : Below w0.heap.size w0 w3 := hb.trans (hs13.below.mono hw0)
  have p1 : W1.cell? ⟨w.heap.size, 1, none⟩ = some (.int .i64 m) := hx1.cell 1 rfl
  have p0 : W1.cell? ⟨w.heap.size, 0, none⟩ = some (.int .i64 11) := hx1.cell 0 rfl
  have p1' := old1_cell hx1.lt p1
  have p4 : w3.cell? ⟨w.heap.size, 4, none⟩ = some (.slice (some ⟨g, o, none⟩) 1 cap) := hx3.cell 4 rfl
  have q0 : w3.cell? ⟨g, o, none⟩ = some (.int .i64 k2) := (hB3.cell (p := ⟨g, _, none⟩) hg).trans hc0
  have q1 : w3.cell? ⟨g, o + 1, none⟩ = some (.int .i64 m2) := (hB3.cell (p := ⟨g, _, none⟩) hg).trans hc1
  have q2 : w3.cell? ⟨g, o + 2, none⟩ = some (.int .u64 b2) := (hB3.cell (p := ⟨g, _, none⟩) hg).trans hc2
  have q3 : w3.cell? ⟨g, o + 3, none⟩ = some (.string t2) := (hB3.cell (p := ⟨g, _, none⟩) hg).trans hc3
  have q4 : w3.cell? ⟨g, o + 4, none⟩ = some (.slice a2 n2 cap2) := (hB3.cell (p := ⟨g, _, none⟩) hg).trans hc4
  have HB1 := Lib.hid hB3
  have HBX := Lib.hid hbx3
  have H0 := Lib.hid h3
  have hs1 := Lib.hid hs13
  have HN := Lib.hid hn
  have hzz := hb1.size
  clear hB1 hB3 hbx1 hbx3 hbx hb hb1 hx1 hx3 hc0 hc1 hc2 hc3 hc4 h0 h3 hs3 hs13 hs23 hn HK
  go_enter Tryz.func58, Tryz.ntmps58
  go_upto_region 1 with fail
  rw [← hW1]
  clear hW1
  go_wp2_with fail
  refine (HX.out _ _ _ HB1.out HBX.out (by have := HN.out; omega)).mono ?_
  rintro e w4 ⟨u, F2, n5, rfl, hiv, hbx4, hn5, hst⟩
  have hpp := hst.ext _ _ H0.out
  obtain ⟨_, y, hy⟩ := hbx4.2 _ _ hpp
  have r1 : w4.cell? ⟨W1.heap.size, 1, none⟩ = some y := hy.cell 1 rfl
  have f1 := hy.thaw 1
  have HIV := Lib.hid hiv.form
  have HBX4 := Lib.hid hbx4
  have HST := Lib.hid hst
  have HP := Lib.hid hpp
  have HN5 := Lib.hid hn5
  clear hiv hbx4 hst hpp hy hn5 q0 q1 q2 q3 q4 p0 p1 p1' p4 hrun hrun3
  rcases HIV.out with rfl | ⟨T, z, rfl⟩
  all_goals
    dsimp only
    go_wp2_with fail
    exact bodyPost_ret (results_tmp rfl _ _ _) rfl ⟨_, F2, n5, rfl, HP.out, HBX4.out.setBox HP.out _, by have := HN5.out; omega, (hs1.out.trans (HST.out.setBox HBX4.out HP.out _) (by have := hs1.out.below.size; omega))⟩
end Go.Proofs.YtecdniimikfbhaaGreat

/- Contract of boxes.value, of a pair. -/
namespace Go.Proofs.YtecdniimikfbhaaGreat
open Go Go.RowKit Go.ChangeShapes Go.WideShapes

theorem IV.cells {F : DataW Unit} {d : D} {v : Value} (h : IV F d v) : v.cells = #[v] := by
  cases h <;> rfl
/-- What is said of a pair. -/
def PairSays (M n k : Nat) (F : DataW Unit) (x y : D) (w : World) (e : Ending) (w' : World) : Prop :=
  ∃ u v F1 n1, e = .returned (.iface 158 (.agg #[u, v])) ∧ IV F1 x u ∧ IV F1 y v ∧ BoxesAt w' M n1 F1 ∧ n1 ≤ n + k ∧ VStep M w.heap.size w w' F F1

set_option maxRecDepth 100000 in
set_option maxHeartbeats 3200000 in
theorem val_9 (m b : Int) (t : ByteArray) {w0 : World} {x y : D} {a : Option Addr} {cap g o : Nat} {k2 m2 b2 : Int} {t2 : ByteArray} {a2 : Option Addr} {n2 cap2 : Nat} {k3 m3 b3 : Int} {t3 : ByteArray} {a3 : Option Addr} {n3 cap3 : Nat}
    (ha : a = some ⟨g, o, none⟩ ∧ g < w0.heap.size ∧ 2 ≤ cap ∧ cap ≤ 9223372036854775807)
    (hc : w0.cell? ⟨g, o, none⟩ = some (.int .i64 k2) ∧ w0.cell? ⟨g, o + 1, none⟩ = some (.int .i64 m2) ∧ w0.cell? ⟨g, o + 2, none⟩ = some (.int .u64 b2) ∧ w0.cell? ⟨g, o + 3, none⟩ = some (.string t2) ∧ w0.cell? ⟨g, o + 4, none⟩ = some (.slice a2 n2 cap2) ∧ w0.cell? ⟨g, o + 5, none⟩ = some (.int .i64 k3) ∧ w0.cell? ⟨g, o + 5 + 1, none⟩ = some (.int .i64 m3) ∧ w0.cell? ⟨g, o + 5 + 2, none⟩ = some (.int .u64 b3) ∧ w0.cell? ⟨g, o + 5 + 3, none⟩ = some (.string t3) ∧ w0.cell? ⟨g, o + 5 + 4, none⟩ = some (.slice a3 n3 cap3))
    (HX : ValueSays w0 (.agg #[.int .i64 k2, .int .i64 m2, .int .u64 b2, .string t2, .slice a2 n2 cap2]) x) (HY : ValueSays w0 (.agg #[.int .i64 k3, .int .i64 m3, .int .u64 b3, .string t3, .slice a3 n3 cap3]) y) (w : World) (M n : Nat) (F : DataW Unit) (hb : Below w0.heap.size w0 w) (hw0 : w0.heap.size ≤ M) (hbx : BoxesAt w M n F) (hn : n + (x.parts + y.parts) ≤ 1000000) :
    Calls Tryz.prog 58 #[.map (some M), .agg #[.int .i64 9, .int .i64 m, .int .u64 b, .string t, .slice a 2 cap]] w (PairSays M n (x.parts + y.parts) F x y w) := by
  obtain ⟨rfl, hg, hcp, hcm⟩ := ha
  have HX1 := Lib.hid (fun w n F hb hbx hn => HX w M n F hb hw0 hbx hn)
  have HY1 := Lib.hid (fun w n F hb hbx hn => HY w M n F hb hw0 hbx hn)
  have hMlt := Lib.hid hbx.lt
  have HQ := Lib.hid (show ∀ W, Below w0.heap.size w0 W → W.cell? ⟨g, o, none⟩ = some (.int .i64 k2) ∧ W.cell? ⟨g, o + 1, none⟩ = some (.int .i64 m2) ∧ W.cell? ⟨g, o + 2, none⟩ = some (.int .u64 b2) ∧ W.cell? ⟨g, o + 3, none⟩ = some (.string t2) ∧ W.cell? ⟨g, o + 4, none⟩ = some (.slice a2 n2 cap2) ∧ W.cell? ⟨g, o + 5, none⟩ = some (.int .i64 k3) ∧ W.cell? ⟨g, o + 5 + 1, none⟩ = some (.int .i64 m3) ∧ W.cell? ⟨g, o + 5 + 2, none⟩ = some (.int .u64 b3) ∧ W.cell? ⟨g, o + 5 + 3, none⟩ = some (.string t3) ∧ W.cell? ⟨g, o + 5 + 4, none⟩ = some (.slice a3 n3 cap3) from fun W hW => by
    obtain ⟨c0, c1, c2, c3, c4, c5, c6, c7, c8, c9⟩ := hc
    exact ⟨(hW.cell (p := ⟨g, _, none⟩) hg).trans c0, (hW.cell (p := ⟨g, _, none⟩) hg).trans c1, (hW.cell (p := ⟨g, _, none⟩) hg).trans c2, (hW.cell (p := ⟨g, _, none⟩) hg).trans c3, (hW.cell (p := ⟨g, _, none⟩) hg).trans c4, (hW.cell (p := ⟨g, _, none⟩) hg).trans c5, (hW.cell (p := ⟨g, _, none⟩) hg).trans c6, (hW.cell (p := ⟨g, _, none⟩) hg).trans c7, (hW.cell (p := ⟨g, _, none⟩) hg).trans c8, (hW.cell (p := ⟨g, _, none⟩) hg).trans c9⟩)
  obtain ⟨W1, hW1⟩ : ∃ W1, W1 = w.alloc (.cells #[.int .i64 9, .int .i64 m, .int .u64 b, .string t, .slice (some ⟨g, o, none⟩) 2 cap] 26) := ⟨_, rfl⟩
  have hb1 : Below w.heap.size w W1 := by rw [hW1]; exact (Below.refl _ _).alloc (Nat.le_refl _) _
  have hx1 : Row W1 w.heap.size #[.int .i64 9, .int .i64 m, .int .u64 b, .string t, .slice (some ⟨g, o, none⟩) 2 cap] 26 := by rw [hW1]; exact Row.new w _ _
  have hxd : Row W1.drew w.heap.size #[.int .i64 9, .int .i64 m, .int .u64 b, .string t, .slice (some ⟨g, o, none⟩) 2 cap] 26 := hx1
  have hbd : Below w.heap.size w W1.drew := hb1.drew
  have hbxd := Lib.hid (hbx.later hbd)
  have hBd := Lib.hid (hb.trans (hbd.mono hb.size))
  have hsd := Lib.hid (show VStep M w.heap.size w W1.drew F F from VStep.of_below hbd (Nat.le_of_lt hMlt.out))
  have hnob := Lib.hid (show ∀ m', boxOf F m' ≠ some w.heap.size from fun m' hm' => by have := hbx.blt hm'; omega)
  have p0 : W1.cell? ⟨w.heap.size, 0, none⟩ = some (.int .i64 9) := hx1.cell 0 rfl
  have hSd : W1.drew.cell? ⟨w.heap.size, 4, none⟩ = some (.slice (some ⟨g, o, none⟩) 2 cap) ∧ W1.drew.cell? ⟨g, o, none⟩ = some (.int .i64 k2) ∧ W1.drew.cell? ⟨g, o + 1, none⟩ = some (.int .i64 m2) ∧ W1.drew.cell? ⟨g, o + 2, none⟩ = some (.int .u64 b2) ∧ W1.drew.cell? ⟨g, o + 3, none⟩ = some (.string t2) ∧ W1.drew.cell? ⟨g, o + 4, none⟩ = some (.slice a2 n2 cap2) ∧ W1.drew.cell? ⟨g, o + 5, none⟩ = some (.int .i64 k3) ∧ W1.drew.cell? ⟨g, o + 5 + 1, none⟩ = some (.int .i64 m3) ∧ W1.drew.cell? ⟨g, o + 5 + 2, none⟩ = some (.int .u64 b3) ∧ W1.drew.cell? ⟨g, o + 5 + 3, none⟩ = some (.string t3) ∧ W1.drew.cell? ⟨g, o + 5 + 4, none⟩ = some (.slice a3 n3 cap3) := ⟨hxd.cell 4 rfl, HQ.out _ hBd.out⟩
  have hlt1 := hx1.lt
  have HN := Lib.hid hn
  clear HX HY hc hbx hb hb1 hx1 hbd hn
  go_enter Tryz.func58, Tryz.ntmps58
  go_upto_region 1 with fail
  rw [← hW1]
  clear hW1
  go_wp2_with fail
  go_region_held3 (fun w' => w'.cell? ⟨w.heap.size, 4, none⟩ = some (.slice (some ⟨g, o, none⟩) 2 cap) ∧ w'.cell? ⟨g, o, none⟩ = some (.int .i64 k2) ∧ w'.cell? ⟨g, o + 1, none⟩ = some (.int .i64 m2) ∧ w'.cell? ⟨g, o + 2, none⟩ = some (.int .u64 b2) ∧ w'.cell? ⟨g, o + 3, none⟩ = some (.string t2) ∧ w'.cell? ⟨g, o + 4, none⟩ = some (.slice a2 n2 cap2) ∧ w'.cell? ⟨g, o + 5, none⟩ = some (.int .i64 k3) ∧ w'.cell? ⟨g, o + 5 + 1, none⟩ = some (.int .i64 m3) ∧ w'.cell? ⟨g, o + 5 + 2, none⟩ = some (.int .u64 b3) ∧ w'.cell? ⟨g, o + 5 + 3, none⟩ = some (.string t3) ∧ w'.cell? ⟨g, o + 5 + 4, none⟩ = some (.slice a3 n3 cap3)) (first | assumption | fail) ((go_at_call 58; first
    | ((with_reducible refine (HX1.out _ _ _ hBd.out hbxd.out (by have := HN.out; omega)).mono ?_); rintro e w4 ⟨u, F2, n5, rfl, hiv, hbx4, hn5, hst⟩; have hu := hiv.cells; unfold Value.cells at hu; have hx4 := hst.row hxd hxd.lt (by have := hMlt.out; omega) hnob.out; have hB4 := Lib.hid (hBd.out.trans (hst.below.mono hw0)); have hS4 : w4.cell? ⟨w.heap.size, 4, none⟩ = some (.slice (some ⟨g, o, none⟩) 2 cap) ∧ w4.cell? ⟨g, o, none⟩ = some (.int .i64 k2) ∧ w4.cell? ⟨g, o + 1, none⟩ = some (.int .i64 m2) ∧ w4.cell? ⟨g, o + 2, none⟩ = some (.int .u64 b2) ∧ w4.cell? ⟨g, o + 3, none⟩ = some (.string t2) ∧ w4.cell? ⟨g, o + 4, none⟩ = some (.slice a2 n2 cap2) ∧ w4.cell? ⟨g, o + 5, none⟩ = some (.int .i64 k3) ∧ w4.cell? ⟨g, o + 5 + 1, none⟩ = some (.int .i64 m3) ∧ w4.cell? ⟨g, o + 5 + 2, none⟩ = some (.int .u64 b3) ∧ w4.cell? ⟨g, o + 5 + 3, none⟩ = some (.string t3) ∧ w4.cell? ⟨g, o + 5 + 4, none⟩ = some (.slice a3 n3 cap3) := ⟨hx4.cell 4 rfl, HQ.out _ hB4.out⟩; have HIV := Lib.hid hiv; have HBX4 := Lib.hid hbx4; have HN5 := Lib.hid hn5; have HST := Lib.hid hst; clear hiv hbx4 hn5 hst)
    | ((with_reducible refine (HY1.out _ _ _ hB4.out HBX4.out (by have := HN.out; have := HN5.out; omega)).mono ?_); rintro e w5 ⟨v, F3, n6, rfl, hiv5, hbx5, hn6, hst5⟩; have hv := hiv5.cells; unfold Value.cells at hv; have hx5 := hst5.row hx4 hx4.lt (by have := hMlt.out; omega) (fun m' hm' => (HST.out.new m' _ hm').elim (hnob.out m') (fun h1 => Nat.not_le_of_lt hxd.lt h1)); have hB5 := Lib.hid (hB4.out.trans (hst5.below.mono hw0)); have hS5 : w5.cell? ⟨w.heap.size, 4, none⟩ = some (.slice (some ⟨g, o, none⟩) 2 cap) ∧ w5.cell? ⟨g, o, none⟩ = some (.int .i64 k2) ∧ w5.cell? ⟨g, o + 1, none⟩ = some (.int .i64 m2) ∧ w5.cell? ⟨g, o + 2, none⟩ = some (.int .u64 b2) ∧ w5.cell? ⟨g, o + 3, none⟩ = some (.string t2) ∧ w5.cell? ⟨g, o + 4, none⟩ = some (.slice a2 n2 cap2) ∧ w5.cell? ⟨g, o + 5, none⟩ = some (.int .i64 k3) ∧ w5.cell? ⟨g, o + 5 + 1, none⟩ = some (.int .i64 m3) ∧ w5.cell? ⟨g, o + 5 + 2, none⟩ = some (.int .u64 b3) ∧ w5.cell? ⟨g, o + 5 + 3, none⟩ = some (.string t3) ∧ w5.cell? ⟨g, o + 5 + 4, none⟩ = some (.slice a3 n3 cap3) := ⟨hx5.cell 4 rfl, HQ.out _ hB5.out⟩; have HIV5 := Lib.hid hiv5; have HBX5 := Lib.hid hbx5; have HN6 := Lib.hid hn6; have HST5 := Lib.hid hst5; clear hiv5 hbx5 hn6 hst5)))
  clear hu hv
  go_wp2_with fail
  exact bodyPost_ret (results_tmp rfl _ _ _) rfl ⟨u, v, F3, n6, rfl, HIV.out.ext HST5.out.ext, HIV5.out, HBX5.out, by have := HN5.out; have := HN6.out; omega, (hsd.out.trans HST.out (Nat.le_of_lt hxd.lt)).trans HST5.out (Nat.le_of_lt hx4.lt)⟩

set_option maxRecDepth 100000 in
/-- Whatever the Datum. -/
theorem value_any {w0 : World} {v : Value} {d : D} (h : Rep w0 v d) : Right d → ValueSays w0 v d := by
  induction h with
  | mk k m b t a cap g o c kids hw ha hc hk ih =>
    intro hR w M n F hb hw0 hbx hn
    obtain ⟨hok, hks⟩ := hR.inv
    obtain ⟨h0, h13, h9, h11, hno, ht, hmm, hbb, htt, h6, hpos⟩ := hok
    have hM := Nat.le_of_lt hbx.lt
    have hp : (D.mk k m b t kids).parts = 1 + D.partsL kids := by simp [D.parts]
    have plain : ∀ (u : Value) (a' : Value) , (Calls Tryz.prog 58 #[.map (some M), a'] w fun x w' => x = .returned u ∧ Below w.heap.size w w') → IV F (D.mk k m b t kids) u →
        Calls Tryz.prog 58 #[.map (some M), a'] w fun x w' => ∃ u F1 n1, x = .returned u ∧ IV F1 (D.mk k m b t kids) u ∧ BoxesAt w' M n1 F1 ∧ n1 ≤ n + (D.mk k m b t kids).parts ∧ VStep M w.heap.size w w' F F1 := fun u a' hcall hiv =>
      hcall.mono fun x w' ⟨hx, hbw⟩ => ⟨u, F, n, hx, hiv, hbx.later hbw, Nat.le_add_right _ _, VStep.of_below hbw hM⟩
    have hkid : ∀ i x, kids[i]? = some x → ValueSays w0 (five c i) x := fun i x hx => ih i x hx (hks x (List.mem_of_getElem? hx))
    have hcase : k = 0 ∨ k = 1 ∨ k = 2 ∨ k = 3 ∨ k = 4 ∨ k = 5 ∨ k = 6 ∨ k = 7 ∨ k = 8 ∨ k = 9 ∨ k = 10 ∨ k = 11 ∨ k = 12 ∨ k = 13 := by omega
    rcases hcase with rfl | rfl | rfl | rfl | rfl | rfl | rfl | rfl | rfl | rfl | rfl | rfl | rfl | rfl
    · exact plain _ _ (val_0 _ _ _ _ _ _) (.nil _ _ _ _)
    · exact plain _ _ (val_1 _ _ _ _ _ _) (.int _ _ _ _)
    · exact plain _ _ (val_2 _ _ _ _ _ _) (.key _ _ _ _)
    · exact plain _ _ (val_3 _ _ _ _ _ _) (.float _ _ _ _)
    · exact plain _ _ (val_4 _ _ _ _ _ _) (.text _ _ _ _)
    · exact plain _ _ (val_5 _ _ _ _ _ _) (.name _ _ _ _)
    · exact plain _ _ (val_6 _ _ _ _ _ _) (.bool _ _ _ _)
    · refine (val_7 m b t (.slice a kids.length cap) M w).mono fun x w' ⟨⟨a', c', hx⟩, hbw⟩ => ?_
      exact ⟨_, F, n, hx, .bytes _ _ _ _ _ _, hbx.later hbw, Nat.le_add_right _ _, VStep.of_below hbw hM⟩
    · refine (val_8 m b t ha hc hk hkid w M n F hb hw0 hbx (by omega)).mono fun x w' hh => ?_
      obtain ⟨a', c', F1, n1, hx, hbx1, hn1, hst⟩ := hh
      exact ⟨_, F1, n1, hx, .list _ _ _ _ _ _, hbx1, by omega, hst⟩
    · have hl : kids.length = 2 := h9 rfl
      obtain ⟨x, y, rfl⟩ : ∃ x y, kids = [x, y] := by
        match kids, hl with
        | [x, y], _ => exact ⟨x, y, rfl⟩
      have hp2 : (D.mk 9 m b t [x, y]).parts = 1 + (x.parts + y.parts) := by simp [D.parts, D.partsL]
      obtain ⟨k2, m2, b2, t2, a2, cap2, g2, o2, c2, kids2, e2, _⟩ := (hk 0 x rfl).inv
      obtain ⟨k3, m3, b3, t3, a3, cap3, g3, o3, c3, kids3, e3, _⟩ := (hk 1 y rfl).inv
      obtain ⟨f0, f1, f2, f3, f4⟩ := five_inv e2
      obtain ⟨r0, r1, r2, r3, r4⟩ := five_inv e3
      obtain ⟨q0, q1, q2, q3, q4⟩ := hc 0 (by simp)
      obtain ⟨s0, s1, s2, s3, s4⟩ := hc 1 (by simp)
      rw [f0] at q0; rw [f1] at q1; rw [f2] at q2; rw [f3] at q3; rw [f4] at q4
      rw [r0] at s0; rw [r1] at s1; rw [r2] at s2; rw [r3] at s3; rw [r4] at s4
      have hX := hkid 0 x rfl
      have hY := hkid 1 y rfl
      rw [e2] at hX
      rw [e3] at hY
      refine (val_9 m b t (ha (by simp)) ⟨q0, q1, q2, q3, q4, s0, s1, s2, s3, s4⟩ hX hY w M n F hb hw0 hbx (by omega)).mono fun e w' hh => ?_
      obtain ⟨u, v, F1, n1, hx, hiu, hiv, hbx1, hn1, hst⟩ := hh
      exact ⟨_, F1, n1, hx, .pair _ _ _ _ _ _ _ hiu hiv, hbx1, by omega, hst⟩
    · exact plain _ _ (val_10 _ _ _ _ _ _) (.err _ _ _ _)
    · have hl : kids.length = 1 := h11 rfl
      obtain ⟨x, rfl⟩ : ∃ x, kids = [x] := by
        match kids, hl with
        | [x], _ => exact ⟨x, rfl⟩
      have hp2 : (D.mk 11 m b t [x]).parts = 1 + x.parts := by simp [D.parts, D.partsL]
      obtain ⟨k2, m2, b2, t2, a2, cap2, g2, o2, c2, kids2, e2, _⟩ := (hk 0 x rfl).inv
      obtain ⟨f0, f1, f2, f3, f4⟩ := five_inv e2
      obtain ⟨q0, q1, q2, q3, q4⟩ := hc 0 (by simp)
      rw [f0] at q0; rw [f1] at q1; rw [f2] at q2; rw [f3] at q3; rw [f4] at q4
      have hX := hkid 0 x rfl
      rw [e2] at hX
      have fin : ∀ (p : Nat) (e : Ending) (w' : World), PtrSays M n x.parts F m p w e w' → ∃ u F1 n1, e = .returned u ∧ IV F1 (D.mk 11 m b t [x]) u ∧ BoxesAt w' M n1 F1 ∧ n1 ≤ n + (D.mk 11 m b t [x]).parts ∧ VStep M w.heap.size w w' F F1 := fun p e w' hh => by
        obtain ⟨F1, n1, hx, hbo, hbx1, hn1, hst⟩ := hh
        exact ⟨_, F1, n1, hx, .ptr _ _ _ _ _ hbo, hbx1, by omega, hst⟩
      cases hbo : boxOf F m with
      | none =>
        refine (val_11_new m b t hw.2.1 (ha (by simp)) (by simpa using q0) (by simpa using q1) (by simpa using q2) (by simpa using q3) (by simpa using q4) hX w M n F hb hw0 hbx (by omega) hbo).mono fun e w' hh => ?_
        obtain ⟨p, hh⟩ := hh
        exact fin p e w' hh
      | some p => exact (val_11_old m b t hw.2.1 (ha (by simp)) (by simpa using q0) (by simpa using q1) (by simpa using q2) (by simpa using q3) (by simpa using q4) hX w M n F hb hw0 hbx (by omega) p hbo).mono (fin p)
    · exact plain _ _ (val_12 _ _ _ _ _ _) (.noptr _ _ _ _)
    · exact plain _ _ (val_13 _ _ _ _ _ _) (.unit _ _ _ _)
end Go.Proofs.YtecdniimikfbhaaGreat

/- Contract of datum's Length. -/
namespace Go.Proofs.YtecdniimikfbhaaGreat
open Go Go.RowKit Go.ChangeShapes Go.WideShapes

theorem ts_1 (v : Value) (w : World) : (Instr.typeAssert (.iface 148 v) 20 194 true).run Tryz.prog w = .ok (.tuple #[.nilIface, .bool false]) w := run_typeAssert_lacksB Tryz.underlying194 (by kernel_rfl) (by kernel_rfl) v _ w
theorem ts_2 (v : Value) (w : World) : (Instr.typeAssert (.iface 149 v) 20 194 true).run Tryz.prog w = .ok (.tuple #[.nilIface, .bool false]) w := run_typeAssert_lacksB Tryz.underlying194 (by kernel_rfl) (by kernel_rfl) v _ w
theorem ts_3 (v : Value) (w : World) : (Instr.typeAssert (.iface 91 v) 20 194 true).run Tryz.prog w = .ok (.tuple #[.nilIface, .bool false]) w := run_typeAssert_lacksB Tryz.underlying194 (by kernel_rfl) (by kernel_rfl) v _ w
theorem ts_4 (v : Value) (w : World) : (Instr.typeAssert (.iface 151 v) 20 194 true).run Tryz.prog w = .ok (.tuple #[.iface 151 v, .bool true]) w := by kernel_rfl
theorem ts_5 (v : Value) (w : World) : (Instr.typeAssert (.iface 152 v) 20 194 true).run Tryz.prog w = .ok (.tuple #[.iface 152 v, .bool true]) w := by kernel_rfl
theorem ts_6 (v : Value) (w : World) : (Instr.typeAssert (.iface 153 v) 20 194 true).run Tryz.prog w = .ok (.tuple #[.nilIface, .bool false]) w := run_typeAssert_lacksB Tryz.underlying194 (by kernel_rfl) (by kernel_rfl) v _ w
theorem ts_7 (v : Value) (w : World) : (Instr.typeAssert (.iface 154 v) 20 194 true).run Tryz.prog w = .ok (.tuple #[.iface 154 v, .bool true]) w := by kernel_rfl
theorem ts_8 (v : Value) (w : World) : (Instr.typeAssert (.iface 155 v) 20 194 true).run Tryz.prog w = .ok (.tuple #[.iface 155 v, .bool true]) w := by kernel_rfl
theorem ts_9 (v : Value) (w : World) : (Instr.typeAssert (.iface 158 v) 20 194 true).run Tryz.prog w = .ok (.tuple #[.iface 158 v, .bool true]) w := by kernel_rfl
theorem ts_10 (v : Value) (w : World) : (Instr.typeAssert (.iface 160 v) 20 194 true).run Tryz.prog w = .ok (.tuple #[.nilIface, .bool false]) w := run_typeAssert_lacksB Tryz.underlying194 (by kernel_rfl) (by kernel_rfl) v _ w
theorem ts_11 (v : Value) (w : World) : (Instr.typeAssert (.iface 161 v) 20 194 true).run Tryz.prog w = .ok (.tuple #[.iface 161 v, .bool true]) w := by kernel_rfl
theorem ts_13 (v : Value) (w : World) : (Instr.typeAssert (.iface 164 v) 20 194 true).run Tryz.prog w = .ok (.tuple #[.nilIface, .bool false]) w := run_typeAssert_lacksB Tryz.underlying194 (by kernel_rfl) (by kernel_rfl) v _ w
theorem ts_0 (w : World) : (Instr.typeAssert .nilIface 20 194 true).run Tryz.prog w = .ok (.tuple #[.nilIface, .bool false]) w := by kernel_rfl

theorem len_worlds (w : World) (c0 c1 c2 c3 c4 : Value) : ∃ W1, W1 = (w.alloc (.cells #[c0, c1, c2, c3, c4] 26)).alloc (.map #[] 0) ∧ Below w.heap.size w W1 ∧ Hid (W1.heap.size = w.heap.size + 2) ∧ Row W1 w.heap.size #[c0, c1, c2, c3, c4] 26 ∧ BoxesAt W1 (w.heap.size + 1) 0 (.map []) := by
  refine ⟨_, rfl, ((Below.refl _ _).alloc (Nat.le_refl _) _).alloc (by simp) _, Lib.hid (by simp), (Row.new w _ _).old _, ?_⟩
  have h := BoxesAt.made (w.alloc (.cells #[c0, c1, c2, c3, c4] 26))
  simpa using h

/-- A value that has no size. -/
def NoSize (u : Value) : Prop := ∀ w, (Instr.typeAssert u 20 194 true).run Tryz.prog w = .ok (.tuple #[.nilIface, .bool false]) w
set_option maxRecDepth 100000 in
set_option maxHeartbeats 800000 in
theorem length_no {w0 : World} {k m b : Int} {t : ByteArray} {a : Option Addr} {l cap : Nat} {d : D} (hv : Rep w0 (.agg #[.int .i64 k, .int .i64 m, .int .u64 b, .string t, .slice a l cap]) d) (hR : Right d) (hp : d.parts ≤ 4096) (hu : ∀ F u, IV F d u → NoSize u) (w : World) (hb0 : Below w0.heap.size w0 w) :
    Calls Tryz.prog 73 #[.agg #[.int .i64 k, .int .i64 m, .int .u64 b, .string t, .slice a l cap]] w fun x w' => x = .returned (.tuple #[.int .i64 0, .int .i64 12]) ∧ Below w.heap.size w w' := by
  have HV := Lib.hid (fun w M n F hb hw0 hbx hn => value_any hv hR w M n F hb hw0 hbx hn)
  have HB := Lib.hid hb0
  have HP := Lib.hid hp
  have HU := Lib.hid hu
  clear hv hR hp hb0 hu
  obtain ⟨W1, hW1, hb1, hz, hx1, hbx⟩ := len_worlds w (.int .i64 k) (.int .i64 m) (.int .u64 b) (.string t) (.slice a l cap)
  have hmm := @run_makeMap Tryz.prog
  go_enter Tryz.func73, Tryz.ntmps73
  go_wp2_with fail
  rw [← hW1]
  clear hW1
  refine (HV.out W1 (w.heap.size + 1) 0 _ (HB.out.trans (hb1.mono HB.out.size)) (by have := HB.out.size; omega) hbx (by have := HP.out; omega)).mono ?_
  rintro e w2 ⟨u, F1, n1, rfl, hiv, hbx2, hn2, hst⟩
  have hts := HU.out _ _ hiv
  unfold NoSize at hts
  clear hiv
  dsimp only
  go_wp2_with fail
  go_ret2
  exact ⟨rfl, hb1.trans (hst.below.mono (by omega))⟩

/-- A value of a type with a size. -/
structure HasSize (T : TypeId) (f : FuncId) (z : Value) (n : Int) : Prop where
  asserts : ∀ w, (Instr.typeAssert (.iface T z) 20 194 true).run Tryz.prog w = .ok (.tuple #[.iface T z, .bool true]) w
  meth : ∀ w, (method 342 T z "conduit/datum.size").run Tryz.prog w = .ok (f, z) w
  enter : ∀ w, (callFunc f #[z]).run Tryz.prog w = .ok (.enter f #[z]) w
  size : ∀ w, Calls Tryz.prog f #[z] w fun x w' => x = .returned (.int .i64 n) ∧ Below w.heap.size w w'
set_option maxRecDepth 100000 in
set_option maxHeartbeats 800000 in
theorem length_yes {w0 : World} {k m b : Int} {t : ByteArray} {a : Option Addr} {l cap : Nat} {d : D} (hv : Rep w0 (.agg #[.int .i64 k, .int .i64 m, .int .u64 b, .string t, .slice a l cap]) d) (hR : Right d) (hp : d.parts ≤ 4096) (T : TypeId) (f : FuncId) (n : Int) (hu : ∀ F u, IV F d u → ∃ z, u = .iface T z ∧ HasSize T f z n) (w : World) (hb0 : Below w0.heap.size w0 w) :
    Calls Tryz.prog 73 #[.agg #[.int .i64 k, .int .i64 m, .int .u64 b, .string t, .slice a l cap]] w fun x w' => x = .returned (.tuple #[.int .i64 n, .int .i64 0]) ∧ Below w.heap.size w w' := by
  have HV := Lib.hid (fun w M n F hb hw0 hbx hn => value_any hv hR w M n F hb hw0 hbx hn)
  have HB := Lib.hid hb0
  have HP := Lib.hid hp
  have HU := Lib.hid hu
  clear hv hR hp hb0 hu
  obtain ⟨W1, hW1, hb1, hz, hx1, hbx⟩ := len_worlds w (.int .i64 k) (.int .i64 m) (.int .u64 b) (.string t) (.slice a l cap)
  have hmm := @run_makeMap Tryz.prog
  go_enter Tryz.func73, Tryz.ntmps73
  go_wp2_with fail
  rw [← hW1]
  clear hW1
  refine (HV.out W1 (w.heap.size + 1) 0 _ (HB.out.trans (hb1.mono HB.out.size)) (by have := HB.out.size; omega) hbx (by have := HP.out; omega)).mono ?_
  rintro e w2 ⟨u, F1, n1, rfl, hiv, hbx2, hn2, hst⟩
  obtain ⟨z, rfl, hS⟩ := HU.out _ _ hiv
  have hts := hS.asserts
  have hme := hS.meth
  have hen := hS.enter
  have HS := Lib.hid hS.size
  clear hiv hS
  dsimp only
  go_wp2_with ((refine (HS.out _).mono ?_); rintro e w3 ⟨rfl, hb3⟩)
  go_ret2
  exact ⟨rfl, (hb1.trans (hst.below.mono (by omega))).trans (hb3.mono (Nat.le_trans hb1.size hst.below.size))⟩

set_option maxRecDepth 100000 in
theorem size_box (z : Value) (w : World) (o : Option Addr) (hz : z = .pointer o) (n : Int) (hn : n = match o with | none => 0 | some _ => 1) : Calls Tryz.prog 148 #[z] w fun x w' => x = .returned (.int .i64 n) ∧ w = w' := by
  subst hz hn
  cases o with
  | none =>
    go_enter Tryz.func148, Tryz.ntmps148
    go_wp2_with fail
    go_ret
    exact ⟨rfl, rfl⟩
  | some a =>
    go_enter Tryz.func148, Tryz.ntmps148
    go_wp2_with fail
    go_ret
    exact ⟨rfl, rfl⟩
theorem size_text (t : ByteArray) (w : World) : Calls Tryz.prog 138 #[.string t] w fun x w' => x = .returned (.int .i64 t.size) ∧ w = w' := by
  go_enter Tryz.func138, Tryz.ntmps138
  go_wp2_with fail
  go_ret
  exact ⟨rfl, rfl⟩
theorem size_name (t : ByteArray) (w : World) : Calls Tryz.prog 140 #[.string t] w fun x w' => x = .returned (.int .i64 t.size) ∧ w = w' := by
  go_enter Tryz.func140, Tryz.ntmps140
  go_wp2_with fail
  go_ret
  exact ⟨rfl, rfl⟩
theorem size_octets (a : Option Addr) (l c : Nat) (w : World) : Calls Tryz.prog 141 #[.slice a l c] w fun x w' => x = .returned (.int .i64 l) ∧ w = w' := by
  go_enter Tryz.func141, Tryz.ntmps141
  go_wp2_with fail
  go_ret
  exact ⟨rfl, rfl⟩
theorem size_list (a : Option Addr) (l c : Nat) (w : World) : Calls Tryz.prog 142 #[.slice a l c] w fun x w' => x = .returned (.int .i64 l) ∧ w = w' := by
  go_enter Tryz.func142, Tryz.ntmps142
  go_wp2_with fail
  go_ret
  exact ⟨rfl, rfl⟩
theorem size_pair (u v : Value) (w : World) : Calls Tryz.prog 143 #[.agg #[u, v]] w fun x w' => x = .returned (.int .i64 2) ∧ Below w.heap.size w w' := by
  go_enter Tryz.func143, Tryz.ntmps143
  go_wp2_with fail
  go_ret
  exact ⟨rfl, by go_grown⟩

/-- A Datum's size. -/
def lenD (d : D) : Option Int :=
  if d.kind = 4 ∨ d.kind = 5 ∨ d.kind = 7 then some d.text.size
  else if d.kind = 8 then some d.kids.length
  else if d.kind = 9 then some 2
  else if d.kind = 11 then some 1
  else if d.kind = 12 then some 0
  else none
theorem length_some {w0 : World} {k m b : Int} {t : ByteArray} {a : Option Addr} {l cap : Nat} {d : D} (hv : Rep w0 (.agg #[.int .i64 k, .int .i64 m, .int .u64 b, .string t, .slice a l cap]) d) (hR : Right d) (hp : d.parts ≤ 4096) (n : Int) (hn : lenD d = some n) (w : World) (hb0 : Below w0.heap.size w0 w) :
    Calls Tryz.prog 73 #[.agg #[.int .i64 k, .int .i64 m, .int .u64 b, .string t, .slice a l cap]] w fun x w' => x = .returned (.tuple #[.int .i64 n, .int .i64 0]) ∧ Below w.heap.size w w' := by
  have hk : d.kind = 4 ∨ d.kind = 5 ∨ d.kind = 7 ∨ d.kind = 8 ∨ d.kind = 9 ∨ d.kind = 11 ∨ d.kind = 12 := by
    unfold lenD at hn
    by_cases h1 : d.kind = 4 ∨ d.kind = 5 ∨ d.kind = 7
    · omega
    · rw [if_neg h1] at hn
      by_cases h2 : d.kind = 8
      · omega
      · rw [if_neg h2] at hn
        by_cases h3 : d.kind = 9
        · omega
        · rw [if_neg h3] at hn
          by_cases h4 : d.kind = 11
          · omega
          · rw [if_neg h4] at hn
            by_cases h5 : d.kind = 12
            · omega
            · rw [if_neg h5] at hn; cases hn
  rcases hk with h | h | h | h | h | h | h
  · refine length_yes hv hR hp 151 138 n (fun F u hu => ?_) w hb0
    cases hu <;> first | (simp [D.kind] at h; done) | skip
    case text m b t l =>
      have e : n = _ := (Option.some.inj hn).symm
      subst e
      exact ⟨_, rfl, ⟨fun w => ts_4 _ w, fun w => by kernel_rfl, fun w => by kernel_rfl, fun w => (size_text t w).mono fun _ _ h => ⟨h.1, h.2 ▸ Below.refl _ _⟩⟩⟩
  · refine length_yes hv hR hp 152 140 n (fun F u hu => ?_) w hb0
    cases hu <;> first | (simp [D.kind] at h; done) | skip
    case name m b t l =>
      have e : n = _ := (Option.some.inj hn).symm
      subst e
      exact ⟨_, rfl, ⟨fun w => ts_5 _ w, fun w => by kernel_rfl, fun w => by kernel_rfl, fun w => (size_name t w).mono fun _ _ h => ⟨h.1, h.2 ▸ Below.refl _ _⟩⟩⟩
  · refine length_yes hv hR hp 154 141 n (fun F u hu => ?_) w hb0
    cases hu <;> first | (simp [D.kind] at h; done) | skip
    case bytes m b t l a c =>
      have e : n = _ := (Option.some.inj hn).symm
      subst e
      exact ⟨_, rfl, ⟨fun w => ts_7 _ w, fun w => by kernel_rfl, fun w => by kernel_rfl, fun w => (size_octets a t.size c w).mono fun _ _ h => ⟨h.1, h.2 ▸ Below.refl _ _⟩⟩⟩
  · refine length_yes hv hR hp 155 142 n (fun F u hu => ?_) w hb0
    cases hu <;> first | (simp [D.kind] at h; done) | skip
    case list m b t l a c =>
      have e : n = _ := (Option.some.inj hn).symm
      subst e
      exact ⟨_, rfl, ⟨fun w => ts_8 _ w, fun w => by kernel_rfl, fun w => by kernel_rfl, fun w => (size_list a l.length c w).mono fun _ _ h => ⟨h.1, h.2 ▸ Below.refl _ _⟩⟩⟩
  · refine length_yes hv hR hp 158 143 n (fun F u hu => ?_) w hb0
    cases hu <;> first | (simp [D.kind] at h; done) | skip
    case pair m b t x y u v hx hy =>
      have e : n = _ := (Option.some.inj hn).symm
      subst e
      exact ⟨_, rfl, ⟨fun w => ts_9 _ w, fun w => by kernel_rfl, fun w => by kernel_rfl, fun w => size_pair u v w⟩⟩
  · refine length_yes hv hR hp 161 148 n (fun F u hu => ?_) w hb0
    cases hu <;> first | (simp [D.kind] at h; done) | skip
    case ptr m b t l g hg =>
      have e : n = _ := (Option.some.inj hn).symm
      subst e
      exact ⟨_, rfl, ⟨fun w => ts_11 _ w, fun w => by kernel_rfl, fun w => by kernel_rfl, fun w => (size_box _ w _ rfl _ rfl).mono fun _ _ h => ⟨h.1, h.2 ▸ Below.refl _ _⟩⟩⟩
  · refine length_yes hv hR hp 161 148 n (fun F u hu => ?_) w hb0
    cases hu <;> first | (simp [D.kind] at h; done) | skip
    case noptr m b t l =>
      have e : n = _ := (Option.some.inj hn).symm
      subst e
      exact ⟨_, rfl, ⟨fun w => ts_11 _ w, fun w => by kernel_rfl, fun w => by kernel_rfl, fun w => (size_box _ w _ rfl _ rfl).mono fun _ _ h => ⟨h.1, h.2 ▸ Below.refl _ _⟩⟩⟩
theorem length_none {w0 : World} {k m b : Int} {t : ByteArray} {a : Option Addr} {l cap : Nat} {d : D} (hv : Rep w0 (.agg #[.int .i64 k, .int .i64 m, .int .u64 b, .string t, .slice a l cap]) d) (hR : Right d) (hp : d.parts ≤ 4096) (hn : lenD d = none) (w : World) (hb0 : Below w0.heap.size w0 w) :
    Calls Tryz.prog 73 #[.agg #[.int .i64 k, .int .i64 m, .int .u64 b, .string t, .slice a l cap]] w fun x w' => x = .returned (.tuple #[.int .i64 0, .int .i64 12]) ∧ Below w.heap.size w w' := by
  refine length_no hv hR hp (fun F u hu w => ?_) w hb0
  cases hu with
  | nil m b t l => exact ts_0 w
  | int m b t l => exact ts_1 _ w
  | key m b t l => exact ts_2 _ w
  | float m b t l => exact ts_3 _ w
  | text m b t l => cases hn
  | name m b t l => cases hn
  | bool m b t l => exact ts_6 _ w
  | bytes m b t l a c => cases hn
  | list m b t l a c => cases hn
  | pair m b t x y u v hx hy => cases hn
  | err m b t l => exact ts_10 _ w
  | ptr m b t l g hg => cases hn
  | noptr m b t l => cases hn
  | unit m b t l => exact ts_13 _ w
end Go.Proofs.YtecdniimikfbhaaGreat
