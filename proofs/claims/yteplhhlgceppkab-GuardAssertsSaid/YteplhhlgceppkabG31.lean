/- Contract of boxes.values, from value's. -/
import Derived.Test.YteplhhlgceppkabG30
namespace Go.Proofs.Yteplhhlgceppkab
open Go Go.RowKit Go.ChangeShapes Go.WideShapes

theorem info20 : (Try.prog.info? 20).map (fun i => (i.zero, i.size, i.bytes)) = some (some .nilIface, 1, 16) := by kernel_rfl

theorem owns1_keep {w w1 : World} {B n : Nat} {v : Value} {xs : List Value} (h : w.ownsRow B 20 1 v n xs) (hb : ∀ b, v.ownBlock = some b → w1.heap[b]? = w.heap[b]?) : w1.ownsRow B 20 1 v n xs := by
  obtain ⟨h1, h2⟩ := h
  refine ⟨h1, ?_⟩
  rcases h2 with h2 | ⟨g, cap, cur, rfl, hg, hh, r⟩
  · exact Or.inl h2
  · exact Or.inr ⟨g, cap, cur, rfl, hg, (hb g rfl).trans hh, r⟩

/-- The state of the loop in values. -/
structure ValuesAt (w wr : World) (M n : Nat) (F : DataW Unit) (kids : List D) (j n1 : Nat) (F1 : DataW Unit) (v : Value) (xs : List Value) : Prop where
  owns : wr.ownsRow w.heap.size 20 1 v j xs
  apart : ∀ m b, boxOf F1 m = some b → v.ownBlock ≠ some b
  boxes : BoxesAt wr M n1 F1
  few : n1 ≤ n + D.partsL (kids.take j)
  step : VStep M w.heap.size w wr F F1

theorem ValuesAt.owns4 {w wr w4 : World} {M n j n1 : Nat} {F F1 F2 : DataW Unit} {kids : List D} {v : Value} {xs : List Value} {o1 : Obj}
    (h : ValuesAt w wr M n F kids j n1 F1 v xs) (hM : M < w.heap.size) (hst : VStep M (wr.alloc o1).heap.size (wr.alloc o1) w4 F1 F2) : w4.ownsRow w.heap.size 20 1 v j xs :=
  owns1_keep h.owns fun b hb => by
    obtain ⟨h1, h2⟩ := World.ownsRow.lt h.owns b hb
    rw [hst.frame b (by simp; omega) (by omega) (fun m hm => h.apart m b hm hb), heap_alloc_old wr o1 h2]
/-- Behind a round. -/
theorem ValuesAt.behind {w wr w4 w5 : World} {M n j n1 n2 g5 cap5 : Nat} {F F1 F2 : DataW Unit} {kids : List D} {v u : Value} {xs : List Value} {x : D} {o1 o2 : Obj}
    (h : ValuesAt w wr M n F kids j n1 F1 v xs) (hM : M < w.heap.size) (hx : kids[j]? = some x) (hbx : BoxesAt w4 M n2 F2) (hn2 : n2 ≤ n1 + x.parts) (hst : VStep M (wr.alloc o1).heap.size (wr.alloc o1) w4 F1 F2)
    (hown : w5.ownsRow w.heap.size 20 1 (.slice (some ⟨g5, 0, none⟩) (j + 1) cap5) (j + 1) (xs ++ [u])) (hgr : (w4.alloc o2).grownBy w5 v.ownBlock) (hat : v.ownBlock = some g5 ∨ g5 = (w4.alloc o2).heap.size) :
    ValuesAt w w5 M n F kids (j + 1) n2 F2 (.slice (some ⟨g5, 0, none⟩) (j + 1) cap5) (xs ++ [u]) := by
  have hz1 : (wr.alloc o1).heap.size = wr.heap.size + 1 := by simp
  have hz2 : (w4.alloc o2).heap.size = w4.heap.size + 1 := by simp
  have hz4 := hst.below.size
  have hzr := h.step.below.size
  have hap : ∀ m b, boxOf F2 m = some b → v.ownBlock ≠ some b := fun m b hm e => by
    rcases hst.new m b hm with h1 | h1
    · exact h.apart m b h1 e
    · have := (World.ownsRow.lt h.owns b e).2
      omega
  have hne : ∀ b, v.ownBlock = some b → w.heap.size ≤ b ∧ b < wr.heap.size := World.ownsRow.lt h.owns
  refine ⟨hown, fun m b hm e => ?_, ?_, ?_, ?_⟩
  · have e' : g5 = b := Option.some.inj e
    have hlt := hbx.blt hm
    rcases hat with h1 | h1
    · exact hap m b hm (by rw [h1, e'])
    · omega
  · refine hbx.keep ?_ (fun m b hm => ?_)
    · rw [hgr.block M (by have := hbx.lt; omega) (fun e => by have := (hne M e.symm).1; omega), heap_alloc_old w4 o2 hbx.lt]
    · rw [hgr.block b (by have := hbx.blt hm; omega) (fun e => hap m b hm e.symm), heap_alloc_old w4 o2 (hbx.blt hm)]
  · rw [D.partsL_take hx]
    have := h.few
    omega
  · have s1 : VStep M w.heap.size wr (wr.alloc o1) F1 F1 := VStep.of_below ((Below.refl _ _).alloc hzr _) (by omega)
    have s2 : VStep M w.heap.size w4 (w4.alloc o2) F2 F2 := VStep.of_below ((Below.refl _ _).alloc (by omega) _) (by omega)
    have s3 : VStep M w.heap.size (w4.alloc o2) w5 F2 F2 := VStep.of_below (Below.grown (Below.refl _ _) hgr (by omega) (fun r hr => (hne r hr).1)) (by omega)
    exact (((h.step.trans s1 (Nat.le_refl _)).trans (hst.mono (B := w.heap.size) (by omega)) (Nat.le_refl _)).trans s2 (Nat.le_refl _)).trans s3 (Nat.le_refl _)

set_option maxRecDepth 100000 in
set_option maxHeartbeats 1600000 in
theorem values_of {w0 : World} {kids : List D} {a : Option Addr} {cap g o : Nat} {c : Nat → Nat → Value} (ha : 0 < kids.length → a = some ⟨g, o, none⟩ ∧ g < w0.heap.size ∧ kids.length ≤ cap ∧ cap ≤ 9223372036854775807) (hc : Row5 w0 g o kids.length c)
    (hk : ∀ i x, kids[i]? = some x → Rep w0 (five c i) x) (HK : ∀ i x, kids[i]? = some x → ValueSays w0 (five c i) x) (w : World) (M n : Nat) (F : DataW Unit) (hb : Below w0.heap.size w0 w) (hw0 : w0.heap.size ≤ M) (hbx : BoxesAt w M n F) (hn : n + D.partsL kids ≤ 1000000) :
    Calls Try.prog 62 #[.map (some M), .slice a kids.length cap] w fun x w' => ∃ a' c' F1 n1, x = .returned (.slice a' kids.length c') ∧ BoxesAt w' M n1 F1 ∧ n1 ≤ n + D.partsL kids ∧ VStep M w.heap.size w w' F F1 := by
  obtain ⟨i0, hi, hz0, hz1, hz2⟩ := info_parts info20
  have HI := Lib.hid HK
  have HR := Lib.hid hk
  have HA := Lib.hid ha
  have HC := Lib.hid hc
  have hlen : kids.length ≤ 1000000 := by have := D.length_le_partsL kids; omega
  have hMlt : M < w.heap.size := hbx.lt
  have HV := Lib.hid (show ValuesAt w w M n F kids 0 n F (.slice none 0 0) [] from ⟨World.ownsRow_nil _ _ _ _, fun m b hm e => (by cases e), hbx, by omega, VStep.of_below (Below.refl _ _) (by omega)⟩)
  have HN := Lib.hid hn
  have hB := Lib.hid hb
  clear HK hk ha hc hbx hn hb
  go_enter Try.func62, Try.ntmps62
  go_wp2_with fail
  go_loopw [5, 10] (fun v i wr => ∃ (j n1 : Nat) (F1 : DataW Unit) (a1 : Option Addr) (c1 : Nat) (xs : List Value), j ≤ kids.length ∧ i = .int .i64 j ∧ v = .slice a1 j c1 ∧ Hid (ValuesAt w wr M n F kids j n1 F1 (.slice a1 j c1) xs)) (fun _ i _ => kids.length - (intOf i).toNat)
  case atStart => exact ⟨0, n, F, none, 0, [], by omega, rfl, rfl, HV⟩
  case round =>
    obtain ⟨j, n1, F1, a1, c1, xs, hj, rfl, rfl, HVr⟩ := hrel
    clear HV
    by_cases hlt : j < kids.length
    · obtain ⟨rfl, hg, hcp, hcm⟩ := HA.out (by omega)
      have hB1 : Below w0.heap.size w0 wr := hB.out.trans (HVr.out.step.below.mono hw0)
      obtain ⟨q0, q1, q2, q3, q4⟩ := (HC.out.below hg hB1) j hlt
      have hx : kids[j]? = some kids[j] := List.getElem?_eq_getElem hlt
      have HX := Lib.hid (HI.out j _ hx)
      have HXX := Lib.hid hx
      have hnj : n1 + kids[j].parts ≤ 1000000 := by
        have h1 := HVr.out.few
        have h2 := D.partsL_take hx
        have h3 : D.partsL (kids.take (j + 1)) ≤ D.partsL kids := by
          have h4 := D.partsL_append (kids.take (j + 1)) (kids.drop (j + 1))
          rw [List.take_append_drop] at h4
          omega
        have := HN.out
        omega
      have HNJ := Lib.hid hnj
      clear hx hnj
      obtain ⟨k2, m2, b2, t2, a3, cap3, g3, o3, c3, kids3, e5, e6, hw3, _⟩ := (HR.out j _ HXX.out).inv
      obtain ⟨f0, f1, f2, f3, f4⟩ := five_inv e5
      rw [f0] at q0
      rw [f1] at q1
      rw [f2] at q2
      rw [f3] at q3
      rw [f4] at q4
      rw [e5] at HX
      generalize kids3.length = n3 at *
      clear e6 f0 f1 f2 f3 f4 e5 hw3
      generalize kids[j] = x at *
      have HB1 := Lib.hid hB1
      clear hB1
      have hj1 : j + 1 ≤ maxLen := by unfold maxLen; omega
      have hj2 : (j + 1) * 16 ≤ 140737488355328 := by omega
      go_wp2_with fail
      refine (HX.out _ M n1 F1 (HB1.out.alloc HB1.out.size _) hw0 (HVr.out.boxes.later (by go_grown)) HNJ.out).mono ?_
      rintro e w4 ⟨u, F2, n2, rfl, hiv, hbx4, hn2, hst⟩
      have hown4 := HVr.out.owns4 hMlt hst
      have hzz : w.heap.size ≤ w4.heap.size := (by have h1 := hst.below.size; have h2 := HVr.out.step.below.size; simp at h1; omega)
      have hbase : ∀ ob, w.heap.size ≤ (w4.alloc ob).heap.size := (fun ob => by simp; omega)
      have HIV := Lib.hid hiv
      have HBX := Lib.hid hbx4
      have HST := Lib.hid hst
      have HN2 := Lib.hid hn2
      have hform := hiv.form
      clear hiv hbx4 hst hn2
      rcases hform with rfl | ⟨T, z, rfl⟩
      all_goals
        dsimp only
        go_wp2_with (at_builtin; refine wpList_append_lies _ (by rfl) (.tmp 14) (.tmp 18) 122 (by rfl) w.heap.size 20 i0 .nilIface 1 16 Try.underlying122 hi hz0 hz1 hz2 (by rfl) (by decide) _ _ _ (by rfl) (World.ownsRow.alloc hown4 _) ⟨w4.heap.size, 0, none⟩ 1 1 [_] (by rfl) (by rfl) (World.news_of_block (heap_alloc_new w4 _)) (by simp; rfl) (by decide) hj1 hj2 (hbase _) _ (by rfl) ?_; intro g5 cap5 w5 hown5 hgrow hat hlt5)
        go_roundw
        case rel => exact ⟨j + 1, n2, F2, _, cap5, _, by omega, by go_num, rfl, HVr.out.behind hMlt HXX.out HBX.out HN2.out HST.out hown5 hgrow hat⟩
        case measure => simp [intOf]; omega
    · obtain rfl : j = kids.length := by omega
      go_wp2_with fail
      refine bodyPost_ret (results_tmp rfl _ _ _) rfl ⟨_, _, F1, n1, rfl, HVr.out.boxes, ?_, HVr.out.step⟩
      have := HVr.out.few
      rwa [List.take_length] at this
end Go.Proofs.Yteplhhlgceppkab
