/- Contracts of boxes.value, of lists and of boxes. -/
import Derived.Test.YteplhhlgceppkabG32
namespace Go.Proofs.Yteplhhlgceppkab
open Go Go.RowKit Go.ChangeShapes Go.WideShapes

set_option maxRecDepth 100000 in
set_option maxHeartbeats 800000 in
theorem val_8 (m b : Int) (t : ByteArray) {w0 : World} {kids : List D} {a : Option Addr} {cap g o : Nat} {c : Nat → Nat → Value} (ha : 0 < kids.length → a = some ⟨g, o, none⟩ ∧ g < w0.heap.size ∧ kids.length ≤ cap ∧ cap ≤ 9223372036854775807) (hc : Row5 w0 g o kids.length c)
    (hk : ∀ i x, kids[i]? = some x → Rep w0 (five c i) x) (HK : ∀ i x, kids[i]? = some x → ValueSays w0 (five c i) x) (w : World) (M n : Nat) (F : DataW Unit) (hb : Below w0.heap.size w0 w) (hw0 : w0.heap.size ≤ M) (hbx : BoxesAt w M n F) (hn : n + D.partsL kids ≤ 1000000) :
    Calls Try.prog 50 #[.map (some M), .agg #[.int .i64 8, .int .i64 m, .int .u64 b, .string t, .slice a kids.length cap]] w fun x w' => ∃ a' c' F1 n1, x = .returned (.iface 123 (.slice a' kids.length c')) ∧ BoxesAt w' M n1 F1 ∧ n1 ≤ n + D.partsL kids ∧ VStep M w.heap.size w w' F F1 := by
  have HV := Lib.hid (fun w hb hbx => values_of ha hc hk HK w M n F hb hw0 hbx hn)
  have HB := Lib.hid hb
  have HX := Lib.hid hbx
  clear ha hc hk HK hb hbx hn
  go_enter Try.func50, Try.ntmps50
  go_wp2_with (go_at_call 62; refine (HV.out _ (HB.out.alloc HB.out.size _) (HX.out.later (by go_grown))).mono ?_; rintro e w2 ⟨a', c', F1, n1, rfl, hbx2, hn2, hst⟩)
  exact bodyPost_ret (results_tmp rfl _ _ _) rfl ⟨_, _, F1, n1, rfl, hbx2, hn2, (VStep.of_below (by go_grown) (Nat.le_of_lt HX.out.lt)).trans hst (by simp)⟩

theorem BoxesAt.setBox {w : World} {M n : Nat} {F : DataW Unit} (h : BoxesAt w M n F) {m : Int} {b : Nat} (hm : boxOf F m = some b) (u : Value) : BoxesAt (w.setCell ⟨b, 1, none⟩ u) M n F := by
  obtain ⟨hMb, x, hx⟩ := h.2 m b hm
  refine ⟨ownsMap_block h.1 (heap_setCell_other _ _ _ _ (by simp; omega)), fun m' b' hm' => ?_⟩
  obtain ⟨h1, y, hy⟩ := h.2 m' b' hm'
  refine ⟨h1, ?_⟩
  by_cases e : b' = b
  · subst e
    exact ⟨u, hy.set 1 u⟩
  · exact ⟨y, hy.other 1 u e⟩
theorem VStep.setBox {M B : Nat} {w w1 : World} {F F1 : DataW Unit} (h : VStep M B w w1 F F1) {m : Int} {b n : Nat} (hb : BoxesAt w1 M n F1) (hm : boxOf F1 m = some b) (u : Value) : VStep M B w (w1.setCell ⟨b, 1, none⟩ u) F F1 := by
  have hMb := (hb.2 m b hm).1
  refine ⟨h.below.setCell (p := ⟨b, 1, none⟩) (by simp; omega) _, fun i hi hM hF => ?_, h.ext, h.new⟩
  have hne : i ≠ b := fun e => by
    subst e
    rcases h.new m i hm with h1 | h1
    · exact hF m h1
    · omega
  exact (heap_setCell_other _ _ _ _ (by simpa using hne)).trans (h.frame i hi hM hF)

theorem key_ok {m : Int} (h : (Lit.int .i64 m).wf = true) : keyOf Try.prog 2 (.int .i64 m) = some (.int .i64 m) := Maps.keyOf_int_mk Try.underlying2 h
theorem law_key : Maps.Keyed Try.prog 2 := Maps.int_keyed Try.underlying2
theorem zero_ptr (w : World) : (zeroValue 129).run Try.prog w = .ok (.pointer none) w := by kernel_rfl

/-- The look-up of a box. -/
theorem look_box {w : World} {M n : Nat} {F : DataW Unit} (h : BoxesAt w M n F) {m : Int} (hm : (Lit.int .i64 m).wf = true) :
    (boxOf F m = none ∧ (Instr.lookup 98 (.map (some M)) (.int .i64 m) false).run Try.prog w = .ok (.pointer none) w) ∨ ∃ g, boxOf F m = some g ∧ (Instr.lookup 98 (.map (some M)) (.int .i64 m) false).run Try.prog w = .ok (.pointer (some ⟨g, 0, none⟩)) w := by
  obtain ⟨v, ps, hrun, hv⟩ := h.1.lookup law_key Try.underlying98 (zero_ptr w) (show ptrElem (.pointer none) = some (.lit (.int .i64 0), []) from rfl) (key_ok hm)
  rcases ptrElem_inv hv with ⟨rfl, e⟩ | ⟨b, rfl, e⟩
  · exact Or.inl ⟨boxOf_none e, hrun⟩
  · exact Or.inr ⟨b, boxOf_some e, hrun⟩

/-- The store of a new box. -/
theorem store_box {w : World} {M n : Nat} {F : DataW Unit} (h : BoxesAt w M n F) {m : Int} (hm : (Lit.int .i64 m).wf = true) (hno : boxOf F m = none) (hn : n < 9223372036854775807) {g : Nat} {x : Value} (hg : Row w g #[.int .i64 m, x] 131) (hMg : M < g) :
    ∃ w', (Instr.mapUpdate 98 (.map (some M)) (.int .i64 m) (.pointer (some ⟨g, 0, none⟩))).run Try.prog w = .ok () w' ∧ BoxesAt w' M (n + 1) (F.put (.int .i64 m) (.lit (.int .i64 (g + 1)))) ∧ boxOf (F.put (.int .i64 m) (.lit (.int .i64 (g + 1)))) m = some g ∧
      ∀ B w0, VStep M B w0 w F F → B ≤ g → VStep M B w0 w' F (F.put (.int .i64 m) (.lit (.int .i64 (g + 1)))) := by
  obtain ⟨w', hrun, hown, hgr⟩ := h.1.update law_key Try.underlying98 (by unfold maxLen; omega) (key_ok hm) (show ptrElem (.pointer (some ⟨g, 0, none⟩)) = some (.lit (.int .i64 (g + 1)), []) from rfl)
  have hF := h.1.isMap
  have hsame := boxOf_put_same hF m g
  have hold : ∀ b, b < w.heap.size → b ≠ M → w'.heap[b]? = w.heap[b]? := fun b hb hne => hgr.block b hb (fun e => hne (Option.some.inj e))
  refine ⟨w', hrun, ⟨hown, fun m' b hm' => ?_⟩, hsame, fun B w0 hs hB => ?_⟩
  · by_cases e : m' = m
    · subst e
      rw [hsame] at hm'
      cases hm'
      exact ⟨hMg, x, hg.keep (hold g hg.lt (by omega))⟩
    · rw [boxOf_put_other e] at hm'
      obtain ⟨h1, y, hy⟩ := h.2 m' b hm'
      exact ⟨h1, y, hy.keep (hold b hy.lt (by omega))⟩
  · refine ⟨hs.below.trans (Below.grown (Below.refl _ _) hgr (Nat.le_of_lt h.lt) (fun r hr => by cases hr; exact Nat.le_refl _)), fun b hb hM hFb => ?_, fun m' b hm' => ?_, fun m' b hm' => ?_⟩
    · refine (?_ : w'.heap[b]? = w.heap[b]?).trans (hs.frame b hb hM hFb)
      exact hold b (by have := hg.lt; omega) hM
    · rw [boxOf_put_other (fun e => by rw [e, hno] at hm'; cases hm')]
      exact hm'
    · by_cases e : m' = m
      · subst e
        rw [hsame] at hm'
        cases hm'
        exact Or.inr hB
      · rw [boxOf_put_other e] at hm'
        exact Or.inl hm'
end Go.Proofs.Yteplhhlgceppkab
