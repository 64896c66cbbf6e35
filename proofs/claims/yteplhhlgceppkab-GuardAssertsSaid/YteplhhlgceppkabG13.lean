/- Contracts of want's Must. -/
import Derived.Test.YteplhhlgceppkabG12
import Derived.Deep.RegionWith
import Derived.Test.YteplhhlgceppkabFr
namespace Go.Proofs.Yteplhhlgceppkab
open Go Go.RowKit Go.ChangeShapes Go.WideShapes

/-- A block known whole. -/
def Row (w : World) (b : Nat) (cs : Array Value) (T : TypeId) : Prop := w.heap[b]? = some (.cells cs T (0, 0))
theorem Row.cell {w : World} {b : Nat} {cs : Array Value} {T : TypeId} (h : Row w b cs T) (j : Nat) {v : Value} (hj : cs[j]? = some v) : w.cell? ⟨b, j, none⟩ = some v := by
  rw [cell_of_row w b _ _ _ _ h]; exact hj
theorem Row.thaw {w : World} {b : Nat} {cs : Array Value} {T : TypeId} (h : Row w b cs T) : ∀ j, w.frozen? ⟨b, j, none⟩ = false := fun j => by
  unfold World.frozen?
  have h' : w.heap[b]? = some (.cells cs T (0, 0)) := h
  simp only [h']
  simp
theorem Row.lt {w : World} {b : Nat} {cs : Array Value} {T : TypeId} (h : Row w b cs T) : b < w.heap.size := (Array.getElem?_eq_some_iff.1 h).1
theorem Row.keep {w w1 : World} {b : Nat} {cs : Array Value} {T : TypeId} (h : Row w b cs T) (hb : w1.heap[b]? = w.heap[b]?) : Row w1 b cs T := hb.trans h
theorem Row.new (w : World) (cs : Array Value) (T : TypeId) : Row (w.alloc (.cells cs T (0, 0))) w.heap.size cs T := heap_alloc_new w _
theorem Row.old {w : World} {b : Nat} {cs : Array Value} {T : TypeId} (h : Row w b cs T) (o : Obj) : Row (w.alloc o) b cs T := h.keep (heap_alloc_old w o h.lt)
theorem Row.later {w w1 : World} {b : Nat} {cs : Array Value} {T : TypeId} (h : Row w b cs T) (hb : Below w.heap.size w w1) : Row w1 b cs T := h.keep (hb.block b h.lt)

theorem Row.set {w : World} {b : Nat} {cs : Array Value} {T : TypeId} (h : Row w b cs T) (j : Nat) (x : Value) : Row (w.setCell ⟨b, j, none⟩ x) b (cs.setIfInBounds j x) T := heap_setCell_same w b j _ _ x h
theorem Row.other {w : World} {b : Nat} {cs : Array Value} {T : TypeId} (h : Row w b cs T) {g : Nat} (j : Nat) (x : Value) (hg : b ≠ g) : Row (w.setCell ⟨g, j, none⟩ x) b cs T := h.keep (heap_setCell_other _ _ _ _ hg)

theorem hmf : ∀ (fn : Fn) (first cap : Array Value) (w : World), (Instr.makeFunc fn first cap).run Try.prog w = .ok (.func fn first cap) w := fun _ _ _ _ => rfl

set_option maxHeartbeats 800000 in
theorem bigmust_no (k : Nat) (hk : k ≤ 13) (n : Int) (h : isB k n = false) (m b t sl : Value) (w : World) :
    Calls Try.prog 45 #[.agg #[.int .i64 k, m, b, t, sl], .int .i64 n] w fun x w' =>
      x = .returned (.tuple #[.agg #[.int .i64 0, .int .i64 0, .int .u64 0, .string ⟨#[]⟩, .slice none 0 0], .agg #[.int .i64 k, .int .i64 (-1)], .int .i64 20]) ∧ Below w.heap.size w w' := by
  have HS := Lib.hid (fun w => sample_v k hk w)
  have HM := Lib.hid (fun (v : Value) (hv : SampV k v) w => must_no k hk n v hv h m b t sl w)
  have hmf := hmf
  clear h
  obtain ⟨W1, hW1⟩ : ∃ W1, W1 = (((w.alloc (.cells #[.int .i64 k, m, b, t, sl] 25)).alloc (.cells #[.int .i64 0, .int .i64 0, .int .u64 0, .string ⟨#[]⟩, .slice none 0 0] 25)).alloc (.cells #[.int .i64 0, .int .i64 0] 84)).alloc (.cells #[.int .i64 0] 31) := ⟨_, rfl⟩
  have hb1 : Below w.heap.size w W1 := by rw [hW1]; go_grown
  have hz1 : Hid (W1.heap.size = w.heap.size + 4) := Lib.hid (by rw [hW1]; simp)
  have hx1 : Row W1 w.heap.size #[.int .i64 k, m, b, t, sl] 25 := by rw [hW1]; exact (((Row.new _ _ _).old _).old _).old _
  have hx2 : Row W1 (w.heap.size + 1) #[.int .i64 0, .int .i64 0, .int .u64 0, .string ⟨#[]⟩, .slice none 0 0] 25 := by
    rw [hW1]; exact ((show Row _ (w.heap.size + 1) _ _ by have h := Row.new (w.alloc (.cells #[.int .i64 k, m, b, t, sl] 25)); simp at h; exact h _ _).old _).old _
  have hx3 : Row W1 (w.heap.size + 2) #[.int .i64 0, .int .i64 0] 84 := by
    rw [hW1]; exact (show Row _ (w.heap.size + 2) _ _ by have h := Row.new ((w.alloc (.cells #[.int .i64 k, m, b, t, sl] 25)).alloc (.cells #[.int .i64 0, .int .i64 0, .int .u64 0, .string ⟨#[]⟩, .slice none 0 0] 25)); simp at h; exact h _ _).old _
  have hx4 : Row W1 (w.heap.size + 3) #[.int .i64 0] 31 := by
    rw [hW1]; have h := Row.new (((w.alloc (.cells #[.int .i64 k, m, b, t, sl] 25)).alloc (.cells #[.int .i64 0, .int .i64 0, .int .u64 0, .string ⟨#[]⟩, .slice none 0 0] 25)).alloc (.cells #[.int .i64 0, .int .i64 0] 84)); simp at h; exact h _ _
  go_enter_defers Try.func45, Try.ntmps45
  go_upto_region 2 with fail
  rw [← hW1]
  clear hW1
  have p0 : W1.cell? ⟨w.heap.size, 0, none⟩ = some (.int .i64 k) := hx1.cell 0 rfl
  have p1 : W1.cell? ⟨w.heap.size, 1, none⟩ = some m := hx1.cell 1 rfl
  have p2 : W1.cell? ⟨w.heap.size, 2, none⟩ = some b := hx1.cell 2 rfl
  have p3 : W1.cell? ⟨w.heap.size, 3, none⟩ = some t := hx1.cell 3 rfl
  have p4 : W1.cell? ⟨w.heap.size, 4, none⟩ = some sl := hx1.cell 4 rfl
  refine Fr.wp_region_frame (Fr.Held [(4, .pointer (some ⟨w.heap.size + 1, 0, none⟩)), (5, .pointer (some ⟨w.heap.size + 2, 0, none⟩)), (6, .pointer (some ⟨w.heap.size + 3, 0, none⟩))] _)
    (fun c W => c = [{ v := .iface 104 (.agg #[.int .i64 k, .int .i64 (-1)]), recovered := false }] ∧ Below W1.heap.size W1 W) (by kernel_rfl) (Fr.Held.puts (by kernel_rfl)) (by kernel_rfl) ?_ ⟨rfl, by simp⟩ ?_
  · rintro c a W ⟨hd, hs⟩ ⟨rfl, hbW⟩
    have hlt : W1.heap.size ≤ W.heap.size := hbW.size
    have hzo := hz1.out
    have y2 := hx2.later hbW
    have y3 := hx3.later hbW
    have y4 := hx4.later hbW
    have t4 : a.tmps[4]? = some (.pointer (some ⟨w.heap.size + 1, 0, none⟩)) := hs (4, _) (by simp)
    have t5 : a.tmps[5]? = some (.pointer (some ⟨w.heap.size + 2, 0, none⟩)) := hs (5, _) (by simp)
    have t6 : a.tmps[6]? = some (.pointer (some ⟨w.heap.size + 3, 0, none⟩)) := hs (6, _) (by simp)
    show Leaves Try.prog Try.f45 a.tmps _ a.defers _ _
    rw [hd]
    refine leaves_cons (f := 53) (args := #[.pointer (some ⟨w.heap.size + 2, 0, none⟩), .pointer (some ⟨w.heap.size + 3, 0, none⟩)]) (by simp) (by simp [go_sem]) ?_
    refine (must1_panicking (w.heap.size + 2) (w.heap.size + 3) k [] W (y3.cell 0 rfl) (y3.cell 1 rfl) (y4.cell 0 rfl) (y3.thaw 0) (y3.thaw 1) (y4.thaw 0) (by omega) (by omega)).mono ?_
    rintro e u W' ⟨rfl, rfl, rfl⟩
    have z2 := (((y2.old (.cells #[.int .i64 k, .int .i64 (-1)] 104 (0, 0))).other 0 (.int .i64 k) (show w.heap.size + 1 ≠ w.heap.size + 2 by omega)).other 1 (.int .i64 (-1)) (show w.heap.size + 1 ≠ w.heap.size + 2 by omega)).other 0 (.int .i64 20) (show w.heap.size + 1 ≠ w.heap.size + 3 by omega)
    have z3 := (((y3.old (.cells #[.int .i64 k, .int .i64 (-1)] 104 (0, 0))).set 0 (.int .i64 k)).set 1 (.int .i64 (-1))).other 0 (.int .i64 20) (show w.heap.size + 2 ≠ w.heap.size + 3 by omega)
    have z4 := (((y4.old (.cells #[.int .i64 k, .int .i64 (-1)] 104 (0, 0))).other 0 (.int .i64 k) (show w.heap.size + 3 ≠ w.heap.size + 2 by omega)).other 1 (.int .i64 (-1)) (show w.heap.size + 3 ≠ w.heap.size + 2 by omega)).set 0 (.int .i64 20)
    have zb : Below w.heap.size w ((((W.alloc (.cells #[.int .i64 k, .int .i64 (-1)] 104 (0, 0))).setCell ⟨w.heap.size + 2, 0, none⟩ (.int .i64 k)).setCell ⟨w.heap.size + 2, 1, none⟩ (.int .i64 (-1))).setCell ⟨w.heap.size + 3, 0, none⟩ (.int .i64 20)) :=
      ((((hb1.trans (hbW.mono (by omega))).alloc (by omega) _).setCell (p := ⟨w.heap.size + 2, 0, none⟩) (by simp) _).setCell (p := ⟨w.heap.size + 2, 1, none⟩) (by simp) _).setCell (p := ⟨w.heap.size + 3, 0, none⟩) (by simp) _
    generalize (((W.alloc (.cells #[.int .i64 k, .int .i64 (-1)] 104 (0, 0))).setCell ⟨w.heap.size + 2, 0, none⟩ (.int .i64 k)).setCell ⟨w.heap.size + 2, 1, none⟩ (.int .i64 (-1))).setCell ⟨w.heap.size + 3, 0, none⟩ (.int .i64 20) = Wf at *
    refine ⟨_, ?_, rfl, zb⟩
    have a0 : Wf.cell? ⟨w.heap.size + 1, 0, none⟩ = some (.int .i64 0) := z2.cell 0 rfl
    have a1 : Wf.cell? ⟨w.heap.size + 1, 1, none⟩ = some (.int .i64 0) := z2.cell 1 rfl
    have a2 : Wf.cell? ⟨w.heap.size + 1, 2, none⟩ = some (.int .u64 0) := z2.cell 2 rfl
    have a3 : Wf.cell? ⟨w.heap.size + 1, 3, none⟩ = some (.string ⟨#[]⟩) := z2.cell 3 rfl
    have a4 : Wf.cell? ⟨w.heap.size + 1, 4, none⟩ = some (.slice none 0 0) := z2.cell 4 rfl
    have b0 : Wf.cell? ⟨w.heap.size + 2, 0, none⟩ = some (.int .i64 k) := z3.cell 0 rfl
    have b1 : Wf.cell? ⟨w.heap.size + 2, 1, none⟩ = some (.int .i64 (-1)) := z3.cell 1 rfl
    have c4 : Wf.cell? ⟨w.heap.size + 3, 0, none⟩ = some (.int .i64 20) := z4.cell 0 rfl
    simp [results, Try.results45, t4, t5, t6, asAddr, a0, a1, a2, a3, a4, b0, b1, c4, go_sem]
  refine wpAny_take (i := 0) (v := ?_) rfl (by kernel_rfl) (by kernel_rfl) (by kernel_rfl) (fun _ _ _ h => h) (Or.inl ⟨by rfl, ?_⟩) ?_
  rotate_left
  · intro w; go_simp
    try with_reducible rfl
  refine wpAny_take (i := 4) (v := ?_) rfl (by kernel_rfl) (by kernel_rfl) (by kernel_rfl) (fun _ _ _ h => h) (Or.inl ⟨by rfl, ?_⟩) ?_
  rotate_left
  · intro w; go_simp
    try with_reducible rfl
  refine wpAny_take (i := 6) (v := ?_) rfl (by kernel_rfl) (by kernel_rfl) (by kernel_rfl) (fun _ _ _ h => h) (Or.inl ⟨by rfl, ?_⟩) ?_
  rotate_left
  · intro w; go_simp
    try with_reducible rfl
  refine wpAny_ready (rs := [1, 3]) (by kernel_rfl) (by simp) ?_
  refine AllReady.cons rfl (fun K hK => ?_) ?_
  · go_simp
    refine hK _ _ ?_
    clear hK K
    refine wpAny_ready (rs := [2, 3]) (by kernel_rfl) (by simp) ?_
    refine AllReady.cons rfl (fun K hK => ?_) ?_
    · go_simp
      go_at_call 55
      refine (HS.out _).mono ?_
      rintro x w2 ⟨v, rfl, hv, hb2⟩
      have hb2' : Below W1.heap.size W1 w2 := Below.trans (by go_grown) hb2
      have q0 : w2.cell? ⟨w.heap.size, 0, none⟩ = some (.int .i64 k) := (hx1.later hb2').cell 0 rfl
      have q1 : w2.cell? ⟨w.heap.size, 1, none⟩ = some m := (hx1.later hb2').cell 1 rfl
      have q2 : w2.cell? ⟨w.heap.size, 2, none⟩ = some b := (hx1.later hb2').cell 2 rfl
      have q3 : w2.cell? ⟨w.heap.size, 3, none⟩ = some t := (hx1.later hb2').cell 3 rfl
      have q4 : w2.cell? ⟨w.heap.size, 4, none⟩ = some sl := (hx1.later hb2').cell 4 rfl
      dsimp only
      refine hK _ _ ?_
      clear hK K
      refine wpAny_ready (rs := [3]) (by kernel_rfl) (by simp) ?_
      refine AllReady.cons rfl (fun K hK => ?_) ?_
      · go_simp
        refine hK _ _ ?_
        clear hK K
        refine wpAny_ready (rs := [5]) (by kernel_rfl) (by simp) ?_
        refine AllReady.cons rfl (fun K hK => ?_) ?_
        · go_simp
          go_at_call 54
          refine (HM.out _ hv _).mono ?_
          rintro x w3 ⟨rfl, hb3⟩
          exact ⟨rfl, hb2'.trans (hb3.mono hb2'.size)⟩
        exact AllReady.nil
      exact AllReady.nil
    refine AllReady.cons rfl (fun K hK => ?_) ?_
    · go_simp
      refine hK _ _ ?_
      clear hK K
      refine wpAny_ready (rs := [2]) (by kernel_rfl) (by simp) ?_
      refine AllReady.cons rfl (fun K hK => ?_) ?_
      · go_simp
        go_at_call 55
        refine (HS.out _).mono ?_
        rintro x w2 ⟨v, rfl, hv, hb2⟩
        have hb2' : Below W1.heap.size W1 w2 := Below.trans (by go_grown) hb2
        have q0 : w2.cell? ⟨w.heap.size, 0, none⟩ = some (.int .i64 k) := (hx1.later hb2').cell 0 rfl
        have q1 : w2.cell? ⟨w.heap.size, 1, none⟩ = some m := (hx1.later hb2').cell 1 rfl
        have q2 : w2.cell? ⟨w.heap.size, 2, none⟩ = some b := (hx1.later hb2').cell 2 rfl
        have q3 : w2.cell? ⟨w.heap.size, 3, none⟩ = some t := (hx1.later hb2').cell 3 rfl
        have q4 : w2.cell? ⟨w.heap.size, 4, none⟩ = some sl := (hx1.later hb2').cell 4 rfl
        dsimp only
        refine hK _ _ ?_
        clear hK K
        refine wpAny_ready (rs := [5]) (by kernel_rfl) (by simp) ?_
        refine AllReady.cons rfl (fun K hK => ?_) ?_
        · go_simp
          go_at_call 54
          refine (HM.out _ hv _).mono ?_
          rintro x w3 ⟨rfl, hb3⟩
          exact ⟨rfl, hb2'.trans (hb3.mono hb2'.size)⟩
        exact AllReady.nil
      exact AllReady.nil
    exact AllReady.nil
  refine AllReady.cons rfl (fun K hK => ?_) ?_
  · go_simp
    refine hK _ _ ?_
    clear hK K
    refine wpAny_ready (rs := [1]) (by kernel_rfl) (by simp) ?_
    refine AllReady.cons rfl (fun K hK => ?_) ?_
    · go_simp
      refine hK _ _ ?_
      clear hK K
      refine wpAny_ready (rs := [2]) (by kernel_rfl) (by simp) ?_
      refine AllReady.cons rfl (fun K hK => ?_) ?_
      · go_simp
        go_at_call 55
        refine (HS.out _).mono ?_
        rintro x w2 ⟨v, rfl, hv, hb2⟩
        have hb2' : Below W1.heap.size W1 w2 := Below.trans (by go_grown) hb2
        have q0 : w2.cell? ⟨w.heap.size, 0, none⟩ = some (.int .i64 k) := (hx1.later hb2').cell 0 rfl
        have q1 : w2.cell? ⟨w.heap.size, 1, none⟩ = some m := (hx1.later hb2').cell 1 rfl
        have q2 : w2.cell? ⟨w.heap.size, 2, none⟩ = some b := (hx1.later hb2').cell 2 rfl
        have q3 : w2.cell? ⟨w.heap.size, 3, none⟩ = some t := (hx1.later hb2').cell 3 rfl
        have q4 : w2.cell? ⟨w.heap.size, 4, none⟩ = some sl := (hx1.later hb2').cell 4 rfl
        dsimp only
        refine hK _ _ ?_
        clear hK K
        refine wpAny_ready (rs := [5]) (by kernel_rfl) (by simp) ?_
        refine AllReady.cons rfl (fun K hK => ?_) ?_
        · go_simp
          go_at_call 54
          refine (HM.out _ hv _).mono ?_
          rintro x w3 ⟨rfl, hb3⟩
          exact ⟨rfl, hb2'.trans (hb3.mono hb2'.size)⟩
        exact AllReady.nil
      exact AllReady.nil
    exact AllReady.nil
  exact AllReady.nil
end Go.Proofs.Yteplhhlgceppkab
