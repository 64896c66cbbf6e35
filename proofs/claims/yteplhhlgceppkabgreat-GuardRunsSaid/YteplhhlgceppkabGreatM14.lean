/- Guard: contracts, joined texts (G54, G58, G65, G73). -/
import Derived.Test.YteplhhlgceppkabGreatM04
import Derived.Test.YteplhhlgceppkabGreatM09
import Derived.Test.YteplhhlgceppkabGreatM10
import Derived.Test.YteplhhlgceppkabGreatM11
import Derived.Test.YteplhhlgceppkabGreatM12
import Derived.Test.YteplhhlgceppkabGreatM13

/- Contracts of datum's Equal. -/
namespace Go.Proofs.YteplhhlgceppkabGreat
open Go Go.RowKit Go.ChangeShapes Go.WideShapes

theorem equal1_panicking (g4 g5 : Nat) (T : TypeId) (v x y : Value) (hne : g4 ≠ g5) (older : List PanicEntry) (w : World) (hx : Row w g4 #[x] 4) (hy : Row w g5 #[y] 38) :
    CallsD Tryz.prog 61 #[.pointer (some ⟨g4, 0, none⟩), .pointer (some ⟨g5, 0, none⟩)] (.panicking ({ v := .iface T v, recovered := false } :: older)) w fun e u' w' =>
      e = .returned (.tuple #[]) ∧ u' = .panicking ({ v := .iface T v, recovered := true } :: older) ∧ w' = (w.setCell ⟨g4, 0, none⟩ (.bool false)).setCell ⟨g5, 0, none⟩ (.int .i64 10) := by
  refine callsD_of_wpS Tryz.func61 rfl fun c₀ cs hu => ?_
  have p0 : w.cell? ⟨g4, 0, none⟩ = some x := hx.cell 0 rfl
  have f0 := hx.thaw 0
  have p1 : w.cell? ⟨g5, 0, none⟩ = some y := hy.cell 0 rfl
  have f1 := hy.thaw 0
  have e1 : g5 ≠ g4 := hne.symm
  have hq := eq_nil2 T v
  simp only [Tryz.ntmps61, List.size_toArray, List.length_cons, List.length_nil, Nat.reduceAdd, Nat.reduceSub, Array.replicate_succ, Array.replicate_zero, List.push_toArray, List.append_toArray, List.nil_append, List.cons_append]
  apply wpS_seq
  apply wpS_region
  simp [wpOpsS, go_sem, recoverD, hu, Exit.thenS]
  refine wpS_of_wp ?_
  go_wp2_with fail
  exact ⟨rfl, _, rfl, .tuple #[], results_none rfl _ _ _, rfl, rfl, rfl⟩
theorem equal1_idle (p q : Value) (w : World) :
    CallsD Tryz.prog 61 #[p, q] .returning w fun e u' w' => e = .returned (.tuple #[]) ∧ u' = .returning ∧ w = w' := by
  refine callsD_of_wpS Tryz.func61 rfl fun c₀ cs hu => ?_
  simp only [Tryz.ntmps61, List.size_toArray, List.length_cons, List.length_nil, Nat.reduceAdd, Nat.reduceSub, Array.replicate_succ, Array.replicate_zero, List.push_toArray, List.append_toArray, List.nil_append, List.cons_append]
  apply wpS_seq
  apply wpS_region
  simp [wpOpsS, go_sem, recoverD, hu, Exit.thenS]
  refine wpS_of_wp ?_
  go_wp2_with fail
  cases c₀
  cases hu
  exact ⟨rfl, _, rfl, .tuple #[], results_none rfl _ _ _, rfl, rfl, rfl⟩

theorem equal_worlds (w : World) (c0 c1 c2 c3 c4 e0 e1 e2 e3 e4 : Value) : ∃ W1, W1 = ((((w.alloc (.cells #[c0, c1, c2, c3, c4] 26)).alloc (.cells #[e0, e1, e2, e3, e4] 26)).alloc (.cells #[.bool false] 4)).alloc (.cells #[.int .i64 0] 38)).alloc (.map #[] 0) ∧ Below w.heap.size w W1 ∧ Hid (W1.heap.size = w.heap.size + 5) ∧ Row W1 w.heap.size #[c0, c1, c2, c3, c4] 26 ∧ Row W1 (w.heap.size + 1) #[e0, e1, e2, e3, e4] 26 ∧ Row W1 (w.heap.size + 2) #[.bool false] 4 ∧ Row W1 (w.heap.size + 3) #[.int .i64 0] 38 ∧ BoxesAt W1 (w.heap.size + 4) 0 (.map []) := by
  refine ⟨_, rfl, ?_, Lib.hid (by simp), ((((Row.new w _ _).old _).old _).old _).old _, ?_, ?_, ?_, ?_⟩
  · exact (((((Below.refl _ _).alloc (Nat.le_refl _) _).alloc (by simp) _).alloc (by simp; omega) _).alloc (by simp; omega) _).alloc (by simp; omega) _
  · refine Row.old (Row.old (Row.old ?_ _) _) _
    have h := Row.new (w.alloc (.cells #[c0, c1, c2, c3, c4] 26)) #[e0, e1, e2, e3, e4] 26
    simpa using h
  · refine Row.old (Row.old ?_ _) _
    have h := Row.new ((w.alloc (.cells #[c0, c1, c2, c3, c4] 26)).alloc (.cells #[e0, e1, e2, e3, e4] 26)) #[.bool false] 4
    simpa using h
  · refine Row.old ?_ _
    have h := Row.new (((w.alloc (.cells #[c0, c1, c2, c3, c4] 26)).alloc (.cells #[e0, e1, e2, e3, e4] 26)).alloc (.cells #[.bool false] 4)) #[.int .i64 0] 38
    simpa using h
  · have h := BoxesAt.made ((((w.alloc (.cells #[c0, c1, c2, c3, c4] 26)).alloc (.cells #[e0, e1, e2, e3, e4] 26)).alloc (.cells #[.bool false] 4)).alloc (.cells #[.int .i64 0] 38))
    simpa using h

set_option maxRecDepth 100000 in
set_option maxHeartbeats 3200000 in
theorem bigequal_some {w0 : World} {k m b : Int} {t : ByteArray} {a : Option Addr} {l cap : Nat} {d : D} (hv : Rep w0 (.agg #[.int .i64 k, .int .i64 m, .int .u64 b, .string t, .slice a l cap]) d) (hR : Right d) (hp : d.parts ≤ 4096) {k' m' b' : Int} {t' : ByteArray} {a' : Option Addr} {l' cap' : Nat} {d' : D} (hv' : Rep w0 (.agg #[.int .i64 k', .int .i64 m', .int .u64 b', .string t', .slice a' l' cap']) d') (hR' : Right d') (hp' : d'.parts ≤ 4096) (r : Bool) (h : eqD d d' = some r) (w : World) (hb0 : Below w0.heap.size w0 w) :
    Calls Tryz.prog 48 #[(.agg #[.int .i64 k, .int .i64 m, .int .u64 b, .string t, .slice a l cap]), (.agg #[.int .i64 k', .int .i64 m', .int .u64 b', .string t', .slice a' l' cap'])] w fun x w' => x = .returned (.tuple #[.bool r, .int .i64 0]) ∧ Below w.heap.size w w' := by
  have Hh := Lib.hid h
  clear h
  have HV := Lib.hid (fun w M n F hb hw0 hbx hn => value_any hv hR w M n F hb hw0 hbx hn)
  have HV' := Lib.hid (fun w M n F hb hw0 hbx hn => value_any hv' hR' w M n F hb hw0 hbx hn)
  have HE := Lib.hid (fun (F : DataW Unit) (u u' : Value) (hu : IV F d u) (hu' : IV F d' u') w M n hbx => equal_any hu hu' hR hR' w M n hbx)
  have HB := Lib.hid hb0
  have HP := Lib.hid hp
  have HP' := Lib.hid hp'
  have hmf := hmf
  have hmm := @run_makeMap Tryz.prog
  clear hv hR hp hv' hR' hp' hb0
  obtain ⟨W1, hW1, hb1, hz, hx1, hx2, hx3, hx4, hbx⟩ := equal_worlds w (.int .i64 k) (.int .i64 m) (.int .u64 b) (.string t) (.slice a l cap) (.int .i64 k') (.int .i64 m') (.int .u64 b') (.string t') (.slice a' l' cap')
  have hbs : ∀ g, ∀ m, boxOf (DataW.map [] : DataW Unit) m ≠ some g := fun g m h => by
    have : boxOf (DataW.map [] : DataW Unit) m = none := rfl
    rw [this] at h
    cases h
  go_enter_defers Tryz.func48, Tryz.ntmps48
  go_upto_region 3 with fail
  rw [← hW1]
  clear hW1
  have hdr : Below W1.heap.size W1 W1.drew := by go_grown
  have p0 : W1.cell? ⟨w.heap.size, 0, none⟩ = some (.int .i64 k) := hx1.cell 0 rfl
  have p1 : W1.cell? ⟨w.heap.size, 1, none⟩ = some (.int .i64 m) := hx1.cell 1 rfl
  have p2 : W1.cell? ⟨w.heap.size, 2, none⟩ = some (.int .u64 b) := hx1.cell 2 rfl
  have p3 : W1.cell? ⟨w.heap.size, 3, none⟩ = some (.string t) := hx1.cell 3 rfl
  have p4 : W1.cell? ⟨w.heap.size, 4, none⟩ = some (.slice a l cap) := hx1.cell 4 rfl
  have q0 : W1.cell? ⟨w.heap.size + 1, 0, none⟩ = some (.int .i64 k') := hx2.cell 0 rfl
  have q1 : W1.cell? ⟨w.heap.size + 1, 1, none⟩ = some (.int .i64 m') := hx2.cell 1 rfl
  have q2 : W1.cell? ⟨w.heap.size + 1, 2, none⟩ = some (.int .u64 b') := hx2.cell 2 rfl
  have q3 : W1.cell? ⟨w.heap.size + 1, 3, none⟩ = some (.string t') := hx2.cell 3 rfl
  have q4 : W1.cell? ⟨w.heap.size + 1, 4, none⟩ = some (.slice a' l' cap') := hx2.cell 4 rfl
  refine Fr.wp_region_frame (Fr.Held [(4, .pointer (some ⟨w.heap.size + 2, 0, none⟩)), (5, .pointer (some ⟨w.heap.size + 3, 0, none⟩))] _) (fun _ _ => False) (by kernel_rfl) (Fr.Held.puts (by kernel_rfl)) (by kernel_rfl) ?_ ⟨rfl, by simp⟩ ?_
  · intro c a W _ hf
    exact hf.elim
  refine wpAny_take (i := 0) (v := ?_) rfl (by kernel_rfl) (by kernel_rfl) (by kernel_rfl) (fun _ _ _ h => h) (Or.inl ⟨by rfl, ?_⟩) ?_
  rotate_left
  · intro w; go_simp
    try with_reducible rfl
  refine wpAny_take (i := 3) (v := ?_) rfl (by kernel_rfl) (by kernel_rfl) (by kernel_rfl) (fun _ _ _ h => h) (Or.inl ⟨by rfl, ?_⟩) ?_
  rotate_left
  · intro w; go_simp
    try with_reducible rfl
  refine wpAny_ready (rs := [1, 4]) (by kernel_rfl) (by simp) ?_
  refine AllReady.cons rfl (fun K hK => ?_) ?_
  · go_simp
    refine hK _ _ ?_
    clear hK K
    refine wpAny_ready (rs := [2, 4]) (by kernel_rfl) (by simp) ?_
    refine AllReady.cons rfl (fun K hK => ?_) ?_
    · go_simp
      go_at_call 50
      refine (HV.out W1.drew (w.heap.size + 4) 0 _ (HB.out.trans ((hb1.trans (hdr.mono hb1.size)).mono HB.out.size)) (by have := HB.out.size; omega) (hbx.later hdr) (by have := HP.out; omega)).mono ?_
      rintro e w2 ⟨u, F1, n1, rfl, hiv, hbx2, hn2, hst⟩
      have hst' := (VStep.of_below (F := (.map [] : DataW Unit)) hdr (Nat.le_of_lt hbx.lt)).trans hst hdr.size
      have hy2 := hst'.row hx2 (by have := hz.out; omega) (by omega) (hbs _)
      have r0 : w2.cell? ⟨w.heap.size + 1, 0, none⟩ = some (.int .i64 k') := hy2.cell 0 rfl
      have r1 : w2.cell? ⟨w.heap.size + 1, 1, none⟩ = some (.int .i64 m') := hy2.cell 1 rfl
      have r2 : w2.cell? ⟨w.heap.size + 1, 2, none⟩ = some (.int .u64 b') := hy2.cell 2 rfl
      have r3 : w2.cell? ⟨w.heap.size + 1, 3, none⟩ = some (.string t') := hy2.cell 3 rfl
      have r4 : w2.cell? ⟨w.heap.size + 1, 4, none⟩ = some (.slice a' l' cap') := hy2.cell 4 rfl
      clear hy2
      dsimp only
      refine hK _ _ ?_
      clear hK K
      refine wpAny_ready (rs := [4]) (by kernel_rfl) (by simp) ?_
      refine AllReady.cons rfl (fun K hK => ?_) ?_
      · go_simp
        refine hK _ _ ?_
        clear hK K
        refine wpAny_ready (rs := [5]) (by kernel_rfl) (by simp) ?_
        refine AllReady.cons rfl (fun K hK => ?_) ?_
        · go_simp
          go_at_call 50
          refine (HV'.out w2 (w.heap.size + 4) _ _ (HB.out.trans ((hb1.trans (hst'.below.mono (by omega))).mono HB.out.size)) (by have := HB.out.size; omega) hbx2 (by have := HP.out; have := HP'.out; omega)).mono ?_
          rintro e w3 ⟨u', F2, n2, rfl, hiv', hbx3, hn3, hst2⟩
          have hst3 := hst'.trans hst2 (Nat.le_trans hdr.size hst.below.size)
          have hu := hiv.ext hst2.ext
          clear hiv
          dsimp only
          refine hK _ _ ?_
          clear hK K
          refine wpAny_ready (rs := [6]) (by kernel_rfl) (by simp) ?_
          refine AllReady.cons rfl (fun K hK => ?_) ?_
          · go_simp
            go_at_call 62
            refine (HE.out _ _ _ hu hiv' w3 _ _ hbx3).mono ?_
            rintro e w4 ⟨he, hb4⟩
            rw [Hh.out] at he
            have hst4 : VStep (w.heap.size + 4) W1.heap.size W1 w4 (.map []) F2 := hst3.trans (VStep.of_below hb4 (Nat.le_of_lt hbx3.lt)) (Nat.le_trans hdr.size (Nat.le_trans hst.below.size hst2.below.size))
            have hy3 := hst4.row hx3 (by have := hz.out; omega) (by omega) (hbs _)
            have hy4 := hst4.row hx4 (by have := hz.out; omega) (by omega) (hbs _)
            have hbz : Below w.heap.size w w4 := hb1.trans (hst4.below.mono (by omega))
            obtain rfl := he
            have y0 : w4.cell? ⟨w.heap.size + 2, 0, none⟩ = some (.bool false) := hy3.cell 0 rfl
            have fy := hy3.thaw 0
            have z0 : w4.cell? ⟨w.heap.size + 3, 0, none⟩ = some (.int .i64 0) := hy4.cell 0 rfl
            have fz := hy4.thaw 0
            dsimp only
            refine hK _ _ ?_
            clear hK K
            refine wpAny_ready (rs := [7]) (by kernel_rfl) (by simp) ?_
            refine AllReady.cons rfl (fun K hK => ?_) ?_
            · go_simp
              refine hK _ _ ?_
              clear hK K
              refine wpAny_ready (rs := [8]) (by kernel_rfl) (by simp) ?_
              refine AllReady.cons rfl (fun K hK => ?_) ?_
              · go_simp
                refine hK _ _ ?_
                clear hK K
                refine wpAny_done (by kernel_rfl) ?_ _
                unfold Fr.AtPanic
                dsimp only
                have e1 : w.heap.size + 2 ≠ w.heap.size + 3 := by omega
                have g2 := (hy3.set 0 (.bool r)).other 0 (.int .i64 0) e1
                have g3 := (hy4.other 0 (.bool r) e1.symm).set 0 (.int .i64 0)
                have hbf := (hbz.setCell (p := ⟨w.heap.size + 2, 0, none⟩) (by simp) (.bool r)).setCell (p := ⟨w.heap.size + 3, 0, none⟩) (by simp) (.int .i64 0)
                go_wp2_with fail
                refine leaves_cons (f := 61) (args := #[.pointer (some ⟨w.heap.size + 2, 0, none⟩), .pointer (some ⟨w.heap.size + 3, 0, none⟩)]) (by simp) (by simp [go_sem]) ?_
                refine (equal1_idle _ _ _).mono ?_
                rintro e u' W' ⟨rfl, rfl, rfl⟩
                have a0 := g2.cell 0 rfl
                have b0 := g3.cell 0 rfl
                refine ⟨_, ?_, rfl, hbf⟩
                simp [results, Tryz.results48, asAddr, go_sem] at a0 b0 ⊢
                simp [a0, b0, go_sem]
              exact AllReady.nil
            exact AllReady.nil
          exact AllReady.nil
        exact AllReady.nil
      exact AllReady.nil
    refine AllReady.cons rfl (fun K hK => ?_) ?_
    · go_simp
      refine hK _ _ ?_
      clear hK K
      refine wpAny_ready (rs := [2]) (by kernel_rfl) (by simp) ?_
      refine AllReady.cons rfl (fun K hK => ?_) ?_
      · go_simp
        go_at_call 50
        refine (HV.out W1.drew (w.heap.size + 4) 0 _ (HB.out.trans ((hb1.trans (hdr.mono hb1.size)).mono HB.out.size)) (by have := HB.out.size; omega) (hbx.later hdr) (by have := HP.out; omega)).mono ?_
        rintro e w2 ⟨u, F1, n1, rfl, hiv, hbx2, hn2, hst⟩
        have hst' := (VStep.of_below (F := (.map [] : DataW Unit)) hdr (Nat.le_of_lt hbx.lt)).trans hst hdr.size
        have hy2 := hst'.row hx2 (by have := hz.out; omega) (by omega) (hbs _)
        have r0 : w2.cell? ⟨w.heap.size + 1, 0, none⟩ = some (.int .i64 k') := hy2.cell 0 rfl
        have r1 : w2.cell? ⟨w.heap.size + 1, 1, none⟩ = some (.int .i64 m') := hy2.cell 1 rfl
        have r2 : w2.cell? ⟨w.heap.size + 1, 2, none⟩ = some (.int .u64 b') := hy2.cell 2 rfl
        have r3 : w2.cell? ⟨w.heap.size + 1, 3, none⟩ = some (.string t') := hy2.cell 3 rfl
        have r4 : w2.cell? ⟨w.heap.size + 1, 4, none⟩ = some (.slice a' l' cap') := hy2.cell 4 rfl
        clear hy2
        dsimp only
        refine hK _ _ ?_
        clear hK K
        refine wpAny_ready (rs := [5]) (by kernel_rfl) (by simp) ?_
        refine AllReady.cons rfl (fun K hK => ?_) ?_
        · go_simp
          go_at_call 50
          refine (HV'.out w2 (w.heap.size + 4) _ _ (HB.out.trans ((hb1.trans (hst'.below.mono (by omega))).mono HB.out.size)) (by have := HB.out.size; omega) hbx2 (by have := HP.out; have := HP'.out; omega)).mono ?_
          rintro e w3 ⟨u', F2, n2, rfl, hiv', hbx3, hn3, hst2⟩
          have hst3 := hst'.trans hst2 (Nat.le_trans hdr.size hst.below.size)
          have hu := hiv.ext hst2.ext
          clear hiv
          dsimp only
          refine hK _ _ ?_
          clear hK K
          refine wpAny_ready (rs := [6]) (by kernel_rfl) (by simp) ?_
          refine AllReady.cons rfl (fun K hK => ?_) ?_
          · go_simp
            go_at_call 62
            refine (HE.out _ _ _ hu hiv' w3 _ _ hbx3).mono ?_
            rintro e w4 ⟨he, hb4⟩
            rw [Hh.out] at he
            have hst4 : VStep (w.heap.size + 4) W1.heap.size W1 w4 (.map []) F2 := hst3.trans (VStep.of_below hb4 (Nat.le_of_lt hbx3.lt)) (Nat.le_trans hdr.size (Nat.le_trans hst.below.size hst2.below.size))
            have hy3 := hst4.row hx3 (by have := hz.out; omega) (by omega) (hbs _)
            have hy4 := hst4.row hx4 (by have := hz.out; omega) (by omega) (hbs _)
            have hbz : Below w.heap.size w w4 := hb1.trans (hst4.below.mono (by omega))
            obtain rfl := he
            have y0 : w4.cell? ⟨w.heap.size + 2, 0, none⟩ = some (.bool false) := hy3.cell 0 rfl
            have fy := hy3.thaw 0
            have z0 : w4.cell? ⟨w.heap.size + 3, 0, none⟩ = some (.int .i64 0) := hy4.cell 0 rfl
            have fz := hy4.thaw 0
            dsimp only
            refine hK _ _ ?_
            clear hK K
            refine wpAny_ready (rs := [7]) (by kernel_rfl) (by simp) ?_
            refine AllReady.cons rfl (fun K hK => ?_) ?_
            · go_simp
              refine hK _ _ ?_
              clear hK K
              refine wpAny_ready (rs := [8]) (by kernel_rfl) (by simp) ?_
              refine AllReady.cons rfl (fun K hK => ?_) ?_
              · go_simp
                refine hK _ _ ?_
                clear hK K
                refine wpAny_done (by kernel_rfl) ?_ _
                unfold Fr.AtPanic
                dsimp only
                have e1 : w.heap.size + 2 ≠ w.heap.size + 3 := by omega
                have g2 := (hy3.set 0 (.bool r)).other 0 (.int .i64 0) e1
                have g3 := (hy4.other 0 (.bool r) e1.symm).set 0 (.int .i64 0)
                have hbf := (hbz.setCell (p := ⟨w.heap.size + 2, 0, none⟩) (by simp) (.bool r)).setCell (p := ⟨w.heap.size + 3, 0, none⟩) (by simp) (.int .i64 0)
                go_wp2_with fail
                refine leaves_cons (f := 61) (args := #[.pointer (some ⟨w.heap.size + 2, 0, none⟩), .pointer (some ⟨w.heap.size + 3, 0, none⟩)]) (by simp) (by simp [go_sem]) ?_
                refine (equal1_idle _ _ _).mono ?_
                rintro e u' W' ⟨rfl, rfl, rfl⟩
                have a0 := g2.cell 0 rfl
                have b0 := g3.cell 0 rfl
                refine ⟨_, ?_, rfl, hbf⟩
                simp [results, Tryz.results48, asAddr, go_sem] at a0 b0 ⊢
                simp [a0, b0, go_sem]
              exact AllReady.nil
            exact AllReady.nil
          exact AllReady.nil
        exact AllReady.nil
      exact AllReady.nil
    exact AllReady.nil
  refine AllReady.cons rfl (fun K hK => ?_) ?_
  · go_simp
    refine hK _ _ ?_
    clear hK K
    refine wpAny_ready (rs := [1]) (by kernel_rfl) (by simp) ?_
    refine AllReady.cons rfl (fun K hK => ?_) ?_
    · go_simp
      refine hK _ _ ?_
      clear hK K
      refine wpAny_ready (rs := [2]) (by kernel_rfl) (by simp) ?_
      refine AllReady.cons rfl (fun K hK => ?_) ?_
      · go_simp
        go_at_call 50
        refine (HV.out W1.drew (w.heap.size + 4) 0 _ (HB.out.trans ((hb1.trans (hdr.mono hb1.size)).mono HB.out.size)) (by have := HB.out.size; omega) (hbx.later hdr) (by have := HP.out; omega)).mono ?_
        rintro e w2 ⟨u, F1, n1, rfl, hiv, hbx2, hn2, hst⟩
        have hst' := (VStep.of_below (F := (.map [] : DataW Unit)) hdr (Nat.le_of_lt hbx.lt)).trans hst hdr.size
        have hy2 := hst'.row hx2 (by have := hz.out; omega) (by omega) (hbs _)
        have r0 : w2.cell? ⟨w.heap.size + 1, 0, none⟩ = some (.int .i64 k') := hy2.cell 0 rfl
        have r1 : w2.cell? ⟨w.heap.size + 1, 1, none⟩ = some (.int .i64 m') := hy2.cell 1 rfl
        have r2 : w2.cell? ⟨w.heap.size + 1, 2, none⟩ = some (.int .u64 b') := hy2.cell 2 rfl
        have r3 : w2.cell? ⟨w.heap.size + 1, 3, none⟩ = some (.string t') := hy2.cell 3 rfl
        have r4 : w2.cell? ⟨w.heap.size + 1, 4, none⟩ = some (.slice a' l' cap') := hy2.cell 4 rfl
        clear hy2
        dsimp only
        refine hK _ _ ?_
        clear hK K
        refine wpAny_ready (rs := [5]) (by kernel_rfl) (by simp) ?_
        refine AllReady.cons rfl (fun K hK => ?_) ?_
        · go_simp
          go_at_call 50
          refine (HV'.out w2 (w.heap.size + 4) _ _ (HB.out.trans ((hb1.trans (hst'.below.mono (by omega))).mono HB.out.size)) (by have := HB.out.size; omega) hbx2 (by have := HP.out; have := HP'.out; omega)).mono ?_
          rintro e w3 ⟨u', F2, n2, rfl, hiv', hbx3, hn3, hst2⟩
          have hst3 := hst'.trans hst2 (Nat.le_trans hdr.size hst.below.size)
          have hu := hiv.ext hst2.ext
          clear hiv
          dsimp only
          refine hK _ _ ?_
          clear hK K
          refine wpAny_ready (rs := [6]) (by kernel_rfl) (by simp) ?_
          refine AllReady.cons rfl (fun K hK => ?_) ?_
          · go_simp
            go_at_call 62
            refine (HE.out _ _ _ hu hiv' w3 _ _ hbx3).mono ?_
            rintro e w4 ⟨he, hb4⟩
            rw [Hh.out] at he
            have hst4 : VStep (w.heap.size + 4) W1.heap.size W1 w4 (.map []) F2 := hst3.trans (VStep.of_below hb4 (Nat.le_of_lt hbx3.lt)) (Nat.le_trans hdr.size (Nat.le_trans hst.below.size hst2.below.size))
            have hy3 := hst4.row hx3 (by have := hz.out; omega) (by omega) (hbs _)
            have hy4 := hst4.row hx4 (by have := hz.out; omega) (by omega) (hbs _)
            have hbz : Below w.heap.size w w4 := hb1.trans (hst4.below.mono (by omega))
            obtain rfl := he
            have y0 : w4.cell? ⟨w.heap.size + 2, 0, none⟩ = some (.bool false) := hy3.cell 0 rfl
            have fy := hy3.thaw 0
            have z0 : w4.cell? ⟨w.heap.size + 3, 0, none⟩ = some (.int .i64 0) := hy4.cell 0 rfl
            have fz := hy4.thaw 0
            dsimp only
            refine hK _ _ ?_
            clear hK K
            refine wpAny_ready (rs := [7]) (by kernel_rfl) (by simp) ?_
            refine AllReady.cons rfl (fun K hK => ?_) ?_
            · go_simp
              refine hK _ _ ?_
              clear hK K
              refine wpAny_ready (rs := [8]) (by kernel_rfl) (by simp) ?_
              refine AllReady.cons rfl (fun K hK => ?_) ?_
              · go_simp
                refine hK _ _ ?_
                clear hK K
                refine wpAny_done (by kernel_rfl) ?_ _
                unfold Fr.AtPanic
                dsimp only
                have e1 : w.heap.size + 2 ≠ w.heap.size + 3 := by omega
                have g2 := (hy3.set 0 (.bool r)).other 0 (.int .i64 0) e1
                have g3 := (hy4.other 0 (.bool r) e1.symm).set 0 (.int .i64 0)
                have hbf := (hbz.setCell (p := ⟨w.heap.size + 2, 0, none⟩) (by simp) (.bool r)).setCell (p := ⟨w.heap.size + 3, 0, none⟩) (by simp) (.int .i64 0)
                go_wp2_with fail
                refine leaves_cons (f := 61) (args := #[.pointer (some ⟨w.heap.size + 2, 0, none⟩), .pointer (some ⟨w.heap.size + 3, 0, none⟩)]) (by simp) (by simp [go_sem]) ?_
                refine (equal1_idle _ _ _).mono ?_
                rintro e u' W' ⟨rfl, rfl, rfl⟩
                have a0 := g2.cell 0 rfl
                have b0 := g3.cell 0 rfl
                refine ⟨_, ?_, rfl, hbf⟩
                simp [results, Tryz.results48, asAddr, go_sem] at a0 b0 ⊢
                simp [a0, b0, go_sem]
              exact AllReady.nil
            exact AllReady.nil
          exact AllReady.nil
        exact AllReady.nil
      exact AllReady.nil
    exact AllReady.nil
  exact AllReady.nil

set_option maxRecDepth 100000 in
set_option maxHeartbeats 3200000 in
theorem bigequal_none {w0 : World} {k m b : Int} {t : ByteArray} {a : Option Addr} {l cap : Nat} {d : D} (hv : Rep w0 (.agg #[.int .i64 k, .int .i64 m, .int .u64 b, .string t, .slice a l cap]) d) (hR : Right d) (hp : d.parts ≤ 4096) {k' m' b' : Int} {t' : ByteArray} {a' : Option Addr} {l' cap' : Nat} {d' : D} (hv' : Rep w0 (.agg #[.int .i64 k', .int .i64 m', .int .u64 b', .string t', .slice a' l' cap']) d') (hR' : Right d') (hp' : d'.parts ≤ 4096) (h : eqD d d' = none) (w : World) (hb0 : Below w0.heap.size w0 w) :
    Calls Tryz.prog 48 #[(.agg #[.int .i64 k, .int .i64 m, .int .u64 b, .string t, .slice a l cap]), (.agg #[.int .i64 k', .int .i64 m', .int .u64 b', .string t', .slice a' l' cap'])] w fun x w' => x = .returned (.tuple #[.bool false, .int .i64 10]) ∧ Below w.heap.size w w' := by
  have Hh := Lib.hid h
  clear h
  have HV := Lib.hid (fun w M n F hb hw0 hbx hn => value_any hv hR w M n F hb hw0 hbx hn)
  have HV' := Lib.hid (fun w M n F hb hw0 hbx hn => value_any hv' hR' w M n F hb hw0 hbx hn)
  have HE := Lib.hid (fun (F : DataW Unit) (u u' : Value) (hu : IV F d u) (hu' : IV F d' u') w M n hbx => equal_any hu hu' hR hR' w M n hbx)
  have HB := Lib.hid hb0
  have HP := Lib.hid hp
  have HP' := Lib.hid hp'
  have hmf := hmf
  have hmm := @run_makeMap Tryz.prog
  clear hv hR hp hv' hR' hp' hb0
  obtain ⟨W1, hW1, hb1, hz, hx1, hx2, hx3, hx4, hbx⟩ := equal_worlds w (.int .i64 k) (.int .i64 m) (.int .u64 b) (.string t) (.slice a l cap) (.int .i64 k') (.int .i64 m') (.int .u64 b') (.string t') (.slice a' l' cap')
  have hbs : ∀ g, ∀ m, boxOf (DataW.map [] : DataW Unit) m ≠ some g := fun g m h => by
    have : boxOf (DataW.map [] : DataW Unit) m = none := rfl
    rw [this] at h
    cases h
  go_enter_defers Tryz.func48, Tryz.ntmps48
  go_upto_region 3 with fail
  rw [← hW1]
  clear hW1
  have hdr : Below W1.heap.size W1 W1.drew := by go_grown
  have p0 : W1.cell? ⟨w.heap.size, 0, none⟩ = some (.int .i64 k) := hx1.cell 0 rfl
  have p1 : W1.cell? ⟨w.heap.size, 1, none⟩ = some (.int .i64 m) := hx1.cell 1 rfl
  have p2 : W1.cell? ⟨w.heap.size, 2, none⟩ = some (.int .u64 b) := hx1.cell 2 rfl
  have p3 : W1.cell? ⟨w.heap.size, 3, none⟩ = some (.string t) := hx1.cell 3 rfl
  have p4 : W1.cell? ⟨w.heap.size, 4, none⟩ = some (.slice a l cap) := hx1.cell 4 rfl
  have q0 : W1.cell? ⟨w.heap.size + 1, 0, none⟩ = some (.int .i64 k') := hx2.cell 0 rfl
  have q1 : W1.cell? ⟨w.heap.size + 1, 1, none⟩ = some (.int .i64 m') := hx2.cell 1 rfl
  have q2 : W1.cell? ⟨w.heap.size + 1, 2, none⟩ = some (.int .u64 b') := hx2.cell 2 rfl
  have q3 : W1.cell? ⟨w.heap.size + 1, 3, none⟩ = some (.string t') := hx2.cell 3 rfl
  have q4 : W1.cell? ⟨w.heap.size + 1, 4, none⟩ = some (.slice a' l' cap') := hx2.cell 4 rfl
  refine Fr.wp_region_frame (Fr.Held [(4, .pointer (some ⟨w.heap.size + 2, 0, none⟩)), (5, .pointer (some ⟨w.heap.size + 3, 0, none⟩))] _)
    (fun c W => (∃ T z, c = thrown T z) ∧ Row W (w.heap.size + 2) #[.bool false] 4 ∧ Row W (w.heap.size + 3) #[.int .i64 0] 38 ∧ Below w.heap.size w W) (by kernel_rfl) (Fr.Held.puts (by kernel_rfl)) (by kernel_rfl) ?_ ⟨rfl, by simp⟩ ?_
  · rintro c a W ⟨hd, hs⟩ ⟨⟨T, z, rfl⟩, y3, y4, hbz⟩
    have t4 : a.tmps[4]? = some (.pointer (some ⟨w.heap.size + 2, 0, none⟩)) := hs (4, _) (by simp)
    have t5 : a.tmps[5]? = some (.pointer (some ⟨w.heap.size + 3, 0, none⟩)) := hs (5, _) (by simp)
    show Leaves Tryz.prog Tryz.f48 a.tmps _ a.defers _ _
    rw [hd]
    refine leaves_cons (f := 61) (args := #[.pointer (some ⟨w.heap.size + 2, 0, none⟩), .pointer (some ⟨w.heap.size + 3, 0, none⟩)]) (by simp) (by simp [go_sem]) ?_
    refine (equal1_panicking (w.heap.size + 2) (w.heap.size + 3) T z _ _ (by omega) [] W y3 y4).mono ?_
    rintro e u W' ⟨rfl, rfl, rfl⟩
    have e1 : w.heap.size + 2 ≠ w.heap.size + 3 := by omega
    have a0 := ((y3.set 0 (.bool false)).other 0 (.int .i64 10) e1).cell 0 rfl
    have b0 := ((y4.other 0 (.bool false) e1.symm).set 0 (.int .i64 10)).cell 0 rfl
    refine ⟨_, ?_, rfl, (hbz.setCell (p := ⟨w.heap.size + 2, 0, none⟩) (by simp) (.bool false)).setCell (p := ⟨w.heap.size + 3, 0, none⟩) (by simp) (.int .i64 10)⟩
    simp [results, Tryz.results48, t4, t5, asAddr, a0, b0, go_sem]
  refine wpAny_take (i := 0) (v := ?_) rfl (by kernel_rfl) (by kernel_rfl) (by kernel_rfl) (fun _ _ _ h => h) (Or.inl ⟨by rfl, ?_⟩) ?_
  rotate_left
  · intro w; go_simp
    try with_reducible rfl
  refine wpAny_take (i := 3) (v := ?_) rfl (by kernel_rfl) (by kernel_rfl) (by kernel_rfl) (fun _ _ _ h => h) (Or.inl ⟨by rfl, ?_⟩) ?_
  rotate_left
  · intro w; go_simp
    try with_reducible rfl
  refine wpAny_ready (rs := [1, 4]) (by kernel_rfl) (by simp) ?_
  refine AllReady.cons rfl (fun K hK => ?_) ?_
  · go_simp
    refine hK _ _ ?_
    clear hK K
    refine wpAny_ready (rs := [2, 4]) (by kernel_rfl) (by simp) ?_
    refine AllReady.cons rfl (fun K hK => ?_) ?_
    · go_simp
      go_at_call 50
      refine (HV.out W1.drew (w.heap.size + 4) 0 _ (HB.out.trans ((hb1.trans (hdr.mono hb1.size)).mono HB.out.size)) (by have := HB.out.size; omega) (hbx.later hdr) (by have := HP.out; omega)).mono ?_
      rintro e w2 ⟨u, F1, n1, rfl, hiv, hbx2, hn2, hst⟩
      have hst' := (VStep.of_below (F := (.map [] : DataW Unit)) hdr (Nat.le_of_lt hbx.lt)).trans hst hdr.size
      have hy2 := hst'.row hx2 (by have := hz.out; omega) (by omega) (hbs _)
      have r0 : w2.cell? ⟨w.heap.size + 1, 0, none⟩ = some (.int .i64 k') := hy2.cell 0 rfl
      have r1 : w2.cell? ⟨w.heap.size + 1, 1, none⟩ = some (.int .i64 m') := hy2.cell 1 rfl
      have r2 : w2.cell? ⟨w.heap.size + 1, 2, none⟩ = some (.int .u64 b') := hy2.cell 2 rfl
      have r3 : w2.cell? ⟨w.heap.size + 1, 3, none⟩ = some (.string t') := hy2.cell 3 rfl
      have r4 : w2.cell? ⟨w.heap.size + 1, 4, none⟩ = some (.slice a' l' cap') := hy2.cell 4 rfl
      clear hy2
      dsimp only
      refine hK _ _ ?_
      clear hK K
      refine wpAny_ready (rs := [4]) (by kernel_rfl) (by simp) ?_
      refine AllReady.cons rfl (fun K hK => ?_) ?_
      · go_simp
        refine hK _ _ ?_
        clear hK K
        refine wpAny_ready (rs := [5]) (by kernel_rfl) (by simp) ?_
        refine AllReady.cons rfl (fun K hK => ?_) ?_
        · go_simp
          go_at_call 50
          refine (HV'.out w2 (w.heap.size + 4) _ _ (HB.out.trans ((hb1.trans (hst'.below.mono (by omega))).mono HB.out.size)) (by have := HB.out.size; omega) hbx2 (by have := HP.out; have := HP'.out; omega)).mono ?_
          rintro e w3 ⟨u', F2, n2, rfl, hiv', hbx3, hn3, hst2⟩
          have hst3 := hst'.trans hst2 (Nat.le_trans hdr.size hst.below.size)
          have hu := hiv.ext hst2.ext
          clear hiv
          dsimp only
          refine hK _ _ ?_
          clear hK K
          refine wpAny_ready (rs := [6]) (by kernel_rfl) (by simp) ?_
          refine AllReady.cons rfl (fun K hK => ?_) ?_
          · go_simp
            go_at_call 62
            refine (HE.out _ _ _ hu hiv' w3 _ _ hbx3).mono ?_
            rintro e w4 ⟨he, hb4⟩
            rw [Hh.out] at he
            have hst4 : VStep (w.heap.size + 4) W1.heap.size W1 w4 (.map []) F2 := hst3.trans (VStep.of_below hb4 (Nat.le_of_lt hbx3.lt)) (Nat.le_trans hdr.size (Nat.le_trans hst.below.size hst2.below.size))
            have hy3 := hst4.row hx3 (by have := hz.out; omega) (by omega) (hbs _)
            have hy4 := hst4.row hx4 (by have := hz.out; omega) (by omega) (hbs _)
            have hbz : Below w.heap.size w w4 := hb1.trans (hst4.below.mono (by omega))
            obtain ⟨T, z, rfl⟩ := he
            exact ⟨⟨T, z, rfl⟩, hy3, hy4, hbz⟩
          exact AllReady.nil
        exact AllReady.nil
      exact AllReady.nil
    refine AllReady.cons rfl (fun K hK => ?_) ?_
    · go_simp
      refine hK _ _ ?_
      clear hK K
      refine wpAny_ready (rs := [2]) (by kernel_rfl) (by simp) ?_
      refine AllReady.cons rfl (fun K hK => ?_) ?_
      · go_simp
        go_at_call 50
        refine (HV.out W1.drew (w.heap.size + 4) 0 _ (HB.out.trans ((hb1.trans (hdr.mono hb1.size)).mono HB.out.size)) (by have := HB.out.size; omega) (hbx.later hdr) (by have := HP.out; omega)).mono ?_
        rintro e w2 ⟨u, F1, n1, rfl, hiv, hbx2, hn2, hst⟩
        have hst' := (VStep.of_below (F := (.map [] : DataW Unit)) hdr (Nat.le_of_lt hbx.lt)).trans hst hdr.size
        have hy2 := hst'.row hx2 (by have := hz.out; omega) (by omega) (hbs _)
        have r0 : w2.cell? ⟨w.heap.size + 1, 0, none⟩ = some (.int .i64 k') := hy2.cell 0 rfl
        have r1 : w2.cell? ⟨w.heap.size + 1, 1, none⟩ = some (.int .i64 m') := hy2.cell 1 rfl
        have r2 : w2.cell? ⟨w.heap.size + 1, 2, none⟩ = some (.int .u64 b') := hy2.cell 2 rfl
        have r3 : w2.cell? ⟨w.heap.size + 1, 3, none⟩ = some (.string t') := hy2.cell 3 rfl
        have r4 : w2.cell? ⟨w.heap.size + 1, 4, none⟩ = some (.slice a' l' cap') := hy2.cell 4 rfl
        clear hy2
        dsimp only
        refine hK _ _ ?_
        clear hK K
        refine wpAny_ready (rs := [5]) (by kernel_rfl) (by simp) ?_
        refine AllReady.cons rfl (fun K hK => ?_) ?_
        · go_simp
          go_at_call 50
          refine (HV'.out w2 (w.heap.size + 4) _ _ (HB.out.trans ((hb1.trans (hst'.below.mono (by omega))).mono HB.out.size)) (by have := HB.out.size; omega) hbx2 (by have := HP.out; have := HP'.out; omega)).mono ?_
          rintro e w3 ⟨u', F2, n2, rfl, hiv', hbx3, hn3, hst2⟩
          have hst3 := hst'.trans hst2 (Nat.le_trans hdr.size hst.below.size)
          have hu := hiv.ext hst2.ext
          clear hiv
          dsimp only
          refine hK _ _ ?_
          clear hK K
          refine wpAny_ready (rs := [6]) (by kernel_rfl) (by simp) ?_
          refine AllReady.cons rfl (fun K hK => ?_) ?_
          · go_simp
            go_at_call 62
            refine (HE.out _ _ _ hu hiv' w3 _ _ hbx3).mono ?_
            rintro e w4 ⟨he, hb4⟩
            rw [Hh.out] at he
            have hst4 : VStep (w.heap.size + 4) W1.heap.size W1 w4 (.map []) F2 := hst3.trans (VStep.of_below hb4 (Nat.le_of_lt hbx3.lt)) (Nat.le_trans hdr.size (Nat.le_trans hst.below.size hst2.below.size))
            have hy3 := hst4.row hx3 (by have := hz.out; omega) (by omega) (hbs _)
            have hy4 := hst4.row hx4 (by have := hz.out; omega) (by omega) (hbs _)
            have hbz : Below w.heap.size w w4 := hb1.trans (hst4.below.mono (by omega))
            obtain ⟨T, z, rfl⟩ := he
            exact ⟨⟨T, z, rfl⟩, hy3, hy4, hbz⟩
          exact AllReady.nil
        exact AllReady.nil
      exact AllReady.nil
    exact AllReady.nil
  refine AllReady.cons rfl (fun K hK => ?_) ?_
  · go_simp
    refine hK _ _ ?_
    clear hK K
    refine wpAny_ready (rs := [1]) (by kernel_rfl) (by simp) ?_
    refine AllReady.cons rfl (fun K hK => ?_) ?_
    · go_simp
      refine hK _ _ ?_
      clear hK K
      refine wpAny_ready (rs := [2]) (by kernel_rfl) (by simp) ?_
      refine AllReady.cons rfl (fun K hK => ?_) ?_
      · go_simp
        go_at_call 50
        refine (HV.out W1.drew (w.heap.size + 4) 0 _ (HB.out.trans ((hb1.trans (hdr.mono hb1.size)).mono HB.out.size)) (by have := HB.out.size; omega) (hbx.later hdr) (by have := HP.out; omega)).mono ?_
        rintro e w2 ⟨u, F1, n1, rfl, hiv, hbx2, hn2, hst⟩
        have hst' := (VStep.of_below (F := (.map [] : DataW Unit)) hdr (Nat.le_of_lt hbx.lt)).trans hst hdr.size
        have hy2 := hst'.row hx2 (by have := hz.out; omega) (by omega) (hbs _)
        have r0 : w2.cell? ⟨w.heap.size + 1, 0, none⟩ = some (.int .i64 k') := hy2.cell 0 rfl
        have r1 : w2.cell? ⟨w.heap.size + 1, 1, none⟩ = some (.int .i64 m') := hy2.cell 1 rfl
        have r2 : w2.cell? ⟨w.heap.size + 1, 2, none⟩ = some (.int .u64 b') := hy2.cell 2 rfl
        have r3 : w2.cell? ⟨w.heap.size + 1, 3, none⟩ = some (.string t') := hy2.cell 3 rfl
        have r4 : w2.cell? ⟨w.heap.size + 1, 4, none⟩ = some (.slice a' l' cap') := hy2.cell 4 rfl
        clear hy2
        dsimp only
        refine hK _ _ ?_
        clear hK K
        refine wpAny_ready (rs := [5]) (by kernel_rfl) (by simp) ?_
        refine AllReady.cons rfl (fun K hK => ?_) ?_
        · go_simp
          go_at_call 50
          refine (HV'.out w2 (w.heap.size + 4) _ _ (HB.out.trans ((hb1.trans (hst'.below.mono (by omega))).mono HB.out.size)) (by have := HB.out.size; omega) hbx2 (by have := HP.out; have := HP'.out; omega)).mono ?_
          rintro e w3 ⟨u', F2, n2, rfl, hiv', hbx3, hn3, hst2⟩
          have hst3 := hst'.trans hst2 (Nat.le_trans hdr.size hst.below.size)
          have hu := hiv.ext hst2.ext
          clear hiv
          dsimp only
          refine hK _ _ ?_
          clear hK K
          refine wpAny_ready (rs := [6]) (by kernel_rfl) (by simp) ?_
          refine AllReady.cons rfl (fun K hK => ?_) ?_
          · go_simp
            go_at_call 62
            refine (HE.out _ _ _ hu hiv' w3 _ _ hbx3).mono ?_
            rintro e w4 ⟨he, hb4⟩
            rw [Hh.out] at he
            have hst4 : VStep (w.heap.size + 4) W1.heap.size W1 w4 (.map []) F2 := hst3.trans (VStep.of_below hb4 (Nat.le_of_lt hbx3.lt)) (Nat.le_trans hdr.size (Nat.le_trans hst.below.size hst2.below.size))
            have hy3 := hst4.row hx3 (by have := hz.out; omega) (by omega) (hbs _)
            have hy4 := hst4.row hx4 (by have := hz.out; omega) (by omega) (hbs _)
            have hbz : Below w.heap.size w w4 := hb1.trans (hst4.below.mono (by omega))
            obtain ⟨T, z, rfl⟩ := he
            exact ⟨⟨T, z, rfl⟩, hy3, hy4, hbz⟩
          exact AllReady.nil
        exact AllReady.nil
      exact AllReady.nil
    exact AllReady.nil
  exact AllReady.nil
end Go.Proofs.YteplhhlgceppkabGreat

/- Contracts of guard's equal. -/
namespace Go.Proofs.YteplhhlgceppkabGreat
open Go Go.RowKit Go.ChangeShapes Go.WideShapes

/-- A boolean's number. -/
def boolI (r : Bool) : Int := if r then 1 else 0
/-- A boolean's Datum. -/
def boolV (r : Bool) : Value := .agg #[.int .i64 6, .int .i64 (boolI r), .int .u64 0, .string ⟨#[]⟩, .slice none 0 0]
theorem gboolean_any (r : Bool) (w : World) : Calls Tryz.prog 49 #[.bool r] w fun x w' => x = .returned (boolV r) ∧ Below w.heap.size w w' := by
  cases r
  · exact gboolean_false w
  · exact gboolean_true w
theorem boxes3 (w : World) (c0 c1 c2 c3 c4 e0 e1 e2 e3 e4 : Value) : ∃ W1, W1 = ((w.alloc (.cells #[c0, c1, c2, c3, c4] 26)).alloc (.cells #[e0, e1, e2, e3, e4] 26)).alloc (.cells #[.int .i64 0, .int .i64 0, .int .u64 0, .string ⟨#[]⟩, .slice none 0 0] 26) ∧ Below w.heap.size w W1 ∧ Hid (W1.heap.size = w.heap.size + 3) ∧ Row W1 w.heap.size #[c0, c1, c2, c3, c4] 26 ∧ Row W1 (w.heap.size + 1) #[e0, e1, e2, e3, e4] 26 ∧ Row W1 (w.heap.size + 2) #[.int .i64 0, .int .i64 0, .int .u64 0, .string ⟨#[]⟩, .slice none 0 0] 26 := by
  refine ⟨_, rfl, ?_, Lib.hid (by simp), ((Row.new w _ _).old _).old _, ?_, ?_⟩
  · exact (((Below.refl _ _).alloc (Nat.le_refl _) _).alloc (by simp) _).alloc (by simp; omega) _
  · refine Row.old ?_ _
    have h := Row.new (w.alloc (.cells #[c0, c1, c2, c3, c4] 26)) #[e0, e1, e2, e3, e4] 26
    simpa using h
  · have h := Row.new ((w.alloc (.cells #[c0, c1, c2, c3, c4] 26)).alloc (.cells #[e0, e1, e2, e3, e4] 26)) #[.int .i64 0, .int .i64 0, .int .u64 0, .string ⟨#[]⟩, .slice none 0 0] 26
    simpa using h

set_option maxRecDepth 100000 in
set_option maxHeartbeats 1600000 in
theorem gequal_none {w0 : World} {k m b : Int} {t : ByteArray} {a : Option Addr} {l cap : Nat} {d : D} (hv : Rep w0 (.agg #[.int .i64 k, .int .i64 m, .int .u64 b, .string t, .slice a l cap]) d) (hR : Right d) (hp : d.parts ≤ 4096) {k' m' b' : Int} {t' : ByteArray} {a' : Option Addr} {l' cap' : Nat} {d' : D} (hv' : Rep w0 (.agg #[.int .i64 k', .int .i64 m', .int .u64 b', .string t', .slice a' l' cap']) d') (hR' : Right d') (hp' : d'.parts ≤ 4096) (h : eqD d d' = none) (w : World) (hb0 : Below w0.heap.size w0 w) :
    Calls Tryz.prog 36 #[(.agg #[.int .i64 k, .int .i64 m, .int .u64 b, .string t, .slice a l cap]), (.agg #[.int .i64 k', .int .i64 m', .int .u64 b', .string t', .slice a' l' cap'])] w fun x w' => x = .panicked (thrown 64 (.agg #[])) ∧ Below w.heap.size w w' := by
  have HE := Lib.hid (fun w hb => bigequal_none hv hR hp hv' hR' hp' h w hb)
  have HB := Lib.hid hb0
  clear hv hR hp hv' hR' hp' hb0 h
  obtain ⟨W1, hW1, hb1, hz, hx1, hx2, hx3⟩ := boxes3 w (.int .i64 k) (.int .i64 m) (.int .u64 b) (.string t) (.slice a l cap) (.int .i64 k') (.int .i64 m') (.int .u64 b') (.string t') (.slice a' l' cap')
  have p0 : W1.cell? ⟨w.heap.size, 0, none⟩ = some (.int .i64 k) := hx1.cell 0 rfl
  have p1 : W1.cell? ⟨w.heap.size, 1, none⟩ = some (.int .i64 m) := hx1.cell 1 rfl
  have p2 : W1.cell? ⟨w.heap.size, 2, none⟩ = some (.int .u64 b) := hx1.cell 2 rfl
  have p3 : W1.cell? ⟨w.heap.size, 3, none⟩ = some (.string t) := hx1.cell 3 rfl
  have p4 : W1.cell? ⟨w.heap.size, 4, none⟩ = some (.slice a l cap) := hx1.cell 4 rfl
  have q0 : W1.cell? ⟨w.heap.size + 1, 0, none⟩ = some (.int .i64 k') := hx2.cell 0 rfl
  have q1 : W1.cell? ⟨w.heap.size + 1, 1, none⟩ = some (.int .i64 m') := hx2.cell 1 rfl
  have q2 : W1.cell? ⟨w.heap.size + 1, 2, none⟩ = some (.int .u64 b') := hx2.cell 2 rfl
  have q3 : W1.cell? ⟨w.heap.size + 1, 3, none⟩ = some (.string t') := hx2.cell 3 rfl
  have q4 : W1.cell? ⟨w.heap.size + 1, 4, none⟩ = some (.slice a' l' cap') := hx2.cell 4 rfl
  go_enter Tryz.func36, Tryz.ntmps36
  go_upto_region 1 with fail
  rw [← hW1]
  clear hW1
  go_wp2_with (go_at_call 48; refine (HE.out _ (HB.out.trans (hb1.mono HB.out.size))).mono ?_; rintro e w2 ⟨rfl, hb2⟩)
  exact ⟨rfl, rfl, hb1.trans (hb2.mono hb1.size)⟩

set_option maxRecDepth 100000 in
set_option maxHeartbeats 1600000 in
theorem gequal_some {w0 : World} {k m b : Int} {t : ByteArray} {a : Option Addr} {l cap : Nat} {d : D} (hv : Rep w0 (.agg #[.int .i64 k, .int .i64 m, .int .u64 b, .string t, .slice a l cap]) d) (hR : Right d) (hp : d.parts ≤ 4096) {k' m' b' : Int} {t' : ByteArray} {a' : Option Addr} {l' cap' : Nat} {d' : D} (hv' : Rep w0 (.agg #[.int .i64 k', .int .i64 m', .int .u64 b', .string t', .slice a' l' cap']) d') (hR' : Right d') (hp' : d'.parts ≤ 4096) (r : Bool) (h : eqD d d' = some r) (w : World) (hb0 : Below w0.heap.size w0 w) :
    Calls Tryz.prog 36 #[(.agg #[.int .i64 k, .int .i64 m, .int .u64 b, .string t, .slice a l cap]), (.agg #[.int .i64 k', .int .i64 m', .int .u64 b', .string t', .slice a' l' cap'])] w fun x w' => x = .returned (boolV r) ∧ Below w.heap.size w w' := by
  have HE := Lib.hid (fun w hb => bigequal_some hv hR hp hv' hR' hp' r h w hb)
  have HB := Lib.hid hb0
  clear hv hR hp hv' hR' hp' hb0 h
  obtain ⟨W1, hW1, hb1, hz, hx1, hx2, hx3⟩ := boxes3 w (.int .i64 k) (.int .i64 m) (.int .u64 b) (.string t) (.slice a l cap) (.int .i64 k') (.int .i64 m') (.int .u64 b') (.string t') (.slice a' l' cap')
  have p0 : W1.cell? ⟨w.heap.size, 0, none⟩ = some (.int .i64 k) := hx1.cell 0 rfl
  have p1 : W1.cell? ⟨w.heap.size, 1, none⟩ = some (.int .i64 m) := hx1.cell 1 rfl
  have p2 : W1.cell? ⟨w.heap.size, 2, none⟩ = some (.int .u64 b) := hx1.cell 2 rfl
  have p3 : W1.cell? ⟨w.heap.size, 3, none⟩ = some (.string t) := hx1.cell 3 rfl
  have p4 : W1.cell? ⟨w.heap.size, 4, none⟩ = some (.slice a l cap) := hx1.cell 4 rfl
  have q0 : W1.cell? ⟨w.heap.size + 1, 0, none⟩ = some (.int .i64 k') := hx2.cell 0 rfl
  have q1 : W1.cell? ⟨w.heap.size + 1, 1, none⟩ = some (.int .i64 m') := hx2.cell 1 rfl
  have q2 : W1.cell? ⟨w.heap.size + 1, 2, none⟩ = some (.int .u64 b') := hx2.cell 2 rfl
  have q3 : W1.cell? ⟨w.heap.size + 1, 3, none⟩ = some (.string t') := hx2.cell 3 rfl
  have q4 : W1.cell? ⟨w.heap.size + 1, 4, none⟩ = some (.slice a' l' cap') := hx2.cell 4 rfl
  go_enter Tryz.func36, Tryz.ntmps36
  go_upto_region 1 with fail
  rw [← hW1]
  clear hW1
  go_wp2_with (first | (go_at_call 48; refine (HE.out _ (HB.out.trans (hb1.mono HB.out.size))).mono ?_; rintro e w2 ⟨rfl, hb2⟩) | (go_at_call 49; refine (gboolean_any r _).mono ?_; rintro e w3 ⟨rfl, hb3⟩; unfold boolV; have hb23 : Below W1.heap.size W1 w3 := hb2.trans (hb3.mono hb2.size); have hy := hx3.later hb23; have y0 : w3.cell? ⟨w.heap.size + 2, 0, none⟩ = some (.int .i64 0) := hy.cell 0 rfl; have f0 := hy.thaw 0; have y1 : w3.cell? ⟨w.heap.size + 2, 1, none⟩ = some (.int .i64 0) := hy.cell 1 rfl; have f1 := hy.thaw 1; have y2 : w3.cell? ⟨w.heap.size + 2, 2, none⟩ = some (.int .u64 0) := hy.cell 2 rfl; have f2 := hy.thaw 2; have y3 : w3.cell? ⟨w.heap.size + 2, 3, none⟩ = some (.string ⟨#[]⟩) := hy.cell 3 rfl; have f3 := hy.thaw 3; have y4 : w3.cell? ⟨w.heap.size + 2, 4, none⟩ = some (.slice none 0 0) := hy.cell 4 rfl; have f4 := hy.thaw 4; dsimp only))
  have hzo := hz.out
  exact bodyPost_ret (results_cell_row rfl _ _ (w.heap.size + 2) 26 _ (0, 0) _ rfl (((((hy.set 0 _).set 1 _).set 2 _).set 3 _).set 4 _) Tryz.underlying26 rfl (by kernel_rfl)) rfl
    ⟨rfl, set5_below (hb1.trans (hb23.mono hb1.size)) (by omega)⟩
end Go.Proofs.YteplhhlgceppkabGreat

/- Contracts of guard's divide. -/
namespace Go.Proofs.YteplhhlgceppkabGreat
open Go Go.RowKit Go.ChangeShapes Go.WideShapes

attribute [local go_sem] fld_1 fld_4
theorem RepQ.formD {w : World} {Q : Nat → Prop} {v : Value} {d : D} (h : RepQ w Q v d) : ∃ (a : Option Addr) (n cap : Nat), v = .agg #[.int .i64 d.kind, .int .i64 d.num, .int .u64 d.bits, .string d.text, .slice a n cap] := by
  cases h with
  | mk k m b t a cap g o c kids hw ha hc hk => exact ⟨_, _, _, rfl⟩

set_option maxRecDepth 100000 in
set_option maxHeartbeats 3200000 in
theorem div_a {k : Nat} (hk : k ≤ 13) {m b : Int} {t : ByteArray} {a : Option Addr} {l cap : Nat} {k' : Nat} (_hk' : k' ≤ 13) {m' b' : Int} {t' : ByteArray} {a' : Option Addr} {l' cap' : Nat} (h : isB k 1 = false) (w : World) :
    Calls Tryz.prog 37 #[(.agg #[.int .i64 k, .int .i64 m, .int .u64 b, .string t, .slice a l cap]), (.agg #[.int .i64 k', .int .i64 m', .int .u64 b', .string t', .slice a' l' cap'])] w fun x w' => x = .panicked (thrown 60 (.agg #[.int .i64 k])) ∧ Below w.heap.size w w' := by
  have HF := Lib.hid (fun W => kind_no k hk 1 h (.int .i64 m) (.int .u64 b) (.string t) (.slice a l cap) W)
  clear h
  obtain ⟨W1, hW1, hb1, hzz, hx1, hx2, hx3⟩ := boxes3 w (.int .i64 k) (.int .i64 m) (.int .u64 b) (.string t) (.slice a l cap) (.int .i64 k') (.int .i64 m') (.int .u64 b') (.string t') (.slice a' l' cap')
  have p0 : W1.cell? ⟨w.heap.size, 0, none⟩ = some (.int .i64 k) := hx1.cell 0 rfl
  have p1 : W1.cell? ⟨w.heap.size, 1, none⟩ = some (.int .i64 m) := hx1.cell 1 rfl
  have p2 : W1.cell? ⟨w.heap.size, 2, none⟩ = some (.int .u64 b) := hx1.cell 2 rfl
  have p3 : W1.cell? ⟨w.heap.size, 3, none⟩ = some (.string t) := hx1.cell 3 rfl
  have p4 : W1.cell? ⟨w.heap.size, 4, none⟩ = some (.slice a l cap) := hx1.cell 4 rfl
  have q0 : W1.cell? ⟨w.heap.size + 1, 0, none⟩ = some (.int .i64 k') := hx2.cell 0 rfl
  have q1 : W1.cell? ⟨w.heap.size + 1, 1, none⟩ = some (.int .i64 m') := hx2.cell 1 rfl
  have q2 : W1.cell? ⟨w.heap.size + 1, 2, none⟩ = some (.int .u64 b') := hx2.cell 2 rfl
  have q3 : W1.cell? ⟨w.heap.size + 1, 3, none⟩ = some (.string t') := hx2.cell 3 rfl
  have q4 : W1.cell? ⟨w.heap.size + 1, 4, none⟩ = some (.slice a' l' cap') := hx2.cell 4 rfl
  go_enter Tryz.func37, Tryz.ntmps37
  go_upto_region 1 with fail
  rw [← hW1]
  clear hW1
  have hdr : Below W1.heap.size W1 W1.drew := by go_grown
  have hbd : Below w.heap.size w W1.drew := hb1.trans (hdr.mono hb1.size)
  refine wp_region_any (by kernel_rfl) ?_
  refine wpAny_ready (rs := [0, 3]) (by kernel_rfl) (by simp) ?_
  refine AllReady.cons rfl (fun K hK => ?_) ?_
  · go_simp
    refine hK _ _ ?_
    clear hK K
    refine wpAny_ready (rs := [1, 3]) (by kernel_rfl) (by simp) ?_
    refine AllReady.cons rfl (fun K hK => ?_) ?_
    · go_simp
      go_at_call 32
      refine (HF.out _).mono ?_
      rintro e w2 ⟨rfl, hb2⟩
      exact ⟨rfl, rfl, hbd.trans (hb2.mono hbd.size)⟩
    refine AllReady.cons rfl (fun K hK => ?_) ?_
    · go_simp
      refine hK _ _ ?_
      clear hK K
      refine wpAny_ready (rs := [1]) (by kernel_rfl) (by simp) ?_
      refine AllReady.cons rfl (fun K hK => ?_) ?_
      · go_simp
        go_at_call 32
        refine (HF.out _).mono ?_
        rintro e w2 ⟨rfl, hb2⟩
        exact ⟨rfl, rfl, hbd.trans (hb2.mono hbd.size)⟩
      exact AllReady.nil
    exact AllReady.nil
  refine AllReady.cons rfl (fun K hK => ?_) ?_
  · go_simp
    refine hK _ _ ?_
    clear hK K
    refine wpAny_ready (rs := [0]) (by kernel_rfl) (by simp) ?_
    refine AllReady.cons rfl (fun K hK => ?_) ?_
    · go_simp
      refine hK _ _ ?_
      clear hK K
      refine wpAny_ready (rs := [1]) (by kernel_rfl) (by simp) ?_
      refine AllReady.cons rfl (fun K hK => ?_) ?_
      · go_simp
        go_at_call 32
        refine (HF.out _).mono ?_
        rintro e w2 ⟨rfl, hb2⟩
        exact ⟨rfl, rfl, hbd.trans (hb2.mono hbd.size)⟩
      exact AllReady.nil
    exact AllReady.nil
  exact AllReady.nil

set_option maxRecDepth 100000 in
set_option maxHeartbeats 3200000 in
theorem div_b {w0 : World} {d : D} {k : Nat} (hk : k ≤ 13) {m b : Int} {t : ByteArray} {a : Option Addr} {l cap : Nat} {k' : Nat} (hk' : k' ≤ 13) {m' b' : Int} {t' : ByteArray} {a' : Option Addr} {l' cap' : Nat} (h : isB k 1 = true) (hv : Rep w0 (.agg #[.int .i64 k, .int .i64 m, .int .u64 b, .string t, .slice a l cap]) d) (hs : Slim d) (h' : isB k' 1 = false) (w : World) (hb0 : Below w0.heap.size w0 w) :
    Calls Tryz.prog 37 #[(.agg #[.int .i64 k, .int .i64 m, .int .u64 b, .string t, .slice a l cap]), (.agg #[.int .i64 k', .int .i64 m', .int .u64 b', .string t', .slice a' l' cap'])] w fun x w' => x = .panicked (thrown 60 (.agg #[.int .i64 k'])) ∧ Below w.heap.size w w' := by
  have HF := Lib.hid (fun W hb => kind_yes k hk 1 h hv hs W hb)
  have HG := Lib.hid (fun W => kind_no k' hk' 1 h' (.int .i64 m') (.int .u64 b') (.string t') (.slice a' l' cap') W)
  have HB := Lib.hid hb0
  clear h hv hs hb0 h'
  obtain ⟨W1, hW1, hb1, hzz, hx1, hx2, hx3⟩ := boxes3 w (.int .i64 k) (.int .i64 m) (.int .u64 b) (.string t) (.slice a l cap) (.int .i64 k') (.int .i64 m') (.int .u64 b') (.string t') (.slice a' l' cap')
  have p0 : W1.cell? ⟨w.heap.size, 0, none⟩ = some (.int .i64 k) := hx1.cell 0 rfl
  have p1 : W1.cell? ⟨w.heap.size, 1, none⟩ = some (.int .i64 m) := hx1.cell 1 rfl
  have p2 : W1.cell? ⟨w.heap.size, 2, none⟩ = some (.int .u64 b) := hx1.cell 2 rfl
  have p3 : W1.cell? ⟨w.heap.size, 3, none⟩ = some (.string t) := hx1.cell 3 rfl
  have p4 : W1.cell? ⟨w.heap.size, 4, none⟩ = some (.slice a l cap) := hx1.cell 4 rfl
  have q0 : W1.cell? ⟨w.heap.size + 1, 0, none⟩ = some (.int .i64 k') := hx2.cell 0 rfl
  have q1 : W1.cell? ⟨w.heap.size + 1, 1, none⟩ = some (.int .i64 m') := hx2.cell 1 rfl
  have q2 : W1.cell? ⟨w.heap.size + 1, 2, none⟩ = some (.int .u64 b') := hx2.cell 2 rfl
  have q3 : W1.cell? ⟨w.heap.size + 1, 3, none⟩ = some (.string t') := hx2.cell 3 rfl
  have q4 : W1.cell? ⟨w.heap.size + 1, 4, none⟩ = some (.slice a' l' cap') := hx2.cell 4 rfl
  go_enter Tryz.func37, Tryz.ntmps37
  go_upto_region 1 with fail
  rw [← hW1]
  clear hW1
  have hdr : Below W1.heap.size W1 W1.drew := by go_grown
  have hbd : Below w.heap.size w W1.drew := hb1.trans (hdr.mono hb1.size)
  refine wp_region_any (by kernel_rfl) ?_
  refine wpAny_ready (rs := [0, 3]) (by kernel_rfl) (by simp) ?_
  refine AllReady.cons rfl (fun K hK => ?_) ?_
  · go_simp
    refine hK _ _ ?_
    clear hK K
    refine wpAny_ready (rs := [1, 3]) (by kernel_rfl) (by simp) ?_
    refine AllReady.cons rfl (fun K hK => ?_) ?_
    · go_simp
      go_at_call 32
      refine (HF.out _ (HB.out.trans (hbd.mono HB.out.size))).mono ?_
      rintro e w2 ⟨v', rfl, hv', hb2⟩
      obtain ⟨a5, n5, c5, rfl⟩ := hv'.formD
      have hb12 : Below w.heap.size w w2 := hbd.trans (hb2.mono hbd.size)
      have hy2 := (hx2.later hdr).later hb2
      have q0 : w2.cell? ⟨w.heap.size + 1, 0, none⟩ = some (.int .i64 k') := hy2.cell 0 rfl
      have q1 : w2.cell? ⟨w.heap.size + 1, 1, none⟩ = some (.int .i64 m') := hy2.cell 1 rfl
      have q2 : w2.cell? ⟨w.heap.size + 1, 2, none⟩ = some (.int .u64 b') := hy2.cell 2 rfl
      have q3 : w2.cell? ⟨w.heap.size + 1, 3, none⟩ = some (.string t') := hy2.cell 3 rfl
      have q4 : w2.cell? ⟨w.heap.size + 1, 4, none⟩ = some (.slice a' l' cap') := hy2.cell 4 rfl
      dsimp only
      refine hK _ _ ?_
      clear hK K
      refine wpAny_ready (rs := [2, 3]) (by kernel_rfl) (by simp) ?_
      refine AllReady.cons rfl (fun K hK => ?_) ?_
      · go_simp
        refine hK _ _ ?_
        clear hK K
        refine wpAny_ready (rs := [3]) (by kernel_rfl) (by simp) ?_
        refine AllReady.cons rfl (fun K hK => ?_) ?_
        · go_simp
          refine hK _ _ ?_
          clear hK K
          refine wpAny_ready (rs := [4]) (by kernel_rfl) (by simp) ?_
          refine AllReady.cons rfl (fun K hK => ?_) ?_
          · go_simp
            go_at_call 32
            refine (HG.out _).mono ?_
            rintro e w3 ⟨rfl, hb3⟩
            exact ⟨rfl, rfl, hb12.trans (hb3.mono hb12.size)⟩
          exact AllReady.nil
        exact AllReady.nil
      refine AllReady.cons rfl (fun K hK => ?_) ?_
      · go_simp
        refine hK _ _ ?_
        clear hK K
        refine wpAny_ready (rs := [2, 4]) (by kernel_rfl) (by simp) ?_
        refine AllReady.cons rfl (fun K hK => ?_) ?_
        · go_simp
          refine hK _ _ ?_
          clear hK K
          refine wpAny_ready (rs := [4]) (by kernel_rfl) (by simp) ?_
          refine AllReady.cons rfl (fun K hK => ?_) ?_
          · go_simp
            go_at_call 32
            refine (HG.out _).mono ?_
            rintro e w3 ⟨rfl, hb3⟩
            exact ⟨rfl, rfl, hb12.trans (hb3.mono hb12.size)⟩
          exact AllReady.nil
        refine AllReady.cons rfl (fun K hK => ?_) ?_
        · go_simp
          go_at_call 32
          refine (HG.out _).mono ?_
          rintro e w3 ⟨rfl, hb3⟩
          exact ⟨rfl, rfl, hb12.trans (hb3.mono hb12.size)⟩
        exact AllReady.nil
      exact AllReady.nil
    refine AllReady.cons rfl (fun K hK => ?_) ?_
    · go_simp
      refine hK _ _ ?_
      clear hK K
      refine wpAny_ready (rs := [1]) (by kernel_rfl) (by simp) ?_
      refine AllReady.cons rfl (fun K hK => ?_) ?_
      · go_simp
        go_at_call 32
        refine (HF.out _ (HB.out.trans (hbd.mono HB.out.size))).mono ?_
        rintro e w2 ⟨v', rfl, hv', hb2⟩
        obtain ⟨a5, n5, c5, rfl⟩ := hv'.formD
        have hb12 : Below w.heap.size w w2 := hbd.trans (hb2.mono hbd.size)
        have hy2 := (hx2.later hdr).later hb2
        have q0 : w2.cell? ⟨w.heap.size + 1, 0, none⟩ = some (.int .i64 k') := hy2.cell 0 rfl
        have q1 : w2.cell? ⟨w.heap.size + 1, 1, none⟩ = some (.int .i64 m') := hy2.cell 1 rfl
        have q2 : w2.cell? ⟨w.heap.size + 1, 2, none⟩ = some (.int .u64 b') := hy2.cell 2 rfl
        have q3 : w2.cell? ⟨w.heap.size + 1, 3, none⟩ = some (.string t') := hy2.cell 3 rfl
        have q4 : w2.cell? ⟨w.heap.size + 1, 4, none⟩ = some (.slice a' l' cap') := hy2.cell 4 rfl
        dsimp only
        refine hK _ _ ?_
        clear hK K
        refine wpAny_ready (rs := [2, 4]) (by kernel_rfl) (by simp) ?_
        refine AllReady.cons rfl (fun K hK => ?_) ?_
        · go_simp
          refine hK _ _ ?_
          clear hK K
          refine wpAny_ready (rs := [4]) (by kernel_rfl) (by simp) ?_
          refine AllReady.cons rfl (fun K hK => ?_) ?_
          · go_simp
            go_at_call 32
            refine (HG.out _).mono ?_
            rintro e w3 ⟨rfl, hb3⟩
            exact ⟨rfl, rfl, hb12.trans (hb3.mono hb12.size)⟩
          exact AllReady.nil
        refine AllReady.cons rfl (fun K hK => ?_) ?_
        · go_simp
          go_at_call 32
          refine (HG.out _).mono ?_
          rintro e w3 ⟨rfl, hb3⟩
          exact ⟨rfl, rfl, hb12.trans (hb3.mono hb12.size)⟩
        exact AllReady.nil
      exact AllReady.nil
    exact AllReady.nil
  refine AllReady.cons rfl (fun K hK => ?_) ?_
  · go_simp
    refine hK _ _ ?_
    clear hK K
    refine wpAny_ready (rs := [0]) (by kernel_rfl) (by simp) ?_
    refine AllReady.cons rfl (fun K hK => ?_) ?_
    · go_simp
      refine hK _ _ ?_
      clear hK K
      refine wpAny_ready (rs := [1]) (by kernel_rfl) (by simp) ?_
      refine AllReady.cons rfl (fun K hK => ?_) ?_
      · go_simp
        go_at_call 32
        refine (HF.out _ (HB.out.trans (hbd.mono HB.out.size))).mono ?_
        rintro e w2 ⟨v', rfl, hv', hb2⟩
        obtain ⟨a5, n5, c5, rfl⟩ := hv'.formD
        have hb12 : Below w.heap.size w w2 := hbd.trans (hb2.mono hbd.size)
        have hy2 := (hx2.later hdr).later hb2
        have q0 : w2.cell? ⟨w.heap.size + 1, 0, none⟩ = some (.int .i64 k') := hy2.cell 0 rfl
        have q1 : w2.cell? ⟨w.heap.size + 1, 1, none⟩ = some (.int .i64 m') := hy2.cell 1 rfl
        have q2 : w2.cell? ⟨w.heap.size + 1, 2, none⟩ = some (.int .u64 b') := hy2.cell 2 rfl
        have q3 : w2.cell? ⟨w.heap.size + 1, 3, none⟩ = some (.string t') := hy2.cell 3 rfl
        have q4 : w2.cell? ⟨w.heap.size + 1, 4, none⟩ = some (.slice a' l' cap') := hy2.cell 4 rfl
        dsimp only
        refine hK _ _ ?_
        clear hK K
        refine wpAny_ready (rs := [2, 4]) (by kernel_rfl) (by simp) ?_
        refine AllReady.cons rfl (fun K hK => ?_) ?_
        · go_simp
          refine hK _ _ ?_
          clear hK K
          refine wpAny_ready (rs := [4]) (by kernel_rfl) (by simp) ?_
          refine AllReady.cons rfl (fun K hK => ?_) ?_
          · go_simp
            go_at_call 32
            refine (HG.out _).mono ?_
            rintro e w3 ⟨rfl, hb3⟩
            exact ⟨rfl, rfl, hb12.trans (hb3.mono hb12.size)⟩
          exact AllReady.nil
        refine AllReady.cons rfl (fun K hK => ?_) ?_
        · go_simp
          go_at_call 32
          refine (HG.out _).mono ?_
          rintro e w3 ⟨rfl, hb3⟩
          exact ⟨rfl, rfl, hb12.trans (hb3.mono hb12.size)⟩
        exact AllReady.nil
      exact AllReady.nil
    exact AllReady.nil
  exact AllReady.nil

set_option maxRecDepth 100000 in
set_option maxHeartbeats 3200000 in
theorem div_0 {w0 : World} {d d' : D} {k : Nat} (hk : k ≤ 13) {m b : Int} {t : ByteArray} {a : Option Addr} {l cap : Nat} {k' : Nat} (hk' : k' ≤ 13) {m' b' : Int} {t' : ByteArray} {a' : Option Addr} {l' cap' : Nat} (h : isB k 1 = true) (hv : Rep w0 (.agg #[.int .i64 k, .int .i64 m, .int .u64 b, .string t, .slice a l cap]) d) (hs : Slim d) (h' : isB k' 1 = true) (hv' : Rep w0 (.agg #[.int .i64 k', .int .i64 m', .int .u64 b', .string t', .slice a' l' cap']) d') (hs' : Slim d') (hz : d'.num = 0) (w : World) (hb0 : Below w0.heap.size w0 w) :
    Calls Tryz.prog 37 #[(.agg #[.int .i64 k, .int .i64 m, .int .u64 b, .string t, .slice a l cap]), (.agg #[.int .i64 k', .int .i64 m', .int .u64 b', .string t', .slice a' l' cap'])] w fun x w' => x = .panicked (thrown 65 (.agg #[])) ∧ Below w.heap.size w w' := by
  have HF := Lib.hid (fun W hb => kind_yes k hk 1 h hv hs W hb)
  have HG := Lib.hid (fun W hb => kind_yes k' hk' 1 h' hv' hs' W hb)
  have HB := Lib.hid hb0
  have HZ := Lib.hid hz
  clear hz h hv hs hb0 h' hv' hs'
  obtain ⟨W1, hW1, hb1, hzz, hx1, hx2, hx3⟩ := boxes3 w (.int .i64 k) (.int .i64 m) (.int .u64 b) (.string t) (.slice a l cap) (.int .i64 k') (.int .i64 m') (.int .u64 b') (.string t') (.slice a' l' cap')
  have p0 : W1.cell? ⟨w.heap.size, 0, none⟩ = some (.int .i64 k) := hx1.cell 0 rfl
  have p1 : W1.cell? ⟨w.heap.size, 1, none⟩ = some (.int .i64 m) := hx1.cell 1 rfl
  have p2 : W1.cell? ⟨w.heap.size, 2, none⟩ = some (.int .u64 b) := hx1.cell 2 rfl
  have p3 : W1.cell? ⟨w.heap.size, 3, none⟩ = some (.string t) := hx1.cell 3 rfl
  have p4 : W1.cell? ⟨w.heap.size, 4, none⟩ = some (.slice a l cap) := hx1.cell 4 rfl
  have q0 : W1.cell? ⟨w.heap.size + 1, 0, none⟩ = some (.int .i64 k') := hx2.cell 0 rfl
  have q1 : W1.cell? ⟨w.heap.size + 1, 1, none⟩ = some (.int .i64 m') := hx2.cell 1 rfl
  have q2 : W1.cell? ⟨w.heap.size + 1, 2, none⟩ = some (.int .u64 b') := hx2.cell 2 rfl
  have q3 : W1.cell? ⟨w.heap.size + 1, 3, none⟩ = some (.string t') := hx2.cell 3 rfl
  have q4 : W1.cell? ⟨w.heap.size + 1, 4, none⟩ = some (.slice a' l' cap') := hx2.cell 4 rfl
  go_enter Tryz.func37, Tryz.ntmps37
  go_upto_region 1 with fail
  rw [← hW1]
  clear hW1
  have hdr : Below W1.heap.size W1 W1.drew := by go_grown
  have hbd : Below w.heap.size w W1.drew := hb1.trans (hdr.mono hb1.size)
  generalize hxd : d.num = x at *
  generalize hyd : d'.num = y at *
  go_cut [4, 5, 6] from 1 (fun x4 x5 x6 wc => x4 = .pointer (some ⟨w.heap.size + 1 + 1, 0, none⟩) ∧ x5 = .int .i64 x ∧ x6 = .int .i64 y ∧ Below w.heap.size w wc ∧ Row wc (w.heap.size + 1 + 1) #[.int .i64 0, .int .i64 0, .int .u64 0, .string ⟨#[]⟩, .slice none 0 0] 26)
  case first =>
    go_region_with (first | (have _h := hb12; go_at_call 32; refine (HG.out _ (HB.out.trans (hb12.mono HB.out.size))).mono ?_; rintro e w3 ⟨v', rfl, hv3, hb3⟩; obtain ⟨a6, n6, c6, rfl⟩ := hv3.formD; have hb13 : Below w.heap.size w w3 := hb12.trans (hb3.mono hb12.size); have hy3 := (hx3.later hdr).later (hb2.trans (hb3.mono hb2.size)); have z0 : w3.cell? ⟨w.heap.size + 1 + 1, 0, none⟩ = some (.int .i64 0) := hy3.cell 0 rfl; have fz0 := hy3.thaw 0; have z1 : w3.cell? ⟨w.heap.size + 1 + 1, 1, none⟩ = some (.int .i64 0) := hy3.cell 1 rfl; have fz1 := hy3.thaw 1; have z2 : w3.cell? ⟨w.heap.size + 1 + 1, 2, none⟩ = some (.int .u64 0) := hy3.cell 2 rfl; have fz2 := hy3.thaw 2; have z3 : w3.cell? ⟨w.heap.size + 1 + 1, 3, none⟩ = some (.string ⟨#[]⟩) := hy3.cell 3 rfl; have fz3 := hy3.thaw 3; have z4 : w3.cell? ⟨w.heap.size + 1 + 1, 4, none⟩ = some (.slice none 0 0) := hy3.cell 4 rfl; have fz4 := hy3.thaw 4; dsimp only) | (go_at_call 32; refine (HF.out _ (HB.out.trans (hbd.mono HB.out.size))).mono ?_; rintro e w2 ⟨v', rfl, hv', hb2⟩; obtain ⟨a5, n5, c5, rfl⟩ := hv'.formD; have hb12 : Below w.heap.size w w2 := hbd.trans (hb2.mono hbd.size); have hy2 := (hx2.later hdr).later hb2; have q0 : w2.cell? ⟨w.heap.size + 1, 0, none⟩ = some (.int .i64 k') := hy2.cell 0 rfl; have q1 : w2.cell? ⟨w.heap.size + 1, 1, none⟩ = some (.int .i64 m') := hy2.cell 1 rfl; have q2 : w2.cell? ⟨w.heap.size + 1, 2, none⟩ = some (.int .u64 b') := hy2.cell 2 rfl; have q3 : w2.cell? ⟨w.heap.size + 1, 3, none⟩ = some (.string t') := hy2.cell 3 rfl; have q4 : w2.cell? ⟨w.heap.size + 1, 4, none⟩ = some (.slice a' l' cap') := hy2.cell 4 rfl; dsimp only))
    all_goals ((try rw [hxd]); (try rw [hyd]); go_wp2_with fail; go_meet; exact ⟨rfl, rfl, rfl, hb13, hy3⟩)
  case rest =>
    obtain ⟨rfl, rfl, rfl, hbc, hy⟩ := hcut
    obtain rfl := HZ.out
    go_wp2_with fail
    exact ⟨rfl, rfl, hbc⟩

set_option maxRecDepth 100000 in
set_option maxHeartbeats 3200000 in
theorem div_v {w0 : World} {d d' : D} {k : Nat} (hk : k ≤ 13) {m b : Int} {t : ByteArray} {a : Option Addr} {l cap : Nat} {k' : Nat} (hk' : k' ≤ 13) {m' b' : Int} {t' : ByteArray} {a' : Option Addr} {l' cap' : Nat} (h : isB k 1 = true) (hv : Rep w0 (.agg #[.int .i64 k, .int .i64 m, .int .u64 b, .string t, .slice a l cap]) d) (hs : Slim d) (h' : isB k' 1 = true) (hv' : Rep w0 (.agg #[.int .i64 k', .int .i64 m', .int .u64 b', .string t', .slice a' l' cap']) d') (hs' : Slim d') (hz : d'.num ≠ 0) (w : World) (hb0 : Below w0.heap.size w0 w) :
    Calls Tryz.prog 37 #[(.agg #[.int .i64 k, .int .i64 m, .int .u64 b, .string t, .slice a l cap]), (.agg #[.int .i64 k', .int .i64 m', .int .u64 b', .string t', .slice a' l' cap'])] w fun x w' => x = .returned (numV (quoI d.num d'.num)) ∧ Below w.heap.size w w' := by
  have HF := Lib.hid (fun W hb => kind_yes k hk 1 h hv hs W hb)
  have HG := Lib.hid (fun W hb => kind_yes k' hk' 1 h' hv' hs' W hb)
  have HB := Lib.hid hb0
  have HZ := Lib.hid hz
  clear hz h hv hs hb0 h' hv' hs'
  obtain ⟨W1, hW1, hb1, hzz, hx1, hx2, hx3⟩ := boxes3 w (.int .i64 k) (.int .i64 m) (.int .u64 b) (.string t) (.slice a l cap) (.int .i64 k') (.int .i64 m') (.int .u64 b') (.string t') (.slice a' l' cap')
  have p0 : W1.cell? ⟨w.heap.size, 0, none⟩ = some (.int .i64 k) := hx1.cell 0 rfl
  have p1 : W1.cell? ⟨w.heap.size, 1, none⟩ = some (.int .i64 m) := hx1.cell 1 rfl
  have p2 : W1.cell? ⟨w.heap.size, 2, none⟩ = some (.int .u64 b) := hx1.cell 2 rfl
  have p3 : W1.cell? ⟨w.heap.size, 3, none⟩ = some (.string t) := hx1.cell 3 rfl
  have p4 : W1.cell? ⟨w.heap.size, 4, none⟩ = some (.slice a l cap) := hx1.cell 4 rfl
  have q0 : W1.cell? ⟨w.heap.size + 1, 0, none⟩ = some (.int .i64 k') := hx2.cell 0 rfl
  have q1 : W1.cell? ⟨w.heap.size + 1, 1, none⟩ = some (.int .i64 m') := hx2.cell 1 rfl
  have q2 : W1.cell? ⟨w.heap.size + 1, 2, none⟩ = some (.int .u64 b') := hx2.cell 2 rfl
  have q3 : W1.cell? ⟨w.heap.size + 1, 3, none⟩ = some (.string t') := hx2.cell 3 rfl
  have q4 : W1.cell? ⟨w.heap.size + 1, 4, none⟩ = some (.slice a' l' cap') := hx2.cell 4 rfl
  go_enter Tryz.func37, Tryz.ntmps37
  go_upto_region 1 with fail
  rw [← hW1]
  clear hW1
  have hdr : Below W1.heap.size W1 W1.drew := by go_grown
  have hbd : Below w.heap.size w W1.drew := hb1.trans (hdr.mono hb1.size)
  generalize hxd : d.num = x at *
  generalize hyd : d'.num = y at *
  go_cut [4, 5, 6] from 1 (fun x4 x5 x6 wc => x4 = .pointer (some ⟨w.heap.size + 1 + 1, 0, none⟩) ∧ x5 = .int .i64 x ∧ x6 = .int .i64 y ∧ Below w.heap.size w wc ∧ Row wc (w.heap.size + 1 + 1) #[.int .i64 0, .int .i64 0, .int .u64 0, .string ⟨#[]⟩, .slice none 0 0] 26)
  case first =>
    go_region_with (first | (have _h := hb12; go_at_call 32; refine (HG.out _ (HB.out.trans (hb12.mono HB.out.size))).mono ?_; rintro e w3 ⟨v', rfl, hv3, hb3⟩; obtain ⟨a6, n6, c6, rfl⟩ := hv3.formD; have hb13 : Below w.heap.size w w3 := hb12.trans (hb3.mono hb12.size); have hy3 := (hx3.later hdr).later (hb2.trans (hb3.mono hb2.size)); have z0 : w3.cell? ⟨w.heap.size + 1 + 1, 0, none⟩ = some (.int .i64 0) := hy3.cell 0 rfl; have fz0 := hy3.thaw 0; have z1 : w3.cell? ⟨w.heap.size + 1 + 1, 1, none⟩ = some (.int .i64 0) := hy3.cell 1 rfl; have fz1 := hy3.thaw 1; have z2 : w3.cell? ⟨w.heap.size + 1 + 1, 2, none⟩ = some (.int .u64 0) := hy3.cell 2 rfl; have fz2 := hy3.thaw 2; have z3 : w3.cell? ⟨w.heap.size + 1 + 1, 3, none⟩ = some (.string ⟨#[]⟩) := hy3.cell 3 rfl; have fz3 := hy3.thaw 3; have z4 : w3.cell? ⟨w.heap.size + 1 + 1, 4, none⟩ = some (.slice none 0 0) := hy3.cell 4 rfl; have fz4 := hy3.thaw 4; dsimp only) | (go_at_call 32; refine (HF.out _ (HB.out.trans (hbd.mono HB.out.size))).mono ?_; rintro e w2 ⟨v', rfl, hv', hb2⟩; obtain ⟨a5, n5, c5, rfl⟩ := hv'.formD; have hb12 : Below w.heap.size w w2 := hbd.trans (hb2.mono hbd.size); have hy2 := (hx2.later hdr).later hb2; have q0 : w2.cell? ⟨w.heap.size + 1, 0, none⟩ = some (.int .i64 k') := hy2.cell 0 rfl; have q1 : w2.cell? ⟨w.heap.size + 1, 1, none⟩ = some (.int .i64 m') := hy2.cell 1 rfl; have q2 : w2.cell? ⟨w.heap.size + 1, 2, none⟩ = some (.int .u64 b') := hy2.cell 2 rfl; have q3 : w2.cell? ⟨w.heap.size + 1, 3, none⟩ = some (.string t') := hy2.cell 3 rfl; have q4 : w2.cell? ⟨w.heap.size + 1, 4, none⟩ = some (.slice a' l' cap') := hy2.cell 4 rfl; dsimp only))
    all_goals ((try rw [hxd]); (try rw [hyd]); go_wp2_with fail; go_meet; exact ⟨rfl, rfl, rfl, hb13, hy3⟩)
  case rest =>
    obtain ⟨rfl, rfl, rfl, hbc, hy⟩ := hcut
    have hz := HZ.out
    have hzl := hy.lt
    have hzl := Lib.hid hzl
    go_wp2_with (go_at_call 39; refine (gnumber_any _ _).mono ?_; rintro e w4 ⟨rfl, hb4⟩; unfold numV; have hy4 := hy.later hb4; have z0 : w4.cell? ⟨w.heap.size + 1 + 1, 0, none⟩ = some (.int .i64 0) := hy4.cell 0 rfl; have fz0 := hy4.thaw 0; have z1 : w4.cell? ⟨w.heap.size + 1 + 1, 1, none⟩ = some (.int .i64 0) := hy4.cell 1 rfl; have fz1 := hy4.thaw 1; have z2 : w4.cell? ⟨w.heap.size + 1 + 1, 2, none⟩ = some (.int .u64 0) := hy4.cell 2 rfl; have fz2 := hy4.thaw 2; have z3 : w4.cell? ⟨w.heap.size + 1 + 1, 3, none⟩ = some (.string ⟨#[]⟩) := hy4.cell 3 rfl; have fz3 := hy4.thaw 3; have z4 : w4.cell? ⟨w.heap.size + 1 + 1, 4, none⟩ = some (.slice none 0 0) := hy4.cell 4 rfl; have fz4 := hy4.thaw 4; dsimp only)
    have hzo := hzz.out
    exact bodyPost_ret (results_cell_row rfl _ _ (w.heap.size + 1 + 1) 26 _ (0, 0) _ rfl (((((hy4.set 0 _).set 1 _).set 2 _).set 3 _).set 4 _) Tryz.underlying26 rfl (by kernel_rfl)) rfl
      ⟨by rw [hxd, hyd]; rfl, set5_below (hbc.trans (hb4.mono hbc.size)) (by omega)⟩
end Go.Proofs.YteplhhlgceppkabGreat

/- Contracts of the reference's Try, an act each. -/
namespace Go.Proofs.YteplhhlgceppkabGreat
open Go Go.RowKit Go.ChangeShapes Go.WideShapes

set_option maxRecDepth 100000 in
set_option maxHeartbeats 3200000 in
theorem rt_give {w0 : World} {d : D} {k : Int} {m b : Int} {t : ByteArray} {a : Option Addr} {l cap : Nat} {k' m' b' : Int} {t' : ByteArray} {a' : Option Addr} {l' cap' : Nat} {n : Int} (hv : Rep w0 (.agg #[.int .i64 k, .int .i64 m, .int .u64 b, .string t, .slice a l cap]) d) (hs : Slim d) (w : World) (hb0 : Below w0.heap.size w0 w) :
    Calls Tryz.prog 15 #[(.agg #[.int .i64 1, .int .i64 k, .int .i64 m, .int .u64 b, .string t, .slice a l cap, .int .i64 k', .int .i64 m', .int .u64 b', .string t', .slice a' l' cap', .int .i64 n])] w fun x w' => ∃ v', x = .returned v' ∧ ResV w' (fun b => w.heap.size ≤ b) v' (.gave d) ∧ Below w.heap.size w w' := by
  have HC := Lib.hid (fun W h => copy_any hv hs W h)
  have HB := Lib.hid hb0
  clear hv hs hb0
  obtain ⟨W1, hW1, hb1, hz, hx1, hx2⟩ := act_worlds w (.int .i64 1) (.int .i64 k) (.int .i64 m) (.int .u64 b) (.string t) (.slice a l cap) (.int .i64 k') (.int .i64 m') (.int .u64 b') (.string t') (.slice a' l' cap') (.int .i64 n)
  have p0 : W1.cell? ⟨w.heap.size, 0, none⟩ = some (.int .i64 1) := hx1.cell 0 rfl
  have p1 : W1.cell? ⟨w.heap.size, 1, none⟩ = some (.int .i64 k) := hx1.cell 1 rfl
  have p2 : W1.cell? ⟨w.heap.size, 2, none⟩ = some (.int .i64 m) := hx1.cell 2 rfl
  have p3 : W1.cell? ⟨w.heap.size, 3, none⟩ = some (.int .u64 b) := hx1.cell 3 rfl
  have p4 : W1.cell? ⟨w.heap.size, 4, none⟩ = some (.string t) := hx1.cell 4 rfl
  have p5 : W1.cell? ⟨w.heap.size, 5, none⟩ = some (.slice a l cap) := hx1.cell 5 rfl
  have p6 : W1.cell? ⟨w.heap.size, 6, none⟩ = some (.int .i64 k') := hx1.cell 6 rfl
  have p7 : W1.cell? ⟨w.heap.size, 7, none⟩ = some (.int .i64 m') := hx1.cell 7 rfl
  have p8 : W1.cell? ⟨w.heap.size, 8, none⟩ = some (.int .u64 b') := hx1.cell 8 rfl
  have p9 : W1.cell? ⟨w.heap.size, 9, none⟩ = some (.string t') := hx1.cell 9 rfl
  have p10 : W1.cell? ⟨w.heap.size, 10, none⟩ = some (.slice a' l' cap') := hx1.cell 10 rfl
  have p11 : W1.cell? ⟨w.heap.size, 11, none⟩ = some (.int .i64 n) := hx1.cell 11 rfl
  have q0 : W1.cell? ⟨w.heap.size + 1, 0, none⟩ = some (.int .i64 0) := hx2.cell 0 rfl
  have fq0 := hx2.thaw 0
  have q1 : W1.cell? ⟨w.heap.size + 1, 1, none⟩ = some (.int .i64 0) := hx2.cell 1 rfl
  have fq1 := hx2.thaw 1
  have q2 : W1.cell? ⟨w.heap.size + 1, 2, none⟩ = some (.int .i64 0) := hx2.cell 2 rfl
  have fq2 := hx2.thaw 2
  have q3 : W1.cell? ⟨w.heap.size + 1, 3, none⟩ = some (.int .i64 0) := hx2.cell 3 rfl
  have fq3 := hx2.thaw 3
  have q4 : W1.cell? ⟨w.heap.size + 1, 4, none⟩ = some (.bool false) := hx2.cell 4 rfl
  have fq4 := hx2.thaw 4
  have q5 : W1.cell? ⟨w.heap.size + 1, 5, none⟩ = some (.int .i64 0) := hx2.cell 5 rfl
  have fq5 := hx2.thaw 5
  have q6 : W1.cell? ⟨w.heap.size + 1, 6, none⟩ = some (.int .i64 0) := hx2.cell 6 rfl
  have fq6 := hx2.thaw 6
  have q7 : W1.cell? ⟨w.heap.size + 1, 7, none⟩ = some (.int .u64 0) := hx2.cell 7 rfl
  have fq7 := hx2.thaw 7
  have q8 : W1.cell? ⟨w.heap.size + 1, 8, none⟩ = some (.string ⟨#[]⟩) := hx2.cell 8 rfl
  have fq8 := hx2.thaw 8
  have q9 : W1.cell? ⟨w.heap.size + 1, 9, none⟩ = some (.slice none 0 0) := hx2.cell 9 rfl
  have fq9 := hx2.thaw 9
  go_enter Tryz.func15, Tryz.ntmps15
  go_upto_region 1 with fail
  rw [← hW1]
  clear hW1
  go_wp2_with (first | (go_at_call 22; refine (HC.out _ (HB.out.trans (hb1.mono HB.out.size))).mono ?_; rintro e w2 ⟨v', rfl, hv', hb2⟩; obtain ⟨k5, m5, b5, t5, a5, n5, cap5, rfl⟩ := hv'.form; dsimp only) | (go_at_call 21; refine (rgave_v _ _ _ _ _ _ _ _).mono ?_; rintro e w3 ⟨rfl, hbg⟩; have hbx := hb2.trans (hbg.mono hb2.size); have hy := hx2.later hbx; have z0 : w3.cell? ⟨w.heap.size + 1, 0, none⟩ = some (.int .i64 0) := hy.cell 0 rfl; have fz0 := hy.thaw 0; have z1 : w3.cell? ⟨w.heap.size + 1, 1, none⟩ = some (.int .i64 0) := hy.cell 1 rfl; have fz1 := hy.thaw 1; have z2 : w3.cell? ⟨w.heap.size + 1, 2, none⟩ = some (.int .i64 0) := hy.cell 2 rfl; have fz2 := hy.thaw 2; have z3 : w3.cell? ⟨w.heap.size + 1, 3, none⟩ = some (.int .i64 0) := hy.cell 3 rfl; have fz3 := hy.thaw 3; have z4 : w3.cell? ⟨w.heap.size + 1, 4, none⟩ = some (.bool false) := hy.cell 4 rfl; have fz4 := hy.thaw 4; have z5 : w3.cell? ⟨w.heap.size + 1, 5, none⟩ = some (.int .i64 0) := hy.cell 5 rfl; have fz5 := hy.thaw 5; have z6 : w3.cell? ⟨w.heap.size + 1, 6, none⟩ = some (.int .i64 0) := hy.cell 6 rfl; have fz6 := hy.thaw 6; have z7 : w3.cell? ⟨w.heap.size + 1, 7, none⟩ = some (.int .u64 0) := hy.cell 7 rfl; have fz7 := hy.thaw 7; have z8 : w3.cell? ⟨w.heap.size + 1, 8, none⟩ = some (.string ⟨#[]⟩) := hy.cell 8 rfl; have fz8 := hy.thaw 8; have z9 : w3.cell? ⟨w.heap.size + 1, 9, none⟩ = some (.slice none 0 0) := hy.cell 9 rfl; have fz9 := hy.thaw 9; dsimp only))
  have hzo := hz.out
  exact bodyPost_ret (results_cell_row rfl _ _ (w.heap.size + 1) 42 _ (0, 0) _ rfl (hy.set10 _ _ _ _ _ _ _ _ _ _) Tryz.underlying42 rfl (by kernel_rfl)) rfl
    ⟨_, rfl, ⟨_, _, _, _, _, _, _, rfl, RepQ.set10 (N := W1.heap.size) (hv'.later hbg) (by omega) (by omega)⟩, set10_below (hb1.trans (hbx.mono hb1.size)) (by omega)⟩

set_option maxRecDepth 100000 in
set_option maxHeartbeats 3200000 in
theorem rt_kind {w0 : World} {o : Out} {k : Int} {m b : Int} {t : ByteArray} {a : Option Addr} {l cap : Nat} {k' m' b' : Int} {t' : ByteArray} {a' : Option Addr} {l' cap' : Nat} {n : Int} (HO : ∀ W, Below w0.heap.size w0 W → Calls Tryz.prog 23 #[(.agg #[.int .i64 k, .int .i64 m, .int .u64 b, .string t, .slice a l cap]), .int .i64 n] W fun x w' => ∃ v', x = .returned v' ∧ ResV w' (fun b => W.heap.size ≤ b) v' o ∧ Below W.heap.size W w') (w : World) (hb0 : Below w0.heap.size w0 w) :
    Calls Tryz.prog 15 #[(.agg #[.int .i64 2, .int .i64 k, .int .i64 m, .int .u64 b, .string t, .slice a l cap, .int .i64 k', .int .i64 m', .int .u64 b', .string t', .slice a' l' cap', .int .i64 n])] w fun x w' => ∃ v', x = .returned v' ∧ ResV w' (fun b => w.heap.size ≤ b) v' o ∧ Below w.heap.size w w' := by
  have HH := Lib.hid HO
  have HB := Lib.hid hb0
  clear HO hb0
  obtain ⟨W1, hW1, hb1, hz, hx1, hx2⟩ := act_worlds w (.int .i64 2) (.int .i64 k) (.int .i64 m) (.int .u64 b) (.string t) (.slice a l cap) (.int .i64 k') (.int .i64 m') (.int .u64 b') (.string t') (.slice a' l' cap') (.int .i64 n)
  have p0 : W1.cell? ⟨w.heap.size, 0, none⟩ = some (.int .i64 2) := hx1.cell 0 rfl
  have p1 : W1.cell? ⟨w.heap.size, 1, none⟩ = some (.int .i64 k) := hx1.cell 1 rfl
  have p2 : W1.cell? ⟨w.heap.size, 2, none⟩ = some (.int .i64 m) := hx1.cell 2 rfl
  have p3 : W1.cell? ⟨w.heap.size, 3, none⟩ = some (.int .u64 b) := hx1.cell 3 rfl
  have p4 : W1.cell? ⟨w.heap.size, 4, none⟩ = some (.string t) := hx1.cell 4 rfl
  have p5 : W1.cell? ⟨w.heap.size, 5, none⟩ = some (.slice a l cap) := hx1.cell 5 rfl
  have p6 : W1.cell? ⟨w.heap.size, 6, none⟩ = some (.int .i64 k') := hx1.cell 6 rfl
  have p7 : W1.cell? ⟨w.heap.size, 7, none⟩ = some (.int .i64 m') := hx1.cell 7 rfl
  have p8 : W1.cell? ⟨w.heap.size, 8, none⟩ = some (.int .u64 b') := hx1.cell 8 rfl
  have p9 : W1.cell? ⟨w.heap.size, 9, none⟩ = some (.string t') := hx1.cell 9 rfl
  have p10 : W1.cell? ⟨w.heap.size, 10, none⟩ = some (.slice a' l' cap') := hx1.cell 10 rfl
  have p11 : W1.cell? ⟨w.heap.size, 11, none⟩ = some (.int .i64 n) := hx1.cell 11 rfl
  have q0 : W1.cell? ⟨w.heap.size + 1, 0, none⟩ = some (.int .i64 0) := hx2.cell 0 rfl
  have fq0 := hx2.thaw 0
  have q1 : W1.cell? ⟨w.heap.size + 1, 1, none⟩ = some (.int .i64 0) := hx2.cell 1 rfl
  have fq1 := hx2.thaw 1
  have q2 : W1.cell? ⟨w.heap.size + 1, 2, none⟩ = some (.int .i64 0) := hx2.cell 2 rfl
  have fq2 := hx2.thaw 2
  have q3 : W1.cell? ⟨w.heap.size + 1, 3, none⟩ = some (.int .i64 0) := hx2.cell 3 rfl
  have fq3 := hx2.thaw 3
  have q4 : W1.cell? ⟨w.heap.size + 1, 4, none⟩ = some (.bool false) := hx2.cell 4 rfl
  have fq4 := hx2.thaw 4
  have q5 : W1.cell? ⟨w.heap.size + 1, 5, none⟩ = some (.int .i64 0) := hx2.cell 5 rfl
  have fq5 := hx2.thaw 5
  have q6 : W1.cell? ⟨w.heap.size + 1, 6, none⟩ = some (.int .i64 0) := hx2.cell 6 rfl
  have fq6 := hx2.thaw 6
  have q7 : W1.cell? ⟨w.heap.size + 1, 7, none⟩ = some (.int .u64 0) := hx2.cell 7 rfl
  have fq7 := hx2.thaw 7
  have q8 : W1.cell? ⟨w.heap.size + 1, 8, none⟩ = some (.string ⟨#[]⟩) := hx2.cell 8 rfl
  have fq8 := hx2.thaw 8
  have q9 : W1.cell? ⟨w.heap.size + 1, 9, none⟩ = some (.slice none 0 0) := hx2.cell 9 rfl
  have fq9 := hx2.thaw 9
  go_enter Tryz.func15, Tryz.ntmps15
  go_upto_region 1 with fail
  rw [← hW1]
  clear hW1
  go_wp2_with (go_at_call 23; refine (HH.out _ (HB.out.trans (hb1.mono HB.out.size))).mono ?_; rintro e w2 ⟨v', rfl, hv', hbx⟩; obtain ⟨r0, r1, r2, r3, r4, k5, m5, b5, t5, a5, n5, cap5, rfl⟩ := hv'.form; have hy := hx2.later hbx; have z0 : w2.cell? ⟨w.heap.size + 1, 0, none⟩ = some (.int .i64 0) := hy.cell 0 rfl; have fz0 := hy.thaw 0; have z1 : w2.cell? ⟨w.heap.size + 1, 1, none⟩ = some (.int .i64 0) := hy.cell 1 rfl; have fz1 := hy.thaw 1; have z2 : w2.cell? ⟨w.heap.size + 1, 2, none⟩ = some (.int .i64 0) := hy.cell 2 rfl; have fz2 := hy.thaw 2; have z3 : w2.cell? ⟨w.heap.size + 1, 3, none⟩ = some (.int .i64 0) := hy.cell 3 rfl; have fz3 := hy.thaw 3; have z4 : w2.cell? ⟨w.heap.size + 1, 4, none⟩ = some (.bool false) := hy.cell 4 rfl; have fz4 := hy.thaw 4; have z5 : w2.cell? ⟨w.heap.size + 1, 5, none⟩ = some (.int .i64 0) := hy.cell 5 rfl; have fz5 := hy.thaw 5; have z6 : w2.cell? ⟨w.heap.size + 1, 6, none⟩ = some (.int .i64 0) := hy.cell 6 rfl; have fz6 := hy.thaw 6; have z7 : w2.cell? ⟨w.heap.size + 1, 7, none⟩ = some (.int .u64 0) := hy.cell 7 rfl; have fz7 := hy.thaw 7; have z8 : w2.cell? ⟨w.heap.size + 1, 8, none⟩ = some (.string ⟨#[]⟩) := hy.cell 8 rfl; have fz8 := hy.thaw 8; have z9 : w2.cell? ⟨w.heap.size + 1, 9, none⟩ = some (.slice none 0 0) := hy.cell 9 rfl; have fz9 := hy.thaw 9; dsimp only)
  have hzo := hz.out
  exact bodyPost_ret (results_cell_row rfl _ _ (w.heap.size + 1) 42 _ (0, 0) _ rfl (hy.set10 _ _ _ _ _ _ _ _ _ _) Tryz.underlying42 rfl (by kernel_rfl)) rfl
    ⟨_, rfl, ResV.set10 (N := W1.heap.size) hv' (by omega) (by omega), set10_below (hb1.trans (hbx.mono hb1.size)) (by omega)⟩

set_option maxRecDepth 100000 in
set_option maxHeartbeats 3200000 in
theorem rt_face {w0 : World} {o : Out} {k : Int} {m b : Int} {t : ByteArray} {a : Option Addr} {l cap : Nat} {k' m' b' : Int} {t' : ByteArray} {a' : Option Addr} {l' cap' : Nat} {n : Int} (HO : ∀ W, Below w0.heap.size w0 W → Calls Tryz.prog 24 #[(.agg #[.int .i64 k, .int .i64 m, .int .u64 b, .string t, .slice a l cap]), .int .i64 n] W fun x w' => ∃ v', x = .returned v' ∧ ResV w' (fun b => W.heap.size ≤ b) v' o ∧ Below W.heap.size W w') (w : World) (hb0 : Below w0.heap.size w0 w) :
    Calls Tryz.prog 15 #[(.agg #[.int .i64 3, .int .i64 k, .int .i64 m, .int .u64 b, .string t, .slice a l cap, .int .i64 k', .int .i64 m', .int .u64 b', .string t', .slice a' l' cap', .int .i64 n])] w fun x w' => ∃ v', x = .returned v' ∧ ResV w' (fun b => w.heap.size ≤ b) v' o ∧ Below w.heap.size w w' := by
  have HH := Lib.hid HO
  have HB := Lib.hid hb0
  clear HO hb0
  obtain ⟨W1, hW1, hb1, hz, hx1, hx2⟩ := act_worlds w (.int .i64 3) (.int .i64 k) (.int .i64 m) (.int .u64 b) (.string t) (.slice a l cap) (.int .i64 k') (.int .i64 m') (.int .u64 b') (.string t') (.slice a' l' cap') (.int .i64 n)
  have p0 : W1.cell? ⟨w.heap.size, 0, none⟩ = some (.int .i64 3) := hx1.cell 0 rfl
  have p1 : W1.cell? ⟨w.heap.size, 1, none⟩ = some (.int .i64 k) := hx1.cell 1 rfl
  have p2 : W1.cell? ⟨w.heap.size, 2, none⟩ = some (.int .i64 m) := hx1.cell 2 rfl
  have p3 : W1.cell? ⟨w.heap.size, 3, none⟩ = some (.int .u64 b) := hx1.cell 3 rfl
  have p4 : W1.cell? ⟨w.heap.size, 4, none⟩ = some (.string t) := hx1.cell 4 rfl
  have p5 : W1.cell? ⟨w.heap.size, 5, none⟩ = some (.slice a l cap) := hx1.cell 5 rfl
  have p6 : W1.cell? ⟨w.heap.size, 6, none⟩ = some (.int .i64 k') := hx1.cell 6 rfl
  have p7 : W1.cell? ⟨w.heap.size, 7, none⟩ = some (.int .i64 m') := hx1.cell 7 rfl
  have p8 : W1.cell? ⟨w.heap.size, 8, none⟩ = some (.int .u64 b') := hx1.cell 8 rfl
  have p9 : W1.cell? ⟨w.heap.size, 9, none⟩ = some (.string t') := hx1.cell 9 rfl
  have p10 : W1.cell? ⟨w.heap.size, 10, none⟩ = some (.slice a' l' cap') := hx1.cell 10 rfl
  have p11 : W1.cell? ⟨w.heap.size, 11, none⟩ = some (.int .i64 n) := hx1.cell 11 rfl
  have q0 : W1.cell? ⟨w.heap.size + 1, 0, none⟩ = some (.int .i64 0) := hx2.cell 0 rfl
  have fq0 := hx2.thaw 0
  have q1 : W1.cell? ⟨w.heap.size + 1, 1, none⟩ = some (.int .i64 0) := hx2.cell 1 rfl
  have fq1 := hx2.thaw 1
  have q2 : W1.cell? ⟨w.heap.size + 1, 2, none⟩ = some (.int .i64 0) := hx2.cell 2 rfl
  have fq2 := hx2.thaw 2
  have q3 : W1.cell? ⟨w.heap.size + 1, 3, none⟩ = some (.int .i64 0) := hx2.cell 3 rfl
  have fq3 := hx2.thaw 3
  have q4 : W1.cell? ⟨w.heap.size + 1, 4, none⟩ = some (.bool false) := hx2.cell 4 rfl
  have fq4 := hx2.thaw 4
  have q5 : W1.cell? ⟨w.heap.size + 1, 5, none⟩ = some (.int .i64 0) := hx2.cell 5 rfl
  have fq5 := hx2.thaw 5
  have q6 : W1.cell? ⟨w.heap.size + 1, 6, none⟩ = some (.int .i64 0) := hx2.cell 6 rfl
  have fq6 := hx2.thaw 6
  have q7 : W1.cell? ⟨w.heap.size + 1, 7, none⟩ = some (.int .u64 0) := hx2.cell 7 rfl
  have fq7 := hx2.thaw 7
  have q8 : W1.cell? ⟨w.heap.size + 1, 8, none⟩ = some (.string ⟨#[]⟩) := hx2.cell 8 rfl
  have fq8 := hx2.thaw 8
  have q9 : W1.cell? ⟨w.heap.size + 1, 9, none⟩ = some (.slice none 0 0) := hx2.cell 9 rfl
  have fq9 := hx2.thaw 9
  go_enter Tryz.func15, Tryz.ntmps15
  go_upto_region 1 with fail
  rw [← hW1]
  clear hW1
  go_wp2_with (go_at_call 24; refine (HH.out _ (HB.out.trans (hb1.mono HB.out.size))).mono ?_; rintro e w2 ⟨v', rfl, hv', hbx⟩; obtain ⟨r0, r1, r2, r3, r4, k5, m5, b5, t5, a5, n5, cap5, rfl⟩ := hv'.form; have hy := hx2.later hbx; have z0 : w2.cell? ⟨w.heap.size + 1, 0, none⟩ = some (.int .i64 0) := hy.cell 0 rfl; have fz0 := hy.thaw 0; have z1 : w2.cell? ⟨w.heap.size + 1, 1, none⟩ = some (.int .i64 0) := hy.cell 1 rfl; have fz1 := hy.thaw 1; have z2 : w2.cell? ⟨w.heap.size + 1, 2, none⟩ = some (.int .i64 0) := hy.cell 2 rfl; have fz2 := hy.thaw 2; have z3 : w2.cell? ⟨w.heap.size + 1, 3, none⟩ = some (.int .i64 0) := hy.cell 3 rfl; have fz3 := hy.thaw 3; have z4 : w2.cell? ⟨w.heap.size + 1, 4, none⟩ = some (.bool false) := hy.cell 4 rfl; have fz4 := hy.thaw 4; have z5 : w2.cell? ⟨w.heap.size + 1, 5, none⟩ = some (.int .i64 0) := hy.cell 5 rfl; have fz5 := hy.thaw 5; have z6 : w2.cell? ⟨w.heap.size + 1, 6, none⟩ = some (.int .i64 0) := hy.cell 6 rfl; have fz6 := hy.thaw 6; have z7 : w2.cell? ⟨w.heap.size + 1, 7, none⟩ = some (.int .u64 0) := hy.cell 7 rfl; have fz7 := hy.thaw 7; have z8 : w2.cell? ⟨w.heap.size + 1, 8, none⟩ = some (.string ⟨#[]⟩) := hy.cell 8 rfl; have fz8 := hy.thaw 8; have z9 : w2.cell? ⟨w.heap.size + 1, 9, none⟩ = some (.slice none 0 0) := hy.cell 9 rfl; have fz9 := hy.thaw 9; dsimp only)
  have hzo := hz.out
  exact bodyPost_ret (results_cell_row rfl _ _ (w.heap.size + 1) 42 _ (0, 0) _ rfl (hy.set10 _ _ _ _ _ _ _ _ _ _) Tryz.underlying42 rfl (by kernel_rfl)) rfl
    ⟨_, rfl, ResV.set10 (N := W1.heap.size) hv' (by omega) (by omega), set10_below (hb1.trans (hbx.mono hb1.size)) (by omega)⟩

set_option maxRecDepth 100000 in
set_option maxHeartbeats 3200000 in
theorem rt_open {w0 : World} {o : Out} {k : Int} {m b : Int} {t : ByteArray} {a : Option Addr} {l cap : Nat} {k' m' b' : Int} {t' : ByteArray} {a' : Option Addr} {l' cap' : Nat} {n : Int} (HO : ∀ W, Below w0.heap.size w0 W → Calls Tryz.prog 26 #[(.agg #[.int .i64 k, .int .i64 m, .int .u64 b, .string t, .slice a l cap])] W fun x w' => ∃ v', x = .returned v' ∧ ResV w' (fun b => W.heap.size ≤ b) v' o ∧ Below W.heap.size W w') (w : World) (hb0 : Below w0.heap.size w0 w) :
    Calls Tryz.prog 15 #[(.agg #[.int .i64 5, .int .i64 k, .int .i64 m, .int .u64 b, .string t, .slice a l cap, .int .i64 k', .int .i64 m', .int .u64 b', .string t', .slice a' l' cap', .int .i64 n])] w fun x w' => ∃ v', x = .returned v' ∧ ResV w' (fun b => w.heap.size ≤ b) v' o ∧ Below w.heap.size w w' := by
  have HH := Lib.hid HO
  have HB := Lib.hid hb0
  clear HO hb0
  obtain ⟨W1, hW1, hb1, hz, hx1, hx2⟩ := act_worlds w (.int .i64 5) (.int .i64 k) (.int .i64 m) (.int .u64 b) (.string t) (.slice a l cap) (.int .i64 k') (.int .i64 m') (.int .u64 b') (.string t') (.slice a' l' cap') (.int .i64 n)
  have p0 : W1.cell? ⟨w.heap.size, 0, none⟩ = some (.int .i64 5) := hx1.cell 0 rfl
  have p1 : W1.cell? ⟨w.heap.size, 1, none⟩ = some (.int .i64 k) := hx1.cell 1 rfl
  have p2 : W1.cell? ⟨w.heap.size, 2, none⟩ = some (.int .i64 m) := hx1.cell 2 rfl
  have p3 : W1.cell? ⟨w.heap.size, 3, none⟩ = some (.int .u64 b) := hx1.cell 3 rfl
  have p4 : W1.cell? ⟨w.heap.size, 4, none⟩ = some (.string t) := hx1.cell 4 rfl
  have p5 : W1.cell? ⟨w.heap.size, 5, none⟩ = some (.slice a l cap) := hx1.cell 5 rfl
  have p6 : W1.cell? ⟨w.heap.size, 6, none⟩ = some (.int .i64 k') := hx1.cell 6 rfl
  have p7 : W1.cell? ⟨w.heap.size, 7, none⟩ = some (.int .i64 m') := hx1.cell 7 rfl
  have p8 : W1.cell? ⟨w.heap.size, 8, none⟩ = some (.int .u64 b') := hx1.cell 8 rfl
  have p9 : W1.cell? ⟨w.heap.size, 9, none⟩ = some (.string t') := hx1.cell 9 rfl
  have p10 : W1.cell? ⟨w.heap.size, 10, none⟩ = some (.slice a' l' cap') := hx1.cell 10 rfl
  have p11 : W1.cell? ⟨w.heap.size, 11, none⟩ = some (.int .i64 n) := hx1.cell 11 rfl
  have q0 : W1.cell? ⟨w.heap.size + 1, 0, none⟩ = some (.int .i64 0) := hx2.cell 0 rfl
  have fq0 := hx2.thaw 0
  have q1 : W1.cell? ⟨w.heap.size + 1, 1, none⟩ = some (.int .i64 0) := hx2.cell 1 rfl
  have fq1 := hx2.thaw 1
  have q2 : W1.cell? ⟨w.heap.size + 1, 2, none⟩ = some (.int .i64 0) := hx2.cell 2 rfl
  have fq2 := hx2.thaw 2
  have q3 : W1.cell? ⟨w.heap.size + 1, 3, none⟩ = some (.int .i64 0) := hx2.cell 3 rfl
  have fq3 := hx2.thaw 3
  have q4 : W1.cell? ⟨w.heap.size + 1, 4, none⟩ = some (.bool false) := hx2.cell 4 rfl
  have fq4 := hx2.thaw 4
  have q5 : W1.cell? ⟨w.heap.size + 1, 5, none⟩ = some (.int .i64 0) := hx2.cell 5 rfl
  have fq5 := hx2.thaw 5
  have q6 : W1.cell? ⟨w.heap.size + 1, 6, none⟩ = some (.int .i64 0) := hx2.cell 6 rfl
  have fq6 := hx2.thaw 6
  have q7 : W1.cell? ⟨w.heap.size + 1, 7, none⟩ = some (.int .u64 0) := hx2.cell 7 rfl
  have fq7 := hx2.thaw 7
  have q8 : W1.cell? ⟨w.heap.size + 1, 8, none⟩ = some (.string ⟨#[]⟩) := hx2.cell 8 rfl
  have fq8 := hx2.thaw 8
  have q9 : W1.cell? ⟨w.heap.size + 1, 9, none⟩ = some (.slice none 0 0) := hx2.cell 9 rfl
  have fq9 := hx2.thaw 9
  go_enter Tryz.func15, Tryz.ntmps15
  go_upto_region 1 with fail
  rw [← hW1]
  clear hW1
  go_wp2_with (go_at_call 26; refine (HH.out _ (HB.out.trans (hb1.mono HB.out.size))).mono ?_; rintro e w2 ⟨v', rfl, hv', hbx⟩; obtain ⟨r0, r1, r2, r3, r4, k5, m5, b5, t5, a5, n5, cap5, rfl⟩ := hv'.form; have hy := hx2.later hbx; have z0 : w2.cell? ⟨w.heap.size + 1, 0, none⟩ = some (.int .i64 0) := hy.cell 0 rfl; have fz0 := hy.thaw 0; have z1 : w2.cell? ⟨w.heap.size + 1, 1, none⟩ = some (.int .i64 0) := hy.cell 1 rfl; have fz1 := hy.thaw 1; have z2 : w2.cell? ⟨w.heap.size + 1, 2, none⟩ = some (.int .i64 0) := hy.cell 2 rfl; have fz2 := hy.thaw 2; have z3 : w2.cell? ⟨w.heap.size + 1, 3, none⟩ = some (.int .i64 0) := hy.cell 3 rfl; have fz3 := hy.thaw 3; have z4 : w2.cell? ⟨w.heap.size + 1, 4, none⟩ = some (.bool false) := hy.cell 4 rfl; have fz4 := hy.thaw 4; have z5 : w2.cell? ⟨w.heap.size + 1, 5, none⟩ = some (.int .i64 0) := hy.cell 5 rfl; have fz5 := hy.thaw 5; have z6 : w2.cell? ⟨w.heap.size + 1, 6, none⟩ = some (.int .i64 0) := hy.cell 6 rfl; have fz6 := hy.thaw 6; have z7 : w2.cell? ⟨w.heap.size + 1, 7, none⟩ = some (.int .u64 0) := hy.cell 7 rfl; have fz7 := hy.thaw 7; have z8 : w2.cell? ⟨w.heap.size + 1, 8, none⟩ = some (.string ⟨#[]⟩) := hy.cell 8 rfl; have fz8 := hy.thaw 8; have z9 : w2.cell? ⟨w.heap.size + 1, 9, none⟩ = some (.slice none 0 0) := hy.cell 9 rfl; have fz9 := hy.thaw 9; dsimp only)
  have hzo := hz.out
  exact bodyPost_ret (results_cell_row rfl _ _ (w.heap.size + 1) 42 _ (0, 0) _ rfl (hy.set10 _ _ _ _ _ _ _ _ _ _) Tryz.underlying42 rfl (by kernel_rfl)) rfl
    ⟨_, rfl, ResV.set10 (N := W1.heap.size) hv' (by omega) (by omega), set10_below (hb1.trans (hbx.mono hb1.size)) (by omega)⟩

set_option maxRecDepth 100000 in
set_option maxHeartbeats 3200000 in
theorem rt_index_kind {k : Int} {m b : Int} {t : ByteArray} {a : Option Addr} {l cap : Nat} {k' m' b' : Int} {t' : ByteArray} {a' : Option Addr} {l' cap' : Nat} {n : Int} (h : k ≠ 8) (w : World) :
    Calls Tryz.prog 15 #[(.agg #[.int .i64 4, .int .i64 k, .int .i64 m, .int .u64 b, .string t, .slice a l cap, .int .i64 k', .int .i64 m', .int .u64 b', .string t', .slice a' l' cap', .int .i64 n])] w fun x w' => ∃ v', x = .returned v' ∧ ResV w' (fun b => w.heap.size ≤ b) v' (.pan 2 k) ∧ Below w.heap.size w w' := by
  obtain ⟨W1, hW1, hb1, hz, hx1, hx2⟩ := act_worlds w (.int .i64 4) (.int .i64 k) (.int .i64 m) (.int .u64 b) (.string t) (.slice a l cap) (.int .i64 k') (.int .i64 m') (.int .u64 b') (.string t') (.slice a' l' cap') (.int .i64 n)
  have p0 : W1.cell? ⟨w.heap.size, 0, none⟩ = some (.int .i64 4) := hx1.cell 0 rfl
  have p1 : W1.cell? ⟨w.heap.size, 1, none⟩ = some (.int .i64 k) := hx1.cell 1 rfl
  have p2 : W1.cell? ⟨w.heap.size, 2, none⟩ = some (.int .i64 m) := hx1.cell 2 rfl
  have p3 : W1.cell? ⟨w.heap.size, 3, none⟩ = some (.int .u64 b) := hx1.cell 3 rfl
  have p4 : W1.cell? ⟨w.heap.size, 4, none⟩ = some (.string t) := hx1.cell 4 rfl
  have p5 : W1.cell? ⟨w.heap.size, 5, none⟩ = some (.slice a l cap) := hx1.cell 5 rfl
  have p6 : W1.cell? ⟨w.heap.size, 6, none⟩ = some (.int .i64 k') := hx1.cell 6 rfl
  have p7 : W1.cell? ⟨w.heap.size, 7, none⟩ = some (.int .i64 m') := hx1.cell 7 rfl
  have p8 : W1.cell? ⟨w.heap.size, 8, none⟩ = some (.int .u64 b') := hx1.cell 8 rfl
  have p9 : W1.cell? ⟨w.heap.size, 9, none⟩ = some (.string t') := hx1.cell 9 rfl
  have p10 : W1.cell? ⟨w.heap.size, 10, none⟩ = some (.slice a' l' cap') := hx1.cell 10 rfl
  have p11 : W1.cell? ⟨w.heap.size, 11, none⟩ = some (.int .i64 n) := hx1.cell 11 rfl
  have q0 : W1.cell? ⟨w.heap.size + 1, 0, none⟩ = some (.int .i64 0) := hx2.cell 0 rfl
  have fq0 := hx2.thaw 0
  have q1 : W1.cell? ⟨w.heap.size + 1, 1, none⟩ = some (.int .i64 0) := hx2.cell 1 rfl
  have fq1 := hx2.thaw 1
  have q2 : W1.cell? ⟨w.heap.size + 1, 2, none⟩ = some (.int .i64 0) := hx2.cell 2 rfl
  have fq2 := hx2.thaw 2
  have q3 : W1.cell? ⟨w.heap.size + 1, 3, none⟩ = some (.int .i64 0) := hx2.cell 3 rfl
  have fq3 := hx2.thaw 3
  have q4 : W1.cell? ⟨w.heap.size + 1, 4, none⟩ = some (.bool false) := hx2.cell 4 rfl
  have fq4 := hx2.thaw 4
  have q5 : W1.cell? ⟨w.heap.size + 1, 5, none⟩ = some (.int .i64 0) := hx2.cell 5 rfl
  have fq5 := hx2.thaw 5
  have q6 : W1.cell? ⟨w.heap.size + 1, 6, none⟩ = some (.int .i64 0) := hx2.cell 6 rfl
  have fq6 := hx2.thaw 6
  have q7 : W1.cell? ⟨w.heap.size + 1, 7, none⟩ = some (.int .u64 0) := hx2.cell 7 rfl
  have fq7 := hx2.thaw 7
  have q8 : W1.cell? ⟨w.heap.size + 1, 8, none⟩ = some (.string ⟨#[]⟩) := hx2.cell 8 rfl
  have fq8 := hx2.thaw 8
  have q9 : W1.cell? ⟨w.heap.size + 1, 9, none⟩ = some (.slice none 0 0) := hx2.cell 9 rfl
  have fq9 := hx2.thaw 9
  go_enter Tryz.func15, Tryz.ntmps15
  go_upto_region 1 with fail
  rw [← hW1]
  clear hW1
  go_wp2_with ((go_at_call 25; refine (rpan_v _ _ _).mono ?_; rintro e w2 ⟨rfl, hbx⟩; have hy := hx2.later hbx; have z0 : w2.cell? ⟨w.heap.size + 1, 0, none⟩ = some (.int .i64 0) := hy.cell 0 rfl; have fz0 := hy.thaw 0; have z1 : w2.cell? ⟨w.heap.size + 1, 1, none⟩ = some (.int .i64 0) := hy.cell 1 rfl; have fz1 := hy.thaw 1; have z2 : w2.cell? ⟨w.heap.size + 1, 2, none⟩ = some (.int .i64 0) := hy.cell 2 rfl; have fz2 := hy.thaw 2; have z3 : w2.cell? ⟨w.heap.size + 1, 3, none⟩ = some (.int .i64 0) := hy.cell 3 rfl; have fz3 := hy.thaw 3; have z4 : w2.cell? ⟨w.heap.size + 1, 4, none⟩ = some (.bool false) := hy.cell 4 rfl; have fz4 := hy.thaw 4; have z5 : w2.cell? ⟨w.heap.size + 1, 5, none⟩ = some (.int .i64 0) := hy.cell 5 rfl; have fz5 := hy.thaw 5; have z6 : w2.cell? ⟨w.heap.size + 1, 6, none⟩ = some (.int .i64 0) := hy.cell 6 rfl; have fz6 := hy.thaw 6; have z7 : w2.cell? ⟨w.heap.size + 1, 7, none⟩ = some (.int .u64 0) := hy.cell 7 rfl; have fz7 := hy.thaw 7; have z8 : w2.cell? ⟨w.heap.size + 1, 8, none⟩ = some (.string ⟨#[]⟩) := hy.cell 8 rfl; have fz8 := hy.thaw 8; have z9 : w2.cell? ⟨w.heap.size + 1, 9, none⟩ = some (.slice none 0 0) := hy.cell 9 rfl; have fz9 := hy.thaw 9; dsimp only))
  have hzo := hz.out
  exact bodyPost_ret (results_cell_row rfl _ _ (w.heap.size + 1) 42 _ (0, 0) _ rfl (hy.set10 _ _ _ _ _ _ _ _ _ _) Tryz.underlying42 rfl (by kernel_rfl)) rfl
    ⟨_, rfl, rfl, set10_below (hb1.trans (hbx.mono hb1.size)) (by omega)⟩

set_option maxRecDepth 100000 in
set_option maxHeartbeats 3200000 in
theorem rt_index_neg {m b : Int} {t : ByteArray} {a : Option Addr} {l cap : Nat} {k' m' b' : Int} {t' : ByteArray} {a' : Option Addr} {l' cap' : Nat} {n : Int} (h : n < 0) (w : World) :
    Calls Tryz.prog 15 #[(.agg #[.int .i64 4, .int .i64 8, .int .i64 m, .int .u64 b, .string t, .slice a l cap, .int .i64 k', .int .i64 m', .int .u64 b', .string t', .slice a' l' cap', .int .i64 n])] w fun x w' => ∃ v', x = .returned v' ∧ ResV w' (fun b => w.heap.size ≤ b) v' (.pan 4 n) ∧ Below w.heap.size w w' := by
  obtain ⟨W1, hW1, hb1, hz, hx1, hx2⟩ := act_worlds w (.int .i64 4) (.int .i64 8) (.int .i64 m) (.int .u64 b) (.string t) (.slice a l cap) (.int .i64 k') (.int .i64 m') (.int .u64 b') (.string t') (.slice a' l' cap') (.int .i64 n)
  have p0 : W1.cell? ⟨w.heap.size, 0, none⟩ = some (.int .i64 4) := hx1.cell 0 rfl
  have p1 : W1.cell? ⟨w.heap.size, 1, none⟩ = some (.int .i64 8) := hx1.cell 1 rfl
  have p2 : W1.cell? ⟨w.heap.size, 2, none⟩ = some (.int .i64 m) := hx1.cell 2 rfl
  have p3 : W1.cell? ⟨w.heap.size, 3, none⟩ = some (.int .u64 b) := hx1.cell 3 rfl
  have p4 : W1.cell? ⟨w.heap.size, 4, none⟩ = some (.string t) := hx1.cell 4 rfl
  have p5 : W1.cell? ⟨w.heap.size, 5, none⟩ = some (.slice a l cap) := hx1.cell 5 rfl
  have p6 : W1.cell? ⟨w.heap.size, 6, none⟩ = some (.int .i64 k') := hx1.cell 6 rfl
  have p7 : W1.cell? ⟨w.heap.size, 7, none⟩ = some (.int .i64 m') := hx1.cell 7 rfl
  have p8 : W1.cell? ⟨w.heap.size, 8, none⟩ = some (.int .u64 b') := hx1.cell 8 rfl
  have p9 : W1.cell? ⟨w.heap.size, 9, none⟩ = some (.string t') := hx1.cell 9 rfl
  have p10 : W1.cell? ⟨w.heap.size, 10, none⟩ = some (.slice a' l' cap') := hx1.cell 10 rfl
  have p11 : W1.cell? ⟨w.heap.size, 11, none⟩ = some (.int .i64 n) := hx1.cell 11 rfl
  have q0 : W1.cell? ⟨w.heap.size + 1, 0, none⟩ = some (.int .i64 0) := hx2.cell 0 rfl
  have fq0 := hx2.thaw 0
  have q1 : W1.cell? ⟨w.heap.size + 1, 1, none⟩ = some (.int .i64 0) := hx2.cell 1 rfl
  have fq1 := hx2.thaw 1
  have q2 : W1.cell? ⟨w.heap.size + 1, 2, none⟩ = some (.int .i64 0) := hx2.cell 2 rfl
  have fq2 := hx2.thaw 2
  have q3 : W1.cell? ⟨w.heap.size + 1, 3, none⟩ = some (.int .i64 0) := hx2.cell 3 rfl
  have fq3 := hx2.thaw 3
  have q4 : W1.cell? ⟨w.heap.size + 1, 4, none⟩ = some (.bool false) := hx2.cell 4 rfl
  have fq4 := hx2.thaw 4
  have q5 : W1.cell? ⟨w.heap.size + 1, 5, none⟩ = some (.int .i64 0) := hx2.cell 5 rfl
  have fq5 := hx2.thaw 5
  have q6 : W1.cell? ⟨w.heap.size + 1, 6, none⟩ = some (.int .i64 0) := hx2.cell 6 rfl
  have fq6 := hx2.thaw 6
  have q7 : W1.cell? ⟨w.heap.size + 1, 7, none⟩ = some (.int .u64 0) := hx2.cell 7 rfl
  have fq7 := hx2.thaw 7
  have q8 : W1.cell? ⟨w.heap.size + 1, 8, none⟩ = some (.string ⟨#[]⟩) := hx2.cell 8 rfl
  have fq8 := hx2.thaw 8
  have q9 : W1.cell? ⟨w.heap.size + 1, 9, none⟩ = some (.slice none 0 0) := hx2.cell 9 rfl
  have fq9 := hx2.thaw 9
  go_enter Tryz.func15, Tryz.ntmps15
  go_upto_region 1 with fail
  rw [← hW1]
  clear hW1
  go_wp2_with ((go_at_call 25; refine (rpan_v _ _ _).mono ?_; rintro e w2 ⟨rfl, hbx⟩; have hy := hx2.later hbx; have z0 : w2.cell? ⟨w.heap.size + 1, 0, none⟩ = some (.int .i64 0) := hy.cell 0 rfl; have fz0 := hy.thaw 0; have z1 : w2.cell? ⟨w.heap.size + 1, 1, none⟩ = some (.int .i64 0) := hy.cell 1 rfl; have fz1 := hy.thaw 1; have z2 : w2.cell? ⟨w.heap.size + 1, 2, none⟩ = some (.int .i64 0) := hy.cell 2 rfl; have fz2 := hy.thaw 2; have z3 : w2.cell? ⟨w.heap.size + 1, 3, none⟩ = some (.int .i64 0) := hy.cell 3 rfl; have fz3 := hy.thaw 3; have z4 : w2.cell? ⟨w.heap.size + 1, 4, none⟩ = some (.bool false) := hy.cell 4 rfl; have fz4 := hy.thaw 4; have z5 : w2.cell? ⟨w.heap.size + 1, 5, none⟩ = some (.int .i64 0) := hy.cell 5 rfl; have fz5 := hy.thaw 5; have z6 : w2.cell? ⟨w.heap.size + 1, 6, none⟩ = some (.int .i64 0) := hy.cell 6 rfl; have fz6 := hy.thaw 6; have z7 : w2.cell? ⟨w.heap.size + 1, 7, none⟩ = some (.int .u64 0) := hy.cell 7 rfl; have fz7 := hy.thaw 7; have z8 : w2.cell? ⟨w.heap.size + 1, 8, none⟩ = some (.string ⟨#[]⟩) := hy.cell 8 rfl; have fz8 := hy.thaw 8; have z9 : w2.cell? ⟨w.heap.size + 1, 9, none⟩ = some (.slice none 0 0) := hy.cell 9 rfl; have fz9 := hy.thaw 9; dsimp only))
  have hzo := hz.out
  exact bodyPost_ret (results_cell_row rfl _ _ (w.heap.size + 1) 42 _ (0, 0) _ rfl (hy.set10 _ _ _ _ _ _ _ _ _ _) Tryz.underlying42 rfl (by kernel_rfl)) rfl
    ⟨_, rfl, rfl, set10_below (hb1.trans (hbx.mono hb1.size)) (by omega)⟩

set_option maxRecDepth 100000 in
set_option maxHeartbeats 3200000 in
theorem rt_index_out {m b : Int} {t : ByteArray} {a : Option Addr} {l cap : Nat} {k' m' b' : Int} {t' : ByteArray} {a' : Option Addr} {l' cap' : Nat} {n : Int} (h : ¬ n < 0) (h2 : (l : Int) ≤ n) (w : World) :
    Calls Tryz.prog 15 #[(.agg #[.int .i64 4, .int .i64 8, .int .i64 m, .int .u64 b, .string t, .slice a l cap, .int .i64 k', .int .i64 m', .int .u64 b', .string t', .slice a' l' cap', .int .i64 n])] w fun x w' => ∃ v', x = .returned v' ∧ ResV w' (fun b => w.heap.size ≤ b) v' (.pan 4 n) ∧ Below w.heap.size w w' := by
  obtain ⟨W1, hW1, hb1, hz, hx1, hx2⟩ := act_worlds w (.int .i64 4) (.int .i64 8) (.int .i64 m) (.int .u64 b) (.string t) (.slice a l cap) (.int .i64 k') (.int .i64 m') (.int .u64 b') (.string t') (.slice a' l' cap') (.int .i64 n)
  have p0 : W1.cell? ⟨w.heap.size, 0, none⟩ = some (.int .i64 4) := hx1.cell 0 rfl
  have p1 : W1.cell? ⟨w.heap.size, 1, none⟩ = some (.int .i64 8) := hx1.cell 1 rfl
  have p2 : W1.cell? ⟨w.heap.size, 2, none⟩ = some (.int .i64 m) := hx1.cell 2 rfl
  have p3 : W1.cell? ⟨w.heap.size, 3, none⟩ = some (.int .u64 b) := hx1.cell 3 rfl
  have p4 : W1.cell? ⟨w.heap.size, 4, none⟩ = some (.string t) := hx1.cell 4 rfl
  have p5 : W1.cell? ⟨w.heap.size, 5, none⟩ = some (.slice a l cap) := hx1.cell 5 rfl
  have p6 : W1.cell? ⟨w.heap.size, 6, none⟩ = some (.int .i64 k') := hx1.cell 6 rfl
  have p7 : W1.cell? ⟨w.heap.size, 7, none⟩ = some (.int .i64 m') := hx1.cell 7 rfl
  have p8 : W1.cell? ⟨w.heap.size, 8, none⟩ = some (.int .u64 b') := hx1.cell 8 rfl
  have p9 : W1.cell? ⟨w.heap.size, 9, none⟩ = some (.string t') := hx1.cell 9 rfl
  have p10 : W1.cell? ⟨w.heap.size, 10, none⟩ = some (.slice a' l' cap') := hx1.cell 10 rfl
  have p11 : W1.cell? ⟨w.heap.size, 11, none⟩ = some (.int .i64 n) := hx1.cell 11 rfl
  have q0 : W1.cell? ⟨w.heap.size + 1, 0, none⟩ = some (.int .i64 0) := hx2.cell 0 rfl
  have fq0 := hx2.thaw 0
  have q1 : W1.cell? ⟨w.heap.size + 1, 1, none⟩ = some (.int .i64 0) := hx2.cell 1 rfl
  have fq1 := hx2.thaw 1
  have q2 : W1.cell? ⟨w.heap.size + 1, 2, none⟩ = some (.int .i64 0) := hx2.cell 2 rfl
  have fq2 := hx2.thaw 2
  have q3 : W1.cell? ⟨w.heap.size + 1, 3, none⟩ = some (.int .i64 0) := hx2.cell 3 rfl
  have fq3 := hx2.thaw 3
  have q4 : W1.cell? ⟨w.heap.size + 1, 4, none⟩ = some (.bool false) := hx2.cell 4 rfl
  have fq4 := hx2.thaw 4
  have q5 : W1.cell? ⟨w.heap.size + 1, 5, none⟩ = some (.int .i64 0) := hx2.cell 5 rfl
  have fq5 := hx2.thaw 5
  have q6 : W1.cell? ⟨w.heap.size + 1, 6, none⟩ = some (.int .i64 0) := hx2.cell 6 rfl
  have fq6 := hx2.thaw 6
  have q7 : W1.cell? ⟨w.heap.size + 1, 7, none⟩ = some (.int .u64 0) := hx2.cell 7 rfl
  have fq7 := hx2.thaw 7
  have q8 : W1.cell? ⟨w.heap.size + 1, 8, none⟩ = some (.string ⟨#[]⟩) := hx2.cell 8 rfl
  have fq8 := hx2.thaw 8
  have q9 : W1.cell? ⟨w.heap.size + 1, 9, none⟩ = some (.slice none 0 0) := hx2.cell 9 rfl
  have fq9 := hx2.thaw 9
  go_enter Tryz.func15, Tryz.ntmps15
  go_upto_region 1 with fail
  rw [← hW1]
  clear hW1
  go_wp2_with ((go_at_call 25; refine (rpan_v _ _ _).mono ?_; rintro e w2 ⟨rfl, hbx⟩; have hy := hx2.later hbx; have z0 : w2.cell? ⟨w.heap.size + 1, 0, none⟩ = some (.int .i64 0) := hy.cell 0 rfl; have fz0 := hy.thaw 0; have z1 : w2.cell? ⟨w.heap.size + 1, 1, none⟩ = some (.int .i64 0) := hy.cell 1 rfl; have fz1 := hy.thaw 1; have z2 : w2.cell? ⟨w.heap.size + 1, 2, none⟩ = some (.int .i64 0) := hy.cell 2 rfl; have fz2 := hy.thaw 2; have z3 : w2.cell? ⟨w.heap.size + 1, 3, none⟩ = some (.int .i64 0) := hy.cell 3 rfl; have fz3 := hy.thaw 3; have z4 : w2.cell? ⟨w.heap.size + 1, 4, none⟩ = some (.bool false) := hy.cell 4 rfl; have fz4 := hy.thaw 4; have z5 : w2.cell? ⟨w.heap.size + 1, 5, none⟩ = some (.int .i64 0) := hy.cell 5 rfl; have fz5 := hy.thaw 5; have z6 : w2.cell? ⟨w.heap.size + 1, 6, none⟩ = some (.int .i64 0) := hy.cell 6 rfl; have fz6 := hy.thaw 6; have z7 : w2.cell? ⟨w.heap.size + 1, 7, none⟩ = some (.int .u64 0) := hy.cell 7 rfl; have fz7 := hy.thaw 7; have z8 : w2.cell? ⟨w.heap.size + 1, 8, none⟩ = some (.string ⟨#[]⟩) := hy.cell 8 rfl; have fz8 := hy.thaw 8; have z9 : w2.cell? ⟨w.heap.size + 1, 9, none⟩ = some (.slice none 0 0) := hy.cell 9 rfl; have fz9 := hy.thaw 9; dsimp only))
  have hzo := hz.out
  exact bodyPost_ret (results_cell_row rfl _ _ (w.heap.size + 1) 42 _ (0, 0) _ rfl (hy.set10 _ _ _ _ _ _ _ _ _ _) Tryz.underlying42 rfl (by kernel_rfl)) rfl
    ⟨_, rfl, rfl, set10_below (hb1.trans (hbx.mono hb1.size)) (by omega)⟩
end Go.Proofs.YteplhhlgceppkabGreat
