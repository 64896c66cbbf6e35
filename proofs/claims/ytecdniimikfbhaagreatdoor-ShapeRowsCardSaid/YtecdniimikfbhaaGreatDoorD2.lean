/- Shape: the reference's Add of a value and itself. -/
import Derived.Test.YtecdniimikfbhaaGreatDoorD1
namespace Go.Proofs.YtecdniimikfbhaaGreatDoor
open Go Go.RowKit Go.ChangeShapes Go.WideShapes

theorem radd_worlds (w : World) (c0 c1 c2 c3 c4 d0 d1 d2 d3 d4 : Value) : ∃ W1, W1 = ((w.alloc (.cells #[c0, c1, c2, c3, c4] 25)).alloc (.cells #[d0, d1, d2, d3, d4] 25)).alloc (.cells #[.int .i64 0, .int .i64 0, .int .u64 0, .string ⟨#[]⟩, .slice none 0 0] 25) ∧ Below w.heap.size w W1 ∧ Hid (W1.heap.size = w.heap.size + 3) ∧ Row W1 w.heap.size #[c0, c1, c2, c3, c4] 25 ∧ Row W1 (w.heap.size + 1) #[d0, d1, d2, d3, d4] 25 ∧ Row W1 (w.heap.size + 2) #[.int .i64 0, .int .i64 0, .int .u64 0, .string ⟨#[]⟩, .slice none 0 0] 25 := by
  refine ⟨_, rfl, ?_, Lib.hid (by simp), ((Row.new w _ _).old _).old _, ?_, ?_⟩
  · exact (((Below.refl _ _).alloc (Nat.le_refl _) _).alloc (by simp) _).alloc (by simp; omega) _
  · refine Row.old ?_ _
    have h := Row.new (w.alloc (.cells #[c0, c1, c2, c3, c4] 25)) #[d0, d1, d2, d3, d4] 25
    simpa using h
  · have h := Row.new ((w.alloc (.cells #[c0, c1, c2, c3, c4] 25)).alloc (.cells #[d0, d1, d2, d3, d4] 25)) #[.int .i64 0, .int .i64 0, .int .u64 0, .string ⟨#[]⟩, .slice none 0 0] 25
    simpa using h
theorem radd_end {W : World} {g : Nat} {tmps : Array Value} {x0 x1 x2 x3 x4 e : Value} (hx : Row W g #[x0, x1, x2, x3, x4] 25) (h4 : tmps.getD 4 undef = .pointer (some ⟨g, 0, none⟩)) (h5 : tmps.getD 5 undef = e) :
    (results Tryz.f21 tmps).run Tryz.prog W = .ok (.tuple #[.agg #[x0, x1, x2, x3, x4], e]) W := by
  have a0 : W.cell? ⟨g, 0, none⟩ = some x0 := hx.cell 0 rfl
  have a1 : W.cell? ⟨g, 1, none⟩ = some x1 := hx.cell 1 rfl
  have a2 : W.cell? ⟨g, 2, none⟩ = some x2 := hx.cell 2 rfl
  have a3 : W.cell? ⟨g, 3, none⟩ = some x3 := hx.cell 3 rfl
  have a4 : W.cell? ⟨g, 4, none⟩ = some x4 := hx.cell 4 rfl
  have h4' : tmps[4]?.getD undef = .pointer (some ⟨g, 0, none⟩) := by simpa using h4
  have h5' : tmps[5]?.getD undef = e := by simpa using h5
  simp [results, Tryz.results21, asAddr, a0, a1, a2, a3, a4, h4', h5', go_sem]

set_option maxRecDepth 100000 in
set_option maxHeartbeats 1600000 in
theorem radd_int (m b : Int) (t : ByteArray) (a : Option Addr) (l cap : Nat) (w : World) : Calls Tryz.prog 21 #[(.agg #[.int .i64 1, .int .i64 m, .int .u64 b, .string t, .slice a l cap]), (.agg #[.int .i64 1, .int .i64 m, .int .u64 b, .string t, .slice a l cap])] w fun x w' => x = .returned (.tuple #[numV (wrap64 (m + m)), .int .i64 0]) ∧ Below w.heap.size w w' := by
  have HH := Lib.hid (fun W => has_5 1 (by omega) W)
  rw [show hasM 1 5 = true by decide] at HH
  obtain ⟨W1, hW1, hb1, hz, hx1, hx2, hx3⟩ := radd_worlds w (.int .i64 1) (.int .i64 m) (.int .u64 b) (.string t) (.slice a l cap) (.int .i64 1) (.int .i64 m) (.int .u64 b) (.string t) (.slice a l cap)
  have hzo := hz.out
  have p0 : W1.cell? ⟨w.heap.size, 0, none⟩ = some (.int .i64 1) := hx1.cell 0 rfl
  have p1 : W1.cell? ⟨w.heap.size, 1, none⟩ = some (.int .i64 m) := hx1.cell 1 rfl
  have p2 : W1.cell? ⟨w.heap.size, 2, none⟩ = some (.int .u64 b) := hx1.cell 2 rfl
  have p3 : W1.cell? ⟨w.heap.size, 3, none⟩ = some (.string t) := hx1.cell 3 rfl
  have p4 : W1.cell? ⟨w.heap.size, 4, none⟩ = some (.slice a l cap) := hx1.cell 4 rfl
  have q0 : W1.cell? ⟨w.heap.size + 1, 0, none⟩ = some (.int .i64 1) := hx2.cell 0 rfl
  have q1 : W1.cell? ⟨w.heap.size + 1, 1, none⟩ = some (.int .i64 m) := hx2.cell 1 rfl
  have q2 : W1.cell? ⟨w.heap.size + 1, 2, none⟩ = some (.int .u64 b) := hx2.cell 2 rfl
  have q3 : W1.cell? ⟨w.heap.size + 1, 3, none⟩ = some (.string t) := hx2.cell 3 rfl
  have q4 : W1.cell? ⟨w.heap.size + 1, 4, none⟩ = some (.slice a l cap) := hx2.cell 4 rfl
  have u0 : W1.cell? ⟨w.heap.size + 2, 0, none⟩ = some (.int .i64 0) := hx3.cell 0 rfl
  have fu0 := hx3.thaw 0
  have u1 : W1.cell? ⟨w.heap.size + 2, 1, none⟩ = some (.int .i64 0) := hx3.cell 1 rfl
  have fu1 := hx3.thaw 1
  have u2 : W1.cell? ⟨w.heap.size + 2, 2, none⟩ = some (.int .u64 0) := hx3.cell 2 rfl
  have fu2 := hx3.thaw 2
  have u3 : W1.cell? ⟨w.heap.size + 2, 3, none⟩ = some (.string ⟨#[]⟩) := hx3.cell 3 rfl
  have fu3 := hx3.thaw 3
  have u4 : W1.cell? ⟨w.heap.size + 2, 4, none⟩ = some (.slice none 0 0) := hx3.cell 4 rfl
  have fu4 := hx3.thaw 4
  go_enter Tryz.func21, Tryz.ntmps21
  go_upto_region 1 with fail
  rw [← hW1]
  clear hW1
  go_wp2_with (go_at_call 33; refine (HH.out _).mono ?_; rintro e w2 ⟨rfl, rfl⟩)
  unfold numV
  exact bodyPost_ret (radd_end (hx3.box.set5 _ _ _ _ _) rfl rfl) rfl ⟨rfl, set5_below hb1 (by omega)⟩

set_option maxRecDepth 100000 in
set_option maxHeartbeats 1600000 in
theorem radd_flt (m b : Int) (t : ByteArray) (a : Option Addr) (l cap : Nat) (w : World) : Calls Tryz.prog 21 #[(.agg #[.int .i64 3, .int .i64 m, .int .u64 b, .string t, .slice a l cap]), (.agg #[.int .i64 3, .int .i64 m, .int .u64 b, .string t, .slice a l cap])] w fun x w' => x = .returned (.tuple #[fltV (fsum b.toNat b.toNat), .int .i64 0]) ∧ Below w.heap.size w w' := by
  obtain ⟨F, G, hrun, hFz, hGb⟩ := fadd_run Tryz.prog b.toNat b.toNat
  obtain ⟨z, hz0⟩ : ∃ z, z = fsum b.toNat b.toNat := ⟨_, rfl⟩
  rw [← hz0] at hFz ⊢
  clear hz0
  have HH := Lib.hid (fun W => has_5 3 (by omega) W)
  rw [show hasM 3 5 = true by decide] at HH
  obtain ⟨W1, hW1, hb1, hz, hx1, hx2, hx3⟩ := radd_worlds w (.int .i64 3) (.int .i64 m) (.int .u64 b) (.string t) (.slice a l cap) (.int .i64 3) (.int .i64 m) (.int .u64 b) (.string t) (.slice a l cap)
  have hzo := hz.out
  have p0 : W1.cell? ⟨w.heap.size, 0, none⟩ = some (.int .i64 3) := hx1.cell 0 rfl
  have p1 : W1.cell? ⟨w.heap.size, 1, none⟩ = some (.int .i64 m) := hx1.cell 1 rfl
  have p2 : W1.cell? ⟨w.heap.size, 2, none⟩ = some (.int .u64 b) := hx1.cell 2 rfl
  have p3 : W1.cell? ⟨w.heap.size, 3, none⟩ = some (.string t) := hx1.cell 3 rfl
  have p4 : W1.cell? ⟨w.heap.size, 4, none⟩ = some (.slice a l cap) := hx1.cell 4 rfl
  have q0 : W1.cell? ⟨w.heap.size + 1, 0, none⟩ = some (.int .i64 3) := hx2.cell 0 rfl
  have q1 : W1.cell? ⟨w.heap.size + 1, 1, none⟩ = some (.int .i64 m) := hx2.cell 1 rfl
  have q2 : W1.cell? ⟨w.heap.size + 1, 2, none⟩ = some (.int .u64 b) := hx2.cell 2 rfl
  have q3 : W1.cell? ⟨w.heap.size + 1, 3, none⟩ = some (.string t) := hx2.cell 3 rfl
  have q4 : W1.cell? ⟨w.heap.size + 1, 4, none⟩ = some (.slice a l cap) := hx2.cell 4 rfl
  have u0 : W1.cell? ⟨w.heap.size + 2, 0, none⟩ = some (.int .i64 0) := hx3.cell 0 rfl
  have fu0 := hx3.thaw 0
  have u1 : W1.cell? ⟨w.heap.size + 2, 1, none⟩ = some (.int .i64 0) := hx3.cell 1 rfl
  have fu1 := hx3.thaw 1
  have u2 : W1.cell? ⟨w.heap.size + 2, 2, none⟩ = some (.int .u64 0) := hx3.cell 2 rfl
  have fu2 := hx3.thaw 2
  have u3 : W1.cell? ⟨w.heap.size + 2, 3, none⟩ = some (.string ⟨#[]⟩) := hx3.cell 3 rfl
  have fu3 := hx3.thaw 3
  have u4 : W1.cell? ⟨w.heap.size + 2, 4, none⟩ = some (.slice none 0 0) := hx3.cell 4 rfl
  have fu4 := hx3.thaw 4
  have hdr : Below W1.heap.size W1 W1.drew := by go_grown
  have hbG := hdr.trans ((hGb W1.drew).mono hdr.size)
  have hFw := hFz W1.drew
  have hrunW : ∀ T, (binOp .add T (.float .f64 b.toNat) (.float .f64 b.toNat)).run Tryz.prog W1.drew = .ok (.float .f64 (F W1.drew)) (G W1.drew) := fun T => hrun T _
  generalize F W1.drew = f at *
  generalize G W1.drew = W2 at *
  clear hrun hFz hGb
  have hv3 := hx3.later hbG
  have hbw2 := hb1.trans (hbG.mono hb1.size)
  have hfb := frombits
  have hfc := fb_3
  go_enter Tryz.func21, Tryz.ntmps21
  go_upto_region 1 with fail
  rw [← hW1]
  clear hW1
  go_upto_region 7 with (go_at_call 33; refine (HH.out _).mono ?_; rintro e w2 ⟨rfl, rfl⟩)
  go_region
  all_goals
    clear p0 p1 p2 p3 p4 q0 q1 q2 q3 q4 u0 u1 u2 u3 u4 fu0 fu1 fu2 fu3 fu4 hrunW
    cases hn : isNum f
    · rw [hn] at hFw
      simp only [Bool.false_eq_true, if_false] at hFw
      subst hFw
      unfold isNum at hn
      have hn2 : (FloatKind.f64.format.order f f != some Ordering.eq) = true := by rw [bne, hn]; rfl
      clear hn
      have u0 : W2.cell? ⟨w.heap.size + 2, 0, none⟩ = some (.int .i64 0) := hv3.cell 0 rfl
      have fu0 := hv3.thaw 0
      have u1 : W2.cell? ⟨w.heap.size + 2, 1, none⟩ = some (.int .i64 0) := hv3.cell 1 rfl
      have fu1 := hv3.thaw 1
      have u2 : W2.cell? ⟨w.heap.size + 2, 2, none⟩ = some (.int .u64 0) := hv3.cell 2 rfl
      have fu2 := hv3.thaw 2
      have u3 : W2.cell? ⟨w.heap.size + 2, 3, none⟩ = some (.string ⟨#[]⟩) := hv3.cell 3 rfl
      have fu3 := hv3.thaw 3
      have u4 : W2.cell? ⟨w.heap.size + 2, 4, none⟩ = some (.slice none 0 0) := hv3.cell 4 rfl
      have fu4 := hv3.thaw 4
      go_wp2_with fail
      exact bodyPost_ret (radd_end (hv3.box.set5 _ _ _ _ _) rfl rfl) rfl ⟨rfl, set5_below hbw2 (by omega)⟩
    · rw [hn] at hFw
      simp only [if_true] at hFw
      subst hFw
      unfold isNum at hn
      have hn2 : (FloatKind.f64.format.order f f != some Ordering.eq) = false := by rw [bne, hn]; rfl
      clear hn
      have u0 : W2.cell? ⟨w.heap.size + 2, 0, none⟩ = some (.int .i64 0) := hv3.cell 0 rfl
      have fu0 := hv3.thaw 0
      have u1 : W2.cell? ⟨w.heap.size + 2, 1, none⟩ = some (.int .i64 0) := hv3.cell 1 rfl
      have fu1 := hv3.thaw 1
      have u2 : W2.cell? ⟨w.heap.size + 2, 2, none⟩ = some (.int .u64 0) := hv3.cell 2 rfl
      have fu2 := hv3.thaw 2
      have u3 : W2.cell? ⟨w.heap.size + 2, 3, none⟩ = some (.string ⟨#[]⟩) := hv3.cell 3 rfl
      have fu3 := hv3.thaw 3
      have u4 : W2.cell? ⟨w.heap.size + 2, 4, none⟩ = some (.slice none 0 0) := hv3.cell 4 rfl
      have fu4 := hv3.thaw 4
      go_wp2_with fail
      exact bodyPost_ret (radd_end (hv3.box.set5 _ _ _ _ _) rfl rfl) rfl ⟨rfl, set5_below hbw2 (by omega)⟩

end Go.Proofs.YtecdniimikfbhaaGreatDoor
