/- Shape: Fit, Match, Holds, Pass. -/
import Derived.Test.YtecdniimikfbhaaGreatP4
namespace Go.Proofs.YtecdniimikfbhaaGreat
open Go Go.RowKit Go.ChangeShapes Go.WideShapes

def passB (p : WT) (k : Nat) : Bool := bits .and .u32 (kindsT p / 2 ^ k) 1 == 1
theorem wd_worlds (w : World) (x y z c0 c1 c2 c3 c4 : Value) : ∃ W1, W1 = (w.alloc (.cells #[x, y, z] 40)).alloc (.cells #[c0, c1, c2, c3, c4] 26) ∧ Below w.heap.size w W1 ∧ Hid (W1.heap.size = w.heap.size + 2) ∧ Row W1 w.heap.size #[x, y, z] 40 ∧ Row W1 (w.heap.size + 1) #[c0, c1, c2, c3, c4] 26 := by
  refine ⟨_, rfl, by go_grown, Lib.hid (by simp), (Row.new w _ _).old _, ?_⟩
  have h := Row.new (w.alloc (.cells #[x, y, z] 40)) #[c0, c1, c2, c3, c4] 26
  simpa using h

set_option maxRecDepth 100000 in
set_option maxHeartbeats 1600000 in
theorem pfit_any {w0 : World} {p : WT} {op num : Int} {wa : Option Addr} {wl wc : Nat} (hv : WRep w0 (.agg #[.int .i64 op, .int .i64 num, .slice wa wl wc]) p) (w : World) (hb0 : Below w0.heap.size w0 w) :
    Calls Tryz.prog 10 #[(.agg #[.int .i64 op, .int .i64 num, .slice wa wl wc])] w fun x w' => ∃ r : Bool, x = .returned (.bool r) ∧ (r = true → FitT p) ∧ Below w.heap.size w w' := by
  have HL := Lib.hid (fun W hW => plook_any hv 1 1 W hW (by omega) (by omega) (by omega) (by omega))
  have HB := Lib.hid hb0
  clear hv hb0
  obtain ⟨W1, hW1, hb1, hx1⟩ := want1_world w (.int .i64 op) (.int .i64 num) (.slice wa wl wc)
  have p0 : W1.cell? ⟨w.heap.size, 0, none⟩ = some (.int .i64 op) := hx1.cell 0 rfl
  have p1 : W1.cell? ⟨w.heap.size, 1, none⟩ = some (.int .i64 num) := hx1.cell 1 rfl
  have p2 : W1.cell? ⟨w.heap.size, 2, none⟩ = some (.slice wa wl wc) := hx1.cell 2 rfl
  go_enter Tryz.func10, Tryz.ntmps10
  go_upto_region 1 with fail
  rw [← hW1]
  clear hW1
  go_wp2_with fail
  refine (HL.out _ (HB.out.trans (hb1.mono HB.out.size))).mono ?_
  rintro e w2 ⟨n, rfl, hor, hb2⟩
  have hbw := hb1.trans (hb2.mono hb1.size)
  rcases hor with rfl | ⟨h0, h1, hf⟩
  · dsimp only
    go_wp2_with fail
    go_ret
    exact ⟨false, rfl, (fun h => by cases h), hbw⟩
  · have e0 : decide (0 ≤ n) = true := by simp [h0]
    have e1 : decide (n ≤ 16384) = true := by simp [h1]
    dsimp only
    go_wp2_with fail
    go_ret
    exact ⟨true, rfl, fun _ => hf, hbw⟩

set_option maxRecDepth 100000 in
set_option maxHeartbeats 1600000 in
theorem pmatch_any {w0 : World} {p : WT} (hf : FitT p) {op num : Int} {wa : Option Addr} {wl wc : Nat} (hv : WRep w0 (.agg #[.int .i64 op, .int .i64 num, .slice wa wl wc]) p) {k : Nat} (hk : k ≤ 13) {m b : Int} {t : ByteArray} {a : Option Addr} {l cap : Nat} (w : World) (hb0 : Below w0.heap.size w0 w) :
    Calls Tryz.prog 12 #[(.agg #[.int .i64 op, .int .i64 num, .slice wa wl wc]), (.agg #[.int .i64 k, .int .i64 m, .int .u64 b, .string t, .slice a l cap])] w fun x w' => x = .returned (.bool (passB p k)) ∧ Below w.heap.size w w' := by
  have HK1 := Lib.hid (fun W hW => rkinds_any hf _ hv W hW)
  have HB := Lib.hid hb0
  clear hv hb0 hf
  obtain ⟨W1, hW1, hb1, hz, hx1, hx2⟩ := wd_worlds w (.int .i64 op) (.int .i64 num) (.slice wa wl wc) (.int .i64 k) (.int .i64 m) (.int .u64 b) (.string t) (.slice a l cap)
  have hdr : Below W1.heap.size W1 W1.drew := by go_grown
  have p0 : W1.cell? ⟨w.heap.size, 0, none⟩ = some (.int .i64 op) := hx1.cell 0 rfl
  have p1 : W1.cell? ⟨w.heap.size, 1, none⟩ = some (.int .i64 num) := hx1.cell 1 rfl
  have p2 : W1.cell? ⟨w.heap.size, 2, none⟩ = some (.slice wa wl wc) := hx1.cell 2 rfl
  have q0 : W1.cell? ⟨w.heap.size + 1, 0, none⟩ = some (.int .i64 k) := hx2.cell 0 rfl
  go_enter Tryz.func12, Tryz.ntmps12
  go_upto_region 1 with fail
  rw [← hW1]
  clear hW1
  go_region_with (go_at_call 22; refine (HK1.out _ (HB.out.trans ((hb1.trans (hdr.mono hb1.size)).mono HB.out.size))).mono ?_; rintro e w2 ⟨rfl, hb2'⟩; have hb2 := hdr.trans (hb2'.mono hdr.size); have q1 : w2.cell? ⟨w.heap.size + 1, 0, none⟩ = some (.int .i64 k) := (hx2.later hb2).cell 0 rfl; dsimp only)
  all_goals
    go_wp2_with fail
    refine bodyPost_ret (results_tmp rfl _ _ _) rfl ⟨?_, hb1.trans (hb2.mono hb1.size)⟩
    go_simp
    rfl

set_option maxRecDepth 100000 in
set_option maxHeartbeats 1600000 in
theorem holds_any {w0 : World} {p : WT} (hf : FitT p) {op num : Int} {wa : Option Addr} {wl wc : Nat} (hv : WRep w0 (.agg #[.int .i64 op, .int .i64 num, .slice wa wl wc]) p) {k : Nat} (hk : k ≤ 13) {m b : Int} {t : ByteArray} {a : Option Addr} {l cap : Nat} (w : World) (hb0 : Below w0.heap.size w0 w) :
    Calls Tryz.prog 21 #[(.agg #[.int .i64 op, .int .i64 num, .slice wa wl wc]), (.agg #[.int .i64 k, .int .i64 m, .int .u64 b, .string t, .slice a l cap])] w fun x w' => x = .returned (.bool (passB p k)) ∧ Below w.heap.size w w' := by
  have HK1 := Lib.hid (fun W hW => wkinds_any hf _ hv W hW)
  have HB := Lib.hid hb0
  clear hv hb0 hf
  obtain ⟨W1, hW1, hb1, hz, hx1, hx2⟩ := wd_worlds w (.int .i64 op) (.int .i64 num) (.slice wa wl wc) (.int .i64 k) (.int .i64 m) (.int .u64 b) (.string t) (.slice a l cap)
  have hdr : Below W1.heap.size W1 W1.drew := by go_grown
  have p0 : W1.cell? ⟨w.heap.size, 0, none⟩ = some (.int .i64 op) := hx1.cell 0 rfl
  have p1 : W1.cell? ⟨w.heap.size, 1, none⟩ = some (.int .i64 num) := hx1.cell 1 rfl
  have p2 : W1.cell? ⟨w.heap.size, 2, none⟩ = some (.slice wa wl wc) := hx1.cell 2 rfl
  have q0 : W1.cell? ⟨w.heap.size + 1, 0, none⟩ = some (.int .i64 k) := hx2.cell 0 rfl
  go_enter Tryz.func21, Tryz.ntmps21
  go_upto_region 1 with fail
  rw [← hW1]
  clear hW1
  go_region_with (go_at_call 26; refine (HK1.out _ (HB.out.trans ((hb1.trans (hdr.mono hb1.size)).mono HB.out.size))).mono ?_; rintro e w2 ⟨rfl, hb2'⟩; have hb2 := hdr.trans (hb2'.mono hdr.size); have q1 : w2.cell? ⟨w.heap.size + 1, 0, none⟩ = some (.int .i64 k) := (hx2.later hb2).cell 0 rfl; dsimp only)
  all_goals
    go_wp2_with fail
    refine bodyPost_ret (results_tmp rfl _ _ _) rfl ⟨?_, hb1.trans (hb2.mono hb1.size)⟩
    go_simp
    rfl

set_option maxRecDepth 100000 in
set_option maxHeartbeats 1600000 in
theorem pass_any {w0 : World} {p : WT} (hf : FitT p) {op num : Int} {wa : Option Addr} {wl wc : Nat} (hv : WRep w0 (.agg #[.int .i64 op, .int .i64 num, .slice wa wl wc]) p) {k : Nat} (hk : k ≤ 13) {m b : Int} {t : ByteArray} {a : Option Addr} {l cap : Nat} (w : World) (hb0 : Below w0.heap.size w0 w) :
    Calls Tryz.prog 11 #[(.agg #[.int .i64 op, .int .i64 num, .slice wa wl wc]), (.agg #[.int .i64 k, .int .i64 m, .int .u64 b, .string t, .slice a l cap])] w fun x w' => x = .returned (.bool (passB p k)) ∧ Below w.heap.size w w' := by
  have HK1 := Lib.hid (fun W hW => holds_any hf hv hk (m := m) (b := b) (t := t) (a := a) (l := l) (cap := cap) W hW)
  have HB := Lib.hid hb0
  clear hv hb0 hf
  obtain ⟨W1, hW1, hb1, hz, hx1, hx2⟩ := wd_worlds w (.int .i64 op) (.int .i64 num) (.slice wa wl wc) (.int .i64 k) (.int .i64 m) (.int .u64 b) (.string t) (.slice a l cap)
  have p0 : W1.cell? ⟨w.heap.size, 0, none⟩ = some (.int .i64 op) := hx1.cell 0 rfl
  have p1 : W1.cell? ⟨w.heap.size, 1, none⟩ = some (.int .i64 num) := hx1.cell 1 rfl
  have p2 : W1.cell? ⟨w.heap.size, 2, none⟩ = some (.slice wa wl wc) := hx1.cell 2 rfl
  have q0 : W1.cell? ⟨w.heap.size + 1, 0, none⟩ = some (.int .i64 k) := hx2.cell 0 rfl
  have q1 : W1.cell? ⟨w.heap.size + 1, 1, none⟩ = some (.int .i64 m) := hx2.cell 1 rfl
  have q2 : W1.cell? ⟨w.heap.size + 1, 2, none⟩ = some (.int .u64 b) := hx2.cell 2 rfl
  have q3 : W1.cell? ⟨w.heap.size + 1, 3, none⟩ = some (.string t) := hx2.cell 3 rfl
  have q4 : W1.cell? ⟨w.heap.size + 1, 4, none⟩ = some (.slice a l cap) := hx2.cell 4 rfl
  go_enter Tryz.func11, Tryz.ntmps11
  go_upto_region 1 with fail
  rw [← hW1]
  clear hW1
  go_wp2_with (go_at_call 21; refine (HK1.out _ (HB.out.trans (hb1.mono HB.out.size))).mono ?_; rintro e w2 ⟨rfl, hb2⟩)
  go_ret
  exact ⟨rfl, hb1.trans (hb2.mono hb1.size)⟩
end Go.Proofs.YtecdniimikfbhaaGreat
