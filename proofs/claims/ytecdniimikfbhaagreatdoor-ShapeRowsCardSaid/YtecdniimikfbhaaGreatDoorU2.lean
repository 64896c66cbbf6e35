/- Shape: the maps' own functions listed and paired. -/
import Derived.Test.YtecdniimikfbhaaGreatDoorU1
namespace Go.Proofs.YtecdniimikfbhaaGreatDoor
open Go Go.RowKit Go.ChangeShapes Go.WideShapes

theorem Row.oth10 {w : World} {g b : Nat} {T : TypeId} {cs : Array Value} (h : Row w b cs T) (hb : b ≠ g) (x0 x1 x2 x3 x4 x5 x6 x7 x8 x9 : Value) : Row ((((((((((w.setCell ⟨g, 0, none⟩ x0).setCell ⟨g, 1, none⟩ x1).setCell ⟨g, 2, none⟩ x2).setCell ⟨g, 3, none⟩ x3).setCell ⟨g, 4, none⟩ x4).setCell ⟨g, 5, none⟩ x5).setCell ⟨g, 6, none⟩ x6).setCell ⟨g, 7, none⟩ x7).setCell ⟨g, 8, none⟩ x8).setCell ⟨g, 9, none⟩ x9) b cs T :=
  (((((((((h.other 0 x0 hb).other 1 x1 hb).other 2 x2 hb).other 3 x3 hb).other 4 x4 hb).other 5 x5 hb).other 6 x6 hb).other 7 x7 hb).other 8 x8 hb).other 9 x9 hb
theorem keepP_new {w w1 : World} {v : Value} {d : D} (h : Rep w v d) (hb : Below w.heap.size w w1) : RepP w1 (fun b => b < w.heap.size) v d := (RepP.of_rep h).later hb
set_option maxRecDepth 100000 in
set_option maxHeartbeats 1600000 in
theorem listed_v (tp : ByteArray) {k m b : Int} {t : ByteArray} {a : Option Addr} {l cap : Nat} (w : World) : Calls Tryz.prog 41 #[.string tp, (.agg #[.int .i64 k, .int .i64 m, .int .u64 b, .string t, .slice a l cap])] w fun x w' => ∃ g : Nat, w.heap.size ≤ g ∧ x = .returned (.agg #[.int .i64 0, .int .i64 0, .int .i64 0, .int .i64 0, .bool true, .int .i64 8, .int .i64 0, .int .u64 0, .string ⟨#[]⟩, .slice (some ⟨g, 0, none⟩) 1 1]) ∧ Row w' g #[.int .i64 k, .int .i64 m, .int .u64 b, .string t, .slice a l cap] 25 ∧ Below w.heap.size w w' := by
  obtain ⟨W1, hW1, hb1, hz, hx1, hx2⟩ := res_worlds w (.int .i64 k) (.int .i64 m) (.int .u64 b) (.string t) (.slice a l cap)
  have hzo := hz.out
  obtain ⟨p0, p1, p2, p3, p4⟩ := hx1.cells
  go_enter Tryz.func41, Tryz.ntmps41
  go_upto_region 1 with fail
  rw [← hW1]
  clear hW1
  go_wp2_with fail
  refine (sgave_v _ _ _ _ _ _ _ _).mono ?_
  rintro x w5 ⟨rfl, hb5⟩
  obtain ⟨Wb, hWb⟩ : ∃ Wb, Wb = W1.alloc (.cells #[.int .i64 k, .int .i64 m, .int .u64 b, .string t, .slice a l cap] 25) := ⟨_, rfl⟩
  have hbb : Below W1.heap.size W1 Wb := by rw [hWb]; exact (Below.refl _ _).alloc (Nat.le_refl _) _
  have hzb : Row Wb W1.heap.size #[.int .i64 k, .int .i64 m, .int .u64 b, .string t, .slice a l cap] 25 := by rw [hWb]; exact Row.new _ _ _
  have hyb := hx2.later hbb
  rw [← hWb] at hb5
  have hz5 := hzb.later hb5
  have hy5 := hyb.later hb5
  have hbwb := hb1.trans (hbb.mono hb1.size)
  have hbw5 := hbwb.trans (hb5.mono hbwb.size)
  have q0 : w5.cell? ⟨(w.heap.size + 1), 0, none⟩ = some (.int .i64 0) := hy5.cell 0 rfl
  have fq0 := hy5.thaw 0
  have q1 : w5.cell? ⟨(w.heap.size + 1), 1, none⟩ = some (.int .i64 0) := hy5.cell 1 rfl
  have fq1 := hy5.thaw 1
  have q2 : w5.cell? ⟨(w.heap.size + 1), 2, none⟩ = some (.int .i64 0) := hy5.cell 2 rfl
  have fq2 := hy5.thaw 2
  have q3 : w5.cell? ⟨(w.heap.size + 1), 3, none⟩ = some (.int .i64 0) := hy5.cell 3 rfl
  have fq3 := hy5.thaw 3
  have q4 : w5.cell? ⟨(w.heap.size + 1), 4, none⟩ = some (.bool false) := hy5.cell 4 rfl
  have fq4 := hy5.thaw 4
  have q5 : w5.cell? ⟨(w.heap.size + 1), 5, none⟩ = some (.int .i64 0) := hy5.cell 5 rfl
  have fq5 := hy5.thaw 5
  have q6 : w5.cell? ⟨(w.heap.size + 1), 6, none⟩ = some (.int .i64 0) := hy5.cell 6 rfl
  have fq6 := hy5.thaw 6
  have q7 : w5.cell? ⟨(w.heap.size + 1), 7, none⟩ = some (.int .u64 0) := hy5.cell 7 rfl
  have fq7 := hy5.thaw 7
  have q8 : w5.cell? ⟨(w.heap.size + 1), 8, none⟩ = some (.string ⟨#[]⟩) := hy5.cell 8 rfl
  have fq8 := hy5.thaw 8
  have q9 : w5.cell? ⟨(w.heap.size + 1), 9, none⟩ = some (.slice none 0 0) := hy5.cell 9 rfl
  have fq9 := hy5.thaw 9
  dsimp only
  go_wp2_with fail
  refine bodyPost_ret (results_cell_row rfl _ _ (w.heap.size + 1) 33 _ (0, 0) _ rfl (hy5.set10 _ _ _ _ _ _ _ _ _ _) Tryz.underlying33 rfl (by kernel_rfl)) rfl ⟨w.heap.size + 2, by omega, rfl, ?_, set10_below hbw5 (by omega)⟩
  have hne : w.heap.size + 2 ≠ w.heap.size + 1 := by omega
  rw [hzo] at hz5
  exact hz5.oth10 hne _ _ _ _ _ _ _ _ _ _

set_option maxRecDepth 100000 in
set_option maxHeartbeats 1600000 in
theorem paired_v (tp : ByteArray) {k m b : Int} {t : ByteArray} {a : Option Addr} {l cap : Nat} (w : World) : Calls Tryz.prog 50 #[.string tp, (.agg #[.int .i64 k, .int .i64 m, .int .u64 b, .string t, .slice a l cap])] w fun x w' => ∃ g : Nat, w.heap.size ≤ g ∧ x = .returned (.agg #[.int .i64 0, .int .i64 0, .int .i64 0, .int .i64 0, .bool true, .int .i64 9, .int .i64 0, .int .u64 0, .string ⟨#[]⟩, .slice (some ⟨g, 0, none⟩) 2 2]) ∧ Row w' g #[.int .i64 4, .int .i64 0, .int .u64 0, .string tp, .slice none 0 0, .int .i64 k, .int .i64 m, .int .u64 b, .string t, .slice a l cap] 25 ∧ Below w.heap.size w w' := by
  obtain ⟨W1, hW1, hb1, hz, hx1, hx2⟩ := res_worlds w (.int .i64 k) (.int .i64 m) (.int .u64 b) (.string t) (.slice a l cap)
  have hzo := hz.out
  obtain ⟨p0, p1, p2, p3, p4⟩ := hx1.cells
  go_enter Tryz.func50, Tryz.ntmps50
  go_upto_region 1 with fail
  rw [← hW1]
  clear hW1
  go_wp2_with fail
  refine (sgave_v _ _ _ _ _ _ _ _).mono ?_
  rintro x w5 ⟨rfl, hb5⟩
  obtain ⟨Wb, hWb⟩ : ∃ Wb, Wb = W1.alloc (.cells #[.int .i64 4, .int .i64 0, .int .u64 0, .string tp, .slice none 0 0, .int .i64 k, .int .i64 m, .int .u64 b, .string t, .slice a l cap] 25) := ⟨_, rfl⟩
  have hbb : Below W1.heap.size W1 Wb := by rw [hWb]; exact (Below.refl _ _).alloc (Nat.le_refl _) _
  have hzb : Row Wb W1.heap.size #[.int .i64 4, .int .i64 0, .int .u64 0, .string tp, .slice none 0 0, .int .i64 k, .int .i64 m, .int .u64 b, .string t, .slice a l cap] 25 := by rw [hWb]; exact Row.new _ _ _
  have hyb := hx2.later hbb
  rw [← hWb] at hb5
  have hz5 := hzb.later hb5
  have hy5 := hyb.later hb5
  have hbwb := hb1.trans (hbb.mono hb1.size)
  have hbw5 := hbwb.trans (hb5.mono hbwb.size)
  have q0 : w5.cell? ⟨(w.heap.size + 1), 0, none⟩ = some (.int .i64 0) := hy5.cell 0 rfl
  have fq0 := hy5.thaw 0
  have q1 : w5.cell? ⟨(w.heap.size + 1), 1, none⟩ = some (.int .i64 0) := hy5.cell 1 rfl
  have fq1 := hy5.thaw 1
  have q2 : w5.cell? ⟨(w.heap.size + 1), 2, none⟩ = some (.int .i64 0) := hy5.cell 2 rfl
  have fq2 := hy5.thaw 2
  have q3 : w5.cell? ⟨(w.heap.size + 1), 3, none⟩ = some (.int .i64 0) := hy5.cell 3 rfl
  have fq3 := hy5.thaw 3
  have q4 : w5.cell? ⟨(w.heap.size + 1), 4, none⟩ = some (.bool false) := hy5.cell 4 rfl
  have fq4 := hy5.thaw 4
  have q5 : w5.cell? ⟨(w.heap.size + 1), 5, none⟩ = some (.int .i64 0) := hy5.cell 5 rfl
  have fq5 := hy5.thaw 5
  have q6 : w5.cell? ⟨(w.heap.size + 1), 6, none⟩ = some (.int .i64 0) := hy5.cell 6 rfl
  have fq6 := hy5.thaw 6
  have q7 : w5.cell? ⟨(w.heap.size + 1), 7, none⟩ = some (.int .u64 0) := hy5.cell 7 rfl
  have fq7 := hy5.thaw 7
  have q8 : w5.cell? ⟨(w.heap.size + 1), 8, none⟩ = some (.string ⟨#[]⟩) := hy5.cell 8 rfl
  have fq8 := hy5.thaw 8
  have q9 : w5.cell? ⟨(w.heap.size + 1), 9, none⟩ = some (.slice none 0 0) := hy5.cell 9 rfl
  have fq9 := hy5.thaw 9
  dsimp only
  go_wp2_with fail
  refine bodyPost_ret (results_cell_row rfl _ _ (w.heap.size + 1) 33 _ (0, 0) _ rfl (hy5.set10 _ _ _ _ _ _ _ _ _ _) Tryz.underlying33 rfl (by kernel_rfl)) rfl ⟨w.heap.size + 2, by omega, rfl, ?_, set10_below hbw5 (by omega)⟩
  have hne : w.heap.size + 2 ≠ w.heap.size + 1 := by omega
  rw [hzo] at hz5
  exact hz5.oth10 hne _ _ _ _ _ _ _ _ _ _

theorem gaveP_listed {w w1 : World} {k m b : Int} {t : ByteArray} {a : Option Addr} {l cap : Nat} {d : D} {g B : Nat} (h : Rep w (.agg #[.int .i64 k, .int .i64 m, .int .u64 b, .string t, .slice a l cap]) d) (hb : Below w.heap.size w w1) (hg : B ≤ g) (hr : Row w1 g #[.int .i64 k, .int .i64 m, .int .u64 b, .string t, .slice a l cap] 25) :
    GaveP w1 (fun b => b < w.heap.size ∨ B ≤ b) (.agg #[.int .i64 0, .int .i64 0, .int .i64 0, .int .i64 0, .bool true, .int .i64 8, .int .i64 0, .int .u64 0, .string ⟨#[]⟩, .slice (some ⟨g, 0, none⟩) 1 1]) (.mk 8 0 0 ⟨#[]⟩ [d]) := by
  refine ⟨_, _, _, _, _, _, _, rfl, ?_⟩
  refine RepP.mk 8 0 0 ⟨#[]⟩ (some ⟨g, 0, none⟩) 1 g 0 (fun _ j => #[Value.int .i64 k, .int .i64 m, .int .u64 b, .string t, .slice a l cap].getD j (.bool false)) [d] ⟨by decide, by decide, by decide, by decide⟩ (fun _ => ⟨rfl, Or.inr hg, hr.lt, by simp, by omega⟩) ?_ ?_
  · intro i hi
    obtain rfl : i = 0 := by simp at hi; omega
    exact ⟨hr.cell 0 rfl, hr.cell 1 rfl, hr.cell 2 rfl, hr.cell 3 rfl, hr.cell 4 rfl⟩
  · intro i x hx
    have hi : i = 0 := by
      have := (List.getElem?_eq_some_iff.1 hx).1
      simp at this; omega
    subst hi
    simp at hx
    subst hx
    exact (keepP_new h hb).carry (fun b hq _ => ⟨rfl, Or.inl hq⟩) (Nat.le_refl _)
theorem gaveP_paired {w w1 : World} {k m b : Int} {t tp : ByteArray} (htp : tp.size ≤ maxLen) {a : Option Addr} {l cap : Nat} {d : D} {g B : Nat} (h : Rep w (.agg #[.int .i64 k, .int .i64 m, .int .u64 b, .string t, .slice a l cap]) d) (hb : Below w.heap.size w w1) (hg : B ≤ g) (hr : Row w1 g #[.int .i64 4, .int .i64 0, .int .u64 0, .string tp, .slice none 0 0, .int .i64 k, .int .i64 m, .int .u64 b, .string t, .slice a l cap] 25) :
    GaveP w1 (fun b => b < w.heap.size ∨ B ≤ b) (.agg #[.int .i64 0, .int .i64 0, .int .i64 0, .int .i64 0, .bool true, .int .i64 9, .int .i64 0, .int .u64 0, .string ⟨#[]⟩, .slice (some ⟨g, 0, none⟩) 2 2]) (.mk 9 0 0 ⟨#[]⟩ [.mk 4 0 0 tp [], d]) := by
  refine ⟨_, _, _, _, _, _, _, rfl, ?_⟩
  refine RepP.mk 9 0 0 ⟨#[]⟩ (some ⟨g, 0, none⟩) 2 g 0 (fun i j => #[Value.int .i64 4, .int .i64 0, .int .u64 0, .string tp, .slice none 0 0, .int .i64 k, .int .i64 m, .int .u64 b, .string t, .slice a l cap].getD (i * 5 + j) (.bool false)) [.mk 4 0 0 tp [], d] ⟨by decide, by decide, by decide, by decide⟩ (fun _ => ⟨rfl, Or.inr hg, hr.lt, by simp, by omega⟩) ?_ ?_
  · intro i hi
    have hi2 : i = 0 ∨ i = 1 := by simp at hi; omega
    rcases hi2 with rfl | rfl
    · exact ⟨hr.cell 0 rfl, hr.cell 1 rfl, hr.cell 2 rfl, hr.cell 3 rfl, hr.cell 4 rfl⟩
    · exact ⟨hr.cell 5 rfl, hr.cell 6 rfl, hr.cell 7 rfl, hr.cell 8 rfl, hr.cell 9 rfl⟩
  · intro i x hx
    have hi : i = 0 ∨ i = 1 := by
      have := (List.getElem?_eq_some_iff.1 hx).1
      simp at this; omega
    rcases hi with rfl | rfl
    · simp at hx
      subst hx
      exact RepP.mk 4 0 0 tp none 0 0 0 (fun _ _ => .bool false) [] ⟨by decide, by decide, by decide, htp⟩ (fun h => absurd h (by simp)) (fun i hi => absurd hi (by simp)) (fun i x hx => by simp at hx)
    · simp at hx
      subst hx
      exact (keepP_new h hb).carry (fun b hq _ => ⟨rfl, Or.inl hq⟩) (Nat.le_refl _)
end Go.Proofs.YtecdniimikfbhaaGreatDoor
