/- Contract of want's MustFace. -/
import Derived.Test.YteplhhlgceppkabG18
import Derived.Deep.RegionWith
namespace Go.Proofs.Yteplhhlgceppkab
open Go Go.RowKit Go.ChangeShapes Go.WideShapes

/-- The method that an assertion to an interface tells. -/
def faceMiss (k : Nat) (f : Int) : Int := if k = 0 then -1 else missN k (methsI f)

theorem mf_worlds (w : World) (c0 c1 c2 c3 c4 : Value) : ∃ W1, W1 = (w.alloc (.cells #[c0, c1, c2, c3, c4] 25)).alloc (.cells #[.int .i64 0, .int .i64 0] 84) ∧ Below w.heap.size w W1 ∧ Hid (W1.heap.size = w.heap.size + 2) ∧ Row W1 w.heap.size #[c0, c1, c2, c3, c4] 25 ∧ Row W1 (w.heap.size + 1) #[.int .i64 0, .int .i64 0] 84 := by
  refine ⟨_, rfl, by go_grown, Lib.hid (by simp), (Row.new w _ _).old _, ?_⟩
  have h := Row.new (w.alloc (.cells #[c0, c1, c2, c3, c4] 25)) #[.int .i64 0, .int .i64 0] 84
  simpa using h

/-- The result: a struct of two in memory, and a number. -/
theorem mf_end {W : World} {g : Nat} {tmps : Array Value} {x y e : Value} (hx : Row W g #[x, y] 84) (h4 : tmps.getD 4 undef = .pointer (some ⟨g, 0, none⟩)) (h5 : tmps.getD 5 undef = e) :
    (results Try.f46 tmps).run Try.prog W = .ok (.tuple #[.agg #[x, y], e]) W := by
  have a0 : W.cell? ⟨g, 0, none⟩ = some x := hx.cell 0 rfl
  have a1 : W.cell? ⟨g, 1, none⟩ = some y := hx.cell 1 rfl
  have h4' : tmps[4]?.getD undef = .pointer (some ⟨g, 0, none⟩) := by simpa using h4
  have h5' : tmps[5]?.getD undef = e := by simpa using h5
  simp [results, Try.results46, asAddr, a0, a1, h4', h5', go_sem]

set_option maxHeartbeats 800000 in
theorem mustface_yes (k : Nat) (hk : k ≤ 13) (f : Int) (h : hasFi k f = true) (m b t sl : Value) (w : World) : Calls Try.prog 46 #[.agg #[.int .i64 k, m, b, t, sl], .int .i64 f] w fun x w' =>
    x = .returned (.tuple #[.agg #[.int .i64 0, .int .i64 0], .int .i64 0]) ∧ Below w.heap.size w w' := by
  have HF := Lib.hid (fun w => wface_any k hk f m b t sl w)
  rw [h] at HF
  clear h
  obtain ⟨W1, hW1, hb1, hz1, hx1, hx2⟩ := mf_worlds w (.int .i64 k) m b t sl
  have p0 : W1.cell? ⟨w.heap.size, 0, none⟩ = some (.int .i64 k) := hx1.cell 0 rfl
  have p1 : W1.cell? ⟨w.heap.size, 1, none⟩ = some m := hx1.cell 1 rfl
  have p2 : W1.cell? ⟨w.heap.size, 2, none⟩ = some b := hx1.cell 2 rfl
  have p3 : W1.cell? ⟨w.heap.size, 3, none⟩ = some t := hx1.cell 3 rfl
  have p4 : W1.cell? ⟨w.heap.size, 4, none⟩ = some sl := hx1.cell 4 rfl
  go_enter Try.func46, Try.ntmps46
  go_upto_region 1 with fail
  rw [← hW1]
  clear hW1
  go_wp2_with (go_at_call 56; refine (HF.out _).mono ?_; rintro e w2 ⟨rfl, hb2⟩; have hy := hx2.later hb2; have q0 : w2.cell? ⟨w.heap.size + 1, 0, none⟩ = some (.int .i64 0) := hy.cell 0 rfl; have q1 : w2.cell? ⟨w.heap.size + 1, 1, none⟩ = some (.int .i64 0) := hy.cell 1 rfl; have f0 := hy.thaw 0; have f1 := hy.thaw 1)
  exact bodyPost_ret (mf_end ((hy.set 0 _).set 1 _) rfl rfl) rfl ⟨rfl, ((hb1.trans (hb2.mono hb1.size)).setCell (p := ⟨w.heap.size + 1, 0, none⟩) (by simp) _).setCell (p := ⟨w.heap.size + 1, 1, none⟩) (by simp) _⟩

set_option maxHeartbeats 800000 in
theorem mustface_nil (f : Int) (m b t sl : Value) (w : World) : Calls Try.prog 46 #[.agg #[.int .i64 0, m, b, t, sl], .int .i64 f] w fun x w' =>
    x = .returned (.tuple #[.agg #[.int .i64 0, .int .i64 (-1)], .int .i64 20]) ∧ Below w.heap.size w w' := by
  have h : hasFi 0 f = false := by
    by_cases hf : 0 ≤ f ∧ f < 10
    · obtain ⟨n, rfl⟩ : ∃ n : Nat, f = n := ⟨f.toNat, by omega⟩
      have hn : n < 10 := by omega
      clear hf
      match n, hn with
      | 0, _ => rfl
      | 1, _ => rfl
      | 2, _ => rfl
      | 3, _ => rfl
      | 4, _ => rfl
      | 5, _ => rfl
      | 6, _ => rfl
      | 7, _ => rfl
      | 8, _ => rfl
      | 9, _ => rfl
      | n + 10, h => omega
    · unfold hasFi
      rw [decide_eq_false hf]
      rfl
  have HF := Lib.hid (fun w => wface_any 0 (by omega) f m b t sl w)
  rw [h] at HF
  clear h
  obtain ⟨W1, hW1, hb1, hz1, hx1, hx2⟩ := mf_worlds w (.int .i64 0) m b t sl
  have p0 : W1.cell? ⟨w.heap.size, 0, none⟩ = some (.int .i64 0) := hx1.cell 0 rfl
  have p1 : W1.cell? ⟨w.heap.size, 1, none⟩ = some m := hx1.cell 1 rfl
  have p2 : W1.cell? ⟨w.heap.size, 2, none⟩ = some b := hx1.cell 2 rfl
  have p3 : W1.cell? ⟨w.heap.size, 3, none⟩ = some t := hx1.cell 3 rfl
  have p4 : W1.cell? ⟨w.heap.size, 4, none⟩ = some sl := hx1.cell 4 rfl
  go_enter Try.func46, Try.ntmps46
  go_upto_region 1 with fail
  rw [← hW1]
  clear hW1
  go_wp2_with (go_at_call 56; refine (HF.out _).mono ?_; rintro e w2 ⟨rfl, hb2⟩; have hy := hx2.later hb2; have r0 : w2.cell? ⟨w.heap.size, 0, none⟩ = some (.int .i64 0) := (hx1.later hb2).cell 0 rfl; have q0 : w2.cell? ⟨w.heap.size + 1, 0, none⟩ = some (.int .i64 0) := hy.cell 0 rfl; have q1 : w2.cell? ⟨w.heap.size + 1, 1, none⟩ = some (.int .i64 0) := hy.cell 1 rfl; have f0 := hy.thaw 0; have f1 := hy.thaw 1)
  exact bodyPost_ret (mf_end ((hy.set 0 _).set 1 _) rfl rfl) rfl ⟨rfl, ((hb1.trans (hb2.mono hb1.size)).setCell (p := ⟨w.heap.size + 1, 0, none⟩) (by simp) _).setCell (p := ⟨w.heap.size + 1, 1, none⟩) (by simp) _⟩

set_option maxHeartbeats 800000 in
theorem mustface_some (k : Nat) (hk : k ≤ 13) (hk0 : (k : Int) ≠ 0) (f : Int) (h : hasFi k f = false) (m b t sl : Value) (w : World) : Calls Try.prog 46 #[.agg #[.int .i64 k, m, b, t, sl], .int .i64 f] w fun x w' =>
    x = .returned (.tuple #[.agg #[.int .i64 k, .int .i64 (missN k (methsI f))], .int .i64 20]) ∧ Below w.heap.size w w' := by
  have HF := Lib.hid (fun w => wface_any k hk f m b t sl w)
  have HM := Lib.hid (fun w => missing_any k hk f w)
  have hk1 : ((k : Int) == 0) = false := by simpa using hk0
  generalize missN k (methsI f) = mm at *
  rw [h] at HF
  clear h hk0
  obtain ⟨W1, hW1, hb1, hz1, hx1, hx2⟩ := mf_worlds w (.int .i64 k) m b t sl
  have p0 : W1.cell? ⟨w.heap.size, 0, none⟩ = some (.int .i64 k) := hx1.cell 0 rfl
  have p1 : W1.cell? ⟨w.heap.size, 1, none⟩ = some m := hx1.cell 1 rfl
  have p2 : W1.cell? ⟨w.heap.size, 2, none⟩ = some b := hx1.cell 2 rfl
  have p3 : W1.cell? ⟨w.heap.size, 3, none⟩ = some t := hx1.cell 3 rfl
  have p4 : W1.cell? ⟨w.heap.size, 4, none⟩ = some sl := hx1.cell 4 rfl
  go_enter Try.func46, Try.ntmps46
  go_upto_region 1 with fail
  rw [← hW1]
  clear hW1
  go_wp2_with (go_at_call 56; refine (HF.out _).mono ?_; rintro e w2 ⟨rfl, hb2⟩; have hy := hx2.later hb2; have hy1 := hx1.later hb2; have r0 : w2.cell? ⟨w.heap.size, 0, none⟩ = some (.int .i64 k) := hy1.cell 0 rfl)
  go_region_with (go_at_call 57; refine (HM.out _).mono ?_; rintro x w3 ⟨rfl, hb3⟩; have hb3' : Below w2.heap.size w2 w3 := Below.trans (by go_grown) hb3; have hz := hy.later hb3'; have s0 : w3.cell? ⟨w.heap.size, 0, none⟩ = some (.int .i64 k) := (hy1.later hb3').cell 0 rfl; have q0 : w3.cell? ⟨w.heap.size + 1, 0, none⟩ = some (.int .i64 0) := hz.cell 0 rfl; have q1 : w3.cell? ⟨w.heap.size + 1, 1, none⟩ = some (.int .i64 0) := hz.cell 1 rfl; have f0 := hz.thaw 0; have f1 := hz.thaw 1; dsimp only)
  all_goals
    go_wp2_with fail
    exact bodyPost_ret (mf_end ((hz.set 0 _).set 1 _) rfl rfl) rfl ⟨rfl, (((hb1.trans (hb2.mono hb1.size)).trans (hb3'.mono (Nat.le_trans hb1.size hb2.size))).setCell (p := ⟨w.heap.size + 1, 0, none⟩) (by simp) _).setCell (p := ⟨w.heap.size + 1, 1, none⟩) (by simp) _⟩

theorem mustface_no (k : Nat) (hk : k ≤ 13) (f : Int) (h : hasFi k f = false) (m b t sl : Value) (w : World) : Calls Try.prog 46 #[.agg #[.int .i64 k, m, b, t, sl], .int .i64 f] w fun x w' =>
    x = .returned (.tuple #[.agg #[.int .i64 k, .int .i64 (faceMiss k f)], .int .i64 20]) ∧ Below w.heap.size w w' := by
  by_cases h0 : k = 0
  · subst h0
    exact mustface_nil f m b t sl w
  · unfold faceMiss
    rw [if_neg h0]
    exact mustface_some k hk (by omega) f h m b t sl w
end Go.Proofs.Yteplhhlgceppkab
