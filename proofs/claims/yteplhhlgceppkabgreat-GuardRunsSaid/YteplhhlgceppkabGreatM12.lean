/- Guard: contracts, joined texts (G67, G68, G72, G52). -/
import Derived.Test.YteplhhlgceppkabGreatM07
import Derived.Test.YteplhhlgceppkabGreatM09
import Derived.Test.YteplhhlgceppkabGreatM10
import Derived.Test.YteplhhlgceppkabGreatM11

/- Contracts of the reference's Length, Kind, Face. -/
namespace Go.Proofs.YteplhhlgceppkabGreat
open Go Go.RowKit Go.ChangeShapes Go.WideShapes

theorem lenD_kind {d : D} {n : Int} (hn : lenD d = some n) : d.kind = 4 ∨ d.kind = 5 ∨ d.kind = 7 ∨ d.kind = 8 ∨ d.kind = 9 ∨ d.kind = 11 ∨ d.kind = 12 := by
  unfold lenD at hn
  by_cases h1 : d.kind = 4 ∨ d.kind = 5 ∨ d.kind = 7
  · omega
  · rw [if_neg h1] at hn
    by_cases h2 : d.kind = 8
    · omega
    · rw [if_neg h2] at hn
      by_cases h3 : d.kind = 9
      · omega
      · rw [if_neg h3] at hn
        by_cases h4 : d.kind = 11
        · omega
        · rw [if_neg h4] at hn
          by_cases h5 : d.kind = 12
          · omega
          · rw [if_neg h5] at hn; cases hn
theorem lenD_none {d : D} (hn : lenD d = none) : d.kind ≠ 4 ∧ d.kind ≠ 5 ∧ d.kind ≠ 7 ∧ d.kind ≠ 8 ∧ d.kind ≠ 9 ∧ d.kind ≠ 11 ∧ d.kind ≠ 12 := by
  unfold lenD at hn
  refine ⟨?_, ?_, ?_, ?_, ?_, ?_, ?_⟩ <;> (intro h; rw [h] at hn; simp at hn)

set_option maxRecDepth 100000 in
set_option maxHeartbeats 1600000 in
theorem rlength_some {k : Nat} (_hk : k ≤ 13) {m b : Int} {t : ByteArray} {a : Option Addr} {l cap : Nat} {kids : List D} (hl : kids.length = l) (n : Int) (hn : lenD (.mk k m b t kids) = some n) (w : World) :
    Calls Tryz.prog 30 #[(.agg #[.int .i64 k, .int .i64 m, .int .u64 b, .string t, .slice a l cap])] w fun x w' => x = .returned (.tuple #[.int .i64 n, .int .i64 0]) ∧ Below w.heap.size w w' := by
  subst hl
  have h4 : (k : Int) = 4 ∨ (k : Int) = 5 ∨ (k : Int) = 7 ∨ (k : Int) = 8 ∨ (k : Int) = 9 ∨ (k : Int) = 11 ∨ (k : Int) = 12 := lenD_kind hn
  have hk : k = 4 ∨ k = 5 ∨ k = 7 ∨ k = 8 ∨ k = 9 ∨ k = 11 ∨ k = 12 := by omega
  clear h4
  generalize hz : kids.length = l at *
  rcases hk with rfl | rfl | rfl | rfl | rfl | rfl | rfl
  all_goals (
    have e : n = _ := (Option.some.inj hn).symm
    subst e
    clear hn
    obtain ⟨W1, hW1, hb1, hz1, hx1⟩ := boxes1 w (.int .i64 _) (.int .i64 m) (.int .u64 b) (.string t) (.slice a l cap)
    obtain ⟨p0, p1, p2, p3, p4⟩ := hx1.cells
    go_enter Tryz.func30, Tryz.ntmps30
    go_upto_region 1 with fail
    rw [← hW1]
    clear hW1
    go_wp2_with fail
    go_ret2)
  all_goals first
    | exact ⟨rfl, hb1⟩
    | (rw [← hz]; exact ⟨rfl, hb1⟩)

set_option maxRecDepth 100000 in
set_option maxHeartbeats 1600000 in
theorem rlength_none {k : Nat} (_hk : k ≤ 13) {m b : Int} {t : ByteArray} {a : Option Addr} {l cap : Nat} {kids : List D} (hn : lenD (.mk k m b t kids) = none) (w : World) :
    Calls Tryz.prog 30 #[(.agg #[.int .i64 k, .int .i64 m, .int .u64 b, .string t, .slice a l cap])] w fun x w' => x = .returned (.tuple #[.int .i64 0, .int .i64 12]) ∧ Below w.heap.size w w' := by
  have h : (k : Int) ≠ 4 ∧ (k : Int) ≠ 5 ∧ (k : Int) ≠ 7 ∧ (k : Int) ≠ 8 ∧ (k : Int) ≠ 9 ∧ (k : Int) ≠ 11 ∧ (k : Int) ≠ 12 := lenD_none hn
  clear hn
  obtain ⟨h1, h2, h3, h4, h5, h6, h7⟩ := h
  obtain ⟨W1, hW1, hb1, hz1, hx1⟩ := boxes1 w (.int .i64 k) (.int .i64 m) (.int .u64 b) (.string t) (.slice a l cap)
  obtain ⟨p0, p1, p2, p3, p4⟩ := hx1.cells
  go_enter Tryz.func30, Tryz.ntmps30
  go_upto_region 1 with fail
  rw [← hW1]
  clear hW1
  go_wp2_with fail
  go_ret2
  exact ⟨rfl, hb1⟩

theorem missN_sign (k : Nat) : ∀ (l : List Nat), missN k l = -1 ∨ 0 ≤ missN k l
  | [] => Or.inl rfl
  | m :: l => by
    unfold missN
    split
    · exact missN_sign k l
    · right; omega
theorem hasFi_t {k : Nat} {f : Int} (h : hasFi k f = true) : k ≠ 0 ∧ 0 ≤ f ∧ f < 10 ∧ missN k (methsI f) = -1 := by
  have hf : 0 ≤ f ∧ f < 10 := by
    unfold hasFi at h
    simp only [Bool.and_eq_true, decide_eq_true_eq] at h
    exact h.1
  have e := hasFi_eq k f hf
  rw [h] at e
  have e' : missN k (methsI f) = -1 := of_decide_eq_true e.symm
  refine ⟨fun hk => ?_, hf.1, hf.2, e'⟩
  subst hk
  obtain ⟨n, rfl⟩ : ∃ n : Nat, f = n := ⟨f.toNat, by omega⟩
  have hn : n < 10 := by omega
  have : ∀ n : Nat, n < 10 → missN 0 (methsI n) ≠ -1 := by decide
  exact this n hn e'
theorem hasFi_f {k : Nat} {f : Int} (h : hasFi k f = false) : k = 0 ∨ (k ≠ 0 ∧ f < 0) ∨ (k ≠ 0 ∧ 10 ≤ f) ∨ (k ≠ 0 ∧ 0 ≤ f ∧ f < 10 ∧ 0 ≤ missN k (methsI f)) := by
  by_cases hf : 0 ≤ f ∧ f < 10
  · by_cases hk : k = 0
    · exact Or.inl hk
    · have e := hasFi_eq k f hf
      rw [h] at e
      have e' : missN k (methsI f) ≠ -1 := of_decide_eq_false e.symm
      rcases missN_sign k (methsI f) with h1 | h1
      · exact absurd h1 e'
      · exact Or.inr (Or.inr (Or.inr ⟨hk, hf.1, hf.2, h1⟩))
  · by_cases hk : k = 0
    · exact Or.inl hk
    · omega

set_option maxRecDepth 100000 in
set_option maxHeartbeats 3200000 in
theorem rface_yes {w0 : World} {d : D} {k : Nat} (hk : k ≤ 13) {m b : Int} {t : ByteArray} {a : Option Addr} {l cap : Nat} (hv : Rep w0 (.agg #[.int .i64 k, .int .i64 m, .int .u64 b, .string t, .slice a l cap]) d) (hs : Slim d) (f : Int) (h : hasFi k f = true) (w : World) (hb0 : Below w0.heap.size w0 w) :
    Calls Tryz.prog 24 #[(.agg #[.int .i64 k, .int .i64 m, .int .u64 b, .string t, .slice a l cap]), .int .i64 f] w fun x w' => ∃ v', x = .returned v' ∧ ResV w' (fun b => w.heap.size ≤ b) v' (.gave d) ∧ Below w.heap.size w w' := by
  have HL := Lib.hid (fun W => lacks_any k hk f W)
  obtain ⟨g0, g1, g2, g3⟩ := hasFi_t h
  rw [g3] at HL
  have g4 : (k : Int) ≠ 0 := by omega
  have g5 : ¬ f < 0 := by omega
  have g6 : ¬ 10 ≤ f := by omega
  clear h g0 g3
  have HC := Lib.hid (fun W h => copy_any hv hs W h)
  have HB := Lib.hid hb0
  clear hv hs hb0
  obtain ⟨W1, hW1, hb1, hz, hx1, hx2⟩ := res_worlds w (.int .i64 k) (.int .i64 m) (.int .u64 b) (.string t) (.slice a l cap)
  obtain ⟨p0, p1, p2, p3, p4⟩ := hx1.cells
  go_enter Tryz.func24, Tryz.ntmps24
  go_upto_region 1 with fail
  rw [← hW1]
  clear hW1
  go_wp2_with (first
    | (go_at_call 41; refine (HL.out _).mono ?_; rintro e w1 ⟨rfl, hb4⟩; have hx4 := hx1.row.later hb4; have r0 : w1.cell? ⟨w.heap.size, 0, none⟩ = some (.int .i64 k) := hx4.cell 0 rfl; have r1 : w1.cell? ⟨w.heap.size, 1, none⟩ = some (.int .i64 m) := hx4.cell 1 rfl; have r2 : w1.cell? ⟨w.heap.size, 2, none⟩ = some (.int .u64 b) := hx4.cell 2 rfl; have r3 : w1.cell? ⟨w.heap.size, 3, none⟩ = some (.string t) := hx4.cell 3 rfl; have r4 : w1.cell? ⟨w.heap.size, 4, none⟩ = some (.slice a l cap) := hx4.cell 4 rfl; have hx5 := hx2.later hb4; dsimp only)
    | (go_at_call 22; refine (HC.out _ (HB.out.trans ((hb1.trans (hb4.mono hb1.size)).mono HB.out.size))).mono ?_; rintro e w2 ⟨v', rfl, hv', hb2⟩; obtain ⟨k5, m5, b5, t5, a5, n5, cap5, rfl⟩ := hv'.form; have hy2 := hx5.later hb2; dsimp only)
    | (go_at_call 21; refine (rgave_v _ _ _ _ _ _ _ _).mono ?_; rintro e w3 ⟨rfl, hb3⟩; have hy := hy2.later hb3; have q0 : w3.cell? ⟨w.heap.size + 1, 0, none⟩ = some (.int .i64 0) := hy.cell 0 rfl; have fq0 := hy.thaw 0; have q1 : w3.cell? ⟨w.heap.size + 1, 1, none⟩ = some (.int .i64 0) := hy.cell 1 rfl; have fq1 := hy.thaw 1; have q2 : w3.cell? ⟨w.heap.size + 1, 2, none⟩ = some (.int .i64 0) := hy.cell 2 rfl; have fq2 := hy.thaw 2; have q3 : w3.cell? ⟨w.heap.size + 1, 3, none⟩ = some (.int .i64 0) := hy.cell 3 rfl; have fq3 := hy.thaw 3; have q4 : w3.cell? ⟨w.heap.size + 1, 4, none⟩ = some (.bool false) := hy.cell 4 rfl; have fq4 := hy.thaw 4; have q5 : w3.cell? ⟨w.heap.size + 1, 5, none⟩ = some (.int .i64 0) := hy.cell 5 rfl; have fq5 := hy.thaw 5; have q6 : w3.cell? ⟨w.heap.size + 1, 6, none⟩ = some (.int .i64 0) := hy.cell 6 rfl; have fq6 := hy.thaw 6; have q7 : w3.cell? ⟨w.heap.size + 1, 7, none⟩ = some (.int .u64 0) := hy.cell 7 rfl; have fq7 := hy.thaw 7; have q8 : w3.cell? ⟨w.heap.size + 1, 8, none⟩ = some (.string ⟨#[]⟩) := hy.cell 8 rfl; have fq8 := hy.thaw 8; have q9 : w3.cell? ⟨w.heap.size + 1, 9, none⟩ = some (.slice none 0 0) := hy.cell 9 rfl; have fq9 := hy.thaw 9; dsimp only))
  have hzl4 := hb4.size
  have hzl := hb2.size
  have hzo := hz.out
  have hbw2 := (hb1.trans (hb4.mono hb1.size)).trans (hb2.mono (hb1.trans (hb4.mono hb1.size)).size)
  exact bodyPost_ret (results_cell_row rfl _ _ (w.heap.size + 1) 42 _ (0, 0) _ rfl (hy.set10 _ _ _ _ _ _ _ _ _ _) Tryz.underlying42 rfl (by kernel_rfl)) rfl
    ⟨_, rfl, ⟨_, _, _, _, _, _, _, rfl, RepQ.set10 (N := w1.heap.size) (hv'.later hb3) (by omega) (by omega)⟩, set10_below (hbw2.trans (hb3.mono hbw2.size)) (by omega)⟩

set_option maxRecDepth 100000 in
set_option maxHeartbeats 3200000 in
theorem rface_no {k : Nat} (hk : k ≤ 13) {m b : Int} {t : ByteArray} {a : Option Addr} {l cap : Nat} (f : Int) (h : hasFi k f = false) (w : World) :
    Calls Tryz.prog 24 #[(.agg #[.int .i64 k, .int .i64 m, .int .u64 b, .string t, .slice a l cap]), .int .i64 f] w fun x w' => ∃ v', x = .returned v' ∧ ResV w' (fun b => w.heap.size ≤ b) v' (.pan 2 (faceMiss k f)) ∧ Below w.heap.size w w' := by
  have HL := Lib.hid (fun W => lacks_any k hk f W)
  have hF : k ≠ 0 → faceMiss k f = missN k (methsI f) := fun h0 => by unfold faceMiss; rw [if_neg h0]
  have hO : ¬ (0 ≤ f ∧ f < 10) → missN k (methsI f) = -1 := fun h0 => by unfold methsI; rw [if_neg h0]; rfl
  generalize hm : missN k (methsI f) = mm at *
  rcases hasFi_f h with h0 | ⟨h0, h1⟩ | ⟨h0, h1⟩ | ⟨h0, h1, h2, h3⟩
  · subst h0
    have e : faceMiss 0 f = -1 := rfl
    rw [e]
    show Calls Tryz.prog 24 #[(.agg #[.int .i64 0, .int .i64 m, .int .u64 b, .string t, .slice a l cap]), .int .i64 f] w _
    obtain ⟨W1, hW1, hb1, hz, hx1, hx2⟩ := res_worlds w (.int .i64 0) (.int .i64 m) (.int .u64 b) (.string t) (.slice a l cap)
    obtain ⟨p0, p1, p2, p3, p4⟩ := hx1.cells
    clear h hF hO hm
    go_enter Tryz.func24, Tryz.ntmps24
    go_upto_region 1 with fail
    rw [← hW1]
    clear hW1
    go_wp2_with (go_at_call 25; refine (rpan_v _ _ _).mono ?_; rintro e w3 ⟨rfl, hb3⟩; have hy := hx2.later hb3; have q0 : w3.cell? ⟨w.heap.size + 1, 0, none⟩ = some (.int .i64 0) := hy.cell 0 rfl; have fq0 := hy.thaw 0; have q1 : w3.cell? ⟨w.heap.size + 1, 1, none⟩ = some (.int .i64 0) := hy.cell 1 rfl; have fq1 := hy.thaw 1; have q2 : w3.cell? ⟨w.heap.size + 1, 2, none⟩ = some (.int .i64 0) := hy.cell 2 rfl; have fq2 := hy.thaw 2; have q3 : w3.cell? ⟨w.heap.size + 1, 3, none⟩ = some (.int .i64 0) := hy.cell 3 rfl; have fq3 := hy.thaw 3; have q4 : w3.cell? ⟨w.heap.size + 1, 4, none⟩ = some (.bool false) := hy.cell 4 rfl; have fq4 := hy.thaw 4; have q5 : w3.cell? ⟨w.heap.size + 1, 5, none⟩ = some (.int .i64 0) := hy.cell 5 rfl; have fq5 := hy.thaw 5; have q6 : w3.cell? ⟨w.heap.size + 1, 6, none⟩ = some (.int .i64 0) := hy.cell 6 rfl; have fq6 := hy.thaw 6; have q7 : w3.cell? ⟨w.heap.size + 1, 7, none⟩ = some (.int .u64 0) := hy.cell 7 rfl; have fq7 := hy.thaw 7; have q8 : w3.cell? ⟨w.heap.size + 1, 8, none⟩ = some (.string ⟨#[]⟩) := hy.cell 8 rfl; have fq8 := hy.thaw 8; have q9 : w3.cell? ⟨w.heap.size + 1, 9, none⟩ = some (.slice none 0 0) := hy.cell 9 rfl; have fq9 := hy.thaw 9; dsimp only)
    have hzo := hz.out
    exact bodyPost_ret (results_cell_row rfl _ _ (w.heap.size + 1) 42 _ (0, 0) _ rfl (hy.set10 _ _ _ _ _ _ _ _ _ _) Tryz.underlying42 rfl (by kernel_rfl)) rfl
      ⟨_, rfl, rfl, set10_below (hb1.trans (hb3.mono hb1.size)) (by omega)⟩
  · rw [hF h0, hO (by omega)]
    have g4 : (k : Int) ≠ 0 := by omega
    obtain ⟨W1, hW1, hb1, hz, hx1, hx2⟩ := res_worlds w (.int .i64 k) (.int .i64 m) (.int .u64 b) (.string t) (.slice a l cap)
    obtain ⟨p0, p1, p2, p3, p4⟩ := hx1.cells
    clear h hF hO hm h0
    go_enter Tryz.func24, Tryz.ntmps24
    go_upto_region 1 with fail
    rw [← hW1]
    clear hW1
    go_wp2_with (go_at_call 25; refine (rpan_v _ _ _).mono ?_; rintro e w3 ⟨rfl, hb3⟩; have hy := hx2.later hb3; have q0 : w3.cell? ⟨w.heap.size + 1, 0, none⟩ = some (.int .i64 0) := hy.cell 0 rfl; have fq0 := hy.thaw 0; have q1 : w3.cell? ⟨w.heap.size + 1, 1, none⟩ = some (.int .i64 0) := hy.cell 1 rfl; have fq1 := hy.thaw 1; have q2 : w3.cell? ⟨w.heap.size + 1, 2, none⟩ = some (.int .i64 0) := hy.cell 2 rfl; have fq2 := hy.thaw 2; have q3 : w3.cell? ⟨w.heap.size + 1, 3, none⟩ = some (.int .i64 0) := hy.cell 3 rfl; have fq3 := hy.thaw 3; have q4 : w3.cell? ⟨w.heap.size + 1, 4, none⟩ = some (.bool false) := hy.cell 4 rfl; have fq4 := hy.thaw 4; have q5 : w3.cell? ⟨w.heap.size + 1, 5, none⟩ = some (.int .i64 0) := hy.cell 5 rfl; have fq5 := hy.thaw 5; have q6 : w3.cell? ⟨w.heap.size + 1, 6, none⟩ = some (.int .i64 0) := hy.cell 6 rfl; have fq6 := hy.thaw 6; have q7 : w3.cell? ⟨w.heap.size + 1, 7, none⟩ = some (.int .u64 0) := hy.cell 7 rfl; have fq7 := hy.thaw 7; have q8 : w3.cell? ⟨w.heap.size + 1, 8, none⟩ = some (.string ⟨#[]⟩) := hy.cell 8 rfl; have fq8 := hy.thaw 8; have q9 : w3.cell? ⟨w.heap.size + 1, 9, none⟩ = some (.slice none 0 0) := hy.cell 9 rfl; have fq9 := hy.thaw 9; dsimp only)
    have hzo := hz.out
    exact bodyPost_ret (results_cell_row rfl _ _ (w.heap.size + 1) 42 _ (0, 0) _ rfl (hy.set10 _ _ _ _ _ _ _ _ _ _) Tryz.underlying42 rfl (by kernel_rfl)) rfl
      ⟨_, rfl, rfl, set10_below (hb1.trans (hb3.mono hb1.size)) (by omega)⟩
  · rw [hF h0, hO (by omega)]
    have g4 : (k : Int) ≠ 0 := by omega
    have g5 : ¬ f < 0 := by omega
    obtain ⟨W1, hW1, hb1, hz, hx1, hx2⟩ := res_worlds w (.int .i64 k) (.int .i64 m) (.int .u64 b) (.string t) (.slice a l cap)
    obtain ⟨p0, p1, p2, p3, p4⟩ := hx1.cells
    clear h hF hO hm h0
    go_enter Tryz.func24, Tryz.ntmps24
    go_upto_region 1 with fail
    rw [← hW1]
    clear hW1
    go_wp2_with (go_at_call 25; refine (rpan_v _ _ _).mono ?_; rintro e w3 ⟨rfl, hb3⟩; have hy := hx2.later hb3; have q0 : w3.cell? ⟨w.heap.size + 1, 0, none⟩ = some (.int .i64 0) := hy.cell 0 rfl; have fq0 := hy.thaw 0; have q1 : w3.cell? ⟨w.heap.size + 1, 1, none⟩ = some (.int .i64 0) := hy.cell 1 rfl; have fq1 := hy.thaw 1; have q2 : w3.cell? ⟨w.heap.size + 1, 2, none⟩ = some (.int .i64 0) := hy.cell 2 rfl; have fq2 := hy.thaw 2; have q3 : w3.cell? ⟨w.heap.size + 1, 3, none⟩ = some (.int .i64 0) := hy.cell 3 rfl; have fq3 := hy.thaw 3; have q4 : w3.cell? ⟨w.heap.size + 1, 4, none⟩ = some (.bool false) := hy.cell 4 rfl; have fq4 := hy.thaw 4; have q5 : w3.cell? ⟨w.heap.size + 1, 5, none⟩ = some (.int .i64 0) := hy.cell 5 rfl; have fq5 := hy.thaw 5; have q6 : w3.cell? ⟨w.heap.size + 1, 6, none⟩ = some (.int .i64 0) := hy.cell 6 rfl; have fq6 := hy.thaw 6; have q7 : w3.cell? ⟨w.heap.size + 1, 7, none⟩ = some (.int .u64 0) := hy.cell 7 rfl; have fq7 := hy.thaw 7; have q8 : w3.cell? ⟨w.heap.size + 1, 8, none⟩ = some (.string ⟨#[]⟩) := hy.cell 8 rfl; have fq8 := hy.thaw 8; have q9 : w3.cell? ⟨w.heap.size + 1, 9, none⟩ = some (.slice none 0 0) := hy.cell 9 rfl; have fq9 := hy.thaw 9; dsimp only)
    have hzo := hz.out
    exact bodyPost_ret (results_cell_row rfl _ _ (w.heap.size + 1) 42 _ (0, 0) _ rfl (hy.set10 _ _ _ _ _ _ _ _ _ _) Tryz.underlying42 rfl (by kernel_rfl)) rfl
      ⟨_, rfl, rfl, set10_below (hb1.trans (hb3.mono hb1.size)) (by omega)⟩
  · rw [hF h0]
    rw [hm] at h3
    have g4 : (k : Int) ≠ 0 := by omega
    have g5 : ¬ f < 0 := by omega
    have g6 : ¬ 10 ≤ f := by omega
    obtain ⟨W1, hW1, hb1, hz, hx1, hx2⟩ := res_worlds w (.int .i64 k) (.int .i64 m) (.int .u64 b) (.string t) (.slice a l cap)
    obtain ⟨p0, p1, p2, p3, p4⟩ := hx1.cells
    clear h hF hO hm h0
    go_enter Tryz.func24, Tryz.ntmps24
    go_upto_region 1 with fail
    rw [← hW1]
    clear hW1
    go_wp2_with (first | (go_at_call 41; refine (HL.out _).mono ?_; rintro e w1 ⟨rfl, hb4⟩; have hx5 := hx2.later hb4; dsimp only) | (go_at_call 25; refine (rpan_v _ _ _).mono ?_; rintro e w3 ⟨rfl, hb3⟩; have hy := hx5.later hb3; have q0 : w3.cell? ⟨w.heap.size + 1, 0, none⟩ = some (.int .i64 0) := hy.cell 0 rfl; have fq0 := hy.thaw 0; have q1 : w3.cell? ⟨w.heap.size + 1, 1, none⟩ = some (.int .i64 0) := hy.cell 1 rfl; have fq1 := hy.thaw 1; have q2 : w3.cell? ⟨w.heap.size + 1, 2, none⟩ = some (.int .i64 0) := hy.cell 2 rfl; have fq2 := hy.thaw 2; have q3 : w3.cell? ⟨w.heap.size + 1, 3, none⟩ = some (.int .i64 0) := hy.cell 3 rfl; have fq3 := hy.thaw 3; have q4 : w3.cell? ⟨w.heap.size + 1, 4, none⟩ = some (.bool false) := hy.cell 4 rfl; have fq4 := hy.thaw 4; have q5 : w3.cell? ⟨w.heap.size + 1, 5, none⟩ = some (.int .i64 0) := hy.cell 5 rfl; have fq5 := hy.thaw 5; have q6 : w3.cell? ⟨w.heap.size + 1, 6, none⟩ = some (.int .i64 0) := hy.cell 6 rfl; have fq6 := hy.thaw 6; have q7 : w3.cell? ⟨w.heap.size + 1, 7, none⟩ = some (.int .u64 0) := hy.cell 7 rfl; have fq7 := hy.thaw 7; have q8 : w3.cell? ⟨w.heap.size + 1, 8, none⟩ = some (.string ⟨#[]⟩) := hy.cell 8 rfl; have fq8 := hy.thaw 8; have q9 : w3.cell? ⟨w.heap.size + 1, 9, none⟩ = some (.slice none 0 0) := hy.cell 9 rfl; have fq9 := hy.thaw 9; dsimp only))
    have hzl4 := hb4.size
    have hzo := hz.out
    have hbw2 := hb1.trans (hb4.mono hb1.size)
    exact bodyPost_ret (results_cell_row rfl _ _ (w.heap.size + 1) 42 _ (0, 0) _ rfl (hy.set10 _ _ _ _ _ _ _ _ _ _) Tryz.underlying42 rfl (by kernel_rfl)) rfl
      ⟨_, rfl, rfl, set10_below (hbw2.trans (hb3.mono hbw2.size)) (by omega)⟩

set_option maxRecDepth 100000 in
set_option maxHeartbeats 3200000 in
theorem rkind_yes {w0 : World} {d : D} {k : Nat} (hk : k ≤ 13) {m b : Int} {t : ByteArray} {a : Option Addr} {l cap : Nat} (hv : Rep w0 (.agg #[.int .i64 k, .int .i64 m, .int .u64 b, .string t, .slice a l cap]) d) (hs : Slim d) (n : Int) (h : isB k n = true) (hn : 1 ≤ n ∧ n < 14) (w : World) (hb0 : Below w0.heap.size w0 w) :
    Calls Tryz.prog 23 #[(.agg #[.int .i64 k, .int .i64 m, .int .u64 b, .string t, .slice a l cap]), .int .i64 n] w fun x w' => ∃ v', x = .returned v' ∧ ResV w' (fun b => w.heap.size ≤ b) v' (.gave d) ∧ Below w.heap.size w w' := by
  obtain ⟨n, rfl⟩ : ∃ n' : Nat, n = n' := ⟨n.toNat, by omega⟩
  have HM := Lib.hid (fun W => match_kind n k (by omega) hk (.int .i64 m) (.int .u64 b) (.string t) (.slice a l cap) W)
  rw [h] at HM
  have g1 : ¬ ((n : Int) ≤ 0) := by omega
  have g2 : ¬ (14 ≤ (n : Int)) := by omega
  clear h hn
  have HC := Lib.hid (fun W h => copy_any hv hs W h)
  have HB := Lib.hid hb0
  clear hv hs hb0
  obtain ⟨W1, hW1, hb1, hz, hx1, hx2⟩ := res_worlds w (.int .i64 k) (.int .i64 m) (.int .u64 b) (.string t) (.slice a l cap)
  obtain ⟨p0, p1, p2, p3, p4⟩ := hx1.cells
  go_enter Tryz.func23, Tryz.ntmps23
  go_upto_region 1 with fail
  rw [← hW1]
  clear hW1
  go_wp2_with (first
    | (go_at_call 40; refine (HM.out _).mono ?_; rintro e w1 ⟨rfl, hb4⟩; have hx4 := hx1.row.later hb4; have r0 : w1.cell? ⟨w.heap.size, 0, none⟩ = some (.int .i64 k) := hx4.cell 0 rfl; have r1 : w1.cell? ⟨w.heap.size, 1, none⟩ = some (.int .i64 m) := hx4.cell 1 rfl; have r2 : w1.cell? ⟨w.heap.size, 2, none⟩ = some (.int .u64 b) := hx4.cell 2 rfl; have r3 : w1.cell? ⟨w.heap.size, 3, none⟩ = some (.string t) := hx4.cell 3 rfl; have r4 : w1.cell? ⟨w.heap.size, 4, none⟩ = some (.slice a l cap) := hx4.cell 4 rfl; have hx5 := hx2.later hb4; dsimp only)
    | (go_at_call 22; refine (HC.out _ (HB.out.trans ((hb1.trans (hb4.mono hb1.size)).mono HB.out.size))).mono ?_; rintro e w2 ⟨v', rfl, hv', hb2⟩; obtain ⟨k5, m5, b5, t5, a5, n5, cap5, rfl⟩ := hv'.form; have hy2 := hx5.later hb2; dsimp only)
    | (go_at_call 21; refine (rgave_v _ _ _ _ _ _ _ _).mono ?_; rintro e w3 ⟨rfl, hb3⟩; have hy := hy2.later hb3; have q0 : w3.cell? ⟨w.heap.size + 1, 0, none⟩ = some (.int .i64 0) := hy.cell 0 rfl; have fq0 := hy.thaw 0; have q1 : w3.cell? ⟨w.heap.size + 1, 1, none⟩ = some (.int .i64 0) := hy.cell 1 rfl; have fq1 := hy.thaw 1; have q2 : w3.cell? ⟨w.heap.size + 1, 2, none⟩ = some (.int .i64 0) := hy.cell 2 rfl; have fq2 := hy.thaw 2; have q3 : w3.cell? ⟨w.heap.size + 1, 3, none⟩ = some (.int .i64 0) := hy.cell 3 rfl; have fq3 := hy.thaw 3; have q4 : w3.cell? ⟨w.heap.size + 1, 4, none⟩ = some (.bool false) := hy.cell 4 rfl; have fq4 := hy.thaw 4; have q5 : w3.cell? ⟨w.heap.size + 1, 5, none⟩ = some (.int .i64 0) := hy.cell 5 rfl; have fq5 := hy.thaw 5; have q6 : w3.cell? ⟨w.heap.size + 1, 6, none⟩ = some (.int .i64 0) := hy.cell 6 rfl; have fq6 := hy.thaw 6; have q7 : w3.cell? ⟨w.heap.size + 1, 7, none⟩ = some (.int .u64 0) := hy.cell 7 rfl; have fq7 := hy.thaw 7; have q8 : w3.cell? ⟨w.heap.size + 1, 8, none⟩ = some (.string ⟨#[]⟩) := hy.cell 8 rfl; have fq8 := hy.thaw 8; have q9 : w3.cell? ⟨w.heap.size + 1, 9, none⟩ = some (.slice none 0 0) := hy.cell 9 rfl; have fq9 := hy.thaw 9; dsimp only))
  have hzl4 := hb4.size
  have hzl := hb2.size
  have hzo := hz.out
  have hbw2 := (hb1.trans (hb4.mono hb1.size)).trans (hb2.mono (hb1.trans (hb4.mono hb1.size)).size)
  exact bodyPost_ret (results_cell_row rfl _ _ (w.heap.size + 1) 42 _ (0, 0) _ rfl (hy.set10 _ _ _ _ _ _ _ _ _ _) Tryz.underlying42 rfl (by kernel_rfl)) rfl
    ⟨_, rfl, ⟨_, _, _, _, _, _, _, rfl, RepQ.set10 (N := w1.heap.size) (hv'.later hb3) (by omega) (by omega)⟩, set10_below (hbw2.trans (hb3.mono hbw2.size)) (by omega)⟩

set_option maxRecDepth 100000 in
set_option maxHeartbeats 3200000 in
theorem rkind_no {k : Nat} (hk : k ≤ 13) {m b : Int} {t : ByteArray} {a : Option Addr} {l cap : Nat} (n : Int) (h : isB k n = false) (w : World) :
    Calls Tryz.prog 23 #[(.agg #[.int .i64 k, .int .i64 m, .int .u64 b, .string t, .slice a l cap]), .int .i64 n] w fun x w' => ∃ v', x = .returned v' ∧ ResV w' (fun b => w.heap.size ≤ b) v' (.pan 2 k) ∧ Below w.heap.size w w' := by
  obtain ⟨W1, hW1, hb1, hz, hx1, hx2⟩ := res_worlds w (.int .i64 k) (.int .i64 m) (.int .u64 b) (.string t) (.slice a l cap)
  obtain ⟨p0, p1, p2, p3, p4⟩ := hx1.cells
  have hc : n ≤ 0 ∨ ¬ n ≤ 0 ∧ 14 ≤ n ∨ 1 ≤ n ∧ n < 14 := by omega
  rcases hc with h0 | ⟨h0, h1⟩ | h0
  · skip
    clear h
    go_enter Tryz.func23, Tryz.ntmps23
    go_upto_region 1 with fail
    rw [← hW1]
    clear hW1
    go_wp2_with (go_at_call 25; refine (rpan_v _ _ _).mono ?_; rintro e w3 ⟨rfl, hb3⟩; have hy := hx2.later hb3; have q0 : w3.cell? ⟨w.heap.size + 1, 0, none⟩ = some (.int .i64 0) := hy.cell 0 rfl; have fq0 := hy.thaw 0; have q1 : w3.cell? ⟨w.heap.size + 1, 1, none⟩ = some (.int .i64 0) := hy.cell 1 rfl; have fq1 := hy.thaw 1; have q2 : w3.cell? ⟨w.heap.size + 1, 2, none⟩ = some (.int .i64 0) := hy.cell 2 rfl; have fq2 := hy.thaw 2; have q3 : w3.cell? ⟨w.heap.size + 1, 3, none⟩ = some (.int .i64 0) := hy.cell 3 rfl; have fq3 := hy.thaw 3; have q4 : w3.cell? ⟨w.heap.size + 1, 4, none⟩ = some (.bool false) := hy.cell 4 rfl; have fq4 := hy.thaw 4; have q5 : w3.cell? ⟨w.heap.size + 1, 5, none⟩ = some (.int .i64 0) := hy.cell 5 rfl; have fq5 := hy.thaw 5; have q6 : w3.cell? ⟨w.heap.size + 1, 6, none⟩ = some (.int .i64 0) := hy.cell 6 rfl; have fq6 := hy.thaw 6; have q7 : w3.cell? ⟨w.heap.size + 1, 7, none⟩ = some (.int .u64 0) := hy.cell 7 rfl; have fq7 := hy.thaw 7; have q8 : w3.cell? ⟨w.heap.size + 1, 8, none⟩ = some (.string ⟨#[]⟩) := hy.cell 8 rfl; have fq8 := hy.thaw 8; have q9 : w3.cell? ⟨w.heap.size + 1, 9, none⟩ = some (.slice none 0 0) := hy.cell 9 rfl; have fq9 := hy.thaw 9; dsimp only)
    have hzo := hz.out
    exact bodyPost_ret (results_cell_row rfl _ _ (w.heap.size + 1) 42 _ (0, 0) _ rfl (hy.set10 _ _ _ _ _ _ _ _ _ _) Tryz.underlying42 rfl (by kernel_rfl)) rfl
      ⟨_, rfl, rfl, set10_below (hb1.trans (hb3.mono hb1.size)) (by omega)⟩
  · skip
    clear h
    go_enter Tryz.func23, Tryz.ntmps23
    go_upto_region 1 with fail
    rw [← hW1]
    clear hW1
    go_wp2_with (go_at_call 25; refine (rpan_v _ _ _).mono ?_; rintro e w3 ⟨rfl, hb3⟩; have hy := hx2.later hb3; have q0 : w3.cell? ⟨w.heap.size + 1, 0, none⟩ = some (.int .i64 0) := hy.cell 0 rfl; have fq0 := hy.thaw 0; have q1 : w3.cell? ⟨w.heap.size + 1, 1, none⟩ = some (.int .i64 0) := hy.cell 1 rfl; have fq1 := hy.thaw 1; have q2 : w3.cell? ⟨w.heap.size + 1, 2, none⟩ = some (.int .i64 0) := hy.cell 2 rfl; have fq2 := hy.thaw 2; have q3 : w3.cell? ⟨w.heap.size + 1, 3, none⟩ = some (.int .i64 0) := hy.cell 3 rfl; have fq3 := hy.thaw 3; have q4 : w3.cell? ⟨w.heap.size + 1, 4, none⟩ = some (.bool false) := hy.cell 4 rfl; have fq4 := hy.thaw 4; have q5 : w3.cell? ⟨w.heap.size + 1, 5, none⟩ = some (.int .i64 0) := hy.cell 5 rfl; have fq5 := hy.thaw 5; have q6 : w3.cell? ⟨w.heap.size + 1, 6, none⟩ = some (.int .i64 0) := hy.cell 6 rfl; have fq6 := hy.thaw 6; have q7 : w3.cell? ⟨w.heap.size + 1, 7, none⟩ = some (.int .u64 0) := hy.cell 7 rfl; have fq7 := hy.thaw 7; have q8 : w3.cell? ⟨w.heap.size + 1, 8, none⟩ = some (.string ⟨#[]⟩) := hy.cell 8 rfl; have fq8 := hy.thaw 8; have q9 : w3.cell? ⟨w.heap.size + 1, 9, none⟩ = some (.slice none 0 0) := hy.cell 9 rfl; have fq9 := hy.thaw 9; dsimp only)
    have hzo := hz.out
    exact bodyPost_ret (results_cell_row rfl _ _ (w.heap.size + 1) 42 _ (0, 0) _ rfl (hy.set10 _ _ _ _ _ _ _ _ _ _) Tryz.underlying42 rfl (by kernel_rfl)) rfl
      ⟨_, rfl, rfl, set10_below (hb1.trans (hb3.mono hb1.size)) (by omega)⟩
  · obtain ⟨n, rfl⟩ : ∃ n' : Nat, n = n' := ⟨n.toNat, by omega⟩
    have HM := Lib.hid (fun W => match_kind n k (by omega) hk (.int .i64 m) (.int .u64 b) (.string t) (.slice a l cap) W)
    rw [h] at HM
    have g1 : ¬ ((n : Int) ≤ 0) := by omega
    have g2 : ¬ (14 ≤ (n : Int)) := by omega
    clear h h0
    go_enter Tryz.func23, Tryz.ntmps23
    go_upto_region 1 with fail
    rw [← hW1]
    clear hW1
    go_wp2_with (first | (go_at_call 40; refine (HM.out _).mono ?_; rintro e w1 ⟨rfl, hb4⟩; have hx4 := hx1.row.later hb4; have r0 : w1.cell? ⟨w.heap.size, 0, none⟩ = some (.int .i64 k) := hx4.cell 0 rfl; have r1 : w1.cell? ⟨w.heap.size, 1, none⟩ = some (.int .i64 m) := hx4.cell 1 rfl; have r2 : w1.cell? ⟨w.heap.size, 2, none⟩ = some (.int .u64 b) := hx4.cell 2 rfl; have r3 : w1.cell? ⟨w.heap.size, 3, none⟩ = some (.string t) := hx4.cell 3 rfl; have r4 : w1.cell? ⟨w.heap.size, 4, none⟩ = some (.slice a l cap) := hx4.cell 4 rfl; have hx5 := hx2.later hb4; dsimp only) | (go_at_call 25; refine (rpan_v _ _ _).mono ?_; rintro e w3 ⟨rfl, hb3⟩; have hy := hx5.later hb3; have q0 : w3.cell? ⟨w.heap.size + 1, 0, none⟩ = some (.int .i64 0) := hy.cell 0 rfl; have fq0 := hy.thaw 0; have q1 : w3.cell? ⟨w.heap.size + 1, 1, none⟩ = some (.int .i64 0) := hy.cell 1 rfl; have fq1 := hy.thaw 1; have q2 : w3.cell? ⟨w.heap.size + 1, 2, none⟩ = some (.int .i64 0) := hy.cell 2 rfl; have fq2 := hy.thaw 2; have q3 : w3.cell? ⟨w.heap.size + 1, 3, none⟩ = some (.int .i64 0) := hy.cell 3 rfl; have fq3 := hy.thaw 3; have q4 : w3.cell? ⟨w.heap.size + 1, 4, none⟩ = some (.bool false) := hy.cell 4 rfl; have fq4 := hy.thaw 4; have q5 : w3.cell? ⟨w.heap.size + 1, 5, none⟩ = some (.int .i64 0) := hy.cell 5 rfl; have fq5 := hy.thaw 5; have q6 : w3.cell? ⟨w.heap.size + 1, 6, none⟩ = some (.int .i64 0) := hy.cell 6 rfl; have fq6 := hy.thaw 6; have q7 : w3.cell? ⟨w.heap.size + 1, 7, none⟩ = some (.int .u64 0) := hy.cell 7 rfl; have fq7 := hy.thaw 7; have q8 : w3.cell? ⟨w.heap.size + 1, 8, none⟩ = some (.string ⟨#[]⟩) := hy.cell 8 rfl; have fq8 := hy.thaw 8; have q9 : w3.cell? ⟨w.heap.size + 1, 9, none⟩ = some (.slice none 0 0) := hy.cell 9 rfl; have fq9 := hy.thaw 9; dsimp only))
    have hzl4 := hb4.size
    have hzo := hz.out
    have hbw2 := hb1.trans (hb4.mono hb1.size)
    exact bodyPost_ret (results_cell_row rfl _ _ (w.heap.size + 1) 42 _ (0, 0) _ rfl (hy.set10 _ _ _ _ _ _ _ _ _ _) Tryz.underlying42 rfl (by kernel_rfl)) rfl
      ⟨_, rfl, rfl, set10_below (hbw2.trans (hb3.mono hbw2.size)) (by omega)⟩
end Go.Proofs.YteplhhlgceppkabGreat

/- Contracts of the reference's Open (of values). -/
namespace Go.Proofs.YteplhhlgceppkabGreat
open Go Go.RowKit Go.ChangeShapes Go.WideShapes

/-- A part of a Datum in memory: where it lies. -/
theorem Rep.kid {w : World} {v : Value} {d x : D} (h : Rep w v d) {i : Nat} (hi : d.kids[i]? = some x) : ∃ (k m b : Int) (t : ByteArray) (cap g o : Nat) (k6 m6 b6 : Int) (t6 : ByteArray) (a6 : Option Addr) (n6 cap6 : Nat),
    v = .agg #[.int .i64 k, .int .i64 m, .int .u64 b, .string t, .slice (some ⟨g, o, none⟩) d.kids.length cap] ∧ i < d.kids.length ∧ d.kids.length ≤ cap ∧ cap ≤ 9223372036854775807 ∧ g < w.heap.size ∧
    w.cell? ⟨g, o + i * 5, none⟩ = some (.int .i64 k6) ∧ w.cell? ⟨g, o + i * 5 + 1, none⟩ = some (.int .i64 m6) ∧ w.cell? ⟨g, o + i * 5 + 2, none⟩ = some (.int .u64 b6) ∧ w.cell? ⟨g, o + i * 5 + 3, none⟩ = some (.string t6) ∧ w.cell? ⟨g, o + i * 5 + 4, none⟩ = some (.slice a6 n6 cap6) ∧
    Rep w (.agg #[.int .i64 k6, .int .i64 m6, .int .u64 b6, .string t6, .slice a6 n6 cap6]) x := by
  obtain ⟨k, m, b, t, a, cap, g, o, c, kids, rfl, rfl, hw, ha, hc, hk⟩ := h.inv
  have hi' : kids[i]? = some x := hi
  have hlt : i < kids.length := (List.getElem?_eq_some_iff.1 hi').1
  obtain ⟨rfl, hg, hcp, hcm⟩ := ha (by omega)
  obtain ⟨q0, q1, q2, q3, q4⟩ := hc i hlt
  have hx := hk i x hi'
  obtain ⟨k6, m6, b6, t6, a6, cap6, g6, o6, c6, kids6, e6, _⟩ := hx.inv
  obtain ⟨f0, f1, f2, f3, f4⟩ := five_inv e6
  rw [f0] at q0
  rw [f1] at q1
  rw [f2] at q2
  rw [f3] at q3
  rw [f4] at q4
  rw [e6] at hx
  exact ⟨k, m, b, t, cap, g, o, k6, m6, b6, t6, a6, _, cap6, rfl, hlt, hcp, hcm, hg, q0, q1, q2, q3, q4, hx⟩

theorem Slim.kid {d x : D} (h : Slim d) {i : Nat} (hi : d.kids[i]? = some x) : Slim x := by
  cases d
  exact h.inv.2 _ (List.mem_of_getElem? hi)
theorem Right.kid {d x : D} (h : Right d) {i : Nat} (hi : d.kids[i]? = some x) : Right x := by
  cases d
  exact h.inv.2 _ (List.mem_of_getElem? hi)

theorem ropen_end {W : World} {g : Nat} {tmps : Array Value} {x0 x1 x2 x3 x4 e : Value} (hx : Row W g #[x0, x1, x2, x3, x4] 26) (h4 : tmps.getD 2 undef = .pointer (some ⟨g, 0, none⟩)) (h5 : tmps.getD 3 undef = e) :
    (results Tryz.f42 tmps).run Tryz.prog W = .ok (.tuple #[.agg #[x0, x1, x2, x3, x4], e]) W := by
  have a0 : W.cell? ⟨g, 0, none⟩ = some x0 := hx.cell 0 rfl
  have a1 : W.cell? ⟨g, 1, none⟩ = some x1 := hx.cell 1 rfl
  have a2 : W.cell? ⟨g, 2, none⟩ = some x2 := hx.cell 2 rfl
  have a3 : W.cell? ⟨g, 3, none⟩ = some x3 := hx.cell 3 rfl
  have a4 : W.cell? ⟨g, 4, none⟩ = some x4 := hx.cell 4 rfl
  have h4' : tmps[2]?.getD undef = .pointer (some ⟨g, 0, none⟩) := by simpa using h4
  have h5' : tmps[3]?.getD undef = e := by simpa using h5
  simp [results, Tryz.results42, asAddr, a0, a1, a2, a3, a4, h4', h5', go_sem]

set_option maxRecDepth 100000 in
set_option maxHeartbeats 1600000 in
theorem ropen_nil {m b : Int} {t : ByteArray} {a : Option Addr} {l cap : Nat} (w : World) :
    Calls Tryz.prog 42 #[(.agg #[.int .i64 12, .int .i64 m, .int .u64 b, .string t, .slice a l cap])] w fun x w' => x = .returned (.tuple #[(.agg #[.int .i64 0, .int .i64 0, .int .u64 0, .string ⟨#[]⟩, .slice none 0 0]), .int .i64 13]) ∧ Below w.heap.size w w' := by
  obtain ⟨W1, hW1, hb1, hz, hx1, hx2⟩ := rows2 w (.int .i64 12) (.int .i64 m) (.int .u64 b) (.string t) (.slice a l cap)
  have p0 : W1.cell? ⟨w.heap.size, 0, none⟩ = some (.int .i64 12) := hx1.cell 0 rfl
  have p1 : W1.cell? ⟨w.heap.size, 1, none⟩ = some (.int .i64 m) := hx1.cell 1 rfl
  have p2 : W1.cell? ⟨w.heap.size, 2, none⟩ = some (.int .u64 b) := hx1.cell 2 rfl
  have p3 : W1.cell? ⟨w.heap.size, 3, none⟩ = some (.string t) := hx1.cell 3 rfl
  have p4 : W1.cell? ⟨w.heap.size, 4, none⟩ = some (.slice a l cap) := hx1.cell 4 rfl
  have q0 : W1.cell? ⟨w.heap.size + 1, 0, none⟩ = some (.int .i64 0) := hx2.cell 0 rfl
  have fq0 := hx2.thaw 0
  have q1 : W1.cell? ⟨w.heap.size + 1, 1, none⟩ = some (.int .i64 0) := hx2.cell 1 rfl
  have fq1 := hx2.thaw 1
  have q2 : W1.cell? ⟨w.heap.size + 1, 2, none⟩ = some (.int .u64 0) := hx2.cell 2 rfl
  have fq2 := hx2.thaw 2
  have q3 : W1.cell? ⟨w.heap.size + 1, 3, none⟩ = some (.string ⟨#[]⟩) := hx2.cell 3 rfl
  have fq3 := hx2.thaw 3
  have q4 : W1.cell? ⟨w.heap.size + 1, 4, none⟩ = some (.slice none 0 0) := hx2.cell 4 rfl
  have fq4 := hx2.thaw 4
  go_enter Tryz.func42, Tryz.ntmps42
  go_upto_region 1 with fail
  rw [← hW1]
  clear hW1
  go_wp2_with fail
  have hzo := hz.out
  exact bodyPost_ret (ropen_end ((((((hx2).set 0 _).set 1 _).set 2 _).set 3 _).set 4 _) rfl rfl) rfl ⟨rfl, set5_below hb1 (by omega)⟩

set_option maxRecDepth 100000 in
set_option maxHeartbeats 3200000 in
theorem ropen_box {w0 : World} {v : Value} {d x : D} (hv : Rep w0 v d) (hs : Slim d) (hk : d.kind = 11) (hi : d.kids[0]? = some x) (w : World) (hb0 : Below w0.heap.size w0 w) :
    Calls Tryz.prog 42 #[v] w fun y w' => ∃ v', y = .returned (.tuple #[v', .int .i64 0]) ∧ RepQ w' (fun b => w.heap.size ≤ b) v' x ∧ Below w.heap.size w w' := by
  obtain ⟨k, m, b, t, cap, g, o, k6, m6, b6, t6, a6, n6, cap6, rfl, hlt, hcp, hcm, hg, i0, i1, i2, i3, i4, hx⟩ := hv.kid hi
  obtain rfl : k = 11 := by
    obtain ⟨k', m', b', t', a', cap', g', o', c', kids', e1, rfl, _⟩ := hv.inv
    simp only [Value.agg.injEq, Array.mk.injEq, List.cons.injEq, Value.int.injEq, true_and] at e1
    exact e1.1.trans hk
  have HC := Lib.hid (fun W h => copy_any hx (hs.kid hi) W h)
  have HB := Lib.hid hb0
  simp only [Nat.zero_mul, Nat.add_zero] at i0 i1 i2 i3 i4
  generalize hl : d.kids.length = l at *
  have hgl := Lib.hid hg
  clear hv hs hk hi hx hg
  obtain ⟨W1, hW1, hb1, hz, hx1, hx2⟩ := rows2 w (.int .i64 11) (.int .i64 m) (.int .u64 b) (.string t) (.slice (some ⟨g, o, none⟩) l cap)
  have h01 : Below w0.heap.size w0 W1 := hb0.trans (hb1.mono hb0.size)
  clear hb0
  have p0 : W1.cell? ⟨w.heap.size, 0, none⟩ = some (.int .i64 11) := hx1.cell 0 rfl
  have p1 : W1.cell? ⟨w.heap.size, 1, none⟩ = some (.int .i64 m) := hx1.cell 1 rfl
  have p2 : W1.cell? ⟨w.heap.size, 2, none⟩ = some (.int .u64 b) := hx1.cell 2 rfl
  have p3 : W1.cell? ⟨w.heap.size, 3, none⟩ = some (.string t) := hx1.cell 3 rfl
  have p4 : W1.cell? ⟨w.heap.size, 4, none⟩ = some (.slice (some ⟨g, o, none⟩) l cap) := hx1.cell 4 rfl
  have j0 : W1.cell? ⟨g, o, none⟩ = some (.int .i64 k6) := (h01.cell (p := ⟨g, o, none⟩) hgl.out).trans i0
  have j1 : W1.cell? ⟨g, o + 1, none⟩ = some (.int .i64 m6) := (h01.cell (p := ⟨g, o + 1, none⟩) hgl.out).trans i1
  have j2 : W1.cell? ⟨g, o + 2, none⟩ = some (.int .u64 b6) := (h01.cell (p := ⟨g, o + 2, none⟩) hgl.out).trans i2
  have j3 : W1.cell? ⟨g, o + 3, none⟩ = some (.string t6) := (h01.cell (p := ⟨g, o + 3, none⟩) hgl.out).trans i3
  have j4 : W1.cell? ⟨g, o + 4, none⟩ = some (.slice a6 n6 cap6) := (h01.cell (p := ⟨g, o + 4, none⟩) hgl.out).trans i4
  clear i0 i1 i2 i3 i4
  go_enter Tryz.func42, Tryz.ntmps42
  go_upto_region 1 with fail
  rw [← hW1]
  clear hW1
  go_wp2_with (go_at_call 22; refine (HC.out _ h01).mono ?_; rintro e w2 ⟨v', rfl, hv', hb2⟩; obtain ⟨k5, m5, b5, t5, a5, n5, cap5, rfl⟩ := hv'.form; have hy := hx2.later hb2; have q0 : w2.cell? ⟨w.heap.size + 1, 0, none⟩ = some (.int .i64 0) := hy.cell 0 rfl; have fq0 := hy.thaw 0; have q1 : w2.cell? ⟨w.heap.size + 1, 1, none⟩ = some (.int .i64 0) := hy.cell 1 rfl; have fq1 := hy.thaw 1; have q2 : w2.cell? ⟨w.heap.size + 1, 2, none⟩ = some (.int .u64 0) := hy.cell 2 rfl; have fq2 := hy.thaw 2; have q3 : w2.cell? ⟨w.heap.size + 1, 3, none⟩ = some (.string ⟨#[]⟩) := hy.cell 3 rfl; have fq3 := hy.thaw 3; have q4 : w2.cell? ⟨w.heap.size + 1, 4, none⟩ = some (.slice none 0 0) := hy.cell 4 rfl; have fq4 := hy.thaw 4; dsimp only)
  have hzo := hz.out
  exact bodyPost_ret (ropen_end ((((((hy).set 0 _).set 1 _).set 2 _).set 3 _).set 4 _) rfl rfl) rfl
    ⟨_, rfl, RepQ.set5 (N := W1.heap.size) hv' (by omega) (by omega), set5_below (hb1.trans (hb2.mono hb1.size)) (by omega)⟩
end Go.Proofs.YteplhhlgceppkabGreat

/- Contracts of the reference's Open (as a result). -/
namespace Go.Proofs.YteplhhlgceppkabGreat
open Go Go.RowKit Go.ChangeShapes Go.WideShapes

set_option maxRecDepth 100000 in
set_option maxHeartbeats 3200000 in
theorem rgopen_no {k : Nat} (hk : k ≤ 13) {m b : Int} {t : ByteArray} {a : Option Addr} {l cap : Nat} (h : hasFi k 3 = false) (w : World) :
    Calls Tryz.prog 26 #[(.agg #[.int .i64 k, .int .i64 m, .int .u64 b, .string t, .slice a l cap])] w fun x w' => ∃ v', x = .returned v' ∧ ResV w' (fun b => w.heap.size ≤ b) v' (.pan 2 (faceMiss k 3)) ∧ Below w.heap.size w w' := by
  have HF := Lib.hid (fun W => rface_no hk (m := m) (b := b) (t := t) (a := a) (l := l) (cap := cap) 3 h W)
  generalize hm : faceMiss k 3 = mm at *
  clear h hm
  obtain ⟨W1, hW1, hb1, hz, hx1, hx2⟩ := res_worlds w (.int .i64 k) (.int .i64 m) (.int .u64 b) (.string t) (.slice a l cap)
  obtain ⟨p0, p1, p2, p3, p4⟩ := hx1.cells
  go_enter Tryz.func26, Tryz.ntmps26
  go_upto_region 1 with fail
  rw [← hW1]
  clear hW1
  go_upto_region 2 with (go_at_call 24; refine (HF.out _).mono ?_; rintro e w2 ⟨v', rfl, hv', hb2⟩; obtain rfl : v' = _ := hv'; dsimp only)
  obtain ⟨W2, hW2⟩ : ∃ W2, W2 = w2.alloc (.cells #[.int .i64 110, .int .i64 0, .int .i64 2, .int .i64 mm, .bool false, .int .i64 0, .int .i64 0, .int .u64 0, .string ⟨#[]⟩, .slice none 0 0] 42) := ⟨_, rfl⟩
  have hv2 : Row W2 w2.heap.size #[.int .i64 110, .int .i64 0, .int .i64 2, .int .i64 mm, .bool false, .int .i64 0, .int .i64 0, .int .u64 0, .string ⟨#[]⟩, .slice none 0 0] 42 := by rw [hW2]; exact Row.new _ _ _
  have ha2 : Below w2.heap.size w2 W2 := by rw [hW2]; exact (Below.refl _ _).alloc (Nat.le_refl _) _
  rw [← hW2]
  clear hW2
  have hy := (hx2.later hb2).later (ha2.mono (Nat.le_refl _))
  have r0 : W2.cell? ⟨w2.heap.size, 0, none⟩ = some (.int .i64 110) := hv2.cell 0 rfl
  have r1 : W2.cell? ⟨w2.heap.size, 1, none⟩ = some (.int .i64 0) := hv2.cell 1 rfl
  have r2 : W2.cell? ⟨w2.heap.size, 2, none⟩ = some (.int .i64 2) := hv2.cell 2 rfl
  have r3 : W2.cell? ⟨w2.heap.size, 3, none⟩ = some (.int .i64 mm) := hv2.cell 3 rfl
  have r4 : W2.cell? ⟨w2.heap.size, 4, none⟩ = some (.bool false) := hv2.cell 4 rfl
  have r5 : W2.cell? ⟨w2.heap.size, 5, none⟩ = some (.int .i64 0) := hv2.cell 5 rfl
  have r6 : W2.cell? ⟨w2.heap.size, 6, none⟩ = some (.int .i64 0) := hv2.cell 6 rfl
  have r7 : W2.cell? ⟨w2.heap.size, 7, none⟩ = some (.int .u64 0) := hv2.cell 7 rfl
  have r8 : W2.cell? ⟨w2.heap.size, 8, none⟩ = some (.string ⟨#[]⟩) := hv2.cell 8 rfl
  have r9 : W2.cell? ⟨w2.heap.size, 9, none⟩ = some (.slice none 0 0) := hv2.cell 9 rfl
  have q0 : W2.cell? ⟨w.heap.size + 1, 0, none⟩ = some (.int .i64 0) := hy.cell 0 rfl
  have fq0 := hy.thaw 0
  have q1 : W2.cell? ⟨w.heap.size + 1, 1, none⟩ = some (.int .i64 0) := hy.cell 1 rfl
  have fq1 := hy.thaw 1
  have q2 : W2.cell? ⟨w.heap.size + 1, 2, none⟩ = some (.int .i64 0) := hy.cell 2 rfl
  have fq2 := hy.thaw 2
  have q3 : W2.cell? ⟨w.heap.size + 1, 3, none⟩ = some (.int .i64 0) := hy.cell 3 rfl
  have fq3 := hy.thaw 3
  have q4 : W2.cell? ⟨w.heap.size + 1, 4, none⟩ = some (.bool false) := hy.cell 4 rfl
  have fq4 := hy.thaw 4
  have q5 : W2.cell? ⟨w.heap.size + 1, 5, none⟩ = some (.int .i64 0) := hy.cell 5 rfl
  have fq5 := hy.thaw 5
  have q6 : W2.cell? ⟨w.heap.size + 1, 6, none⟩ = some (.int .i64 0) := hy.cell 6 rfl
  have fq6 := hy.thaw 6
  have q7 : W2.cell? ⟨w.heap.size + 1, 7, none⟩ = some (.int .u64 0) := hy.cell 7 rfl
  have fq7 := hy.thaw 7
  have q8 : W2.cell? ⟨w.heap.size + 1, 8, none⟩ = some (.string ⟨#[]⟩) := hy.cell 8 rfl
  have fq8 := hy.thaw 8
  have q9 : W2.cell? ⟨w.heap.size + 1, 9, none⟩ = some (.slice none 0 0) := hy.cell 9 rfl
  have fq9 := hy.thaw 9
  go_wp2_with fail
  have hzo := hz.out
  have hb12 := hb1.trans ((hb2.trans (ha2.mono hb2.size)).mono hb1.size)
  exact bodyPost_ret (results_cell_row rfl _ _ (w.heap.size + 1) 42 _ (0, 0) _ rfl (hy.set10 _ _ _ _ _ _ _ _ _ _) Tryz.underlying42 rfl (by kernel_rfl)) rfl
    ⟨_, rfl, rfl, set10_below hb12 (by omega)⟩

set_option maxRecDepth 100000 in
set_option maxHeartbeats 3200000 in
theorem rgopen_nil {w0 : World} {k : Nat} (hk : k ≤ 13) {m b : Int} {t : ByteArray} {a : Option Addr} {l cap : Nat} {d : D} (hv : Rep w0 (.agg #[.int .i64 k, .int .i64 m, .int .u64 b, .string t, .slice a l cap]) d) (hs : Slim d) (h : hasFi k 3 = true) (hk12 : k = 12) (w : World) (hb0 : Below w0.heap.size w0 w) :
    Calls Tryz.prog 26 #[(.agg #[.int .i64 k, .int .i64 m, .int .u64 b, .string t, .slice a l cap])] w fun x w' => ∃ v', x = .returned v' ∧ ResV w' (fun b => w.heap.size ≤ b) v' (.pan 3 0) ∧ Below w.heap.size w w' := by
  have HF := Lib.hid (fun W hb => rface_yes hk hv hs 3 h W hb)
  have HB := Lib.hid hb0
  have HO := Lib.hid (fun W => ropen_nil (m := m) (b := b) (t := t) (a := a) (l := l) (cap := cap) W)
  have e12 : (12 : Int) = k := by omega
  rw [e12] at HO
  clear hv hs h hb0 hk12 e12
  obtain ⟨W1, hW1, hb1, hz, hx1, hx2⟩ := res_worlds w (.int .i64 k) (.int .i64 m) (.int .u64 b) (.string t) (.slice a l cap)
  obtain ⟨p0, p1, p2, p3, p4⟩ := hx1.cells
  go_enter Tryz.func26, Tryz.ntmps26
  go_upto_region 1 with fail
  rw [← hW1]
  clear hW1
  go_upto_region 2 with (go_at_call 24; refine (HF.out _ (HB.out.trans (hb1.mono HB.out.size))).mono ?_; rintro e w2 ⟨v', rfl, hv', hb2⟩; obtain ⟨k5, m5, b5, t5, a5, n5, cap5, rfl, -⟩ := hv'; dsimp only)
  obtain ⟨W2, hW2⟩ : ∃ W2, W2 = w2.alloc (.cells #[.int .i64 0, .int .i64 0, .int .i64 0, .int .i64 0, .bool true, .int .i64 k5, .int .i64 m5, .int .u64 b5, .string t5, .slice a5 n5 cap5] 42) := ⟨_, rfl⟩
  have hv2 : Row W2 w2.heap.size #[.int .i64 0, .int .i64 0, .int .i64 0, .int .i64 0, .bool true, .int .i64 k5, .int .i64 m5, .int .u64 b5, .string t5, .slice a5 n5 cap5] 42 := by rw [hW2]; exact Row.new _ _ _
  have ha2 : Below w2.heap.size w2 W2 := by rw [hW2]; exact (Below.refl _ _).alloc (Nat.le_refl _) _
  rw [← hW2]
  clear hW2
  have hb12 := hb2.trans (ha2.mono hb2.size)
  have hb02 := hb1.trans (hb12.mono hb1.size)
  have hy := hx2.later hb12
  have hx := hx1.row.later hb12
  clear p0 p1 p2 p3 p4
  have r0 : W2.cell? ⟨w2.heap.size, 0, none⟩ = some (.int .i64 0) := hv2.cell 0 rfl
  have r1 : W2.cell? ⟨w2.heap.size, 1, none⟩ = some (.int .i64 0) := hv2.cell 1 rfl
  have r2 : W2.cell? ⟨w2.heap.size, 2, none⟩ = some (.int .i64 0) := hv2.cell 2 rfl
  have r3 : W2.cell? ⟨w2.heap.size, 3, none⟩ = some (.int .i64 0) := hv2.cell 3 rfl
  have r4 : W2.cell? ⟨w2.heap.size, 4, none⟩ = some (.bool true) := hv2.cell 4 rfl
  have r5 : W2.cell? ⟨w2.heap.size, 5, none⟩ = some (.int .i64 k5) := hv2.cell 5 rfl
  have r6 : W2.cell? ⟨w2.heap.size, 6, none⟩ = some (.int .i64 m5) := hv2.cell 6 rfl
  have r7 : W2.cell? ⟨w2.heap.size, 7, none⟩ = some (.int .u64 b5) := hv2.cell 7 rfl
  have r8 : W2.cell? ⟨w2.heap.size, 8, none⟩ = some (.string t5) := hv2.cell 8 rfl
  have r9 : W2.cell? ⟨w2.heap.size, 9, none⟩ = some (.slice a5 n5 cap5) := hv2.cell 9 rfl
  have p0 : W2.cell? ⟨w.heap.size, 0, none⟩ = some (.int .i64 k) := hx.cell 0 rfl
  have p1 : W2.cell? ⟨w.heap.size, 1, none⟩ = some (.int .i64 m) := hx.cell 1 rfl
  have p2 : W2.cell? ⟨w.heap.size, 2, none⟩ = some (.int .u64 b) := hx.cell 2 rfl
  have p3 : W2.cell? ⟨w.heap.size, 3, none⟩ = some (.string t) := hx.cell 3 rfl
  have p4 : W2.cell? ⟨w.heap.size, 4, none⟩ = some (.slice a l cap) := hx.cell 4 rfl
  go_upto_region 5 with (go_at_call 42; refine (HO.out _).mono ?_; rintro e w3 ⟨rfl, hb3⟩; dsimp only)
  obtain ⟨W3, hW3⟩ : ∃ W3, W3 = w3.alloc (.cells #[.int .i64 0, .int .i64 0, .int .u64 0, .string ⟨#[]⟩, .slice none 0 0] 26) := ⟨_, rfl⟩
  have hv3 : Row W3 w3.heap.size #[.int .i64 0, .int .i64 0, .int .u64 0, .string ⟨#[]⟩, .slice none 0 0] 26 := by rw [hW3]; exact Row.new _ _ _
  have ha3 : Below w3.heap.size w3 W3 := by rw [hW3]; exact (Below.refl _ _).alloc (Nat.le_refl _) _
  rw [← hW3]
  clear hW3
  have hb23 := hb12.trans ((hb3.trans (ha3.mono hb3.size)).mono hb12.size)
  have hy3 := hx2.later hb23
  have r0 : W3.cell? ⟨w3.heap.size, 0, none⟩ = some (.int .i64 0) := hv3.cell 0 rfl
  have r1 : W3.cell? ⟨w3.heap.size, 1, none⟩ = some (.int .i64 0) := hv3.cell 1 rfl
  have r2 : W3.cell? ⟨w3.heap.size, 2, none⟩ = some (.int .u64 0) := hv3.cell 2 rfl
  have r3 : W3.cell? ⟨w3.heap.size, 3, none⟩ = some (.string ⟨#[]⟩) := hv3.cell 3 rfl
  have r4 : W3.cell? ⟨w3.heap.size, 4, none⟩ = some (.slice none 0 0) := hv3.cell 4 rfl
  have q0 : W3.cell? ⟨w.heap.size + 1, 0, none⟩ = some (.int .i64 0) := hy3.cell 0 rfl
  have fq0 := hy3.thaw 0
  have q1 : W3.cell? ⟨w.heap.size + 1, 1, none⟩ = some (.int .i64 0) := hy3.cell 1 rfl
  have fq1 := hy3.thaw 1
  have q2 : W3.cell? ⟨w.heap.size + 1, 2, none⟩ = some (.int .i64 0) := hy3.cell 2 rfl
  have fq2 := hy3.thaw 2
  have q3 : W3.cell? ⟨w.heap.size + 1, 3, none⟩ = some (.int .i64 0) := hy3.cell 3 rfl
  have fq3 := hy3.thaw 3
  have q4 : W3.cell? ⟨w.heap.size + 1, 4, none⟩ = some (.bool false) := hy3.cell 4 rfl
  have fq4 := hy3.thaw 4
  have q5 : W3.cell? ⟨w.heap.size + 1, 5, none⟩ = some (.int .i64 0) := hy3.cell 5 rfl
  have fq5 := hy3.thaw 5
  have q6 : W3.cell? ⟨w.heap.size + 1, 6, none⟩ = some (.int .i64 0) := hy3.cell 6 rfl
  have fq6 := hy3.thaw 6
  have q7 : W3.cell? ⟨w.heap.size + 1, 7, none⟩ = some (.int .u64 0) := hy3.cell 7 rfl
  have fq7 := hy3.thaw 7
  have q8 : W3.cell? ⟨w.heap.size + 1, 8, none⟩ = some (.string ⟨#[]⟩) := hy3.cell 8 rfl
  have fq8 := hy3.thaw 8
  have q9 : W3.cell? ⟨w.heap.size + 1, 9, none⟩ = some (.slice none 0 0) := hy3.cell 9 rfl
  have fq9 := hy3.thaw 9
  go_wp2_with (go_at_call 25; refine (rpan_v _ _ _).mono ?_; rintro e w4 ⟨rfl, hb4⟩; have hy4 := hy3.later hb4; have z0 : w4.cell? ⟨w.heap.size + 1, 0, none⟩ = some (.int .i64 0) := hy4.cell 0 rfl; have fz0 := hy4.thaw 0; have z1 : w4.cell? ⟨w.heap.size + 1, 1, none⟩ = some (.int .i64 0) := hy4.cell 1 rfl; have fz1 := hy4.thaw 1; have z2 : w4.cell? ⟨w.heap.size + 1, 2, none⟩ = some (.int .i64 0) := hy4.cell 2 rfl; have fz2 := hy4.thaw 2; have z3 : w4.cell? ⟨w.heap.size + 1, 3, none⟩ = some (.int .i64 0) := hy4.cell 3 rfl; have fz3 := hy4.thaw 3; have z4 : w4.cell? ⟨w.heap.size + 1, 4, none⟩ = some (.bool false) := hy4.cell 4 rfl; have fz4 := hy4.thaw 4; have z5 : w4.cell? ⟨w.heap.size + 1, 5, none⟩ = some (.int .i64 0) := hy4.cell 5 rfl; have fz5 := hy4.thaw 5; have z6 : w4.cell? ⟨w.heap.size + 1, 6, none⟩ = some (.int .i64 0) := hy4.cell 6 rfl; have fz6 := hy4.thaw 6; have z7 : w4.cell? ⟨w.heap.size + 1, 7, none⟩ = some (.int .u64 0) := hy4.cell 7 rfl; have fz7 := hy4.thaw 7; have z8 : w4.cell? ⟨w.heap.size + 1, 8, none⟩ = some (.string ⟨#[]⟩) := hy4.cell 8 rfl; have fz8 := hy4.thaw 8; have z9 : w4.cell? ⟨w.heap.size + 1, 9, none⟩ = some (.slice none 0 0) := hy4.cell 9 rfl; have fz9 := hy4.thaw 9; dsimp only)
  have hzo := hz.out
  have hb24 := hb23.trans (hb4.mono hb23.size)
  have hb04 := hb1.trans (hb24.mono hb1.size)
  exact bodyPost_ret (results_cell_row rfl _ _ (w.heap.size + 1) 42 _ (0, 0) _ rfl (hy4.set10 _ _ _ _ _ _ _ _ _ _) Tryz.underlying42 rfl (by kernel_rfl)) rfl
    ⟨_, rfl, rfl, set10_below hb04 (by omega)⟩

set_option maxRecDepth 100000 in
set_option maxHeartbeats 3200000 in
theorem rgopen_box {w0 : World} {k : Nat} (hk : k ≤ 13) {m b : Int} {t : ByteArray} {a : Option Addr} {l cap : Nat} {d : D} (hv : Rep w0 (.agg #[.int .i64 k, .int .i64 m, .int .u64 b, .string t, .slice a l cap]) d) (hs : Slim d) (h : hasFi k 3 = true) {x : D} (hk11 : k = 11) (hi : d.kids[0]? = some x) (w : World) (hb0 : Below w0.heap.size w0 w) :
    Calls Tryz.prog 26 #[(.agg #[.int .i64 k, .int .i64 m, .int .u64 b, .string t, .slice a l cap])] w fun y w' => ∃ v', y = .returned v' ∧ ResV w' (fun b => w.heap.size ≤ b) v' (.gave x) ∧ Below w.heap.size w w' := by
  have HF := Lib.hid (fun W hb => rface_yes hk hv hs 3 h W hb)
  have HB := Lib.hid hb0
  have hd : d.kind = 11 := by
    obtain ⟨k', m', b', t', a', cap', g', o', c', kids', e1, rfl, _⟩ := hv.inv
    simp only [Value.agg.injEq, Array.mk.injEq, List.cons.injEq, Value.int.injEq, true_and] at e1
    have := e1.1
    show k' = 11
    omega
  have HO := Lib.hid (fun W hb => ropen_box hv hs hd hi W hb)
  clear hv hs h hb0 hk11 hi hd
  obtain ⟨W1, hW1, hb1, hz, hx1, hx2⟩ := res_worlds w (.int .i64 k) (.int .i64 m) (.int .u64 b) (.string t) (.slice a l cap)
  obtain ⟨p0, p1, p2, p3, p4⟩ := hx1.cells
  go_enter Tryz.func26, Tryz.ntmps26
  go_upto_region 1 with fail
  rw [← hW1]
  clear hW1
  go_upto_region 2 with (go_at_call 24; refine (HF.out _ (HB.out.trans (hb1.mono HB.out.size))).mono ?_; rintro e w2 ⟨v', rfl, hv', hb2⟩; obtain ⟨k5, m5, b5, t5, a5, n5, cap5, rfl, -⟩ := hv'; dsimp only)
  obtain ⟨W2, hW2⟩ : ∃ W2, W2 = w2.alloc (.cells #[.int .i64 0, .int .i64 0, .int .i64 0, .int .i64 0, .bool true, .int .i64 k5, .int .i64 m5, .int .u64 b5, .string t5, .slice a5 n5 cap5] 42) := ⟨_, rfl⟩
  have hv2 : Row W2 w2.heap.size #[.int .i64 0, .int .i64 0, .int .i64 0, .int .i64 0, .bool true, .int .i64 k5, .int .i64 m5, .int .u64 b5, .string t5, .slice a5 n5 cap5] 42 := by rw [hW2]; exact Row.new _ _ _
  have ha2 : Below w2.heap.size w2 W2 := by rw [hW2]; exact (Below.refl _ _).alloc (Nat.le_refl _) _
  rw [← hW2]
  clear hW2
  have hb12 := hb2.trans (ha2.mono hb2.size)
  have hb02 := hb1.trans (hb12.mono hb1.size)
  have hy := hx2.later hb12
  have hx := hx1.row.later hb12
  clear p0 p1 p2 p3 p4
  have r0 : W2.cell? ⟨w2.heap.size, 0, none⟩ = some (.int .i64 0) := hv2.cell 0 rfl
  have r1 : W2.cell? ⟨w2.heap.size, 1, none⟩ = some (.int .i64 0) := hv2.cell 1 rfl
  have r2 : W2.cell? ⟨w2.heap.size, 2, none⟩ = some (.int .i64 0) := hv2.cell 2 rfl
  have r3 : W2.cell? ⟨w2.heap.size, 3, none⟩ = some (.int .i64 0) := hv2.cell 3 rfl
  have r4 : W2.cell? ⟨w2.heap.size, 4, none⟩ = some (.bool true) := hv2.cell 4 rfl
  have r5 : W2.cell? ⟨w2.heap.size, 5, none⟩ = some (.int .i64 k5) := hv2.cell 5 rfl
  have r6 : W2.cell? ⟨w2.heap.size, 6, none⟩ = some (.int .i64 m5) := hv2.cell 6 rfl
  have r7 : W2.cell? ⟨w2.heap.size, 7, none⟩ = some (.int .u64 b5) := hv2.cell 7 rfl
  have r8 : W2.cell? ⟨w2.heap.size, 8, none⟩ = some (.string t5) := hv2.cell 8 rfl
  have r9 : W2.cell? ⟨w2.heap.size, 9, none⟩ = some (.slice a5 n5 cap5) := hv2.cell 9 rfl
  have p0 : W2.cell? ⟨w.heap.size, 0, none⟩ = some (.int .i64 k) := hx.cell 0 rfl
  have p1 : W2.cell? ⟨w.heap.size, 1, none⟩ = some (.int .i64 m) := hx.cell 1 rfl
  have p2 : W2.cell? ⟨w.heap.size, 2, none⟩ = some (.int .u64 b) := hx.cell 2 rfl
  have p3 : W2.cell? ⟨w.heap.size, 3, none⟩ = some (.string t) := hx.cell 3 rfl
  have p4 : W2.cell? ⟨w.heap.size, 4, none⟩ = some (.slice a l cap) := hx.cell 4 rfl
  go_upto_region 5 with (go_at_call 42; refine (HO.out _ (HB.out.trans (hb02.mono HB.out.size))).mono ?_; rintro e w3 ⟨v', rfl, hq, hb3⟩; obtain ⟨k7, m7, b7, t7, a7, n7, cap7, rfl⟩ := hq.form; dsimp only)
  obtain ⟨W3, hW3⟩ : ∃ W3, W3 = w3.alloc (.cells #[.int .i64 k7, .int .i64 m7, .int .u64 b7, .string t7, .slice a7 n7 cap7] 26) := ⟨_, rfl⟩
  have hv3 : Row W3 w3.heap.size #[.int .i64 k7, .int .i64 m7, .int .u64 b7, .string t7, .slice a7 n7 cap7] 26 := by rw [hW3]; exact Row.new _ _ _
  have ha3 : Below w3.heap.size w3 W3 := by rw [hW3]; exact (Below.refl _ _).alloc (Nat.le_refl _) _
  rw [← hW3]
  clear hW3
  have hb23 := hb12.trans ((hb3.trans (ha3.mono hb3.size)).mono hb12.size)
  have hy3 := hx2.later hb23
  have r0 : W3.cell? ⟨w3.heap.size, 0, none⟩ = some (.int .i64 k7) := hv3.cell 0 rfl
  have r1 : W3.cell? ⟨w3.heap.size, 1, none⟩ = some (.int .i64 m7) := hv3.cell 1 rfl
  have r2 : W3.cell? ⟨w3.heap.size, 2, none⟩ = some (.int .u64 b7) := hv3.cell 2 rfl
  have r3 : W3.cell? ⟨w3.heap.size, 3, none⟩ = some (.string t7) := hv3.cell 3 rfl
  have r4 : W3.cell? ⟨w3.heap.size, 4, none⟩ = some (.slice a7 n7 cap7) := hv3.cell 4 rfl
  have q0 : W3.cell? ⟨w.heap.size + 1, 0, none⟩ = some (.int .i64 0) := hy3.cell 0 rfl
  have fq0 := hy3.thaw 0
  have q1 : W3.cell? ⟨w.heap.size + 1, 1, none⟩ = some (.int .i64 0) := hy3.cell 1 rfl
  have fq1 := hy3.thaw 1
  have q2 : W3.cell? ⟨w.heap.size + 1, 2, none⟩ = some (.int .i64 0) := hy3.cell 2 rfl
  have fq2 := hy3.thaw 2
  have q3 : W3.cell? ⟨w.heap.size + 1, 3, none⟩ = some (.int .i64 0) := hy3.cell 3 rfl
  have fq3 := hy3.thaw 3
  have q4 : W3.cell? ⟨w.heap.size + 1, 4, none⟩ = some (.bool false) := hy3.cell 4 rfl
  have fq4 := hy3.thaw 4
  have q5 : W3.cell? ⟨w.heap.size + 1, 5, none⟩ = some (.int .i64 0) := hy3.cell 5 rfl
  have fq5 := hy3.thaw 5
  have q6 : W3.cell? ⟨w.heap.size + 1, 6, none⟩ = some (.int .i64 0) := hy3.cell 6 rfl
  have fq6 := hy3.thaw 6
  have q7 : W3.cell? ⟨w.heap.size + 1, 7, none⟩ = some (.int .u64 0) := hy3.cell 7 rfl
  have fq7 := hy3.thaw 7
  have q8 : W3.cell? ⟨w.heap.size + 1, 8, none⟩ = some (.string ⟨#[]⟩) := hy3.cell 8 rfl
  have fq8 := hy3.thaw 8
  have q9 : W3.cell? ⟨w.heap.size + 1, 9, none⟩ = some (.slice none 0 0) := hy3.cell 9 rfl
  have fq9 := hy3.thaw 9
  go_wp2_with (go_at_call 21; refine (rgave_v _ _ _ _ _ _ _ _).mono ?_; rintro e w4 ⟨rfl, hb4⟩; have hy4 := hy3.later hb4; have z0 : w4.cell? ⟨w.heap.size + 1, 0, none⟩ = some (.int .i64 0) := hy4.cell 0 rfl; have fz0 := hy4.thaw 0; have z1 : w4.cell? ⟨w.heap.size + 1, 1, none⟩ = some (.int .i64 0) := hy4.cell 1 rfl; have fz1 := hy4.thaw 1; have z2 : w4.cell? ⟨w.heap.size + 1, 2, none⟩ = some (.int .i64 0) := hy4.cell 2 rfl; have fz2 := hy4.thaw 2; have z3 : w4.cell? ⟨w.heap.size + 1, 3, none⟩ = some (.int .i64 0) := hy4.cell 3 rfl; have fz3 := hy4.thaw 3; have z4 : w4.cell? ⟨w.heap.size + 1, 4, none⟩ = some (.bool false) := hy4.cell 4 rfl; have fz4 := hy4.thaw 4; have z5 : w4.cell? ⟨w.heap.size + 1, 5, none⟩ = some (.int .i64 0) := hy4.cell 5 rfl; have fz5 := hy4.thaw 5; have z6 : w4.cell? ⟨w.heap.size + 1, 6, none⟩ = some (.int .i64 0) := hy4.cell 6 rfl; have fz6 := hy4.thaw 6; have z7 : w4.cell? ⟨w.heap.size + 1, 7, none⟩ = some (.int .u64 0) := hy4.cell 7 rfl; have fz7 := hy4.thaw 7; have z8 : w4.cell? ⟨w.heap.size + 1, 8, none⟩ = some (.string ⟨#[]⟩) := hy4.cell 8 rfl; have fz8 := hy4.thaw 8; have z9 : w4.cell? ⟨w.heap.size + 1, 9, none⟩ = some (.slice none 0 0) := hy4.cell 9 rfl; have fz9 := hy4.thaw 9; dsimp only)
  have hzo := hz.out
  have hl2 := hb12.size
  have hl3 := hb3.size
  have hb24 := hb23.trans (hb4.mono hb23.size)
  have hb04 := hb1.trans (hb24.mono hb1.size)
  exact bodyPost_ret (results_cell_row rfl _ _ (w.heap.size + 1) 42 _ (0, 0) _ rfl (hy4.set10 _ _ _ _ _ _ _ _ _ _) Tryz.underlying42 rfl (by kernel_rfl)) rfl
    ⟨_, rfl, ⟨_, _, _, _, _, _, _, rfl, RepQ.set10 (N := W2.heap.size) (hq.later (ha3.trans (hb4.mono ha3.size))) (by omega) (by omega)⟩, set10_below hb04 (by omega)⟩
end Go.Proofs.YteplhhlgceppkabGreat

/- Contract of datum's equal. -/
namespace Go.Proofs.YteplhhlgceppkabGreat
open Go Go.RowKit Go.ChangeShapes Go.WideShapes

/-- One behind the other. -/
def eqThen : Option Bool → Option Bool → Option Bool
  | some true, r => r
  | r, _ => r
mutual
/-- Are two Datums equal? None: that panics. -/
def eqD : D → D → Option Bool
  | .mk k m b t l, e => if k ≠ e.kind then some false else if k = 7 ∨ k = 8 then none else if k = 3 then some (Op.floatEq .f64 b.toNat e.bits.toNat) else if k = 9 then eqL l e.kids else some (m == e.num && t == e.text)
def eqL : List D → List D → Option Bool
  | [], _ => some true
  | _ :: _, [] => some true
  | x :: xs, y :: ys => eqThen (eqD x y) (eqL xs ys)
end
/-- What equal does. -/
def EqPost (r : Option Bool) (w : World) (e : Ending) (w' : World) : Prop :=
  (match r with
   | some b => e = .returned (.bool b)
   | none => ∃ T z, e = .panicked (thrown T z)) ∧ Below w.heap.size w w'

theorem tp_9 (v : Value) (w : World) : (Instr.typeAssert (.iface 130 v) 20 130 true).run Tryz.prog w = .ok (.tuple #[v, .bool true]) w := by kernel_rfl

set_option maxRecDepth 100000 in
set_option maxHeartbeats 800000 in
theorem pair_eq (u1 u2 v1 v2 : Value) (h0 : u1.oneCell' = true) (h1 : u2.oneCell' = true) (h2 : v1.oneCell' = true) (h3 : v2.oneCell' = true) (r1 r2 : Option Bool) (w : World)
    (H1 : ∀ W, Below w.heap.size w W → Calls Tryz.prog 62 #[u1, v1] W (EqPost r1 W)) (H2 : ∀ W, Below w.heap.size w W → Calls Tryz.prog 62 #[u2, v2] W (EqPost r2 W)) :
    Calls Tryz.prog 62 #[.iface 130 (.agg #[u1, u2]), .iface 130 (.agg #[v1, v2])] w (EqPost (eqThen r1 r2) w) := by
  have s0 := fun w a => run_store Tryz.prog w a u1 .plain h0
  have s1 := fun w a => run_store Tryz.prog w a u2 .plain h1
  have s2 := fun w a => run_store Tryz.prog w a v1 .plain h2
  have s3 := fun w a => run_store Tryz.prog w a v2 .plain h3
  have ht := tp_9
  have HH1 := Lib.hid H1
  have HH2 := Lib.hid H2
  clear h0 h1 h2 h3 H1 H2
  go_enter Tryz.func62, Tryz.ntmps62
  go_wp2_with fail
  refine (HH1.out _ (eqWorld_below w u1 u2 v1 v2)).mono ?_
  rintro e w2 ⟨he, hb2⟩
  have hbw : Below w.heap.size w w2 := (eqWorld_below w u1 u2 v1 v2).trans (hb2.mono (eqWorld_below w u1 u2 v1 v2).size)
  have hx : Row (eqWorld w u1 u2 v1 v2) w.heap.size #[u1, u2] 130 := (Row.new w _ _).old _
  have hy : Row (eqWorld w u1 u2 v1 v2) (w.heap.size + 1) #[v1, v2] 130 := by
    have h := Row.new (w.alloc (.cells #[u1, u2] 130)) #[v1, v2] 130
    unfold eqWorld
    simpa using h
  have q1 : w2.cell? ⟨w.heap.size, 1, none⟩ = some u2 := (hx.later hb2).cell 1 rfl
  have q2 : w2.cell? ⟨w.heap.size + 1, 1, none⟩ = some v2 := (hy.later hb2).cell 1 rfl
  have HB := Lib.hid hb2
  clear hb2 hx hy
  rcases r1 with _ | _ | _
  · obtain ⟨T, z, rfl⟩ := he
    exact ⟨rfl, ⟨T, z, rfl⟩, hbw⟩
  · obtain rfl := he
    dsimp only
    go_wp2_with fail
    refine bodyPost_ret (results_tmp rfl _ _ _) rfl ⟨?_, hbw⟩
    show Ending.returned _ = Ending.returned (.bool false)
    rfl
  · obtain rfl := he
    dsimp only
    go_wp2_with fail
    refine (HH2.out _ hbw).mono ?_
    rintro e w3 ⟨he, hb3⟩
    have hbw3 := hbw.trans (hb3.mono hbw.size)
    rcases r2 with _ | b
    · obtain ⟨T, z, rfl⟩ := he
      exact ⟨rfl, ⟨T, z, rfl⟩, hbw3⟩
    · obtain rfl := he
      dsimp only
      go_wp2_with fail
      refine bodyPost_ret (results_tmp rfl _ _ _) rfl ⟨?_, hbw3⟩
      show Ending.returned _ = Ending.returned (.bool b)
      rfl
end Go.Proofs.YteplhhlgceppkabGreat
