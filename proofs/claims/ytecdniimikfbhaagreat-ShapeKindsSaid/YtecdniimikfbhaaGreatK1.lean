/- Shape: what kinds a map makes of one kind. -/
import Derived.Test.YtecdniimikfbhaaGreatS8
import Derived.Test.YtecdniimikfbhaaGreatM05
namespace Go.Proofs.YtecdniimikfbhaaGreat
open Go Go.RowKit Go.ChangeShapes Go.WideShapes

/-- The kinds that a map makes of a kind. -/
def outK (op : Int) (k : Nat) : Int :=
  if op = 1 then (if hasM k 5 = true then (2 : Int) ^ k % 4294967296 else 0)
  else if op = 2 then 256
  else if op = 3 then (if k = 11 then 16383 else 0)
  else if op = 4 then (if hasM k 0 = true then 2 else 0)
  else if op = 5 then (if hasM k 1 = true then 16 else 0)
  else if op = 6 then (if k = 6 then (2 : Int) ^ k % 4294967296 else 0)
  else if op = 7 then 512
  else if op = 8 then (if k = 1 then 4 else if k = 4 then 32 else (2 : Int) ^ k % 4294967296)
  else 0
theorem hasFi_m5 : ∀ k, k < 14 → hasFi k 5 = hasM k 5 := by decide
theorem hasFi_m0 : ∀ k, k < 14 → hasFi k 0 = hasM k 0 := by decide
theorem hasFi_m1 : ∀ k, k < 14 → hasFi k 1 = hasM k 1 := by decide

set_option maxRecDepth 100000 in
set_option maxHeartbeats 400000 in
theorem bit_any (k : Nat) (hk : k ≤ 13) (w : World) : Calls Tryz.prog 39 #[.int .i64 k] w fun x w' => x = .returned (.int .u32 ((2 : Int) ^ k % 4294967296)) ∧ w = w' := by
  go_enter Tryz.func39, Tryz.ntmps39
  go_wp2_with fail
  go_ret
  exact ⟨rfl, rfl⟩

set_option maxRecDepth 100000 in
set_option maxHeartbeats 800000 in
theorem kcl_1 (k : Nat) (hk : k ≤ 13) (g : Nat) (w : World) (h1 : Row w g #[.int .i64 5] 3) (h2 : Row w (g + 1) #[.int .i64 (-1)] 3) : Calls Tryz.prog 50 #[.int .i64 k, .pointer (some ⟨g, 0, none⟩), .pointer (some ⟨g + 1, 0, none⟩)] w fun x w' => x = .returned (.int .u32 (outK 1 k)) ∧ Below w.heap.size w w' := by
  have HI := Lib.hid (fun W => implements_any k hk 5 W)
  have hm := hasFi_m5 k (by omega)
  rw [hm] at HI
  have p0 : w.cell? ⟨g, 0, none⟩ = some (.int .i64 5) := h1.cell 0 rfl
  have hu : outK 1 k = (if hasM k 5 = true then (2 : Int) ^ k % 4294967296 else 0) := rfl
  rw [hu]
  cases hM : hasM k 5
  · rw [hM] at HI
    go_enter Tryz.func50, Tryz.ntmps50
    go_wp2_with fail
    refine (HI.out _).mono ?_
    rintro e w2 ⟨rfl, hb2⟩
    dsimp only
    go_wp2_with fail
    go_ret
    exact ⟨rfl, hb2⟩
  · rw [hM] at HI
    go_enter Tryz.func50, Tryz.ntmps50
    go_wp2_with fail
    refine (HI.out _).mono ?_
    rintro e w2 ⟨rfl, hb2⟩
    have p1 : w2.cell? ⟨g + 1, 0, none⟩ = some (.int .i64 (-1)) := (h2.later hb2).cell 0 rfl
    dsimp only
    go_wp2_with (go_at_call 39; refine (bit_any k (by omega) _).mono ?_; rintro e w3 ⟨rfl, rfl⟩)
    go_ret
    exact ⟨rfl, hb2⟩

set_option maxRecDepth 100000 in
set_option maxHeartbeats 800000 in
theorem kcl_4 (k : Nat) (hk : k ≤ 13) (g : Nat) (w : World) (h1 : Row w g #[.int .i64 0] 3) (h2 : Row w (g + 1) #[.int .i64 1] 3) : Calls Tryz.prog 50 #[.int .i64 k, .pointer (some ⟨g, 0, none⟩), .pointer (some ⟨g + 1, 0, none⟩)] w fun x w' => x = .returned (.int .u32 (outK 4 k)) ∧ Below w.heap.size w w' := by
  have HI := Lib.hid (fun W => implements_any k hk 0 W)
  have hm := hasFi_m0 k (by omega)
  rw [hm] at HI
  have p0 : w.cell? ⟨g, 0, none⟩ = some (.int .i64 0) := h1.cell 0 rfl
  have hu : outK 4 k = (if hasM k 0 = true then 2 else 0) := rfl
  rw [hu]
  cases hM : hasM k 0
  · rw [hM] at HI
    go_enter Tryz.func50, Tryz.ntmps50
    go_wp2_with fail
    refine (HI.out _).mono ?_
    rintro e w2 ⟨rfl, hb2⟩
    dsimp only
    go_wp2_with fail
    go_ret
    exact ⟨rfl, hb2⟩
  · rw [hM] at HI
    go_enter Tryz.func50, Tryz.ntmps50
    go_wp2_with fail
    refine (HI.out _).mono ?_
    rintro e w2 ⟨rfl, hb2⟩
    have p1 : w2.cell? ⟨g + 1, 0, none⟩ = some (.int .i64 1) := (h2.later hb2).cell 0 rfl
    dsimp only
    go_wp2_with (go_at_call 39; refine (bit_any 1 (by omega) _).mono ?_; rintro e w3 ⟨rfl, rfl⟩)
    go_ret
    exact ⟨rfl, hb2⟩

set_option maxRecDepth 100000 in
set_option maxHeartbeats 800000 in
theorem kcl_5 (k : Nat) (hk : k ≤ 13) (g : Nat) (w : World) (h1 : Row w g #[.int .i64 1] 3) (h2 : Row w (g + 1) #[.int .i64 4] 3) : Calls Tryz.prog 50 #[.int .i64 k, .pointer (some ⟨g, 0, none⟩), .pointer (some ⟨g + 1, 0, none⟩)] w fun x w' => x = .returned (.int .u32 (outK 5 k)) ∧ Below w.heap.size w w' := by
  have HI := Lib.hid (fun W => implements_any k hk 1 W)
  have hm := hasFi_m1 k (by omega)
  rw [hm] at HI
  have p0 : w.cell? ⟨g, 0, none⟩ = some (.int .i64 1) := h1.cell 0 rfl
  have hu : outK 5 k = (if hasM k 1 = true then 16 else 0) := rfl
  rw [hu]
  cases hM : hasM k 1
  · rw [hM] at HI
    go_enter Tryz.func50, Tryz.ntmps50
    go_wp2_with fail
    refine (HI.out _).mono ?_
    rintro e w2 ⟨rfl, hb2⟩
    dsimp only
    go_wp2_with fail
    go_ret
    exact ⟨rfl, hb2⟩
  · rw [hM] at HI
    go_enter Tryz.func50, Tryz.ntmps50
    go_wp2_with fail
    refine (HI.out _).mono ?_
    rintro e w2 ⟨rfl, hb2⟩
    have p1 : w2.cell? ⟨g + 1, 0, none⟩ = some (.int .i64 4) := (h2.later hb2).cell 0 rfl
    dsimp only
    go_wp2_with (go_at_call 39; refine (bit_any 4 (by omega) _).mono ?_; rintro e w3 ⟨rfl, rfl⟩)
    go_ret
    exact ⟨rfl, hb2⟩

set_option maxRecDepth 100000 in
set_option maxHeartbeats 800000 in
theorem kcl_2 (k : Nat) (g : Nat) (w : World) (h1 : Row w g #[.int .i64 8] 3) : Calls Tryz.prog 52 #[.int .i64 k, .pointer (some ⟨g, 0, none⟩)] w fun x w' => x = .returned (.int .u32 (outK 2 k)) ∧ Below w.heap.size w w' := by
  have p0 : w.cell? ⟨g, 0, none⟩ = some (.int .i64 8) := h1.cell 0 rfl
  go_enter Tryz.func52, Tryz.ntmps52
  go_wp2_with (go_at_call 39; refine (bit_any 8 (by omega) _).mono ?_; rintro e w3 ⟨rfl, rfl⟩)
  go_ret
  exact ⟨rfl, Below.refl _ _⟩

set_option maxRecDepth 100000 in
set_option maxHeartbeats 800000 in
theorem kcl_7 (k : Nat) (g : Nat) (w : World) (h1 : Row w g #[.int .i64 9] 3) : Calls Tryz.prog 52 #[.int .i64 k, .pointer (some ⟨g, 0, none⟩)] w fun x w' => x = .returned (.int .u32 (outK 7 k)) ∧ Below w.heap.size w w' := by
  have p0 : w.cell? ⟨g, 0, none⟩ = some (.int .i64 9) := h1.cell 0 rfl
  go_enter Tryz.func52, Tryz.ntmps52
  go_wp2_with (go_at_call 39; refine (bit_any 9 (by omega) _).mono ?_; rintro e w3 ⟨rfl, rfl⟩)
  go_ret
  exact ⟨rfl, Below.refl _ _⟩

set_option maxRecDepth 100000 in
set_option maxHeartbeats 800000 in
theorem kcl_3 (k : Nat) (hk : k ≤ 13) (w : World) : Calls Tryz.prog 34 #[.int .i64 k] w fun x w' => x = .returned (.int .u32 (outK 3 k)) ∧ Below w.heap.size w w' := by
  by_cases h : k = 11
  · subst h
    go_enter Tryz.func34, Tryz.ntmps34
    go_wp2_with fail
    go_ret
    exact ⟨rfl, Below.refl _ _⟩
  · have e : ((k : Int) == 11) = false := by simp; omega
    rw [show outK 3 k = 0 from if_neg h]
    go_enter Tryz.func34, Tryz.ntmps34
    go_wp2_with fail
    go_ret
    exact ⟨rfl, Below.refl _ _⟩

set_option maxRecDepth 100000 in
set_option maxHeartbeats 800000 in
theorem kcl_6 (k : Nat) (hk : k ≤ 13) (w : World) : Calls Tryz.prog 38 #[.int .i64 k] w fun x w' => x = .returned (.int .u32 (outK 6 k)) ∧ Below w.heap.size w w' := by
  by_cases h : k = 6
  · subst h
    go_enter Tryz.func38, Tryz.ntmps38
    go_wp2_with (go_at_call 39; refine (bit_any 6 (by omega) _).mono ?_; rintro e w3 ⟨rfl, rfl⟩)
    go_ret
    exact ⟨rfl, Below.refl _ _⟩
  · have e : ((k : Int) == 6) = false := by simp; omega
    rw [show outK 6 k = 0 from if_neg h]
    go_enter Tryz.func38, Tryz.ntmps38
    go_wp2_with fail
    go_ret
    exact ⟨rfl, Below.refl _ _⟩

set_option maxRecDepth 100000 in
set_option maxHeartbeats 800000 in
theorem kcl_8 (k : Nat) (hk : k ≤ 13) (w : World) : Calls Tryz.prog 42 #[.int .i64 k] w fun x w' => x = .returned (.int .u32 (outK 8 k)) ∧ Below w.heap.size w w' := by
  by_cases h : k = 1
  · subst h
    go_enter Tryz.func42, Tryz.ntmps42
    go_wp2_with (go_at_call 39; refine (bit_any 2 (by omega) _).mono ?_; rintro e w3 ⟨rfl, rfl⟩)
    go_ret
    exact ⟨rfl, Below.refl _ _⟩
  · by_cases h4 : k = 4
    · subst h4
      go_enter Tryz.func42, Tryz.ntmps42
      go_wp2_with (go_at_call 39; refine (bit_any 5 (by omega) _).mono ?_; rintro e w3 ⟨rfl, rfl⟩)
      go_ret
      exact ⟨rfl, Below.refl _ _⟩
    · have e : ((k : Int) == 1) = false := by simp; omega
      have e4 : ((k : Int) == 4) = false := by simp; omega
      rw [show outK 8 k = (2 : Int) ^ k % 4294967296 from (if_neg h).trans (if_neg h4)]
      go_enter Tryz.func42, Tryz.ntmps42
      go_wp2_with (go_at_call 39; refine (bit_any k (by omega) _).mono ?_; rintro e w3 ⟨rfl, rfl⟩)
      go_ret
      exact ⟨rfl, Below.refl _ _⟩

set_option maxRecDepth 100000 in
set_option maxHeartbeats 1600000 in
theorem rout_any (op : Int) (k : Nat) (hk : k ≤ 13) (w : World) : Calls Tryz.prog 14 #[.int .i64 op, .int .i64 k] w fun x w' => x = .returned (.int .u32 (outK op k)) ∧ Below w.heap.size w w' := by
  by_cases ho1 : op = 1
  · subst ho1
    have HI := Lib.hid (fun W => has_5 k hk W)
    rw [show outK 1 k = (if hasM k 5 = true then (2 : Int) ^ k % 4294967296 else 0) from rfl]
    cases hM : hasM k 5
    · rw [hM] at HI
      go_enter Tryz.func14, Tryz.ntmps14
      go_wp2_with (go_at_call 24; refine (HI.out _).mono ?_; rintro e w2 ⟨rfl, rfl⟩)
      go_ret
      exact ⟨rfl, Below.refl _ _⟩
    · rw [hM] at HI
      go_enter Tryz.func14, Tryz.ntmps14
      go_wp2_with (go_at_call 24; refine (HI.out _).mono ?_; rintro e w2 ⟨rfl, rfl⟩)
      go_ret
      exact ⟨rfl, Below.refl _ _⟩
  have o1 : (op == 1) = false := by simp; omega
  by_cases ho2 : op = 2
  · subst ho2
    go_enter Tryz.func14, Tryz.ntmps14
    go_wp2_with fail
    go_ret
    exact ⟨rfl, Below.refl _ _⟩
  have o2 : (op == 2) = false := by simp; omega
  by_cases ho3 : op = 3
  · subst ho3
    by_cases h : k = 11
    · subst h
      go_enter Tryz.func14, Tryz.ntmps14
      go_wp2_with fail
      go_ret
      exact ⟨rfl, Below.refl _ _⟩
    · have e : ((k : Int) == 11) = false := by simp; omega
      rw [show outK 3 k = 0 from if_neg h]
      go_enter Tryz.func14, Tryz.ntmps14
      go_wp2_with fail
      go_ret
      exact ⟨rfl, Below.refl _ _⟩
  have o3 : (op == 3) = false := by simp; omega
  by_cases ho4 : op = 4
  · subst ho4
    have HI := Lib.hid (fun W => has_0 k hk W)
    rw [show outK 4 k = (if hasM k 0 = true then 2 else 0) from rfl]
    cases hM : hasM k 0
    · rw [hM] at HI
      go_enter Tryz.func14, Tryz.ntmps14
      go_wp2_with (go_at_call 24; refine (HI.out _).mono ?_; rintro e w2 ⟨rfl, rfl⟩)
      go_ret
      exact ⟨rfl, Below.refl _ _⟩
    · rw [hM] at HI
      go_enter Tryz.func14, Tryz.ntmps14
      go_wp2_with (go_at_call 24; refine (HI.out _).mono ?_; rintro e w2 ⟨rfl, rfl⟩)
      go_ret
      exact ⟨rfl, Below.refl _ _⟩
  have o4 : (op == 4) = false := by simp; omega
  by_cases ho5 : op = 5
  · subst ho5
    have HI := Lib.hid (fun W => has_1 k hk W)
    rw [show outK 5 k = (if hasM k 1 = true then 16 else 0) from rfl]
    cases hM : hasM k 1
    · rw [hM] at HI
      go_enter Tryz.func14, Tryz.ntmps14
      go_wp2_with (go_at_call 24; refine (HI.out _).mono ?_; rintro e w2 ⟨rfl, rfl⟩)
      go_ret
      exact ⟨rfl, Below.refl _ _⟩
    · rw [hM] at HI
      go_enter Tryz.func14, Tryz.ntmps14
      go_wp2_with (go_at_call 24; refine (HI.out _).mono ?_; rintro e w2 ⟨rfl, rfl⟩)
      go_ret
      exact ⟨rfl, Below.refl _ _⟩
  have o5 : (op == 5) = false := by simp; omega
  by_cases ho6 : op = 6
  · subst ho6
    by_cases h : k = 6
    · subst h
      go_enter Tryz.func14, Tryz.ntmps14
      go_wp2_with fail
      go_ret
      exact ⟨rfl, Below.refl _ _⟩
    · have e : ((k : Int) == 6) = false := by simp; omega
      rw [show outK 6 k = 0 from if_neg h]
      go_enter Tryz.func14, Tryz.ntmps14
      go_wp2_with fail
      go_ret
      exact ⟨rfl, Below.refl _ _⟩
  have o6 : (op == 6) = false := by simp; omega
  by_cases ho7 : op = 7
  · subst ho7
    go_enter Tryz.func14, Tryz.ntmps14
    go_wp2_with fail
    go_ret
    exact ⟨rfl, Below.refl _ _⟩
  have o7 : (op == 7) = false := by simp; omega
  by_cases ho8 : op = 8
  · subst ho8
    by_cases h : k = 1
    · subst h
      go_enter Tryz.func14, Tryz.ntmps14
      go_wp2_with fail
      go_ret
      exact ⟨rfl, Below.refl _ _⟩
    · by_cases h4 : k = 4
      · subst h4
        go_enter Tryz.func14, Tryz.ntmps14
        go_wp2_with fail
        go_ret
        exact ⟨rfl, Below.refl _ _⟩
      · have e : ((k : Int) == 1) = false := by simp; omega
        have e4 : ((k : Int) == 4) = false := by simp; omega
        rw [show outK 8 k = (2 : Int) ^ k % 4294967296 from (if_neg h).trans (if_neg h4)]
        go_enter Tryz.func14, Tryz.ntmps14
        go_wp2_with fail
        go_ret
        exact ⟨rfl, Below.refl _ _⟩
  have o8 : (op == 8) = false := by simp; omega
  rw [show outK op k = 0 by unfold outK; simp [ho1, ho2, ho3, ho4, ho5, ho6, ho7, ho8]]
  go_enter Tryz.func14, Tryz.ntmps14
  go_wp2_with fail
  go_ret
  exact ⟨rfl, Below.refl _ _⟩
end Go.Proofs.YtecdniimikfbhaaGreat
