/- Shape: the kinds of a pattern that has no parts. -/
import Derived.Test.YtecdniimikfbhaaGreatP1
namespace Go.Proofs.YtecdniimikfbhaaGreat
open Go Go.RowKit Go.ChangeShapes Go.WideShapes

theorem want1_world (w : World) (x y z : Value) : ∃ W1, W1 = w.alloc (.cells #[x, y, z] 40) ∧ Below w.heap.size w W1 ∧ Row W1 w.heap.size #[x, y, z] 40 := ⟨_, rfl, by go_grown, Row.new _ _ _⟩
/-- The kinds below j of all but none. -/
def amask (j : Nat) : Nat := 2 ^ j - 2
theorem amask_step : ∀ j, j < 14 → 1 ≤ j → bits .or .u32 ((amask j : Nat) : Int) (2 ^ j % 4294967296) = ((amask (j + 1) : Nat) : Int) := by decide +kernel
def kacc (n j : Nat) : Nat := kmask n % 2 ^ j
theorem kacc_zero (n : Nat) : kacc n 0 = 0 := Nat.mod_one _
theorem kacc_yes : ∀ n, n < 14 → ∀ j, j < 14 → (kmask n).testBit j = true → bits .or .u32 ((kacc n j : Nat) : Int) (2 ^ j % 4294967296) = ((kacc n (j + 1) : Nat) : Int) := by decide +kernel
theorem kacc_no : ∀ n, n < 14 → ∀ j, j < 14 → (kmask n).testBit j = false → kacc n (j + 1) = kacc n j := by decide +kernel
theorem kbit_ne : ∀ n, n < 14 → n ≠ 11 → ∀ j, j < 14 → (kmask n).testBit j = decide (n = j) := by decide +kernel
theorem kbit_11 : ∀ j, j < 14 → (kmask 11).testBit j = decide (j = 11 ∨ j = 12) := by decide +kernel
theorem kmask_mod : ∀ n, n < 14 → kacc n 14 = kmask n := by decide +kernel
theorem SampV.neq {k : Nat} {v : Value} (h : SampV k v) (w : World) : (binOp .neq 20 v .nilIface).run Tryz.prog w = .ok (.bool (decide (1 ≤ k))) w := by
  rcases h with ⟨rfl, rfl⟩ | ⟨h1, u, rfl⟩
  · kernel_rfl
  · rw [decide_eq_true h1]
    kernel_rfl
theorem SampV.box {k : Nat} (hk : k ≤ 13) {v : Value} (h : SampV k v) : ∃ z, ∀ w, (Instr.typeAssert v 20 79 true).run Tryz.prog w = .ok (.tuple #[z, .bool (decide (k = 11 ∨ k = 12))]) w := by
  rcases h with ⟨rfl, rfl⟩ | ⟨h1, u, rfl⟩
  · exact ⟨.pointer none, fun w => by kernel_rfl⟩
  · obtain h | h | h | h | h | h | h | h | h | h | h | h | h : k = 1 ∨ k = 2 ∨ k = 3 ∨ k = 4 ∨ k = 5 ∨ k = 6 ∨ k = 7 ∨ k = 8 ∨ k = 9 ∨ k = 10 ∨ k = 11 ∨ k = 12 ∨ k = 13 := by omega
    all_goals subst h
    · exact ⟨.pointer none, fun w => by kernel_rfl⟩
    · exact ⟨.pointer none, fun w => by kernel_rfl⟩
    · exact ⟨.pointer none, fun w => by kernel_rfl⟩
    · exact ⟨.pointer none, fun w => by kernel_rfl⟩
    · exact ⟨.pointer none, fun w => by kernel_rfl⟩
    · exact ⟨.pointer none, fun w => by kernel_rfl⟩
    · exact ⟨.pointer none, fun w => by kernel_rfl⟩
    · exact ⟨.pointer none, fun w => by kernel_rfl⟩
    · exact ⟨.pointer none, fun w => by kernel_rfl⟩
    · exact ⟨.pointer none, fun w => by kernel_rfl⟩
    · exact ⟨u, fun w => by kernel_rfl⟩
    · exact ⟨u, fun w => by kernel_rfl⟩
    · exact ⟨.pointer none, fun w => by kernel_rfl⟩

set_option maxRecDepth 100000 in
set_option maxHeartbeats 800000 in
theorem rk_any (a : Option Addr) (cap : Nat) (w : World) : Calls Tryz.prog 22 #[.agg #[.int .i64 1, .int .i64 0, .slice a 0 cap]] w fun x w' => x = .returned (.int .u32 16382) ∧ Below w.heap.size w w' := by
  obtain ⟨W1, hW1, hb1, hx1⟩ := want1_world w (.int .i64 1) (.int .i64 0) (.slice a 0 cap)
  have p0 : W1.cell? ⟨w.heap.size, 0, none⟩ = some (.int .i64 1) := hx1.cell 0 rfl
  have p1 : W1.cell? ⟨w.heap.size, 1, none⟩ = some (.int .i64 0) := hx1.cell 1 rfl
  have p2 : W1.cell? ⟨w.heap.size, 2, none⟩ = some (.slice a 0 cap) := hx1.cell 2 rfl
  go_enter Tryz.func22, Tryz.ntmps22
  go_upto_region 1 with fail
  rw [← hW1]
  clear hW1
  go_wp2_with fail
  go_ret
  exact ⟨rfl, hb1⟩

set_option maxRecDepth 100000 in
set_option maxHeartbeats 800000 in
theorem rk_kind0 (a : Option Addr) (cap : Nat) (w : World) : Calls Tryz.prog 22 #[.agg #[.int .i64 2, .int .i64 0, .slice a 0 cap]] w fun x w' => x = .returned (.int .u32 (kmask 0 : Nat)) ∧ Below w.heap.size w w' := by
  go_enter Tryz.func22, Tryz.ntmps22
  go_wp2
  go_ret
  exact ⟨rfl, by go_grown⟩

set_option maxRecDepth 100000 in
set_option maxHeartbeats 800000 in
theorem rk_kind1 (a : Option Addr) (cap : Nat) (w : World) : Calls Tryz.prog 22 #[.agg #[.int .i64 2, .int .i64 1, .slice a 0 cap]] w fun x w' => x = .returned (.int .u32 (kmask 1 : Nat)) ∧ Below w.heap.size w w' := by
  go_enter Tryz.func22, Tryz.ntmps22
  go_wp2
  go_ret
  exact ⟨rfl, by go_grown⟩

set_option maxRecDepth 100000 in
set_option maxHeartbeats 800000 in
theorem rk_kind2 (a : Option Addr) (cap : Nat) (w : World) : Calls Tryz.prog 22 #[.agg #[.int .i64 2, .int .i64 2, .slice a 0 cap]] w fun x w' => x = .returned (.int .u32 (kmask 2 : Nat)) ∧ Below w.heap.size w w' := by
  go_enter Tryz.func22, Tryz.ntmps22
  go_wp2
  go_ret
  exact ⟨rfl, by go_grown⟩

set_option maxRecDepth 100000 in
set_option maxHeartbeats 800000 in
theorem rk_kind3 (a : Option Addr) (cap : Nat) (w : World) : Calls Tryz.prog 22 #[.agg #[.int .i64 2, .int .i64 3, .slice a 0 cap]] w fun x w' => x = .returned (.int .u32 (kmask 3 : Nat)) ∧ Below w.heap.size w w' := by
  go_enter Tryz.func22, Tryz.ntmps22
  go_wp2
  go_ret
  exact ⟨rfl, by go_grown⟩

set_option maxRecDepth 100000 in
set_option maxHeartbeats 800000 in
theorem rk_kind4 (a : Option Addr) (cap : Nat) (w : World) : Calls Tryz.prog 22 #[.agg #[.int .i64 2, .int .i64 4, .slice a 0 cap]] w fun x w' => x = .returned (.int .u32 (kmask 4 : Nat)) ∧ Below w.heap.size w w' := by
  go_enter Tryz.func22, Tryz.ntmps22
  go_wp2
  go_ret
  exact ⟨rfl, by go_grown⟩

set_option maxRecDepth 100000 in
set_option maxHeartbeats 800000 in
theorem rk_kind5 (a : Option Addr) (cap : Nat) (w : World) : Calls Tryz.prog 22 #[.agg #[.int .i64 2, .int .i64 5, .slice a 0 cap]] w fun x w' => x = .returned (.int .u32 (kmask 5 : Nat)) ∧ Below w.heap.size w w' := by
  go_enter Tryz.func22, Tryz.ntmps22
  go_wp2
  go_ret
  exact ⟨rfl, by go_grown⟩

set_option maxRecDepth 100000 in
set_option maxHeartbeats 800000 in
theorem rk_kind6 (a : Option Addr) (cap : Nat) (w : World) : Calls Tryz.prog 22 #[.agg #[.int .i64 2, .int .i64 6, .slice a 0 cap]] w fun x w' => x = .returned (.int .u32 (kmask 6 : Nat)) ∧ Below w.heap.size w w' := by
  go_enter Tryz.func22, Tryz.ntmps22
  go_wp2
  go_ret
  exact ⟨rfl, by go_grown⟩

set_option maxRecDepth 100000 in
set_option maxHeartbeats 800000 in
theorem rk_kind7 (a : Option Addr) (cap : Nat) (w : World) : Calls Tryz.prog 22 #[.agg #[.int .i64 2, .int .i64 7, .slice a 0 cap]] w fun x w' => x = .returned (.int .u32 (kmask 7 : Nat)) ∧ Below w.heap.size w w' := by
  go_enter Tryz.func22, Tryz.ntmps22
  go_wp2
  go_ret
  exact ⟨rfl, by go_grown⟩

set_option maxRecDepth 100000 in
set_option maxHeartbeats 800000 in
theorem rk_kind8 (a : Option Addr) (cap : Nat) (w : World) : Calls Tryz.prog 22 #[.agg #[.int .i64 2, .int .i64 8, .slice a 0 cap]] w fun x w' => x = .returned (.int .u32 (kmask 8 : Nat)) ∧ Below w.heap.size w w' := by
  go_enter Tryz.func22, Tryz.ntmps22
  go_wp2
  go_ret
  exact ⟨rfl, by go_grown⟩

set_option maxRecDepth 100000 in
set_option maxHeartbeats 800000 in
theorem rk_kind9 (a : Option Addr) (cap : Nat) (w : World) : Calls Tryz.prog 22 #[.agg #[.int .i64 2, .int .i64 9, .slice a 0 cap]] w fun x w' => x = .returned (.int .u32 (kmask 9 : Nat)) ∧ Below w.heap.size w w' := by
  go_enter Tryz.func22, Tryz.ntmps22
  go_wp2
  go_ret
  exact ⟨rfl, by go_grown⟩

set_option maxRecDepth 100000 in
set_option maxHeartbeats 800000 in
theorem rk_kind10 (a : Option Addr) (cap : Nat) (w : World) : Calls Tryz.prog 22 #[.agg #[.int .i64 2, .int .i64 10, .slice a 0 cap]] w fun x w' => x = .returned (.int .u32 (kmask 10 : Nat)) ∧ Below w.heap.size w w' := by
  go_enter Tryz.func22, Tryz.ntmps22
  go_wp2
  go_ret
  exact ⟨rfl, by go_grown⟩

set_option maxRecDepth 100000 in
set_option maxHeartbeats 800000 in
theorem rk_kind11 (a : Option Addr) (cap : Nat) (w : World) : Calls Tryz.prog 22 #[.agg #[.int .i64 2, .int .i64 11, .slice a 0 cap]] w fun x w' => x = .returned (.int .u32 (kmask 11 : Nat)) ∧ Below w.heap.size w w' := by
  go_enter Tryz.func22, Tryz.ntmps22
  go_wp2
  go_ret
  exact ⟨rfl, by go_grown⟩

set_option maxRecDepth 100000 in
set_option maxHeartbeats 800000 in
theorem rk_kind12 (a : Option Addr) (cap : Nat) (w : World) : Calls Tryz.prog 22 #[.agg #[.int .i64 2, .int .i64 12, .slice a 0 cap]] w fun x w' => x = .returned (.int .u32 (kmask 12 : Nat)) ∧ Below w.heap.size w w' := by
  go_enter Tryz.func22, Tryz.ntmps22
  go_wp2
  go_ret
  exact ⟨rfl, by go_grown⟩

set_option maxRecDepth 100000 in
set_option maxHeartbeats 800000 in
theorem rk_kind13 (a : Option Addr) (cap : Nat) (w : World) : Calls Tryz.prog 22 #[.agg #[.int .i64 2, .int .i64 13, .slice a 0 cap]] w fun x w' => x = .returned (.int .u32 (kmask 13 : Nat)) ∧ Below w.heap.size w w' := by
  go_enter Tryz.func22, Tryz.ntmps22
  go_wp2
  go_ret
  exact ⟨rfl, by go_grown⟩
theorem rk_kind (n : Nat) (hn : n < 14) (a : Option Addr) (cap : Nat) (w : World) : Calls Tryz.prog 22 #[.agg #[.int .i64 2, .int .i64 n, .slice a 0 cap]] w fun x w' => x = .returned (.int .u32 (kmask n : Nat)) ∧ Below w.heap.size w w' := by
  obtain h | h | h | h | h | h | h | h | h | h | h | h | h | h : n = 0 ∨ n = 1 ∨ n = 2 ∨ n = 3 ∨ n = 4 ∨ n = 5 ∨ n = 6 ∨ n = 7 ∨ n = 8 ∨ n = 9 ∨ n = 10 ∨ n = 11 ∨ n = 12 ∨ n = 13 := by omega
  all_goals subst h
  · exact rk_kind0 a cap w
  · exact rk_kind1 a cap w
  · exact rk_kind2 a cap w
  · exact rk_kind3 a cap w
  · exact rk_kind4 a cap w
  · exact rk_kind5 a cap w
  · exact rk_kind6 a cap w
  · exact rk_kind7 a cap w
  · exact rk_kind8 a cap w
  · exact rk_kind9 a cap w
  · exact rk_kind10 a cap w
  · exact rk_kind11 a cap w
  · exact rk_kind12 a cap w
  · exact rk_kind13 a cap w

set_option maxHeartbeats 1600000 in
theorem rk_face (a : Option Addr) (cap : Nat) (f : Nat) (hf : f < 10) (w : World) : Calls Tryz.prog 22 #[.agg #[.int .i64 3, .int .i64 f, .slice a 0 cap]] w fun x w' => x = .returned (.int .u32 (fmask f 14 : Nat)) ∧ Below w.heap.size w w' := by
  have HI := Lib.hid (fun (k : Nat) (hk : k ≤ 13) w => rimpl_any k hk f w)
  obtain ⟨W1, hW1⟩ : ∃ W1, W1 = w.alloc (.cells #[.int .i64 3, .int .i64 f, .slice a 0 cap] 40) := ⟨_, rfl⟩
  have hb1 : Below w.heap.size w W1 := by rw [hW1]; exact (Below.refl _ _).alloc (Nat.le_refl _) _
  have hx1 : Row W1 w.heap.size #[.int .i64 3, .int .i64 f, .slice a 0 cap] 40 := by rw [hW1]; exact Row.new w _ _
  have p0 : W1.cell? ⟨w.heap.size, 0, none⟩ = some (.int .i64 3) := hx1.cell 0 rfl
  go_enter Tryz.func22, Tryz.ntmps22
  go_upto_region 1 with fail
  rw [← hW1]
  clear hW1
  go_wp2_with fail
  go_loopw [3, 4] (fun s i wr => ∃ j : Nat, j ≤ 14 ∧ i = .int .i64 j ∧ s = .int .u32 (fmask f j : Nat) ∧ Below W1.heap.size W1 wr) (fun _ i _ => 14 - (intOf i).toNat)
  case atStart => exact ⟨0, by omega, rfl, rfl, Below.refl _ _⟩
  case round =>
    obtain ⟨j, hj, rfl, rfl, hbr⟩ := hrel
    have q1 : wr.cell? ⟨w.heap.size, 1, none⟩ = some (.int .i64 f) := (hx1.later hbr).cell 1 rfl
    by_cases hlt : j < 14
    · have HIj := Lib.hid (HI.out j (by omega))
      have hlt' : decide ((j : Int) < 14) = true := by simp; omega
      cases h : hasFi j f
      · rw [h] at HIj
        go_wp2_with (go_at_call 28; refine (HIj.out _).mono ?_; rintro e w2 ⟨rfl, hb2⟩)
        go_roundw
        case rel => exact ⟨j + 1, by omega, by go_num, by rw [fmask_no hf h], hbr.trans (hb2.mono hbr.size)⟩
        case measure => simp [intOf]; omega
      · rw [h] at HIj
        go_wp2_with (go_at_call 28; refine (HIj.out _).mono ?_; rintro e w2 ⟨rfl, hb2⟩)
        go_roundw
        case rel => exact ⟨j + 1, by omega, by go_num, by rw [fmask_yes hf hlt h], hbr.trans (hb2.mono hbr.size)⟩
        case measure => simp [intOf]; omega
    · obtain rfl : j = 14 := by omega
      go_wp2_with fail
      go_ret
      exact ⟨rfl, hb1.trans (hbr.mono hb1.size)⟩

set_option maxRecDepth 100000 in
set_option maxHeartbeats 3200000 in
theorem wk_any (a : Option Addr) (cap : Nat) (w : World) : Calls Tryz.prog 44 #[.agg #[.int .i64 1, .int .i64 0, .slice a 0 cap]] w fun x w' => x = .returned (.int .u32 16382) ∧ Below w.heap.size w w' := by
  obtain ⟨W1, hW1, hb1, hx1⟩ := want1_world w (.int .i64 1) (.int .i64 0) (.slice a 0 cap)
  have p0 : W1.cell? ⟨w.heap.size, 0, none⟩ = some (.int .i64 1) := hx1.cell 0 rfl
  have p1 : W1.cell? ⟨w.heap.size, 1, none⟩ = some (.int .i64 0) := hx1.cell 1 rfl
  have p2 : W1.cell? ⟨w.heap.size, 2, none⟩ = some (.slice a 0 cap) := hx1.cell 2 rfl
  go_enter Tryz.func44, Tryz.ntmps44
  go_upto_region 1 with fail
  rw [← hW1]
  clear hW1
  go_wp2_with fail
  go_loopw [3, 7] (fun s i wr => ∃ j : Nat, j ≤ 14 ∧ i = .int .i64 j ∧ s = .int .u32 (amask j : Nat) ∧ Below W1.heap.size W1 wr) (fun _ i _ => 14 - (intOf i).toNat)
  case atStart => exact ⟨0, by omega, rfl, rfl, Below.refl _ _⟩
  case round =>
    obtain ⟨j, hj, rfl, rfl, hbr⟩ := hrel
    clear p0 p1 p2
    by_cases hlt : j < 14
    · have hlt' : decide ((j : Int) < 14) = true := by simp; omega
      go_wp2_with fail
      refine (sample_v j (by omega) _).mono ?_
      rintro e w2 ⟨v, rfl, hv, hb2⟩
      have hbr2 := hbr.trans (hb2.mono hbr.size)
      have hx2 := hx1.later hbr2
      have p0 : w2.cell? ⟨w.heap.size, 0, none⟩ = some (.int .i64 1) := hx2.cell 0 rfl
      have p1 : w2.cell? ⟨w.heap.size, 1, none⟩ = some (.int .i64 0) := hx2.cell 1 rfl
      have p2 : w2.cell? ⟨w.heap.size, 2, none⟩ = some (.slice a 0 cap) := hx2.cell 2 rfl
      dsimp only
      rcases hv with ⟨rfl, rfl⟩ | ⟨h1, u, rfl⟩
      · go_wp2_with fail
        go_roundw
        case rel => exact ⟨0 + 1, by omega, by go_num, rfl, hbr2⟩
        case measure => first | (simp [intOf]; omega) | simp [intOf]
      · go_wp2_with fail
        go_roundw
        case rel => exact ⟨j + 1, by omega, by go_num, by rw [amask_step j hlt h1], hbr2⟩
        case measure => first | (simp [intOf]; omega) | simp [intOf]
    · obtain rfl : j = 14 := by omega
      go_wp2_with fail
      go_ret
      exact ⟨rfl, hb1.trans (hbr.mono hb1.size)⟩

set_option maxRecDepth 100000 in
set_option maxHeartbeats 3200000 in
theorem wk_kind (n : Nat) (hn : n < 14) (a : Option Addr) (cap : Nat) (w : World) : Calls Tryz.prog 44 #[.agg #[.int .i64 2, .int .i64 n, .slice a 0 cap]] w fun x w' => x = .returned (.int .u32 ((kmask n : Nat) : Int)) ∧ Below w.heap.size w w' := by
  obtain ⟨W1, hW1, hb1, hx1⟩ := want1_world w (.int .i64 2) (.int .i64 n) (.slice a 0 cap)
  have p0 : W1.cell? ⟨w.heap.size, 0, none⟩ = some (.int .i64 2) := hx1.cell 0 rfl
  have p1 : W1.cell? ⟨w.heap.size, 1, none⟩ = some (.int .i64 n) := hx1.cell 1 rfl
  have p2 : W1.cell? ⟨w.heap.size, 2, none⟩ = some (.slice a 0 cap) := hx1.cell 2 rfl
  go_enter Tryz.func44, Tryz.ntmps44
  go_upto_region 1 with fail
  rw [← hW1]
  clear hW1
  go_wp2_with fail
  go_loopw [3, 7] (fun s i wr => ∃ j : Nat, j ≤ 14 ∧ i = .int .i64 j ∧ s = .int .u32 ((kacc n j : Nat) : Int) ∧ Below W1.heap.size W1 wr) (fun _ i _ => 14 - (intOf i).toNat)
  case atStart => exact ⟨0, by omega, rfl, by rw [kacc_zero]; rfl, Below.refl _ _⟩
  case round =>
    obtain ⟨j, hj, rfl, rfl, hbr⟩ := hrel
    clear p0 p1 p2
    by_cases hlt : j < 14
    · have hlt' : decide ((j : Int) < 14) = true := by simp; omega
      go_wp2_with fail
      refine (sample_v j (by omega) _).mono ?_
      rintro e w2 ⟨v, rfl, hv, hb2⟩
      have hbr2 := hbr.trans (hb2.mono hbr.size)
      have hx2 := hx1.later hbr2
      have p0 : w2.cell? ⟨w.heap.size, 0, none⟩ = some (.int .i64 2) := hx2.cell 0 rfl
      have p1 : w2.cell? ⟨w.heap.size, 1, none⟩ = some (.int .i64 n) := hx2.cell 1 rfl
      have p2 : w2.cell? ⟨w.heap.size, 2, none⟩ = some (.slice a 0 cap) := hx2.cell 2 rfl
      obtain ⟨z, hz⟩ := hv.box (by omega)
      dsimp only
      by_cases h11 : n = 11
      · subst h11
        have hbit := kbit_11 j hlt
        cases hd : decide (j = 11 ∨ j = 12)
        · rw [hd] at hz hbit
          go_wp2_with fail
          go_roundw
          case rel => exact ⟨j + 1, by omega, by go_num, by rw [kacc_no 11 (by omega) j hlt hbit], hbr2⟩
          case measure => first | (simp [intOf]; omega) | simp [intOf]
        · rw [hd] at hz hbit
          go_wp2_with fail
          go_roundw
          case rel => exact ⟨j + 1, by omega, by go_num, by rw [kacc_yes 11 (by omega) j hlt hbit], hbr2⟩
          case measure => first | (simp [intOf]; omega) | simp [intOf]
      · have hbit := kbit_ne n hn h11 j hlt
        have hn11 : ((n : Int) == 11) = false := by simp; omega
        by_cases hd : n = j
        · subst hd
          have hd1 : ((n : Int) == (n : Int)) = true := by simp
          rw [decide_eq_true rfl] at hbit
          go_wp2_with fail
          go_roundw
          case rel => exact ⟨n + 1, by omega, by go_num, by rw [kacc_yes n hn n hlt hbit], hbr2⟩
          case measure => first | (simp [intOf]; omega) | simp [intOf]
        · have hd1 : ((n : Int) == (j : Int)) = false := by simp; omega
          rw [decide_eq_false hd] at hbit
          go_wp2_with fail
          go_roundw
          case rel => exact ⟨j + 1, by omega, by go_num, by rw [kacc_no n hn j hlt hbit], hbr2⟩
          case measure => first | (simp [intOf]; omega) | simp [intOf]
    · obtain rfl : j = 14 := by omega
      go_wp2_with fail
      go_ret
      exact ⟨by rw [kmask_mod n hn]; rfl, hb1.trans (hbr.mono hb1.size)⟩

set_option maxRecDepth 100000 in
set_option maxHeartbeats 3200000 in
theorem wk_face (f : Nat) (hf : f < 10) (a : Option Addr) (cap : Nat) (w : World) : Calls Tryz.prog 44 #[.agg #[.int .i64 3, .int .i64 f, .slice a 0 cap]] w fun x w' => x = .returned (.int .u32 (fmask f 14 : Nat)) ∧ Below w.heap.size w w' := by
  obtain ⟨W1, hW1, hb1, hx1⟩ := want1_world w (.int .i64 3) (.int .i64 f) (.slice a 0 cap)
  have p0 : W1.cell? ⟨w.heap.size, 0, none⟩ = some (.int .i64 3) := hx1.cell 0 rfl
  have p1 : W1.cell? ⟨w.heap.size, 1, none⟩ = some (.int .i64 f) := hx1.cell 1 rfl
  have p2 : W1.cell? ⟨w.heap.size, 2, none⟩ = some (.slice a 0 cap) := hx1.cell 2 rfl
  go_enter Tryz.func44, Tryz.ntmps44
  go_upto_region 1 with fail
  rw [← hW1]
  clear hW1
  go_wp2_with fail
  go_loopw [3, 7] (fun s i wr => ∃ j : Nat, j ≤ 14 ∧ i = .int .i64 j ∧ s = .int .u32 (fmask f j : Nat) ∧ Below W1.heap.size W1 wr) (fun _ i _ => 14 - (intOf i).toNat)
  case atStart => exact ⟨0, by omega, rfl, rfl, Below.refl _ _⟩
  case round =>
    obtain ⟨j, hj, rfl, rfl, hbr⟩ := hrel
    clear p0 p1 p2
    by_cases hlt : j < 14
    · have hlt' : decide ((j : Int) < 14) = true := by simp; omega
      go_wp2_with fail
      refine (sample_v j (by omega) _).mono ?_
      rintro e w2 ⟨v, rfl, hv, hb2⟩
      have hbr2 := hbr.trans (hb2.mono hbr.size)
      have hx2 := hx1.later hbr2
      have p0 : w2.cell? ⟨w.heap.size, 0, none⟩ = some (.int .i64 3) := hx2.cell 0 rfl
      have p1 : w2.cell? ⟨w.heap.size, 1, none⟩ = some (.int .i64 f) := hx2.cell 1 rfl
      have p2 : w2.cell? ⟨w.heap.size, 2, none⟩ = some (.slice a 0 cap) := hx2.cell 2 rfl
      have HF := Lib.hid (fun W => face_any j (by omega) v hv f W)
      dsimp only
      cases h : hasFi j f
      · rw [h] at HF
        go_wp2_with (go_at_call 57; refine (HF.out _).mono ?_; rintro e w3 ⟨rfl, rfl⟩)
        go_roundw
        case rel => exact ⟨j + 1, by omega, by go_num, by rw [fmask_no hf h], hbr2⟩
        case measure => first | (simp [intOf]; omega) | simp [intOf]
      · rw [h] at HF
        go_wp2_with (go_at_call 57; refine (HF.out _).mono ?_; rintro e w3 ⟨rfl, rfl⟩)
        go_roundw
        case rel => exact ⟨j + 1, by omega, by go_num, by rw [fmask_yes hf hlt h], hbr2⟩
        case measure => first | (simp [intOf]; omega) | simp [intOf]
    · obtain rfl : j = 14 := by omega
      go_wp2_with fail
      go_ret
      exact ⟨rfl, hb1.trans (hbr.mono hb1.size)⟩
end Go.Proofs.YtecdniimikfbhaaGreat
