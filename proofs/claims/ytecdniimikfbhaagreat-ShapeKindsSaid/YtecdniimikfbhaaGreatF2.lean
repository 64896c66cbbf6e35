/- Digits written into a row of bytes: whatever the number and however many places, the call returns and bytes stay bytes. -/
import Derived.Test.YtecdniimikfbhaaGreatF1
import Derived.Lib.Walk
import Derived.Lib.ItoaWalk
import Derived.RegionTactic
namespace Go.Proofs.YtecdniimikfbhaaGreat
open Go Go.RowKit Go.ChangeShapes Go.WideShapes Go.Shelf Go.Sort Go.Lib

/-- A block of 24 bytes. -/
def U8 (w : World) (blk : Nat) : Prop := ∀ t, t < 24 → (∃ x : Int, (0 ≤ x ∧ x < 256) ∧ w.cell? ⟨blk, t, none⟩ = some (.int .u8 x)) ∧ w.frozen? ⟨blk, t, none⟩ = false
/-- Behind the call that block is one of bytes still, and of what was there ahead of it nothing else has turned. -/
def U8F (w W : World) (blk : Nat) : Prop := U8 W blk ∧ ∀ B w0, Below B w0 w → B ≤ blk → Below B w0 W
theorem U8.set {W : World} {blk : Nat} (h : U8 W blk) (t : Nat) (x : Int) (hx : 0 ≤ x ∧ x < 256) : U8 (W.setCell ⟨blk, t, none⟩ (.int .u8 x)) blk := fun i hi => by
  obtain ⟨⟨y, hy, hc⟩, hf⟩ := h i hi
  refine ⟨?_, ?_⟩
  · by_cases e : i = t
    · subst e
      exact ⟨x, hx, World.cell?_setCell_same _ _ _ hc⟩
    · exact ⟨y, hy, (World.cell?_setCell_other _ _ _ _ (by simp)).trans hc⟩
  · rw [World.frozen?_setCell]; exact hf
theorem U8F.set {w W : World} {blk : Nat} (h : U8F w W blk) (t : Nat) (x : Int) (hx : 0 ≤ x ∧ x < 256) : U8F w (W.setCell ⟨blk, t, none⟩ (.int .u8 x)) blk := ⟨h.1.set t x hx, fun B w0 hb hB => (h.2 B w0 hb hB).setCell (p := ⟨blk, t, none⟩) hB _⟩
theorem U8F.drew {w W : World} {blk : Nat} (h : U8F w W blk) : U8F w W.drew blk := ⟨fun t ht => h.1 t ht, fun B w0 hb hB => (h.2 B w0 hb hB).trans (by go_grown)⟩
theorem U8F.cells {w W : World} {blk off nd : Nat} (h : U8F w W blk) (hn : off + nd ≤ 24) : ∃ G : Nat → Int, (∀ t, t < nd → W.cell? ⟨blk, off + t, none⟩ = some (.int .u8 (G t))) ∧ ∀ t, t < nd → W.frozen? ⟨blk, off + t, none⟩ = false := by
  refine ⟨fun t => match W.cell? ⟨blk, off + t, none⟩ with | some (.int _ x) => x | _ => 0, fun t ht => ?_, fun t ht => (h.1 (off + t) (by omega)).2⟩
  obtain ⟨⟨x, _, hc⟩, _⟩ := h.1 (off + t) (by omega)
  simp only [hc]
theorem sm_lt (i : Nat) : (0 : Int) ≤ ((sm i).toNat : Int) ∧ ((sm i).toNat : Int) < 256 := by have := (sm i).toNat_lt; omega

set_option maxRecDepth 100000 in
set_option maxHeartbeats 12800000 in
theorem fmt_any (blk off cap nd : Nat) (hnd : off + nd ≤ 24) (u : Nat) (hu : u < 18446744073709551616) (w : World) (hU : U8 w blk) :
    Calls Tryz.prog 129 #[.slice (some ⟨blk, off, none⟩) nd cap, .int .u64 u] w fun e w' => e = .returned (.tuple #[]) ∧ U8F w w' blk := by
  have HU := Lib.hid (show U8F w w blk from ⟨hU, fun _ _ h _ => h⟩)
  clear hU
  go_enter Tryz.func129, Tryz.ntmps129
  go_name_bytes SM hSM
  have eSM : SM = Lib.smalls := by rw [← hSM]; decide +kernel
  subst eSM
  clear hSM
  go_wp2
  go_loopw [1, 4] (fun vu vn wr => ∃ (n v : Nat), n ≤ nd ∧ v < 18446744073709551616 ∧ vu = .int .u64 v ∧ vn = .int .i64 n ∧ Hid (U8F w wr blk)) (fun _ vn _ => (RowKit.intOf vn).toNat)
  case atStart => exact ⟨nd, u, Nat.le_refl _, hu, rfl, rfl, HU⟩
  case round =>
    obtain ⟨n, v, hn, hv, rfl, rfl, HU0⟩ := hrel
    rename World => W0
    clear HU
    by_cases h8 : 8 ≤ n
    · obtain ⟨m, rfl⟩ : ∃ m, n = m + 8 := ⟨n - 8, by omega⟩
      go_wp2
      obtain ⟨G0, hc0, hf0⟩ := HU0.out.cells hnd
      go_name_slot 9 x0 hx0
      have hlo0 : 0 ≤ x0 := by omega
      have hhi0 : x0 ≤ 198 := by omega
      clear hx0
      have hXa0 : ∀ w, (Instr.index 9 (.string Lib.smalls) (.int .u32 (x0 + 1))).run Tryz.prog w = .ok (.int .u8 ((sm (x0.toNat + 1)).toNat : Int)) w := idx_smalls 9 Tryz.underlying9 .u32 _ _ (by omega) (by omega)
      have hXb0 : ∀ w, (Instr.index 9 (.string Lib.smalls) (.int .u32 x0)).run Tryz.prog w = .ok (.int .u8 ((sm x0.toNat).toNat : Int)) w := idx_smalls 9 Tryz.underlying9 .u32 _ _ (by omega) (by omega)
      go_region
      go_wp2
      go_name_world W1 hW1
      have HU1 := Lib.hid (show U8F w W1 blk by rw [← hW1]; exact (HU0.out.drew.set _ _ (sm_lt _)).set _ _ (sm_lt _))
      clear hW1 hc0 hf0 HU0 hXa0 hXb0 hlo0 hhi0
      obtain ⟨G1, hc1, hf1⟩ := HU1.out.cells hnd
      go_name_slot 8 x1 hx1
      have hlo1 : 0 ≤ x1 := by omega
      have hhi1 : x1 ≤ 198 := by omega
      clear hx1
      have hXa1 : ∀ w, (Instr.index 9 (.string Lib.smalls) (.int .u32 (x1 + 1))).run Tryz.prog w = .ok (.int .u8 ((sm (x1.toNat + 1)).toNat : Int)) w := idx_smalls 9 Tryz.underlying9 .u32 _ _ (by omega) (by omega)
      have hXb1 : ∀ w, (Instr.index 9 (.string Lib.smalls) (.int .u32 x1)).run Tryz.prog w = .ok (.int .u8 ((sm x1.toNat).toNat : Int)) w := idx_smalls 9 Tryz.underlying9 .u32 _ _ (by omega) (by omega)
      go_region
      go_wp2
      go_name_world W2 hW2
      have HU2 := Lib.hid (show U8F w W2 blk by rw [← hW2]; exact (HU1.out.drew.set _ _ (sm_lt _)).set _ _ (sm_lt _))
      clear hW2 hc1 hf1 HU1 hXa1 hXb1 hlo1 hhi1
      obtain ⟨G2, hc2, hf2⟩ := HU2.out.cells hnd
      go_name_slot 11 x2 hx2
      have hlo2 : 0 ≤ x2 := by omega
      have hhi2 : x2 ≤ 198 := by omega
      clear hx2
      have hXa2 : ∀ w, (Instr.index 9 (.string Lib.smalls) (.int .u32 (x2 + 1))).run Tryz.prog w = .ok (.int .u8 ((sm (x2.toNat + 1)).toNat : Int)) w := idx_smalls 9 Tryz.underlying9 .u32 _ _ (by omega) (by omega)
      have hXb2 : ∀ w, (Instr.index 9 (.string Lib.smalls) (.int .u32 x2)).run Tryz.prog w = .ok (.int .u8 ((sm x2.toNat).toNat : Int)) w := idx_smalls 9 Tryz.underlying9 .u32 _ _ (by omega) (by omega)
      go_region
      go_wp2
      go_name_world W3 hW3
      have HU3 := Lib.hid (show U8F w W3 blk by rw [← hW3]; exact (HU2.out.drew.set _ _ (sm_lt _)).set _ _ (sm_lt _))
      clear hW3 hc2 hf2 HU2 hXa2 hXb2 hlo2 hhi2
      obtain ⟨G3, hc3, hf3⟩ := HU3.out.cells hnd
      go_name_slot 10 x3 hx3
      have hlo3 : 0 ≤ x3 := by omega
      have hhi3 : x3 ≤ 198 := by omega
      clear hx3
      have hXa3 : ∀ w, (Instr.index 9 (.string Lib.smalls) (.int .u32 (x3 + 1))).run Tryz.prog w = .ok (.int .u8 ((sm (x3.toNat + 1)).toNat : Int)) w := idx_smalls 9 Tryz.underlying9 .u32 _ _ (by omega) (by omega)
      have hXb3 : ∀ w, (Instr.index 9 (.string Lib.smalls) (.int .u32 x3)).run Tryz.prog w = .ok (.int .u8 ((sm x3.toNat).toNat : Int)) w := idx_smalls 9 Tryz.underlying9 .u32 _ _ (by omega) (by omega)
      go_region
      go_wp2
      go_roundw
      case rel => exact ⟨m, v / 100000000, by omega, by omega, by first | go_num | (congr 1; omega), by first | go_num | (congr 1; omega), Lib.hid ((HU3.out.drew.set _ _ (sm_lt _)).set _ _ (sm_lt _))⟩
      case measure => simp [RowKit.intOf]; omega
    · have hc8 : n = 0 ∨ n = 1 ∨ n = 2 ∨ n = 3 ∨ n = 4 ∨ n = 5 ∨ n = 6 ∨ n = 7 := by omega
      clear h8
      rcases hc8 with rfl | rfl | rfl | rfl | rfl | rfl | rfl | rfl
      · go_wp2
        go_end0
        exact ⟨rfl, HU0.out⟩
      · obtain ⟨G0, hc0, hf0⟩ := HU0.out.cells hnd
        go_wp2
        go_end0
        exact ⟨rfl, (HU0.out).set _ _ (by omega)⟩
      · go_wp2
        obtain ⟨G0, hc0, hf0⟩ := HU0.out.cells hnd
        go_name_slot 16 x0 hx0
        have hlo0 : 0 ≤ x0 := by omega
        have hhi0 : x0 ≤ 198 := by omega
        clear hx0
        have hXa0 : ∀ w, (Instr.index 9 (.string Lib.smalls) (.int .u32 (x0 + 1))).run Tryz.prog w = .ok (.int .u8 ((sm (x0.toNat + 1)).toNat : Int)) w := idx_smalls 9 Tryz.underlying9 .u32 _ _ (by omega) (by omega)
        have hXb0 : ∀ w, (Instr.index 9 (.string Lib.smalls) (.int .u32 x0)).run Tryz.prog w = .ok (.int .u8 ((sm x0.toNat).toNat : Int)) w := idx_smalls 9 Tryz.underlying9 .u32 _ _ (by omega) (by omega)
        go_region
        go_wp2
        go_end0
        exact ⟨rfl, (HU0.out.drew.set _ _ (sm_lt _)).set _ _ (sm_lt _)⟩
      · go_wp2
        obtain ⟨G0, hc0, hf0⟩ := HU0.out.cells hnd
        go_name_slot 16 x0 hx0
        have hlo0 : 0 ≤ x0 := by omega
        have hhi0 : x0 ≤ 198 := by omega
        clear hx0
        have hXa0 : ∀ w, (Instr.index 9 (.string Lib.smalls) (.int .u32 (x0 + 1))).run Tryz.prog w = .ok (.int .u8 ((sm (x0.toNat + 1)).toNat : Int)) w := idx_smalls 9 Tryz.underlying9 .u32 _ _ (by omega) (by omega)
        have hXb0 : ∀ w, (Instr.index 9 (.string Lib.smalls) (.int .u32 x0)).run Tryz.prog w = .ok (.int .u8 ((sm x0.toNat).toNat : Int)) w := idx_smalls 9 Tryz.underlying9 .u32 _ _ (by omega) (by omega)
        go_region
        go_wp2
        go_end0
        exact ⟨rfl, ((HU0.out.drew.set _ _ (sm_lt _)).set _ _ (sm_lt _)).set _ _ (by omega)⟩
      · go_wp2
        obtain ⟨G0, hc0, hf0⟩ := HU0.out.cells hnd
        go_name_slot 15 x0 hx0
        have hlo0 : 0 ≤ x0 := by omega
        have hhi0 : x0 ≤ 198 := by omega
        clear hx0
        have hXa0 : ∀ w, (Instr.index 9 (.string Lib.smalls) (.int .u32 (x0 + 1))).run Tryz.prog w = .ok (.int .u8 ((sm (x0.toNat + 1)).toNat : Int)) w := idx_smalls 9 Tryz.underlying9 .u32 _ _ (by omega) (by omega)
        have hXb0 : ∀ w, (Instr.index 9 (.string Lib.smalls) (.int .u32 x0)).run Tryz.prog w = .ok (.int .u8 ((sm x0.toNat).toNat : Int)) w := idx_smalls 9 Tryz.underlying9 .u32 _ _ (by omega) (by omega)
        go_region
        go_wp2
        go_name_world W1 hW1
        have HU1 := Lib.hid (show U8F w W1 blk by rw [← hW1]; exact (HU0.out.drew.set _ _ (sm_lt _)).set _ _ (sm_lt _))
        clear hW1 hc0 hf0 HU0 hXa0 hXb0 hlo0 hhi0
        obtain ⟨G1, hc1, hf1⟩ := HU1.out.cells hnd
        go_name_slot 14 x1 hx1
        have hlo1 : 0 ≤ x1 := by omega
        have hhi1 : x1 ≤ 198 := by omega
        clear hx1
        have hXa1 : ∀ w, (Instr.index 9 (.string Lib.smalls) (.int .u32 (x1 + 1))).run Tryz.prog w = .ok (.int .u8 ((sm (x1.toNat + 1)).toNat : Int)) w := idx_smalls 9 Tryz.underlying9 .u32 _ _ (by omega) (by omega)
        have hXb1 : ∀ w, (Instr.index 9 (.string Lib.smalls) (.int .u32 x1)).run Tryz.prog w = .ok (.int .u8 ((sm x1.toNat).toNat : Int)) w := idx_smalls 9 Tryz.underlying9 .u32 _ _ (by omega) (by omega)
        go_region
        go_wp2
        go_end0
        exact ⟨rfl, (HU1.out.drew.set _ _ (sm_lt _)).set _ _ (sm_lt _)⟩
      · go_wp2
        obtain ⟨G0, hc0, hf0⟩ := HU0.out.cells hnd
        go_name_slot 15 x0 hx0
        have hlo0 : 0 ≤ x0 := by omega
        have hhi0 : x0 ≤ 198 := by omega
        clear hx0
        have hXa0 : ∀ w, (Instr.index 9 (.string Lib.smalls) (.int .u32 (x0 + 1))).run Tryz.prog w = .ok (.int .u8 ((sm (x0.toNat + 1)).toNat : Int)) w := idx_smalls 9 Tryz.underlying9 .u32 _ _ (by omega) (by omega)
        have hXb0 : ∀ w, (Instr.index 9 (.string Lib.smalls) (.int .u32 x0)).run Tryz.prog w = .ok (.int .u8 ((sm x0.toNat).toNat : Int)) w := idx_smalls 9 Tryz.underlying9 .u32 _ _ (by omega) (by omega)
        go_region
        go_wp2
        go_name_world W1 hW1
        have HU1 := Lib.hid (show U8F w W1 blk by rw [← hW1]; exact (HU0.out.drew.set _ _ (sm_lt _)).set _ _ (sm_lt _))
        clear hW1 hc0 hf0 HU0 hXa0 hXb0 hlo0 hhi0
        obtain ⟨G1, hc1, hf1⟩ := HU1.out.cells hnd
        go_name_slot 14 x1 hx1
        have hlo1 : 0 ≤ x1 := by omega
        have hhi1 : x1 ≤ 198 := by omega
        clear hx1
        have hXa1 : ∀ w, (Instr.index 9 (.string Lib.smalls) (.int .u32 (x1 + 1))).run Tryz.prog w = .ok (.int .u8 ((sm (x1.toNat + 1)).toNat : Int)) w := idx_smalls 9 Tryz.underlying9 .u32 _ _ (by omega) (by omega)
        have hXb1 : ∀ w, (Instr.index 9 (.string Lib.smalls) (.int .u32 x1)).run Tryz.prog w = .ok (.int .u8 ((sm x1.toNat).toNat : Int)) w := idx_smalls 9 Tryz.underlying9 .u32 _ _ (by omega) (by omega)
        go_region
        go_wp2
        go_end0
        exact ⟨rfl, ((HU1.out.drew.set _ _ (sm_lt _)).set _ _ (sm_lt _)).set _ _ (by omega)⟩
      · go_wp2
        obtain ⟨G0, hc0, hf0⟩ := HU0.out.cells hnd
        go_name_slot 15 x0 hx0
        have hlo0 : 0 ≤ x0 := by omega
        have hhi0 : x0 ≤ 198 := by omega
        clear hx0
        have hXa0 : ∀ w, (Instr.index 9 (.string Lib.smalls) (.int .u32 (x0 + 1))).run Tryz.prog w = .ok (.int .u8 ((sm (x0.toNat + 1)).toNat : Int)) w := idx_smalls 9 Tryz.underlying9 .u32 _ _ (by omega) (by omega)
        have hXb0 : ∀ w, (Instr.index 9 (.string Lib.smalls) (.int .u32 x0)).run Tryz.prog w = .ok (.int .u8 ((sm x0.toNat).toNat : Int)) w := idx_smalls 9 Tryz.underlying9 .u32 _ _ (by omega) (by omega)
        go_region
        go_wp2
        go_name_world W1 hW1
        have HU1 := Lib.hid (show U8F w W1 blk by rw [← hW1]; exact (HU0.out.drew.set _ _ (sm_lt _)).set _ _ (sm_lt _))
        clear hW1 hc0 hf0 HU0 hXa0 hXb0 hlo0 hhi0
        obtain ⟨G1, hc1, hf1⟩ := HU1.out.cells hnd
        go_name_slot 14 x1 hx1
        have hlo1 : 0 ≤ x1 := by omega
        have hhi1 : x1 ≤ 198 := by omega
        clear hx1
        have hXa1 : ∀ w, (Instr.index 9 (.string Lib.smalls) (.int .u32 (x1 + 1))).run Tryz.prog w = .ok (.int .u8 ((sm (x1.toNat + 1)).toNat : Int)) w := idx_smalls 9 Tryz.underlying9 .u32 _ _ (by omega) (by omega)
        have hXb1 : ∀ w, (Instr.index 9 (.string Lib.smalls) (.int .u32 x1)).run Tryz.prog w = .ok (.int .u8 ((sm x1.toNat).toNat : Int)) w := idx_smalls 9 Tryz.underlying9 .u32 _ _ (by omega) (by omega)
        go_region
        go_wp2
        go_name_world W2 hW2
        have HU2 := Lib.hid (show U8F w W2 blk by rw [← hW2]; exact (HU1.out.drew.set _ _ (sm_lt _)).set _ _ (sm_lt _))
        clear hW2 hc1 hf1 HU1 hXa1 hXb1 hlo1 hhi1
        obtain ⟨G2, hc2, hf2⟩ := HU2.out.cells hnd
        go_name_slot 16 x2 hx2
        have hlo2 : 0 ≤ x2 := by omega
        have hhi2 : x2 ≤ 198 := by omega
        clear hx2
        have hXa2 : ∀ w, (Instr.index 9 (.string Lib.smalls) (.int .u32 (x2 + 1))).run Tryz.prog w = .ok (.int .u8 ((sm (x2.toNat + 1)).toNat : Int)) w := idx_smalls 9 Tryz.underlying9 .u32 _ _ (by omega) (by omega)
        have hXb2 : ∀ w, (Instr.index 9 (.string Lib.smalls) (.int .u32 x2)).run Tryz.prog w = .ok (.int .u8 ((sm x2.toNat).toNat : Int)) w := idx_smalls 9 Tryz.underlying9 .u32 _ _ (by omega) (by omega)
        go_region
        go_wp2
        go_end0
        exact ⟨rfl, (HU2.out.drew.set _ _ (sm_lt _)).set _ _ (sm_lt _)⟩
      · go_wp2
        obtain ⟨G0, hc0, hf0⟩ := HU0.out.cells hnd
        go_name_slot 15 x0 hx0
        have hlo0 : 0 ≤ x0 := by omega
        have hhi0 : x0 ≤ 198 := by omega
        clear hx0
        have hXa0 : ∀ w, (Instr.index 9 (.string Lib.smalls) (.int .u32 (x0 + 1))).run Tryz.prog w = .ok (.int .u8 ((sm (x0.toNat + 1)).toNat : Int)) w := idx_smalls 9 Tryz.underlying9 .u32 _ _ (by omega) (by omega)
        have hXb0 : ∀ w, (Instr.index 9 (.string Lib.smalls) (.int .u32 x0)).run Tryz.prog w = .ok (.int .u8 ((sm x0.toNat).toNat : Int)) w := idx_smalls 9 Tryz.underlying9 .u32 _ _ (by omega) (by omega)
        go_region
        go_wp2
        go_name_world W1 hW1
        have HU1 := Lib.hid (show U8F w W1 blk by rw [← hW1]; exact (HU0.out.drew.set _ _ (sm_lt _)).set _ _ (sm_lt _))
        clear hW1 hc0 hf0 HU0 hXa0 hXb0 hlo0 hhi0
        obtain ⟨G1, hc1, hf1⟩ := HU1.out.cells hnd
        go_name_slot 14 x1 hx1
        have hlo1 : 0 ≤ x1 := by omega
        have hhi1 : x1 ≤ 198 := by omega
        clear hx1
        have hXa1 : ∀ w, (Instr.index 9 (.string Lib.smalls) (.int .u32 (x1 + 1))).run Tryz.prog w = .ok (.int .u8 ((sm (x1.toNat + 1)).toNat : Int)) w := idx_smalls 9 Tryz.underlying9 .u32 _ _ (by omega) (by omega)
        have hXb1 : ∀ w, (Instr.index 9 (.string Lib.smalls) (.int .u32 x1)).run Tryz.prog w = .ok (.int .u8 ((sm x1.toNat).toNat : Int)) w := idx_smalls 9 Tryz.underlying9 .u32 _ _ (by omega) (by omega)
        go_region
        go_wp2
        go_name_world W2 hW2
        have HU2 := Lib.hid (show U8F w W2 blk by rw [← hW2]; exact (HU1.out.drew.set _ _ (sm_lt _)).set _ _ (sm_lt _))
        clear hW2 hc1 hf1 HU1 hXa1 hXb1 hlo1 hhi1
        obtain ⟨G2, hc2, hf2⟩ := HU2.out.cells hnd
        go_name_slot 16 x2 hx2
        have hlo2 : 0 ≤ x2 := by omega
        have hhi2 : x2 ≤ 198 := by omega
        clear hx2
        have hXa2 : ∀ w, (Instr.index 9 (.string Lib.smalls) (.int .u32 (x2 + 1))).run Tryz.prog w = .ok (.int .u8 ((sm (x2.toNat + 1)).toNat : Int)) w := idx_smalls 9 Tryz.underlying9 .u32 _ _ (by omega) (by omega)
        have hXb2 : ∀ w, (Instr.index 9 (.string Lib.smalls) (.int .u32 x2)).run Tryz.prog w = .ok (.int .u8 ((sm x2.toNat).toNat : Int)) w := idx_smalls 9 Tryz.underlying9 .u32 _ _ (by omega) (by omega)
        go_region
        go_wp2
        go_end0
        exact ⟨rfl, ((HU2.out.drew.set _ _ (sm_lt _)).set _ _ (sm_lt _)).set _ _ (by omega)⟩
end Go.Proofs.YtecdniimikfbhaaGreat
