/- The number of a number's digits, whatever the table of powers holds: at most 20. -/
import Derived.Test.YtecdniimikfbhaaGreatShelf
import Derived.Test.YtecdniimikfbhaaGreatM02
namespace Go.Proofs.YtecdniimikfbhaaGreat
open Go Go.RowKit Go.ChangeShapes Go.WideShapes Go.Shelf Go.Sort

/-- The table of powers holds some numbers. -/
def TabAny (w : World) : Prop := ∀ i : Nat, i < 20 → ∃ x : Int, w.cell? ⟨1, i, none⟩ = some (.int .u64 x)
theorem TabAny.later {w w1 : World} (h : TabAny w) (hb : Below w.heap.size w w1) : TabAny w1 := fun i hi => by
  obtain ⟨x, hx⟩ := h i hi
  exact ⟨x, (hb.cell (p := ⟨1, i, none⟩) (block_lt_of_cell hx)).trans hx⟩

set_option maxRecDepth 100000 in
set_option maxHeartbeats 1600000 in
theorem ndig_any (u : Nat) (h1 : 1 ≤ u) (h2 : u < 18446744073709551616) (w : World) (htab : TabAny w) : Calls Tryz.prog 128 #[.int .u64 u] w fun e w' => (∃ nd : Nat, nd ≤ 20 ∧ e = .returned (.int .i64 nd)) ∧ w' = w := by
  obtain ⟨_, h19⟩ := Lib.numDigits_eq u h1 h2
  have hL : Lib.bitLen u ≤ 64 := Lib.bitLen_le u 64 (Nat.le_refl _) h2
  obtain ⟨x, hx⟩ := htab (Lib.l10 (Lib.bitLen u)) (by omega)
  have H1 := Lib.hid (fun W => Tryz.bits_Len64 u W (by omega) (by omega))
  have H2 := Lib.hid (fun W => Tryz.internal_strconv_log10Pow2 (Lib.bitLen u) hL W)
  have hto : ((u : Int)).toNat = u := by omega
  rw [hto] at H1
  generalize Lib.l10 (Lib.bitLen u) = q at *
  clear htab hL hto
  have hc : (x ≤ (u : Int)) ∨ ¬ (x ≤ (u : Int)) := by omega
  go_enter Tryz.func128, Tryz.ntmps128
  rcases hc with hc | hc
  · have e1 : decide (x ≤ (u : Int)) = true := by simpa using hc
    go_wp2_with (first
      | (go_at_call 132; refine (H1.out _).mono ?_; rintro e w' ⟨rfl, rfl⟩)
      | (go_at_call 131; refine (H2.out _).mono ?_; rintro e w' ⟨rfl, rfl⟩)
      | (go_at_call 133; refine (Tryz.internal_strconv_bool2_int _ _).mono ?_; rintro e w' ⟨rfl, rfl⟩))
    go_ret
    exact ⟨⟨q + 1, by omega, by simp⟩, rfl⟩
  · have e1 : decide (x ≤ (u : Int)) = false := by simpa using hc
    go_wp2_with (first
      | (go_at_call 132; refine (H1.out _).mono ?_; rintro e w' ⟨rfl, rfl⟩)
      | (go_at_call 131; refine (H2.out _).mono ?_; rintro e w' ⟨rfl, rfl⟩)
      | (go_at_call 133; refine (Tryz.internal_strconv_bool2_int _ _).mono ?_; rintro e w' ⟨rfl, rfl⟩))
    go_ret
    exact ⟨⟨q, by omega, by simp⟩, rfl⟩
end Go.Proofs.YtecdniimikfbhaaGreat
