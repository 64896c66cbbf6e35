/- The walk of the law CapsGroups: it returns true. -/
import Derived.Test.YthkipihakiopnaaDoorC4
import Derived.Deep.QuietTactic
import Derived.BigQuiet
namespace Go.Proofs.YthkipihakiopnaaDoor
open Go.RowKit

/-- What a made slice is good for: its length; its cells. -/
theorem Made.row {w : World} {B : Nat} {v : Value} {l : List Int} (h : Made w B v l) : ∃ a c, v = .slice a l.length c ∧ (0 < l.length → ∃ g, a = some ⟨g, 0, none⟩ ∧ g < w.heap.size ∧ l.length ≤ c ∧ c ≤ 9223372036854775807 ∧ ∀ j, j < l.length → w.cell? ⟨g, j, none⟩ = some (.int .i64 (l.getD j 0))) := by
  have h0 := h
  rcases h.2 with ⟨h1, h2⟩ | ⟨g, cap, cur, rfl, hg, hh, hn, hc, hs, ht⟩
  · exact ⟨none, 0, by rw [h1, h2], fun h3 => absurd h2 (by omega)⟩
  · refine ⟨_, _, rfl, fun _ => ⟨g, rfl, (Array.getElem?_eq_some_iff.1 hh).1, hn, by unfold maxLen at hc; omega, fun j hj => ?_⟩⟩
    rw [World.ownsRow.cellAt h0 j (by omega), List.getElem?_map, List.getD_eq_getElem?_getD, List.getElem?_eq_getElem hj]
    rfl

set_option maxHeartbeats 800000 in
theorem law_groups (c g : Int) (w : World) (hg : Gl w) : Calls Tryd.prog 3 #[.int .u32 c, .int .i64 g] w fun x w' => x = .returned (.bool true) ∧ Below w.heap.size w w' := by
  have hs := hg.size
  go_enter Tryd.func3, Tryd.ntmps3
  go_wp2_with fail
  refine (groups_any _ _).mono ?_
  rintro x w1 ⟨v1, rfl, hM1, hb1⟩
  go_wp2_with fail
  refine (rgroups_any _ _).mono ?_
  rintro x w2 ⟨v2, rfl, hM2, hb2⟩
  have hM1' := hM1.below hb2
  obtain ⟨a1, c1, rfl, hr1⟩ := hM1'.row
  obtain ⟨a2, c2, rfl, hr2⟩ := hM2.row
  have hb3 : Below w.heap.size w w2 := hb1.trans (hb2.mono hb1.size)
  have hl := groupsL_len c 5
  generalize groupsL c 5 = L at *
  have H1 := Lib.hid hr1
  have H2 := Lib.hid hr2
  clear hM1 hM2 hM1' hb1 hb2 hr1 hr2
  go_wp2_with fail
  refine (parts_any _ _).mono ?_
  rintro x w3 ⟨rfl, hb4⟩
  go_wp2_with fail
  refine (rparts_any _ _).mono ?_
  rintro x w4 ⟨rfl, hb5⟩
  have hb6 : Below w2.heap.size w2 w4 := hb4.trans (hb5.mono hb4.size)
  clear hb4 hb5
  go_wp2_with fail
  by_cases h0 : 0 < L.length
  · obtain ⟨g1, rfl, hg1, hn1, hc1, hx1⟩ := H1.out h0
    obtain ⟨g2, rfl, hg2, hn2, hc2, hx2⟩ := H2.out h0
    have X1 := Lib.hid hx1
    have X2 := Lib.hid hx2
    clear H1 H2 hx1 hx2
    generalize hn : L.length = n at *
    clear hn
    go_loopw [26] (fun i wr => ∃ k : Nat, k ≤ n ∧ i = .int .i64 k ∧ Below w2.heap.size w2 wr) (fun i _ => n - (intOf i).toNat)
    case atStart => exact ⟨0, by omega, rfl, hb6⟩
    case round =>
      obtain ⟨k, hk, rfl, hbr⟩ := hrel
      by_cases hlt : k < n
      · have e1 : wr.cell? ⟨g1, k, none⟩ = some (.int .i64 (L.getD k 0)) := (hbr.cell (p := ⟨g1, k, none⟩) hg1).trans (X1.out k hlt)
        have e2 : wr.cell? ⟨g2, k, none⟩ = some (.int .i64 (L.getD k 0)) := (hbr.cell (p := ⟨g2, k, none⟩) hg2).trans (X2.out k hlt)
        have hk0 : (0 : Int) ≤ k := by omega
        have hkn : (k : Int) < n := by omega
        generalize L.getD k 0 = z at e1 e2
        go_wp2_with fail
        go_quiet (fail)
        go_wp2_with fail
        go_roundw
        case rel => exact ⟨k + 1, by omega, by go_num, hbr.trans ⟨rfl, rfl, rfl, Nat.le_refl _, fun _ _ => rfl⟩⟩
        case measure => simp [intOf]; omega
      · obtain rfl : k = n := by omega
        have hbw : Below w.heap.size w wr := hb3.trans (hbr.mono hb3.size)
        have hgr := hg.below hbw hs
        go_wp2_with fail
        refine (awake_any _ hgr).mono ?_
        rintro x w5 ⟨rfl, hb7⟩
        have hb8 : Below w.heap.size w w5 := hbw.trans (hb7.mono hbw.size)
        go_wp2_with fail
        go_ret
        exact ⟨rfl, hb8⟩
  · have hn : L.length = 0 := by omega
    rw [hn]
    clear hn H1 H2 h0
    have hbw : Below w.heap.size w w4 := hb3.trans (hb6.mono hb3.size)
    have hgr := hg.below hbw hs
    refine wp_loop_rounds 1 ?_
    rw [rounds_succ]
    go_wp2_with fail
    refine (awake_any _ hgr).mono ?_
    rintro x w5 ⟨rfl, hb7⟩
    have hb8 : Below w.heap.size w w5 := hbw.trans (hb7.mono hbw.size)
    go_wp2_with fail
    go_ret
    exact ⟨rfl, hb8⟩
end Go.Proofs.YthkipihakiopnaaDoor
