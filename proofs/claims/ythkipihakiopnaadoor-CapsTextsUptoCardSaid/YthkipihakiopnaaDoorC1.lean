/- Contracts of caps.Parts and of its callees; what the listed variables hold. -/
import Derived.Test.YthkipihakiopnaaDoorRows
import Derived.WalkKit
import Derived.ProofKit
import Derived.Handy
import Derived.Outline
import Derived.Deep.RegionHeld3
import Derived.Deep.DeepCutAuto
import Derived.Lib.Hide
import Derived.Laws.BitsAllLaws
import Derived.WalkSpells
import Derived.WalkLawsBesides
namespace Go.Proofs.YthkipihakiopnaaDoor
open Go.RowKit

def partsP (g : Int) : Int := if g = 0 then 3 else if g = 1 then 192 else if g = 2 then 48 else if g = 3 then 240 else if g = 4 then 243 else 0

theorem drained_any (w : World) : Calls Tryd.prog 27 #[.agg #[]] w fun x w' => x = .returned (.int .u32 3) ∧ Below w.heap.size w w' := by
  go_enter Tryd.func27, Tryd.ntmps27
  go_wp2
  go_ret
  exact ⟨rfl, by go_grown⟩
theorem kept_any (w : World) : Calls Tryd.prog 28 #[.agg #[]] w fun x w' => x = .returned (.int .u32 192) ∧ Below w.heap.size w w' := by
  go_enter Tryd.func28, Tryd.ntmps28
  go_wp2
  go_ret
  exact ⟨rfl, by go_grown⟩
theorem steadied_any (w : World) : Calls Tryd.prog 29 #[.agg #[]] w fun x w' => x = .returned (.int .u32 48) ∧ Below w.heap.size w w' := by
  go_enter Tryd.func29, Tryd.ntmps29
  go_wp2
  go_ret
  exact ⟨rfl, by go_grown⟩

theorem cells52 : Tryd.prog.cellsOf 52 = 0 := by kernel_rfl
theorem shape_new (w : World) (c : Array Value) (t : TypeId) : (w.alloc (.cells c t)).shape? w.heap.size = some (t, c.size) := by
  have h : (w.alloc (.cells c t)).heap[w.heap.size]? = some (.cells c t) := (MapKept.heap_alloc w _).1
  unfold World.shape?
  rw [h]
theorem shape_below {W W' : World} {B b : Nat} (hb : Below B W W') (h : b < B) : W'.shape? b = W.shape? b := by
  unfold World.shape?
  rw [hb.block b h]
theorem shape_drew (w : World) (b : Nat) : w.drew.shape? b = w.shape? b := rfl
theorem part52 (w : World) (b : Nat) (h : w.shape? b = some (52, 0)) : (partAt ⟨b, 0, none⟩ 0 0).run Tryd.prog w = .ok ⟨b, 0, none⟩ w := by
  simp [partAt, byteOf, noView, viewAt, go_sem, cells52, h, Result.andThen]
attribute [local go_sem] part52 shape_drew

theorem parts_step {w w1 w2 : World} {n : Nat} (hb : Below w1.heap.size w1 w2) (h : w1.shape? n = some (52, 0) ∧ n + 1 ≤ w1.heap.size ∧ Below n w w1) :
    w2.shape? n = some (52, 0) ∧ n + 1 ≤ w2.heap.size ∧ Below n w w2 :=
  ⟨(shape_below hb (by omega)).trans h.1, Nat.le_trans h.2.1 hb.size, h.2.2.trans (hb.mono (by omega))⟩

set_option maxHeartbeats 400000 in
theorem parts_0 (w : World) : Calls Tryd.prog 10 #[.int .i64 0] w fun x w' => x = .returned (.int .u32 3) ∧ Below w.heap.size w w' := by
  have h0 : (w.alloc (.cells #[] 52)).shape? w.heap.size = some (52, 0) := shape_new w #[] 52
  go_enter Tryd.func10, Tryd.ntmps10
  go_wp2_with fail
  refine (drained_any _).mono ?_
  rintro x w1 ⟨rfl, hb⟩
  have hB : Below w.heap.size w w1 := Below.trans (by go_grown) (hb.mono (by go_size))
  go_wp2
  go_ret
  exact ⟨rfl, hB⟩

set_option maxHeartbeats 400000 in
theorem parts_1 (w : World) : Calls Tryd.prog 10 #[.int .i64 1] w fun x w' => x = .returned (.int .u32 192) ∧ Below w.heap.size w w' := by
  have h0 : (w.alloc (.cells #[] 52)).shape? w.heap.size = some (52, 0) := shape_new w #[] 52
  go_enter Tryd.func10, Tryd.ntmps10
  go_wp2_with fail
  refine (kept_any _).mono ?_
  rintro x w1 ⟨rfl, hb⟩
  have hB : Below w.heap.size w w1 := Below.trans (by go_grown) (hb.mono (by go_size))
  go_wp2
  go_ret
  exact ⟨rfl, hB⟩

set_option maxHeartbeats 400000 in
theorem parts_2 (w : World) : Calls Tryd.prog 10 #[.int .i64 2] w fun x w' => x = .returned (.int .u32 48) ∧ Below w.heap.size w w' := by
  have h0 : (w.alloc (.cells #[] 52)).shape? w.heap.size = some (52, 0) := shape_new w #[] 52
  go_enter Tryd.func10, Tryd.ntmps10
  go_wp2_with fail
  refine (steadied_any _).mono ?_
  rintro x w1 ⟨rfl, hb⟩
  have hB : Below w.heap.size w w1 := Below.trans (by go_grown) (hb.mono (by go_size))
  go_wp2
  go_ret
  exact ⟨rfl, hB⟩

set_option maxHeartbeats 400000 in
theorem parts_3 (w : World) : Calls Tryd.prog 10 #[.int .i64 3] w fun x w' => x = .returned (.int .u32 240) ∧ Below w.heap.size w w' := by
  have h0 : (w.alloc (.cells #[] 52)).shape? w.heap.size = some (52, 0) := shape_new w #[] 52
  go_enter Tryd.func10, Tryd.ntmps10
  go_wp2_with fail
  go_region_held3 (fun w' => w'.shape? w.heap.size = some (52, 0) ∧ w.heap.size + 1 ≤ w'.heap.size ∧ Below w.heap.size w w')
    (first | (exact ⟨h0, by go_size, by go_grown⟩) | (exact parts_step (by assumption) (by assumption)) | fail)
    (first | (go_at_call 27; refine (drained_any _).mono ?_; rintro x w1 ⟨rfl, hb⟩) | (go_at_call 28; refine (kept_any _).mono ?_; rintro x w2 ⟨rfl, hb⟩) | (go_at_call 29; refine (steadied_any _).mono ?_; rintro x w3 ⟨rfl, hb⟩))
  go_wp2
  go_ret
  exact ⟨(show Ending.returned (.int .u32 (bits .or .u32 192 48)) = _ from by rw [(by decide +kernel : bits .or .u32 192 48 = 240)]), (by assumption : _ ∧ _ ∧ Below w.heap.size w _).2.2⟩

set_option maxHeartbeats 400000 in
theorem parts_4 (w : World) : Calls Tryd.prog 10 #[.int .i64 4] w fun x w' => x = .returned (.int .u32 243) ∧ Below w.heap.size w w' := by
  have h0 : (w.alloc (.cells #[] 52)).shape? w.heap.size = some (52, 0) := shape_new w #[] 52
  go_enter Tryd.func10, Tryd.ntmps10
  go_wp2_with fail
  go_region_held3 (fun w' => w'.shape? w.heap.size = some (52, 0) ∧ w.heap.size + 1 ≤ w'.heap.size ∧ Below w.heap.size w w')
    (first | (exact ⟨h0, by go_size, by go_grown⟩) | (exact parts_step (by assumption) (by assumption)) | fail)
    (first | (go_at_call 27; refine (drained_any _).mono ?_; rintro x w1 ⟨rfl, hb⟩) | (go_at_call 28; refine (kept_any _).mono ?_; rintro x w2 ⟨rfl, hb⟩) | (go_at_call 29; refine (steadied_any _).mono ?_; rintro x w3 ⟨rfl, hb⟩))
  go_wp2
  go_ret
  exact ⟨(show Ending.returned (.int .u32 (bits .or .u32 (bits .or .u32 3 192) 48)) = _ from by rw [(by decide +kernel : bits .or .u32 (bits .or .u32 3 192) 48 = 243)]), (by assumption : _ ∧ _ ∧ Below w.heap.size w _).2.2⟩

theorem parts_else (g : Int) (w : World) (h0 : (g == 0) = false) (h1 : (g == 1) = false) (h2 : (g == 2) = false) (h3 : (g == 3) = false) (h4 : (g == 4) = false) : Calls Tryd.prog 10 #[.int .i64 g] w fun x w' => x = .returned (.int .u32 0) ∧ Below w.heap.size w w' := by
  go_enter Tryd.func10, Tryd.ntmps10
  go_wp2
  go_ret
  exact ⟨rfl, by go_grown⟩

theorem parts_any (g : Int) (w : World) : Calls Tryd.prog 10 #[.int .i64 g] w fun x w' => x = .returned (.int .u32 (partsP g)) ∧ Below w.heap.size w w' := by
  unfold partsP
  by_cases h0 : g = 0
  · subst h0; exact parts_0 w
  · by_cases h1 : g = 1
    · subst h1; exact parts_1 w
    · by_cases h2 : g = 2
      · subst h2; exact parts_2 w
      · by_cases h3 : g = 3
        · subst h3; exact parts_3 w
        · by_cases h4 : g = 4
          · subst h4; exact parts_4 w
          · rw [if_neg h0, if_neg h1, if_neg h2, if_neg h3, if_neg h4]
            exact parts_else g w (by simp [h0]) (by simp [h1]) (by simp [h2]) (by simp [h3]) (by simp [h4])

end Go.Proofs.YthkipihakiopnaaDoor
