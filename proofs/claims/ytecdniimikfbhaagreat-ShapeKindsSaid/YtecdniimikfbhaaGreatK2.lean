/- Shape: what kinds a map makes of a set of kinds: both Kinds. -/
import Derived.Test.YtecdniimikfbhaaGreatK1
namespace Go.Proofs.YtecdniimikfbhaaGreat
open Go Go.RowKit Go.ChangeShapes Go.WideShapes

/-- Is a kind in a set? -/
def inSet (mask : Int) (k : Nat) : Bool := bits .and .u32 (mask / 2 ^ k) 1 == 1
/-- The kinds that a map makes of the kinds below n in a set. -/
def kindsTo (op mask : Int) : Nat → Int
  | 0 => 0
  | n + 1 => if inSet mask n = true then bits .or .u32 (kindsTo op mask n) (outK op n) else kindsTo op mask n
/-- What finds a map's kinds. -/
def KFinds (op : Int) : Prop := ∀ W, Calls Tryz.prog 13 #[.int .i64 op] W fun x w' => ∃ F G cp, x = .returned (.tuple #[.agg #[.func (.func F) #[] #[], .func (.func G) #[] cp], .bool true]) ∧ (∀ (j : Nat), j ≤ 13 → ∀ W', Below w'.heap.size w' W' → Calls Tryz.prog G (#[.int .i64 j] ++ cp) W' fun x w'' => x = .returned (.int .u32 (outK op j)) ∧ Below W'.heap.size W' w'') ∧ (∀ args w, (callFunc G args).run Tryz.prog w = .ok (.enter G args) w) ∧ Below W.heap.size W w'
theorem kfinds_1 : KFinds 1 := fun W => (find_1 W).mono fun _ w' ⟨g1, g2, g3, g4, g5, h, ha1, ha2, hd1, hd2, he1, he2, hc1, hf1, hb⟩ => ⟨_, _, _, h, fun j hj W' hW => kcl_1 j hj g1 W' (ha1.later hW) (ha2.later hW), fun _ _ => by kernel_rfl, hb⟩
theorem kfinds_2 : KFinds 2 := fun W => (find_2 W).mono fun _ w' ⟨g1, g2, g3, g4, g5, h, ha1, ha2, hd1, hd2, he1, he2, hc1, hf1, hb⟩ => ⟨_, _, _, h, fun j _ W' hW => kcl_2 j g2 W' (hc1.later hW), fun _ _ => by kernel_rfl, hb⟩
theorem kfinds_3 : KFinds 3 := fun W => (find_3 W).mono fun _ w' ⟨g1, g2, g3, g4, g5, h, ha1, ha2, hd1, hd2, he1, he2, hc1, hf1, hb⟩ => ⟨_, _, _, h, fun j hj W' _ => kcl_3 j hj W', fun _ _ => by kernel_rfl, hb⟩
theorem kfinds_4 : KFinds 4 := fun W => (find_4 W).mono fun _ w' ⟨g1, g2, g3, g4, g5, h, ha1, ha2, hd1, hd2, he1, he2, hc1, hf1, hb⟩ => ⟨_, _, _, h, fun j hj W' hW => kcl_4 j hj g3 W' (hd1.later hW) (hd2.later hW), fun _ _ => by kernel_rfl, hb⟩
theorem kfinds_5 : KFinds 5 := fun W => (find_5 W).mono fun _ w' ⟨g1, g2, g3, g4, g5, h, ha1, ha2, hd1, hd2, he1, he2, hc1, hf1, hb⟩ => ⟨_, _, _, h, fun j hj W' hW => kcl_5 j hj g4 W' (he1.later hW) (he2.later hW), fun _ _ => by kernel_rfl, hb⟩
theorem kfinds_6 : KFinds 6 := fun W => (find_6 W).mono fun _ w' ⟨g1, g2, g3, g4, g5, h, ha1, ha2, hd1, hd2, he1, he2, hc1, hf1, hb⟩ => ⟨_, _, _, h, fun j hj W' _ => kcl_6 j hj W', fun _ _ => by kernel_rfl, hb⟩
theorem kfinds_7 : KFinds 7 := fun W => (find_7 W).mono fun _ w' ⟨g1, g2, g3, g4, g5, h, ha1, ha2, hd1, hd2, he1, he2, hc1, hf1, hb⟩ => ⟨_, _, _, h, fun j _ W' hW => kcl_7 j g5 W' (hf1.later hW), fun _ _ => by kernel_rfl, hb⟩
theorem kfinds_8 : KFinds 8 := fun W => (find_8 W).mono fun _ w' ⟨g1, g2, g3, g4, g5, h, ha1, ha2, hd1, hd2, he1, he2, hc1, hf1, hb⟩ => ⟨_, _, _, h, fun j hj W' _ => kcl_8 j hj W', fun _ _ => by kernel_rfl, hb⟩

set_option maxRecDepth 100000 in
set_option maxHeartbeats 1600000 in
theorem skinds_found {op : Int} (HF : KFinds op) (mask : Int) (w : World) : Calls Tryz.prog 5 #[.int .i64 op, .int .u32 mask] w fun x w' => x = .returned (.int .u32 (kindsTo op mask 14)) ∧ Below w.heap.size w w' := by
  have HG := Lib.hid HF
  clear HF
  go_enter Tryz.func5, Tryz.ntmps5
  go_wp2_with fail
  refine (HG.out _).mono ?_
  rintro e w2 ⟨F, G, cp, rfl, hG, hcall, hb2⟩
  have HGG := Lib.hid hG
  clear hG
  obtain ⟨Wa, hWa, hba, hma⟩ := map_world2 w2 (.func (.func F) #[] #[]) (.func (.func G) #[] cp)
  have hbwa := hb2.trans (hba.mono hb2.size)
  dsimp only
  go_upto_region 2 with fail
  rw [← hWa]
  clear hWa
  go_wp2_with fail
  go_loopw [7, 16] (fun o i wr => ∃ j : Nat, j ≤ 14 ∧ o = .int .u32 (kindsTo op mask j) ∧ i = .int .i64 j ∧ Below Wa.heap.size Wa wr) (fun _ i _ => 14 - (intOf i).toNat)
  case atStart => exact ⟨0, by omega, rfl, rfl, Below.refl _ _⟩
  case round =>
    obtain ⟨j, hj, rfl, rfl, hbr⟩ := hrel
    have hmr := hma.later hbr
    have d1 : wr.cell? ⟨w2.heap.size, 1, none⟩ = some (.func (.func G) #[] cp) := hmr.cell 1 rfl
    by_cases hlt : j < 14
    · have e0 : decide ((j : Int) < 14) = true := by simp; omega
      have HC := Lib.hid (HGG.out j (by omega) wr (hba.trans (hbr.mono hba.size)))
      obtain ⟨q, hq⟩ : ∃ q, inSet mask j = q := ⟨_, rfl⟩
      have hk : kindsTo op mask (j + 1) = if q = true then bits .or .u32 (kindsTo op mask j) (outK op j) else kindsTo op mask j := by rw [← hq]; rfl
      unfold inSet at hq
      cases q
      · go_wp2_with fail
        go_roundw
        case rel => exact ⟨j + 1, by omega, by rw [hk]; rfl, by go_num, hbr⟩
        case measure => simp [intOf]; omega
      · go_wp2_with fail
        refine (HC.out).mono ?_
        rintro e w3 ⟨rfl, hb3⟩
        dsimp only
        go_wp2_with fail
        go_roundw
        case rel => exact ⟨j + 1, by omega, by rw [hk]; rfl, by go_num, hbr.trans (hb3.mono hbr.size)⟩
        case measure => simp [intOf]; omega
    · obtain rfl : j = 14 := by omega
      go_wp2_with fail
      go_ret
      exact ⟨rfl, hbwa.trans (hbr.mono hbwa.size)⟩

end Go.Proofs.YtecdniimikfbhaaGreat
