/- ShapeMaps, the tied card: whatever the input, the law returns true, and each argument reads behind the call as it read before; the listed variables hold what the program's text lays. -/
import Derived.Test.YtecdniimikfbhaaGreatDoorD8
import Derived.Test.YtecdniimikfbhaaGreatDoorRow
import Derived.Test.YtecdniimikfbhaaGreatDoorTie
import Derived.Test.YtecdniimikfbhaaGreatDoorCards
import Derived.SevenTiedAt
import Derived.ChangeMaps5
namespace Go.Proofs.YtecdniimikfbhaaGreatDoor.Maps
open Go.ChangeShapes Go.WideShapes Go.ChangeAt Go.RowKit LawKit

theorem met (os : Os) (args : Array Value) : laidMetH Tryz.prog Rows.shapeMapsRow.laid ((World.laidAll Tryz.prog os Rows.shapeMapsRow.laid).forCall (fun _ _ => 0) ⟨#[], args, []⟩).memory := by
  rw [MakeChecks.laidMetH_plain _ _ _ (by kernel_rfl)]
  exact laidMet_laidAll _ (by kernel_rfl) (by kernel_rfl)

set_option maxRecDepth 100000 in
theorem lifted (os : Os) (started : os.Started) (H : Type) (enc : TypeId × Value → H) :
    ReturnsInHanded {} Tryz.checked os 3 .any (fun w args => (Rows.shapeMapsSpec.pre enc Tryz.prog Tryz.f3 [] false w args ∧ laidMetH Tryz.prog Rows.shapeMapsRow.laid w) ∧ sizedMet enc Tryz.prog Tryz.f3 (OpenSpec.ofChange Rows.shapeMapsSpec) false w args)
      (Rows.shapeMapsSpec.post enc Tryz.prog Tryz.f3 false true false false) := by
  refine lifted_both (C := Tryz.checked) (X := fun w => laidMetH Tryz.prog Rows.shapeMapsRow.laid w) (fun _ _ hh h => h.of_heap hh) own started (by kernel_rfl) Tryz.func3
    (ChangeSpec.witness_shaped (enc := enc) (C := Tryz.checked) (os := os) (X := fun w _ => laidMetH Tryz.prog Rows.shapeMapsRow.laid w) false (World.laidAll Tryz.prog os Rows.shapeMapsRow.laid) #[.int .i64 0, .string ⟨#[]⟩, .agg #[.int .i64 0, .int .i64 0, .int .u64 0, .string ⟨#[]⟩, .slice none 0 0]] 8 (World.laidAll_os _ _ _)
      (World.shaped_of_ZipB (by kernel_rfl) (by kernel_rfl)) (by kernel_rfl) (by kernel_rfl) (by kernel_rfl) (met os _)) ?_
  intro W base args ds gs before W0 hW0 hsz hval0 hW hL hsh
  have hval : ∀ (j : Nat) t v, Tryz.f3.params[j]? = some t → args[j]? = some v → Value.okWide Tryz.prog W .any base t v := hval0
  have hW' := hW
  obtain ⟨p, q, hA0, hV, rfl, _, _⟩ := hW
  have hA : DataW.TrodAll enc Tryz.prog W 0 (fun _ => true) true Tryz.f3.params.toList args.toList ds p := hA0
  rw [Tryz.params3] at hA hval
  obtain ⟨v0, v1, v2, d0, d1, d2, p0, p1, p2, rfl, rfl, rfl, h0, h1, h2⟩ := trodAll_three hA
  obtain ⟨rfl, rfl⟩ := trodVars_none hV
  obtain ⟨op, rfl, _, _, _⟩ := open_int Tryz.underlying3 (hval 0 3 v0 rfl rfl) h0
  obtain ⟨tp, rfl, _, _, htp⟩ := Go.ChangeMaps.open_string Tryz.underlying9 (hval 1 9 v1 rfl rfl) h1
  obtain ⟨y, hy⟩ := open_datum (hval 2 25 v2 rfl rfl) h2
  obtain ⟨k, m, b, t, a, cap, g, o, c, kids, rfl, rfl, _⟩ := hy.inv
  have ht := tab_of hL (by kernel_rfl) (by simp [Rows.shapeMapsRow])
  clear hA0 hval0 hA
  refine (mapslaw_any op tp htp hy ht).mono fun x W' ⟨he, hb⟩ => ?_
  subst he
  exact ⟨_, rfl, law_post laidOut (by kernel_rfl) (by intro n hn; cases hn) rfl Tryz.underlying4 hW' hb rfl rfl rfl⟩

theorem holds : Rows.ShapeMapsSaid :=
  OpenClaim.holds_of_wide 3 Tryz.f3 rfl rfl rfl rfl rfl rfl rfl ⟨rfl, rfl, rfl, rfl, rfl⟩ rfl rfl rfl rfl rfl (by kernel_rfl) Tryz.func3 (by kernel_rfl)
    (of_decide_eq_true (by kernel_rfl)) (by unfold Func.isWrapper; first | (rw [if_pos (by decide +kernel)]; kernel_rfl) | (rw [if_neg (by decide +kernel)]; exact ⟨rfl, rfl⟩))
    (fun os started H enc _ => lifted os started H enc)

theorem proved : Rows.ShapeMapsCardSaid :=
  Claim7.holds_tied_plain_at .later [] [.data, .data, .data] true (true, "de07a65af413c2dcd7dbd828e5436baf9527b868662e14a3a07d9ecf0a789622") true holds (fun _ h => by cases h) (by kernel_rfl) (fun _ h => by cases h) shapeMaps_row_tie rfl ⟨rfl, rfl⟩ (by kernel_rfl) rfl
    (fun f fn hf hfn => by
      obtain rfl : f = 3 := Option.some.inj ((show Tryz.prog.funcNamed "conduit/conduitlaw17.ShapeMaps" = some 3 by kernel_rfl).symm.trans hf) |>.symm
      obtain rfl : fn = Tryz.f3 := (Option.some.inj (Tryz.func3.symm.trans hfn)).symm
      exact ⟨by kernel_rfl, fun j t ht => by
        rw [Tryz.params3] at ht
        have hm : t ∈ [3, 9, 25] := by simpa using Array.mem_of_getElem? ht
        have hall : ([3, 9, 25].all fun u => !Tryz.prog.wantsStandIn u) = true := by kernel_rfl
        exact (show Tryz.prog.wantsStandIn t = false by simpa using List.all_eq_true.1 hall t hm)⟩)
    (by kernel_rfl)
#print axioms proved
end Go.Proofs.YtecdniimikfbhaaGreatDoor.Maps
