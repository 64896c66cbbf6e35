/- ShapeRows, the tied card: whatever the input, the law returns true, and each argument reads behind the call as it read before; the listed variables hold what the program's text lays. -/
import Derived.Test.YtecdniimikfbhaaGreatDoorOpen
import Derived.Test.YtecdniimikfbhaaGreatDoorRow
import Derived.Test.YtecdniimikfbhaaGreatDoorTie
import Derived.Test.YtecdniimikfbhaaGreatDoorCards
import Derived.SevenTiedAt
import Derived.ChangeMaps5
namespace Go.Proofs.YtecdniimikfbhaaGreatDoor.RowsC
open Go.ChangeShapes Go.WideShapes Go.ChangeAt Go.RowKit LawKit

theorem met (os : Os) (args : Array Value) : laidMetH Tryz.prog Rows.shapeRowsRow.laid ((World.laidAll Tryz.prog os Rows.shapeRowsRow.laid).forCall (fun _ _ => 0) ⟨#[], args, []⟩).memory := by
  rw [MakeChecks.laidMetH_plain _ _ _ (by kernel_rfl)]
  exact laidMet_laidAll _ (by kernel_rfl) (by kernel_rfl)

set_option maxRecDepth 100000 in
theorem lifted (os : Os) (started : os.Started) (H : Type) (enc : TypeId × Value → H) :
    ReturnsInHanded {} Tryz.checked os 4 .any (fun w args => (Rows.shapeRowsSpec.pre enc Tryz.prog Tryz.f4 [] false w args ∧ laidMetH Tryz.prog Rows.shapeRowsRow.laid w) ∧ sizedMet enc Tryz.prog Tryz.f4 (OpenSpec.ofChange Rows.shapeRowsSpec) false w args)
      (Rows.shapeRowsSpec.post enc Tryz.prog Tryz.f4 false true false false) := by
  refine lifted_both (C := Tryz.checked) (X := fun w => laidMetH Tryz.prog Rows.shapeRowsRow.laid w) (fun _ _ hh h => h.of_heap hh) own started (by kernel_rfl) Tryz.func4
    (ChangeSpec.witness_shaped (enc := enc) (C := Tryz.checked) (os := os) (X := fun w _ => laidMetH Tryz.prog Rows.shapeRowsRow.laid w) false (World.laidAll Tryz.prog os Rows.shapeRowsRow.laid) #[.slice none 0 0, .slice none 0 0, .string ⟨#[]⟩, .agg #[.int .i64 0, .int .i64 0, .int .u64 0, .string ⟨#[]⟩, .slice none 0 0]] 8 (World.laidAll_os _ _ _)
      (World.shaped_of_ZipB (by kernel_rfl) (by kernel_rfl)) (by kernel_rfl) (by kernel_rfl) (by kernel_rfl) (met os _)) ?_
  intro W base args ds gs before W0 hW0 hsz hval0 hW hL hsh
  have hval : ∀ (j : Nat) t v, Tryz.f4.params[j]? = some t → args[j]? = some v → Value.okWide Tryz.prog W .any base t v := hval0
  have hW' := hW
  obtain ⟨p, q, hA0, hV, rfl, _, _⟩ := hW
  have hA : DataW.TrodAll enc Tryz.prog W 0 (fun _ => true) true Tryz.f4.params.toList args.toList ds p := hA0
  rw [Tryz.params4] at hA hval
  obtain ⟨v0, vs0, d0, ds0, p0, q0, hargs, rfl, rfl, h0, r0⟩ := trodAll_cons hA
  obtain ⟨v1, vs1, d1, ds1, p1, q1, rfl, rfl, rfl, h1, r1⟩ := trodAll_cons r0
  obtain ⟨v2, vs2, d2, ds2, p2, q2, rfl, rfl, rfl, h2, r2⟩ := trodAll_cons r1
  obtain ⟨v3, vs3, d3, ds3, p3, q3, rfl, rfl, rfl, h3, r3⟩ := trodAll_cons r2
  obtain ⟨rfl, rfl, rfl⟩ := trodAll_nil r3
  obtain rfl : args = #[v0, v1, v2, v3] := by cases args; simp_all
  obtain ⟨rfl, rfl⟩ := trodVars_none hV
  have hwt := sizedMet.weights hsz (DataW.Whole.of_heap (w' := W0) hW0.symm hW')
  rw [Tryz.params4] at hwt
  obtain ⟨a0, l0, c0, rfl⟩ := okWide_slice Tryz.underlying38 (hval 0 38 v0 rfl rfl)
  obtain ⟨a1, l1, c1, rfl⟩ := okWide_slice Tryz.underlying38 (hval 1 38 v1 rfl rfl)
  obtain ⟨ops, hI, hT0⟩ := open_slice h0
  obtain ⟨more, hJ, hT1⟩ := open_slice h1
  obtain ⟨tp, rfl, _, _, htp⟩ := Go.ChangeMaps.open_string Tryz.underlying9 (hval 2 9 v2 rfl rfl) h2
  obtain ⟨y, hy⟩ := open_datum (hval 3 25 v3 rfl rfl) h3
  obtain ⟨k, m, b, t, a, cap, g, o, c, kids, rfl, rfl, _⟩ := hy.inv
  have hlen : ops.length + more.length ≤ 9223372036854775807 := by
    have x0 := len_small (j := 0) hwt rfl rfl hT0
    have x1 := len_small (j := 1) hwt rfl rfl hT1
    omega
  clear hwt hsz hW0
  have ht := tab_of hL (by kernel_rfl) (by simp [Rows.shapeRowsRow])
  clear hA0 hval0 hA
  refine (rowslaw_any hI hJ hlen tp htp hy ht).mono fun x W' ⟨he, hb⟩ => ?_
  subst he
  exact ⟨_, rfl, law_post laidOut (by kernel_rfl) (by intro n hn; cases hn) rfl Tryz.underlying4 hW' hb rfl rfl rfl⟩

theorem holds : Rows.ShapeRowsSaid :=
  OpenClaim.holds_of_wide 4 Tryz.f4 rfl rfl rfl rfl rfl rfl rfl ⟨rfl, rfl, rfl, rfl, rfl⟩ rfl rfl rfl rfl rfl (by kernel_rfl) Tryz.func4 (by kernel_rfl)
    (of_decide_eq_true (by kernel_rfl)) (by unfold Func.isWrapper; first | (rw [if_pos (by decide +kernel)]; kernel_rfl) | (rw [if_neg (by decide +kernel)]; exact ⟨rfl, rfl⟩))
    (fun os started H enc _ => lifted os started H enc)

theorem proved : Rows.ShapeRowsCardSaid :=
  Claim7.holds_tied_plain_at .later [] [.data, .data, .data] true (true, "de07a65af413c2dcd7dbd828e5436baf9527b868662e14a3a07d9ecf0a789622") true holds (fun _ h => by cases h) (by kernel_rfl) (fun _ h => by cases h) shapeRows_row_tie rfl ⟨rfl, rfl⟩ (by kernel_rfl) rfl
    (fun f fn hf hfn => by
      obtain rfl : f = 4 := Option.some.inj ((show Tryz.prog.funcNamed "conduit/conduitlaw17.ShapeRows" = some 4 by kernel_rfl).symm.trans hf) |>.symm
      obtain rfl : fn = Tryz.f4 := (Option.some.inj (Tryz.func4.symm.trans hfn)).symm
      exact ⟨by kernel_rfl, fun j t ht => by
        rw [Tryz.params4] at ht
        have hm : t ∈ [38, 38, 9, 25] := by simpa using Array.mem_of_getElem? ht
        have hall : ([38, 38, 9, 25].all fun u => !Tryz.prog.wantsStandIn u) = true := by kernel_rfl
        exact (show Tryz.prog.wantsStandIn t = false by simpa using List.all_eq_true.1 hall t hm)⟩)
    (by kernel_rfl)
#print axioms proved
end Go.Proofs.YtecdniimikfbhaaGreatDoor.RowsC
