/- CapsEmbeds, the tied card: whatever the input, the law returns true, and each argument reads behind the call as it read before; the listed variables hold what the program's text lays. -/
import Derived.Test.YthkipihakiopnaaDoorC10
import Derived.Test.YthkipihakiopnaaDoorRow
import Derived.Test.YthkipihakiopnaaDoorTie
import Derived.Test.YthkipihakiopnaaDoorCards
import Derived.SevenTiedAt
namespace Go.Proofs.YthkipihakiopnaaDoor.Embeds
open Go.ChangeShapes Go.WideShapes Go.ChangeAt Go.RowKit LawKit

theorem met (os : Os) (args : Array Value) : laidMetH Tryd.prog Rows.capsEmbedsRow.laid ((World.laidAll Tryd.prog os Rows.capsEmbedsRow.laid).forCall (fun _ _ => 0) ⟨#[], args, []⟩).memory := by
  rw [MakeChecks.laidMetH_plain _ _ _ (by kernel_rfl)]
  exact laidMet_laidAll _ (by kernel_rfl) (by kernel_rfl)

theorem u32_bounds {z : Int} (h : (Lit.int .u32 z).wf = true) : 0 ≤ z ∧ z < 4294967296 := by
  have h1 : IntKind.u32.min = 0 := rfl
  have h2 : IntKind.u32.max = 4294967295 := rfl
  simp only [Lit.wf, Bool.and_eq_true, decide_eq_true_eq] at h
  omega

set_option maxRecDepth 100000 in
theorem lifted (os : Os) (started : os.Started) (H : Type) (enc : TypeId × Value → H) :
    ReturnsInHanded {} Tryd.checked os 4 .any (fun w args => (Rows.capsEmbedsSpec.pre enc Tryd.prog Tryd.f4 [] false w args ∧ laidMetH Tryd.prog Rows.capsEmbedsRow.laid w) ∧ sizedMet enc Tryd.prog Tryd.f4 (OpenSpec.ofChange Rows.capsEmbedsSpec) false w args)
      (Rows.capsEmbedsSpec.post enc Tryd.prog Tryd.f4 false true false false) := by
  refine lifted_both (C := Tryd.checked) (X := fun w => laidMetH Tryd.prog Rows.capsEmbedsRow.laid w) (fun _ _ hh h => h.of_heap hh) own started (by kernel_rfl) Tryd.func4
    (ChangeSpec.witness_shaped (enc := enc) (C := Tryd.checked) (os := os) (X := fun w _ => laidMetH Tryd.prog Rows.capsEmbedsRow.laid w) false (World.laidAll Tryd.prog os Rows.capsEmbedsRow.laid) #[.int .u32 0, .int .u32 0] 8 (World.laidAll_os _ _ _)
      (World.shaped_of_ZipB (by kernel_rfl) (by kernel_rfl)) (by kernel_rfl) (by kernel_rfl) (by kernel_rfl) (met os _)) ?_
  intro W base args ds gs before hval0 hW hL hsh
  have hval : ∀ (j : Nat) t v, Tryd.f4.params[j]? = some t → args[j]? = some v → Value.okWide Tryd.prog W .any base t v := hval0
  have hW' := hW
  obtain ⟨p, q, hA0, hV, rfl, _, _⟩ := hW
  have hA : DataW.TrodAll enc Tryd.prog W 0 (fun _ => true) true Tryd.f4.params.toList args.toList ds p := hA0
  rw [Tryd.params4] at hA hval
  obtain ⟨v0, v1, d0, d1, p0, p1, rfl, rfl, rfl, h0, h1⟩ := trodAll_two hA
  obtain ⟨rfl, rfl⟩ := trodVars_none hV
  obtain ⟨c, rfl, _, _, wc⟩ := open_int Tryd.underlying23 (hval 0 23 v0 rfl rfl) h0
  obtain ⟨d, rfl, _, _, wd⟩ := open_int Tryd.underlying23 (hval 1 23 v1 rfl rfl) h1
  have hg := gl_of hL (by kernel_rfl) (by simp [Rows.capsEmbedsRow]) hsh
  refine (law_embeds c d W (u32_bounds wc).1 (u32_bounds wc).2 (u32_bounds wd).1 (u32_bounds wd).2 hg).mono fun x W' ⟨he, hb⟩ => ?_
  subst he
  exact ⟨_, rfl, law_post laidOut (by kernel_rfl) (by intro n hn; cases hn) rfl Tryd.underlying4 hW' hb rfl rfl rfl⟩

theorem holds : Rows.CapsEmbedsSaid :=
  OpenClaim.holds_of_wide 4 Tryd.f4 rfl rfl rfl rfl rfl rfl rfl ⟨rfl, rfl, rfl, rfl, rfl⟩ rfl rfl rfl rfl rfl (by kernel_rfl) Tryd.func4 (by kernel_rfl)
    (of_decide_eq_true (by kernel_rfl)) (by unfold Func.isWrapper; first | (rw [if_pos (by decide +kernel)]; kernel_rfl) | (rw [if_neg (by decide +kernel)]; exact ⟨rfl, rfl⟩))
    (fun os started H enc _ => lifted os started H enc)

theorem proved : Rows.CapsEmbedsCardSaid :=
  Claim7.holds_tied_plain_at .later [] [.data, .data, .pinned] true (true, "1f768aecf7000b93650f9765cae648b2ae6777859bf8d22d1a0f4f29b10da919") false holds (fun _ h => by cases h) (by kernel_rfl) (fun _ h => by cases h) capsEmbeds_row_tie rfl ⟨rfl, rfl⟩ (by kernel_rfl) rfl
    (fun f fn hf hfn => by
      obtain rfl : f = 4 := Option.some.inj ((show Tryd.prog.funcNamed "conduit/conduitlaw05.CapsEmbeds" = some 4 by kernel_rfl).symm.trans hf) |>.symm
      obtain rfl : fn = Tryd.f4 := (Option.some.inj (Tryd.func4.symm.trans hfn)).symm
      exact ⟨by kernel_rfl, fun j t ht => by
        rw [Tryd.params4] at ht
        have hm : t ∈ [23, 23] := by simpa using Array.mem_of_getElem? ht
        have hall : ([23, 23].all fun u => !Tryd.prog.wantsStandIn u) = true := by kernel_rfl
        exact (show Tryd.prog.wantsStandIn t = false by simpa using List.all_eq_true.1 hall t hm)⟩)
    (by kernel_rfl)
#print axioms proved
end Go.Proofs.YthkipihakiopnaaDoor.Embeds
