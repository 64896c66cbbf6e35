/- What the listed rules give the walks. -/
import Derived.Test.YthkipihakiopnaaDoorRow
import Derived.Test.YthkipihakiopnaaDoorC6
namespace Go.Proofs.YthkipihakiopnaaDoor
open Go.ChangeShapes Go.WideShapes Go.ChangeAt Go.RowKit

theorem gRules : Tryd.prog.globalNamed "conduit/caps.rules" = some 1 := by kernel_rfl
theorem tRules : (Tryd.prog.globals[1]?).map (·.type) = some 62 := by kernel_rfl
theorem cells61 : Tryd.prog.cellsOf 61 = 2 := by kernel_rfl
theorem cells23 : Tryd.prog.cellsOf 23 = 1 := by kernel_rfl

theorem rule_cells {W : World} {cs : Array Value} {fuel i a b : Nat} {d : DataW Unit} {q : List MemPlace} {enc : TypeId × Value → Unit} {base : Nat} {sp : Nat → Bool} {held : Bool}
    (hE : DataW.trod enc Tryd.prog W base sp held fuel 61 ((cs.toList.drop (i * 2)).take 2) = some (d, q)) (hd : d = .agg [.lit (.int .u32 a), .lit (.int .u32 b)]) : cs[i * 2]? = some (.int .u32 a) ∧ cs[i * 2 + 1]? = some (.int .u32 b) := by
  subst hd
  have h := Lib.ints_of_struct (zs := [(a : Int), (b : Int)]) Tryd.underlying61 (fun j f hf => by
    match j, hf with
    | 0, hf => simp at hf; subst hf; exact ⟨Tryd.underlying23, rfl, cells23⟩
    | 1, hf => simp at hf; subst hf; exact ⟨Tryd.underlying23, rfl, cells23⟩
    | n + 2, hf => simp at hf) (by rw [cells61]; rfl) hE
  simp only [List.map_cons, List.map_nil] at h
  constructor
  · have := congrArg (·[0]?) h
    simpa [List.getElem?_take, List.getElem?_drop] using this
  · have := congrArg (·[1]?) h
    simpa [List.getElem?_take, List.getElem?_drop] using this

theorem rules_of {W : World} {laid : List (String × DataW Unit)} (h : laidMetH Tryd.prog laid W) (hp : (laid.all fun x => x.2.handleName?.isNone) = true) (hm : ("conduit/caps.rules", Rows.laid_conduit_caps_rules) ∈ laid) : Gr W := by
  rw [MakeChecks.laidMetH_plain _ _ _ hp] at h
  obtain ⟨g, t, cs, fuel, p, h1, h2, h3, h4⟩ := Lib.laidMet.reads h hm
  obtain rfl := Option.some.inj (gRules.symm.trans h1)
  obtain rfl := Option.some.inj (tRules.symm.trans h2)
  have hc := fun j => World.var?_cell h1 h3 j
  obtain ⟨f0, d0, q0, hd0, hE0⟩ := Lib.array_elem Tryd.underlying62 h4 0 (by omega)
  rw [cells61] at hE0
  have e0 := rule_cells (i := 0) (a := 4) (b := 1) hE0 (Option.some.inj hd0).symm
  obtain ⟨f1, d1, q1, hd1, hE1⟩ := Lib.array_elem Tryd.underlying62 h4 1 (by omega)
  rw [cells61] at hE1
  have e1 := rule_cells (i := 1) (a := 128) (b := 64) hE1 (Option.some.inj hd1).symm
  obtain ⟨f2, d2, q2, hd2, hE2⟩ := Lib.array_elem Tryd.underlying62 h4 2 (by omega)
  rw [cells61] at hE2
  have e2 := rule_cells (i := 2) (a := 8) (b := 512) hE2 (Option.some.inj hd2).symm
  obtain ⟨f3, d3, q3, hd3, hE3⟩ := Lib.array_elem Tryd.underlying62 h4 3 (by omega)
  rw [cells61] at hE3
  have e3 := rule_cells (i := 3) (a := 32) (b := 16) hE3 (Option.some.inj hd3).symm
  exact ⟨(hc 0).trans e0.1, (hc 1).trans e0.2, (hc 2).trans e1.1, (hc 3).trans e1.2, (hc 4).trans e2.1, (hc 5).trans e2.2, (hc 6).trans e3.1, (hc 7).trans e3.2⟩
end Go.Proofs.YthkipihakiopnaaDoor
