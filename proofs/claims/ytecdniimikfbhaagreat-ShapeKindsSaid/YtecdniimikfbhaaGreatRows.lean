/-
  NARROWER THAN 'FOR EVERY INPUT', by the rows' own cells (each row's printed sentence says how): ShapeKinds: loops · ShapePasses: loops.
  DERIVED. THE GIVEN ROWS OF THIS SEAT. 2 by the template 'for every input the law returns true; each argument reads behind the call as it read before'; 0 by the template 'total and deterministic' (their statements: YtecdniimikfbhaaGreatTotals.lean).
  GIVEN WITH THE SEED: the statements are not yours to turn. If you find one false, say at which input.
  Laid BY PROGRAM, IN A SANDBOX (cutbox-rows.mjs): the forced cells as the released guide's own fill.sh prints them over the translation a031d13e6342b971… (all of the seat's roots in one cut). By AI agents, Wed Nov 11 2026. No macro, syntax, notation, axiom, sorry.
-/
import Derived.Test.YtecdniimikfbhaaGreatChecked
import GoSem.Claim
import GoSem.ClaimJoined
import GoSem.ClaimMapViews
import Derived.JoinedTies
import Derived.KernelRfl
namespace Go.Proofs.YtecdniimikfbhaaGreat
/- THE CELL 'sum', in the pinned program and in every row, IS THE sha256 OF THE DUMP (.gsa) THAT YtecdniimikfbhaaGreatProg.lean LOADS. Nothing in Lean hashes anything: it is a label: what it is worth is what the hold of that sum in a sandbox is worth. -/
noncomputable def Tryz.pinned : Pinned := { name := "ytecdniimikfbhaagreat", sum := "a031d13e6342b971108c6d11f833b5d0f851728ac4a18f51746b2d0c3e1d1578", checked := Tryz.checked }
namespace Rows
def none {H : Type} : Left H := { results := [], args := [] }

/-- 'conduitlaw17.ShapeKinds': WHATEVER THE INPUT: true; the input reads as it did. -/
def shapeKindsSpec : ChangeSpec := { name := "shapeKinds", fn := fun _ => fun
  | [d1, d2, d3] => { results := [.lit (.bool true)], args := [d1, d2, d3] }
  | _ => none }
def shapeKindsRow : OpenClaim := { program := "ytecdniimikfbhaagreat", sum := "a031d13e6342b971108c6d11f833b5d0f851728ac4a18f51746b2d0c3e1d1578", func := "conduit/conduitlaw17.ShapeKinds", spec := "shapeKinds", inPlace := ["math.Float64frombits", "math.Float64bits"], unfollowed := true, recurses := true, loops := true, apart := false }
def ShapeKindsSaid : Prop := shapeKindsRow.holds Tryz.pinned (OpenSpec.ofChange shapeKindsSpec)

/-- ITS FALSE NEIGHBOUR: 'it returns false'. Refute it at one input. -/
def shapeKindsWrong : ChangeSpec := { name := "shapeKinds", fn := fun _ => fun
  | [d1, d2, d3] => { results := [.lit (.bool false)], args := [d1, d2, d3] }
  | _ => none }
def ShapeKindsWrongFalsely : Prop := shapeKindsRow.holds Tryz.pinned (OpenSpec.ofChange shapeKindsWrong)

/-- 'conduitlaw17.ShapePasses': WHATEVER THE INPUT: true; the input reads as it did. -/
def shapePassesSpec : ChangeSpec := { name := "shapePasses", fn := fun _ => fun
  | [d1, d2] => { results := [.lit (.bool true)], args := [d1, d2] }
  | _ => none }
def shapePassesRow : OpenClaim := { program := "ytecdniimikfbhaagreat", sum := "a031d13e6342b971108c6d11f833b5d0f851728ac4a18f51746b2d0c3e1d1578", func := "conduit/conduitlaw17.ShapePasses", spec := "shapePasses", inPlace := ["math.Float64frombits", "math.Float64bits"], unfollowed := true, recurses := true, loops := true, apart := false }
def ShapePassesSaid : Prop := shapePassesRow.holds Tryz.pinned (OpenSpec.ofChange shapePassesSpec)

/-- ITS FALSE NEIGHBOUR: 'it returns false'. Refute it at one input. -/
def shapePassesWrong : ChangeSpec := { name := "shapePasses", fn := fun _ => fun
  | [d1, d2] => { results := [.lit (.bool false)], args := [d1, d2] }
  | _ => none }
def ShapePassesWrongFalsely : Prop := shapePassesRow.holds Tryz.pinned (OpenSpec.ofChange shapePassesWrong)

/- THE SECOND FORM. 'bulk': how many values and letters a reading holds, each counted each time it is reached (what is shared counts as often as it is met; a slice's spare places count too). A statement '..UptoSaid' is the law's where the arguments, and the package variables that the reading takes, are together of bulk at most 1048576: NARROWER than '..Said'. Prove '..Said' where nothing that the law and all that it calls make is longer than what came in: it says more and counts as full. Else prove '..UptoSaid'. A law counts once. -/
mutual
def uptoBulk {H : Type} : DataW H → Nat
  | .lit (.string bytes) => bytes.length + 1
  | .lit _ => 1
  | .nil => 1
  | .ptr d => uptoBulk d + 1
  | .slice elems spare => uptoBulkAll elems + uptoBulkAll spare + 1
  | .agg parts => uptoBulkAll parts + 1
  | .iface _ d => uptoBulk d + 1
  | .map entries => uptoBulkEntries entries + 1
  | .held _ => 1
def uptoBulkAll {H : Type} : List (DataW H) → Nat
  | [] => 0
  | d :: r => uptoBulk d + uptoBulkAll r
def uptoBulkEntries {H : Type} : List (Lit × DataW H) → Nat
  | [] => 0
  | x :: r => uptoBulkEntry x + uptoBulkEntries r
def uptoBulkEntry {H : Type} : Lit × DataW H → Nat
  | (.string bytes, d) => bytes.length + uptoBulk d + 1
  | (_, d) => uptoBulk d + 1
 end
def uptoSmall : (H : Type) → List (DataW H) → Bool := fun _ ds => decide (uptoBulkAll ds ≤ 1048576)
def OpenSpec.upto (s : _root_.Go.ChangeSpec) : _root_.Go.OpenSpec := { _root_.Go.OpenSpec.ofChange s with cond := some uptoSmall }

/-- 'conduitlaw17.ShapeKinds', WHERE WHAT IT READS IS OF BULK AT MOST 1048576: true; the input reads as it did. -/
def shapeKindsUptoRow : OpenClaim := { program := "ytecdniimikfbhaagreat", sum := "a031d13e6342b971108c6d11f833b5d0f851728ac4a18f51746b2d0c3e1d1578", func := "conduit/conduitlaw17.ShapeKinds", spec := "shapeKinds", inPlace := ["math.Float64frombits", "math.Float64bits"], unfollowed := true, recurses := true, loops := true, apart := false, narrowed := true }
def ShapeKindsUptoSaid : Prop := shapeKindsUptoRow.holds Tryz.pinned (OpenSpec.upto shapeKindsSpec)

/-- 'conduitlaw17.ShapePasses', WHERE WHAT IT READS IS OF BULK AT MOST 1048576: true; the input reads as it did. -/
def shapePassesUptoRow : OpenClaim := { program := "ytecdniimikfbhaagreat", sum := "a031d13e6342b971108c6d11f833b5d0f851728ac4a18f51746b2d0c3e1d1578", func := "conduit/conduitlaw17.ShapePasses", spec := "shapePasses", inPlace := ["math.Float64frombits", "math.Float64bits"], unfollowed := true, recurses := true, loops := true, apart := false, narrowed := true }
def ShapePassesUptoSaid : Prop := shapePassesUptoRow.holds Tryz.pinned (OpenSpec.upto shapePassesSpec)

end Rows
end Go.Proofs.YtecdniimikfbhaaGreat
