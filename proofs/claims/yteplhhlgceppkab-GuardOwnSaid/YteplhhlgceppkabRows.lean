/-
  NARROWER THAN 'FOR EVERY INPUT', by the rows' own cells (each row's printed sentence says how): GuardTries: loops · GuardAsserts: loops · GuardOwn: loops.
  DERIVED. THE GIVEN ROWS OF THIS SEAT. 3 by the template 'for every input the law returns true; each argument reads behind the call as it read before'; 0 by the template 'total and deterministic' (their statements: YteplhhlgceppkabTotals.lean).
  GIVEN WITH THE SEED: the statements are not yours to turn. If you find one false, say at which input.
  Laid BY PROGRAM, IN A SANDBOX (cutbox-rows.mjs): the forced cells as the released guide's own fill.sh prints them over the translation e70381d20e758e20… (all of the seat's roots in one cut). By AI agents, Wed Nov 11 2026. No macro, syntax, notation, axiom, sorry.
-/
import Derived.Test.YteplhhlgceppkabChecked
import GoSem.Claim
import GoSem.ClaimJoined
import GoSem.ClaimMapViews
import Derived.JoinedTies
import Derived.KernelRfl
namespace Go.Proofs.Yteplhhlgceppkab
/- THE CELL 'sum', in the pinned program and in every row, IS THE sha256 OF THE DUMP (.gsa) THAT YteplhhlgceppkabProg.lean LOADS. Nothing in Lean hashes anything: it is a label: what it is worth is what the hold of that sum in a sandbox is worth. -/
noncomputable def Try.pinned : Pinned := { name := "yteplhhlgceppkab", sum := "e70381d20e758e20c2d9b17d0221ffc3a7a1d107fa5f4e329aa97966df09474f", checked := Try.checked }
namespace Rows
def none {H : Type} : Left H := { results := [], args := [] }

/-- 'conduitlaw11.GuardTries': WHATEVER THE INPUT: true; the input reads as it did. -/
def guardTriesSpec : ChangeSpec := { name := "guardTries", fn := fun _ => fun
  | [d] => { results := [.lit (.bool true)], args := [d] }
  | _ => none }
def guardTriesRow : OpenClaim := { program := "yteplhhlgceppkab", sum := "e70381d20e758e20c2d9b17d0221ffc3a7a1d107fa5f4e329aa97966df09474f", func := "conduit/conduitlaw11.GuardTries", spec := "guardTries", inPlace := ["math.Float64frombits"], unfollowed := true, recurses := true, loops := true, apart := false }
def GuardTriesSaid : Prop := guardTriesRow.holds Try.pinned (OpenSpec.ofChange guardTriesSpec)

/-- ITS FALSE NEIGHBOUR: 'it returns false'. Refute it at one input. -/
def guardTriesWrong : ChangeSpec := { name := "guardTries", fn := fun _ => fun
  | [d] => { results := [.lit (.bool false)], args := [d] }
  | _ => none }
def GuardTriesWrongFalsely : Prop := guardTriesRow.holds Try.pinned (OpenSpec.ofChange guardTriesWrong)

/-- 'conduitlaw11.GuardAsserts': WHATEVER THE INPUT: true; the input reads as it did. -/
def guardAssertsSpec : ChangeSpec := { name := "guardAsserts", fn := fun _ => fun
  | [d1, d2] => { results := [.lit (.bool true)], args := [d1, d2] }
  | _ => none }
def guardAssertsRow : OpenClaim := { program := "yteplhhlgceppkab", sum := "e70381d20e758e20c2d9b17d0221ffc3a7a1d107fa5f4e329aa97966df09474f", func := "conduit/conduitlaw11.GuardAsserts", spec := "guardAsserts", inPlace := ["math.Float64frombits"], unfollowed := true, recurses := true, loops := true, apart := false }
def GuardAssertsSaid : Prop := guardAssertsRow.holds Try.pinned (OpenSpec.ofChange guardAssertsSpec)

/-- ITS FALSE NEIGHBOUR: 'it returns false'. Refute it at one input. -/
def guardAssertsWrong : ChangeSpec := { name := "guardAsserts", fn := fun _ => fun
  | [d1, d2] => { results := [.lit (.bool false)], args := [d1, d2] }
  | _ => none }
def GuardAssertsWrongFalsely : Prop := guardAssertsRow.holds Try.pinned (OpenSpec.ofChange guardAssertsWrong)

/-- 'conduitlaw11.GuardOwn': WHATEVER THE INPUT: true; the input reads as it did. -/
def guardOwnSpec : ChangeSpec := { name := "guardOwn", fn := fun _ => fun
  | [d] => { results := [.lit (.bool true)], args := [d] }
  | _ => none }
def guardOwnRow : OpenClaim := { program := "yteplhhlgceppkab", sum := "e70381d20e758e20c2d9b17d0221ffc3a7a1d107fa5f4e329aa97966df09474f", func := "conduit/conduitlaw11.GuardOwn", spec := "guardOwn", inPlace := ["math.Float64frombits"], unfollowed := true, recurses := true, loops := true, apart := false }
def GuardOwnSaid : Prop := guardOwnRow.holds Try.pinned (OpenSpec.ofChange guardOwnSpec)

/-- ITS FALSE NEIGHBOUR: 'it returns false'. Refute it at one input. -/
def guardOwnWrong : ChangeSpec := { name := "guardOwn", fn := fun _ => fun
  | [d] => { results := [.lit (.bool false)], args := [d] }
  | _ => none }
def GuardOwnWrongFalsely : Prop := guardOwnRow.holds Try.pinned (OpenSpec.ofChange guardOwnWrong)

/- THE SECOND FORM. 'bulk': how many values and letters a reading holds, each counted each time it is reached (what is shared counts as often as it is met; a slice's spare places count too). A statement '..UptoSaid' is the law's where the arguments, and the package variables that the reading takes, are together of bulk at most 1048576: NARROWER than '..Said'. Prove '..Said' where nothing that the law and all that it calls make is longer than what came in: it says more and counts as full. Else prove '..UptoSaid'. A law counts once. -/
mutual
def uptoBulk {H : Type} : DataW H → Nat
  | .lit (.string bytes) => bytes.length + 1
  | .lit _ => 1
  | .nil => 1
  | .ptr d => uptoBulk d + 1
  | .slice elems spare => uptoBulkAll elems + uptoBulkAll spare + 1
  | .agg parts => uptoBulkAll parts + 1
  | .iface _ d => uptoBulk d + 1
  | .map entries => uptoBulkEntries entries + 1
  | .held _ => 1
def uptoBulkAll {H : Type} : List (DataW H) → Nat
  | [] => 0
  | d :: r => uptoBulk d + uptoBulkAll r
def uptoBulkEntries {H : Type} : List (Lit × DataW H) → Nat
  | [] => 0
  | x :: r => uptoBulkEntry x + uptoBulkEntries r
def uptoBulkEntry {H : Type} : Lit × DataW H → Nat
  | (.string bytes, d) => bytes.length + uptoBulk d + 1
  | (_, d) => uptoBulk d + 1
 end
def uptoSmall : (H : Type) → List (DataW H) → Bool := fun _ ds => decide (uptoBulkAll ds ≤ 1048576)
def OpenSpec.upto (s : _root_.Go.ChangeSpec) : _root_.Go.OpenSpec := { _root_.Go.OpenSpec.ofChange s with cond := some uptoSmall }

/-- 'conduitlaw11.GuardTries', WHERE WHAT IT READS IS OF BULK AT MOST 1048576: true; the input reads as it did. -/
def guardTriesUptoRow : OpenClaim := { program := "yteplhhlgceppkab", sum := "e70381d20e758e20c2d9b17d0221ffc3a7a1d107fa5f4e329aa97966df09474f", func := "conduit/conduitlaw11.GuardTries", spec := "guardTries", inPlace := ["math.Float64frombits"], unfollowed := true, recurses := true, loops := true, apart := false, narrowed := true }
def GuardTriesUptoSaid : Prop := guardTriesUptoRow.holds Try.pinned (OpenSpec.upto guardTriesSpec)

/-- 'conduitlaw11.GuardAsserts', WHERE WHAT IT READS IS OF BULK AT MOST 1048576: true; the input reads as it did. -/
def guardAssertsUptoRow : OpenClaim := { program := "yteplhhlgceppkab", sum := "e70381d20e758e20c2d9b17d0221ffc3a7a1d107fa5f4e329aa97966df09474f", func := "conduit/conduitlaw11.GuardAsserts", spec := "guardAsserts", inPlace := ["math.Float64frombits"], unfollowed := true, recurses := true, loops := true, apart := false, narrowed := true }
def GuardAssertsUptoSaid : Prop := guardAssertsUptoRow.holds Try.pinned (OpenSpec.upto guardAssertsSpec)

/-- 'conduitlaw11.GuardOwn', WHERE WHAT IT READS IS OF BULK AT MOST 1048576: true; the input reads as it did. -/
def guardOwnUptoRow : OpenClaim := { program := "yteplhhlgceppkab", sum := "e70381d20e758e20c2d9b17d0221ffc3a7a1d107fa5f4e329aa97966df09474f", func := "conduit/conduitlaw11.GuardOwn", spec := "guardOwn", inPlace := ["math.Float64frombits"], unfollowed := true, recurses := true, loops := true, apart := false, narrowed := true }
def GuardOwnUptoSaid : Prop := guardOwnUptoRow.holds Try.pinned (OpenSpec.upto guardOwnSpec)

end Rows
end Go.Proofs.Yteplhhlgceppkab
