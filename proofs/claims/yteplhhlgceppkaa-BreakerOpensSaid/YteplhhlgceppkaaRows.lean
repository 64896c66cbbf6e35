/-
  NARROWER THAN 'FOR EVERY INPUT', by the rows' own cells (each row's printed sentence says how): BreakerTells: loops · BreakerTurns: loops.
  DERIVED. THE GIVEN ROWS OF THIS SEAT. 3 by the template 'for every input the law returns true; each argument reads behind the call as it read before'; 0 by the template 'total and deterministic' (their statements: YteplhhlgceppkaaTotals.lean).
  GIVEN WITH THE SEED: the statements are not yours to turn. If you find one false, say at which input.
  Laid BY PROGRAM, IN A SANDBOX (cutbox-rows.mjs): the forced cells as the released guide's own fill.sh prints them over the translation 4eee53e5b29c02d9… (all of the seat's roots in one cut). By AI agents, Wed Nov 11 2026. No macro, syntax, notation, axiom, sorry.
-/
import Derived.Test.YteplhhlgceppkaaChecked
import GoSem.Claim
import GoSem.ClaimJoined
import GoSem.ClaimMapViews
import Derived.JoinedTies
import Derived.KernelRfl
namespace Go.Proofs.Yteplhhlgceppkaa
/- THE CELL 'sum', in the pinned program and in every row, IS THE sha256 OF THE DUMP (.gsa) THAT YteplhhlgceppkaaProg.lean LOADS. Nothing in Lean hashes anything: it is a label: what it is worth is what the hold of that sum in a sandbox is worth. -/
noncomputable def Try.pinned : Pinned := { name := "yteplhhlgceppkaa", sum := "4eee53e5b29c02d937ac962cb635051fd8329891a11cdab078bd447b8103cd6d", checked := Try.checked }
namespace Rows
def none {H : Type} : Left H := { results := [], args := [] }

/-- 'conduitlaw14.BreakerTells': WHATEVER THE INPUT: true; the input reads as it did. -/
def breakerTellsSpec : ChangeSpec := { name := "breakerTells", fn := fun _ => fun
  | [d1, d2, d3, d4, d5] => { results := [.lit (.bool true)], args := [d1, d2, d3, d4, d5] }
  | _ => none }
def breakerTellsRow : OpenClaim := { program := "yteplhhlgceppkaa", sum := "4eee53e5b29c02d937ac962cb635051fd8329891a11cdab078bd447b8103cd6d", func := "conduit/conduitlaw14.BreakerTells", spec := "breakerTells", unfollowed := true, recurses := true, loops := true, apart := false }
def BreakerTellsSaid : Prop := breakerTellsRow.holds Try.pinned (OpenSpec.ofChange breakerTellsSpec)

/-- ITS FALSE NEIGHBOUR: 'it returns false'. Refute it at one input. -/
def breakerTellsWrong : ChangeSpec := { name := "breakerTells", fn := fun _ => fun
  | [d1, d2, d3, d4, d5] => { results := [.lit (.bool false)], args := [d1, d2, d3, d4, d5] }
  | _ => none }
def BreakerTellsWrongFalsely : Prop := breakerTellsRow.holds Try.pinned (OpenSpec.ofChange breakerTellsWrong)

/-- 'conduitlaw14.BreakerTurns': WHATEVER THE INPUT: true; the input reads as it did. -/
def breakerTurnsSpec : ChangeSpec := { name := "breakerTurns", fn := fun _ => fun
  | [d1, d2, d3, d4, d5] => { results := [.lit (.bool true)], args := [d1, d2, d3, d4, d5] }
  | _ => none }
def breakerTurnsRow : OpenClaim := { program := "yteplhhlgceppkaa", sum := "4eee53e5b29c02d937ac962cb635051fd8329891a11cdab078bd447b8103cd6d", func := "conduit/conduitlaw14.BreakerTurns", spec := "breakerTurns", unfollowed := true, recurses := true, loops := true, apart := false }
def BreakerTurnsSaid : Prop := breakerTurnsRow.holds Try.pinned (OpenSpec.ofChange breakerTurnsSpec)

/-- ITS FALSE NEIGHBOUR: 'it returns false'. Refute it at one input. -/
def breakerTurnsWrong : ChangeSpec := { name := "breakerTurns", fn := fun _ => fun
  | [d1, d2, d3, d4, d5] => { results := [.lit (.bool false)], args := [d1, d2, d3, d4, d5] }
  | _ => none }
def BreakerTurnsWrongFalsely : Prop := breakerTurnsRow.holds Try.pinned (OpenSpec.ofChange breakerTurnsWrong)

/-- 'conduitlaw14.BreakerOpens': WHATEVER THE INPUT: true; the input reads as it did. -/
def breakerOpensSpec : ChangeSpec := { name := "breakerOpens", fn := fun _ => fun
  | [d1, d2, d3, d4, d5] => { results := [.lit (.bool true)], args := [d1, d2, d3, d4, d5] }
  | _ => none }
def breakerOpensRow : OpenClaim := { program := "yteplhhlgceppkaa", sum := "4eee53e5b29c02d937ac962cb635051fd8329891a11cdab078bd447b8103cd6d", func := "conduit/conduitlaw14.BreakerOpens", spec := "breakerOpens", unfollowed := true, recurses := true, apart := false }
def BreakerOpensSaid : Prop := breakerOpensRow.holds Try.pinned (OpenSpec.ofChange breakerOpensSpec)

/-- ITS FALSE NEIGHBOUR: 'it returns false'. Refute it at one input. -/
def breakerOpensWrong : ChangeSpec := { name := "breakerOpens", fn := fun _ => fun
  | [d1, d2, d3, d4, d5] => { results := [.lit (.bool false)], args := [d1, d2, d3, d4, d5] }
  | _ => none }
def BreakerOpensWrongFalsely : Prop := breakerOpensRow.holds Try.pinned (OpenSpec.ofChange breakerOpensWrong)

/- THE SECOND FORM. 'bulk': how many values and letters a reading holds, each counted each time it is reached (what is shared counts as often as it is met; a slice's spare places count too). A statement '..UptoSaid' is the law's where the arguments, and the package variables that the reading takes, are together of bulk at most 1048576: NARROWER than '..Said'. Prove '..Said' where nothing that the law and all that it calls make is longer than what came in: it says more and counts as full. Else prove '..UptoSaid'. A law counts once. -/
mutual
def uptoBulk {H : Type} : DataW H → Nat
  | .lit (.string bytes) => bytes.length + 1
  | .lit _ => 1
  | .nil => 1
  | .ptr d => uptoBulk d + 1
  | .slice elems spare => uptoBulkAll elems + uptoBulkAll spare + 1
  | .agg parts => uptoBulkAll parts + 1
  | .iface _ d => uptoBulk d + 1
  | .map entries => uptoBulkEntries entries + 1
  | .held _ => 1
def uptoBulkAll {H : Type} : List (DataW H) → Nat
  | [] => 0
  | d :: r => uptoBulk d + uptoBulkAll r
def uptoBulkEntries {H : Type} : List (Lit × DataW H) → Nat
  | [] => 0
  | x :: r => uptoBulkEntry x + uptoBulkEntries r
def uptoBulkEntry {H : Type} : Lit × DataW H → Nat
  | (.string bytes, d) => bytes.length + uptoBulk d + 1
  | (_, d) => uptoBulk d + 1
 end
def uptoSmall : (H : Type) → List (DataW H) → Bool := fun _ ds => decide (uptoBulkAll ds ≤ 1048576)
def OpenSpec.upto (s : _root_.Go.ChangeSpec) : _root_.Go.OpenSpec := { _root_.Go.OpenSpec.ofChange s with cond := some uptoSmall }

/-- 'conduitlaw14.BreakerTells', WHERE WHAT IT READS IS OF BULK AT MOST 1048576: true; the input reads as it did. -/
def breakerTellsUptoRow : OpenClaim := { program := "yteplhhlgceppkaa", sum := "4eee53e5b29c02d937ac962cb635051fd8329891a11cdab078bd447b8103cd6d", func := "conduit/conduitlaw14.BreakerTells", spec := "breakerTells", unfollowed := true, recurses := true, loops := true, apart := false, narrowed := true }
def BreakerTellsUptoSaid : Prop := breakerTellsUptoRow.holds Try.pinned (OpenSpec.upto breakerTellsSpec)

/-- 'conduitlaw14.BreakerTurns', WHERE WHAT IT READS IS OF BULK AT MOST 1048576: true; the input reads as it did. -/
def breakerTurnsUptoRow : OpenClaim := { program := "yteplhhlgceppkaa", sum := "4eee53e5b29c02d937ac962cb635051fd8329891a11cdab078bd447b8103cd6d", func := "conduit/conduitlaw14.BreakerTurns", spec := "breakerTurns", unfollowed := true, recurses := true, loops := true, apart := false, narrowed := true }
def BreakerTurnsUptoSaid : Prop := breakerTurnsUptoRow.holds Try.pinned (OpenSpec.upto breakerTurnsSpec)

/-- 'conduitlaw14.BreakerOpens', WHERE WHAT IT READS IS OF BULK AT MOST 1048576: true; the input reads as it did. -/
def breakerOpensUptoRow : OpenClaim := { program := "yteplhhlgceppkaa", sum := "4eee53e5b29c02d937ac962cb635051fd8329891a11cdab078bd447b8103cd6d", func := "conduit/conduitlaw14.BreakerOpens", spec := "breakerOpens", unfollowed := true, recurses := true, apart := false, narrowed := true }
def BreakerOpensUptoSaid : Prop := breakerOpensUptoRow.holds Try.pinned (OpenSpec.upto breakerOpensSpec)

end Rows
end Go.Proofs.Yteplhhlgceppkaa
