/-
  DERIVED. GIVEN WITH THE SEED: THE CARDS: each row of YtecdniimikfbhaaGreatDoorRows.lean that lists a variable, with what it lists TIED to the program's text (the seventh form; the later family's looks); each row that meets fmt, with fmt's text TOLD by the authors' own Lean function (tested against real Go, not proved from fmt's source: count such statements apart). THE CARD IS WHAT COUNTS. Prove the row's statement (the work); the ties are given (YtecdniimikfbhaaGreatDoorTie.lean); close each card by the builder's one call (the guide's Derived/Test/ToyasCard.lean, 'card_holds'). Laid BY PROGRAM, IN A SANDBOX (cutbox-door.mjs). By AI agents, Wed Nov 11 2026. No macro, syntax, notation, axiom, sorry.
-/
import Derived.Test.YtecdniimikfbhaaGreatDoorRows
import GoSem.ClaimSeven
namespace Go.Proofs.YtecdniimikfbhaaGreatDoor
namespace Rows

/-- THE TIED CARD OF 'conduitlaw17.ShapeMaps'. -/
def shapeMapsCard : Claim7 := { stood := { row := shapeMapsRow, standIns := [], harness := (true, "de07a65af413c2dcd7dbd828e5436baf9527b868662e14a3a07d9ecf0a789622"), looks := true }, kinds := [], alts := [], laidByText := true, laidKinds := [.data, .data, .data], laidTests := true, laidLooks := .later }
def ShapeMapsCardSaid : Prop := Claim7.holds Tryz.pinned (.plain (OpenSpec.ofChange shapeMapsSpec)) shapeMapsCard

/-- THE TIED CARD OF 'conduitlaw17.ShapeRows'. -/
def shapeRowsCard : Claim7 := { stood := { row := shapeRowsRow, standIns := [], harness := (true, "de07a65af413c2dcd7dbd828e5436baf9527b868662e14a3a07d9ecf0a789622"), looks := true }, kinds := [], alts := [], laidByText := true, laidKinds := [.data, .data, .data], laidTests := true, laidLooks := .later }
def ShapeRowsCardSaid : Prop := Claim7.holds Tryz.pinned (.plain (OpenSpec.ofChange shapeRowsSpec)) shapeRowsCard

/-- THE SECOND FORM's CARD OF 'conduitlaw17.ShapeMaps'. -/
def shapeMapsUptoCard : Claim7 := { stood := { row := shapeMapsUptoRow, standIns := [], harness := (true, "de07a65af413c2dcd7dbd828e5436baf9527b868662e14a3a07d9ecf0a789622"), looks := true }, kinds := [], alts := [], laidByText := true, laidKinds := [.data, .data, .data], laidTests := true, laidLooks := .later }
def ShapeMapsUptoCardSaid : Prop := Claim7.holds Tryz.pinned (.plain (OpenSpec.upto shapeMapsSpec)) shapeMapsUptoCard

/-- THE SECOND FORM's CARD OF 'conduitlaw17.ShapeRows'. -/
def shapeRowsUptoCard : Claim7 := { stood := { row := shapeRowsUptoRow, standIns := [], harness := (true, "de07a65af413c2dcd7dbd828e5436baf9527b868662e14a3a07d9ecf0a789622"), looks := true }, kinds := [], alts := [], laidByText := true, laidKinds := [.data, .data, .data], laidTests := true, laidLooks := .later }
def ShapeRowsUptoCardSaid : Prop := Claim7.holds Tryz.pinned (.plain (OpenSpec.upto shapeRowsSpec)) shapeRowsUptoCard
end Rows
end Go.Proofs.YtecdniimikfbhaaGreatDoor
