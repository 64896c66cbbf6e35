/-
  DERIVED. GIVEN WITH THE SEED: THE CARDS: each row of YthkipihakiopnaaDoorRows.lean that lists a variable, with what it lists TIED to the program's text (the seventh form; the later family's looks); each row that meets fmt, with fmt's text TOLD by the authors' own Lean function (tested against real Go, not proved from fmt's source: count such statements apart). THE CARD IS WHAT COUNTS. Prove the row's statement (the work); the ties are given (YthkipihakiopnaaDoorTie.lean); close each card by the builder's one call (the guide's Derived/Test/ToyasCard.lean, 'card_holds'). Laid BY PROGRAM, IN A SANDBOX (cutbox-door.mjs). By AI agents, Wed Nov 11 2026. No macro, syntax, notation, axiom, sorry.
-/
import Derived.Test.YthkipihakiopnaaDoorRows
import GoSem.ClaimSeven
namespace Go.Proofs.YthkipihakiopnaaDoor
namespace Rows

/-- THE TIED CARD OF 'conduitlaw05.CapsGroups'. -/
def capsGroupsCard : Claim7 := { stood := { row := capsGroupsRow, standIns := [], harness := (true, "1f768aecf7000b93650f9765cae648b2ae6777859bf8d22d1a0f4f29b10da919"), looks := false }, kinds := [], alts := [], laidByText := true, laidKinds := [.data, .data, .pinned], laidTests := true, laidLooks := .later }
def CapsGroupsCardSaid : Prop := Claim7.holds Tryd.pinned (.plain (OpenSpec.ofChange capsGroupsSpec)) capsGroupsCard

/-- THE TIED CARD OF 'conduitlaw05.CapsEmbeds'. -/
def capsEmbedsCard : Claim7 := { stood := { row := capsEmbedsRow, standIns := [], harness := (true, "1f768aecf7000b93650f9765cae648b2ae6777859bf8d22d1a0f4f29b10da919"), looks := false }, kinds := [], alts := [], laidByText := true, laidKinds := [.data, .data, .pinned], laidTests := true, laidLooks := .later }
def CapsEmbedsCardSaid : Prop := Claim7.holds Tryd.pinned (.plain (OpenSpec.ofChange capsEmbedsSpec)) capsEmbedsCard

/-- THE TIED CARD OF 'conduitlaw05.CapsTexts'. -/
def capsTextsCard : Claim7 := { stood := { row := capsTextsRow, standIns := [], harness := (true, "1f768aecf7000b93650f9765cae648b2ae6777859bf8d22d1a0f4f29b10da919"), looks := false }, kinds := [], alts := [], laidByText := true, laidKinds := [.data, .data, .pinned], laidTests := true, laidLooks := .later }
def CapsTextsCardSaid : Prop := Claim7.holds Tryd.pinned (.plain (OpenSpec.ofChange capsTextsSpec)) capsTextsCard

/-- THE TIED CARD OF 'conduitlaw05.CapsFixes'. -/
def capsFixesCard : Claim7 := { stood := { row := capsFixesRow, standIns := [], harness := (true, "1f768aecf7000b93650f9765cae648b2ae6777859bf8d22d1a0f4f29b10da919"), looks := false }, kinds := [], alts := [], laidByText := true, laidKinds := [.data, .data, .data, .pinned], laidTests := true, laidLooks := .later }
def CapsFixesCardSaid : Prop := Claim7.holds Tryd.pinned (.plain (OpenSpec.ofChange capsFixesSpec)) capsFixesCard

/-- THE TIED CARD OF 'conduitlaw05.CapsOrders'. -/
def capsOrdersCard : Claim7 := { stood := { row := capsOrdersRow, standIns := [], harness := (true, "1f768aecf7000b93650f9765cae648b2ae6777859bf8d22d1a0f4f29b10da919"), looks := false }, kinds := [], alts := [], laidByText := true, laidKinds := [.data, .data, .data, .pinned], laidTests := true, laidLooks := .later }
def CapsOrdersCardSaid : Prop := Claim7.holds Tryd.pinned (.plain (OpenSpec.ofChange capsOrdersSpec)) capsOrdersCard

/-- THE SECOND FORM's CARD OF 'conduitlaw05.CapsGroups'. -/
def capsGroupsUptoCard : Claim7 := { stood := { row := capsGroupsUptoRow, standIns := [], harness := (true, "1f768aecf7000b93650f9765cae648b2ae6777859bf8d22d1a0f4f29b10da919"), looks := false }, kinds := [], alts := [], laidByText := true, laidKinds := [.data, .data, .pinned], laidTests := true, laidLooks := .later }
def CapsGroupsUptoCardSaid : Prop := Claim7.holds Tryd.pinned (.plain (OpenSpec.upto capsGroupsSpec)) capsGroupsUptoCard

/-- THE SECOND FORM's CARD OF 'conduitlaw05.CapsEmbeds'. -/
def capsEmbedsUptoCard : Claim7 := { stood := { row := capsEmbedsUptoRow, standIns := [], harness := (true, "1f768aecf7000b93650f9765cae648b2ae6777859bf8d22d1a0f4f29b10da919"), looks := false }, kinds := [], alts := [], laidByText := true, laidKinds := [.data, .data, .pinned], laidTests := true, laidLooks := .later }
def CapsEmbedsUptoCardSaid : Prop := Claim7.holds Tryd.pinned (.plain (OpenSpec.upto capsEmbedsSpec)) capsEmbedsUptoCard

/-- THE SECOND FORM's CARD OF 'conduitlaw05.CapsTexts'. -/
def capsTextsUptoCard : Claim7 := { stood := { row := capsTextsUptoRow, standIns := [], harness := (true, "1f768aecf7000b93650f9765cae648b2ae6777859bf8d22d1a0f4f29b10da919"), looks := false }, kinds := [], alts := [], laidByText := true, laidKinds := [.data, .data, .pinned], laidTests := true, laidLooks := .later }
def CapsTextsUptoCardSaid : Prop := Claim7.holds Tryd.pinned (.plain (OpenSpec.upto capsTextsSpec)) capsTextsUptoCard

/-- THE SECOND FORM's CARD OF 'conduitlaw05.CapsFixes'. -/
def capsFixesUptoCard : Claim7 := { stood := { row := capsFixesUptoRow, standIns := [], harness := (true, "1f768aecf7000b93650f9765cae648b2ae6777859bf8d22d1a0f4f29b10da919"), looks := false }, kinds := [], alts := [], laidByText := true, laidKinds := [.data, .data, .data, .pinned], laidTests := true, laidLooks := .later }
def CapsFixesUptoCardSaid : Prop := Claim7.holds Tryd.pinned (.plain (OpenSpec.upto capsFixesSpec)) capsFixesUptoCard

/-- THE SECOND FORM's CARD OF 'conduitlaw05.CapsOrders'. -/
def capsOrdersUptoCard : Claim7 := { stood := { row := capsOrdersUptoRow, standIns := [], harness := (true, "1f768aecf7000b93650f9765cae648b2ae6777859bf8d22d1a0f4f29b10da919"), looks := false }, kinds := [], alts := [], laidByText := true, laidKinds := [.data, .data, .data, .pinned], laidTests := true, laidLooks := .later }
def CapsOrdersUptoCardSaid : Prop := Claim7.holds Tryd.pinned (.plain (OpenSpec.upto capsOrdersSpec)) capsOrdersUptoCard
end Rows
end Go.Proofs.YthkipihakiopnaaDoor
