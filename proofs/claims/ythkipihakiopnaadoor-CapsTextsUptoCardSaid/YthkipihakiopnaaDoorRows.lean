/-
  NARROWER THAN 'FOR EVERY INPUT', by the rows' own cells (each row's printed sentence says how): CapsGroups: laid · CapsEmbeds: laid · CapsTexts: laid · CapsFixes: laid · CapsOrders: laid.
  DERIVED. THE GIVEN ROWS OF THIS SEAT. 5 by the template 'for every input the law returns true; each argument reads behind the call as it read before'; 0 by the template 'total and deterministic' (their statements: YthkipihakiopnaaDoorTotals.lean).
  GIVEN WITH THE SEED: the statements are not yours to turn. If you find one false, say at which input.
  Laid BY PROGRAM, IN A SANDBOX (cutbox-rows.mjs): the forced cells as the released guide's own fill.sh prints them over the translation 1a18213cda5f2144… (all of the seat's roots in one cut). By AI agents, Wed Nov 11 2026. No macro, syntax, notation, axiom, sorry.
-/
import Derived.Test.YthkipihakiopnaaDoorChecked
import GoSem.PinnedTables
import GoSem.Claim
import GoSem.ClaimJoined
import GoSem.ClaimMapViews
import Derived.JoinedTies
import Derived.KernelRfl
namespace Go.Proofs.YthkipihakiopnaaDoor
/- THE CELL 'sum', in the pinned program and in every row, IS THE sha256 OF THE DUMP (.gsa) THAT YthkipihakiopnaaDoorProg.lean LOADS. Nothing in Lean hashes anything: it is a label: what it is worth is what the hold of that sum in a sandbox is worth. -/
noncomputable def Tryd.pinned : Pinned := { name := "ythkipihakiopnaadoor", sum := "1a18213cda5f21443c31edbf3d8c8815df87ff84920590b433713ca12329762b", checked := Tryd.checked }
namespace Rows
def none {H : Type} : Left H := { results := [], args := [] }

/- WHAT THE LISTED PACKAGE-LEVEL VARIABLES READ AS WHEN THE CALL BEGINS. Each datum BY PROGRAM (the guide's laid-datum.mjs) off the statement by which the dump's own 'gosem.cut.vars' lays the variable. In a bare row this is a premise. The card (YthkipihakiopnaaDoorCards.lean) ties it to the program's text. -/
def laid_unicode_utf8_acceptRanges {H : Type} : DataW H := .agg [.agg [.lit (.int .u8 128), .lit (.int .u8 191)], .agg [.lit (.int .u8 160), .lit (.int .u8 191)], .agg [.lit (.int .u8 128), .lit (.int .u8 159)], .agg [.lit (.int .u8 144), .lit (.int .u8 191)], .agg [.lit (.int .u8 128), .lit (.int .u8 143)], .agg [.lit (.int .u8 0), .lit (.int .u8 0)], .agg [.lit (.int .u8 0), .lit (.int .u8 0)], .agg [.lit (.int .u8 0), .lit (.int .u8 0)], .agg [.lit (.int .u8 0), .lit (.int .u8 0)], .agg [.lit (.int .u8 0), .lit (.int .u8 0)], .agg [.lit (.int .u8 0), .lit (.int .u8 0)], .agg [.lit (.int .u8 0), .lit (.int .u8 0)], .agg [.lit (.int .u8 0), .lit (.int .u8 0)], .agg [.lit (.int .u8 0), .lit (.int .u8 0)], .agg [.lit (.int .u8 0), .lit (.int .u8 0)], .agg [.lit (.int .u8 0), .lit (.int .u8 0)]]
def laid_conduit_caps_words {H : Type} : DataW H := .agg [.lit (.string [102, 108, 117, 115, 104]), .lit (.string [99, 108, 111, 115, 101]), .lit (.string [98, 97, 116, 99, 104]), .lit (.string [97, 99, 107]), .lit (.string [112, 105, 110, 103]), .lit (.string [114, 101, 115, 101, 116]), .lit (.string [115, 97, 118, 101]), .lit (.string [108, 111, 97, 100]), .lit (.string [110, 97, 109, 101]), .lit (.string [117, 110, 116, 105, 108]), .lit (.string [111, 112, 101, 110])]
/-- One of Go's own tables, pinned by name: the form's constant. -/
def laid_unicode_utf8_first : DataW Unit := Go.Pinned.utf8First
def laid_conduit_caps_rules {H : Type} : DataW H := .agg [.agg [.lit (.int .u32 4), .lit (.int .u32 1)], .agg [.lit (.int .u32 128), .lit (.int .u32 64)], .agg [.lit (.int .u32 8), .lit (.int .u32 512)], .agg [.lit (.int .u32 32), .lit (.int .u32 16)]]

/-- 'conduitlaw05.CapsGroups': WHATEVER THE INPUT: true; the input reads as it did. -/
def capsGroupsSpec : ChangeSpec := { name := "capsGroups", fn := fun _ => fun
  | [d1, d2] => { results := [.lit (.bool true)], args := [d1, d2] }
  | _ => none }
def capsGroupsRow : OpenClaim := { program := "ythkipihakiopnaadoor", sum := "1a18213cda5f21443c31edbf3d8c8815df87ff84920590b433713ca12329762b", func := "conduit/conduitlaw05.CapsGroups", spec := "capsGroups", inPlace := ["internal/bytealg.CountString", "internal/bytealg.IndexByteString", "internal/bytealg.IndexString", "internal/abi.NoEscape", "internal/bytealg.MakeNoZero"], recurses := true, named := ["unicode/utf8.first", "unicode/utf8.acceptRanges", "internal/bytealg.MaxLen", "conduit/caps.words"], apart := false, laid := [("unicode/utf8.acceptRanges", laid_unicode_utf8_acceptRanges), ("conduit/caps.words", laid_conduit_caps_words), ("unicode/utf8.first", laid_unicode_utf8_first)] }
def CapsGroupsSaid : Prop := capsGroupsRow.holds Tryd.pinned (OpenSpec.ofChange capsGroupsSpec)

/-- ITS FALSE NEIGHBOUR: 'it returns false'. Refute it at one input. -/
def capsGroupsWrong : ChangeSpec := { name := "capsGroups", fn := fun _ => fun
  | [d1, d2] => { results := [.lit (.bool false)], args := [d1, d2] }
  | _ => none }
def CapsGroupsWrongFalsely : Prop := capsGroupsRow.holds Tryd.pinned (OpenSpec.ofChange capsGroupsWrong)

/-- 'conduitlaw05.CapsEmbeds': WHATEVER THE INPUT: true; the input reads as it did. -/
def capsEmbedsSpec : ChangeSpec := { name := "capsEmbeds", fn := fun _ => fun
  | [d1, d2] => { results := [.lit (.bool true)], args := [d1, d2] }
  | _ => none }
def capsEmbedsRow : OpenClaim := { program := "ythkipihakiopnaadoor", sum := "1a18213cda5f21443c31edbf3d8c8815df87ff84920590b433713ca12329762b", func := "conduit/conduitlaw05.CapsEmbeds", spec := "capsEmbeds", inPlace := ["internal/bytealg.CountString", "internal/bytealg.IndexByteString", "internal/bytealg.IndexString", "internal/abi.NoEscape", "internal/bytealg.MakeNoZero"], named := ["unicode/utf8.first", "unicode/utf8.acceptRanges", "internal/bytealg.MaxLen", "conduit/caps.words"], apart := false, laid := [("unicode/utf8.acceptRanges", laid_unicode_utf8_acceptRanges), ("conduit/caps.words", laid_conduit_caps_words), ("unicode/utf8.first", laid_unicode_utf8_first)] }
def CapsEmbedsSaid : Prop := capsEmbedsRow.holds Tryd.pinned (OpenSpec.ofChange capsEmbedsSpec)

/-- ITS FALSE NEIGHBOUR: 'it returns false'. Refute it at one input. -/
def capsEmbedsWrong : ChangeSpec := { name := "capsEmbeds", fn := fun _ => fun
  | [d1, d2] => { results := [.lit (.bool false)], args := [d1, d2] }
  | _ => none }
def CapsEmbedsWrongFalsely : Prop := capsEmbedsRow.holds Tryd.pinned (OpenSpec.ofChange capsEmbedsWrong)

/-- 'conduitlaw05.CapsTexts': WHATEVER THE INPUT: true; the input reads as it did. -/
def capsTextsSpec : ChangeSpec := { name := "capsTexts", fn := fun _ => fun
  | [d1, d2, d3] => { results := [.lit (.bool true)], args := [d1, d2, d3] }
  | _ => none }
def capsTextsRow : OpenClaim := { program := "ythkipihakiopnaadoor", sum := "1a18213cda5f21443c31edbf3d8c8815df87ff84920590b433713ca12329762b", func := "conduit/conduitlaw05.CapsTexts", spec := "capsTexts", inPlace := ["internal/bytealg.CountString", "internal/bytealg.IndexByteString", "internal/bytealg.IndexString", "internal/abi.NoEscape", "internal/bytealg.MakeNoZero"], named := ["unicode/utf8.first", "unicode/utf8.acceptRanges", "internal/bytealg.MaxLen", "conduit/caps.words"], apart := false, laid := [("unicode/utf8.acceptRanges", laid_unicode_utf8_acceptRanges), ("conduit/caps.words", laid_conduit_caps_words), ("unicode/utf8.first", laid_unicode_utf8_first)] }
def CapsTextsSaid : Prop := capsTextsRow.holds Tryd.pinned (OpenSpec.ofChange capsTextsSpec)

/-- ITS FALSE NEIGHBOUR: 'it returns false'. Refute it at one input. -/
def capsTextsWrong : ChangeSpec := { name := "capsTexts", fn := fun _ => fun
  | [d1, d2, d3] => { results := [.lit (.bool false)], args := [d1, d2, d3] }
  | _ => none }
def CapsTextsWrongFalsely : Prop := capsTextsRow.holds Tryd.pinned (OpenSpec.ofChange capsTextsWrong)

/-- 'conduitlaw05.CapsFixes': WHATEVER THE INPUT: true; the input reads as it did. -/
def capsFixesSpec : ChangeSpec := { name := "capsFixes", fn := fun _ => fun
  | [d] => { results := [.lit (.bool true)], args := [d] }
  | _ => none }
def capsFixesRow : OpenClaim := { program := "ythkipihakiopnaadoor", sum := "1a18213cda5f21443c31edbf3d8c8815df87ff84920590b433713ca12329762b", func := "conduit/conduitlaw05.CapsFixes", spec := "capsFixes", inPlace := ["internal/bytealg.CountString", "internal/bytealg.IndexByteString", "internal/bytealg.IndexString", "internal/abi.NoEscape", "internal/bytealg.MakeNoZero"], named := ["conduit/caps.rules", "unicode/utf8.first", "unicode/utf8.acceptRanges", "internal/bytealg.MaxLen", "conduit/caps.words"], apart := false, laid := [("unicode/utf8.acceptRanges", laid_unicode_utf8_acceptRanges), ("conduit/caps.words", laid_conduit_caps_words), ("conduit/caps.rules", laid_conduit_caps_rules), ("unicode/utf8.first", laid_unicode_utf8_first)] }
def CapsFixesSaid : Prop := capsFixesRow.holds Tryd.pinned (OpenSpec.ofChange capsFixesSpec)

/-- ITS FALSE NEIGHBOUR: 'it returns false'. Refute it at one input. -/
def capsFixesWrong : ChangeSpec := { name := "capsFixes", fn := fun _ => fun
  | [d] => { results := [.lit (.bool false)], args := [d] }
  | _ => none }
def CapsFixesWrongFalsely : Prop := capsFixesRow.holds Tryd.pinned (OpenSpec.ofChange capsFixesWrong)

/-- 'conduitlaw05.CapsOrders': WHATEVER THE INPUT: true; the input reads as it did. -/
def capsOrdersSpec : ChangeSpec := { name := "capsOrders", fn := fun _ => fun
  | [d1, d2] => { results := [.lit (.bool true)], args := [d1, d2] }
  | _ => none }
def capsOrdersRow : OpenClaim := { program := "ythkipihakiopnaadoor", sum := "1a18213cda5f21443c31edbf3d8c8815df87ff84920590b433713ca12329762b", func := "conduit/conduitlaw05.CapsOrders", spec := "capsOrders", inPlace := ["internal/bytealg.CountString", "internal/bytealg.IndexByteString", "internal/bytealg.IndexString", "internal/abi.NoEscape", "internal/bytealg.MakeNoZero"], named := ["conduit/caps.rules", "unicode/utf8.first", "unicode/utf8.acceptRanges", "internal/bytealg.MaxLen", "conduit/caps.words"], apart := false, laid := [("unicode/utf8.acceptRanges", laid_unicode_utf8_acceptRanges), ("conduit/caps.words", laid_conduit_caps_words), ("conduit/caps.rules", laid_conduit_caps_rules), ("unicode/utf8.first", laid_unicode_utf8_first)] }
def CapsOrdersSaid : Prop := capsOrdersRow.holds Tryd.pinned (OpenSpec.ofChange capsOrdersSpec)

/-- ITS FALSE NEIGHBOUR: 'it returns false'. Refute it at one input. -/
def capsOrdersWrong : ChangeSpec := { name := "capsOrders", fn := fun _ => fun
  | [d1, d2] => { results := [.lit (.bool false)], args := [d1, d2] }
  | _ => none }
def CapsOrdersWrongFalsely : Prop := capsOrdersRow.holds Tryd.pinned (OpenSpec.ofChange capsOrdersWrong)

/- THE SECOND FORM. 'bulk': how many values and letters a reading holds, each counted each time it is reached (what is shared counts as often as it is met; a slice's spare places count too). A statement '..UptoSaid' is the law's where the arguments, and the package variables that the reading takes, are together of bulk at most 1048576: NARROWER than '..Said'. Prove '..Said' where nothing that the law and all that it calls make is longer than what came in: it says more and counts as full. Else prove '..UptoSaid'. A law counts once. -/
mutual
def uptoBulk {H : Type} : DataW H → Nat
  | .lit (.string bytes) => bytes.length + 1
  | .lit _ => 1
  | .nil => 1
  | .ptr d => uptoBulk d + 1
  | .slice elems spare => uptoBulkAll elems + uptoBulkAll spare + 1
  | .agg parts => uptoBulkAll parts + 1
  | .iface _ d => uptoBulk d + 1
  | .map entries => uptoBulkEntries entries + 1
  | .held _ => 1
def uptoBulkAll {H : Type} : List (DataW H) → Nat
  | [] => 0
  | d :: r => uptoBulk d + uptoBulkAll r
def uptoBulkEntries {H : Type} : List (Lit × DataW H) → Nat
  | [] => 0
  | x :: r => uptoBulkEntry x + uptoBulkEntries r
def uptoBulkEntry {H : Type} : Lit × DataW H → Nat
  | (.string bytes, d) => bytes.length + uptoBulk d + 1
  | (_, d) => uptoBulk d + 1
 end
def uptoSmall : (H : Type) → List (DataW H) → Bool := fun _ ds => decide (uptoBulkAll ds ≤ 1048576)
def OpenSpec.upto (s : _root_.Go.ChangeSpec) : _root_.Go.OpenSpec := { _root_.Go.OpenSpec.ofChange s with cond := some uptoSmall }

/-- 'conduitlaw05.CapsGroups', WHERE WHAT IT READS IS OF BULK AT MOST 1048576: true; the input reads as it did. -/
def capsGroupsUptoRow : OpenClaim := { program := "ythkipihakiopnaadoor", sum := "1a18213cda5f21443c31edbf3d8c8815df87ff84920590b433713ca12329762b", func := "conduit/conduitlaw05.CapsGroups", spec := "capsGroups", inPlace := ["internal/bytealg.CountString", "internal/bytealg.IndexByteString", "internal/bytealg.IndexString", "internal/abi.NoEscape", "internal/bytealg.MakeNoZero"], recurses := true, named := ["unicode/utf8.first", "unicode/utf8.acceptRanges", "internal/bytealg.MaxLen", "conduit/caps.words"], apart := false, laid := [("unicode/utf8.acceptRanges", laid_unicode_utf8_acceptRanges), ("conduit/caps.words", laid_conduit_caps_words), ("unicode/utf8.first", laid_unicode_utf8_first)], narrowed := true }
def CapsGroupsUptoSaid : Prop := capsGroupsUptoRow.holds Tryd.pinned (OpenSpec.upto capsGroupsSpec)

/-- 'conduitlaw05.CapsEmbeds', WHERE WHAT IT READS IS OF BULK AT MOST 1048576: true; the input reads as it did. -/
def capsEmbedsUptoRow : OpenClaim := { program := "ythkipihakiopnaadoor", sum := "1a18213cda5f21443c31edbf3d8c8815df87ff84920590b433713ca12329762b", func := "conduit/conduitlaw05.CapsEmbeds", spec := "capsEmbeds", inPlace := ["internal/bytealg.CountString", "internal/bytealg.IndexByteString", "internal/bytealg.IndexString", "internal/abi.NoEscape", "internal/bytealg.MakeNoZero"], named := ["unicode/utf8.first", "unicode/utf8.acceptRanges", "internal/bytealg.MaxLen", "conduit/caps.words"], apart := false, laid := [("unicode/utf8.acceptRanges", laid_unicode_utf8_acceptRanges), ("conduit/caps.words", laid_conduit_caps_words), ("unicode/utf8.first", laid_unicode_utf8_first)], narrowed := true }
def CapsEmbedsUptoSaid : Prop := capsEmbedsUptoRow.holds Tryd.pinned (OpenSpec.upto capsEmbedsSpec)

/-- 'conduitlaw05.CapsTexts', WHERE WHAT IT READS IS OF BULK AT MOST 1048576: true; the input reads as it did. -/
def capsTextsUptoRow : OpenClaim := { program := "ythkipihakiopnaadoor", sum := "1a18213cda5f21443c31edbf3d8c8815df87ff84920590b433713ca12329762b", func := "conduit/conduitlaw05.CapsTexts", spec := "capsTexts", inPlace := ["internal/bytealg.CountString", "internal/bytealg.IndexByteString", "internal/bytealg.IndexString", "internal/abi.NoEscape", "internal/bytealg.MakeNoZero"], named := ["unicode/utf8.first", "unicode/utf8.acceptRanges", "internal/bytealg.MaxLen", "conduit/caps.words"], apart := false, laid := [("unicode/utf8.acceptRanges", laid_unicode_utf8_acceptRanges), ("conduit/caps.words", laid_conduit_caps_words), ("unicode/utf8.first", laid_unicode_utf8_first)], narrowed := true }
def CapsTextsUptoSaid : Prop := capsTextsUptoRow.holds Tryd.pinned (OpenSpec.upto capsTextsSpec)

/-- 'conduitlaw05.CapsFixes', WHERE WHAT IT READS IS OF BULK AT MOST 1048576: true; the input reads as it did. -/
def capsFixesUptoRow : OpenClaim := { program := "ythkipihakiopnaadoor", sum := "1a18213cda5f21443c31edbf3d8c8815df87ff84920590b433713ca12329762b", func := "conduit/conduitlaw05.CapsFixes", spec := "capsFixes", inPlace := ["internal/bytealg.CountString", "internal/bytealg.IndexByteString", "internal/bytealg.IndexString", "internal/abi.NoEscape", "internal/bytealg.MakeNoZero"], named := ["conduit/caps.rules", "unicode/utf8.first", "unicode/utf8.acceptRanges", "internal/bytealg.MaxLen", "conduit/caps.words"], apart := false, laid := [("unicode/utf8.acceptRanges", laid_unicode_utf8_acceptRanges), ("conduit/caps.words", laid_conduit_caps_words), ("conduit/caps.rules", laid_conduit_caps_rules), ("unicode/utf8.first", laid_unicode_utf8_first)], narrowed := true }
def CapsFixesUptoSaid : Prop := capsFixesUptoRow.holds Tryd.pinned (OpenSpec.upto capsFixesSpec)

/-- 'conduitlaw05.CapsOrders', WHERE WHAT IT READS IS OF BULK AT MOST 1048576: true; the input reads as it did. -/
def capsOrdersUptoRow : OpenClaim := { program := "ythkipihakiopnaadoor", sum := "1a18213cda5f21443c31edbf3d8c8815df87ff84920590b433713ca12329762b", func := "conduit/conduitlaw05.CapsOrders", spec := "capsOrders", inPlace := ["internal/bytealg.CountString", "internal/bytealg.IndexByteString", "internal/bytealg.IndexString", "internal/abi.NoEscape", "internal/bytealg.MakeNoZero"], named := ["conduit/caps.rules", "unicode/utf8.first", "unicode/utf8.acceptRanges", "internal/bytealg.MaxLen", "conduit/caps.words"], apart := false, laid := [("unicode/utf8.acceptRanges", laid_unicode_utf8_acceptRanges), ("conduit/caps.words", laid_conduit_caps_words), ("conduit/caps.rules", laid_conduit_caps_rules), ("unicode/utf8.first", laid_unicode_utf8_first)], narrowed := true }
def CapsOrdersUptoSaid : Prop := capsOrdersUptoRow.holds Tryd.pinned (OpenSpec.upto capsOrdersSpec)

end Rows
end Go.Proofs.YthkipihakiopnaaDoor
