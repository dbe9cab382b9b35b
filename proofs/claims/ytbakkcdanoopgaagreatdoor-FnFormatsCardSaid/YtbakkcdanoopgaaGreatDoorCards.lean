/-
  DERIVED. GIVEN WITH THE SEED: THE CARDS: each row of YtbakkcdanoopgaaGreatDoorRows.lean that lists a variable, with what it lists TIED to the program's text (the seventh form; the later family's looks); each row that meets fmt, with fmt's text TOLD by the authors' own Lean function (tested against real Go, not proved from fmt's source: count such statements apart). THE CARD IS WHAT COUNTS. Prove the row's statement (the work); the ties are given (YtbakkcdanoopgaaGreatDoorTie.lean); close each card by the builder's one call (the guide's Derived/Test/ToyasCard.lean, 'card_holds'). Laid BY PROGRAM, IN A SANDBOX (cutbox-door.mjs). By AI agents, Wed Nov 11 2026. No macro, syntax, notation, axiom, sorry.
-/
import Derived.Test.YtbakkcdanoopgaaGreatDoorRows
import GoSem.ClaimSeven
namespace Go.Proofs.YtbakkcdanoopgaaGreatDoor
namespace Rows

/-- THE TIED CARD OF 'laws.FnExactFormat'. -/
def fnExactFormatCard : Claim7 := { stood := { row := fnExactFormatRow, standIns := [], harness := (true, "a8e1b05b35f3381f1a29ee5fcd8df613f50827c93e85d9167fbbd478a0455204"), looks := true }, kinds := [], alts := [], laidByText := true, laidKinds := [.data, .data, .data, .data, .sentinel, .sentinel, .pinned], laidTests := true, laidLooks := .later }
def FnExactFormatCardSaid : Prop := Claim7.holds Tryz.pinned (.plain (OpenSpec.ofChange fnExactFormatSpec)) fnExactFormatCard

/-- THE TIED CARD OF 'laws.FnFormats'. -/
def fnFormatsCard : Claim7 := { stood := { row := fnFormatsRow, standIns := [], harness := (true, "a8e1b05b35f3381f1a29ee5fcd8df613f50827c93e85d9167fbbd478a0455204"), looks := true }, kinds := [], alts := [], laidByText := true, laidKinds := [.data, .data, .data, .data, .sentinel, .sentinel, .pinned], laidTests := true, laidLooks := .later }
def FnFormatsCardSaid : Prop := Claim7.holds Tryz.pinned (.plain (OpenSpec.ofChange fnFormatsSpec)) fnFormatsCard

/-- THE TIED CARD OF 'laws.FnTrees'. -/
def fnTreesCard : Claim7 := { stood := { row := fnTreesRow, standIns := [], harness := (true, "a8e1b05b35f3381f1a29ee5fcd8df613f50827c93e85d9167fbbd478a0455204"), looks := true }, kinds := [], alts := [], laidByText := true, laidKinds := [.data, .data, .data, .data, .pinned], laidTests := true, laidLooks := .later }
def FnTreesCardSaid : Prop := Claim7.holds Tryz.pinned (.plain (OpenSpec.ofChange fnTreesSpec)) fnTreesCard

/-- THE TIED CARD OF 'laws.FnExactParse'. -/
def fnExactParseCard : Claim7 := { stood := { row := fnExactParseRow, standIns := [], harness := (true, "a8e1b05b35f3381f1a29ee5fcd8df613f50827c93e85d9167fbbd478a0455204"), looks := true }, kinds := [], alts := [], laidByText := true, laidKinds := [.data, .data, .data, .data, .pinned], laidTests := true, laidLooks := .later }
def FnExactParseCardSaid : Prop := Claim7.holds Tryz.pinned (.plain (OpenSpec.ofChange fnExactParseSpec)) fnExactParseCard

/-- THE TIED CARD OF 'laws.FnReads'. -/
def fnReadsCard : Claim7 := { stood := { row := fnReadsRow, standIns := [], harness := (true, "a8e1b05b35f3381f1a29ee5fcd8df613f50827c93e85d9167fbbd478a0455204"), looks := true }, kinds := [], alts := [], laidByText := true, laidKinds := [.data, .data, .data, .data, .pinned], laidTests := true, laidLooks := .later }
def FnReadsCardSaid : Prop := Claim7.holds Tryz.pinned (.plain (OpenSpec.ofChange fnReadsSpec)) fnReadsCard

/-- THE TIED CARD OF 'laws.FnProgs'. -/
def fnProgsCard : Claim7 := { stood := { row := fnProgsRow, standIns := [], harness := (true, "a8e1b05b35f3381f1a29ee5fcd8df613f50827c93e85d9167fbbd478a0455204"), looks := true }, kinds := [], alts := [], laidByText := true, laidKinds := [.data, .data, .data, .data, .pinned], laidTests := true, laidLooks := .later }
def FnProgsCardSaid : Prop := Claim7.holds Tryz.pinned (.plain (OpenSpec.ofChange fnProgsSpec)) fnProgsCard

/-- THE TIED CARD OF 'laws.FnExprs'. -/
def fnExprsCard : Claim7 := { stood := { row := fnExprsRow, standIns := [], harness := (true, "a8e1b05b35f3381f1a29ee5fcd8df613f50827c93e85d9167fbbd478a0455204"), looks := true }, kinds := [], alts := [], laidByText := true, laidKinds := [.data, .data, .data, .data, .pinned], laidTests := true, laidLooks := .later }
def FnExprsCardSaid : Prop := Claim7.holds Tryz.pinned (.plain (OpenSpec.ofChange fnExprsSpec)) fnExprsCard

/-- THE TIED CARD OF 'laws.FnExactProgOk'. -/
def fnExactProgOkCard : Claim7 := { stood := { row := fnExactProgOkRow, standIns := [], harness := (true, "a8e1b05b35f3381f1a29ee5fcd8df613f50827c93e85d9167fbbd478a0455204"), looks := true }, kinds := [], alts := [], laidByText := true, laidKinds := [.data, .data, .data, .data, .pinned], laidTests := true, laidLooks := .later }
def FnExactProgOkCardSaid : Prop := Claim7.holds Tryz.pinned (.plain (OpenSpec.ofChange fnExactProgOkSpec)) fnExactProgOkCard

/-- THE TIED CARD OF 'laws.FnExactProgText'. -/
def fnExactProgTextCard : Claim7 := { stood := { row := fnExactProgTextRow, standIns := [], harness := (true, "a8e1b05b35f3381f1a29ee5fcd8df613f50827c93e85d9167fbbd478a0455204"), looks := true }, kinds := [], alts := [], laidByText := true, laidKinds := [.data, .data, .data, .data, .pinned], laidTests := true, laidLooks := .later }
def FnExactProgTextCardSaid : Prop := Claim7.holds Tryz.pinned (.plain (OpenSpec.ofChange fnExactProgTextSpec)) fnExactProgTextCard

/-- THE TIED CARD OF 'laws.FnExactExprText'. -/
def fnExactExprTextCard : Claim7 := { stood := { row := fnExactExprTextRow, standIns := [], harness := (true, "a8e1b05b35f3381f1a29ee5fcd8df613f50827c93e85d9167fbbd478a0455204"), looks := true }, kinds := [], alts := [], laidByText := true, laidKinds := [.data, .data, .data, .data, .pinned], laidTests := true, laidLooks := .later }
def FnExactExprTextCardSaid : Prop := Claim7.holds Tryz.pinned (.plain (OpenSpec.ofChange fnExactExprTextSpec)) fnExactExprTextCard

/-- THE TIED CARD OF 'laws.FnExactFuncOf'. -/
def fnExactFuncOfCard : Claim7 := { stood := { row := fnExactFuncOfRow, standIns := [], harness := (true, "a8e1b05b35f3381f1a29ee5fcd8df613f50827c93e85d9167fbbd478a0455204"), looks := true }, kinds := [], alts := [], laidByText := true, laidKinds := [.data, .data, .data, .data, .pinned], laidTests := true, laidLooks := .later }
def FnExactFuncOfCardSaid : Prop := Claim7.holds Tryz.pinned (.plain (OpenSpec.ofChange fnExactFuncOfSpec)) fnExactFuncOfCard

/-- THE TIED CARD OF 'laws.FnExactScopeOf'. -/
def fnExactScopeOfCard : Claim7 := { stood := { row := fnExactScopeOfRow, standIns := [], harness := (true, "a8e1b05b35f3381f1a29ee5fcd8df613f50827c93e85d9167fbbd478a0455204"), looks := true }, kinds := [], alts := [], laidByText := true, laidKinds := [.data, .data, .data, .data, .pinned], laidTests := true, laidLooks := .later }
def FnExactScopeOfCardSaid : Prop := Claim7.holds Tryz.pinned (.plain (OpenSpec.ofChange fnExactScopeOfSpec)) fnExactScopeOfCard

/-- THE SECOND FORM's CARD OF 'laws.FnExactFormat'. -/
def fnExactFormatUptoCard : Claim7 := { stood := { row := fnExactFormatUptoRow, standIns := [], harness := (true, "a8e1b05b35f3381f1a29ee5fcd8df613f50827c93e85d9167fbbd478a0455204"), looks := true }, kinds := [], alts := [], laidByText := true, laidKinds := [.data, .data, .data, .data, .sentinel, .sentinel, .pinned], laidTests := true, laidLooks := .later }
def FnExactFormatUptoCardSaid : Prop := Claim7.holds Tryz.pinned (.plain (OpenSpec.upto fnExactFormatSpec)) fnExactFormatUptoCard

/-- THE SECOND FORM's CARD OF 'laws.FnFormats'. -/
def fnFormatsUptoCard : Claim7 := { stood := { row := fnFormatsUptoRow, standIns := [], harness := (true, "a8e1b05b35f3381f1a29ee5fcd8df613f50827c93e85d9167fbbd478a0455204"), looks := true }, kinds := [], alts := [], laidByText := true, laidKinds := [.data, .data, .data, .data, .sentinel, .sentinel, .pinned], laidTests := true, laidLooks := .later }
def FnFormatsUptoCardSaid : Prop := Claim7.holds Tryz.pinned (.plain (OpenSpec.upto fnFormatsSpec)) fnFormatsUptoCard

/-- THE SECOND FORM's CARD OF 'laws.FnTrees'. -/
def fnTreesUptoCard : Claim7 := { stood := { row := fnTreesUptoRow, standIns := [], harness := (true, "a8e1b05b35f3381f1a29ee5fcd8df613f50827c93e85d9167fbbd478a0455204"), looks := true }, kinds := [], alts := [], laidByText := true, laidKinds := [.data, .data, .data, .data, .pinned], laidTests := true, laidLooks := .later }
def FnTreesUptoCardSaid : Prop := Claim7.holds Tryz.pinned (.plain (OpenSpec.upto fnTreesSpec)) fnTreesUptoCard

/-- THE SECOND FORM's CARD OF 'laws.FnExactParse'. -/
def fnExactParseUptoCard : Claim7 := { stood := { row := fnExactParseUptoRow, standIns := [], harness := (true, "a8e1b05b35f3381f1a29ee5fcd8df613f50827c93e85d9167fbbd478a0455204"), looks := true }, kinds := [], alts := [], laidByText := true, laidKinds := [.data, .data, .data, .data, .pinned], laidTests := true, laidLooks := .later }
def FnExactParseUptoCardSaid : Prop := Claim7.holds Tryz.pinned (.plain (OpenSpec.upto fnExactParseSpec)) fnExactParseUptoCard

/-- THE SECOND FORM's CARD OF 'laws.FnReads'. -/
def fnReadsUptoCard : Claim7 := { stood := { row := fnReadsUptoRow, standIns := [], harness := (true, "a8e1b05b35f3381f1a29ee5fcd8df613f50827c93e85d9167fbbd478a0455204"), looks := true }, kinds := [], alts := [], laidByText := true, laidKinds := [.data, .data, .data, .data, .pinned], laidTests := true, laidLooks := .later }
def FnReadsUptoCardSaid : Prop := Claim7.holds Tryz.pinned (.plain (OpenSpec.upto fnReadsSpec)) fnReadsUptoCard

/-- THE SECOND FORM's CARD OF 'laws.FnProgs'. -/
def fnProgsUptoCard : Claim7 := { stood := { row := fnProgsUptoRow, standIns := [], harness := (true, "a8e1b05b35f3381f1a29ee5fcd8df613f50827c93e85d9167fbbd478a0455204"), looks := true }, kinds := [], alts := [], laidByText := true, laidKinds := [.data, .data, .data, .data, .pinned], laidTests := true, laidLooks := .later }
def FnProgsUptoCardSaid : Prop := Claim7.holds Tryz.pinned (.plain (OpenSpec.upto fnProgsSpec)) fnProgsUptoCard

/-- THE SECOND FORM's CARD OF 'laws.FnExprs'. -/
def fnExprsUptoCard : Claim7 := { stood := { row := fnExprsUptoRow, standIns := [], harness := (true, "a8e1b05b35f3381f1a29ee5fcd8df613f50827c93e85d9167fbbd478a0455204"), looks := true }, kinds := [], alts := [], laidByText := true, laidKinds := [.data, .data, .data, .data, .pinned], laidTests := true, laidLooks := .later }
def FnExprsUptoCardSaid : Prop := Claim7.holds Tryz.pinned (.plain (OpenSpec.upto fnExprsSpec)) fnExprsUptoCard

/-- THE SECOND FORM's CARD OF 'laws.FnExactProgOk'. -/
def fnExactProgOkUptoCard : Claim7 := { stood := { row := fnExactProgOkUptoRow, standIns := [], harness := (true, "a8e1b05b35f3381f1a29ee5fcd8df613f50827c93e85d9167fbbd478a0455204"), looks := true }, kinds := [], alts := [], laidByText := true, laidKinds := [.data, .data, .data, .data, .pinned], laidTests := true, laidLooks := .later }
def FnExactProgOkUptoCardSaid : Prop := Claim7.holds Tryz.pinned (.plain (OpenSpec.upto fnExactProgOkSpec)) fnExactProgOkUptoCard

/-- THE SECOND FORM's CARD OF 'laws.FnExactProgText'. -/
def fnExactProgTextUptoCard : Claim7 := { stood := { row := fnExactProgTextUptoRow, standIns := [], harness := (true, "a8e1b05b35f3381f1a29ee5fcd8df613f50827c93e85d9167fbbd478a0455204"), looks := true }, kinds := [], alts := [], laidByText := true, laidKinds := [.data, .data, .data, .data, .pinned], laidTests := true, laidLooks := .later }
def FnExactProgTextUptoCardSaid : Prop := Claim7.holds Tryz.pinned (.plain (OpenSpec.upto fnExactProgTextSpec)) fnExactProgTextUptoCard

/-- THE SECOND FORM's CARD OF 'laws.FnExactExprText'. -/
def fnExactExprTextUptoCard : Claim7 := { stood := { row := fnExactExprTextUptoRow, standIns := [], harness := (true, "a8e1b05b35f3381f1a29ee5fcd8df613f50827c93e85d9167fbbd478a0455204"), looks := true }, kinds := [], alts := [], laidByText := true, laidKinds := [.data, .data, .data, .data, .pinned], laidTests := true, laidLooks := .later }
def FnExactExprTextUptoCardSaid : Prop := Claim7.holds Tryz.pinned (.plain (OpenSpec.upto fnExactExprTextSpec)) fnExactExprTextUptoCard

/-- THE SECOND FORM's CARD OF 'laws.FnExactFuncOf'. -/
def fnExactFuncOfUptoCard : Claim7 := { stood := { row := fnExactFuncOfUptoRow, standIns := [], harness := (true, "a8e1b05b35f3381f1a29ee5fcd8df613f50827c93e85d9167fbbd478a0455204"), looks := true }, kinds := [], alts := [], laidByText := true, laidKinds := [.data, .data, .data, .data, .pinned], laidTests := true, laidLooks := .later }
def FnExactFuncOfUptoCardSaid : Prop := Claim7.holds Tryz.pinned (.plain (OpenSpec.upto fnExactFuncOfSpec)) fnExactFuncOfUptoCard

/-- THE SECOND FORM's CARD OF 'laws.FnExactScopeOf'. -/
def fnExactScopeOfUptoCard : Claim7 := { stood := { row := fnExactScopeOfUptoRow, standIns := [], harness := (true, "a8e1b05b35f3381f1a29ee5fcd8df613f50827c93e85d9167fbbd478a0455204"), looks := true }, kinds := [], alts := [], laidByText := true, laidKinds := [.data, .data, .data, .data, .pinned], laidTests := true, laidLooks := .later }
def FnExactScopeOfUptoCardSaid : Prop := Claim7.holds Tryz.pinned (.plain (OpenSpec.upto fnExactScopeOfSpec)) fnExactScopeOfUptoCard
end Rows
end Go.Proofs.YtbakkcdanoopgaaGreatDoor
