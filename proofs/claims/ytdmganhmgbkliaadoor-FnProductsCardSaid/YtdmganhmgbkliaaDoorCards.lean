/-
  DERIVED. GIVEN WITH THE SEED: THE CARDS: each row of YtdmganhmgbkliaaDoorRows.lean that lists a variable, with what it lists TIED to the program's text (the seventh form; the later family's looks); each row that meets fmt, with fmt's text TOLD by the authors' own Lean function (tested against real Go, not proved from fmt's source: count such statements apart). THE CARD IS WHAT COUNTS. Prove the row's statement (the work); the ties are given (YtdmganhmgbkliaaDoorTie.lean); close each card by the builder's one call (the guide's Derived/Test/ToyasCard.lean, 'card_holds'). Laid BY PROGRAM, IN A SANDBOX (cutbox-door.mjs). By AI agents, Wed Nov 11 2026. No macro, syntax, notation, axiom, sorry.
-/
import Derived.Test.YtdmganhmgbkliaaDoorRows
import GoSem.ClaimSeven
namespace Go.Proofs.YtdmganhmgbkliaaDoor
namespace Rows

/-- THE TIED CARD OF 'laws.FnExactReFind'. -/
def fnExactReFindCard : Claim7 := { stood := { row := fnExactReFindRow, standIns := [], harness := (true, "c7b67a8bd919d56ba244161cbc7f0129628cb262d0a2051df5c7b7323e7a2f21"), looks := false }, kinds := [], alts := [], laidByText := true, laidKinds := [.data], laidTests := true, laidLooks := .later }
def FnExactReFindCardSaid : Prop := Claim7.holds Tryd.pinned (.plain (OpenSpec.ofChange fnExactReFindSpec)) fnExactReFindCard

/-- THE TIED CARD OF 'laws.FnExactReTest'. -/
def fnExactReTestCard : Claim7 := { stood := { row := fnExactReTestRow, standIns := [], harness := (true, "c7b67a8bd919d56ba244161cbc7f0129628cb262d0a2051df5c7b7323e7a2f21"), looks := false }, kinds := [], alts := [], laidByText := true, laidKinds := [.data], laidTests := true, laidLooks := .later }
def FnExactReTestCardSaid : Prop := Claim7.holds Tryd.pinned (.plain (OpenSpec.ofChange fnExactReTestSpec)) fnExactReTestCard

/-- THE TIED CARD OF 'laws.FnExactReEnds'. -/
def fnExactReEndsCard : Claim7 := { stood := { row := fnExactReEndsRow, standIns := [], harness := (true, "c7b67a8bd919d56ba244161cbc7f0129628cb262d0a2051df5c7b7323e7a2f21"), looks := false }, kinds := [], alts := [], laidByText := true, laidKinds := [.data], laidTests := true, laidLooks := .later }
def FnExactReEndsCardSaid : Prop := Claim7.holds Tryd.pinned (.plain (OpenSpec.ofChange fnExactReEndsSpec)) fnExactReEndsCard

/-- THE TIED CARD OF 'laws.FnExactReCount'. -/
def fnExactReCountCard : Claim7 := { stood := { row := fnExactReCountRow, standIns := [], harness := (true, "c7b67a8bd919d56ba244161cbc7f0129628cb262d0a2051df5c7b7323e7a2f21"), looks := false }, kinds := [], alts := [], laidByText := true, laidKinds := [.data], laidTests := true, laidLooks := .later }
def FnExactReCountCardSaid : Prop := Claim7.holds Tryd.pinned (.plain (OpenSpec.ofChange fnExactReCountSpec)) fnExactReCountCard

/-- THE TIED CARD OF 'laws.FnExactReSub'. -/
def fnExactReSubCard : Claim7 := { stood := { row := fnExactReSubRow, standIns := [], harness := (true, "c7b67a8bd919d56ba244161cbc7f0129628cb262d0a2051df5c7b7323e7a2f21"), looks := false }, kinds := [], alts := [], laidByText := true, laidKinds := [.data], laidTests := true, laidLooks := .later }
def FnExactReSubCardSaid : Prop := Claim7.holds Tryd.pinned (.plain (OpenSpec.ofChange fnExactReSubSpec)) fnExactReSubCard

/-- THE TIED CARD OF 'laws.FnProducts'. -/
def fnProductsCard : Claim7 := { stood := { row := fnProductsRow, standIns := [], harness := (true, "c7b67a8bd919d56ba244161cbc7f0129628cb262d0a2051df5c7b7323e7a2f21"), looks := false }, kinds := [], alts := [], laidByText := true, laidKinds := [.data, .data, .data, .data, .pinned], laidTests := true, laidLooks := .later }
def FnProductsCardSaid : Prop := Claim7.holds Tryd.pinned (.plain (OpenSpec.ofChange fnProductsSpec)) fnProductsCard

/-- THE TIED CARD OF 'laws.FnSums'. -/
def fnSumsCard : Claim7 := { stood := { row := fnSumsRow, standIns := [], harness := (true, "c7b67a8bd919d56ba244161cbc7f0129628cb262d0a2051df5c7b7323e7a2f21"), looks := false }, kinds := [], alts := [], laidByText := true, laidKinds := [.data, .data, .data, .data, .pinned], laidTests := true, laidLooks := .later }
def FnSumsCardSaid : Prop := Claim7.holds Tryd.pinned (.plain (OpenSpec.ofChange fnSumsSpec)) fnSumsCard

/-- THE TIED CARD OF 'laws.FnFinds'. -/
def fnFindsCard : Claim7 := { stood := { row := fnFindsRow, standIns := [], harness := (true, "c7b67a8bd919d56ba244161cbc7f0129628cb262d0a2051df5c7b7323e7a2f21"), looks := false }, kinds := [], alts := [], laidByText := true, laidKinds := [.data], laidTests := true, laidLooks := .later }
def FnFindsCardSaid : Prop := Claim7.holds Tryd.pinned (.plain (OpenSpec.ofChange fnFindsSpec)) fnFindsCard

/-- THE TIED CARD OF 'laws.FnStars'. -/
def fnStarsCard : Claim7 := { stood := { row := fnStarsRow, standIns := [], harness := (true, "c7b67a8bd919d56ba244161cbc7f0129628cb262d0a2051df5c7b7323e7a2f21"), looks := false }, kinds := [], alts := [], laidByText := true, laidKinds := [.data], laidTests := true, laidLooks := .later }
def FnStarsCardSaid : Prop := Claim7.holds Tryd.pinned (.plain (OpenSpec.ofChange fnStarsSpec)) fnStarsCard

/-- THE TIED CARD OF 'laws.FnAlts'. -/
def fnAltsCard : Claim7 := { stood := { row := fnAltsRow, standIns := [], harness := (true, "c7b67a8bd919d56ba244161cbc7f0129628cb262d0a2051df5c7b7323e7a2f21"), looks := false }, kinds := [], alts := [], laidByText := true, laidKinds := [.data], laidTests := true, laidLooks := .later }
def FnAltsCardSaid : Prop := Claim7.holds Tryd.pinned (.plain (OpenSpec.ofChange fnAltsSpec)) fnAltsCard

/-- THE TIED CARD OF 'laws.FnReReads'. -/
def fnReReadsCard : Claim7 := { stood := { row := fnReReadsRow, standIns := [], harness := (true, "c7b67a8bd919d56ba244161cbc7f0129628cb262d0a2051df5c7b7323e7a2f21"), looks := false }, kinds := [], alts := [], laidByText := true, laidKinds := [.data], laidTests := true, laidLooks := .later }
def FnReReadsCardSaid : Prop := Claim7.holds Tryd.pinned (.plain (OpenSpec.ofChange fnReReadsSpec)) fnReReadsCard

/-- THE SECOND FORM's CARD OF 'laws.FnExactReFind'. -/
def fnExactReFindUptoCard : Claim7 := { stood := { row := fnExactReFindUptoRow, standIns := [], harness := (true, "c7b67a8bd919d56ba244161cbc7f0129628cb262d0a2051df5c7b7323e7a2f21"), looks := false }, kinds := [], alts := [], laidByText := true, laidKinds := [.data], laidTests := true, laidLooks := .later }
def FnExactReFindUptoCardSaid : Prop := Claim7.holds Tryd.pinned (.plain (OpenSpec.upto fnExactReFindSpec)) fnExactReFindUptoCard

/-- THE SECOND FORM's CARD OF 'laws.FnExactReTest'. -/
def fnExactReTestUptoCard : Claim7 := { stood := { row := fnExactReTestUptoRow, standIns := [], harness := (true, "c7b67a8bd919d56ba244161cbc7f0129628cb262d0a2051df5c7b7323e7a2f21"), looks := false }, kinds := [], alts := [], laidByText := true, laidKinds := [.data], laidTests := true, laidLooks := .later }
def FnExactReTestUptoCardSaid : Prop := Claim7.holds Tryd.pinned (.plain (OpenSpec.upto fnExactReTestSpec)) fnExactReTestUptoCard

/-- THE SECOND FORM's CARD OF 'laws.FnExactReEnds'. -/
def fnExactReEndsUptoCard : Claim7 := { stood := { row := fnExactReEndsUptoRow, standIns := [], harness := (true, "c7b67a8bd919d56ba244161cbc7f0129628cb262d0a2051df5c7b7323e7a2f21"), looks := false }, kinds := [], alts := [], laidByText := true, laidKinds := [.data], laidTests := true, laidLooks := .later }
def FnExactReEndsUptoCardSaid : Prop := Claim7.holds Tryd.pinned (.plain (OpenSpec.upto fnExactReEndsSpec)) fnExactReEndsUptoCard

/-- THE SECOND FORM's CARD OF 'laws.FnExactReCount'. -/
def fnExactReCountUptoCard : Claim7 := { stood := { row := fnExactReCountUptoRow, standIns := [], harness := (true, "c7b67a8bd919d56ba244161cbc7f0129628cb262d0a2051df5c7b7323e7a2f21"), looks := false }, kinds := [], alts := [], laidByText := true, laidKinds := [.data], laidTests := true, laidLooks := .later }
def FnExactReCountUptoCardSaid : Prop := Claim7.holds Tryd.pinned (.plain (OpenSpec.upto fnExactReCountSpec)) fnExactReCountUptoCard

/-- THE SECOND FORM's CARD OF 'laws.FnExactReSub'. -/
def fnExactReSubUptoCard : Claim7 := { stood := { row := fnExactReSubUptoRow, standIns := [], harness := (true, "c7b67a8bd919d56ba244161cbc7f0129628cb262d0a2051df5c7b7323e7a2f21"), looks := false }, kinds := [], alts := [], laidByText := true, laidKinds := [.data], laidTests := true, laidLooks := .later }
def FnExactReSubUptoCardSaid : Prop := Claim7.holds Tryd.pinned (.plain (OpenSpec.upto fnExactReSubSpec)) fnExactReSubUptoCard

/-- THE SECOND FORM's CARD OF 'laws.FnProducts'. -/
def fnProductsUptoCard : Claim7 := { stood := { row := fnProductsUptoRow, standIns := [], harness := (true, "c7b67a8bd919d56ba244161cbc7f0129628cb262d0a2051df5c7b7323e7a2f21"), looks := false }, kinds := [], alts := [], laidByText := true, laidKinds := [.data, .data, .data, .data, .pinned], laidTests := true, laidLooks := .later }
def FnProductsUptoCardSaid : Prop := Claim7.holds Tryd.pinned (.plain (OpenSpec.upto fnProductsSpec)) fnProductsUptoCard

/-- THE SECOND FORM's CARD OF 'laws.FnSums'. -/
def fnSumsUptoCard : Claim7 := { stood := { row := fnSumsUptoRow, standIns := [], harness := (true, "c7b67a8bd919d56ba244161cbc7f0129628cb262d0a2051df5c7b7323e7a2f21"), looks := false }, kinds := [], alts := [], laidByText := true, laidKinds := [.data, .data, .data, .data, .pinned], laidTests := true, laidLooks := .later }
def FnSumsUptoCardSaid : Prop := Claim7.holds Tryd.pinned (.plain (OpenSpec.upto fnSumsSpec)) fnSumsUptoCard

/-- THE SECOND FORM's CARD OF 'laws.FnFinds'. -/
def fnFindsUptoCard : Claim7 := { stood := { row := fnFindsUptoRow, standIns := [], harness := (true, "c7b67a8bd919d56ba244161cbc7f0129628cb262d0a2051df5c7b7323e7a2f21"), looks := false }, kinds := [], alts := [], laidByText := true, laidKinds := [.data], laidTests := true, laidLooks := .later }
def FnFindsUptoCardSaid : Prop := Claim7.holds Tryd.pinned (.plain (OpenSpec.upto fnFindsSpec)) fnFindsUptoCard

/-- THE SECOND FORM's CARD OF 'laws.FnStars'. -/
def fnStarsUptoCard : Claim7 := { stood := { row := fnStarsUptoRow, standIns := [], harness := (true, "c7b67a8bd919d56ba244161cbc7f0129628cb262d0a2051df5c7b7323e7a2f21"), looks := false }, kinds := [], alts := [], laidByText := true, laidKinds := [.data], laidTests := true, laidLooks := .later }
def FnStarsUptoCardSaid : Prop := Claim7.holds Tryd.pinned (.plain (OpenSpec.upto fnStarsSpec)) fnStarsUptoCard

/-- THE SECOND FORM's CARD OF 'laws.FnAlts'. -/
def fnAltsUptoCard : Claim7 := { stood := { row := fnAltsUptoRow, standIns := [], harness := (true, "c7b67a8bd919d56ba244161cbc7f0129628cb262d0a2051df5c7b7323e7a2f21"), looks := false }, kinds := [], alts := [], laidByText := true, laidKinds := [.data], laidTests := true, laidLooks := .later }
def FnAltsUptoCardSaid : Prop := Claim7.holds Tryd.pinned (.plain (OpenSpec.upto fnAltsSpec)) fnAltsUptoCard

/-- THE SECOND FORM's CARD OF 'laws.FnReReads'. -/
def fnReReadsUptoCard : Claim7 := { stood := { row := fnReReadsUptoRow, standIns := [], harness := (true, "c7b67a8bd919d56ba244161cbc7f0129628cb262d0a2051df5c7b7323e7a2f21"), looks := false }, kinds := [], alts := [], laidByText := true, laidKinds := [.data], laidTests := true, laidLooks := .later }
def FnReReadsUptoCardSaid : Prop := Claim7.holds Tryd.pinned (.plain (OpenSpec.upto fnReReadsSpec)) fnReReadsUptoCard
end Rows
end Go.Proofs.YtdmganhmgbkliaaDoor
