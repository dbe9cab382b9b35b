/-
  DERIVED. GIVEN WITH THE SEED: THE CARDS: each row of YtlakdfbfkbndiaaDoorRows.lean that lists a variable, with what it lists TIED to the program's text (the seventh form; the later family's looks); each row that meets fmt, with fmt's text TOLD by the authors' own Lean function (tested against real Go, not proved from fmt's source: count such statements apart). THE CARD IS WHAT COUNTS. Prove the row's statement (the work); the ties are given (YtlakdfbfkbndiaaDoorTie.lean); close each card by the builder's one call (the guide's Derived/Test/ToyasCard.lean, 'card_holds'). Laid BY PROGRAM, IN A SANDBOX (cutbox-door.mjs). By AI agents, Wed Nov 11 2026. No macro, syntax, notation, axiom, sorry.
-/
import Derived.Test.YtlakdfbfkbndiaaDoorRows
import GoSem.ClaimSeven
namespace Go.Proofs.YtlakdfbfkbndiaaDoor
namespace Rows

/-- THE TIED CARD OF 'laws.FnExactReFind'. -/
def fnExactReFindCard : Claim7 := { stood := { row := fnExactReFindRow, standIns := [], harness := (true, "653ba40917454f3c57c45bf7bd6e7a755b8c14dc4c6435c6eceb616f191040d8"), looks := false }, kinds := [], alts := [], laidByText := true, laidKinds := [.data], laidTests := true, laidLooks := .later }
def FnExactReFindCardSaid : Prop := Claim7.holds Tryd.pinned (.plain (OpenSpec.ofChange fnExactReFindSpec)) fnExactReFindCard

/-- THE TIED CARD OF 'laws.FnExactReTest'. -/
def fnExactReTestCard : Claim7 := { stood := { row := fnExactReTestRow, standIns := [], harness := (true, "653ba40917454f3c57c45bf7bd6e7a755b8c14dc4c6435c6eceb616f191040d8"), looks := false }, kinds := [], alts := [], laidByText := true, laidKinds := [.data], laidTests := true, laidLooks := .later }
def FnExactReTestCardSaid : Prop := Claim7.holds Tryd.pinned (.plain (OpenSpec.ofChange fnExactReTestSpec)) fnExactReTestCard

/-- THE TIED CARD OF 'laws.FnExactReEnds'. -/
def fnExactReEndsCard : Claim7 := { stood := { row := fnExactReEndsRow, standIns := [], harness := (true, "653ba40917454f3c57c45bf7bd6e7a755b8c14dc4c6435c6eceb616f191040d8"), looks := false }, kinds := [], alts := [], laidByText := true, laidKinds := [.data], laidTests := true, laidLooks := .later }
def FnExactReEndsCardSaid : Prop := Claim7.holds Tryd.pinned (.plain (OpenSpec.ofChange fnExactReEndsSpec)) fnExactReEndsCard

/-- THE TIED CARD OF 'laws.FnExactReCount'. -/
def fnExactReCountCard : Claim7 := { stood := { row := fnExactReCountRow, standIns := [], harness := (true, "653ba40917454f3c57c45bf7bd6e7a755b8c14dc4c6435c6eceb616f191040d8"), looks := false }, kinds := [], alts := [], laidByText := true, laidKinds := [.data], laidTests := true, laidLooks := .later }
def FnExactReCountCardSaid : Prop := Claim7.holds Tryd.pinned (.plain (OpenSpec.ofChange fnExactReCountSpec)) fnExactReCountCard

/-- THE TIED CARD OF 'laws.FnExactReSub'. -/
def fnExactReSubCard : Claim7 := { stood := { row := fnExactReSubRow, standIns := [], harness := (true, "653ba40917454f3c57c45bf7bd6e7a755b8c14dc4c6435c6eceb616f191040d8"), looks := false }, kinds := [], alts := [], laidByText := true, laidKinds := [.data], laidTests := true, laidLooks := .later }
def FnExactReSubCardSaid : Prop := Claim7.holds Tryd.pinned (.plain (OpenSpec.ofChange fnExactReSubSpec)) fnExactReSubCard

/-- THE TIED CARD OF 'laws.FnFinds'. -/
def fnFindsCard : Claim7 := { stood := { row := fnFindsRow, standIns := [], harness := (true, "653ba40917454f3c57c45bf7bd6e7a755b8c14dc4c6435c6eceb616f191040d8"), looks := false }, kinds := [], alts := [], laidByText := true, laidKinds := [.data], laidTests := true, laidLooks := .later }
def FnFindsCardSaid : Prop := Claim7.holds Tryd.pinned (.plain (OpenSpec.ofChange fnFindsSpec)) fnFindsCard

/-- THE TIED CARD OF 'laws.FnStars'. -/
def fnStarsCard : Claim7 := { stood := { row := fnStarsRow, standIns := [], harness := (true, "653ba40917454f3c57c45bf7bd6e7a755b8c14dc4c6435c6eceb616f191040d8"), looks := false }, kinds := [], alts := [], laidByText := true, laidKinds := [.data], laidTests := true, laidLooks := .later }
def FnStarsCardSaid : Prop := Claim7.holds Tryd.pinned (.plain (OpenSpec.ofChange fnStarsSpec)) fnStarsCard

/-- THE TIED CARD OF 'laws.FnAlts'. -/
def fnAltsCard : Claim7 := { stood := { row := fnAltsRow, standIns := [], harness := (true, "653ba40917454f3c57c45bf7bd6e7a755b8c14dc4c6435c6eceb616f191040d8"), looks := false }, kinds := [], alts := [], laidByText := true, laidKinds := [.data], laidTests := true, laidLooks := .later }
def FnAltsCardSaid : Prop := Claim7.holds Tryd.pinned (.plain (OpenSpec.ofChange fnAltsSpec)) fnAltsCard

/-- THE SECOND FORM's CARD OF 'laws.FnExactReFind'. -/
def fnExactReFindUptoCard : Claim7 := { stood := { row := fnExactReFindUptoRow, standIns := [], harness := (true, "653ba40917454f3c57c45bf7bd6e7a755b8c14dc4c6435c6eceb616f191040d8"), looks := false }, kinds := [], alts := [], laidByText := true, laidKinds := [.data], laidTests := true, laidLooks := .later }
def FnExactReFindUptoCardSaid : Prop := Claim7.holds Tryd.pinned (.plain (OpenSpec.upto fnExactReFindSpec)) fnExactReFindUptoCard

/-- THE SECOND FORM's CARD OF 'laws.FnExactReTest'. -/
def fnExactReTestUptoCard : Claim7 := { stood := { row := fnExactReTestUptoRow, standIns := [], harness := (true, "653ba40917454f3c57c45bf7bd6e7a755b8c14dc4c6435c6eceb616f191040d8"), looks := false }, kinds := [], alts := [], laidByText := true, laidKinds := [.data], laidTests := true, laidLooks := .later }
def FnExactReTestUptoCardSaid : Prop := Claim7.holds Tryd.pinned (.plain (OpenSpec.upto fnExactReTestSpec)) fnExactReTestUptoCard

/-- THE SECOND FORM's CARD OF 'laws.FnExactReEnds'. -/
def fnExactReEndsUptoCard : Claim7 := { stood := { row := fnExactReEndsUptoRow, standIns := [], harness := (true, "653ba40917454f3c57c45bf7bd6e7a755b8c14dc4c6435c6eceb616f191040d8"), looks := false }, kinds := [], alts := [], laidByText := true, laidKinds := [.data], laidTests := true, laidLooks := .later }
def FnExactReEndsUptoCardSaid : Prop := Claim7.holds Tryd.pinned (.plain (OpenSpec.upto fnExactReEndsSpec)) fnExactReEndsUptoCard

/-- THE SECOND FORM's CARD OF 'laws.FnExactReCount'. -/
def fnExactReCountUptoCard : Claim7 := { stood := { row := fnExactReCountUptoRow, standIns := [], harness := (true, "653ba40917454f3c57c45bf7bd6e7a755b8c14dc4c6435c6eceb616f191040d8"), looks := false }, kinds := [], alts := [], laidByText := true, laidKinds := [.data], laidTests := true, laidLooks := .later }
def FnExactReCountUptoCardSaid : Prop := Claim7.holds Tryd.pinned (.plain (OpenSpec.upto fnExactReCountSpec)) fnExactReCountUptoCard

/-- THE SECOND FORM's CARD OF 'laws.FnExactReSub'. -/
def fnExactReSubUptoCard : Claim7 := { stood := { row := fnExactReSubUptoRow, standIns := [], harness := (true, "653ba40917454f3c57c45bf7bd6e7a755b8c14dc4c6435c6eceb616f191040d8"), looks := false }, kinds := [], alts := [], laidByText := true, laidKinds := [.data], laidTests := true, laidLooks := .later }
def FnExactReSubUptoCardSaid : Prop := Claim7.holds Tryd.pinned (.plain (OpenSpec.upto fnExactReSubSpec)) fnExactReSubUptoCard

/-- THE SECOND FORM's CARD OF 'laws.FnFinds'. -/
def fnFindsUptoCard : Claim7 := { stood := { row := fnFindsUptoRow, standIns := [], harness := (true, "653ba40917454f3c57c45bf7bd6e7a755b8c14dc4c6435c6eceb616f191040d8"), looks := false }, kinds := [], alts := [], laidByText := true, laidKinds := [.data], laidTests := true, laidLooks := .later }
def FnFindsUptoCardSaid : Prop := Claim7.holds Tryd.pinned (.plain (OpenSpec.upto fnFindsSpec)) fnFindsUptoCard

/-- THE SECOND FORM's CARD OF 'laws.FnStars'. -/
def fnStarsUptoCard : Claim7 := { stood := { row := fnStarsUptoRow, standIns := [], harness := (true, "653ba40917454f3c57c45bf7bd6e7a755b8c14dc4c6435c6eceb616f191040d8"), looks := false }, kinds := [], alts := [], laidByText := true, laidKinds := [.data], laidTests := true, laidLooks := .later }
def FnStarsUptoCardSaid : Prop := Claim7.holds Tryd.pinned (.plain (OpenSpec.upto fnStarsSpec)) fnStarsUptoCard

/-- THE SECOND FORM's CARD OF 'laws.FnAlts'. -/
def fnAltsUptoCard : Claim7 := { stood := { row := fnAltsUptoRow, standIns := [], harness := (true, "653ba40917454f3c57c45bf7bd6e7a755b8c14dc4c6435c6eceb616f191040d8"), looks := false }, kinds := [], alts := [], laidByText := true, laidKinds := [.data], laidTests := true, laidLooks := .later }
def FnAltsUptoCardSaid : Prop := Claim7.holds Tryd.pinned (.plain (OpenSpec.upto fnAltsSpec)) fnAltsUptoCard
end Rows
end Go.Proofs.YtlakdfbfkbndiaaDoor
