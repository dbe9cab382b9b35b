/-
  DERIVED. GIVEN WITH THE SEED: THE CARDS: each row of YtnfiljnncpieoaaDoorRows.lean that lists a variable, with what it lists TIED to the program's text (the seventh form; the later family's looks); each row that meets fmt, with fmt's text TOLD by the authors' own Lean function (tested against real Go, not proved from fmt's source: count such statements apart). THE CARD IS WHAT COUNTS. Prove the row's statement (the work); the ties are given (YtnfiljnncpieoaaDoorTie.lean); close each card by the builder's one call (the guide's Derived/Test/ToyasCard.lean, 'card_holds'). Laid BY PROGRAM, IN A SANDBOX (cutbox-door.mjs). By AI agents, Wed Nov 11 2026. No macro, syntax, notation, axiom, sorry.
-/
import Derived.Test.YtnfiljnncpieoaaDoorRows
import GoSem.ClaimSeven
namespace Go.Proofs.YtnfiljnncpieoaaDoor
namespace Rows

/-- THE TIED CARD OF 'laws.FnExactCompare'. -/
def fnExactCompareCard : Claim7 := { stood := { row := fnExactCompareRow, standIns := [], harness := (true, "b75b773852959c5247afd18ef90919ec67df20c7244692005a47031de84d4aff"), looks := false }, kinds := [], alts := [], laidByText := true, laidKinds := [.data, .data, .data, .data, .pinned], laidTests := true, laidLooks := .later }
def FnExactCompareCardSaid : Prop := Claim7.holds Tryd.pinned (.plain (OpenSpec.ofChange fnExactCompareSpec)) fnExactCompareCard

/-- THE TIED CARD OF 'laws.FnExactRelate'. -/
def fnExactRelateCard : Claim7 := { stood := { row := fnExactRelateRow, standIns := [], harness := (true, "b75b773852959c5247afd18ef90919ec67df20c7244692005a47031de84d4aff"), looks := false }, kinds := [], alts := [], laidByText := true, laidKinds := [.data, .data, .data, .data, .pinned], laidTests := true, laidLooks := .later }
def FnExactRelateCardSaid : Prop := Claim7.holds Tryd.pinned (.plain (OpenSpec.ofChange fnExactRelateSpec)) fnExactRelateCard

/-- THE TIED CARD OF 'laws.FnCells'. -/
def fnCellsCard : Claim7 := { stood := { row := fnCellsRow, standIns := [], harness := (true, "b75b773852959c5247afd18ef90919ec67df20c7244692005a47031de84d4aff"), looks := false }, kinds := [], alts := [], laidByText := true, laidKinds := [.data, .data, .data, .data, .pinned], laidTests := true, laidLooks := .later }
def FnCellsCardSaid : Prop := Claim7.holds Tryd.pinned (.plain (OpenSpec.ofChange fnCellsSpec)) fnCellsCard

/-- THE TIED CARD OF 'laws.FnCompares'. -/
def fnComparesCard : Claim7 := { stood := { row := fnComparesRow, standIns := [], harness := (true, "b75b773852959c5247afd18ef90919ec67df20c7244692005a47031de84d4aff"), looks := false }, kinds := [], alts := [], laidByText := true, laidKinds := [.data, .data, .data, .data, .pinned], laidTests := true, laidLooks := .later }
def FnComparesCardSaid : Prop := Claim7.holds Tryd.pinned (.plain (OpenSpec.ofChange fnComparesSpec)) fnComparesCard

/-- THE TIED CARD OF 'laws.FnTexts'. -/
def fnTextsCard : Claim7 := { stood := { row := fnTextsRow, standIns := [], harness := (true, "b75b773852959c5247afd18ef90919ec67df20c7244692005a47031de84d4aff"), looks := false }, kinds := [], alts := [], laidByText := true, laidKinds := [.data, .data, .data, .data, .pinned], laidTests := true, laidLooks := .later }
def FnTextsCardSaid : Prop := Claim7.holds Tryd.pinned (.plain (OpenSpec.ofChange fnTextsSpec)) fnTextsCard

/-- THE TIED CARD OF 'laws.FnPlaces'. -/
def fnPlacesCard : Claim7 := { stood := { row := fnPlacesRow, standIns := [], harness := (true, "b75b773852959c5247afd18ef90919ec67df20c7244692005a47031de84d4aff"), looks := false }, kinds := [], alts := [], laidByText := true, laidKinds := [.data, .data, .data, .data, .pinned], laidTests := true, laidLooks := .later }
def FnPlacesCardSaid : Prop := Claim7.holds Tryd.pinned (.plain (OpenSpec.ofChange fnPlacesSpec)) fnPlacesCard

/-- THE TIED CARD OF 'laws.FnWords'. -/
def fnWordsCard : Claim7 := { stood := { row := fnWordsRow, standIns := [], harness := (true, "b75b773852959c5247afd18ef90919ec67df20c7244692005a47031de84d4aff"), looks := false }, kinds := [], alts := [], laidByText := true, laidKinds := [.data, .data, .data, .data, .pinned], laidTests := true, laidLooks := .later }
def FnWordsCardSaid : Prop := Claim7.holds Tryd.pinned (.plain (OpenSpec.ofChange fnWordsSpec)) fnWordsCard

/-- THE SECOND FORM's CARD OF 'laws.FnExactCompare'. -/
def fnExactCompareUptoCard : Claim7 := { stood := { row := fnExactCompareUptoRow, standIns := [], harness := (true, "b75b773852959c5247afd18ef90919ec67df20c7244692005a47031de84d4aff"), looks := false }, kinds := [], alts := [], laidByText := true, laidKinds := [.data, .data, .data, .data, .pinned], laidTests := true, laidLooks := .later }
def FnExactCompareUptoCardSaid : Prop := Claim7.holds Tryd.pinned (.plain (OpenSpec.upto fnExactCompareSpec)) fnExactCompareUptoCard

/-- THE SECOND FORM's CARD OF 'laws.FnExactRelate'. -/
def fnExactRelateUptoCard : Claim7 := { stood := { row := fnExactRelateUptoRow, standIns := [], harness := (true, "b75b773852959c5247afd18ef90919ec67df20c7244692005a47031de84d4aff"), looks := false }, kinds := [], alts := [], laidByText := true, laidKinds := [.data, .data, .data, .data, .pinned], laidTests := true, laidLooks := .later }
def FnExactRelateUptoCardSaid : Prop := Claim7.holds Tryd.pinned (.plain (OpenSpec.upto fnExactRelateSpec)) fnExactRelateUptoCard

/-- THE SECOND FORM's CARD OF 'laws.FnCells'. -/
def fnCellsUptoCard : Claim7 := { stood := { row := fnCellsUptoRow, standIns := [], harness := (true, "b75b773852959c5247afd18ef90919ec67df20c7244692005a47031de84d4aff"), looks := false }, kinds := [], alts := [], laidByText := true, laidKinds := [.data, .data, .data, .data, .pinned], laidTests := true, laidLooks := .later }
def FnCellsUptoCardSaid : Prop := Claim7.holds Tryd.pinned (.plain (OpenSpec.upto fnCellsSpec)) fnCellsUptoCard

/-- THE SECOND FORM's CARD OF 'laws.FnCompares'. -/
def fnComparesUptoCard : Claim7 := { stood := { row := fnComparesUptoRow, standIns := [], harness := (true, "b75b773852959c5247afd18ef90919ec67df20c7244692005a47031de84d4aff"), looks := false }, kinds := [], alts := [], laidByText := true, laidKinds := [.data, .data, .data, .data, .pinned], laidTests := true, laidLooks := .later }
def FnComparesUptoCardSaid : Prop := Claim7.holds Tryd.pinned (.plain (OpenSpec.upto fnComparesSpec)) fnComparesUptoCard

/-- THE SECOND FORM's CARD OF 'laws.FnTexts'. -/
def fnTextsUptoCard : Claim7 := { stood := { row := fnTextsUptoRow, standIns := [], harness := (true, "b75b773852959c5247afd18ef90919ec67df20c7244692005a47031de84d4aff"), looks := false }, kinds := [], alts := [], laidByText := true, laidKinds := [.data, .data, .data, .data, .pinned], laidTests := true, laidLooks := .later }
def FnTextsUptoCardSaid : Prop := Claim7.holds Tryd.pinned (.plain (OpenSpec.upto fnTextsSpec)) fnTextsUptoCard

/-- THE SECOND FORM's CARD OF 'laws.FnPlaces'. -/
def fnPlacesUptoCard : Claim7 := { stood := { row := fnPlacesUptoRow, standIns := [], harness := (true, "b75b773852959c5247afd18ef90919ec67df20c7244692005a47031de84d4aff"), looks := false }, kinds := [], alts := [], laidByText := true, laidKinds := [.data, .data, .data, .data, .pinned], laidTests := true, laidLooks := .later }
def FnPlacesUptoCardSaid : Prop := Claim7.holds Tryd.pinned (.plain (OpenSpec.upto fnPlacesSpec)) fnPlacesUptoCard

/-- THE SECOND FORM's CARD OF 'laws.FnWords'. -/
def fnWordsUptoCard : Claim7 := { stood := { row := fnWordsUptoRow, standIns := [], harness := (true, "b75b773852959c5247afd18ef90919ec67df20c7244692005a47031de84d4aff"), looks := false }, kinds := [], alts := [], laidByText := true, laidKinds := [.data, .data, .data, .data, .pinned], laidTests := true, laidLooks := .later }
def FnWordsUptoCardSaid : Prop := Claim7.holds Tryd.pinned (.plain (OpenSpec.upto fnWordsSpec)) fnWordsUptoCard
end Rows
end Go.Proofs.YtnfiljnncpieoaaDoor
