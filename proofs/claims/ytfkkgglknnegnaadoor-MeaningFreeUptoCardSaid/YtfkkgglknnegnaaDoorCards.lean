/-
  DERIVED. GIVEN WITH THE SEED: THE CARDS: each row of YtfkkgglknnegnaaDoorRows.lean that lists a variable, with what it lists TIED to the program's text (the seventh form; the later family's looks); each row that meets fmt, with fmt's text TOLD by the authors' own Lean function (tested against real Go, not proved from fmt's source: count such statements apart). THE CARD IS WHAT COUNTS. Prove the row's statement (the work); the ties are given (YtfkkgglknnegnaaDoorTie.lean); close each card by the builder's one call (the guide's Derived/Test/ToyasCard.lean, 'card_holds'). Laid BY PROGRAM, IN A SANDBOX (cutbox-door.mjs). By AI agents, Wed Nov 11 2026. No macro, syntax, notation, axiom, sorry.
-/
import Derived.Test.YtfkkgglknnegnaaDoorRows
import GoSem.ClaimSeven
namespace Go.Proofs.YtfkkgglknnegnaaDoor
namespace Rows

/-- THE TIED CARD OF 'liquidchecklaw09.SortingFinds'. -/
def sortingFindsCard : Claim7 := { stood := { row := sortingFindsRow, standIns := [], harness := (true, "f2c4d5b7df10e6d88588786f9b3dc31d9b648b44fd1722ab4a12d6e8b54bf627"), looks := false }, kinds := [], alts := [], laidByText := true, laidKinds := [.data], laidTests := true, laidLooks := .later }
def SortingFindsCardSaid : Prop := Claim7.holds Tryd.pinned (.plain (OpenSpec.ofChange sortingFindsSpec)) sortingFindsCard

/-- THE TIED CARD OF 'liquidchecklaw09.SortingLists'. -/
def sortingListsCard : Claim7 := { stood := { row := sortingListsRow, standIns := [], harness := (true, "f2c4d5b7df10e6d88588786f9b3dc31d9b648b44fd1722ab4a12d6e8b54bf627"), looks := false }, kinds := [], alts := [], laidByText := true, laidKinds := [.data], laidTests := true, laidLooks := .later }
def SortingListsCardSaid : Prop := Claim7.holds Tryd.pinned (.plain (OpenSpec.ofChange sortingListsSpec)) sortingListsCard

/-- THE TIED CARD OF 'liquidchecklaw09.SortingParts'. -/
def sortingPartsCard : Claim7 := { stood := { row := sortingPartsRow, standIns := [], harness := (true, "f2c4d5b7df10e6d88588786f9b3dc31d9b648b44fd1722ab4a12d6e8b54bf627"), looks := false }, kinds := [], alts := [], laidByText := true, laidKinds := [.data], laidTests := true, laidLooks := .later }
def SortingPartsCardSaid : Prop := Claim7.holds Tryd.pinned (.plain (OpenSpec.ofChange sortingPartsSpec)) sortingPartsCard

/-- THE TIED CARD OF 'liquidchecklaw09.SortingMore'. -/
def sortingMoreCard : Claim7 := { stood := { row := sortingMoreRow, standIns := [], harness := (true, "f2c4d5b7df10e6d88588786f9b3dc31d9b648b44fd1722ab4a12d6e8b54bf627"), looks := false }, kinds := [], alts := [], laidByText := true, laidKinds := [.data], laidTests := true, laidLooks := .later }
def SortingMoreCardSaid : Prop := Claim7.holds Tryd.pinned (.plain (OpenSpec.ofChange sortingMoreSpec)) sortingMoreCard

/-- THE TIED CARD OF 'liquidchecklaw09.SortingConnects'. -/
def sortingConnectsCard : Claim7 := { stood := { row := sortingConnectsRow, standIns := [], harness := (true, "f2c4d5b7df10e6d88588786f9b3dc31d9b648b44fd1722ab4a12d6e8b54bf627"), looks := false }, kinds := [], alts := [], laidByText := true, laidKinds := [.data], laidTests := true, laidLooks := .later }
def SortingConnectsCardSaid : Prop := Claim7.holds Tryd.pinned (.plain (OpenSpec.ofChange sortingConnectsSpec)) sortingConnectsCard

/-- THE TIED CARD OF 'liquidchecklaw10.MeaningValues'. -/
def meaningValuesCard : Claim7 := { stood := { row := meaningValuesRow, standIns := [], harness := (true, "f2c4d5b7df10e6d88588786f9b3dc31d9b648b44fd1722ab4a12d6e8b54bf627"), looks := false }, kinds := [], alts := [], laidByText := true, laidKinds := [.data, .data, .data, .data], laidTests := true, laidLooks := .later }
def MeaningValuesCardSaid : Prop := Claim7.holds Tryd.pinned (.plain (OpenSpec.ofChange meaningValuesSpec)) meaningValuesCard

/-- THE TIED CARD OF 'liquidchecklaw10.MeaningFinds'. -/
def meaningFindsCard : Claim7 := { stood := { row := meaningFindsRow, standIns := [], harness := (true, "f2c4d5b7df10e6d88588786f9b3dc31d9b648b44fd1722ab4a12d6e8b54bf627"), looks := false }, kinds := [], alts := [], laidByText := true, laidKinds := [.data, .data, .data, .data], laidTests := true, laidLooks := .later }
def MeaningFindsCardSaid : Prop := Claim7.holds Tryd.pinned (.plain (OpenSpec.ofChange meaningFindsSpec)) meaningFindsCard

/-- THE TIED CARD OF 'liquidchecklaw10.MeaningReplaces'. -/
def meaningReplacesCard : Claim7 := { stood := { row := meaningReplacesRow, standIns := [], harness := (true, "f2c4d5b7df10e6d88588786f9b3dc31d9b648b44fd1722ab4a12d6e8b54bf627"), looks := false }, kinds := [], alts := [], laidByText := true, laidKinds := [.data, .data, .data, .data], laidTests := true, laidLooks := .later }
def MeaningReplacesCardSaid : Prop := Claim7.holds Tryd.pinned (.plain (OpenSpec.ofChange meaningReplacesSpec)) meaningReplacesCard

/-- THE TIED CARD OF 'liquidchecklaw10.MeaningJoins'. -/
def meaningJoinsCard : Claim7 := { stood := { row := meaningJoinsRow, standIns := [], harness := (true, "f2c4d5b7df10e6d88588786f9b3dc31d9b648b44fd1722ab4a12d6e8b54bf627"), looks := false }, kinds := [], alts := [], laidByText := true, laidKinds := [.data, .data, .data, .data], laidTests := true, laidLooks := .later }
def MeaningJoinsCardSaid : Prop := Claim7.holds Tryd.pinned (.plain (OpenSpec.ofChange meaningJoinsSpec)) meaningJoinsCard

/-- THE TIED CARD OF 'liquidchecklaw10.MeaningFree'. -/
def meaningFreeCard : Claim7 := { stood := { row := meaningFreeRow, standIns := [], harness := (true, "f2c4d5b7df10e6d88588786f9b3dc31d9b648b44fd1722ab4a12d6e8b54bf627"), looks := false }, kinds := [], alts := [], laidByText := true, laidKinds := [.data, .data, .data, .data], laidTests := true, laidLooks := .later }
def MeaningFreeCardSaid : Prop := Claim7.holds Tryd.pinned (.plain (OpenSpec.ofChange meaningFreeSpec)) meaningFreeCard

/-- THE TIED CARD OF 'liquidchecklaw09.SortingReplaces'. -/
def sortingReplacesCard : Claim7 := { stood := { row := sortingReplacesRow, standIns := [], harness := (true, "f2c4d5b7df10e6d88588786f9b3dc31d9b648b44fd1722ab4a12d6e8b54bf627"), looks := false }, kinds := [], alts := [], laidByText := true, laidKinds := [.data], laidTests := true, laidLooks := .later }
def SortingReplacesCardSaid : Prop := Claim7.holds Tryd.pinned (.plain (OpenSpec.ofChange sortingReplacesSpec)) sortingReplacesCard

/-- THE SECOND FORM's CARD OF 'liquidchecklaw09.SortingFinds'. -/
def sortingFindsUptoCard : Claim7 := { stood := { row := sortingFindsUptoRow, standIns := [], harness := (true, "f2c4d5b7df10e6d88588786f9b3dc31d9b648b44fd1722ab4a12d6e8b54bf627"), looks := false }, kinds := [], alts := [], laidByText := true, laidKinds := [.data], laidTests := true, laidLooks := .later }
def SortingFindsUptoCardSaid : Prop := Claim7.holds Tryd.pinned (.plain (OpenSpec.upto sortingFindsSpec)) sortingFindsUptoCard

/-- THE SECOND FORM's CARD OF 'liquidchecklaw09.SortingLists'. -/
def sortingListsUptoCard : Claim7 := { stood := { row := sortingListsUptoRow, standIns := [], harness := (true, "f2c4d5b7df10e6d88588786f9b3dc31d9b648b44fd1722ab4a12d6e8b54bf627"), looks := false }, kinds := [], alts := [], laidByText := true, laidKinds := [.data], laidTests := true, laidLooks := .later }
def SortingListsUptoCardSaid : Prop := Claim7.holds Tryd.pinned (.plain (OpenSpec.upto sortingListsSpec)) sortingListsUptoCard

/-- THE SECOND FORM's CARD OF 'liquidchecklaw09.SortingParts'. -/
def sortingPartsUptoCard : Claim7 := { stood := { row := sortingPartsUptoRow, standIns := [], harness := (true, "f2c4d5b7df10e6d88588786f9b3dc31d9b648b44fd1722ab4a12d6e8b54bf627"), looks := false }, kinds := [], alts := [], laidByText := true, laidKinds := [.data], laidTests := true, laidLooks := .later }
def SortingPartsUptoCardSaid : Prop := Claim7.holds Tryd.pinned (.plain (OpenSpec.upto sortingPartsSpec)) sortingPartsUptoCard

/-- THE SECOND FORM's CARD OF 'liquidchecklaw09.SortingMore'. -/
def sortingMoreUptoCard : Claim7 := { stood := { row := sortingMoreUptoRow, standIns := [], harness := (true, "f2c4d5b7df10e6d88588786f9b3dc31d9b648b44fd1722ab4a12d6e8b54bf627"), looks := false }, kinds := [], alts := [], laidByText := true, laidKinds := [.data], laidTests := true, laidLooks := .later }
def SortingMoreUptoCardSaid : Prop := Claim7.holds Tryd.pinned (.plain (OpenSpec.upto sortingMoreSpec)) sortingMoreUptoCard

/-- THE SECOND FORM's CARD OF 'liquidchecklaw09.SortingConnects'. -/
def sortingConnectsUptoCard : Claim7 := { stood := { row := sortingConnectsUptoRow, standIns := [], harness := (true, "f2c4d5b7df10e6d88588786f9b3dc31d9b648b44fd1722ab4a12d6e8b54bf627"), looks := false }, kinds := [], alts := [], laidByText := true, laidKinds := [.data], laidTests := true, laidLooks := .later }
def SortingConnectsUptoCardSaid : Prop := Claim7.holds Tryd.pinned (.plain (OpenSpec.upto sortingConnectsSpec)) sortingConnectsUptoCard

/-- THE SECOND FORM's CARD OF 'liquidchecklaw10.MeaningValues'. -/
def meaningValuesUptoCard : Claim7 := { stood := { row := meaningValuesUptoRow, standIns := [], harness := (true, "f2c4d5b7df10e6d88588786f9b3dc31d9b648b44fd1722ab4a12d6e8b54bf627"), looks := false }, kinds := [], alts := [], laidByText := true, laidKinds := [.data, .data, .data, .data], laidTests := true, laidLooks := .later }
def MeaningValuesUptoCardSaid : Prop := Claim7.holds Tryd.pinned (.plain (OpenSpec.upto meaningValuesSpec)) meaningValuesUptoCard

/-- THE SECOND FORM's CARD OF 'liquidchecklaw10.MeaningFinds'. -/
def meaningFindsUptoCard : Claim7 := { stood := { row := meaningFindsUptoRow, standIns := [], harness := (true, "f2c4d5b7df10e6d88588786f9b3dc31d9b648b44fd1722ab4a12d6e8b54bf627"), looks := false }, kinds := [], alts := [], laidByText := true, laidKinds := [.data, .data, .data, .data], laidTests := true, laidLooks := .later }
def MeaningFindsUptoCardSaid : Prop := Claim7.holds Tryd.pinned (.plain (OpenSpec.upto meaningFindsSpec)) meaningFindsUptoCard

/-- THE SECOND FORM's CARD OF 'liquidchecklaw10.MeaningReplaces'. -/
def meaningReplacesUptoCard : Claim7 := { stood := { row := meaningReplacesUptoRow, standIns := [], harness := (true, "f2c4d5b7df10e6d88588786f9b3dc31d9b648b44fd1722ab4a12d6e8b54bf627"), looks := false }, kinds := [], alts := [], laidByText := true, laidKinds := [.data, .data, .data, .data], laidTests := true, laidLooks := .later }
def MeaningReplacesUptoCardSaid : Prop := Claim7.holds Tryd.pinned (.plain (OpenSpec.upto meaningReplacesSpec)) meaningReplacesUptoCard

/-- THE SECOND FORM's CARD OF 'liquidchecklaw10.MeaningJoins'. -/
def meaningJoinsUptoCard : Claim7 := { stood := { row := meaningJoinsUptoRow, standIns := [], harness := (true, "f2c4d5b7df10e6d88588786f9b3dc31d9b648b44fd1722ab4a12d6e8b54bf627"), looks := false }, kinds := [], alts := [], laidByText := true, laidKinds := [.data, .data, .data, .data], laidTests := true, laidLooks := .later }
def MeaningJoinsUptoCardSaid : Prop := Claim7.holds Tryd.pinned (.plain (OpenSpec.upto meaningJoinsSpec)) meaningJoinsUptoCard

/-- THE SECOND FORM's CARD OF 'liquidchecklaw10.MeaningFree'. -/
def meaningFreeUptoCard : Claim7 := { stood := { row := meaningFreeUptoRow, standIns := [], harness := (true, "f2c4d5b7df10e6d88588786f9b3dc31d9b648b44fd1722ab4a12d6e8b54bf627"), looks := false }, kinds := [], alts := [], laidByText := true, laidKinds := [.data, .data, .data, .data], laidTests := true, laidLooks := .later }
def MeaningFreeUptoCardSaid : Prop := Claim7.holds Tryd.pinned (.plain (OpenSpec.upto meaningFreeSpec)) meaningFreeUptoCard

/-- THE SECOND FORM's CARD OF 'liquidchecklaw09.SortingReplaces'. -/
def sortingReplacesUptoCard : Claim7 := { stood := { row := sortingReplacesUptoRow, standIns := [], harness := (true, "f2c4d5b7df10e6d88588786f9b3dc31d9b648b44fd1722ab4a12d6e8b54bf627"), looks := false }, kinds := [], alts := [], laidByText := true, laidKinds := [.data], laidTests := true, laidLooks := .later }
def SortingReplacesUptoCardSaid : Prop := Claim7.holds Tryd.pinned (.plain (OpenSpec.upto sortingReplacesSpec)) sortingReplacesUptoCard
end Rows
end Go.Proofs.YtfkkgglknnegnaaDoor
