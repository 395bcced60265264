/-
  DERIVED. GIVEN WITH THE SEED: THE CARDS: each row of YtehngpkgdcnkiaaGreatDoorRows.lean that lists a variable, with what it lists TIED to the program's text (the seventh form; the later family's looks); each row that meets fmt, with fmt's text TOLD by the authors' own Lean function (tested against real Go, not proved from fmt's source: count such statements apart). THE CARD IS WHAT COUNTS. Prove the row's statement (the work); the ties are given (YtehngpkgdcnkiaaGreatDoorTie.lean); close each card by the builder's one call (the guide's Derived/Test/ToyasCard.lean, 'card_holds'). Laid BY PROGRAM, IN A SANDBOX (cutbox-door.mjs). By AI agents, Wed Nov 11 2026. No macro, syntax, notation, axiom, sorry.
-/
import Derived.Test.YtehngpkgdcnkiaaGreatDoorRows
import GoSem.ClaimSeven
namespace Go.Proofs.YtehngpkgdcnkiaaGreatDoor
namespace Rows

/-- THE TIED CARD OF 'liquidchecklaw34.MeasureWrites'. -/
def measureWritesCard : Claim7 := { stood := { row := measureWritesRow, standIns := [], harness := (true, "b9ed6369f16373133a34334645b881567b2a74912c6992ae01f96dcefd9464d5"), looks := false }, kinds := [], alts := [], laidByText := true, laidKinds := [.data, .data, .data, .data], laidTests := true, laidLooks := .later }
def MeasureWritesCardSaid : Prop := Claim7.holds Tryz.pinned (.plain (OpenSpec.ofChange measureWritesSpec)) measureWritesCard

/-- THE TIED CARD OF 'liquidchecklaw34.MeasureSymbols'. -/
def measureSymbolsCard : Claim7 := { stood := { row := measureSymbolsRow, standIns := [], harness := (true, "b9ed6369f16373133a34334645b881567b2a74912c6992ae01f96dcefd9464d5"), looks := false }, kinds := [], alts := [], laidByText := true, laidKinds := [.data, .data, .data, .data], laidTests := true, laidLooks := .later }
def MeasureSymbolsCardSaid : Prop := Claim7.holds Tryz.pinned (.plain (OpenSpec.ofChange measureSymbolsSpec)) measureSymbolsCard

/-- THE TIED CARD OF 'liquidchecklaw34.MeasureParts'. -/
def measurePartsCard : Claim7 := { stood := { row := measurePartsRow, standIns := [], harness := (true, "b9ed6369f16373133a34334645b881567b2a74912c6992ae01f96dcefd9464d5"), looks := false }, kinds := [], alts := [], laidByText := true, laidKinds := [.data, .data, .data, .data], laidTests := true, laidLooks := .later }
def MeasurePartsCardSaid : Prop := Claim7.holds Tryz.pinned (.plain (OpenSpec.ofChange measurePartsSpec)) measurePartsCard

/-- THE TIED CARD OF 'liquidchecklaw34.MeasureHolds'. -/
def measureHoldsCard : Claim7 := { stood := { row := measureHoldsRow, standIns := [], harness := (true, "b9ed6369f16373133a34334645b881567b2a74912c6992ae01f96dcefd9464d5"), looks := false }, kinds := [], alts := [], laidByText := true, laidKinds := [.data, .data, .data, .data], laidTests := true, laidLooks := .later }
def MeasureHoldsCardSaid : Prop := Claim7.holds Tryz.pinned (.plain (OpenSpec.ofChange measureHoldsSpec)) measureHoldsCard

/-- THE SECOND FORM's CARD OF 'liquidchecklaw34.MeasureWrites'. -/
def measureWritesUptoCard : Claim7 := { stood := { row := measureWritesUptoRow, standIns := [], harness := (true, "b9ed6369f16373133a34334645b881567b2a74912c6992ae01f96dcefd9464d5"), looks := false }, kinds := [], alts := [], laidByText := true, laidKinds := [.data, .data, .data, .data], laidTests := true, laidLooks := .later }
def MeasureWritesUptoCardSaid : Prop := Claim7.holds Tryz.pinned (.plain (OpenSpec.upto measureWritesSpec)) measureWritesUptoCard

/-- THE SECOND FORM's CARD OF 'liquidchecklaw34.MeasureSymbols'. -/
def measureSymbolsUptoCard : Claim7 := { stood := { row := measureSymbolsUptoRow, standIns := [], harness := (true, "b9ed6369f16373133a34334645b881567b2a74912c6992ae01f96dcefd9464d5"), looks := false }, kinds := [], alts := [], laidByText := true, laidKinds := [.data, .data, .data, .data], laidTests := true, laidLooks := .later }
def MeasureSymbolsUptoCardSaid : Prop := Claim7.holds Tryz.pinned (.plain (OpenSpec.upto measureSymbolsSpec)) measureSymbolsUptoCard

/-- THE SECOND FORM's CARD OF 'liquidchecklaw34.MeasureParts'. -/
def measurePartsUptoCard : Claim7 := { stood := { row := measurePartsUptoRow, standIns := [], harness := (true, "b9ed6369f16373133a34334645b881567b2a74912c6992ae01f96dcefd9464d5"), looks := false }, kinds := [], alts := [], laidByText := true, laidKinds := [.data, .data, .data, .data], laidTests := true, laidLooks := .later }
def MeasurePartsUptoCardSaid : Prop := Claim7.holds Tryz.pinned (.plain (OpenSpec.upto measurePartsSpec)) measurePartsUptoCard

/-- THE SECOND FORM's CARD OF 'liquidchecklaw34.MeasureHolds'. -/
def measureHoldsUptoCard : Claim7 := { stood := { row := measureHoldsUptoRow, standIns := [], harness := (true, "b9ed6369f16373133a34334645b881567b2a74912c6992ae01f96dcefd9464d5"), looks := false }, kinds := [], alts := [], laidByText := true, laidKinds := [.data, .data, .data, .data], laidTests := true, laidLooks := .later }
def MeasureHoldsUptoCardSaid : Prop := Claim7.holds Tryz.pinned (.plain (OpenSpec.upto measureHoldsSpec)) measureHoldsUptoCard
end Rows
end Go.Proofs.YtehngpkgdcnkiaaGreatDoor
