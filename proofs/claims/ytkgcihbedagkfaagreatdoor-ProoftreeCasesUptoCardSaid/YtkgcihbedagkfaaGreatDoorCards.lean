/-
  DERIVED. GIVEN WITH THE SEED: THE CARDS: each row of YtkgcihbedagkfaaGreatDoorRows.lean that lists a variable, with what it lists TIED to the program's text (the seventh form; the later family's looks); each row that meets fmt, with fmt's text TOLD by the authors' own Lean function (tested against real Go, not proved from fmt's source: count such statements apart). THE CARD IS WHAT COUNTS. Prove the row's statement (the work); the ties are given (YtkgcihbedagkfaaGreatDoorTie.lean); close each card by the builder's one call (the guide's Derived/Test/ToyasCard.lean, 'card_holds'). Laid BY PROGRAM, IN A SANDBOX (cutbox-door.mjs). By AI agents, Wed Nov 11 2026. No macro, syntax, notation, axiom, sorry.
-/
import Derived.Test.YtkgcihbedagkfaaGreatDoorRows
import GoSem.ClaimSeven
namespace Go.Proofs.YtkgcihbedagkfaaGreatDoor
namespace Rows

/-- THE TIED CARD OF 'liquidchecklaw17.ProoftreeChecks'. -/
def prooftreeChecksCard : Claim7 := { stood := { row := prooftreeChecksRow, standIns := [], harness := (true, "d567ac061939c64aa40695eb1000348786efc68d317443e8a7a39980a7f50525"), looks := true }, kinds := [], alts := [], laidByText := true, laidKinds := [.data, .data, .data, .sentinel, .sentinel], laidTests := true, laidLooks := .later }
def ProoftreeChecksCardSaid : Prop := Claim7.holds Tryz.pinned (.plain (OpenSpec.ofChange prooftreeChecksSpec)) prooftreeChecksCard

/-- THE TIED CARD OF 'liquidchecklaw17.ProoftreeSound'. -/
def prooftreeSoundCard : Claim7 := { stood := { row := prooftreeSoundRow, standIns := [], harness := (true, "d567ac061939c64aa40695eb1000348786efc68d317443e8a7a39980a7f50525"), looks := true }, kinds := [], alts := [], laidByText := true, laidKinds := [.data, .data, .data, .sentinel, .sentinel], laidTests := true, laidLooks := .later }
def ProoftreeSoundCardSaid : Prop := Claim7.holds Tryz.pinned (.plain (OpenSpec.ofChange prooftreeSoundSpec)) prooftreeSoundCard

/-- THE TIED CARD OF 'liquidchecklaw17.ProoftreeCases'. -/
def prooftreeCasesCard : Claim7 := { stood := { row := prooftreeCasesRow, standIns := [], harness := (true, "d567ac061939c64aa40695eb1000348786efc68d317443e8a7a39980a7f50525"), looks := true }, kinds := [], alts := [], laidByText := true, laidKinds := [.data, .data, .data, .sentinel, .sentinel], laidTests := true, laidLooks := .later }
def ProoftreeCasesCardSaid : Prop := Claim7.holds Tryz.pinned (.plain (OpenSpec.ofChange prooftreeCasesSpec)) prooftreeCasesCard

/-- THE SECOND FORM's CARD OF 'liquidchecklaw17.ProoftreeChecks'. -/
def prooftreeChecksUptoCard : Claim7 := { stood := { row := prooftreeChecksUptoRow, standIns := [], harness := (true, "d567ac061939c64aa40695eb1000348786efc68d317443e8a7a39980a7f50525"), looks := true }, kinds := [], alts := [], laidByText := true, laidKinds := [.data, .data, .data, .sentinel, .sentinel], laidTests := true, laidLooks := .later }
def ProoftreeChecksUptoCardSaid : Prop := Claim7.holds Tryz.pinned (.plain (OpenSpec.upto prooftreeChecksSpec)) prooftreeChecksUptoCard

/-- THE SECOND FORM's CARD OF 'liquidchecklaw17.ProoftreeSound'. -/
def prooftreeSoundUptoCard : Claim7 := { stood := { row := prooftreeSoundUptoRow, standIns := [], harness := (true, "d567ac061939c64aa40695eb1000348786efc68d317443e8a7a39980a7f50525"), looks := true }, kinds := [], alts := [], laidByText := true, laidKinds := [.data, .data, .data, .sentinel, .sentinel], laidTests := true, laidLooks := .later }
def ProoftreeSoundUptoCardSaid : Prop := Claim7.holds Tryz.pinned (.plain (OpenSpec.upto prooftreeSoundSpec)) prooftreeSoundUptoCard

/-- THE SECOND FORM's CARD OF 'liquidchecklaw17.ProoftreeCases'. -/
def prooftreeCasesUptoCard : Claim7 := { stood := { row := prooftreeCasesUptoRow, standIns := [], harness := (true, "d567ac061939c64aa40695eb1000348786efc68d317443e8a7a39980a7f50525"), looks := true }, kinds := [], alts := [], laidByText := true, laidKinds := [.data, .data, .data, .sentinel, .sentinel], laidTests := true, laidLooks := .later }
def ProoftreeCasesUptoCardSaid : Prop := Claim7.holds Tryz.pinned (.plain (OpenSpec.upto prooftreeCasesSpec)) prooftreeCasesUptoCard
end Rows
end Go.Proofs.YtkgcihbedagkfaaGreatDoor
