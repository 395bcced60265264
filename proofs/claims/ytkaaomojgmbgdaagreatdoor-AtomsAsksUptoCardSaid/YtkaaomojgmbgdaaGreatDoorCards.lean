/-
  DERIVED. GIVEN WITH THE SEED: THE CARDS: each row of YtkaaomojgmbgdaaGreatDoorRows.lean that lists a variable, with what it lists TIED to the program's text (the seventh form; the later family's looks); each row that meets fmt, with fmt's text TOLD by the authors' own Lean function (tested against real Go, not proved from fmt's source: count such statements apart). THE CARD IS WHAT COUNTS. Prove the row's statement (the work); the ties are given (YtkaaomojgmbgdaaGreatDoorTie.lean); close each card by the builder's one call (the guide's Derived/Test/ToyasCard.lean, 'card_holds'). Laid BY PROGRAM, IN A SANDBOX (cutbox-door.mjs). By AI agents, Wed Nov 11 2026. No macro, syntax, notation, axiom, sorry.
-/
import Derived.Test.YtkaaomojgmbgdaaGreatDoorRows
import GoSem.ClaimSeven
namespace Go.Proofs.YtkaaomojgmbgdaaGreatDoor
namespace Rows

/-- THE TIED CARD OF 'liquidchecklaw12.AtomsNames'. -/
def atomsNamesCard : Claim7 := { stood := { row := atomsNamesRow, standIns := [], harness := (true, "90ff04c82adb710fc68e7cffa7cafc97c204f1ea2332edcd202406e36290e776"), looks := true }, kinds := [], alts := [], laidByText := true, laidKinds := [.data, .data, .data, .data, .sentinel, .sentinel, .data, .pinned, .pinned, .pinned, .pinned, .pinned, .pinned], laidTests := true, laidLooks := .later }
def AtomsNamesCardSaid : Prop := Claim7.holds Tryz.pinned (.plain (OpenSpec.ofChange atomsNamesSpec)) atomsNamesCard

/-- THE TIED CARD OF 'liquidchecklaw12.AtomsCloses'. -/
def atomsClosesCard : Claim7 := { stood := { row := atomsClosesRow, standIns := [], harness := (true, "90ff04c82adb710fc68e7cffa7cafc97c204f1ea2332edcd202406e36290e776"), looks := true }, kinds := [], alts := [], laidByText := true, laidKinds := [.data, .data, .data, .data, .sentinel, .sentinel, .data, .pinned, .pinned, .pinned, .pinned, .pinned, .pinned], laidTests := true, laidLooks := .later }
def AtomsClosesCardSaid : Prop := Claim7.holds Tryz.pinned (.plain (OpenSpec.ofChange atomsClosesSpec)) atomsClosesCard

/-- THE TIED CARD OF 'liquidchecklaw12.AtomsAsks'. -/
def atomsAsksCard : Claim7 := { stood := { row := atomsAsksRow, standIns := [], harness := (true, "90ff04c82adb710fc68e7cffa7cafc97c204f1ea2332edcd202406e36290e776"), looks := true }, kinds := [], alts := [], laidByText := true, laidKinds := [.data, .data, .data, .data, .sentinel, .sentinel, .data, .pinned, .pinned, .pinned, .pinned, .pinned, .pinned], laidTests := true, laidLooks := .later }
def AtomsAsksCardSaid : Prop := Claim7.holds Tryz.pinned (.plain (OpenSpec.ofChange atomsAsksSpec)) atomsAsksCard

/-- THE TIED CARD OF 'liquidchecklaw12.AtomsEvals'. -/
def atomsEvalsCard : Claim7 := { stood := { row := atomsEvalsRow, standIns := [], harness := (true, "90ff04c82adb710fc68e7cffa7cafc97c204f1ea2332edcd202406e36290e776"), looks := true }, kinds := [], alts := [], laidByText := true, laidKinds := [.data, .data, .data, .data, .sentinel, .sentinel, .data, .pinned, .pinned, .pinned, .pinned, .pinned, .pinned], laidTests := true, laidLooks := .later }
def AtomsEvalsCardSaid : Prop := Claim7.holds Tryz.pinned (.plain (OpenSpec.ofChange atomsEvalsSpec)) atomsEvalsCard

/-- THE TIED CARD OF 'liquidchecklaw12.AtomsSigns'. -/
def atomsSignsCard : Claim7 := { stood := { row := atomsSignsRow, standIns := [], harness := (true, "90ff04c82adb710fc68e7cffa7cafc97c204f1ea2332edcd202406e36290e776"), looks := true }, kinds := [], alts := [], laidByText := true, laidKinds := [.data, .data, .data, .data, .sentinel, .sentinel, .data, .pinned, .pinned, .pinned, .pinned, .pinned, .pinned], laidTests := true, laidLooks := .later }
def AtomsSignsCardSaid : Prop := Claim7.holds Tryz.pinned (.plain (OpenSpec.ofChange atomsSignsSpec)) atomsSignsCard

/-- THE TIED CARD OF 'liquidchecklaw12.AtomsRows'. -/
def atomsRowsCard : Claim7 := { stood := { row := atomsRowsRow, standIns := [], harness := (true, "90ff04c82adb710fc68e7cffa7cafc97c204f1ea2332edcd202406e36290e776"), looks := true }, kinds := [], alts := [], laidByText := true, laidKinds := [.data, .data, .data, .data, .sentinel, .sentinel, .data, .pinned, .pinned, .pinned, .pinned, .pinned, .pinned], laidTests := true, laidLooks := .later }
def AtomsRowsCardSaid : Prop := Claim7.holds Tryz.pinned (.plain (OpenSpec.ofChange atomsRowsSpec)) atomsRowsCard

/-- THE TIED CARD OF 'liquidchecklaw12.AtomsMeans'. -/
def atomsMeansCard : Claim7 := { stood := { row := atomsMeansRow, standIns := [], harness := (true, "90ff04c82adb710fc68e7cffa7cafc97c204f1ea2332edcd202406e36290e776"), looks := true }, kinds := [], alts := [], laidByText := true, laidKinds := [.data, .data, .data, .data, .sentinel, .sentinel, .data, .pinned, .pinned, .pinned, .pinned, .pinned, .pinned], laidTests := true, laidLooks := .later }
def AtomsMeansCardSaid : Prop := Claim7.holds Tryz.pinned (.plain (OpenSpec.ofChange atomsMeansSpec)) atomsMeansCard

/-- THE SECOND FORM's CARD OF 'liquidchecklaw12.AtomsNames'. -/
def atomsNamesUptoCard : Claim7 := { stood := { row := atomsNamesUptoRow, standIns := [], harness := (true, "90ff04c82adb710fc68e7cffa7cafc97c204f1ea2332edcd202406e36290e776"), looks := true }, kinds := [], alts := [], laidByText := true, laidKinds := [.data, .data, .data, .data, .sentinel, .sentinel, .data, .pinned, .pinned, .pinned, .pinned, .pinned, .pinned], laidTests := true, laidLooks := .later }
def AtomsNamesUptoCardSaid : Prop := Claim7.holds Tryz.pinned (.plain (OpenSpec.upto atomsNamesSpec)) atomsNamesUptoCard

/-- THE SECOND FORM's CARD OF 'liquidchecklaw12.AtomsCloses'. -/
def atomsClosesUptoCard : Claim7 := { stood := { row := atomsClosesUptoRow, standIns := [], harness := (true, "90ff04c82adb710fc68e7cffa7cafc97c204f1ea2332edcd202406e36290e776"), looks := true }, kinds := [], alts := [], laidByText := true, laidKinds := [.data, .data, .data, .data, .sentinel, .sentinel, .data, .pinned, .pinned, .pinned, .pinned, .pinned, .pinned], laidTests := true, laidLooks := .later }
def AtomsClosesUptoCardSaid : Prop := Claim7.holds Tryz.pinned (.plain (OpenSpec.upto atomsClosesSpec)) atomsClosesUptoCard

/-- THE SECOND FORM's CARD OF 'liquidchecklaw12.AtomsAsks'. -/
def atomsAsksUptoCard : Claim7 := { stood := { row := atomsAsksUptoRow, standIns := [], harness := (true, "90ff04c82adb710fc68e7cffa7cafc97c204f1ea2332edcd202406e36290e776"), looks := true }, kinds := [], alts := [], laidByText := true, laidKinds := [.data, .data, .data, .data, .sentinel, .sentinel, .data, .pinned, .pinned, .pinned, .pinned, .pinned, .pinned], laidTests := true, laidLooks := .later }
def AtomsAsksUptoCardSaid : Prop := Claim7.holds Tryz.pinned (.plain (OpenSpec.upto atomsAsksSpec)) atomsAsksUptoCard

/-- THE SECOND FORM's CARD OF 'liquidchecklaw12.AtomsEvals'. -/
def atomsEvalsUptoCard : Claim7 := { stood := { row := atomsEvalsUptoRow, standIns := [], harness := (true, "90ff04c82adb710fc68e7cffa7cafc97c204f1ea2332edcd202406e36290e776"), looks := true }, kinds := [], alts := [], laidByText := true, laidKinds := [.data, .data, .data, .data, .sentinel, .sentinel, .data, .pinned, .pinned, .pinned, .pinned, .pinned, .pinned], laidTests := true, laidLooks := .later }
def AtomsEvalsUptoCardSaid : Prop := Claim7.holds Tryz.pinned (.plain (OpenSpec.upto atomsEvalsSpec)) atomsEvalsUptoCard

/-- THE SECOND FORM's CARD OF 'liquidchecklaw12.AtomsSigns'. -/
def atomsSignsUptoCard : Claim7 := { stood := { row := atomsSignsUptoRow, standIns := [], harness := (true, "90ff04c82adb710fc68e7cffa7cafc97c204f1ea2332edcd202406e36290e776"), looks := true }, kinds := [], alts := [], laidByText := true, laidKinds := [.data, .data, .data, .data, .sentinel, .sentinel, .data, .pinned, .pinned, .pinned, .pinned, .pinned, .pinned], laidTests := true, laidLooks := .later }
def AtomsSignsUptoCardSaid : Prop := Claim7.holds Tryz.pinned (.plain (OpenSpec.upto atomsSignsSpec)) atomsSignsUptoCard

/-- THE SECOND FORM's CARD OF 'liquidchecklaw12.AtomsRows'. -/
def atomsRowsUptoCard : Claim7 := { stood := { row := atomsRowsUptoRow, standIns := [], harness := (true, "90ff04c82adb710fc68e7cffa7cafc97c204f1ea2332edcd202406e36290e776"), looks := true }, kinds := [], alts := [], laidByText := true, laidKinds := [.data, .data, .data, .data, .sentinel, .sentinel, .data, .pinned, .pinned, .pinned, .pinned, .pinned, .pinned], laidTests := true, laidLooks := .later }
def AtomsRowsUptoCardSaid : Prop := Claim7.holds Tryz.pinned (.plain (OpenSpec.upto atomsRowsSpec)) atomsRowsUptoCard

/-- THE SECOND FORM's CARD OF 'liquidchecklaw12.AtomsMeans'. -/
def atomsMeansUptoCard : Claim7 := { stood := { row := atomsMeansUptoRow, standIns := [], harness := (true, "90ff04c82adb710fc68e7cffa7cafc97c204f1ea2332edcd202406e36290e776"), looks := true }, kinds := [], alts := [], laidByText := true, laidKinds := [.data, .data, .data, .data, .sentinel, .sentinel, .data, .pinned, .pinned, .pinned, .pinned, .pinned, .pinned], laidTests := true, laidLooks := .later }
def AtomsMeansUptoCardSaid : Prop := Claim7.holds Tryz.pinned (.plain (OpenSpec.upto atomsMeansSpec)) atomsMeansUptoCard
end Rows
end Go.Proofs.YtkaaomojgmbgdaaGreatDoor
