/-
  DERIVED. GIVEN WITH THE SEED: THE CARDS: each row of YtaipocfddbaakaaDoorRows.lean that lists a variable, with what it lists TIED to the program's text (the seventh form; the later family's looks); each row that meets fmt, with fmt's text TOLD by the authors' own Lean function (tested against real Go, not proved from fmt's source: count such statements apart). THE CARD IS WHAT COUNTS. Prove the row's statement (the work); the ties are given (YtaipocfddbaakaaDoorTie.lean); close each card by the builder's one call (the guide's Derived/Test/ToyasCard.lean, 'card_holds'). Laid BY PROGRAM, IN A SANDBOX (cutbox-door.mjs). By AI agents, Wed Nov 11 2026. No macro, syntax, notation, axiom, sorry.
-/
import Derived.Test.YtaipocfddbaakaaDoorRows
import GoSem.ClaimSeven
namespace Go.Proofs.YtaipocfddbaakaaDoor
namespace Rows

/-- THE TIED CARD OF 'liquidchecklaw07.PredChecks'. -/
def predChecksCard : Claim7 := { stood := { row := predChecksRow, standIns := [], harness := (true, "1653d9a51a4fcccf121a771e361b502a9f3724f3d6d75e1e89cad39025f1552f"), looks := false }, kinds := [], alts := [], laidByText := true, laidKinds := [.data], laidTests := true, laidLooks := .later }
def PredChecksCardSaid : Prop := Claim7.holds Tryd.pinned (.plain (OpenSpec.ofChange predChecksSpec)) predChecksCard

/-- THE TIED CARD OF 'liquidchecklaw07.PredSubsts'. -/
def predSubstsCard : Claim7 := { stood := { row := predSubstsRow, standIns := [], harness := (true, "1653d9a51a4fcccf121a771e361b502a9f3724f3d6d75e1e89cad39025f1552f"), looks := false }, kinds := [], alts := [], laidByText := true, laidKinds := [.data], laidTests := true, laidLooks := .later }
def PredSubstsCardSaid : Prop := Claim7.holds Tryd.pinned (.plain (OpenSpec.ofChange predSubstsSpec)) predSubstsCard

/-- THE TIED CARD OF 'liquidchecklaw07.PredJoins'. -/
def predJoinsCard : Claim7 := { stood := { row := predJoinsRow, standIns := [], harness := (true, "1653d9a51a4fcccf121a771e361b502a9f3724f3d6d75e1e89cad39025f1552f"), looks := false }, kinds := [], alts := [], laidByText := true, laidKinds := [.data], laidTests := true, laidLooks := .later }
def PredJoinsCardSaid : Prop := Claim7.holds Tryd.pinned (.plain (OpenSpec.ofChange predJoinsSpec)) predJoinsCard

/-- THE TIED CARD OF 'liquidchecklaw07.PredReplaces'. -/
def predReplacesCard : Claim7 := { stood := { row := predReplacesRow, standIns := [], harness := (true, "1653d9a51a4fcccf121a771e361b502a9f3724f3d6d75e1e89cad39025f1552f"), looks := false }, kinds := [], alts := [], laidByText := true, laidKinds := [.data], laidTests := true, laidLooks := .later }
def PredReplacesCardSaid : Prop := Claim7.holds Tryd.pinned (.plain (OpenSpec.ofChange predReplacesSpec)) predReplacesCard

/-- THE TIED CARD OF 'liquidchecklaw07.PredConjuncts'. -/
def predConjunctsCard : Claim7 := { stood := { row := predConjunctsRow, standIns := [], harness := (true, "1653d9a51a4fcccf121a771e361b502a9f3724f3d6d75e1e89cad39025f1552f"), looks := false }, kinds := [], alts := [], laidByText := true, laidKinds := [.data], laidTests := true, laidLooks := .later }
def PredConjunctsCardSaid : Prop := Claim7.holds Tryd.pinned (.plain (OpenSpec.ofChange predConjunctsSpec)) predConjunctsCard

/-- THE TIED CARD OF 'liquidchecklaw07.PredLists'. -/
def predListsCard : Claim7 := { stood := { row := predListsRow, standIns := [], harness := (true, "1653d9a51a4fcccf121a771e361b502a9f3724f3d6d75e1e89cad39025f1552f"), looks := false }, kinds := [], alts := [], laidByText := true, laidKinds := [.data], laidTests := true, laidLooks := .later }
def PredListsCardSaid : Prop := Claim7.holds Tryd.pinned (.plain (OpenSpec.ofChange predListsSpec)) predListsCard

/-- THE TIED CARD OF 'liquidchecklaw07.PredFills'. -/
def predFillsCard : Claim7 := { stood := { row := predFillsRow, standIns := [], harness := (true, "1653d9a51a4fcccf121a771e361b502a9f3724f3d6d75e1e89cad39025f1552f"), looks := false }, kinds := [], alts := [], laidByText := true, laidKinds := [.data], laidTests := true, laidLooks := .later }
def PredFillsCardSaid : Prop := Claim7.holds Tryd.pinned (.plain (OpenSpec.ofChange predFillsSpec)) predFillsCard

/-- THE SECOND FORM's CARD OF 'liquidchecklaw07.PredChecks'. -/
def predChecksUptoCard : Claim7 := { stood := { row := predChecksUptoRow, standIns := [], harness := (true, "1653d9a51a4fcccf121a771e361b502a9f3724f3d6d75e1e89cad39025f1552f"), looks := false }, kinds := [], alts := [], laidByText := true, laidKinds := [.data], laidTests := true, laidLooks := .later }
def PredChecksUptoCardSaid : Prop := Claim7.holds Tryd.pinned (.plain (OpenSpec.upto predChecksSpec)) predChecksUptoCard

/-- THE SECOND FORM's CARD OF 'liquidchecklaw07.PredSubsts'. -/
def predSubstsUptoCard : Claim7 := { stood := { row := predSubstsUptoRow, standIns := [], harness := (true, "1653d9a51a4fcccf121a771e361b502a9f3724f3d6d75e1e89cad39025f1552f"), looks := false }, kinds := [], alts := [], laidByText := true, laidKinds := [.data], laidTests := true, laidLooks := .later }
def PredSubstsUptoCardSaid : Prop := Claim7.holds Tryd.pinned (.plain (OpenSpec.upto predSubstsSpec)) predSubstsUptoCard

/-- THE SECOND FORM's CARD OF 'liquidchecklaw07.PredJoins'. -/
def predJoinsUptoCard : Claim7 := { stood := { row := predJoinsUptoRow, standIns := [], harness := (true, "1653d9a51a4fcccf121a771e361b502a9f3724f3d6d75e1e89cad39025f1552f"), looks := false }, kinds := [], alts := [], laidByText := true, laidKinds := [.data], laidTests := true, laidLooks := .later }
def PredJoinsUptoCardSaid : Prop := Claim7.holds Tryd.pinned (.plain (OpenSpec.upto predJoinsSpec)) predJoinsUptoCard

/-- THE SECOND FORM's CARD OF 'liquidchecklaw07.PredReplaces'. -/
def predReplacesUptoCard : Claim7 := { stood := { row := predReplacesUptoRow, standIns := [], harness := (true, "1653d9a51a4fcccf121a771e361b502a9f3724f3d6d75e1e89cad39025f1552f"), looks := false }, kinds := [], alts := [], laidByText := true, laidKinds := [.data], laidTests := true, laidLooks := .later }
def PredReplacesUptoCardSaid : Prop := Claim7.holds Tryd.pinned (.plain (OpenSpec.upto predReplacesSpec)) predReplacesUptoCard

/-- THE SECOND FORM's CARD OF 'liquidchecklaw07.PredConjuncts'. -/
def predConjunctsUptoCard : Claim7 := { stood := { row := predConjunctsUptoRow, standIns := [], harness := (true, "1653d9a51a4fcccf121a771e361b502a9f3724f3d6d75e1e89cad39025f1552f"), looks := false }, kinds := [], alts := [], laidByText := true, laidKinds := [.data], laidTests := true, laidLooks := .later }
def PredConjunctsUptoCardSaid : Prop := Claim7.holds Tryd.pinned (.plain (OpenSpec.upto predConjunctsSpec)) predConjunctsUptoCard

/-- THE SECOND FORM's CARD OF 'liquidchecklaw07.PredLists'. -/
def predListsUptoCard : Claim7 := { stood := { row := predListsUptoRow, standIns := [], harness := (true, "1653d9a51a4fcccf121a771e361b502a9f3724f3d6d75e1e89cad39025f1552f"), looks := false }, kinds := [], alts := [], laidByText := true, laidKinds := [.data], laidTests := true, laidLooks := .later }
def PredListsUptoCardSaid : Prop := Claim7.holds Tryd.pinned (.plain (OpenSpec.upto predListsSpec)) predListsUptoCard

/-- THE SECOND FORM's CARD OF 'liquidchecklaw07.PredFills'. -/
def predFillsUptoCard : Claim7 := { stood := { row := predFillsUptoRow, standIns := [], harness := (true, "1653d9a51a4fcccf121a771e361b502a9f3724f3d6d75e1e89cad39025f1552f"), looks := false }, kinds := [], alts := [], laidByText := true, laidKinds := [.data], laidTests := true, laidLooks := .later }
def PredFillsUptoCardSaid : Prop := Claim7.holds Tryd.pinned (.plain (OpenSpec.upto predFillsSpec)) predFillsUptoCard
end Rows
end Go.Proofs.YtaipocfddbaakaaDoor
