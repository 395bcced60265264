/-
  DERIVED. GIVEN WITH THE SEED: THE CARDS: each row of YtmlihiihcbmaoaaGreatDoorRows.lean that lists a variable, with what it lists TIED to the program's text (the seventh form; the later family's looks); each row that meets fmt, with fmt's text TOLD by the authors' own Lean function (tested against real Go, not proved from fmt's source: count such statements apart). THE CARD IS WHAT COUNTS. Prove the row's statement (the work); the ties are given (YtmlihiihcbmaoaaGreatDoorTie.lean); close each card by the builder's one call (the guide's Derived/Test/ToyasCard.lean, 'card_holds'). Laid BY PROGRAM, IN A SANDBOX (cutbox-door.mjs). By AI agents, Wed Nov 11 2026. No macro, syntax, notation, axiom, sorry.
-/
import Derived.Test.YtmlihiihcbmaoaaGreatDoorRows
import GoSem.ClaimSeven
namespace Go.Proofs.YtmlihiihcbmaoaaGreatDoor
namespace Rows

/-- THE TIED CARD OF 'liquidchecklaw45.QualifierChecks'. -/
def qualifierChecksCard : Claim7 := { stood := { row := qualifierChecksRow, standIns := [], harness := (true, "df0dcc377afe0cab94e30d6dfb1d01e06da43b986971d6c46ebd68619a9e5e47"), looks := false }, kinds := [], alts := [], laidByText := true, laidKinds := [.data, .data, .data, .data], laidTests := true, laidLooks := .later }
def QualifierChecksCardSaid : Prop := Claim7.holds Tryz.pinned (.plain (OpenSpec.ofChange qualifierChecksSpec)) qualifierChecksCard

/-- THE TIED CARD OF 'liquidchecklaw45.QualifierInsts'. -/
def qualifierInstsCard : Claim7 := { stood := { row := qualifierInstsRow, standIns := [], harness := (true, "df0dcc377afe0cab94e30d6dfb1d01e06da43b986971d6c46ebd68619a9e5e47"), looks := false }, kinds := [], alts := [], laidByText := true, laidKinds := [.data, .data, .data, .data], laidTests := true, laidLooks := .later }
def QualifierInstsCardSaid : Prop := Claim7.holds Tryz.pinned (.plain (OpenSpec.ofChange qualifierInstsSpec)) qualifierInstsCard

/-- THE TIED CARD OF 'liquidchecklaw45.QualifierAlls'. -/
def qualifierAllsCard : Claim7 := { stood := { row := qualifierAllsRow, standIns := [], harness := (true, "df0dcc377afe0cab94e30d6dfb1d01e06da43b986971d6c46ebd68619a9e5e47"), looks := false }, kinds := [], alts := [], laidByText := true, laidKinds := [.data, .data, .data, .data], laidTests := true, laidLooks := .later }
def QualifierAllsCardSaid : Prop := Claim7.holds Tryz.pinned (.plain (OpenSpec.ofChange qualifierAllsSpec)) qualifierAllsCard

/-- THE TIED CARD OF 'liquidchecklaw45.QualifierOfs'. -/
def qualifierOfsCard : Claim7 := { stood := { row := qualifierOfsRow, standIns := [], harness := (true, "df0dcc377afe0cab94e30d6dfb1d01e06da43b986971d6c46ebd68619a9e5e47"), looks := false }, kinds := [], alts := [], laidByText := true, laidKinds := [.data, .data, .data, .data], laidTests := true, laidLooks := .later }
def QualifierOfsCardSaid : Prop := Claim7.holds Tryz.pinned (.plain (OpenSpec.ofChange qualifierOfsSpec)) qualifierOfsCard

/-- THE TIED CARD OF 'liquidchecklaw45.QualifierSorts'. -/
def qualifierSortsCard : Claim7 := { stood := { row := qualifierSortsRow, standIns := [], harness := (true, "df0dcc377afe0cab94e30d6dfb1d01e06da43b986971d6c46ebd68619a9e5e47"), looks := false }, kinds := [], alts := [], laidByText := true, laidKinds := [.data, .data, .data, .data], laidTests := true, laidLooks := .later }
def QualifierSortsCardSaid : Prop := Claim7.holds Tryz.pinned (.plain (OpenSpec.ofChange qualifierSortsSpec)) qualifierSortsCard

/-- THE TIED CARD OF 'liquidchecklaw45.QualifierMore'. -/
def qualifierMoreCard : Claim7 := { stood := { row := qualifierMoreRow, standIns := [], harness := (true, "df0dcc377afe0cab94e30d6dfb1d01e06da43b986971d6c46ebd68619a9e5e47"), looks := false }, kinds := [], alts := [], laidByText := true, laidKinds := [.data, .data, .data, .data], laidTests := true, laidLooks := .later }
def QualifierMoreCardSaid : Prop := Claim7.holds Tryz.pinned (.plain (OpenSpec.ofChange qualifierMoreSpec)) qualifierMoreCard

/-- THE SECOND FORM's CARD OF 'liquidchecklaw45.QualifierChecks'. -/
def qualifierChecksUptoCard : Claim7 := { stood := { row := qualifierChecksUptoRow, standIns := [], harness := (true, "df0dcc377afe0cab94e30d6dfb1d01e06da43b986971d6c46ebd68619a9e5e47"), looks := false }, kinds := [], alts := [], laidByText := true, laidKinds := [.data, .data, .data, .data], laidTests := true, laidLooks := .later }
def QualifierChecksUptoCardSaid : Prop := Claim7.holds Tryz.pinned (.plain (OpenSpec.upto qualifierChecksSpec)) qualifierChecksUptoCard

/-- THE SECOND FORM's CARD OF 'liquidchecklaw45.QualifierInsts'. -/
def qualifierInstsUptoCard : Claim7 := { stood := { row := qualifierInstsUptoRow, standIns := [], harness := (true, "df0dcc377afe0cab94e30d6dfb1d01e06da43b986971d6c46ebd68619a9e5e47"), looks := false }, kinds := [], alts := [], laidByText := true, laidKinds := [.data, .data, .data, .data], laidTests := true, laidLooks := .later }
def QualifierInstsUptoCardSaid : Prop := Claim7.holds Tryz.pinned (.plain (OpenSpec.upto qualifierInstsSpec)) qualifierInstsUptoCard

/-- THE SECOND FORM's CARD OF 'liquidchecklaw45.QualifierAlls'. -/
def qualifierAllsUptoCard : Claim7 := { stood := { row := qualifierAllsUptoRow, standIns := [], harness := (true, "df0dcc377afe0cab94e30d6dfb1d01e06da43b986971d6c46ebd68619a9e5e47"), looks := false }, kinds := [], alts := [], laidByText := true, laidKinds := [.data, .data, .data, .data], laidTests := true, laidLooks := .later }
def QualifierAllsUptoCardSaid : Prop := Claim7.holds Tryz.pinned (.plain (OpenSpec.upto qualifierAllsSpec)) qualifierAllsUptoCard

/-- THE SECOND FORM's CARD OF 'liquidchecklaw45.QualifierOfs'. -/
def qualifierOfsUptoCard : Claim7 := { stood := { row := qualifierOfsUptoRow, standIns := [], harness := (true, "df0dcc377afe0cab94e30d6dfb1d01e06da43b986971d6c46ebd68619a9e5e47"), looks := false }, kinds := [], alts := [], laidByText := true, laidKinds := [.data, .data, .data, .data], laidTests := true, laidLooks := .later }
def QualifierOfsUptoCardSaid : Prop := Claim7.holds Tryz.pinned (.plain (OpenSpec.upto qualifierOfsSpec)) qualifierOfsUptoCard

/-- THE SECOND FORM's CARD OF 'liquidchecklaw45.QualifierSorts'. -/
def qualifierSortsUptoCard : Claim7 := { stood := { row := qualifierSortsUptoRow, standIns := [], harness := (true, "df0dcc377afe0cab94e30d6dfb1d01e06da43b986971d6c46ebd68619a9e5e47"), looks := false }, kinds := [], alts := [], laidByText := true, laidKinds := [.data, .data, .data, .data], laidTests := true, laidLooks := .later }
def QualifierSortsUptoCardSaid : Prop := Claim7.holds Tryz.pinned (.plain (OpenSpec.upto qualifierSortsSpec)) qualifierSortsUptoCard

/-- THE SECOND FORM's CARD OF 'liquidchecklaw45.QualifierMore'. -/
def qualifierMoreUptoCard : Claim7 := { stood := { row := qualifierMoreUptoRow, standIns := [], harness := (true, "df0dcc377afe0cab94e30d6dfb1d01e06da43b986971d6c46ebd68619a9e5e47"), looks := false }, kinds := [], alts := [], laidByText := true, laidKinds := [.data, .data, .data, .data], laidTests := true, laidLooks := .later }
def QualifierMoreUptoCardSaid : Prop := Claim7.holds Tryz.pinned (.plain (OpenSpec.upto qualifierMoreSpec)) qualifierMoreUptoCard
end Rows
end Go.Proofs.YtmlihiihcbmaoaaGreatDoor
