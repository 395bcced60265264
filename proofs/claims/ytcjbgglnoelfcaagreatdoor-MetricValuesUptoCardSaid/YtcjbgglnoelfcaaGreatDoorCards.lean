/-
  DERIVED. GIVEN WITH THE SEED: THE CARDS: each row of YtcjbgglnoelfcaaGreatDoorRows.lean that lists a variable, with what it lists TIED to the program's text (the seventh form; the later family's looks); each row that meets fmt, with fmt's text TOLD by the authors' own Lean function (tested against real Go, not proved from fmt's source: count such statements apart). THE CARD IS WHAT COUNTS. Prove the row's statement (the work); the ties are given (YtcjbgglnoelfcaaGreatDoorTie.lean); close each card by the builder's one call (the guide's Derived/Test/ToyasCard.lean, 'card_holds'). Laid BY PROGRAM, IN A SANDBOX (cutbox-door.mjs). By AI agents, Wed Nov 11 2026. No macro, syntax, notation, axiom, sorry.
-/
import Derived.Test.YtcjbgglnoelfcaaGreatDoorRows
import GoSem.ClaimSeven
namespace Go.Proofs.YtcjbgglnoelfcaaGreatDoor
namespace Rows

/-- THE TIED CARD OF 'liquidchecklaw41.MetricLess'. -/
def metricLessCard : Claim7 := { stood := { row := metricLessRow, standIns := [], harness := (true, "42c495d36cbc578cb717c894719dffa86bde2824e882264b08c2f8bd9f720bff"), looks := false }, kinds := [], alts := [], laidByText := true, laidKinds := [.data, .data, .data, .data], laidTests := true, laidLooks := .later }
def MetricLessCardSaid : Prop := Claim7.holds Tryz.pinned (.plain (OpenSpec.ofChange metricLessSpec)) metricLessCard

/-- THE TIED CARD OF 'liquidchecklaw41.MetricObliges'. -/
def metricObligesCard : Claim7 := { stood := { row := metricObligesRow, standIns := [], harness := (true, "42c495d36cbc578cb717c894719dffa86bde2824e882264b08c2f8bd9f720bff"), looks := false }, kinds := [], alts := [], laidByText := true, laidKinds := [.data, .data, .data, .data], laidTests := true, laidLooks := .later }
def MetricObligesCardSaid : Prop := Claim7.holds Tryz.pinned (.plain (OpenSpec.ofChange metricObligesSpec)) metricObligesCard

/-- THE TIED CARD OF 'liquidchecklaw41.MetricValues'. -/
def metricValuesCard : Claim7 := { stood := { row := metricValuesRow, standIns := [], harness := (true, "42c495d36cbc578cb717c894719dffa86bde2824e882264b08c2f8bd9f720bff"), looks := false }, kinds := [], alts := [], laidByText := true, laidKinds := [.data, .data, .data, .data], laidTests := true, laidLooks := .later }
def MetricValuesCardSaid : Prop := Claim7.holds Tryz.pinned (.plain (OpenSpec.ofChange metricValuesSpec)) metricValuesCard

/-- THE TIED CARD OF 'liquidchecklaw41.MetricFalls'. -/
def metricFallsCard : Claim7 := { stood := { row := metricFallsRow, standIns := [], harness := (true, "42c495d36cbc578cb717c894719dffa86bde2824e882264b08c2f8bd9f720bff"), looks := false }, kinds := [], alts := [], laidByText := true, laidKinds := [.data, .data, .data, .data], laidTests := true, laidLooks := .later }
def MetricFallsCardSaid : Prop := Claim7.holds Tryz.pinned (.plain (OpenSpec.ofChange metricFallsSpec)) metricFallsCard

/-- THE TIED CARD OF 'liquidchecklaw41.MetricOrder'. -/
def metricOrderCard : Claim7 := { stood := { row := metricOrderRow, standIns := [], harness := (true, "42c495d36cbc578cb717c894719dffa86bde2824e882264b08c2f8bd9f720bff"), looks := false }, kinds := [], alts := [], laidByText := true, laidKinds := [.data, .data, .data, .data], laidTests := true, laidLooks := .later }
def MetricOrderCardSaid : Prop := Claim7.holds Tryz.pinned (.plain (OpenSpec.ofChange metricOrderSpec)) metricOrderCard

/-- THE TIED CARD OF 'liquidchecklaw41.MetricLonger'. -/
def metricLongerCard : Claim7 := { stood := { row := metricLongerRow, standIns := [], harness := (true, "42c495d36cbc578cb717c894719dffa86bde2824e882264b08c2f8bd9f720bff"), looks := false }, kinds := [], alts := [], laidByText := true, laidKinds := [.data, .data, .data, .data], laidTests := true, laidLooks := .later }
def MetricLongerCardSaid : Prop := Claim7.holds Tryz.pinned (.plain (OpenSpec.ofChange metricLongerSpec)) metricLongerCard

/-- THE TIED CARD OF 'liquidchecklaw41.MetricMeans'. -/
def metricMeansCard : Claim7 := { stood := { row := metricMeansRow, standIns := [], harness := (true, "42c495d36cbc578cb717c894719dffa86bde2824e882264b08c2f8bd9f720bff"), looks := false }, kinds := [], alts := [], laidByText := true, laidKinds := [.data, .data, .data, .data], laidTests := true, laidLooks := .later }
def MetricMeansCardSaid : Prop := Claim7.holds Tryz.pinned (.plain (OpenSpec.ofChange metricMeansSpec)) metricMeansCard

/-- THE SECOND FORM's CARD OF 'liquidchecklaw41.MetricLess'. -/
def metricLessUptoCard : Claim7 := { stood := { row := metricLessUptoRow, standIns := [], harness := (true, "42c495d36cbc578cb717c894719dffa86bde2824e882264b08c2f8bd9f720bff"), looks := false }, kinds := [], alts := [], laidByText := true, laidKinds := [.data, .data, .data, .data], laidTests := true, laidLooks := .later }
def MetricLessUptoCardSaid : Prop := Claim7.holds Tryz.pinned (.plain (OpenSpec.upto metricLessSpec)) metricLessUptoCard

/-- THE SECOND FORM's CARD OF 'liquidchecklaw41.MetricObliges'. -/
def metricObligesUptoCard : Claim7 := { stood := { row := metricObligesUptoRow, standIns := [], harness := (true, "42c495d36cbc578cb717c894719dffa86bde2824e882264b08c2f8bd9f720bff"), looks := false }, kinds := [], alts := [], laidByText := true, laidKinds := [.data, .data, .data, .data], laidTests := true, laidLooks := .later }
def MetricObligesUptoCardSaid : Prop := Claim7.holds Tryz.pinned (.plain (OpenSpec.upto metricObligesSpec)) metricObligesUptoCard

/-- THE SECOND FORM's CARD OF 'liquidchecklaw41.MetricValues'. -/
def metricValuesUptoCard : Claim7 := { stood := { row := metricValuesUptoRow, standIns := [], harness := (true, "42c495d36cbc578cb717c894719dffa86bde2824e882264b08c2f8bd9f720bff"), looks := false }, kinds := [], alts := [], laidByText := true, laidKinds := [.data, .data, .data, .data], laidTests := true, laidLooks := .later }
def MetricValuesUptoCardSaid : Prop := Claim7.holds Tryz.pinned (.plain (OpenSpec.upto metricValuesSpec)) metricValuesUptoCard

/-- THE SECOND FORM's CARD OF 'liquidchecklaw41.MetricFalls'. -/
def metricFallsUptoCard : Claim7 := { stood := { row := metricFallsUptoRow, standIns := [], harness := (true, "42c495d36cbc578cb717c894719dffa86bde2824e882264b08c2f8bd9f720bff"), looks := false }, kinds := [], alts := [], laidByText := true, laidKinds := [.data, .data, .data, .data], laidTests := true, laidLooks := .later }
def MetricFallsUptoCardSaid : Prop := Claim7.holds Tryz.pinned (.plain (OpenSpec.upto metricFallsSpec)) metricFallsUptoCard

/-- THE SECOND FORM's CARD OF 'liquidchecklaw41.MetricOrder'. -/
def metricOrderUptoCard : Claim7 := { stood := { row := metricOrderUptoRow, standIns := [], harness := (true, "42c495d36cbc578cb717c894719dffa86bde2824e882264b08c2f8bd9f720bff"), looks := false }, kinds := [], alts := [], laidByText := true, laidKinds := [.data, .data, .data, .data], laidTests := true, laidLooks := .later }
def MetricOrderUptoCardSaid : Prop := Claim7.holds Tryz.pinned (.plain (OpenSpec.upto metricOrderSpec)) metricOrderUptoCard

/-- THE SECOND FORM's CARD OF 'liquidchecklaw41.MetricLonger'. -/
def metricLongerUptoCard : Claim7 := { stood := { row := metricLongerUptoRow, standIns := [], harness := (true, "42c495d36cbc578cb717c894719dffa86bde2824e882264b08c2f8bd9f720bff"), looks := false }, kinds := [], alts := [], laidByText := true, laidKinds := [.data, .data, .data, .data], laidTests := true, laidLooks := .later }
def MetricLongerUptoCardSaid : Prop := Claim7.holds Tryz.pinned (.plain (OpenSpec.upto metricLongerSpec)) metricLongerUptoCard

/-- THE SECOND FORM's CARD OF 'liquidchecklaw41.MetricMeans'. -/
def metricMeansUptoCard : Claim7 := { stood := { row := metricMeansUptoRow, standIns := [], harness := (true, "42c495d36cbc578cb717c894719dffa86bde2824e882264b08c2f8bd9f720bff"), looks := false }, kinds := [], alts := [], laidByText := true, laidKinds := [.data, .data, .data, .data], laidTests := true, laidLooks := .later }
def MetricMeansUptoCardSaid : Prop := Claim7.holds Tryz.pinned (.plain (OpenSpec.upto metricMeansSpec)) metricMeansUptoCard
end Rows
end Go.Proofs.YtcjbgglnoelfcaaGreatDoor
