/-
  NARROWER THAN 'FOR EVERY INPUT', by the rows' own cells (each row's printed sentence says how): MeasureWrites: loops, laid · MeasureSymbols: loops, laid · MeasureParts: loops, laid · MeasureHolds: loops, laid.
  DERIVED. THE GIVEN ROWS OF THIS SEAT. 4 by the template 'for every input the law returns true; each argument reads behind the call as it read before'; 0 by the template 'total and deterministic' (their statements: YtehngpkgdcnkiaaGreatDoorTotals.lean).
  GIVEN WITH THE SEED: the statements are not yours to turn. If you find one false, say at which input.
  Laid BY PROGRAM, IN A SANDBOX (cutbox-rows.mjs): the forced cells as the released guide's own fill.sh prints them over the translation 5bf8e1daacb794d2… (all of the seat's roots in one cut). By AI agents, Wed Nov 11 2026. No macro, syntax, notation, axiom, sorry.
-/
import Derived.Test.YtehngpkgdcnkiaaGreatDoorChecked
import GoSem.Claim
import GoSem.ClaimJoined
import GoSem.ClaimMapViews
import Derived.JoinedTies
import Derived.KernelRfl
namespace Go.Proofs.YtehngpkgdcnkiaaGreatDoor
/- THE CELL 'sum', in the pinned program and in every row, IS THE sha256 OF THE DUMP (.gsa) THAT YtehngpkgdcnkiaaGreatDoorProg.lean LOADS. Nothing in Lean hashes anything: it is a label: what it is worth is what the hold of that sum in a sandbox is worth. -/
noncomputable def Tryz.pinned : Pinned := { name := "ytehngpkgdcnkiaagreatdoor", sum := "5bf8e1daacb794d2ddf3b00ec8779263764c1cbd7c80a1f46c935d6f3bf8df38", checked := Tryz.checked }
namespace Rows
def none {H : Type} : Left H := { results := [], args := [] }

/- WHAT THE LISTED PACKAGE-LEVEL VARIABLES READ AS WHEN THE CALL BEGINS. Each datum BY PROGRAM (the guide's laid-datum.mjs) off the statement by which the dump's own 'gosem.cut.vars' lays the variable. In a bare row this is a premise. The card (YtehngpkgdcnkiaaGreatDoorCards.lean) ties it to the program's text. -/
def laid_math_bits_deBruijn32tab {H : Type} : DataW H := .agg [.lit (.int .u8 0), .lit (.int .u8 1), .lit (.int .u8 28), .lit (.int .u8 2), .lit (.int .u8 29), .lit (.int .u8 14), .lit (.int .u8 24), .lit (.int .u8 3), .lit (.int .u8 30), .lit (.int .u8 22), .lit (.int .u8 20), .lit (.int .u8 15), .lit (.int .u8 25), .lit (.int .u8 17), .lit (.int .u8 4), .lit (.int .u8 8), .lit (.int .u8 31), .lit (.int .u8 27), .lit (.int .u8 13), .lit (.int .u8 23), .lit (.int .u8 21), .lit (.int .u8 19), .lit (.int .u8 16), .lit (.int .u8 7), .lit (.int .u8 26), .lit (.int .u8 12), .lit (.int .u8 18), .lit (.int .u8 6), .lit (.int .u8 11), .lit (.int .u8 5), .lit (.int .u8 10), .lit (.int .u8 9)]
def laid_math_bits_deBruijn64tab {H : Type} : DataW H := .agg [.lit (.int .u8 0), .lit (.int .u8 1), .lit (.int .u8 56), .lit (.int .u8 2), .lit (.int .u8 57), .lit (.int .u8 49), .lit (.int .u8 28), .lit (.int .u8 3), .lit (.int .u8 61), .lit (.int .u8 58), .lit (.int .u8 42), .lit (.int .u8 50), .lit (.int .u8 38), .lit (.int .u8 29), .lit (.int .u8 17), .lit (.int .u8 4), .lit (.int .u8 62), .lit (.int .u8 47), .lit (.int .u8 59), .lit (.int .u8 36), .lit (.int .u8 45), .lit (.int .u8 43), .lit (.int .u8 51), .lit (.int .u8 22), .lit (.int .u8 53), .lit (.int .u8 39), .lit (.int .u8 33), .lit (.int .u8 30), .lit (.int .u8 24), .lit (.int .u8 18), .lit (.int .u8 12), .lit (.int .u8 5), .lit (.int .u8 63), .lit (.int .u8 55), .lit (.int .u8 48), .lit (.int .u8 27), .lit (.int .u8 60), .lit (.int .u8 41), .lit (.int .u8 37), .lit (.int .u8 16), .lit (.int .u8 46), .lit (.int .u8 35), .lit (.int .u8 44), .lit (.int .u8 21), .lit (.int .u8 52), .lit (.int .u8 32), .lit (.int .u8 23), .lit (.int .u8 11), .lit (.int .u8 54), .lit (.int .u8 26), .lit (.int .u8 40), .lit (.int .u8 15), .lit (.int .u8 34), .lit (.int .u8 20), .lit (.int .u8 31), .lit (.int .u8 10), .lit (.int .u8 25), .lit (.int .u8 14), .lit (.int .u8 19), .lit (.int .u8 9), .lit (.int .u8 13), .lit (.int .u8 8), .lit (.int .u8 7), .lit (.int .u8 6)]
def laid_internal_strconv_uint64pow10 {H : Type} : DataW H := .agg [.lit (.int .u64 1), .lit (.int .u64 10), .lit (.int .u64 100), .lit (.int .u64 1000), .lit (.int .u64 10000), .lit (.int .u64 100000), .lit (.int .u64 1000000), .lit (.int .u64 10000000), .lit (.int .u64 100000000), .lit (.int .u64 1000000000), .lit (.int .u64 10000000000), .lit (.int .u64 100000000000), .lit (.int .u64 1000000000000), .lit (.int .u64 10000000000000), .lit (.int .u64 100000000000000), .lit (.int .u64 1000000000000000), .lit (.int .u64 10000000000000000), .lit (.int .u64 100000000000000000), .lit (.int .u64 1000000000000000000), .lit (.int .u64 10000000000000000000)]
def laid_liquidcheck_names_keywords {H : Type} : DataW H := .agg [.lit (.string [97, 110, 100]), .lit (.string [97, 115, 115, 117, 109, 101]), .lit (.string [98, 111, 111, 108]), .lit (.string [98, 111, 117, 110, 100]), .lit (.string [99, 97, 115, 101]), .lit (.string [99, 101, 108, 108]), .lit (.string [99, 108, 97, 115, 115]), .lit (.string [100, 97, 116, 97]), .lit (.string [100, 101, 102]), .lit (.string [100, 105, 118]), .lit (.string [101, 108, 115, 101]), .lit (.string [101, 110, 100]), .lit (.string [102, 97, 108, 115, 101]), .lit (.string [102, 111, 114, 97, 108, 108]), .lit (.string [102, 117, 110]), .lit (.string [103, 101, 116]), .lit (.string [105, 102]), .lit (.string [105, 110]), .lit (.string [105, 110, 115, 116]), .lit (.string [105, 110, 116]), .lit (.string [105, 110, 118, 97, 114, 105, 97, 110, 116]), .lit (.string [108, 101, 116]), .lit (.string [109, 97, 116, 99, 104]), .lit (.string [109, 101, 97, 115, 117, 114, 101]), .lit (.string [109, 101, 116, 114, 105, 99]), .lit (.string [109, 111, 100]), .lit (.string [109, 117]), .lit (.string [110, 101, 119]), .lit (.string [110, 111, 116]), .lit (.string [111, 102]), .lit (.string [111, 114]), .lit (.string [113, 117, 97, 108]), .lit (.string [114, 101, 102, 108, 101, 99, 116]), .lit (.string [115, 101, 116]), .lit (.string [116, 104, 101, 110]), .lit (.string [116, 114, 117, 101]), .lit (.string [117, 115, 101]), .lit (.string [118]), .lit (.string [118, 97, 108]), .lit (.string [116, 97, 103]), .lit (.string [119, 104, 101, 114, 101]), .lit (.string [119, 105, 116, 104])]

/-- 'liquidchecklaw34.MeasureWrites': WHATEVER THE INPUT: true; the input reads as it did. -/
def measureWritesSpec : ChangeSpec := { name := "measureWrites", fn := fun _ => fun
  | [d1, d2, d3] => { results := [.lit (.bool true)], args := [d1, d2, d3] }
  | _ => none }
def measureWritesRow : OpenClaim := { program := "ytehngpkgdcnkiaagreatdoor", sum := "5bf8e1daacb794d2ddf3b00ec8779263764c1cbd7c80a1f46c935d6f3bf8df38", func := "liquidcheck/liquidchecklaw34.MeasureWrites", spec := "measureWrites", unfollowed := true, recurses := true, named := ["liquidcheck/names.keywords", "internal/strconv.uint64pow10", "math/bits.deBruijn32tab", "math/bits.deBruijn64tab"], loops := true, apart := false, laid := [("math/bits.deBruijn32tab", laid_math_bits_deBruijn32tab), ("math/bits.deBruijn64tab", laid_math_bits_deBruijn64tab), ("internal/strconv.uint64pow10", laid_internal_strconv_uint64pow10), ("liquidcheck/names.keywords", laid_liquidcheck_names_keywords)] }
def MeasureWritesSaid : Prop := measureWritesRow.holds Tryz.pinned (OpenSpec.ofChange measureWritesSpec)

/-- ITS FALSE NEIGHBOUR: 'it returns false'. Refute it at one input. -/
def measureWritesWrong : ChangeSpec := { name := "measureWrites", fn := fun _ => fun
  | [d1, d2, d3] => { results := [.lit (.bool false)], args := [d1, d2, d3] }
  | _ => none }
def MeasureWritesWrongFalsely : Prop := measureWritesRow.holds Tryz.pinned (OpenSpec.ofChange measureWritesWrong)

/-- 'liquidchecklaw34.MeasureSymbols': WHATEVER THE INPUT: true; the input reads as it did. -/
def measureSymbolsSpec : ChangeSpec := { name := "measureSymbols", fn := fun _ => fun
  | [d1, d2, d3] => { results := [.lit (.bool true)], args := [d1, d2, d3] }
  | _ => none }
def measureSymbolsRow : OpenClaim := { program := "ytehngpkgdcnkiaagreatdoor", sum := "5bf8e1daacb794d2ddf3b00ec8779263764c1cbd7c80a1f46c935d6f3bf8df38", func := "liquidcheck/liquidchecklaw34.MeasureSymbols", spec := "measureSymbols", unfollowed := true, recurses := true, named := ["liquidcheck/names.keywords", "internal/strconv.uint64pow10", "math/bits.deBruijn32tab", "math/bits.deBruijn64tab"], loops := true, apart := false, laid := [("math/bits.deBruijn32tab", laid_math_bits_deBruijn32tab), ("math/bits.deBruijn64tab", laid_math_bits_deBruijn64tab), ("internal/strconv.uint64pow10", laid_internal_strconv_uint64pow10), ("liquidcheck/names.keywords", laid_liquidcheck_names_keywords)] }
def MeasureSymbolsSaid : Prop := measureSymbolsRow.holds Tryz.pinned (OpenSpec.ofChange measureSymbolsSpec)

/-- ITS FALSE NEIGHBOUR: 'it returns false'. Refute it at one input. -/
def measureSymbolsWrong : ChangeSpec := { name := "measureSymbols", fn := fun _ => fun
  | [d1, d2, d3] => { results := [.lit (.bool false)], args := [d1, d2, d3] }
  | _ => none }
def MeasureSymbolsWrongFalsely : Prop := measureSymbolsRow.holds Tryz.pinned (OpenSpec.ofChange measureSymbolsWrong)

/-- 'liquidchecklaw34.MeasureParts': WHATEVER THE INPUT: true; the input reads as it did. -/
def measurePartsSpec : ChangeSpec := { name := "measureParts", fn := fun _ => fun
  | [d1, d2, d3] => { results := [.lit (.bool true)], args := [d1, d2, d3] }
  | _ => none }
def measurePartsRow : OpenClaim := { program := "ytehngpkgdcnkiaagreatdoor", sum := "5bf8e1daacb794d2ddf3b00ec8779263764c1cbd7c80a1f46c935d6f3bf8df38", func := "liquidcheck/liquidchecklaw34.MeasureParts", spec := "measureParts", unfollowed := true, recurses := true, named := ["liquidcheck/names.keywords", "internal/strconv.uint64pow10", "math/bits.deBruijn32tab", "math/bits.deBruijn64tab"], loops := true, apart := false, laid := [("math/bits.deBruijn32tab", laid_math_bits_deBruijn32tab), ("math/bits.deBruijn64tab", laid_math_bits_deBruijn64tab), ("internal/strconv.uint64pow10", laid_internal_strconv_uint64pow10), ("liquidcheck/names.keywords", laid_liquidcheck_names_keywords)] }
def MeasurePartsSaid : Prop := measurePartsRow.holds Tryz.pinned (OpenSpec.ofChange measurePartsSpec)

/-- ITS FALSE NEIGHBOUR: 'it returns false'. Refute it at one input. -/
def measurePartsWrong : ChangeSpec := { name := "measureParts", fn := fun _ => fun
  | [d1, d2, d3] => { results := [.lit (.bool false)], args := [d1, d2, d3] }
  | _ => none }
def MeasurePartsWrongFalsely : Prop := measurePartsRow.holds Tryz.pinned (OpenSpec.ofChange measurePartsWrong)

/-- 'liquidchecklaw34.MeasureHolds': WHATEVER THE INPUT: true; the input reads as it did. -/
def measureHoldsSpec : ChangeSpec := { name := "measureHolds", fn := fun _ => fun
  | [d1, d2] => { results := [.lit (.bool true)], args := [d1, d2] }
  | _ => none }
def measureHoldsRow : OpenClaim := { program := "ytehngpkgdcnkiaagreatdoor", sum := "5bf8e1daacb794d2ddf3b00ec8779263764c1cbd7c80a1f46c935d6f3bf8df38", func := "liquidcheck/liquidchecklaw34.MeasureHolds", spec := "measureHolds", unfollowed := true, recurses := true, named := ["liquidcheck/names.keywords", "internal/strconv.uint64pow10", "math/bits.deBruijn32tab", "math/bits.deBruijn64tab"], loops := true, apart := false, laid := [("math/bits.deBruijn32tab", laid_math_bits_deBruijn32tab), ("math/bits.deBruijn64tab", laid_math_bits_deBruijn64tab), ("internal/strconv.uint64pow10", laid_internal_strconv_uint64pow10), ("liquidcheck/names.keywords", laid_liquidcheck_names_keywords)] }
def MeasureHoldsSaid : Prop := measureHoldsRow.holds Tryz.pinned (OpenSpec.ofChange measureHoldsSpec)

/-- ITS FALSE NEIGHBOUR: 'it returns false'. Refute it at one input. -/
def measureHoldsWrong : ChangeSpec := { name := "measureHolds", fn := fun _ => fun
  | [d1, d2] => { results := [.lit (.bool false)], args := [d1, d2] }
  | _ => none }
def MeasureHoldsWrongFalsely : Prop := measureHoldsRow.holds Tryz.pinned (OpenSpec.ofChange measureHoldsWrong)

/- THE SECOND FORM. 'bulk': how many values and letters a reading holds, each counted each time it is reached (what is shared counts as often as it is met; a slice's spare places count too). A statement '..UptoSaid' is the law's where the arguments, and the package variables that the reading takes, are together of bulk at most 1048576: NARROWER than '..Said'. Prove '..Said' where nothing that the law and all that it calls make is longer than what came in: it says more and counts as full. Else prove '..UptoSaid'. A law counts once. -/
mutual
def uptoBulk {H : Type} : DataW H → Nat
  | .lit (.string bytes) => bytes.length + 1
  | .lit _ => 1
  | .nil => 1
  | .ptr d => uptoBulk d + 1
  | .slice elems spare => uptoBulkAll elems + uptoBulkAll spare + 1
  | .agg parts => uptoBulkAll parts + 1
  | .iface _ d => uptoBulk d + 1
  | .map entries => uptoBulkEntries entries + 1
  | .held _ => 1
def uptoBulkAll {H : Type} : List (DataW H) → Nat
  | [] => 0
  | d :: r => uptoBulk d + uptoBulkAll r
def uptoBulkEntries {H : Type} : List (Lit × DataW H) → Nat
  | [] => 0
  | x :: r => uptoBulkEntry x + uptoBulkEntries r
def uptoBulkEntry {H : Type} : Lit × DataW H → Nat
  | (.string bytes, d) => bytes.length + uptoBulk d + 1
  | (_, d) => uptoBulk d + 1
 end
def uptoSmall : (H : Type) → List (DataW H) → Bool := fun _ ds => decide (uptoBulkAll ds ≤ 1048576)
def OpenSpec.upto (s : _root_.Go.ChangeSpec) : _root_.Go.OpenSpec := { _root_.Go.OpenSpec.ofChange s with cond := some uptoSmall }

/-- 'liquidchecklaw34.MeasureWrites', WHERE WHAT IT READS IS OF BULK AT MOST 1048576: true; the input reads as it did. -/
def measureWritesUptoRow : OpenClaim := { program := "ytehngpkgdcnkiaagreatdoor", sum := "5bf8e1daacb794d2ddf3b00ec8779263764c1cbd7c80a1f46c935d6f3bf8df38", func := "liquidcheck/liquidchecklaw34.MeasureWrites", spec := "measureWrites", unfollowed := true, recurses := true, named := ["liquidcheck/names.keywords", "internal/strconv.uint64pow10", "math/bits.deBruijn32tab", "math/bits.deBruijn64tab"], loops := true, apart := false, laid := [("math/bits.deBruijn32tab", laid_math_bits_deBruijn32tab), ("math/bits.deBruijn64tab", laid_math_bits_deBruijn64tab), ("internal/strconv.uint64pow10", laid_internal_strconv_uint64pow10), ("liquidcheck/names.keywords", laid_liquidcheck_names_keywords)], narrowed := true }
def MeasureWritesUptoSaid : Prop := measureWritesUptoRow.holds Tryz.pinned (OpenSpec.upto measureWritesSpec)

/-- 'liquidchecklaw34.MeasureSymbols', WHERE WHAT IT READS IS OF BULK AT MOST 1048576: true; the input reads as it did. -/
def measureSymbolsUptoRow : OpenClaim := { program := "ytehngpkgdcnkiaagreatdoor", sum := "5bf8e1daacb794d2ddf3b00ec8779263764c1cbd7c80a1f46c935d6f3bf8df38", func := "liquidcheck/liquidchecklaw34.MeasureSymbols", spec := "measureSymbols", unfollowed := true, recurses := true, named := ["liquidcheck/names.keywords", "internal/strconv.uint64pow10", "math/bits.deBruijn32tab", "math/bits.deBruijn64tab"], loops := true, apart := false, laid := [("math/bits.deBruijn32tab", laid_math_bits_deBruijn32tab), ("math/bits.deBruijn64tab", laid_math_bits_deBruijn64tab), ("internal/strconv.uint64pow10", laid_internal_strconv_uint64pow10), ("liquidcheck/names.keywords", laid_liquidcheck_names_keywords)], narrowed := true }
def MeasureSymbolsUptoSaid : Prop := measureSymbolsUptoRow.holds Tryz.pinned (OpenSpec.upto measureSymbolsSpec)

/-- 'liquidchecklaw34.MeasureParts', WHERE WHAT IT READS IS OF BULK AT MOST 1048576: true; the input reads as it did. -/
def measurePartsUptoRow : OpenClaim := { program := "ytehngpkgdcnkiaagreatdoor", sum := "5bf8e1daacb794d2ddf3b00ec8779263764c1cbd7c80a1f46c935d6f3bf8df38", func := "liquidcheck/liquidchecklaw34.MeasureParts", spec := "measureParts", unfollowed := true, recurses := true, named := ["liquidcheck/names.keywords", "internal/strconv.uint64pow10", "math/bits.deBruijn32tab", "math/bits.deBruijn64tab"], loops := true, apart := false, laid := [("math/bits.deBruijn32tab", laid_math_bits_deBruijn32tab), ("math/bits.deBruijn64tab", laid_math_bits_deBruijn64tab), ("internal/strconv.uint64pow10", laid_internal_strconv_uint64pow10), ("liquidcheck/names.keywords", laid_liquidcheck_names_keywords)], narrowed := true }
def MeasurePartsUptoSaid : Prop := measurePartsUptoRow.holds Tryz.pinned (OpenSpec.upto measurePartsSpec)

/-- 'liquidchecklaw34.MeasureHolds', WHERE WHAT IT READS IS OF BULK AT MOST 1048576: true; the input reads as it did. -/
def measureHoldsUptoRow : OpenClaim := { program := "ytehngpkgdcnkiaagreatdoor", sum := "5bf8e1daacb794d2ddf3b00ec8779263764c1cbd7c80a1f46c935d6f3bf8df38", func := "liquidcheck/liquidchecklaw34.MeasureHolds", spec := "measureHolds", unfollowed := true, recurses := true, named := ["liquidcheck/names.keywords", "internal/strconv.uint64pow10", "math/bits.deBruijn32tab", "math/bits.deBruijn64tab"], loops := true, apart := false, laid := [("math/bits.deBruijn32tab", laid_math_bits_deBruijn32tab), ("math/bits.deBruijn64tab", laid_math_bits_deBruijn64tab), ("internal/strconv.uint64pow10", laid_internal_strconv_uint64pow10), ("liquidcheck/names.keywords", laid_liquidcheck_names_keywords)], narrowed := true }
def MeasureHoldsUptoSaid : Prop := measureHoldsUptoRow.holds Tryz.pinned (OpenSpec.upto measureHoldsSpec)

end Rows
end Go.Proofs.YtehngpkgdcnkiaaGreatDoor
