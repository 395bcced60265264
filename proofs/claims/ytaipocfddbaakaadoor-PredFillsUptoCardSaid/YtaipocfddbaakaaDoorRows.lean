/-
  NARROWER THAN 'FOR EVERY INPUT', by the rows' own cells (each row's printed sentence says how): PredChecks: loops, laid · PredSubsts: loops, laid · PredJoins: loops, laid · PredReplaces: loops, laid · PredConjuncts: loops, laid · PredLists: loops, laid · PredFills: loops, laid.
  DERIVED. THE GIVEN ROWS OF THIS SEAT. 7 by the template 'for every input the law returns true; each argument reads behind the call as it read before'; 0 by the template 'total and deterministic' (their statements: YtaipocfddbaakaaDoorTotals.lean).
  GIVEN WITH THE SEED: the statements are not yours to turn. If you find one false, say at which input.
  Laid BY PROGRAM, IN A SANDBOX (cutbox-rows.mjs): the forced cells as the released guide's own fill.sh prints them over the translation cc310b9843e9e7c9… (all of the seat's roots in one cut). By AI agents, Wed Nov 11 2026. No macro, syntax, notation, axiom, sorry.
-/
import Derived.Test.YtaipocfddbaakaaDoorChecked
import GoSem.Claim
import GoSem.ClaimJoined
import GoSem.ClaimMapViews
import Derived.JoinedTies
import Derived.KernelRfl
namespace Go.Proofs.YtaipocfddbaakaaDoor
/- THE CELL 'sum', in the pinned program and in every row, IS THE sha256 OF THE DUMP (.gsa) THAT YtaipocfddbaakaaDoorProg.lean LOADS. Nothing in Lean hashes anything: it is a label: what it is worth is what the hold of that sum in a sandbox is worth. -/
noncomputable def Tryd.pinned : Pinned := { name := "ytaipocfddbaakaadoor", sum := "cc310b9843e9e7c9a594f4c36fdf9b2fe6e7951fa0251a8de82c3723b3f58b4c", checked := Tryd.checked }
namespace Rows
def none {H : Type} : Left H := { results := [], args := [] }

/- WHAT THE LISTED PACKAGE-LEVEL VARIABLES READ AS WHEN THE CALL BEGINS. Each datum BY PROGRAM (the guide's laid-datum.mjs) off the statement by which the dump's own 'gosem.cut.vars' lays the variable. In a bare row this is a premise. The card (YtaipocfddbaakaaDoorCards.lean) ties it to the program's text. -/
def laid_liquidcheck_names_keywords {H : Type} : DataW H := .agg [.lit (.string [97, 110, 100]), .lit (.string [97, 115, 115, 117, 109, 101]), .lit (.string [98, 111, 111, 108]), .lit (.string [98, 111, 117, 110, 100]), .lit (.string [99, 97, 115, 101]), .lit (.string [99, 101, 108, 108]), .lit (.string [99, 108, 97, 115, 115]), .lit (.string [100, 97, 116, 97]), .lit (.string [100, 101, 102]), .lit (.string [100, 105, 118]), .lit (.string [101, 108, 115, 101]), .lit (.string [101, 110, 100]), .lit (.string [102, 97, 108, 115, 101]), .lit (.string [102, 111, 114, 97, 108, 108]), .lit (.string [102, 117, 110]), .lit (.string [103, 101, 116]), .lit (.string [105, 102]), .lit (.string [105, 110]), .lit (.string [105, 110, 115, 116]), .lit (.string [105, 110, 116]), .lit (.string [105, 110, 118, 97, 114, 105, 97, 110, 116]), .lit (.string [108, 101, 116]), .lit (.string [109, 97, 116, 99, 104]), .lit (.string [109, 101, 97, 115, 117, 114, 101]), .lit (.string [109, 101, 116, 114, 105, 99]), .lit (.string [109, 111, 100]), .lit (.string [109, 117]), .lit (.string [110, 101, 119]), .lit (.string [110, 111, 116]), .lit (.string [111, 102]), .lit (.string [111, 114]), .lit (.string [113, 117, 97, 108]), .lit (.string [114, 101, 102, 108, 101, 99, 116]), .lit (.string [115, 101, 116]), .lit (.string [116, 104, 101, 110]), .lit (.string [116, 114, 117, 101]), .lit (.string [117, 115, 101]), .lit (.string [118]), .lit (.string [118, 97, 108]), .lit (.string [116, 97, 103]), .lit (.string [119, 104, 101, 114, 101]), .lit (.string [119, 105, 116, 104])]

/-- 'liquidchecklaw07.PredChecks': WHATEVER THE INPUT: true; the input reads as it did. -/
def predChecksSpec : ChangeSpec := { name := "predChecks", fn := fun _ => fun
  | [d1, d2] => { results := [.lit (.bool true)], args := [d1, d2] }
  | _ => none }
def predChecksRow : OpenClaim := { program := "ytaipocfddbaakaadoor", sum := "cc310b9843e9e7c9a594f4c36fdf9b2fe6e7951fa0251a8de82c3723b3f58b4c", func := "liquidcheck/liquidchecklaw07.PredChecks", spec := "predChecks", unfollowed := true, recurses := true, named := ["liquidcheck/names.keywords"], loops := true, apart := false, laid := [("liquidcheck/names.keywords", laid_liquidcheck_names_keywords)] }
def PredChecksSaid : Prop := predChecksRow.holds Tryd.pinned (OpenSpec.ofChange predChecksSpec)

/-- ITS FALSE NEIGHBOUR: 'it returns false'. Refute it at one input. -/
def predChecksWrong : ChangeSpec := { name := "predChecks", fn := fun _ => fun
  | [d1, d2] => { results := [.lit (.bool false)], args := [d1, d2] }
  | _ => none }
def PredChecksWrongFalsely : Prop := predChecksRow.holds Tryd.pinned (OpenSpec.ofChange predChecksWrong)

/-- 'liquidchecklaw07.PredSubsts': WHATEVER THE INPUT: true; the input reads as it did. -/
def predSubstsSpec : ChangeSpec := { name := "predSubsts", fn := fun _ => fun
  | [d1, d2, d3] => { results := [.lit (.bool true)], args := [d1, d2, d3] }
  | _ => none }
def predSubstsRow : OpenClaim := { program := "ytaipocfddbaakaadoor", sum := "cc310b9843e9e7c9a594f4c36fdf9b2fe6e7951fa0251a8de82c3723b3f58b4c", func := "liquidcheck/liquidchecklaw07.PredSubsts", spec := "predSubsts", unfollowed := true, recurses := true, named := ["liquidcheck/names.keywords"], loops := true, apart := false, laid := [("liquidcheck/names.keywords", laid_liquidcheck_names_keywords)] }
def PredSubstsSaid : Prop := predSubstsRow.holds Tryd.pinned (OpenSpec.ofChange predSubstsSpec)

/-- ITS FALSE NEIGHBOUR: 'it returns false'. Refute it at one input. -/
def predSubstsWrong : ChangeSpec := { name := "predSubsts", fn := fun _ => fun
  | [d1, d2, d3] => { results := [.lit (.bool false)], args := [d1, d2, d3] }
  | _ => none }
def PredSubstsWrongFalsely : Prop := predSubstsRow.holds Tryd.pinned (OpenSpec.ofChange predSubstsWrong)

/-- 'liquidchecklaw07.PredJoins': WHATEVER THE INPUT: true; the input reads as it did. -/
def predJoinsSpec : ChangeSpec := { name := "predJoins", fn := fun _ => fun
  | [d1, d2] => { results := [.lit (.bool true)], args := [d1, d2] }
  | _ => none }
def predJoinsRow : OpenClaim := { program := "ytaipocfddbaakaadoor", sum := "cc310b9843e9e7c9a594f4c36fdf9b2fe6e7951fa0251a8de82c3723b3f58b4c", func := "liquidcheck/liquidchecklaw07.PredJoins", spec := "predJoins", unfollowed := true, recurses := true, named := ["liquidcheck/names.keywords"], loops := true, apart := false, laid := [("liquidcheck/names.keywords", laid_liquidcheck_names_keywords)] }
def PredJoinsSaid : Prop := predJoinsRow.holds Tryd.pinned (OpenSpec.ofChange predJoinsSpec)

/-- ITS FALSE NEIGHBOUR: 'it returns false'. Refute it at one input. -/
def predJoinsWrong : ChangeSpec := { name := "predJoins", fn := fun _ => fun
  | [d1, d2] => { results := [.lit (.bool false)], args := [d1, d2] }
  | _ => none }
def PredJoinsWrongFalsely : Prop := predJoinsRow.holds Tryd.pinned (OpenSpec.ofChange predJoinsWrong)

/-- 'liquidchecklaw07.PredReplaces': WHATEVER THE INPUT: true; the input reads as it did. -/
def predReplacesSpec : ChangeSpec := { name := "predReplaces", fn := fun _ => fun
  | [d1, d2, d3] => { results := [.lit (.bool true)], args := [d1, d2, d3] }
  | _ => none }
def predReplacesRow : OpenClaim := { program := "ytaipocfddbaakaadoor", sum := "cc310b9843e9e7c9a594f4c36fdf9b2fe6e7951fa0251a8de82c3723b3f58b4c", func := "liquidcheck/liquidchecklaw07.PredReplaces", spec := "predReplaces", unfollowed := true, recurses := true, named := ["liquidcheck/names.keywords"], loops := true, apart := false, laid := [("liquidcheck/names.keywords", laid_liquidcheck_names_keywords)] }
def PredReplacesSaid : Prop := predReplacesRow.holds Tryd.pinned (OpenSpec.ofChange predReplacesSpec)

/-- ITS FALSE NEIGHBOUR: 'it returns false'. Refute it at one input. -/
def predReplacesWrong : ChangeSpec := { name := "predReplaces", fn := fun _ => fun
  | [d1, d2, d3] => { results := [.lit (.bool false)], args := [d1, d2, d3] }
  | _ => none }
def PredReplacesWrongFalsely : Prop := predReplacesRow.holds Tryd.pinned (OpenSpec.ofChange predReplacesWrong)

/-- 'liquidchecklaw07.PredConjuncts': WHATEVER THE INPUT: true; the input reads as it did. -/
def predConjunctsSpec : ChangeSpec := { name := "predConjuncts", fn := fun _ => fun
  | [d] => { results := [.lit (.bool true)], args := [d] }
  | _ => none }
def predConjunctsRow : OpenClaim := { program := "ytaipocfddbaakaadoor", sum := "cc310b9843e9e7c9a594f4c36fdf9b2fe6e7951fa0251a8de82c3723b3f58b4c", func := "liquidcheck/liquidchecklaw07.PredConjuncts", spec := "predConjuncts", unfollowed := true, recurses := true, named := ["liquidcheck/names.keywords"], loops := true, apart := false, laid := [("liquidcheck/names.keywords", laid_liquidcheck_names_keywords)] }
def PredConjunctsSaid : Prop := predConjunctsRow.holds Tryd.pinned (OpenSpec.ofChange predConjunctsSpec)

/-- ITS FALSE NEIGHBOUR: 'it returns false'. Refute it at one input. -/
def predConjunctsWrong : ChangeSpec := { name := "predConjuncts", fn := fun _ => fun
  | [d] => { results := [.lit (.bool false)], args := [d] }
  | _ => none }
def PredConjunctsWrongFalsely : Prop := predConjunctsRow.holds Tryd.pinned (OpenSpec.ofChange predConjunctsWrong)

/-- 'liquidchecklaw07.PredLists': WHATEVER THE INPUT: true; the input reads as it did. -/
def predListsSpec : ChangeSpec := { name := "predLists", fn := fun _ => fun
  | [d] => { results := [.lit (.bool true)], args := [d] }
  | _ => none }
def predListsRow : OpenClaim := { program := "ytaipocfddbaakaadoor", sum := "cc310b9843e9e7c9a594f4c36fdf9b2fe6e7951fa0251a8de82c3723b3f58b4c", func := "liquidcheck/liquidchecklaw07.PredLists", spec := "predLists", unfollowed := true, recurses := true, named := ["liquidcheck/names.keywords"], loops := true, apart := false, laid := [("liquidcheck/names.keywords", laid_liquidcheck_names_keywords)] }
def PredListsSaid : Prop := predListsRow.holds Tryd.pinned (OpenSpec.ofChange predListsSpec)

/-- ITS FALSE NEIGHBOUR: 'it returns false'. Refute it at one input. -/
def predListsWrong : ChangeSpec := { name := "predLists", fn := fun _ => fun
  | [d] => { results := [.lit (.bool false)], args := [d] }
  | _ => none }
def PredListsWrongFalsely : Prop := predListsRow.holds Tryd.pinned (OpenSpec.ofChange predListsWrong)

/-- 'liquidchecklaw07.PredFills': WHATEVER THE INPUT: true; the input reads as it did. -/
def predFillsSpec : ChangeSpec := { name := "predFills", fn := fun _ => fun
  | [d1, d2, d3] => { results := [.lit (.bool true)], args := [d1, d2, d3] }
  | _ => none }
def predFillsRow : OpenClaim := { program := "ytaipocfddbaakaadoor", sum := "cc310b9843e9e7c9a594f4c36fdf9b2fe6e7951fa0251a8de82c3723b3f58b4c", func := "liquidcheck/liquidchecklaw07.PredFills", spec := "predFills", unfollowed := true, recurses := true, named := ["liquidcheck/names.keywords"], loops := true, apart := false, laid := [("liquidcheck/names.keywords", laid_liquidcheck_names_keywords)] }
def PredFillsSaid : Prop := predFillsRow.holds Tryd.pinned (OpenSpec.ofChange predFillsSpec)

/-- ITS FALSE NEIGHBOUR: 'it returns false'. Refute it at one input. -/
def predFillsWrong : ChangeSpec := { name := "predFills", fn := fun _ => fun
  | [d1, d2, d3] => { results := [.lit (.bool false)], args := [d1, d2, d3] }
  | _ => none }
def PredFillsWrongFalsely : Prop := predFillsRow.holds Tryd.pinned (OpenSpec.ofChange predFillsWrong)

/- THE SECOND FORM. 'bulk': how many values and letters a reading holds, each counted each time it is reached (what is shared counts as often as it is met; a slice's spare places count too). A statement '..UptoSaid' is the law's where the arguments, and the package variables that the reading takes, are together of bulk at most 1048576: NARROWER than '..Said'. Prove '..Said' where nothing that the law and all that it calls make is longer than what came in: it says more and counts as full. Else prove '..UptoSaid'. A law counts once. -/
mutual
def uptoBulk {H : Type} : DataW H → Nat
  | .lit (.string bytes) => bytes.length + 1
  | .lit _ => 1
  | .nil => 1
  | .ptr d => uptoBulk d + 1
  | .slice elems spare => uptoBulkAll elems + uptoBulkAll spare + 1
  | .agg parts => uptoBulkAll parts + 1
  | .iface _ d => uptoBulk d + 1
  | .map entries => uptoBulkEntries entries + 1
  | .held _ => 1
def uptoBulkAll {H : Type} : List (DataW H) → Nat
  | [] => 0
  | d :: r => uptoBulk d + uptoBulkAll r
def uptoBulkEntries {H : Type} : List (Lit × DataW H) → Nat
  | [] => 0
  | x :: r => uptoBulkEntry x + uptoBulkEntries r
def uptoBulkEntry {H : Type} : Lit × DataW H → Nat
  | (.string bytes, d) => bytes.length + uptoBulk d + 1
  | (_, d) => uptoBulk d + 1
 end
def uptoSmall : (H : Type) → List (DataW H) → Bool := fun _ ds => decide (uptoBulkAll ds ≤ 1048576)
def OpenSpec.upto (s : _root_.Go.ChangeSpec) : _root_.Go.OpenSpec := { _root_.Go.OpenSpec.ofChange s with cond := some uptoSmall }

/-- 'liquidchecklaw07.PredChecks', WHERE WHAT IT READS IS OF BULK AT MOST 1048576: true; the input reads as it did. -/
def predChecksUptoRow : OpenClaim := { program := "ytaipocfddbaakaadoor", sum := "cc310b9843e9e7c9a594f4c36fdf9b2fe6e7951fa0251a8de82c3723b3f58b4c", func := "liquidcheck/liquidchecklaw07.PredChecks", spec := "predChecks", unfollowed := true, recurses := true, named := ["liquidcheck/names.keywords"], loops := true, apart := false, laid := [("liquidcheck/names.keywords", laid_liquidcheck_names_keywords)], narrowed := true }
def PredChecksUptoSaid : Prop := predChecksUptoRow.holds Tryd.pinned (OpenSpec.upto predChecksSpec)

/-- 'liquidchecklaw07.PredSubsts', WHERE WHAT IT READS IS OF BULK AT MOST 1048576: true; the input reads as it did. -/
def predSubstsUptoRow : OpenClaim := { program := "ytaipocfddbaakaadoor", sum := "cc310b9843e9e7c9a594f4c36fdf9b2fe6e7951fa0251a8de82c3723b3f58b4c", func := "liquidcheck/liquidchecklaw07.PredSubsts", spec := "predSubsts", unfollowed := true, recurses := true, named := ["liquidcheck/names.keywords"], loops := true, apart := false, laid := [("liquidcheck/names.keywords", laid_liquidcheck_names_keywords)], narrowed := true }
def PredSubstsUptoSaid : Prop := predSubstsUptoRow.holds Tryd.pinned (OpenSpec.upto predSubstsSpec)

/-- 'liquidchecklaw07.PredJoins', WHERE WHAT IT READS IS OF BULK AT MOST 1048576: true; the input reads as it did. -/
def predJoinsUptoRow : OpenClaim := { program := "ytaipocfddbaakaadoor", sum := "cc310b9843e9e7c9a594f4c36fdf9b2fe6e7951fa0251a8de82c3723b3f58b4c", func := "liquidcheck/liquidchecklaw07.PredJoins", spec := "predJoins", unfollowed := true, recurses := true, named := ["liquidcheck/names.keywords"], loops := true, apart := false, laid := [("liquidcheck/names.keywords", laid_liquidcheck_names_keywords)], narrowed := true }
def PredJoinsUptoSaid : Prop := predJoinsUptoRow.holds Tryd.pinned (OpenSpec.upto predJoinsSpec)

/-- 'liquidchecklaw07.PredReplaces', WHERE WHAT IT READS IS OF BULK AT MOST 1048576: true; the input reads as it did. -/
def predReplacesUptoRow : OpenClaim := { program := "ytaipocfddbaakaadoor", sum := "cc310b9843e9e7c9a594f4c36fdf9b2fe6e7951fa0251a8de82c3723b3f58b4c", func := "liquidcheck/liquidchecklaw07.PredReplaces", spec := "predReplaces", unfollowed := true, recurses := true, named := ["liquidcheck/names.keywords"], loops := true, apart := false, laid := [("liquidcheck/names.keywords", laid_liquidcheck_names_keywords)], narrowed := true }
def PredReplacesUptoSaid : Prop := predReplacesUptoRow.holds Tryd.pinned (OpenSpec.upto predReplacesSpec)

/-- 'liquidchecklaw07.PredConjuncts', WHERE WHAT IT READS IS OF BULK AT MOST 1048576: true; the input reads as it did. -/
def predConjunctsUptoRow : OpenClaim := { program := "ytaipocfddbaakaadoor", sum := "cc310b9843e9e7c9a594f4c36fdf9b2fe6e7951fa0251a8de82c3723b3f58b4c", func := "liquidcheck/liquidchecklaw07.PredConjuncts", spec := "predConjuncts", unfollowed := true, recurses := true, named := ["liquidcheck/names.keywords"], loops := true, apart := false, laid := [("liquidcheck/names.keywords", laid_liquidcheck_names_keywords)], narrowed := true }
def PredConjunctsUptoSaid : Prop := predConjunctsUptoRow.holds Tryd.pinned (OpenSpec.upto predConjunctsSpec)

/-- 'liquidchecklaw07.PredLists', WHERE WHAT IT READS IS OF BULK AT MOST 1048576: true; the input reads as it did. -/
def predListsUptoRow : OpenClaim := { program := "ytaipocfddbaakaadoor", sum := "cc310b9843e9e7c9a594f4c36fdf9b2fe6e7951fa0251a8de82c3723b3f58b4c", func := "liquidcheck/liquidchecklaw07.PredLists", spec := "predLists", unfollowed := true, recurses := true, named := ["liquidcheck/names.keywords"], loops := true, apart := false, laid := [("liquidcheck/names.keywords", laid_liquidcheck_names_keywords)], narrowed := true }
def PredListsUptoSaid : Prop := predListsUptoRow.holds Tryd.pinned (OpenSpec.upto predListsSpec)

/-- 'liquidchecklaw07.PredFills', WHERE WHAT IT READS IS OF BULK AT MOST 1048576: true; the input reads as it did. -/
def predFillsUptoRow : OpenClaim := { program := "ytaipocfddbaakaadoor", sum := "cc310b9843e9e7c9a594f4c36fdf9b2fe6e7951fa0251a8de82c3723b3f58b4c", func := "liquidcheck/liquidchecklaw07.PredFills", spec := "predFills", unfollowed := true, recurses := true, named := ["liquidcheck/names.keywords"], loops := true, apart := false, laid := [("liquidcheck/names.keywords", laid_liquidcheck_names_keywords)], narrowed := true }
def PredFillsUptoSaid : Prop := predFillsUptoRow.holds Tryd.pinned (OpenSpec.upto predFillsSpec)

end Rows
end Go.Proofs.YtaipocfddbaakaaDoor
