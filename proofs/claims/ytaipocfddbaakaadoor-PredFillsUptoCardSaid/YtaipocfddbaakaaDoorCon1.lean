/-
  CONTRACTS: what the functions answer, as plain Lean functions, each by evaluation at the abstract machine.
-/
import Derived.KernelRfl
import Derived.Test.YtaipocfddbaakaaDoorFns
section
set_option linter.unusedSimpArgs false
set_option linter.unusedVariables false
set_option linter.unusedSectionVars false
namespace Go.Abs
namespace Pred
mutual
def nodes : Pred → Int
  | .mk _ _ _ ks => nodess 1 ks
def nodess (a : Int) : List Pred → Int
  | [] => a
  | k :: ks => nodess (IntKind.i64.wrap (a + nodes k)) ks
end
theorem nodess_eq (a : Int) (ks : List Pred) : nodess a ks = ks.foldl (fun a k => IntKind.i64.wrap (a + nodes k)) a := by
  induction ks generalizing a with
  | nil => simp [nodess]
  | cons k ks ih => simp [nodess, ih]
theorem nodes_eq (p : Pred) : nodes p = p.kids.foldl (fun a k => IntKind.i64.wrap (a + nodes k)) 1 := by cases p; simp [nodes, kids, nodess_eq]
end Pred
theorem pred_Nodes_ev {E : AEnv} (Z : Sys E) (p : Pred) : E.C pred_Nodes [.agg (Pred.cells p)] (.one (.int .i64 p.nodes)) := by
  induction p using Pred.ind with
  | h o s n ks ih =>
  refine Z.pred_Nodes _ _ ⟨Nat.le_of_ble_eq_true rfl, ?_⟩
  rw [Pred.cells_eq, Pred.nodes_eq]
  simp only [fn_pred_Nodes, go_sem, Nat.reduceEqDiff, reduceCtorEq, Nat.reduceAdd, Nat.reduceLeDiff, Bool.false_eq_true, Nat.reduceMul, Bool.true_eq_false, Nat.reduceLT, Pred.kids]
  intro hlen
  refine loop_list ks (fun _ => True) (fun done rest => ⟨[(9, .d (.int .i64 done.length)), (8, .d (.int .i64 (ks.map Pred.cells).length)), (7, .d (.lst (ks.map Pred.cells))), (3, .d (.int .i64 (done.foldl (fun a k => IntKind.i64.wrap (a + Pred.nodes k)) 1)))], [], []⟩) ?_ trivial ?_ ?_
  · exact Ent_plain (by simp only [go_sem, Nat.reduceEqDiff, reduceCtorEq, Nat.reduceAdd, Nat.reduceLeDiff, Bool.false_eq_true, Nat.reduceMul, Bool.true_eq_false, Nat.reduceLT, Int.natCast_zero, List.foldl_nil])
  · intro done k r hl _
    have hk' := ih k (by rw [hl]; simp)
    have hlt := lt_mid hl
    have hw : IntKind.i64.wrap ((done.length : Int) + 1) = ((done.length + 1 : Nat) : Int) := wrap_succ (by omega)
    have hx : (ks.map Pred.cells).getD done.length [] = Pred.cells k := by rw [hl]; exact getD_mid _ _ _ _ _
    simp only [fn_pred_Nodes_L1, go_sem, Nat.reduceEqDiff, reduceCtorEq, Nat.reduceAdd, Nat.reduceLeDiff, Bool.false_eq_true, Nat.reduceMul, Bool.true_eq_false, Nat.reduceLT, hlt, hx]
    refine call_by hk' ?_
    simp only [go_sem, Nat.reduceEqDiff, reduceCtorEq, Nat.reduceAdd, Nat.reduceLeDiff, Bool.false_eq_true, Nat.reduceMul, Bool.true_eq_false, Nat.reduceLT, hw, List.length_append, List.foldl_append, List.foldl_cons, List.foldl_nil]
    exact Ent_plain (by simp only [go_sem, Nat.reduceEqDiff, reduceCtorEq, Nat.reduceAdd, Nat.reduceLeDiff, Bool.false_eq_true, Nat.reduceMul, Bool.true_eq_false, Nat.reduceLT])
  · simp only [fn_pred_Nodes_L1, go_sem, Nat.reduceEqDiff, reduceCtorEq, Nat.reduceAdd, Nat.reduceLeDiff, Bool.false_eq_true, Nat.reduceMul, Bool.true_eq_false, Nat.reduceLT, forall_const]
end Go.Abs
end
section
set_option linter.unusedSimpArgs false
set_option linter.unusedVariables false
set_option linter.unusedSectionVars false
namespace Go.Abs
/-! ## bytes and names -/
def isSmall (n : Int) : Bool := decide (97 ≤ n) && decide (n ≤ 122)
def isCapital (n : Int) : Bool := decide (65 ≤ n) && decide (n ≤ 90)
def isDigit (n : Int) : Bool := decide (48 ≤ n) && decide (n ≤ 57)
def isSized (s : List UInt8) : Bool := decide ((s.length : Int) ≥ 1) && decide ((s.length : Int) ≤ 24)
def cutAt : List UInt8 → List UInt8 × List UInt8 × Bool
  | [] => ([], [], false)
  | c :: s => if c.toNat = 46 then ([], s, true) else (c :: (cutAt s).1, (cutAt s).2.1, (cutAt s).2.2)
theorem cutAt_no : ∀ {s : List UInt8}, (∀ c ∈ s, c.toNat ≠ 46) → cutAt s = (s, [], false)
  | [], _ => rfl
  | c :: s, h => by simp [cutAt, h c (by simp), cutAt_no (s := s) fun x hx => h x (by simp [hx])]
theorem cutAt_at : ∀ {a : List UInt8} {c : UInt8} {b : List UInt8}, (∀ c ∈ a, c.toNat ≠ 46) → c.toNat = 46 → cutAt (a ++ c :: b) = (a, b, true)
  | [], c, b, _, hc => by simp [cutAt, hc]
  | x :: a, c, b, h, hc => by simp [cutAt, h x (by simp), cutAt_at (a := a) (fun x hx => h x (by simp [hx])) hc]
def alnum (n : Int) : Bool := !(!isSmall n && !isCapital n && !isDigit n)
variable {E : AEnv} (Z : Sys E)
include Z
theorem names_small_ev (n : Int) : E.C names_small [.one (.int .u8 n)] (.one (.bool (isSmall n))) := by
  refine Z.names_small _ _ ⟨Nat.le_of_ble_eq_true rfl, ?_⟩
  simp only [fn_names_small, go_sem, Nat.reduceEqDiff, reduceCtorEq, Nat.reduceAdd, Nat.reduceLeDiff, Bool.false_eq_true, Nat.reduceMul, Bool.true_eq_false, Nat.reduceLT, isSmall]
theorem names_capital_ev (n : Int) : E.C names_capital [.one (.int .u8 n)] (.one (.bool (isCapital n))) := by
  refine Z.names_capital _ _ ⟨Nat.le_of_ble_eq_true rfl, ?_⟩
  simp only [fn_names_capital, go_sem, Nat.reduceEqDiff, reduceCtorEq, Nat.reduceAdd, Nat.reduceLeDiff, Bool.false_eq_true, Nat.reduceMul, Bool.true_eq_false, Nat.reduceLT, isCapital]
theorem names_digit_ev (n : Int) : E.C names_digit [.one (.int .u8 n)] (.one (.bool (isDigit n))) := by
  refine Z.names_digit _ _ ⟨Nat.le_of_ble_eq_true rfl, ?_⟩
  simp only [fn_names_digit, go_sem, Nat.reduceEqDiff, reduceCtorEq, Nat.reduceAdd, Nat.reduceLeDiff, Bool.false_eq_true, Nat.reduceMul, Bool.true_eq_false, Nat.reduceLT, isDigit]
theorem names_sized_ev (s : List UInt8) : E.C names_sized [.one (.str s)] (.one (.bool (isSized s))) := by
  refine Z.names_sized _ _ ⟨Nat.le_of_ble_eq_true rfl, ?_⟩
  simp only [fn_names_sized, go_sem, Nat.reduceEqDiff, reduceCtorEq, Nat.reduceAdd, Nat.reduceLeDiff, Bool.false_eq_true, Nat.reduceMul, Bool.true_eq_false, Nat.reduceLT, isSized]
theorem names_cut_ev (s : List UInt8) : E.C names_cut [.one (.str s)] (.tup [.one (.str (cutAt s).1), .one (.str (cutAt s).2.1), .one (.bool (cutAt s).2.2)]) := by
  refine Z.names_cut _ _ ⟨Nat.le_of_ble_eq_true rfl, ?_⟩
  simp only [fn_names_cut, go_sem, Nat.reduceEqDiff, reduceCtorEq, Nat.reduceAdd, Nat.reduceLeDiff, Bool.false_eq_true, Nat.reduceMul, Bool.true_eq_false, Nat.reduceLT]
  refine loop_list s (fun done => ∀ c ∈ done, c.toNat ≠ 46) (fun done rest => ⟨[(0, .d (.str s)), (5, .d (.int .i64 done.length))], [], []⟩) ?_ (by simp) ?_ ?_
  · exact Ent_plain (by simp only [go_sem, Nat.reduceEqDiff, reduceCtorEq, Nat.reduceAdd, Nat.reduceLeDiff, Bool.false_eq_true, Nat.reduceMul, Bool.true_eq_false, Nat.reduceLT, Int.natCast_zero])
  · intro done c r hl hI
    have hlt := lt_mid hl
    have hx : s.getD done.length 0 = c := getD_mid0 _ _ _ _ hl
    simp only [fn_names_cut_L1, go_sem, Nat.reduceEqDiff, reduceCtorEq, Nat.reduceAdd, Nat.reduceLeDiff, Bool.false_eq_true, Nat.reduceMul, Bool.true_eq_false, Nat.reduceLT, hlt, hx]
    intro hlen
    have hw : IntKind.i64.wrap ((done.length : Int) + 1) = ((done.length + 1 : Nat) : Int) := wrap_succ (by omega)
    by_cases hc : c.toNat = 46
    · have h1 : (((c.toNat : Nat) : Int) == 46) = true := by simp [hc]
      simp only [go_sem, Nat.reduceEqDiff, reduceCtorEq, Nat.reduceAdd, Nat.reduceLeDiff, Bool.false_eq_true, Nat.reduceMul, Bool.true_eq_false, Nat.reduceLT, h1, hw]
      rw [hl, cutAt_at hI hc]
      simp
      omega
    · have h1 : (((c.toNat : Nat) : Int) == 46) = false := by simp; omega
      simp only [go_sem, Nat.reduceEqDiff, reduceCtorEq, Nat.reduceAdd, Nat.reduceLeDiff, Bool.false_eq_true, Nat.reduceMul, Bool.true_eq_false, Nat.reduceLT, h1, hw, List.length_append]
      refine ⟨Ent_plain (by simp only [go_sem, Nat.reduceEqDiff, reduceCtorEq, Nat.reduceAdd, Nat.reduceLeDiff, Bool.false_eq_true, Nat.reduceMul, Bool.true_eq_false, Nat.reduceLT]), ?_⟩
      intro x hx
      rcases List.mem_append.1 hx with hx | hx
      · exact hI x hx
      · simp at hx; subst hx; exact hc
  · intro hI
    simp only [fn_names_cut_L1, go_sem, Nat.reduceEqDiff, reduceCtorEq, Nat.reduceAdd, Nat.reduceLeDiff, Bool.false_eq_true, Nat.reduceMul, Bool.true_eq_false, Nat.reduceLT, cutAt_no hI]
theorem names_alphanumeric_ev (s : List UInt8) : E.C names_alphanumeric [.one (.str s)] (.one (.bool (s.all fun c => alnum c.toNat))) := by
  refine Z.names_alphanumeric _ _ ⟨Nat.le_of_ble_eq_true rfl, ?_⟩
  simp only [fn_names_alphanumeric, go_sem, Nat.reduceEqDiff, reduceCtorEq, Nat.reduceAdd, Nat.reduceLeDiff, Bool.false_eq_true, Nat.reduceMul, Bool.true_eq_false, Nat.reduceLT]
  refine loop_list s (fun done => done.all (fun c => alnum c.toNat) = true) (fun done rest => ⟨[(0, .d (.str s)), (3, .d (.int .i64 done.length))], [], []⟩) ?_ (by simp) ?_ ?_
  · exact Ent_plain (by simp only [go_sem, Nat.reduceEqDiff, reduceCtorEq, Nat.reduceAdd, Nat.reduceLeDiff, Bool.false_eq_true, Nat.reduceMul, Bool.true_eq_false, Nat.reduceLT, Int.natCast_zero])
  · intro done c r hl hI
    have hlt := lt_mid hl
    have hx : s.getD done.length 0 = c := getD_mid0 _ _ _ _ hl
    simp only [fn_names_alphanumeric_L1, go_sem, Nat.reduceEqDiff, reduceCtorEq, Nat.reduceAdd, Nat.reduceLeDiff, Bool.false_eq_true, Nat.reduceMul, Bool.true_eq_false, Nat.reduceLT, hlt, hx]
    intro hlen
    have hw : IntKind.i64.wrap ((done.length : Int) + 1) = ((done.length + 1 : Nat) : Int) := wrap_succ (by omega)
    refine call_by (names_small_ev Z _) ?_
    simp only [go_sem, Nat.reduceEqDiff, reduceCtorEq, Nat.reduceAdd, Nat.reduceLeDiff, Bool.false_eq_true, Nat.reduceMul, Bool.true_eq_false, Nat.reduceLT, hw, hlt, hx]
    refine call_by_g (names_capital_ev Z _) ?_
    simp only [go_sem, Nat.reduceEqDiff, reduceCtorEq, Nat.reduceAdd, Nat.reduceLeDiff, Bool.false_eq_true, Nat.reduceMul, Bool.true_eq_false, Nat.reduceLT, hw, hlt, hx]
    refine call_by_g (names_digit_ev Z _) ?_
    simp only [go_sem, Nat.reduceEqDiff, reduceCtorEq, Nat.reduceAdd, Nat.reduceLeDiff, Bool.false_eq_true, Nat.reduceMul, Bool.true_eq_false, Nat.reduceLT, hw, hlt, hx]
    cases h1 : (!isSmall c.toNat && !isCapital c.toNat && !isDigit c.toNat) with
    | false =>
      have hc : alnum c.toNat = true := by rw [alnum, h1]; rfl
      simp only [go_sem, Nat.reduceEqDiff, reduceCtorEq, Nat.reduceAdd, Nat.reduceLeDiff, Bool.false_eq_true, Nat.reduceMul, Bool.true_eq_false, Nat.reduceLT, h1, hw, List.length_append, List.all_append, List.all_cons, List.all_nil, hI, hc]
      exact Ent_plain (by simp only [go_sem, Nat.reduceEqDiff, reduceCtorEq, Nat.reduceAdd, Nat.reduceLeDiff, Bool.false_eq_true, Nat.reduceMul, Bool.true_eq_false, Nat.reduceLT])
    | true =>
      have hc : alnum c.toNat = false := by rw [alnum, h1]; rfl
      simp only [go_sem, Nat.reduceEqDiff, reduceCtorEq, Nat.reduceAdd, Nat.reduceLeDiff, Bool.false_eq_true, Nat.reduceMul, Bool.true_eq_false, Nat.reduceLT, h1, hl, List.all_append, List.all_cons, hc, Bool.false_and, Bool.and_false]
  · intro hI
    simp only [fn_names_alphanumeric_L1, go_sem, Nat.reduceEqDiff, reduceCtorEq, Nat.reduceAdd, Nat.reduceLeDiff, Bool.false_eq_true, Nat.reduceMul, Bool.true_eq_false, Nat.reduceLT, hI]
end Go.Abs
end
section
set_option linter.unusedSimpArgs false
set_option linter.unusedVariables false
set_option linter.unusedSectionVars false
namespace Go.Abs
/-- a walk over bytes that ends at the first bad one -/
def scan (bad : Nat → Int → Bool) : Nat → List UInt8 → Bool
  | _, [] => true
  | i, c :: s => !bad i c.toNat && scan bad (i + 1) s
theorem scan_app (bad : Nat → Int → Bool) : ∀ (a : List UInt8) (i : Nat) (b : List UInt8), scan bad i (a ++ b) = (scan bad i a && scan bad (i + a.length) b)
  | [], i, b => by simp [scan]
  | c :: a, i, b => by simp only [List.cons_append, scan, scan_app bad a, List.length_cons, Bool.and_assoc]; congr 3; omega
def badWord (i : Nat) (n : Int) : Bool := !isSmall n && ((i : Int) == 0 || (!isDigit n && n != 95))
def badName (_ : Nat) (n : Int) : Bool := !isSmall n && !isDigit n && n != 95
def kws : List (List UInt8) := [[97, 110, 100], [97, 115, 115, 117, 109, 101], [98, 111, 111, 108], [98, 111, 117, 110, 100], [99, 97, 115, 101], [99, 101, 108, 108], [99, 108, 97, 115, 115], [100, 97, 116, 97], [100, 101, 102], [100, 105, 118], [101, 108, 115, 101], [101, 110, 100], [102, 97, 108, 115, 101], [102, 111, 114, 97, 108, 108], [102, 117, 110], [103, 101, 116], [105, 102], [105, 110], [105, 110, 115, 116], [105, 110, 116], [105, 110, 118, 97, 114, 105, 97, 110, 116], [108, 101, 116], [109, 97, 116, 99, 104], [109, 101, 97, 115, 117, 114, 101], [109, 101, 116, 114, 105, 99], [109, 111, 100], [109, 117], [110, 101, 119], [110, 111, 116], [111, 102], [111, 114], [113, 117, 97, 108], [114, 101, 102, 108, 101, 99, 116], [115, 101, 116], [116, 104, 101, 110], [116, 114, 117, 101], [117, 115, 101], [118], [118, 97, 108], [116, 97, 103], [119, 104, 101, 114, 101], [119, 105, 116, 104]]
def isName (s : List UInt8) : Bool := isSized s && isSmall (s.getD 0 0).toNat && !kws.contains s && scan badName 1 (s.drop 1)
def isTitle (s : List UInt8) : Bool := isSized s && isCapital (s.getD 0 0).toNat && (s.all fun c => alnum c.toNat) && (s != [73, 110, 116] && s != [66, 111, 111, 108] && s != [67, 101, 108, 108] && s != [70, 117, 110])
variable {E : AEnv} (Z : Sys E)
include Z
theorem names_word_ev (s : List UInt8) : E.C names_word [.one (.str s)] (.one (.bool (scan badWord 0 s))) := by
  refine Z.names_word _ _ ⟨Nat.le_of_ble_eq_true rfl, ?_⟩
  simp only [fn_names_word, go_sem, Nat.reduceEqDiff, reduceCtorEq, Nat.reduceAdd, Nat.reduceLeDiff, Bool.false_eq_true, Nat.reduceMul, Bool.true_eq_false, Nat.reduceLT]
  refine loop_list s (fun done => scan badWord 0 done = true) (fun done rest => ⟨[(0, .d (.str s)), (3, .d (.int .i64 done.length))], [], []⟩) ?_ rfl ?_ ?_
  · exact Ent_plain (by simp only [go_sem, Nat.reduceEqDiff, reduceCtorEq, Nat.reduceAdd, Nat.reduceLeDiff, Bool.false_eq_true, Nat.reduceMul, Bool.true_eq_false, Nat.reduceLT, Int.natCast_zero])
  · intro done c r hl hI
    have hlt := lt_mid hl
    have hx : s.getD done.length 0 = c := getD_mid0 _ _ _ _ hl
    simp only [fn_names_word_L1, go_sem, Nat.reduceEqDiff, reduceCtorEq, Nat.reduceAdd, Nat.reduceLeDiff, Bool.false_eq_true, Nat.reduceMul, Bool.true_eq_false, Nat.reduceLT, hlt, hx]
    intro hlen
    have hw : IntKind.i64.wrap ((done.length : Int) + 1) = ((done.length + 1 : Nat) : Int) := wrap_succ (by omega)
    refine call_by (names_small_ev Z _) ?_
    simp only [go_sem, Nat.reduceEqDiff, reduceCtorEq, Nat.reduceAdd, Nat.reduceLeDiff, Bool.false_eq_true, Nat.reduceMul, Bool.true_eq_false, Nat.reduceLT, hw, hlt, hx]
    refine call_by_g (names_digit_ev Z _) ?_
    simp only [go_sem, Nat.reduceEqDiff, reduceCtorEq, Nat.reduceAdd, Nat.reduceLeDiff, Bool.false_eq_true, Nat.reduceMul, Bool.true_eq_false, Nat.reduceLT, hw, hlt, hx]
    cases h1 : badWord done.length c.toNat with
    | false =>
      have h2 := h1
      rw [badWord] at h2
      simp only [go_sem, Nat.reduceEqDiff, reduceCtorEq, Nat.reduceAdd, Nat.reduceLeDiff, Bool.false_eq_true, Nat.reduceMul, Bool.true_eq_false, Nat.reduceLT, h2, hw, List.length_append, scan_app, scan, hI, h1, Nat.zero_add, Bool.not_false]
      refine ⟨?_, ?_, Ent_plain (by simp only [go_sem, Nat.reduceEqDiff, reduceCtorEq, Nat.reduceAdd, Nat.reduceLeDiff, Bool.false_eq_true, Nat.reduceMul, Bool.true_eq_false, Nat.reduceLT])⟩ <;> (cases isSmall (c.toNat : Int) <;> cases isDigit (c.toNat : Int) <;> cases ((done.length : Int) == 0) <;> simp)
    | true =>
      have h2 := h1
      rw [badWord] at h2
      simp only [go_sem, Nat.reduceEqDiff, reduceCtorEq, Nat.reduceAdd, Nat.reduceLeDiff, Bool.false_eq_true, Nat.reduceMul, Bool.true_eq_false, Nat.reduceLT, h2, hl, scan_app, scan, h1, Nat.zero_add, Bool.not_true, Bool.false_and, Bool.and_false]
      refine ⟨?_, ?_⟩ <;> (cases isSmall (c.toNat : Int) <;> cases isDigit (c.toNat : Int) <;> cases ((done.length : Int) == 0) <;> simp)
  · intro hI
    simp only [fn_names_word_L1, go_sem, Nat.reduceEqDiff, reduceCtorEq, Nat.reduceAdd, Nat.reduceLeDiff, Bool.false_eq_true, Nat.reduceMul, Bool.true_eq_false, Nat.reduceLT, hI]
theorem names_Keyword_ev (hG : E.G 0 = some (kws.map .str)) (s : List UInt8) : E.C names_Keyword [.one (.str s)] (.one (.bool (kws.contains s))) := by
  refine Z.names_Keyword _ _ ⟨Nat.le_of_ble_eq_true rfl, ?_⟩
  have h1 : (kws.map D.str).take 42 = kws.map D.str := rfl
  have h2 : 42 ≤ kws.length := Nat.le_of_ble_eq_true rfl
  simp only [fn_names_Keyword, go_sem, Nat.reduceEqDiff, reduceCtorEq, Nat.reduceAdd, Nat.reduceLeDiff, Bool.false_eq_true, Nat.reduceMul, Bool.true_eq_false, Nat.reduceLT, hG, h1]
  refine ⟨h2, ?_⟩
  refine loop_list kws (fun done => done.contains s = false) (fun done rest => ⟨[(0, .d (.str s)), (6, .d (.int .i64 done.length)), (5, .agg ((kws.map .str).map .d))], [], []⟩) ?_ rfl ?_ ?_
  · exact Ent_plain (by simp only [go_sem, Nat.reduceEqDiff, reduceCtorEq, Nat.reduceAdd, Nat.reduceLeDiff, Bool.false_eq_true, Nat.reduceMul, Bool.true_eq_false, Nat.reduceLT, Int.natCast_zero])
  · intro done c r hl hI
    have hlt : (done.length : Int) < 42 := lt_mid hl
    have hx : ((kws.map D.str).map AV.d).getD done.length .undef = .d (.str c) := by rw [hl]; simp
    have hlt2 : (done.length : Int) < kws.length := lt_mid hl
    have hw : IntKind.i64.wrap ((done.length : Int) + 1) = ((done.length + 1 : Nat) : Int) := wrap_succ (by omega)
    simp only [fn_names_Keyword_L1, go_sem, Nat.reduceEqDiff, reduceCtorEq, Nat.reduceAdd, Nat.reduceLeDiff, Bool.false_eq_true, Nat.reduceMul, Bool.true_eq_false, Nat.reduceLT, hlt, hx, hlt2, hw]
    cases h1 : (c == s) with
    | false =>
      simp only [go_sem, Nat.reduceEqDiff, reduceCtorEq, Nat.reduceAdd, Nat.reduceLeDiff, Bool.false_eq_true, Nat.reduceMul, Bool.true_eq_false, Nat.reduceLT, h1, hw, List.length_append]
      refine ⟨hlt, Ent_plain (by simp only [go_sem, Nat.reduceEqDiff, reduceCtorEq, Nat.reduceAdd, Nat.reduceLeDiff, Bool.false_eq_true, Nat.reduceMul, Bool.true_eq_false, Nat.reduceLT]), ?_⟩
      have h1 : (s == c) = false := by rw [← h1]; exact BEq.comm
      simp only [List.contains_eq_any_beq, List.any_append, List.any_cons, List.any_nil, Bool.or_false] at hI ⊢
      rw [hI, h1]; rfl
    | true =>
      simp only [go_sem, Nat.reduceEqDiff, reduceCtorEq, Nat.reduceAdd, Nat.reduceLeDiff, Bool.false_eq_true, Nat.reduceMul, Bool.true_eq_false, Nat.reduceLT, h1]
      refine ⟨hlt, ?_⟩
      have h1 : c = s := by simpa using h1
      subst h1
      rw [hl]
      simp
  · intro hI
    have hlt : (decide ((kws.length : Int) < 42)) = false := rfl
    simp only [fn_names_Keyword_L1, go_sem, Nat.reduceEqDiff, reduceCtorEq, Nat.reduceAdd, Nat.reduceLeDiff, Bool.false_eq_true, Nat.reduceMul, Bool.true_eq_false, Nat.reduceLT, hI, hlt]
end Go.Abs
end
section
set_option linter.unusedSimpArgs false
set_option linter.unusedVariables false
set_option linter.unusedSectionVars false
namespace Go.Abs
theorem isSized_pos {s : List UInt8} (h : isSized s = true) : 0 < s.length := by
  simp only [isSized, Bool.and_eq_true, decide_eq_true_eq] at h; omega
variable {E : AEnv} (Z : Sys E)
include Z
theorem names_name_ev (hG : E.G 0 = some (kws.map .str)) (s : List UInt8) : E.C names_name [.one (.str s)] (.one (.bool (isName s))) := by
  refine Z.names_name _ _ ⟨Nat.le_of_ble_eq_true rfl, ?_⟩
  simp only [fn_names_name, go_sem, Nat.reduceEqDiff, reduceCtorEq, Nat.reduceAdd, Nat.reduceLeDiff, Bool.false_eq_true, Nat.reduceMul, Bool.true_eq_false, Nat.reduceLT]
  refine call_by (names_sized_ev Z s) ?_
  cases h0 : isSized s with
  | false =>
    have hr : isName s = false := by simp [isName, h0]
    simp only [go_sem, Nat.reduceEqDiff, reduceCtorEq, Nat.reduceAdd, Nat.reduceLeDiff, Bool.false_eq_true, Nat.reduceMul, Bool.true_eq_false, Nat.reduceLT, hr]
    refine ⟨.one (.bool false), ?_⟩
    simp only [go_sem, Nat.reduceEqDiff, reduceCtorEq, Nat.reduceAdd, Nat.reduceLeDiff, Bool.false_eq_true, Nat.reduceMul, Bool.true_eq_false, Nat.reduceLT, hr]
    refine ⟨.one (.bool false), ?_⟩
    simp only [go_sem, Nat.reduceEqDiff, reduceCtorEq, Nat.reduceAdd, Nat.reduceLeDiff, Bool.false_eq_true, Nat.reduceMul, Bool.true_eq_false, Nat.reduceLT, hr]
  | true =>
    have hpos := isSized_pos h0
    have hpos' : ((0 : Int) < s.length) = True := eq_true (by omega)
    simp only [go_sem, Nat.reduceEqDiff, reduceCtorEq, Nat.reduceAdd, Nat.reduceLeDiff, Bool.false_eq_true, Nat.reduceMul, Bool.true_eq_false, Nat.reduceLT, hpos', Bool.not_true, Int.toNat_zero]
    refine call_by (names_small_ev Z _) ?_
    cases h1 : isSmall (s.getD 0 0).toNat with
    | false =>
      have hr : isName s = false := by simp only [isName, h0, h1]; rfl
      simp only [go_sem, Nat.reduceEqDiff, reduceCtorEq, Nat.reduceAdd, Nat.reduceLeDiff, Bool.false_eq_true, Nat.reduceMul, Bool.true_eq_false, Nat.reduceLT, hr, Bool.not_false, Bool.not_true]
      refine ⟨.one (.bool false), ?_⟩
      simp only [go_sem, Nat.reduceEqDiff, reduceCtorEq, Nat.reduceAdd, Nat.reduceLeDiff, Bool.false_eq_true, Nat.reduceMul, Bool.true_eq_false, Nat.reduceLT, hr, Bool.not_false, Bool.not_true, Bool.or_true, Bool.or_false, Bool.or_self]
    | true =>
      simp only [go_sem, Nat.reduceEqDiff, reduceCtorEq, Nat.reduceAdd, Nat.reduceLeDiff, Bool.false_eq_true, Nat.reduceMul, Bool.true_eq_false, Nat.reduceLT, Bool.not_false, Bool.not_true, Bool.or_self]
      refine call_by (names_Keyword_ev Z hG s) ?_
      cases h2 : kws.contains s with
      | true =>
        have hr : isName s = false := by simp only [isName, h0, h1, h2]; rfl
        simp only [go_sem, Nat.reduceEqDiff, reduceCtorEq, Nat.reduceAdd, Nat.reduceLeDiff, Bool.false_eq_true, Nat.reduceMul, Bool.true_eq_false, Nat.reduceLT, hr, Bool.not_false, Bool.not_true, Bool.or_true, Bool.or_false, Bool.or_self, Bool.false_or]
      | false =>
        have hr : isName s = scan badName 1 (s.drop 1) := by simp only [isName, h0, h1, h2]; rfl
        obtain ⟨c0, t, rfl⟩ : ∃ c0 t, s = c0 :: t := by cases s with | nil => simp at hpos | cons c t => exact ⟨c, t, rfl⟩
        simp only [go_sem, Nat.reduceEqDiff, reduceCtorEq, Nat.reduceAdd, Nat.reduceLeDiff, Bool.false_eq_true, Nat.reduceMul, Bool.true_eq_false, Nat.reduceLT, hr, Bool.not_false, Bool.not_true, Bool.or_true, Bool.or_false, Bool.or_self]
        refine loop_list t (fun done => scan badName 1 done = true) (fun done rest => ⟨[(0, .d (.str (c0 :: t))), (3, .d (.int .i64 (1 + done.length : Nat)))], [], []⟩) ?_ rfl ?_ ?_
        · exact Ent_plain (by simp only [go_sem, Nat.reduceEqDiff, reduceCtorEq, Nat.reduceAdd, Nat.reduceLeDiff, Bool.false_eq_true, Nat.reduceMul, Bool.true_eq_false, Nat.reduceLT, Nat.add_zero]; trivial)
        · intro done c r hl hI
          have hlt : (((1 + done.length : Nat) : Int) < ((t.length + 1 : Nat) : Int)) = True := eq_true (by rw [hl]; simp; omega)
          have hx : (c0 :: t).getD (1 + done.length) 0 = c := by rw [hl, Nat.add_comm]; simp
          simp only [fn_names_name_L1, go_sem, Nat.reduceEqDiff, reduceCtorEq, Nat.reduceAdd, Nat.reduceLeDiff, Bool.false_eq_true, Nat.reduceMul, Bool.true_eq_false, Nat.reduceLT, hlt, hx]
          intro hlen
          have hw : IntKind.i64.wrap (((1 + done.length : Nat) : Int) + 1) = ((1 + done.length + 1 : Nat) : Int) := wrap_succ (by simp only [eq_iff_iff, iff_true] at hlt; omega)
          refine call_by (names_small_ev Z _) ?_
          simp only [go_sem, Nat.reduceEqDiff, reduceCtorEq, Nat.reduceAdd, Nat.reduceLeDiff, Bool.false_eq_true, Nat.reduceMul, Bool.true_eq_false, Nat.reduceLT, hw, hlt, hx]
          refine call_by_g (names_digit_ev Z _) ?_
          simp only [go_sem, Nat.reduceEqDiff, reduceCtorEq, Nat.reduceAdd, Nat.reduceLeDiff, Bool.false_eq_true, Nat.reduceMul, Bool.true_eq_false, Nat.reduceLT, hw, hlt, hx]
          cases h1 : badName (1 + done.length) c.toNat with
          | false =>
            have h2 := h1
            rw [badName] at h2
            simp only [go_sem, Nat.reduceEqDiff, reduceCtorEq, Nat.reduceAdd, Nat.reduceLeDiff, Bool.false_eq_true, Nat.reduceMul, Bool.true_eq_false, Nat.reduceLT, h2, hw, List.length_append, scan_app, scan, hI, h1, Bool.not_false]
            exact Ent_plain (by simp only [go_sem, Nat.reduceEqDiff, reduceCtorEq, Nat.reduceAdd, Nat.reduceLeDiff, Bool.false_eq_true, Nat.reduceMul, Bool.true_eq_false, Nat.reduceLT, Nat.add_assoc])
          | true =>
            have h2 := h1
            rw [badName] at h2
            simp only [go_sem, Nat.reduceEqDiff, reduceCtorEq, Nat.reduceAdd, Nat.reduceLeDiff, Bool.false_eq_true, Nat.reduceMul, Bool.true_eq_false, Nat.reduceLT, h2, hl, scan_app, scan, h1, Bool.not_true, Bool.false_and, Bool.and_false]
        · intro hI
          have hge : decide (((1 + t.length : Nat) : Int) < ((t.length + 1 : Nat) : Int)) = false := by rw [Nat.add_comm]; simp
          simp only [fn_names_name_L1, go_sem, Nat.reduceEqDiff, reduceCtorEq, Nat.reduceAdd, Nat.reduceLeDiff, Bool.false_eq_true, Nat.reduceMul, Bool.true_eq_false, Nat.reduceLT, hge, List.drop_succ_cons, hI]
theorem names_title_ev (s : List UInt8) : E.C names_title [.one (.str s)] (.one (.bool (isTitle s))) := by
  refine Z.names_title _ _ ⟨Nat.le_of_ble_eq_true rfl, ?_⟩
  simp only [fn_names_title, go_sem, Nat.reduceEqDiff, reduceCtorEq, Nat.reduceAdd, Nat.reduceLeDiff, Bool.false_eq_true, Nat.reduceMul, Bool.true_eq_false, Nat.reduceLT]
  refine call_by (names_sized_ev Z s) ?_
  cases h0 : isSized s with
  | false =>
    have hr : isTitle s = false := by simp [isTitle, h0]
    simp only [go_sem, Nat.reduceEqDiff, reduceCtorEq, Nat.reduceAdd, Nat.reduceLeDiff, Bool.false_eq_true, Nat.reduceMul, Bool.true_eq_false, Nat.reduceLT, hr]
    refine ⟨.one (.bool false), ?_⟩
    simp only [go_sem, Nat.reduceEqDiff, reduceCtorEq, Nat.reduceAdd, Nat.reduceLeDiff, Bool.false_eq_true, Nat.reduceMul, Bool.true_eq_false, Nat.reduceLT, hr]
    refine ⟨.one (.bool false), ?_⟩
    simp only [go_sem, Nat.reduceEqDiff, reduceCtorEq, Nat.reduceAdd, Nat.reduceLeDiff, Bool.false_eq_true, Nat.reduceMul, Bool.true_eq_false, Nat.reduceLT, hr]
  | true =>
    have hpos := isSized_pos h0
    have hpos' : ((0 : Int) < s.length) = True := eq_true (by omega)
    simp only [go_sem, Nat.reduceEqDiff, reduceCtorEq, Nat.reduceAdd, Nat.reduceLeDiff, Bool.false_eq_true, Nat.reduceMul, Bool.true_eq_false, Nat.reduceLT, hpos', Int.toNat_zero]
    refine call_by (names_capital_ev Z _) ?_
    cases h1 : isCapital (s.getD 0 0).toNat with
    | false =>
      have hr : isTitle s = false := by simp only [isTitle, h0, h1]; rfl
      simp only [go_sem, Nat.reduceEqDiff, reduceCtorEq, Nat.reduceAdd, Nat.reduceLeDiff, Bool.false_eq_true, Nat.reduceMul, Bool.true_eq_false, Nat.reduceLT, hr]
      refine ⟨.one (.bool false), ?_⟩
      simp only [go_sem, Nat.reduceEqDiff, reduceCtorEq, Nat.reduceAdd, Nat.reduceLeDiff, Bool.false_eq_true, Nat.reduceMul, Bool.true_eq_false, Nat.reduceLT, hr]
    | true =>
      simp only [go_sem, Nat.reduceEqDiff, reduceCtorEq, Nat.reduceAdd, Nat.reduceLeDiff, Bool.false_eq_true, Nat.reduceMul, Bool.true_eq_false, Nat.reduceLT]
      refine call_by (names_alphanumeric_ev Z s) ?_
      cases h2 : (s.all fun c => alnum c.toNat) with
      | false =>
        have hr : isTitle s = false := by simp only [isTitle, h0, h1, h2]; rfl
        simp only [go_sem, Nat.reduceEqDiff, reduceCtorEq, Nat.reduceAdd, Nat.reduceLeDiff, Bool.false_eq_true, Nat.reduceMul, Bool.true_eq_false, Nat.reduceLT, hr]
      | true =>
        simp only [go_sem, Nat.reduceEqDiff, reduceCtorEq, Nat.reduceAdd, Nat.reduceLeDiff, Bool.false_eq_true, Nat.reduceMul, Bool.true_eq_false, Nat.reduceLT, isTitle, h0, h1, h2, bne]
end Go.Abs
end
section
set_option linter.unusedSimpArgs false
set_option linter.unusedVariables false
set_option linter.unusedSectionVars false
namespace Go.Abs
/-- what may stand behind a point -/
def okPart (s : List UInt8) : Bool := !(!isSized s || (!(s.all fun c => alnum c.toNat) && !scan badWord 0 s))
theorem cutAt_len : ∀ (s : List UInt8), (cutAt s).2.2 = true → (cutAt s).2.1.length < s.length
  | [], h => by simp [cutAt] at h
  | c :: s, h => by
    simp only [cutAt] at h ⊢
    split
    · simp
    · rename_i hc
      rw [if_neg hc] at h
      have := cutAt_len s h
      simp only [List.length_cons]; omega
def parts (s : List UInt8) : Bool := if h : (cutAt s).2.2 = true then okPart (cutAt s).1 && parts (cutAt s).2.1 else okPart (cutAt s).1
termination_by s.length
decreasing_by exact cutAt_len s h
def isCore (s : List UInt8) : Bool :=
  !decide ((s.length : Int) > 120) && (!(!isName (cutAt s).1 && !isTitle (cutAt s).1 && ((cutAt s).1 != [118] || !(cutAt s).2.2))) && (if (cutAt s).2.2 then parts (cutAt s).2.1 else true)
variable {E : AEnv} (Z : Sys E)
include Z
theorem names_Core_ev (hG : E.G 0 = some (kws.map .str)) (s : List UInt8) : E.C names_Core [.one (.str s)] (.one (.int .i64 (if isCore s then 0 else 3))) := by
  refine Z.names_Core _ _ ⟨Nat.le_of_ble_eq_true rfl, ?_⟩
  simp only [fn_names_Core, go_sem, Nat.reduceEqDiff, reduceCtorEq, Nat.reduceAdd, Nat.reduceLeDiff, Bool.false_eq_true, Nat.reduceMul, Bool.true_eq_false, Nat.reduceLT]
  intro hlen
  cases h0 : decide ((s.length : Int) > 120) with
  | true => simp only [go_sem, Nat.reduceEqDiff, reduceCtorEq, Nat.reduceAdd, Nat.reduceLeDiff, Bool.false_eq_true, Nat.reduceMul, Bool.true_eq_false, Nat.reduceLT, isCore, h0]
  | false =>
    simp only [go_sem, Nat.reduceEqDiff, reduceCtorEq, Nat.reduceAdd, Nat.reduceLeDiff, Bool.false_eq_true, Nat.reduceMul, Bool.true_eq_false, Nat.reduceLT, isCore, h0]
    refine call_by (names_cut_ev Z s) ?_
    have hdec := cutAt_len s
    revert hdec
    generalize cutAt s = cc
    obtain ⟨a, b, m⟩ := cc
    intro hdec
    simp only [go_sem, Nat.reduceEqDiff, reduceCtorEq, Nat.reduceAdd, Nat.reduceLeDiff, Bool.false_eq_true, Nat.reduceMul, Bool.true_eq_false, Nat.reduceLT]
    refine call_by (names_name_ev Z hG a) ?_
    simp only [go_sem, Nat.reduceEqDiff, reduceCtorEq, Nat.reduceAdd, Nat.reduceLeDiff, Bool.false_eq_true, Nat.reduceMul, Bool.true_eq_false, Nat.reduceLT]
    refine call_by_g (names_title_ev Z a) ?_
    simp only [go_sem, Nat.reduceEqDiff, reduceCtorEq, Nat.reduceAdd, Nat.reduceLeDiff, Bool.false_eq_true, Nat.reduceMul, Bool.true_eq_false, Nat.reduceLT]
    have ob : ∀ (p q x y : Bool), ((p && q) = true → (p = true ∧ (!x && y) = true) → (p && q) = true) := by simp
    cases h1 : (!isName a && !isTitle a && (a != [118] || !m)) with
    | true =>
      rw [bne] at h1
      simp only [go_sem, Nat.reduceEqDiff, reduceCtorEq, Nat.reduceAdd, Nat.reduceLeDiff, Bool.false_eq_true, Nat.reduceMul, Bool.true_eq_false, Nat.reduceLT, h1]
      cases isName a <;> cases isTitle a <;> cases (a == [118]) <;> simp
    | false =>
      rw [bne] at h1
      simp only [go_sem, Nat.reduceEqDiff, reduceCtorEq, Nat.reduceAdd, Nat.reduceLeDiff, Bool.false_eq_true, Nat.reduceMul, Bool.true_eq_false, Nat.reduceLT, h1]
      refine ⟨?_, ?_⟩
      · cases isName a <;> cases isTitle a <;> cases (a == [118]) <;> simp
      generalize hR : (if m = true then parts b else true) = R
      refine loop_meas (fun x : List UInt8 × Bool => ⟨[(4, .d (.str x.1)), (5, .d (.bool x.2))], [], []⟩) (fun x => R = (if x.2 = true then parts x.1 else true)) (fun x => if x.2 = true then x.1.length + 1 else 0) (b, m) ?_ hR.symm ?_
      · exact Ent_plain (by simp only [go_sem, Nat.reduceEqDiff, reduceCtorEq, Nat.reduceAdd, Nat.reduceLeDiff, Bool.false_eq_true, Nat.reduceMul, Bool.true_eq_false, Nat.reduceLT])
      · rintro ⟨b', m'⟩ hI
        cases m' with
        | false =>
          simp only [fn_names_Core_L1, go_sem, Nat.reduceEqDiff, reduceCtorEq, Nat.reduceAdd, Nat.reduceLeDiff, Bool.false_eq_true, Nat.reduceMul, Bool.true_eq_false, Nat.reduceLT]
          simp only [Bool.false_eq_true, if_false] at hI
          simp only [hI, if_true]
        | true =>
          simp only [if_true] at hI
          rw [parts] at hI
          simp only [fn_names_Core_L1, go_sem, Nat.reduceEqDiff, reduceCtorEq, Nat.reduceAdd, Nat.reduceLeDiff, Bool.false_eq_true, Nat.reduceMul, Bool.true_eq_false, Nat.reduceLT]
          refine call_by (names_cut_ev Z b') ?_
          have hdec := cutAt_len b'
          revert hdec hI
          generalize cutAt b' = cc
          obtain ⟨a1, b1, m1⟩ := cc
          intro hI hdec
          simp only at hI hdec
          simp only [go_sem, Nat.reduceEqDiff, reduceCtorEq, Nat.reduceAdd, Nat.reduceLeDiff, Bool.false_eq_true, Nat.reduceMul, Bool.true_eq_false, Nat.reduceLT]
          refine call_by (names_sized_ev Z a1) ?_
          simp only [go_sem, Nat.reduceEqDiff, reduceCtorEq, Nat.reduceAdd, Nat.reduceLeDiff, Bool.false_eq_true, Nat.reduceMul, Bool.true_eq_false, Nat.reduceLT]
          refine call_by_g (names_alphanumeric_ev Z a1) ?_
          simp only [go_sem, Nat.reduceEqDiff, reduceCtorEq, Nat.reduceAdd, Nat.reduceLeDiff, Bool.false_eq_true, Nat.reduceMul, Bool.true_eq_false, Nat.reduceLT]
          refine call_by_g (names_word_ev Z a1) ?_
          simp only [go_sem, Nat.reduceEqDiff, reduceCtorEq, Nat.reduceAdd, Nat.reduceLeDiff, Bool.false_eq_true, Nat.reduceMul, Bool.true_eq_false, Nat.reduceLT]
          cases h1 : (!isSized a1 || (!(a1.all fun c => alnum c.toNat) && !scan badWord 0 a1)) with
          | true =>
            have h2 : okPart a1 = false := by rw [okPart, h1]; rfl
            have h3 : R = false := by rw [hI, h2]; simp
            simp only [go_sem, Nat.reduceEqDiff, reduceCtorEq, Nat.reduceAdd, Nat.reduceLeDiff, Bool.false_eq_true, Nat.reduceMul, Bool.true_eq_false, Nat.reduceLT, h1, h3]
            cases isSized a1 <;> cases (a1.all fun c => alnum c.toNat) <;> simp
          | false =>
            have h2 : okPart a1 = true := by rw [okPart, h1]; rfl
            simp only [go_sem, Nat.reduceEqDiff, reduceCtorEq, Nat.reduceAdd, Nat.reduceLeDiff, Bool.false_eq_true, Nat.reduceMul, Bool.true_eq_false, Nat.reduceLT, h1]
            refine ⟨?_, ?_, (b1, m1), Ent_plain (by simp only [go_sem, Nat.reduceEqDiff, reduceCtorEq, Nat.reduceAdd, Nat.reduceLeDiff, Bool.false_eq_true, Nat.reduceMul, Bool.true_eq_false, Nat.reduceLT]), ?_, ?_⟩
            · cases isSized a1 <;> cases (a1.all fun c => alnum c.toNat) <;> simp
            · cases isSized a1 <;> cases (a1.all fun c => alnum c.toNat) <;> simp
            · rw [hI, h2]; cases m1 <;> simp
            · cases m1 with
              | false => simp
              | true => have := hdec rfl; simp; omega
end Go.Abs
end
section
set_option linter.unusedSimpArgs false
set_option linter.unusedVariables false
set_option linter.unusedSectionVars false
namespace Go.Abs
def findIx (s : List UInt8) : Nat → List (List UInt8) → Int
  | _, [] => -1
  | i, x :: l => if x = s then i else findIx s (i + 1) l
theorem findIx_none (s : List UInt8) : ∀ (l : List (List UInt8)) (i : Nat), s ∉ l → findIx s i l = -1
  | [], _, _ => rfl
  | x :: l, i, h => by
    simp only [List.mem_cons, not_or] at h
    rw [findIx, if_neg (fun e => h.1 e.symm), findIx_none s l (i + 1) h.2]
theorem findIx_app (s : List UInt8) : ∀ (a : List (List UInt8)) (i : Nat) (b : List (List UInt8)), s ∉ a → findIx s i (a ++ b) = findIx s (i + a.length) b
  | [], i, b, _ => by simp
  | x :: a, i, b, h => by
    simp only [List.mem_cons, not_or] at h
    rw [List.cons_append, findIx, if_neg (fun e => h.1 e.symm), findIx_app s a (i + 1) b h.2, List.length_cons]
    congr 1; omega
theorem findIx_mem (s : List UInt8) : ∀ (l : List (List UInt8)) (i : Nat), decide (findIx s i l ≥ 0) = l.contains s
  | [], i => by simp [findIx]
  | x :: l, i => by
    rw [findIx]
    by_cases h : x = s
    · subst h; simp
    · have h' : (s == x) = false := by simpa using fun e => h e.symm
      rw [if_neg h, findIx_mem s l (i + 1), List.contains_cons, h', Bool.false_or]
def isOpNamed (n : Int) : Bool := n == 3 || n == 4 || n == 5
def inRange (n : Int) : Bool := decide (n ≥ -1000000000000) && decide (n ≤ 1000000000000)
variable {E : AEnv} (Z : Sys E)
include Z
theorem r04_small_ev (n : Int) : E.C r04_small [.one (.int .u8 n)] (.one (.bool (isSmall n))) := by
  refine Z.r04_small _ _ ⟨Nat.le_of_ble_eq_true rfl, ?_⟩
  simp only [fn_r04_small, go_sem, Nat.reduceEqDiff, reduceCtorEq, Nat.reduceAdd, Nat.reduceLeDiff, Bool.false_eq_true, Nat.reduceMul, Bool.true_eq_false, Nat.reduceLT, isSmall, ge_iff_le]
theorem r04_capital_ev (n : Int) : E.C r04_capital [.one (.int .u8 n)] (.one (.bool (isCapital n))) := by
  refine Z.r04_capital _ _ ⟨Nat.le_of_ble_eq_true rfl, ?_⟩
  simp only [fn_r04_capital, go_sem, Nat.reduceEqDiff, reduceCtorEq, Nat.reduceAdd, Nat.reduceLeDiff, Bool.false_eq_true, Nat.reduceMul, Bool.true_eq_false, Nat.reduceLT, isCapital, ge_iff_le]
theorem r04_digit_ev (n : Int) : E.C r04_digit [.one (.int .u8 n)] (.one (.bool (isDigit n))) := by
  refine Z.r04_digit _ _ ⟨Nat.le_of_ble_eq_true rfl, ?_⟩
  simp only [fn_r04_digit, go_sem, Nat.reduceEqDiff, reduceCtorEq, Nat.reduceAdd, Nat.reduceLeDiff, Bool.false_eq_true, Nat.reduceMul, Bool.true_eq_false, Nat.reduceLT, isDigit, ge_iff_le]
theorem num_In_ev (n : Int) : E.C num_In [.one (.int .i64 n)] (.one (.bool (inRange n))) := by
  refine Z.num_In _ _ ⟨Nat.le_of_ble_eq_true rfl, ?_⟩
  simp only [fn_num_In, go_sem, Nat.reduceEqDiff, reduceCtorEq, Nat.reduceAdd, Nat.reduceLeDiff, Bool.false_eq_true, Nat.reduceMul, Bool.true_eq_false, Nat.reduceLT, inRange]
theorem r01_In_ev (n : Int) : E.C r01_In [.one (.int .i64 n)] (.one (.bool (inRange n))) := by
  refine Z.r01_In _ _ ⟨Nat.le_of_ble_eq_true rfl, ?_⟩
  simp only [fn_r01_In, go_sem, Nat.reduceEqDiff, reduceCtorEq, Nat.reduceAdd, Nat.reduceLeDiff, Bool.false_eq_true, Nat.reduceMul, Bool.true_eq_false, Nat.reduceLT, inRange]
theorem pred_named_ev (n : Int) : E.C pred_named [.one (.int .i64 n)] (.one (.bool (isOpNamed n))) := by
  refine Z.pred_named _ _ ⟨Nat.le_of_ble_eq_true rfl, ?_⟩
  simp only [fn_pred_named, go_sem, Nat.reduceEqDiff, reduceCtorEq, Nat.reduceAdd, Nat.reduceLeDiff, Bool.false_eq_true, Nat.reduceMul, Bool.true_eq_false, Nat.reduceLT, isOpNamed]
  cases (n == 3) <;> cases (n == 4) <;> simp
theorem r07_named_ev (n : Int) : E.C r07_named [.one (.int .i64 n)] (.one (.bool (isOpNamed n))) := by
  refine Z.r07_named _ _ ⟨Nat.le_of_ble_eq_true rfl, ?_⟩
  simp only [fn_r07_named, go_sem, Nat.reduceEqDiff, reduceCtorEq, Nat.reduceAdd, Nat.reduceLeDiff, Bool.false_eq_true, Nat.reduceMul, Bool.true_eq_false, Nat.reduceLT, isOpNamed]
  cases (n == 3) <;> cases (n == 4) <;> simp
theorem r04_Find_ev (l : List (List UInt8)) (s : List UInt8) : E.C r04_Find [.one (.lst (l.map fun k => [.str k])), .one (.str s)] (.one (.int .i64 (findIx s 0 l))) := by
  refine Z.r04_Find _ _ ⟨Nat.le_of_ble_eq_true rfl, ?_⟩
  simp only [fn_r04_Find, go_sem, Nat.reduceEqDiff, reduceCtorEq, Nat.reduceAdd, Nat.reduceLeDiff, Bool.false_eq_true, Nat.reduceMul, Bool.true_eq_false, Nat.reduceLT]
  intro hlen
  refine loop_list l (fun done => s ∉ done) (fun done rest => ⟨[(8, .d (.int .i64 done.length)), (7, .d (.int .i64 l.length)), (0, .d (.lst (l.map fun k => [.str k]))), (1, .d (.str s))], [], []⟩) ?_ (by simp) ?_ ?_
  · exact Ent_plain (by simp only [go_sem, Nat.reduceEqDiff, reduceCtorEq, Nat.reduceAdd, Nat.reduceLeDiff, Bool.false_eq_true, Nat.reduceMul, Bool.true_eq_false, Nat.reduceLT, Int.natCast_zero])
  · intro done k r hl hI
    have hlt := lt_mid hl
    have hw : IntKind.i64.wrap ((done.length : Int) + 1) = ((done.length + 1 : Nat) : Int) := wrap_succ (by omega)
    have hx : (l.map fun k => [D.str k]).getD done.length [] = [.str k] := by rw [hl]; exact getD_mid _ _ _ _ _
    have hls : (∀ e ∈ l.map fun k => [D.str k], e.length = 1) = True := eq_true (by simp)
    simp only [fn_r04_Find_L1, go_sem, Nat.reduceEqDiff, reduceCtorEq, Nat.reduceAdd, Nat.reduceLeDiff, Bool.false_eq_true, Nat.reduceMul, Bool.true_eq_false, Nat.reduceLT, hlt, hx, hls]
    cases h1 : (k == s) with
    | true =>
      simp only [go_sem, Nat.reduceEqDiff, reduceCtorEq, Nat.reduceAdd, Nat.reduceLeDiff, Bool.false_eq_true, Nat.reduceMul, Bool.true_eq_false, Nat.reduceLT]
      have h1 : k = s := by simpa using h1
      rw [hl, findIx_app s done 0 _ hI, findIx, if_pos h1, Nat.zero_add]
    | false =>
      simp only [go_sem, Nat.reduceEqDiff, reduceCtorEq, Nat.reduceAdd, Nat.reduceLeDiff, Bool.false_eq_true, Nat.reduceMul, Bool.true_eq_false, Nat.reduceLT, hw, List.length_append]
      refine ⟨Ent_plain (by simp only [go_sem, Nat.reduceEqDiff, reduceCtorEq, Nat.reduceAdd, Nat.reduceLeDiff, Bool.false_eq_true, Nat.reduceMul, Bool.true_eq_false, Nat.reduceLT]), ?_⟩
      have h1 : k ≠ s := by simpa using h1
      simp only [List.mem_append, List.mem_singleton, not_or]
      exact ⟨hI, fun e => h1 e.symm⟩
  · intro hI
    simp only [fn_r04_Find_L1, go_sem, Nat.reduceEqDiff, reduceCtorEq, Nat.reduceAdd, Nat.reduceLeDiff, Bool.false_eq_true, Nat.reduceMul, Bool.true_eq_false, Nat.reduceLT, findIx_none s l 0 hI]
theorem r04_keywords_ev : E.C r04_keywords [] (.one (.lst (kws.map fun k => [.str k]))) := by
  refine Z.r04_keywords _ _ ⟨Nat.le_of_ble_eq_true rfl, ?_⟩
  simp only [fn_r04_keywords, go_sem, Nat.reduceEqDiff, reduceCtorEq, Nat.reduceAdd, Nat.reduceLeDiff, Bool.false_eq_true, Nat.reduceMul, Bool.true_eq_false, Nat.reduceLT, kws]
theorem r04_Keyword_ev (s : List UInt8) : E.C r04_Keyword [.one (.str s)] (.one (.bool (kws.contains s))) := by
  refine Z.r04_Keyword _ _ ⟨Nat.le_of_ble_eq_true rfl, ?_⟩
  simp only [fn_r04_Keyword, go_sem, Nat.reduceEqDiff, reduceCtorEq, Nat.reduceAdd, Nat.reduceLeDiff, Bool.false_eq_true, Nat.reduceMul, Bool.true_eq_false, Nat.reduceLT]
  refine call_by (r04_keywords_ev Z) ?_
  simp only [go_sem, Nat.reduceEqDiff, reduceCtorEq, Nat.reduceAdd, Nat.reduceLeDiff, Bool.false_eq_true, Nat.reduceMul, Bool.true_eq_false, Nat.reduceLT]
  refine call_by (r04_Find_ev Z kws s) ?_
  simp only [go_sem, Nat.reduceEqDiff, reduceCtorEq, Nat.reduceAdd, Nat.reduceLeDiff, Bool.false_eq_true, Nat.reduceMul, Bool.true_eq_false, Nat.reduceLT, findIx_mem]
end Go.Abs
end
section
set_option linter.unusedSimpArgs false
set_option linter.unusedVariables false
set_option linter.unusedSectionVars false
namespace Go.Abs
namespace Pred
mutual
def depth : Pred → Int
  | .mk _ _ _ ks => IntKind.i64.wrap (depths 0 ks + 1)
def depths (a : Int) : List Pred → Int
  | [] => a
  | k :: ks => depths (if depth k > a then depth k else a) ks
end
theorem depths_eq (a : Int) (ks : List Pred) : depths a ks = ks.foldl (fun a k => if depth k > a then depth k else a) a := by
  induction ks generalizing a with
  | nil => simp [depths]
  | cons k ks ih => simp [depths, ih]
theorem depth_eq (p : Pred) : depth p = IntKind.i64.wrap (p.kids.foldl (fun a k => if depth k > a then depth k else a) 0 + 1) := by cases p; simp [depth, kids, depths_eq]
end Pred
/-- how many kids a kind may have -/
def kidsOf (n : Int) : Int × Int := if n == 1 || n == 2 || n == 3 then (0, 0) else if n == 4 || n == 5 then (1, 24) else if n == 9 || n == 14 then (1, 1) else (2, 2)
def kidsOk (n m : Int) : Bool := if n == 1 || n == 2 || n == 3 then m == 0 else if n == 4 || n == 5 then decide (m ≥ 1) && decide (m ≤ 24) else if n == 9 || n == 14 then m == 1 else m == 2
variable {E : AEnv} (Z : Sys E)
include Z
theorem pred_kids_ev (n : Int) : E.C pred_kids [.one (.int .i64 n)] (.tup [.one (.int .i64 (kidsOf n).1), .one (.int .i64 (kidsOf n).2)]) := by
  refine Z.pred_kids _ _ ⟨Nat.le_of_ble_eq_true rfl, ?_⟩
  cases h1 : (n == 1) <;> cases h2 : (n == 2) <;> cases h3 : (n == 3) <;> cases h4 : (n == 4) <;> cases h5 : (n == 5) <;> cases h9 : (n == 9) <;> cases h14 : (n == 14) <;>
    first
    | (exfalso; simp at *; omega)
    | simp only [fn_pred_kids, go_sem, Nat.reduceEqDiff, reduceCtorEq, Nat.reduceAdd, Nat.reduceLeDiff, Bool.false_eq_true, Nat.reduceMul, Bool.true_eq_false, Nat.reduceLT, kidsOf, h1, h2, h3, h4, h5, h9, h14]
theorem r07_kids_ev (n m : Int) : E.C r07_kids [.one (.int .i64 n), .one (.int .i64 m)] (.one (.bool (kidsOk n m))) := by
  refine Z.r07_kids _ _ ⟨Nat.le_of_ble_eq_true rfl, ?_⟩
  cases h1 : (n == 1) <;> cases h2 : (n == 2) <;> cases h3 : (n == 3) <;> cases h4 : (n == 4) <;> cases h5 : (n == 5) <;> cases h9 : (n == 9) <;> cases h14 : (n == 14) <;>
    first
    | (exfalso; simp at *; omega)
    | simp only [fn_r07_kids, go_sem, Nat.reduceEqDiff, reduceCtorEq, Nat.reduceAdd, Nat.reduceLeDiff, Bool.false_eq_true, Nat.reduceMul, Bool.true_eq_false, Nat.reduceLT, kidsOk, h1, h2, h3, h4, h5, h9, h14]
theorem pred_Depth_ev (p : Pred) : E.C pred_Depth [.agg (Pred.cells p)] (.one (.int .i64 p.depth)) := by
  induction p using Pred.ind with
  | h o s n ks ih =>
  refine Z.pred_Depth _ _ ⟨Nat.le_of_ble_eq_true rfl, ?_⟩
  rw [Pred.cells_eq, Pred.depth_eq]
  simp only [fn_pred_Depth, go_sem, Nat.reduceEqDiff, reduceCtorEq, Nat.reduceAdd, Nat.reduceLeDiff, Bool.false_eq_true, Nat.reduceMul, Bool.true_eq_false, Nat.reduceLT, Pred.kids]
  intro hlen
  refine loop_list ks (fun _ => True) (fun done rest => ⟨[(9, .d (.int .i64 done.length)), (8, .d (.int .i64 (ks.map Pred.cells).length)), (7, .d (.lst (ks.map Pred.cells))), (3, .d (.int .i64 (done.foldl (fun a k => if Pred.depth k > a then Pred.depth k else a) 0)))], [], []⟩) ?_ trivial ?_ ?_
  · exact Ent_plain (by simp only [go_sem, Nat.reduceEqDiff, reduceCtorEq, Nat.reduceAdd, Nat.reduceLeDiff, Bool.false_eq_true, Nat.reduceMul, Bool.true_eq_false, Nat.reduceLT, Int.natCast_zero, List.foldl_nil])
  · intro done k r hl _
    have hk' := ih k (by rw [hl]; simp)
    have hlt := lt_mid hl
    have hw : IntKind.i64.wrap ((done.length : Int) + 1) = ((done.length + 1 : Nat) : Int) := wrap_succ (by omega)
    have hx : (ks.map Pred.cells).getD done.length [] = Pred.cells k := by rw [hl]; exact getD_mid _ _ _ _ _
    simp only [fn_pred_Depth_L1, go_sem, Nat.reduceEqDiff, reduceCtorEq, Nat.reduceAdd, Nat.reduceLeDiff, Bool.false_eq_true, Nat.reduceMul, Bool.true_eq_false, Nat.reduceLT, hlt, hx]
    refine call_by hk' ?_
    simp only [go_sem, Nat.reduceEqDiff, reduceCtorEq, Nat.reduceAdd, Nat.reduceLeDiff, Bool.false_eq_true, Nat.reduceMul, Bool.true_eq_false, Nat.reduceLT, hw, List.length_append, List.foldl_append, List.foldl_cons, List.foldl_nil]
    exact Ent_plain (by simp only [go_sem, Nat.reduceEqDiff, reduceCtorEq, Nat.reduceAdd, Nat.reduceLeDiff, Bool.false_eq_true, Nat.reduceMul, Bool.true_eq_false, Nat.reduceLT])
  · simp only [fn_pred_Depth_L1, go_sem, Nat.reduceEqDiff, reduceCtorEq, Nat.reduceAdd, Nat.reduceLeDiff, Bool.false_eq_true, Nat.reduceMul, Bool.true_eq_false, Nat.reduceLT, forall_const]
theorem r07_Depth_ev (p : Pred) : E.C r07_Depth [.agg (Pred.cells p)] (.one (.int .i64 p.depth)) := by
  induction p using Pred.ind with
  | h o s n ks ih =>
  refine Z.r07_Depth _ _ ⟨Nat.le_of_ble_eq_true rfl, ?_⟩
  rw [Pred.cells_eq, Pred.depth_eq]
  simp only [fn_r07_Depth, go_sem, Nat.reduceEqDiff, reduceCtorEq, Nat.reduceAdd, Nat.reduceLeDiff, Bool.false_eq_true, Nat.reduceMul, Bool.true_eq_false, Nat.reduceLT, Pred.kids]
  intro hlen
  refine loop_list ks (fun _ => True) (fun done rest => ⟨[(9, .d (.int .i64 done.length)), (8, .d (.int .i64 (ks.map Pred.cells).length)), (7, .d (.lst (ks.map Pred.cells))), (3, .d (.int .i64 (done.foldl (fun a k => if Pred.depth k > a then Pred.depth k else a) 0)))], [], []⟩) ?_ trivial ?_ ?_
  · exact Ent_plain (by simp only [go_sem, Nat.reduceEqDiff, reduceCtorEq, Nat.reduceAdd, Nat.reduceLeDiff, Bool.false_eq_true, Nat.reduceMul, Bool.true_eq_false, Nat.reduceLT, Int.natCast_zero, List.foldl_nil])
  · intro done k r hl _
    have hk' := ih k (by rw [hl]; simp)
    have hlt := lt_mid hl
    have hw : IntKind.i64.wrap ((done.length : Int) + 1) = ((done.length + 1 : Nat) : Int) := wrap_succ (by omega)
    have hx : (ks.map Pred.cells).getD done.length [] = Pred.cells k := by rw [hl]; exact getD_mid _ _ _ _ _
    simp only [fn_r07_Depth_L1, go_sem, Nat.reduceEqDiff, reduceCtorEq, Nat.reduceAdd, Nat.reduceLeDiff, Bool.false_eq_true, Nat.reduceMul, Bool.true_eq_false, Nat.reduceLT, hlt, hx]
    refine call_by hk' ?_
    simp only [go_sem, Nat.reduceEqDiff, reduceCtorEq, Nat.reduceAdd, Nat.reduceLeDiff, Bool.false_eq_true, Nat.reduceMul, Bool.true_eq_false, Nat.reduceLT, hw, List.length_append, List.foldl_append, List.foldl_cons, List.foldl_nil]
    exact Ent_plain (by simp only [go_sem, Nat.reduceEqDiff, reduceCtorEq, Nat.reduceAdd, Nat.reduceLeDiff, Bool.false_eq_true, Nat.reduceMul, Bool.true_eq_false, Nat.reduceLT])
  · simp only [fn_r07_Depth_L1, go_sem, Nat.reduceEqDiff, reduceCtorEq, Nat.reduceAdd, Nat.reduceLeDiff, Bool.false_eq_true, Nat.reduceMul, Bool.true_eq_false, Nat.reduceLT, forall_const]
theorem r07_Nodes_ev (p : Pred) : E.C r07_Nodes [.agg (Pred.cells p)] (.one (.int .i64 p.nodes)) := by
  induction p using Pred.ind with
  | h o s n ks ih =>
  refine Z.r07_Nodes _ _ ⟨Nat.le_of_ble_eq_true rfl, ?_⟩
  rw [Pred.cells_eq, Pred.nodes_eq]
  simp only [fn_r07_Nodes, go_sem, Nat.reduceEqDiff, reduceCtorEq, Nat.reduceAdd, Nat.reduceLeDiff, Bool.false_eq_true, Nat.reduceMul, Bool.true_eq_false, Nat.reduceLT, Pred.kids]
  intro hlen
  refine loop_list ks (fun _ => True) (fun done rest => ⟨[(9, .d (.int .i64 done.length)), (8, .d (.int .i64 (ks.map Pred.cells).length)), (7, .d (.lst (ks.map Pred.cells))), (3, .d (.int .i64 (done.foldl (fun a k => IntKind.i64.wrap (a + Pred.nodes k)) 1)))], [], []⟩) ?_ trivial ?_ ?_
  · exact Ent_plain (by simp only [go_sem, Nat.reduceEqDiff, reduceCtorEq, Nat.reduceAdd, Nat.reduceLeDiff, Bool.false_eq_true, Nat.reduceMul, Bool.true_eq_false, Nat.reduceLT, Int.natCast_zero, List.foldl_nil])
  · intro done k r hl _
    have hk' := ih k (by rw [hl]; simp)
    have hlt := lt_mid hl
    have hw : IntKind.i64.wrap ((done.length : Int) + 1) = ((done.length + 1 : Nat) : Int) := wrap_succ (by omega)
    have hx : (ks.map Pred.cells).getD done.length [] = Pred.cells k := by rw [hl]; exact getD_mid _ _ _ _ _
    simp only [fn_r07_Nodes_L1, go_sem, Nat.reduceEqDiff, reduceCtorEq, Nat.reduceAdd, Nat.reduceLeDiff, Bool.false_eq_true, Nat.reduceMul, Bool.true_eq_false, Nat.reduceLT, hlt, hx]
    refine call_by hk' ?_
    simp only [go_sem, Nat.reduceEqDiff, reduceCtorEq, Nat.reduceAdd, Nat.reduceLeDiff, Bool.false_eq_true, Nat.reduceMul, Bool.true_eq_false, Nat.reduceLT, hw, List.length_append, List.foldl_append, List.foldl_cons, List.foldl_nil]
    exact Ent_plain (by simp only [go_sem, Nat.reduceEqDiff, reduceCtorEq, Nat.reduceAdd, Nat.reduceLeDiff, Bool.false_eq_true, Nat.reduceMul, Bool.true_eq_false, Nat.reduceLT])
  · simp only [fn_r07_Nodes_L1, go_sem, Nat.reduceEqDiff, reduceCtorEq, Nat.reduceAdd, Nat.reduceLeDiff, Bool.false_eq_true, Nat.reduceMul, Bool.true_eq_false, Nat.reduceLT, forall_const]
end Go.Abs
end
section
set_option linter.unusedSimpArgs false
set_option linter.unusedVariables false
set_option linter.unusedSectionVars false
namespace Go.Abs
variable {E : AEnv} (Z : Sys E)
include Z
theorem r04_Check_ev (s : List UInt8) : E.C r04_Check [.one (.str s)] (.one (.int .i64 (if isName s then 0 else 3))) := by
  refine Z.r04_Check _ _ ⟨Nat.le_of_ble_eq_true rfl, ?_⟩
  simp only [fn_r04_Check, go_sem, Nat.reduceEqDiff, reduceCtorEq, Nat.reduceAdd, Nat.reduceLeDiff, Bool.false_eq_true, Nat.reduceMul, Bool.true_eq_false, Nat.reduceLT]
  intro hlen
  cases h0 : decide ((s.length : Int) < 1) with
  | true =>
    have hz : isSized s = false := by simp only [isSized, Bool.and_eq_false_iff, decide_eq_false_iff_not]; left; simp only [decide_eq_true_eq] at h0; omega
    have hr : isName s = false := by simp only [isName, hz]; rfl
    simp only [go_sem, Nat.reduceEqDiff, reduceCtorEq, Nat.reduceAdd, Nat.reduceLeDiff, Bool.false_eq_true, Nat.reduceMul, Bool.true_eq_false, Nat.reduceLT, hr]
    refine ⟨.one (.bool false), ?_⟩
    simp only [go_sem, Nat.reduceEqDiff, reduceCtorEq, Nat.reduceAdd, Nat.reduceLeDiff, Bool.false_eq_true, Nat.reduceMul, Bool.true_eq_false, Nat.reduceLT, hr]
    refine ⟨.one (.bool false), ?_⟩
    simp only [go_sem, Nat.reduceEqDiff, reduceCtorEq, Nat.reduceAdd, Nat.reduceLeDiff, Bool.false_eq_true, Nat.reduceMul, Bool.true_eq_false, Nat.reduceLT, hr]
  | false =>
    simp only [decide_eq_false_iff_not] at h0
    have hpos' : ((0 : Int) < s.length) = True := eq_true (by omega)
    simp only [go_sem, Nat.reduceEqDiff, reduceCtorEq, Nat.reduceAdd, Nat.reduceLeDiff, Bool.false_eq_true, Nat.reduceMul, Bool.true_eq_false, Nat.reduceLT, hlen]
    cases h24 : decide ((s.length : Int) > 24) with
    | true =>
      have hz : isSized s = false := by simp only [isSized, Bool.and_eq_false_iff, decide_eq_false_iff_not]; right; simp only [decide_eq_true_eq] at h24; omega
      have hr : isName s = false := by simp only [isName, hz]; rfl
      simp only [go_sem, Nat.reduceEqDiff, reduceCtorEq, Nat.reduceAdd, Nat.reduceLeDiff, Bool.false_eq_true, Nat.reduceMul, Bool.true_eq_false, Nat.reduceLT, hr]
      refine ⟨.one (.bool false), ?_⟩
      simp only [go_sem, Nat.reduceEqDiff, reduceCtorEq, Nat.reduceAdd, Nat.reduceLeDiff, Bool.false_eq_true, Nat.reduceMul, Bool.true_eq_false, Nat.reduceLT, hr]
      refine ⟨.one (.bool false), ?_⟩
      simp only [go_sem, Nat.reduceEqDiff, reduceCtorEq, Nat.reduceAdd, Nat.reduceLeDiff, Bool.false_eq_true, Nat.reduceMul, Bool.true_eq_false, Nat.reduceLT, hr]
    | false =>
      have hz : isSized s = true := by simp only [isSized, Bool.and_eq_true, decide_eq_true_eq]; simp only [decide_eq_false_iff_not] at h24; omega
      simp only [go_sem, Nat.reduceEqDiff, reduceCtorEq, Nat.reduceAdd, Nat.reduceLeDiff, Bool.false_eq_true, Nat.reduceMul, Bool.true_eq_false, Nat.reduceLT, hpos', Int.toNat_zero]
      refine call_by (r04_small_ev Z _) ?_
      cases h1 : isSmall (s.getD 0 0).toNat with
      | false =>
        have hr : isName s = false := by simp only [isName, hz, h1]; rfl
        simp only [go_sem, Nat.reduceEqDiff, reduceCtorEq, Nat.reduceAdd, Nat.reduceLeDiff, Bool.false_eq_true, Nat.reduceMul, Bool.true_eq_false, Nat.reduceLT, hr]
        refine ⟨.one (.bool false), ?_⟩
        simp only [go_sem, Nat.reduceEqDiff, reduceCtorEq, Nat.reduceAdd, Nat.reduceLeDiff, Bool.false_eq_true, Nat.reduceMul, Bool.true_eq_false, Nat.reduceLT, hr]
      | true =>
        simp only [go_sem, Nat.reduceEqDiff, reduceCtorEq, Nat.reduceAdd, Nat.reduceLeDiff, Bool.false_eq_true, Nat.reduceMul, Bool.true_eq_false, Nat.reduceLT]
        refine call_by (r04_Keyword_ev Z s) ?_
        cases h2 : kws.contains s with
        | true =>
          have hr : isName s = false := by simp only [isName, hz, h1, h2]; rfl
          simp only [go_sem, Nat.reduceEqDiff, reduceCtorEq, Nat.reduceAdd, Nat.reduceLeDiff, Bool.false_eq_true, Nat.reduceMul, Bool.true_eq_false, Nat.reduceLT, hr]
        | false =>
          have hr : isName s = scan badName 1 (s.drop 1) := by simp only [isName, hz, h1, h2]; rfl
          have h3 : scan badName 1 (s.drop 1) = scan badName 0 s := by
            cases s with
            | nil => rfl
            | cons c t =>
              have h1 : isSmall c.toNat = true := h1
              simp [scan, badName, h1]
          rw [hr, h3]
          simp only [go_sem, Nat.reduceEqDiff, reduceCtorEq, Nat.reduceAdd, Nat.reduceLeDiff, Bool.false_eq_true, Nat.reduceMul, Bool.true_eq_false, Nat.reduceLT]
          intro _
          refine loop_list s (fun done => scan badName 0 done = true) (fun done rest => ⟨[(0, .d (.str s)), (24, .d (.int .i64 done.length)), (23, .d (.int .i64 s.length))], [], []⟩) ?_ rfl ?_ ?_
          · exact Ent_plain (by simp only [go_sem, Nat.reduceEqDiff, reduceCtorEq, Nat.reduceAdd, Nat.reduceLeDiff, Bool.false_eq_true, Nat.reduceMul, Bool.true_eq_false, Nat.reduceLT, Int.natCast_zero])
          · intro done c r hl hI
            have hlt := lt_mid hl
            have hx : s.getD done.length 0 = c := getD_mid0 _ _ _ _ hl
            have hw : IntKind.i64.wrap ((done.length : Int) + 1) = ((done.length + 1 : Nat) : Int) := wrap_succ (by omega)
            simp only [fn_r04_Check_L1, go_sem, Nat.reduceEqDiff, reduceCtorEq, Nat.reduceAdd, Nat.reduceLeDiff, Bool.false_eq_true, Nat.reduceMul, Bool.true_eq_false, Nat.reduceLT, hlt, hx]
            refine call_by (r04_small_ev Z _) ?_
            simp only [go_sem, Nat.reduceEqDiff, reduceCtorEq, Nat.reduceAdd, Nat.reduceLeDiff, Bool.false_eq_true, Nat.reduceMul, Bool.true_eq_false, Nat.reduceLT, hw, hlt, hx]
            refine call_by_g (r04_digit_ev Z _) ?_
            simp only [go_sem, Nat.reduceEqDiff, reduceCtorEq, Nat.reduceAdd, Nat.reduceLeDiff, Bool.false_eq_true, Nat.reduceMul, Bool.true_eq_false, Nat.reduceLT, hw, hlt, hx]
            cases h1 : badName done.length c.toNat with
            | false =>
              have h2 := h1
              rw [badName] at h2
              simp only [go_sem, Nat.reduceEqDiff, reduceCtorEq, Nat.reduceAdd, Nat.reduceLeDiff, Bool.false_eq_true, Nat.reduceMul, Bool.true_eq_false, Nat.reduceLT, h2, hw, List.length_append, scan_app, scan, hI, h1, Nat.zero_add]
              exact Ent_plain (by simp only [go_sem, Nat.reduceEqDiff, reduceCtorEq, Nat.reduceAdd, Nat.reduceLeDiff, Bool.false_eq_true, Nat.reduceMul, Bool.true_eq_false, Nat.reduceLT])
            | true =>
              have h2 := h1
              rw [badName] at h2
              simp only [go_sem, Nat.reduceEqDiff, reduceCtorEq, Nat.reduceAdd, Nat.reduceLeDiff, Bool.false_eq_true, Nat.reduceMul, Bool.true_eq_false, Nat.reduceLT, h2, hl, scan_app, scan, h1, Nat.zero_add]
          · intro hI
            simp only [fn_r04_Check_L1, go_sem, Nat.reduceEqDiff, reduceCtorEq, Nat.reduceAdd, Nat.reduceLeDiff, Bool.false_eq_true, Nat.reduceMul, Bool.true_eq_false, Nat.reduceLT, hI]
end Go.Abs
end
section
set_option linter.unusedSimpArgs false
set_option linter.unusedVariables false
set_option linter.unusedSectionVars false
namespace Go.Abs
variable {E : AEnv} (Z : Sys E)
include Z
theorem r04_Title_ev (s : List UInt8) : E.C r04_Title [.one (.str s)] (.one (.int .i64 (if isTitle s then 0 else 3))) := by
  refine Z.r04_Title _ _ ⟨Nat.le_of_ble_eq_true rfl, ?_⟩
  simp only [fn_r04_Title, go_sem, Nat.reduceEqDiff, reduceCtorEq, Nat.reduceAdd, Nat.reduceLeDiff, Bool.false_eq_true, Nat.reduceMul, Bool.true_eq_false, Nat.reduceLT]
  intro hlen
  cases h0 : decide ((s.length : Int) < 1) with
  | true =>
    have hz : isSized s = false := by simp only [isSized, Bool.and_eq_false_iff, decide_eq_false_iff_not]; left; simp only [decide_eq_true_eq] at h0; omega
    have hr : isTitle s = false := by simp only [isTitle, hz]; rfl
    simp only [go_sem, Nat.reduceEqDiff, reduceCtorEq, Nat.reduceAdd, Nat.reduceLeDiff, Bool.false_eq_true, Nat.reduceMul, Bool.true_eq_false, Nat.reduceLT, hr]
    refine ⟨.one (.bool false), ?_⟩
    simp only [go_sem, Nat.reduceEqDiff, reduceCtorEq, Nat.reduceAdd, Nat.reduceLeDiff, Bool.false_eq_true, Nat.reduceMul, Bool.true_eq_false, Nat.reduceLT, hr]
  | false =>
    simp only [decide_eq_false_iff_not] at h0
    have hpos' : ((0 : Int) < s.length) = True := eq_true (by omega)
    simp only [go_sem, Nat.reduceEqDiff, reduceCtorEq, Nat.reduceAdd, Nat.reduceLeDiff, Bool.false_eq_true, Nat.reduceMul, Bool.true_eq_false, Nat.reduceLT, hlen]
    cases h24 : decide ((s.length : Int) > 24) with
    | true =>
      have hz : isSized s = false := by simp only [isSized, Bool.and_eq_false_iff, decide_eq_false_iff_not]; right; simp only [decide_eq_true_eq] at h24; omega
      have hr : isTitle s = false := by simp only [isTitle, hz]; rfl
      simp only [go_sem, Nat.reduceEqDiff, reduceCtorEq, Nat.reduceAdd, Nat.reduceLeDiff, Bool.false_eq_true, Nat.reduceMul, Bool.true_eq_false, Nat.reduceLT, hr]
      refine ⟨.one (.bool false), ?_⟩
      simp only [go_sem, Nat.reduceEqDiff, reduceCtorEq, Nat.reduceAdd, Nat.reduceLeDiff, Bool.false_eq_true, Nat.reduceMul, Bool.true_eq_false, Nat.reduceLT, hr]
    | false =>
      have hz : isSized s = true := by simp only [isSized, Bool.and_eq_true, decide_eq_true_eq]; simp only [decide_eq_false_iff_not] at h24; omega
      simp only [go_sem, Nat.reduceEqDiff, reduceCtorEq, Nat.reduceAdd, Nat.reduceLeDiff, Bool.false_eq_true, Nat.reduceMul, Bool.true_eq_false, Nat.reduceLT, hpos', Int.toNat_zero]
      refine call_by (r04_capital_ev Z _) ?_
      cases h1 : isCapital (s.getD 0 0).toNat with
      | false =>
        have hr : isTitle s = false := by simp only [isTitle, hz, h1]; rfl
        simp only [go_sem, Nat.reduceEqDiff, reduceCtorEq, Nat.reduceAdd, Nat.reduceLeDiff, Bool.false_eq_true, Nat.reduceMul, Bool.true_eq_false, Nat.reduceLT, hr]
      | true =>
        cases e1 : (s == [73, 110, 116]) <;> cases e2 : (s == [66, 111, 111, 108]) <;> cases e3 : (s == [67, 101, 108, 108]) <;> cases e4 : (s == [70, 117, 110])
        case false.false.false.false =>
          have hr : isTitle s = s.all fun c => alnum c.toNat := by simp only [isTitle, hz, h1, bne, e1, e2, e3, e4]; simp
          rw [hr]
          simp only [go_sem, Nat.reduceEqDiff, reduceCtorEq, Nat.reduceAdd, Nat.reduceLeDiff, Bool.false_eq_true, Nat.reduceMul, Bool.true_eq_false, Nat.reduceLT, e1, e2, e3, e4]
          intro _
          refine loop_list s (fun done => done.all (fun c => alnum c.toNat) = true) (fun done rest => ⟨[(0, .d (.str s)), (36, .d (.int .i64 done.length)), (35, .d (.int .i64 s.length))], [], []⟩) ?_ rfl ?_ ?_
          · exact Ent_plain (by simp only [go_sem, Nat.reduceEqDiff, reduceCtorEq, Nat.reduceAdd, Nat.reduceLeDiff, Bool.false_eq_true, Nat.reduceMul, Bool.true_eq_false, Nat.reduceLT, Int.natCast_zero])
          · intro done c r hl hI
            have hlt := lt_mid hl
            have hx : s.getD done.length 0 = c := getD_mid0 _ _ _ _ hl
            have hw : IntKind.i64.wrap ((done.length : Int) + 1) = ((done.length + 1 : Nat) : Int) := wrap_succ (by omega)
            simp only [fn_r04_Title_L1, go_sem, Nat.reduceEqDiff, reduceCtorEq, Nat.reduceAdd, Nat.reduceLeDiff, Bool.false_eq_true, Nat.reduceMul, Bool.true_eq_false, Nat.reduceLT, hlt, hx]
            refine call_by (r04_small_ev Z _) ?_
            simp only [go_sem, Nat.reduceEqDiff, reduceCtorEq, Nat.reduceAdd, Nat.reduceLeDiff, Bool.false_eq_true, Nat.reduceMul, Bool.true_eq_false, Nat.reduceLT, hw, hlt, hx]
            refine call_by_g (r04_capital_ev Z _) ?_
            simp only [go_sem, Nat.reduceEqDiff, reduceCtorEq, Nat.reduceAdd, Nat.reduceLeDiff, Bool.false_eq_true, Nat.reduceMul, Bool.true_eq_false, Nat.reduceLT, hw, hlt, hx]
            refine call_by_g (r04_digit_ev Z _) ?_
            simp only [go_sem, Nat.reduceEqDiff, reduceCtorEq, Nat.reduceAdd, Nat.reduceLeDiff, Bool.false_eq_true, Nat.reduceMul, Bool.true_eq_false, Nat.reduceLT, hw, hlt, hx]
            cases h1 : (!isSmall c.toNat && !isCapital c.toNat && !isDigit c.toNat) with
            | false =>
              have hc : alnum c.toNat = true := by rw [alnum, h1]; rfl
              simp only [go_sem, Nat.reduceEqDiff, reduceCtorEq, Nat.reduceAdd, Nat.reduceLeDiff, Bool.false_eq_true, Nat.reduceMul, Bool.true_eq_false, Nat.reduceLT, hw, List.length_append, List.all_append, List.all_cons, List.all_nil, hI, hc]
              exact Ent_plain (by simp only [go_sem, Nat.reduceEqDiff, reduceCtorEq, Nat.reduceAdd, Nat.reduceLeDiff, Bool.false_eq_true, Nat.reduceMul, Bool.true_eq_false, Nat.reduceLT])
            | true =>
              have hc : alnum c.toNat = false := by rw [alnum, h1]; rfl
              simp only [go_sem, Nat.reduceEqDiff, reduceCtorEq, Nat.reduceAdd, Nat.reduceLeDiff, Bool.false_eq_true, Nat.reduceMul, Bool.true_eq_false, Nat.reduceLT, hl, List.all_append, List.all_cons, hc]
          · intro hI
            simp only [fn_r04_Title_L1, go_sem, Nat.reduceEqDiff, reduceCtorEq, Nat.reduceAdd, Nat.reduceLeDiff, Bool.false_eq_true, Nat.reduceMul, Bool.true_eq_false, Nat.reduceLT, hI]
        all_goals
          have hr : isTitle s = false := by simp only [isTitle, hz, h1, bne, e1, e2, e3, e4]; simp
          simp only [go_sem, Nat.reduceEqDiff, reduceCtorEq, Nat.reduceAdd, Nat.reduceLeDiff, Bool.false_eq_true, Nat.reduceMul, Bool.true_eq_false, Nat.reduceLT, hr, e1, e2, e3, e4]
end Go.Abs
end
section
set_option linter.unusedSimpArgs false
set_option linter.unusedVariables false
set_option linter.unusedSectionVars false
namespace Go.Abs
def alnum2 (n : Int) : Bool := isSmall n || isCapital n || isDigit n
def wordc2 (n : Int) : Bool := isSmall n || isDigit n || n == 95
theorem alnum_eq (n : Int) : alnum n = alnum2 n := by simp only [alnum, alnum2]; cases isSmall n <;> cases isCapital n <;> cases isDigit n <;> rfl
theorem scan_wordc : ∀ (s : List UInt8) (i : Nat), scan badWord (i + 1) s = s.all fun c => wordc2 c.toNat
  | [], _ => rfl
  | c :: s, i => by
    have h0 : (((i + 1 : Nat) : Int) == 0) = false := by simp; omega
    simp only [scan, List.all_cons, scan_wordc s (i + 1), badWord, wordc2, h0, bne]
    cases isSmall c.toNat <;> cases isDigit c.toNat <;> cases ((c.toNat : Int) == 95) <;> rfl
theorem scan_word (c : UInt8) (s : List UInt8) : scan badWord 0 (c :: s) = (isSmall c.toNat && (c :: s).all fun c => wordc2 c.toNat) := by
  simp only [scan, scan_wordc, badWord, List.all_cons, wordc2, Int.natCast_zero, beq_self_eq_true, Bool.true_or, Bool.and_true, Bool.not_not]
  cases isSmall c.toNat <;> simp
variable {E : AEnv} (Z : Sys E)
include Z
theorem r04_part_ev (s : List UInt8) : E.C r04_part [.one (.str s)] (.one (.bool (okPart s))) := by
  refine Z.r04_part _ _ ⟨Nat.le_of_ble_eq_true rfl, ?_⟩
  simp only [fn_r04_part, go_sem, Nat.reduceEqDiff, reduceCtorEq, Nat.reduceAdd, Nat.reduceLeDiff, Bool.false_eq_true, Nat.reduceMul, Bool.true_eq_false, Nat.reduceLT]
  intro hlen
  cases h0 : decide ((s.length : Int) < 1) with
  | true =>
    have hz : isSized s = false := by simp only [isSized, Bool.and_eq_false_iff, decide_eq_false_iff_not]; left; simp only [decide_eq_true_eq] at h0; omega
    have hr : okPart s = false := by simp only [okPart, hz]; rfl
    simp only [go_sem, Nat.reduceEqDiff, reduceCtorEq, Nat.reduceAdd, Nat.reduceLeDiff, Bool.false_eq_true, Nat.reduceMul, Bool.true_eq_false, Nat.reduceLT, hr]
  | false =>
    simp only [decide_eq_false_iff_not] at h0
    have hpos' : ((0 : Int) < s.length) = True := eq_true (by omega)
    simp only [go_sem, Nat.reduceEqDiff, reduceCtorEq, Nat.reduceAdd, Nat.reduceLeDiff, Bool.false_eq_true, Nat.reduceMul, Bool.true_eq_false, Nat.reduceLT, hlen]
    cases h24 : decide ((s.length : Int) > 24) with
    | true =>
      have hz : isSized s = false := by simp only [isSized, Bool.and_eq_false_iff, decide_eq_false_iff_not]; right; simp only [decide_eq_true_eq] at h24; omega
      have hr : okPart s = false := by simp only [okPart, hz]; rfl
      simp only [go_sem, Nat.reduceEqDiff, reduceCtorEq, Nat.reduceAdd, Nat.reduceLeDiff, Bool.false_eq_true, Nat.reduceMul, Bool.true_eq_false, Nat.reduceLT, hr]
    | false =>
      have hz : isSized s = true := by simp only [isSized, Bool.and_eq_true, decide_eq_true_eq]; simp only [decide_eq_false_iff_not] at h24; omega
      have hr : okPart s = ((s.all fun c => alnum2 c.toNat) || (isSmall (s.getD 0 0).toNat && s.all fun c => wordc2 c.toNat)) := by
        obtain ⟨c0, t, rfl⟩ : ∃ c0 t, s = c0 :: t := by cases s with | nil => simp at h0 | cons c t => exact ⟨c, t, rfl⟩
        simp only [okPart, hz, scan_word, alnum_eq, List.getD_cons_zero]
        cases ((c0 :: t).all fun c => alnum2 c.toNat) <;> cases (isSmall c0.toNat && (c0 :: t).all fun c => wordc2 c.toNat) <;> rfl
      simp only [go_sem, Nat.reduceEqDiff, reduceCtorEq, Nat.reduceAdd, Nat.reduceLeDiff, Bool.false_eq_true, Nat.reduceMul, Bool.true_eq_false, Nat.reduceLT, hpos', Int.toNat_zero]
      refine call_by (r04_small_ev Z _) ?_
      simp only [go_sem, Nat.reduceEqDiff, reduceCtorEq, Nat.reduceAdd, Nat.reduceLeDiff, Bool.false_eq_true, Nat.reduceMul, Bool.true_eq_false, Nat.reduceLT, hr]
      intro _
      generalize isSmall (s.getD 0 0).toNat = w0
      refine loop_list s (fun _ => True) (fun done rest => ⟨[(0, .d (.str s)), (19, .d (.int .i64 done.length)), (18, .d (.int .i64 s.length)), (3, .d (.bool (done.all fun c => alnum2 c.toNat))), (4, .d (.bool (w0 && done.all fun c => wordc2 c.toNat)))], [], []⟩) ?_ trivial ?_ ?_
      · exact Ent_plain (by simp only [go_sem, Nat.reduceEqDiff, reduceCtorEq, Nat.reduceAdd, Nat.reduceLeDiff, Bool.false_eq_true, Nat.reduceMul, Bool.true_eq_false, Nat.reduceLT, Int.natCast_zero, List.all_nil])
      · intro done c r hl _
        have hlt := lt_mid hl
        have hx : s.getD done.length 0 = c := getD_mid0 _ _ _ _ hl
        have hw : IntKind.i64.wrap ((done.length : Int) + 1) = ((done.length + 1 : Nat) : Int) := wrap_succ (by omega)
        simp only [fn_r04_part_L1, go_sem, Nat.reduceEqDiff, reduceCtorEq, Nat.reduceAdd, Nat.reduceLeDiff, Bool.false_eq_true, Nat.reduceMul, Bool.true_eq_false, Nat.reduceLT, hlt, hx]
        refine call_by_g (r04_small_ev Z _) ?_
        simp only [go_sem, Nat.reduceEqDiff, reduceCtorEq, Nat.reduceAdd, Nat.reduceLeDiff, Bool.false_eq_true, Nat.reduceMul, Bool.true_eq_false, Nat.reduceLT, hw, hlt, hx]
        refine call_by_g (r04_capital_ev Z _) ?_
        simp only [go_sem, Nat.reduceEqDiff, reduceCtorEq, Nat.reduceAdd, Nat.reduceLeDiff, Bool.false_eq_true, Nat.reduceMul, Bool.true_eq_false, Nat.reduceLT, hw, hlt, hx]
        refine ⟨by simp +contextual, ?_⟩
        refine call_by_g (r04_digit_ev Z _) ?_
        simp only [go_sem, Nat.reduceEqDiff, reduceCtorEq, Nat.reduceAdd, Nat.reduceLeDiff, Bool.false_eq_true, Nat.reduceMul, Bool.true_eq_false, Nat.reduceLT, hw, hlt, hx]
        refine ⟨by simp +contextual, ?_⟩
        refine call_by_g (r04_small_ev Z _) ?_
        simp only [go_sem, Nat.reduceEqDiff, reduceCtorEq, Nat.reduceAdd, Nat.reduceLeDiff, Bool.false_eq_true, Nat.reduceMul, Bool.true_eq_false, Nat.reduceLT, hw, hlt, hx]
        refine call_by_g (r04_digit_ev Z _) ?_
        simp only [go_sem, Nat.reduceEqDiff, reduceCtorEq, Nat.reduceAdd, Nat.reduceLeDiff, Bool.false_eq_true, Nat.reduceMul, Bool.true_eq_false, Nat.reduceLT, hw, hlt, hx, List.length_append, List.all_append, List.all_cons, List.all_nil]
        refine ⟨by simp +contextual, by simp +contextual, Ent_plain (by simp only [go_sem, Nat.reduceEqDiff, reduceCtorEq, Nat.reduceAdd, Nat.reduceLeDiff, Bool.false_eq_true, Nat.reduceMul, Bool.true_eq_false, Nat.reduceLT, List.length_append, List.all_append, List.all_cons, List.all_nil, alnum2, wordc2, Bool.and_assoc])⟩
      · intro _
        simp only [fn_r04_part_L1, go_sem, Nat.reduceEqDiff, reduceCtorEq, Nat.reduceAdd, Nat.reduceLeDiff, Bool.false_eq_true, Nat.reduceMul, Bool.true_eq_false, Nat.reduceLT]
        cases (s.all fun c => alnum2 c.toNat) <;> simp
end Go.Abs
end
section
set_option linter.unusedSimpArgs false
set_option linter.unusedVariables false
set_option linter.unusedSectionVars false
namespace Go.Abs
/-- the parts of a text, with a point between -/
structure PSt where
  out : List (List UInt8)
  beg : Nat
  pre : List UInt8
def PSt.step (p : PSt) (c : UInt8) : PSt := if c.toNat = 46 then ⟨p.out ++ [p.pre.drop p.beg], p.pre.length + 1, p.pre ++ [c]⟩ else ⟨p.out, p.beg, p.pre ++ [c]⟩
def pst (l : List UInt8) : PSt := l.foldl PSt.step ⟨[], 0, []⟩
theorem pst_app (l : List UInt8) (c : UInt8) : pst (l ++ [c]) = (pst l).step c := by simp [pst]
theorem pst_pre : ∀ (l : List UInt8) (p : PSt), (l.foldl PSt.step p).pre = p.pre ++ l
  | [], p => by simp
  | c :: l, p => by
    rw [List.foldl_cons, pst_pre l]
    unfold PSt.step
    split <;> simp
theorem pst_beg : ∀ (l : List UInt8) (p : PSt), p.beg ≤ p.pre.length → (l.foldl PSt.step p).beg ≤ p.pre.length + l.length
  | [], p, h => by simpa using h
  | c :: l, p, h => by
    rw [List.foldl_cons]
    have := pst_beg l (p.step c) (by unfold PSt.step; split <;> simp <;> omega)
    have e : (p.step c).pre.length = p.pre.length + 1 := by unfold PSt.step; split <;> simp
    rw [e] at this
    simp only [List.length_cons]; omega
theorem pst_out : ∀ (l : List UInt8) (p : PSt), (l.foldl PSt.step p).out.length ≤ p.out.length + l.length
  | [], p => by simp
  | c :: l, p => by
    rw [List.foldl_cons]
    have := pst_out l (p.step c)
    have e : (p.step c).out.length ≤ p.out.length + 1 := by unfold PSt.step; split <;> simp
    simp only [List.length_cons]; omega
def partsOf (s : List UInt8) : List (List UInt8) := (pst s).out ++ [s.drop (pst s).beg]
variable {E : AEnv} (Z : Sys E)
include Z
theorem r04_parts_ev (s : List UInt8) (hs : s.length ≤ 1000) : E.C r04_parts [.one (.str s)] (.one (.lst ((partsOf s).map fun k => [.str k]))) := by
  refine Z.r04_parts _ _ ⟨Nat.le_of_ble_eq_true rfl, ?_⟩
  simp only [fn_r04_parts, go_sem, Nat.reduceEqDiff, reduceCtorEq, Nat.reduceAdd, Nat.reduceLeDiff, Bool.false_eq_true, Nat.reduceMul, Bool.true_eq_false, Nat.reduceLT]
  intro hlen
  refine loop_list s (fun _ => True) (fun done rest => ⟨[(0, .d (.str s)), (8, .d (.int .i64 done.length)), (7, .d (.int .i64 s.length)), (3, .own 3 1 ((pst done).out.map fun k => [.str k])), (4, .d (.int .i64 (pst done).beg))], [], [(3, true)]⟩) ?_ trivial ?_ ?_
  · exact Ent_conv 3 3 1 [] [(3, 3)] rfl (by simp) rfl (by simp only [Ent0, go_sem, Nat.reduceEqDiff, reduceCtorEq, Nat.reduceAdd, Nat.reduceLeDiff, Bool.false_eq_true, Nat.reduceMul, Bool.true_eq_false, Nat.reduceLT, List.contains_nil, pst, List.foldl_nil, Int.natCast_zero])
  · intro done c r hl _
    have hlt := lt_mid hl
    have hx : s.getD done.length 0 = c := getD_mid0 _ _ _ _ hl
    have hw : IntKind.i64.wrap ((done.length : Int) + 1) = ((done.length + 1 : Nat) : Int) := wrap_succ (by omega)
    have hpre : (pst done).pre = done := by simp [pst, pst_pre]
    have hbeg : (pst done).beg ≤ done.length := by simpa [pst] using pst_beg done ⟨[], 0, []⟩ (Nat.le_refl _)
    have hout : (pst done).out.length ≤ done.length := by simpa [pst] using pst_out done ⟨[], 0, []⟩
    have htake : s.take done.length = done := by rw [hl]; simp
    simp only [fn_r04_parts_L1, go_sem, Nat.reduceEqDiff, reduceCtorEq, Nat.reduceAdd, Nat.reduceLeDiff, Bool.false_eq_true, Nat.reduceMul, Bool.true_eq_false, Nat.reduceLT, hlt, hx]
    by_cases hc : c.toNat = 46
    · have h1 : (((c.toNat : Nat) : Int) == 46) = true := by simp [hc]
      simp only [go_sem, Nat.reduceEqDiff, reduceCtorEq, Nat.reduceAdd, Nat.reduceLeDiff, Bool.false_eq_true, Nat.reduceMul, Bool.true_eq_false, Nat.reduceLT, h1, hw, htake]
      have hd : done.length ≤ 1000 := by omega
      refine ⟨by omega, ⟨by simp, by omega, by omega⟩, Ent_own [(3, 21)] ?_⟩
      simp only [go_sem, Nat.reduceEqDiff, reduceCtorEq, Nat.reduceAdd, Nat.reduceLeDiff, Bool.false_eq_true, Nat.reduceMul, Bool.true_eq_false, Nat.reduceLT, pst_app, PSt.step, if_pos hc, List.length_append, List.map_append, hpre, List.contains_nil]
    · have h1 : (((c.toNat : Nat) : Int) == 46) = false := by simp; omega
      simp only [go_sem, Nat.reduceEqDiff, reduceCtorEq, Nat.reduceAdd, Nat.reduceLeDiff, Bool.false_eq_true, Nat.reduceMul, Bool.true_eq_false, Nat.reduceLT, h1, hw, pst_app, PSt.step, if_neg hc, List.length_append]
      exact Ent_own [(3, 3)] (by simp only [go_sem, Nat.reduceEqDiff, reduceCtorEq, Nat.reduceAdd, Nat.reduceLeDiff, Bool.false_eq_true, Nat.reduceMul, Bool.true_eq_false, Nat.reduceLT, List.contains_nil])
  · intro _
    have hbeg : (pst s).beg ≤ s.length := by simpa [pst] using pst_beg s ⟨[], 0, []⟩ (Nat.le_refl _)
    have hout : (pst s).out.length ≤ s.length := by simpa [pst] using pst_out s ⟨[], 0, []⟩
    simp only [fn_r04_parts_L1, go_sem, Nat.reduceEqDiff, reduceCtorEq, Nat.reduceAdd, Nat.reduceLeDiff, Bool.false_eq_true, Nat.reduceMul, Bool.true_eq_false, Nat.reduceLT]
    refine ⟨by omega, ⟨by simp, by omega, by omega⟩, ?_⟩
    simp [partsOf]
end Go.Abs
end
section
set_option linter.unusedSimpArgs false
set_option linter.unusedVariables false
set_option linter.unusedSectionVars false
namespace Go.Abs
def splitW : List UInt8 → List UInt8 → List (List UInt8)
  | acc, [] => [acc]
  | acc, c :: s => if c.toNat = 46 then acc :: splitW [] s else splitW (acc ++ [c]) s
theorem pst_split : ∀ (s : List UInt8) (p : PSt), p.beg ≤ p.pre.length → (s.foldl PSt.step p).out ++ [(p.pre ++ s).drop (s.foldl PSt.step p).beg] = p.out ++ splitW (p.pre.drop p.beg) s
  | [], p, _ => by simp [splitW]
  | c :: s, p, h => by
    have e : p.pre ++ c :: s = (p.step c).pre ++ s := by unfold PSt.step; split <;> simp
    rw [List.foldl_cons, e, pst_split s (p.step c) (by unfold PSt.step; split <;> simp <;> omega)]
    rw [splitW.eq_2]
    unfold PSt.step
    by_cases hc : c.toNat = 46
    · simp only [if_pos hc]; simp
    · simp only [if_neg hc]
      rw [List.drop_append_of_le_length h]
theorem partsOf_eq (s : List UInt8) : partsOf s = splitW [] s := by
  have := pst_split s ⟨[], 0, []⟩ (Nat.le_refl _)
  simpa [partsOf, pst] using this
theorem splitW_cut : ∀ (s acc : List UInt8), splitW acc s = (acc ++ (cutAt s).1) :: (if (cutAt s).2.2 = true then splitW [] (cutAt s).2.1 else [])
  | [], acc => by simp [splitW, cutAt]
  | c :: s, acc => by
    rw [splitW.eq_2, cutAt.eq_2]
    by_cases hc : c.toNat = 46
    · simp [hc]
    · simp only [if_neg hc]; rw [splitW_cut s]; simp
theorem parts_split (s : List UInt8) : parts s = (splitW [] s).all okPart := by
  induction hn : s.length using Nat.strongRecOn generalizing s with
  | ind n ih =>
    rw [parts, splitW_cut]
    by_cases h : (cutAt s).2.2 = true
    · have := ih _ (by rw [← hn]; exact cutAt_len s h) (cutAt s).2.1 rfl
      simp [h, this]
    · simp [h]
end Go.Abs
end
section
set_option linter.unusedSimpArgs false
set_option linter.unusedVariables false
set_option linter.unusedSectionVars false
namespace Go.Abs
theorem splitW_ne (acc s : List UInt8) : 0 < (splitW acc s).length := by rw [splitW_cut]; simp
variable {E : AEnv} (Z : Sys E)
include Z
theorem r04_Core_ev (s : List UInt8) : E.C r04_Core [.one (.str s)] (.one (.int .i64 (if isCore s then 0 else 3))) := by
  refine Z.r04_Core _ _ ⟨Nat.le_of_ble_eq_true rfl, ?_⟩
  simp only [fn_r04_Core, go_sem, Nat.reduceEqDiff, reduceCtorEq, Nat.reduceAdd, Nat.reduceLeDiff, Bool.false_eq_true, Nat.reduceMul, Bool.true_eq_false, Nat.reduceLT]
  intro hlen
  cases h0 : decide ((s.length : Int) > 120) with
  | true => simp only [go_sem, Nat.reduceEqDiff, reduceCtorEq, Nat.reduceAdd, Nat.reduceLeDiff, Bool.false_eq_true, Nat.reduceMul, Bool.true_eq_false, Nat.reduceLT, isCore, h0]
  | false =>
    have hs : s.length ≤ 1000 := by simp only [decide_eq_false_iff_not] at h0; omega
    have hp : partsOf s = (cutAt s).1 :: (if (cutAt s).2.2 = true then splitW [] (cutAt s).2.1 else []) := by rw [partsOf_eq, splitW_cut]; simp
    simp only [go_sem, Nat.reduceEqDiff, reduceCtorEq, Nat.reduceAdd, Nat.reduceLeDiff, Bool.false_eq_true, Nat.reduceMul, Bool.true_eq_false, Nat.reduceLT, isCore, h0]
    refine call_by (r04_parts_ev Z s hs) ?_
    rw [hp]
    have hq := parts_split (cutAt s).2.1
    have hne := splitW_ne [] (cutAt s).2.1
    rw [hq]
    generalize splitW [] (cutAt s).2.1 = t at *
    generalize (cutAt s).1 = a at *
    generalize (cutAt s).2.2 = m at *
    have hlast : (if m = true then t.all okPart else true) = (if m = true then t else []).all okPart := by cases m <;> rfl
    have hm : (!m) = ((((if m = true then t else []).length + 1 : Nat) : Int) == 1) := by
      cases m
      · rfl
      · have : ((((t.length + 1 : Nat) : Int)) == 1) = false := by
          rw [beq_eq_false_iff_ne]; omega
        exact this.symm
    rw [hlast, hm]
    generalize (if m = true then t else []) = u
    have hls : (∀ e ∈ [D.str a] :: u.map fun k => [D.str k], e.length = 1) = True := eq_true (by intro e he; simp only [List.mem_cons, List.mem_map] at he; rcases he with rfl | ⟨k, _, rfl⟩ <;> rfl)
    have h00 : ((0 : Int) < ((u.length + 1 : Nat) : Int)) = True := eq_true (by omega)
    simp only [go_sem, Nat.reduceEqDiff, reduceCtorEq, Nat.reduceAdd, Nat.reduceLeDiff, Bool.false_eq_true, Nat.reduceMul, Bool.true_eq_false, Nat.reduceLT, hls, h00, Int.toNat_zero]
    refine call_by (r04_Check_ev Z a) ?_
    have hcn : ((if isName a = true then (0 : Int) else 3) != 0) = !isName a := by cases isName a <;> rfl
    have hct : ((if isTitle a = true then (0 : Int) else 3) != 0) = !isTitle a := by cases isTitle a <;> rfl
    simp only [go_sem, Nat.reduceEqDiff, reduceCtorEq, Nat.reduceAdd, Nat.reduceLeDiff, Bool.false_eq_true, Nat.reduceMul, Bool.true_eq_false, Nat.reduceLT, hls, h00, Int.toNat_zero, hcn]
    refine call_by_g (r04_Title_ev Z a) ?_
    simp only [go_sem, Nat.reduceEqDiff, reduceCtorEq, Nat.reduceAdd, Nat.reduceLeDiff, Bool.false_eq_true, Nat.reduceMul, Bool.true_eq_false, Nat.reduceLT, hls, h00, Int.toNat_zero, hct]
    intro hlen2
    refine ⟨?_, ?_⟩
    · cases isName a <;> cases isTitle a <;> cases (a == [118]) <;> simp
    have h11 : ((1 : Int) ≤ ((u.length + 1 : Nat) : Int)) = True := eq_true (by omega)
    have hd : (Int.toNat 1) = 1 := rfl
    have h01 : ((0 : Int) ≤ 1) = True := eq_true (by omega)
    simp only [bne]
    by_cases hb : (!isName a && !isTitle a && (!(a == [118]) || ((u.length + 1 : Nat) : Int) == 1)) = true
    · simp only [hb, go_sem, Nat.reduceEqDiff, reduceCtorEq, Nat.reduceAdd, Nat.reduceLeDiff, Bool.false_eq_true, Nat.reduceMul, Bool.true_eq_false, Nat.reduceLT]
    · simp only [Bool.not_eq_true] at hb
      simp only [hb, go_sem, Nat.reduceEqDiff, reduceCtorEq, Nat.reduceAdd, Nat.reduceLeDiff, Bool.false_eq_true, Nat.reduceMul, Bool.true_eq_false, Nat.reduceLT, h11, hd, h01]
      intro _
      refine loop_list u (fun done => done.all okPart = true) (fun done rest => ⟨[(37, .d (.int .i64 done.length)), (36, .d (.int .i64 u.length)), (35, .d (.lst (u.map fun k => [.str k])))], [], []⟩) ?_ rfl ?_ ?_
      · exact Ent_plain (by simp only [go_sem, Nat.reduceEqDiff, reduceCtorEq, Nat.reduceAdd, Nat.reduceLeDiff, Bool.false_eq_true, Nat.reduceMul, Bool.true_eq_false, Nat.reduceLT, Int.natCast_zero])
      · intro done k r hl hI
        have hlt := lt_mid hl
        have hw : IntKind.i64.wrap ((done.length : Int) + 1) = ((done.length + 1 : Nat) : Int) := wrap_succ (by omega)
        have hx : (u.map fun k => [D.str k]).getD done.length [] = [.str k] := by rw [hl]; exact getD_mid _ _ _ _ _
        have hlu : (∀ e ∈ u.map fun k => [D.str k], e.length = 1) = True := eq_true (by intro e he; simp only [List.mem_map] at he; rcases he with ⟨k, _, rfl⟩; rfl)
        simp only [fn_r04_Core_L1, go_sem, Nat.reduceEqDiff, reduceCtorEq, Nat.reduceAdd, Nat.reduceLeDiff, Bool.false_eq_true, Nat.reduceMul, Bool.true_eq_false, Nat.reduceLT, hlt, hx, hlu]
        refine call_by (r04_part_ev Z k) ?_
        cases hk : okPart k with
        | true =>
          simp only [go_sem, Nat.reduceEqDiff, reduceCtorEq, Nat.reduceAdd, Nat.reduceLeDiff, Bool.false_eq_true, Nat.reduceMul, Bool.true_eq_false, Nat.reduceLT, hw, List.length_append, List.all_append, List.all_cons, List.all_nil, hI, hk]
          exact Ent_plain (by simp only [go_sem, Nat.reduceEqDiff, reduceCtorEq, Nat.reduceAdd, Nat.reduceLeDiff, Bool.false_eq_true, Nat.reduceMul, Bool.true_eq_false, Nat.reduceLT])
        | false => simp only [go_sem, Nat.reduceEqDiff, reduceCtorEq, Nat.reduceAdd, Nat.reduceLeDiff, Bool.false_eq_true, Nat.reduceMul, Bool.true_eq_false, Nat.reduceLT, hl, List.all_append, List.all_cons, hk]
      · intro hI
        simp only [fn_r04_Core_L1, go_sem, Nat.reduceEqDiff, reduceCtorEq, Nat.reduceAdd, Nat.reduceLeDiff, Bool.false_eq_true, Nat.reduceMul, Bool.true_eq_false, Nat.reduceLT, hI]
end Go.Abs
end
section
set_option linter.unusedSimpArgs false
set_option linter.unusedVariables false
set_option linter.unusedSectionVars false
namespace Go.Abs
def sV : List UInt8 := [118]
def sTag : List UInt8 := [116, 97, 103]
def sVal : List UInt8 := [118, 97, 108]
/-- whether the name of a node is right -/
def calledOk (o : Int) (s : List UInt8) : Bool := if o == 3 then s == sV || isCore s else if o == 4 then s == sTag || s == sVal || isCore s else if o == 5 then isCore s else true
variable {E : AEnv} (Z : Sys E)
include Z
theorem r07_called_ev (p : Pred) : E.C r07_called [.agg (Pred.cells p)] (.one (.bool (calledOk p.op p.name))) := by
  obtain ⟨o, s, n, ks⟩ := p
  refine Z.r07_called _ _ ⟨Nat.le_of_ble_eq_true rfl, ?_⟩
  rw [Pred.cells_eq]
  have hc : ((if isCore s = true then (0 : Int) else 3) == 0) = isCore s := by cases isCore s <;> rfl
  by_cases h3 : (o == 3) = true
  · simp only [fn_r07_called, go_sem, Nat.reduceEqDiff, reduceCtorEq, Nat.reduceAdd, Nat.reduceLeDiff, Bool.false_eq_true, Nat.reduceMul, Bool.true_eq_false, Nat.reduceLT, Pred.op, Pred.name, h3, calledOk]
    refine call_by_g (r04_Core_ev Z s) ?_
    simp only [go_sem, Nat.reduceEqDiff, reduceCtorEq, Nat.reduceAdd, Nat.reduceLeDiff, Bool.false_eq_true, Nat.reduceMul, Bool.true_eq_false, Nat.reduceLT, hc, sV]
    cases (s == [118]) <;> simp
  · simp only [Bool.not_eq_true] at h3
    by_cases h4 : (o == 4) = true
    · simp only [fn_r07_called, go_sem, Nat.reduceEqDiff, reduceCtorEq, Nat.reduceAdd, Nat.reduceLeDiff, Bool.false_eq_true, Nat.reduceMul, Bool.true_eq_false, Nat.reduceLT, Pred.op, Pred.name, h3, h4, calledOk]
      refine ⟨by simp +contextual, ?_⟩
      refine call_by_g (r04_Core_ev Z s) ?_
      simp only [go_sem, Nat.reduceEqDiff, reduceCtorEq, Nat.reduceAdd, Nat.reduceLeDiff, Bool.false_eq_true, Nat.reduceMul, Bool.true_eq_false, Nat.reduceLT, hc, sTag, sVal]
      cases (s == [116, 97, 103] || s == [118, 97, 108]) <;> simp
    · simp only [Bool.not_eq_true] at h4
      by_cases h5 : (o == 5) = true
      · simp only [fn_r07_called, go_sem, Nat.reduceEqDiff, reduceCtorEq, Nat.reduceAdd, Nat.reduceLeDiff, Bool.false_eq_true, Nat.reduceMul, Bool.true_eq_false, Nat.reduceLT, Pred.op, Pred.name, h3, h4, h5, calledOk]
        refine call_by (r04_Core_ev Z s) ?_
        simp only [go_sem, Nat.reduceEqDiff, reduceCtorEq, Nat.reduceAdd, Nat.reduceLeDiff, Bool.false_eq_true, Nat.reduceMul, Bool.true_eq_false, Nat.reduceLT, hc]
      · simp only [Bool.not_eq_true] at h5
        simp only [fn_r07_called, go_sem, Nat.reduceEqDiff, reduceCtorEq, Nat.reduceAdd, Nat.reduceLeDiff, Bool.false_eq_true, Nat.reduceMul, Bool.true_eq_false, Nat.reduceLT, Pred.op, Pred.name, h3, h4, h5, calledOk]
end Go.Abs
end
section
set_option linter.unusedSimpArgs false
set_option linter.unusedVariables false
set_option linter.unusedSectionVars false
namespace Go.Abs
/-! ## obligations under a guard -/
theorem gR1 {b : Bool} {p : Prop} : (b = true → b = true ∧ p) = (b = true → p) := by cases b <;> simp
theorem gR2 {b : Bool} : (b = true → b = true) = True := by simp
theorem gR3 {b x : Bool} : (b = true → x = true → (b && x) = true) = True := by cases b <;> cases x <;> simp
theorem gR4 {b : Bool} : (b = false → (!b) = true) = True := by cases b <;> simp
theorem gR5 {b x : Bool} : (b = true → x = false → (b && !x) = true) = True := by cases b <;> cases x <;> simp
theorem gR6 {b x : Bool} {p : Prop} : (b = true → (x = true → (b && x) = true) ∧ p) = (b = true → p) := by cases b <;> cases x <;> simp
theorem gR7 {b x : Bool} {p : Prop} : (b = true → (x = false → (b && !x) = true) ∧ p) = (b = true → p) := by cases b <;> cases x <;> simp
theorem gR8 {b x : Bool} : ((b && x) = true → b = true) = True := by cases b <;> cases x <;> simp
theorem gR9 {b x : Bool} {p : Prop} : ((b && x) = true → b = true ∧ p) = ((b && x) = true → p) := by cases b <;> cases x <;> simp
theorem gR10 {b x : Bool} {p : Prop} : ((b && x) = true → x = true ∧ p) = ((b && x) = true → p) := by cases b <;> cases x <;> simp
theorem gR11 {b x : Bool} : ((b && x) = true → x = true) = True := by cases b <;> cases x <;> simp
theorem gR12 {b : Bool} {p : Prop} : (b = true → (b && b) = true ∧ p) = (b = true → p) := by cases b <;> simp
theorem gR13 {b x : Bool} {p : Prop} : ((b && x) = true → (b && (b && x)) = true ∧ p) = ((b && x) = true → p) := by cases b <;> cases x <;> simp
theorem gR14 {b x : Bool} {p : Prop} : ((b && x) = true → (b && x && b) = true ∧ p) = ((b && x) = true → p) := by cases b <;> cases x <;> simp
theorem gR15 {b x : Bool} : ((b && x) = true → (b && (b && x)) = true) = True := by cases b <;> cases x <;> simp
attribute [go_sem] gR1 gR2 gR3 gR4 gR5 gR6 gR7 gR8 gR9 gR10 gR11 gR12 gR13 gR14 gR15 Int.cast_ofNat_Int Int.natCast_one List.getD_nil Int.natCast_zero false_and and_false Int.toNat_zero Int.toNat_one Bool.false_eq_true Bool.true_eq_false
theorem call_g {E : AEnv} {f : FuncId} {args : List CV} {r : CV} {b : Bool} {g : Option Bool} {d : Option Nat} {K : St → Prop} {st : St} {as : List AV} (h : E.C f args r) (hk : callK g d K st as r) : ∃ r, (b = true → E.C f args r) ∧ callK g d K st as r := ⟨r, fun _ => h, hk⟩
theorem call_gi {E : AEnv} {f : FuncId} {args : List CV} {r : CV} {b : Bool} {g : Option Bool} {d : Option Nat} {K : St → Prop} {st : St} {as : List AV} (h : b = true → E.C f args r) (hk : callK g d K st as r) : ∃ r, (b = true → E.C f args r) ∧ callK g d K st as r := ⟨r, h, hk⟩
theorem call_no {E : AEnv} {f : FuncId} {args : List CV} (r : CV) {g : Option Bool} {d : Option Nat} {K : St → Prop} {st : St} {as : List AV} (hk : callK g d K st as r) : ∃ r, (False → E.C f args r) ∧ callK g d K st as r := ⟨r, fun h => h.elim, hk⟩
end Go.Abs
end
section
set_option linter.unusedSimpArgs false
set_option linter.unusedVariables false
set_option linter.unusedSectionVars false
namespace Go.Abs
/-- the error of a node by itself -/
def nodeE (o : Int) (s : List UInt8) (n : Int) (ks : List Pred) : Int :=
  if decide (o < 1) || decide (o > 18) || !s == [] && !isOpNamed o || n != 0 && !(o == 1 || o == 2) || !kidsOk o ks.length then 1
  else if o == 1 && !inRange n || o == 2 && (decide (n < 0) || decide (n > 1)) then 2
  else if !calledOk o s then 3
  else if o == 8 && ((ks.map Pred.op).getD 0 0) != 1 then 6
  else 0
theorem mul_kids {o : Int} {s : List UInt8} {n : Int} {ks : List Pred} (h : ¬ (decide (o < 1) || decide (o > 18) || !s == [] && !isOpNamed o || n != 0 && !(o == 1 || o == 2) || !kidsOk o ks.length) = true) (ho : (o == 8) = true) : ∃ a b, ks = [a, b] := by
  have ho : o = 8 := by simpa using ho
  subst ho
  have h2 : kidsOk 8 (ks.length : Int) = true := by
    simp only [Bool.or_eq_true, not_or] at h
    simpa using h.2
  have h3 : ks.length = 2 := by simp [kidsOk] at h2; omega
  match ks, h3 with
  | [a, b], _ => exact ⟨a, b, rfl⟩
variable {E : AEnv} (Z : Sys E)
include Z
theorem r07_node_ev (o : Int) (s : List UInt8) (n : Int) (ks : List Pred) : E.C r07_node [.agg (Pred.cells (.mk o s n ks))] (.one (.int .i64 (nodeE o s n ks))) := by
  have hcal := r07_called_ev Z (.mk o s n ks)
  refine Z.r07_node _ _ ⟨Nat.le_of_ble_eq_true rfl, ?_⟩
  rw [Pred.cells_eq] at *
  generalize hR : nodeE o s n ks = R
  simp only [fn_r07_node, go_sem, Nat.reduceEqDiff, reduceCtorEq, Nat.reduceAdd, Nat.reduceLeDiff, Nat.reduceMul, Nat.reduceLT, Int.reduceToNat, Int.reduceLT, Int.reduceLE, Int.reduceEq, Nat.reduceSub, Pred.op, Pred.name, Pred.n, Pred.kids] at hcal ⊢
  refine call_g (r07_named_ev Z o) ?_
  simp only [go_sem, Nat.reduceEqDiff, reduceCtorEq, Nat.reduceAdd, Nat.reduceLeDiff, Nat.reduceMul, Nat.reduceLT, Int.reduceToNat, Int.reduceLT, Int.reduceLE, Int.reduceEq, Nat.reduceSub]
  intro hlen
  refine call_g (r07_kids_ev Z o _) ?_
  simp only [go_sem, Nat.reduceEqDiff, reduceCtorEq, Nat.reduceAdd, Nat.reduceLeDiff, Nat.reduceMul, Nat.reduceLT, Int.reduceToNat, Int.reduceLT, Int.reduceLE, Int.reduceEq, Nat.reduceSub]
  split
  · rename_i h1; rw [← hR, nodeE, if_pos h1]
  rename_i h1
  refine call_g (r01_In_ev Z n) ?_
  simp only [go_sem, Nat.reduceEqDiff, reduceCtorEq, Nat.reduceAdd, Nat.reduceLeDiff, Nat.reduceMul, Nat.reduceLT, Int.reduceToNat, Int.reduceLT, Int.reduceLE, Int.reduceEq, Nat.reduceSub]
  split
  · rename_i h2; rw [← hR, nodeE, if_neg h1, if_pos h2]
  rename_i h2
  refine call_by hcal ?_
  simp only [go_sem, Nat.reduceEqDiff, reduceCtorEq, Nat.reduceAdd, Nat.reduceLeDiff, Nat.reduceMul, Nat.reduceLT, Int.reduceToNat, Int.reduceLT, Int.reduceLE, Int.reduceEq, Nat.reduceSub]
  split
  · rename_i h3; rw [← hR, nodeE, if_neg h1, if_neg h2, if_pos h3]
  rename_i h3
  by_cases ho : (o == 8) = true
  · obtain ⟨a, b, rfl⟩ := mul_kids h1 ho
    simp only [go_sem, Nat.reduceEqDiff, reduceCtorEq, Nat.reduceAdd, Nat.reduceLeDiff, Nat.reduceMul, Nat.reduceLT, Int.reduceToNat, Int.reduceLT, Int.reduceLE, Int.reduceEq, Nat.reduceSub, ho, Pred.cells_eq a]
    rw [← hR, nodeE, if_neg h1, if_neg h2, if_neg h3, ho]
    simp only [go_sem, Nat.reduceEqDiff, reduceCtorEq, Nat.reduceAdd, Nat.reduceLeDiff, Nat.reduceMul, Nat.reduceLT, Int.reduceToNat, Int.reduceLT, Int.reduceLE, Int.reduceEq, Nat.reduceSub]
    cases (a.op != 1) <;> rfl
  · rw [Bool.not_eq_true] at ho
    cases ks <;> (simp only [go_sem, Nat.reduceEqDiff, reduceCtorEq, Nat.reduceAdd, Nat.reduceLeDiff, Nat.reduceMul, Nat.reduceLT, Int.reduceToNat, Int.reduceLT, Int.reduceLE, Int.reduceEq, Nat.reduceSub, ho, Pred.cells_eq]; rw [← hR, nodeE, if_neg h1, if_neg h2, if_neg h3, ho]; rfl)
end Go.Abs
end
section
set_option linter.unusedSimpArgs false
set_option linter.unusedVariables false
set_option linter.unusedSectionVars false
namespace Go.Abs
/-- the error of a node by itself, as the program computes it -/
def nodeP (o : Int) (s : List UInt8) (n : Int) (ks : List Pred) : Int :=
  if decide (o < 1) || decide (o > 18) then 1
  else if !isOpNamed o && !s == [] || o != 1 && o != 2 && n != 0 || decide ((ks.length : Int) < (kidsOf o).1) || decide ((ks.length : Int) > (kidsOf o).2) then 1
  else if o == 1 && !inRange n || o == 2 && n != 0 && n != 1 then 2
  else if isOpNamed o && (if isCore s = true then (0 : Int) else 3) != 0 && !(o == 3 && s == sV) && !(o == 4 && (s == sTag || s == sVal)) then 3
  else if o == 8 && ((ks.map Pred.op).getD 0 0) != 1 then 6
  else 0
theorem nodeP_rest {o : Int} {s : List UInt8} {n : Int} {ks : List Pred} (h1 : ¬(decide (o < 1) || decide (o > 18)) = true)
    (h2 : ¬(!isOpNamed o && !s == [] || o != 1 && o != 2 && n != 0 || decide ((ks.length : Int) < (kidsOf o).1) || decide ((ks.length : Int) > (kidsOf o).2)) = true) (h3 : ¬(o == 1 && !inRange n || o == 2 && n != 0 && n != 1) = true) :
    nodeP o s n ks = if isOpNamed o && (if isCore s = true then (0 : Int) else 3) != 0 && (!(o == 3 && s == sV) && !(o == 4 && (s == sTag || s == sVal))) then 3 else if o == 8 && ((ks.map Pred.op).getD 0 0) != 1 then 6 else 0 := by
  rw [nodeP, if_neg h1, if_neg h2, if_neg h3, Bool.and_assoc]
theorem kidsOk_eq (o : Int) (m : Nat) : (decide ((m : Int) < (kidsOf o).1) || decide ((m : Int) > (kidsOf o).2)) = !kidsOk o m := by
  unfold kidsOf kidsOk
  split
  · rw [Bool.eq_iff_iff]; simp; omega
  · split
    · rw [Bool.eq_iff_iff]; simp
    · split
      · rw [Bool.eq_iff_iff]; simp; omega
      · rw [Bool.eq_iff_iff]; simp; omega
theorem fin3 {A B : Bool} {R t x : Int} {p : Prop} (hk : R = if A && B then x else t) (hp : t = R → p) : if A = true then (if B = true then x = R else p) else p := by
  cases A <;> cases B <;> simp_all
theorem nodeP_eq (o : Int) (s : List UInt8) (n : Int) (ks : List Pred) : nodeP o s n ks = nodeE o s n ks := by
  unfold nodeP nodeE
  have e2 : (n != 0 && !(o == 1 || o == 2)) = (o != 1 && o != 2 && n != 0) := by
    simp only [bne]; cases (o == 1) <;> cases (o == 2) <;> cases (n == 0) <;> rfl
  have e3 : (decide (n < 0) || decide (n > 1)) = (n != 0 && n != 1) := by
    rw [Bool.eq_iff_iff]; simp; omega
  have e4 : (isOpNamed o && (if isCore s = true then (0 : Int) else 3) != 0 && !(o == 3 && s == sV) && !(o == 4 && (s == sTag || s == sVal))) = !calledOk o s := by
    unfold isOpNamed calledOk
    by_cases h3 : o = 3
    · subst h3; cases isCore s <;> cases (s == sV) <;> simp
    · by_cases h4 : o = 4
      · subst h4; cases isCore s <;> cases (s == sTag || s == sVal) <;> simp
      · by_cases h5 : o = 5
        · subst h5; cases isCore s <;> simp
        · simp [h3, h4, h5]
  rw [e4, e3, e2, Bool.and_comm (!s == []), ← kidsOk_eq, ← Bool.and_assoc]
  cases (decide (o < 1) || decide (o > 18)) <;> simp only [Bool.true_or, Bool.false_or, Bool.false_eq_true, if_true, if_false, Bool.or_assoc]
theorem mul_kidsP {o : Int} {s : List UInt8} {n : Int} {ks : List Pred} (h2 : ¬(!isOpNamed o && !s == [] || o != 1 && o != 2 && n != 0 || decide ((ks.length : Int) < (kidsOf o).1) || decide ((ks.length : Int) > (kidsOf o).2)) = true) (ho : (o == 8) = true) : ∃ a b, ks = [a, b] := by
  have ho : o = 8 := by simpa using ho
  subst ho
  have h3 : ks.length = 2 := by simp [kidsOf] at h2; omega
  match ks, h3 with
  | [a, b], _ => exact ⟨a, b, rfl⟩
set_option maxRecDepth 100000
variable {E : AEnv} (Z : Sys E)
include Z
theorem pred_node_ev' (hG : E.G 0 = some (kws.map .str)) (o : Int) (s : List UInt8) (n : Int) (ks : List Pred) : E.C pred_node [.agg (Pred.cells (.mk o s n ks))] (.one (.int .i64 (nodeP o s n ks))) := by
  refine Z.pred_node _ _ ⟨Nat.le_of_ble_eq_true rfl, ?_⟩
  rw [Pred.cells_eq]
  generalize hR : nodeP o s n ks = R
  simp only [fn_pred_node, go_sem, Nat.reduceEqDiff, reduceCtorEq, Nat.reduceAdd, Nat.reduceLeDiff, Nat.reduceMul, Nat.reduceLT, Int.reduceToNat, Int.reduceLT, Int.reduceLE, Int.reduceEq, Nat.reduceSub, Pred.op, Pred.name, Pred.n, Pred.kids]
  split
  · rename_i h1; rw [← hR, nodeP, if_pos h1]
  rename_i h1
  refine call_by (pred_kids_ev Z o) ?_
  simp only [go_sem, Nat.reduceEqDiff, reduceCtorEq, Nat.reduceAdd, Nat.reduceLeDiff, Nat.reduceMul, Nat.reduceLT, Int.reduceToNat, Int.reduceLT, Int.reduceLE, Int.reduceEq, Nat.reduceSub]
  refine call_by (pred_named_ev Z o) ?_
  simp only [go_sem, Nat.reduceEqDiff, reduceCtorEq, Nat.reduceAdd, Nat.reduceLeDiff, Nat.reduceMul, Nat.reduceLT, Int.reduceToNat, Int.reduceLT, Int.reduceLE, Int.reduceEq, Nat.reduceSub]
  intro hlen1 hlen2
  split
  · rename_i h2; rw [← hR, nodeP, if_neg h1, if_pos h2]
  rename_i h2
  refine call_g (num_In_ev Z n) ?_
  simp only [go_sem, Nat.reduceEqDiff, reduceCtorEq, Nat.reduceAdd, Nat.reduceLeDiff, Nat.reduceMul, Nat.reduceLT, Int.reduceToNat, Int.reduceLT, Int.reduceLE, Int.reduceEq, Nat.reduceSub]
  split
  · rename_i h3; rw [← hR, nodeP, if_neg h1, if_neg h2, if_pos h3]
  rename_i h3
  refine call_by (pred_named_ev Z o) ?_
  simp only [go_sem, Nat.reduceEqDiff, reduceCtorEq, Nat.reduceAdd, Nat.reduceLeDiff, Nat.reduceMul, Nat.reduceLT, Int.reduceToNat, Int.reduceLT, Int.reduceLE, Int.reduceEq, Nat.reduceSub]
  refine call_g (names_Core_ev Z hG s) ?_
  simp only [go_sem, Nat.reduceEqDiff, reduceCtorEq, Nat.reduceAdd, Nat.reduceLeDiff, Nat.reduceMul, Nat.reduceLT, Int.reduceToNat, Int.reduceLT, Int.reduceLE, Int.reduceEq, Nat.reduceSub]
  by_cases ho : (o == 8) = true
  · obtain ⟨a, b, rfl⟩ := mul_kidsP h2 ho
    simp only [go_sem, Nat.reduceEqDiff, reduceCtorEq, Nat.reduceAdd, Nat.reduceLeDiff, Nat.reduceMul, Nat.reduceLT, Int.reduceToNat, Int.reduceLT, Int.reduceLE, Int.reduceEq, Nat.reduceSub, ho, Pred.cells_eq a]
    have key := nodeP_rest h1 h2 h3
    rw [hR, ho] at key
    simp only [go_sem, Nat.reduceEqDiff, reduceCtorEq, Nat.reduceAdd, Nat.reduceLeDiff, Nat.reduceMul, Nat.reduceLT, Int.reduceToNat, Int.reduceLT, Int.reduceLE, Int.reduceEq, Nat.reduceSub, sV, sTag, sVal] at key
    refine fin3 key fun h => ?_
    cases hC : (a.op != 1) <;> simp_all
  · rw [Bool.not_eq_true] at ho
    have key := nodeP_rest h1 h2 h3
    rw [hR, ho] at key
    simp only [go_sem, Nat.reduceEqDiff, reduceCtorEq, Nat.reduceAdd, Nat.reduceLeDiff, Nat.reduceMul, Nat.reduceLT, Int.reduceToNat, Int.reduceLT, Int.reduceLE, Int.reduceEq, Nat.reduceSub, sV, sTag, sVal] at key
    cases ks <;> (simp only [go_sem, Nat.reduceEqDiff, reduceCtorEq, Nat.reduceAdd, Nat.reduceLeDiff, Nat.reduceMul, Nat.reduceLT, Int.reduceToNat, Int.reduceLT, Int.reduceLE, Int.reduceEq, Nat.reduceSub, ho, Pred.cells_eq]; exact fin3 key fun h => h)
theorem pred_node_ev (hG : E.G 0 = some (kws.map .str)) (o : Int) (s : List UInt8) (n : Int) (ks : List Pred) : E.C pred_node [.agg (Pred.cells (.mk o s n ks))] (.one (.int .i64 (nodeE o s n ks))) := nodeP_eq o s n ks ▸ pred_node_ev' Z hG o s n ks
end Go.Abs
end
section
set_option linter.unusedSimpArgs false
set_option linter.unusedVariables false
set_option linter.unusedSectionVars false
namespace Go.Abs
namespace Pred
/-- the first error of the nodes, each before its kids -/
def formE : Pred → Int
  | .mk o s n ks => if nodeE o s n ks != 0 then nodeE o s n ks else formEs ks
where formEs : List Pred → Int
  | [] => 0
  | k :: ks => if formE k != 0 then formE k else formEs ks
theorem formEs_mid {a b : List Pred} {k : Pred} (ha : ∀ x ∈ a, formE x = 0) : formE.formEs (a ++ k :: b) = if formE k != 0 then formE k else formE.formEs b := by
  induction a with
  | nil => rfl
  | cons x a ih =>
    rw [List.cons_append, formE.formEs, ha x (by simp)]
    exact ih fun y hy => ha y (by simp [hy])
theorem formEs_all {a : List Pred} (ha : ∀ x ∈ a, formE x = 0) : formE.formEs a = 0 := by
  induction a with
  | nil => rfl
  | cons x a ih =>
    rw [formE.formEs, ha x (by simp)]
    exact ih fun y hy => ha y (by simp [hy])
theorem formE_eq (o : Int) (s : List UInt8) (n : Int) (ks : List Pred) : formE (.mk o s n ks) = if nodeE o s n ks != 0 then nodeE o s n ks else formE.formEs ks := by rw [formE]
/-- the error of a predicate -/
def checkE (p : Pred) : Int := if decide (nodes p > 400) then 7 else if decide (depth p > 40) then 8 else formE p
end Pred
theorem app_all {α : Type} {P : α → Prop} {a : List α} {k : α} (ha : ∀ x ∈ a, P x) (hk : P k) : ∀ x ∈ a ++ [k], P x := by
  intro x hx; rcases List.mem_append.1 hx with h | h
  · exact ha x h
  · simp at h; subst h; exact hk
theorem getD_midP {ks a r : List Pred} {k : Pred} (hl : ks = a ++ k :: r) : (ks.map Pred.cells).getD a.length [] = Pred.cells k := by rw [hl]; exact getD_mid _ _ _ _ _
variable {E : AEnv} (Z : Sys E)
include Z
theorem r07_form_ev (p : Pred) : E.C r07_form [.agg (Pred.cells p)] (.one (.int .i64 p.formE)) := by
  induction p using Pred.ind with
  | h o s n ks ih =>
  have hn := r07_node_ev Z o s n ks
  refine Z.r07_form _ _ ⟨Nat.le_of_ble_eq_true rfl, ?_⟩
  rw [Pred.cells_eq] at *
  generalize hR : Pred.formE (.mk o s n ks) = R
  rw [Pred.formE_eq] at hR
  simp only [fn_r07_form, go_sem, Nat.reduceEqDiff, reduceCtorEq, Nat.reduceAdd, Nat.reduceLeDiff, Nat.reduceMul, Nat.reduceLT, Int.reduceToNat, Int.reduceLT, Int.reduceLE, Int.reduceEq, Nat.reduceSub, Pred.op, Pred.name, Pred.n, Pred.kids] at hn ⊢
  refine call_by hn ?_
  simp only [go_sem, Nat.reduceEqDiff, reduceCtorEq, Nat.reduceAdd, Nat.reduceLeDiff, Nat.reduceMul, Nat.reduceLT, Int.reduceToNat, Int.reduceLT, Int.reduceLE, Int.reduceEq, Nat.reduceSub]
  cases h1 : (nodeE o s n ks != 0) with
  | true => simp only [h1, go_sem, Nat.reduceEqDiff, reduceCtorEq, Nat.reduceAdd, Nat.reduceLeDiff, Nat.reduceMul, Nat.reduceLT, Int.reduceToNat, Int.reduceLT, Int.reduceLE, Int.reduceEq, Nat.reduceSub] at hR ⊢; exact hR
  | false =>
  simp only [h1, go_sem, Nat.reduceEqDiff, reduceCtorEq, Nat.reduceAdd, Nat.reduceLeDiff, Nat.reduceMul, Nat.reduceLT, Int.reduceToNat, Int.reduceLT, Int.reduceLE, Int.reduceEq, Nat.reduceSub] at hR ⊢
  intro hlen
  refine loop_list ks (fun done => ∀ x ∈ done, x.formE = 0) (fun done rest => ⟨[(15, .d (.int .i64 done.length)), (14, .d (.int .i64 ks.length)), (13, .d (.lst (ks.map Pred.cells)))], [], []⟩) ?_ (by simp) ?_ ?_
  · exact Ent_plain (by simp only [go_sem, Nat.reduceEqDiff, reduceCtorEq, Nat.reduceAdd, Nat.reduceLeDiff, Nat.reduceMul, Nat.reduceLT, Int.reduceToNat, Int.reduceLT, Int.reduceLE, Int.reduceEq, Nat.reduceSub])
  · intro done k r hl hI
    have hk' := ih k (by rw [hl]; simp)
    have hlt := lt_mid hl
    have hw : IntKind.i64.wrap ((done.length : Int) + 1) = ((done.length + 1 : Nat) : Int) := wrap_succ (by omega)
    simp only [fn_r07_form_L1, go_sem, Nat.reduceEqDiff, reduceCtorEq, Nat.reduceAdd, Nat.reduceLeDiff, Nat.reduceMul, Nat.reduceLT, Int.reduceToNat, Int.reduceLT, Int.reduceLE, Int.reduceEq, Nat.reduceSub, hlt, getD_midP hl]
    refine call_by hk' ?_
    rw [hl, Pred.formEs_mid hI] at hR
    cases h2 : (k.formE != 0) with
    | true => simp only [h2, go_sem, Nat.reduceEqDiff, reduceCtorEq, Nat.reduceAdd, Nat.reduceLeDiff, Nat.reduceMul, Nat.reduceLT, Int.reduceToNat, Int.reduceLT, Int.reduceLE, Int.reduceEq, Nat.reduceSub] at hR ⊢; exact hR
    | false =>
      simp only [go_sem, Nat.reduceEqDiff, reduceCtorEq, Nat.reduceAdd, Nat.reduceLeDiff, Nat.reduceMul, Nat.reduceLT, Int.reduceToNat, Int.reduceLT, Int.reduceLE, Int.reduceEq, Nat.reduceSub, h2, hw, List.length_append]
      exact ⟨Ent_plain (by simp only [go_sem, Nat.reduceEqDiff, reduceCtorEq, Nat.reduceAdd, Nat.reduceLeDiff, Nat.reduceMul, Nat.reduceLT, Int.reduceToNat, Int.reduceLT, Int.reduceLE, Int.reduceEq, Nat.reduceSub]), app_all hI (by simpa using h2)⟩
  · intro hI
    rw [Pred.formEs_all hI] at hR
    simp only [fn_r07_form_L1, go_sem, Nat.reduceEqDiff, reduceCtorEq, Nat.reduceAdd, Nat.reduceLeDiff, Nat.reduceMul, Nat.reduceLT, Int.reduceToNat, Int.reduceLT, Int.reduceLE, Int.reduceEq, Nat.reduceSub, hR]
theorem r07_Check_ev (p : Pred) : E.C r07_Check [.agg (Pred.cells p)] (.one (.int .i64 p.checkE)) := by
  have h1 := r07_Nodes_ev Z p
  have h2 := r07_Depth_ev Z p
  have h3 := r07_form_ev Z p
  refine Z.r07_Check _ _ ⟨Nat.le_of_ble_eq_true rfl, ?_⟩
  generalize hR : Pred.checkE p = R
  unfold Pred.checkE at hR
  rw [Pred.cells_eq] at *
  simp only [fn_r07_Check, go_sem, Nat.reduceEqDiff, reduceCtorEq, Nat.reduceAdd, Nat.reduceLeDiff, Nat.reduceMul, Nat.reduceLT, Int.reduceToNat, Int.reduceLT, Int.reduceLE, Int.reduceEq, Nat.reduceSub]
  refine call_by h1 ?_
  simp only [go_sem, Nat.reduceEqDiff, reduceCtorEq, Nat.reduceAdd, Nat.reduceLeDiff, Nat.reduceMul, Nat.reduceLT, Int.reduceToNat, Int.reduceLT, Int.reduceLE, Int.reduceEq, Nat.reduceSub]
  split
  · rename_i h; rw [if_pos h] at hR; exact hR
  rename_i h; rw [if_neg h] at hR
  refine call_by h2 ?_
  simp only [go_sem, Nat.reduceEqDiff, reduceCtorEq, Nat.reduceAdd, Nat.reduceLeDiff, Nat.reduceMul, Nat.reduceLT, Int.reduceToNat, Int.reduceLT, Int.reduceLE, Int.reduceEq, Nat.reduceSub]
  split
  · rename_i h; rw [if_pos h] at hR; exact hR
  rename_i h; rw [if_neg h] at hR
  refine call_by h3 ?_
  simp only [go_sem, Nat.reduceEqDiff, reduceCtorEq, Nat.reduceAdd, Nat.reduceLeDiff, Nat.reduceMul, Nat.reduceLT, Int.reduceToNat, Int.reduceLT, Int.reduceLE, Int.reduceEq, Nat.reduceSub, hR]
end Go.Abs
end
section
set_option linter.unusedSimpArgs false
set_option linter.unusedVariables false
set_option linter.unusedSectionVars false
namespace Go.Abs
namespace Pred
/-- the nodes, each before its kids' -/
def pre : Pred → List Pred
  | .mk o s n ks => .mk o s n ks :: pres ks
where pres : List Pred → List Pred
  | [] => []
  | k :: ks => pre k ++ pres ks
theorem pre_eq (o : Int) (s : List UInt8) (n : Int) (ks : List Pred) : pre (.mk o s n ks) = .mk o s n ks :: pre.pres ks := by rw [pre]
theorem pres_app (a b : List Pred) : pre.pres (a ++ b) = pre.pres a ++ pre.pres b := by
  induction a with
  | nil => rfl
  | cons k a ih => simp [pre.pres, ih]
def err (p : Pred) : Int := nodeE p.op p.name p.n p.kids
def first : List Pred → Int
  | [] => 0
  | p :: l => if err p != 0 then err p else first l
theorem first_app (a b : List Pred) : first (a ++ b) = if first a != 0 then first a else first b := by
  induction a with
  | nil => rfl
  | cons k a ih =>
    by_cases h : (err k != 0) = true
    · have e1 : first (k :: a) = err k := by rw [first, if_pos h]
      have e2 : first (k :: (a ++ b)) = err k := by rw [first, if_pos h]
      simp only [List.cons_append, e1, e2, h, if_true]
    · have e1 : first (k :: a) = first a := by rw [first, if_neg h]
      have e2 : first (k :: (a ++ b)) = first (a ++ b) := by rw [first, if_neg h]
      simp only [List.cons_append, e1, e2, ih]
theorem formE_first (p : Pred) : formE p = first (pre p) := by
  induction p using Pred.ind with
  | h o s n ks ih =>
  rw [formE_eq, pre_eq, first]
  have : formE.formEs ks = first (pre.pres ks) := by
    induction ks with
    | nil => rfl
    | cons k ks ih2 =>
      rw [formE.formEs, pre.pres, first_app, ih k (by simp), ih2 fun x hx => ih x (by simp [hx])]
  rw [this]; rfl
theorem first_mid {a b : List Pred} {k : Pred} (ha : ∀ x ∈ a, err x = 0) : first (a ++ k :: b) = if err k != 0 then err k else first b := by
  induction a with
  | nil => rfl
  | cons x a ih =>
    rw [List.cons_append, first, ha x (by simp)]
    exact ih fun y hy => ha y (by simp [hy])
theorem first_all {a : List Pred} (ha : ∀ x ∈ a, err x = 0) : first a = 0 := by
  induction a with
  | nil => rfl
  | cons x a ih =>
    rw [first, ha x (by simp)]
    exact ih fun y hy => ha y (by simp [hy])
end Pred
def yields (l : List Pred) : List (List CV) := l.map fun q => [.agg (Pred.cells q)]
theorem yields_mid {l : List Pred} {a b : List (List CV)} {x : List CV} (h : yields l = a ++ x :: b) : ∃ a' p b', l = a' ++ p :: b' ∧ a = yields a' ∧ x = [.agg (Pred.cells p)] := by
  obtain ⟨a', r, h1, h2, h3⟩ := List.map_eq_append_iff.1 h
  obtain ⟨p, b', h4, h5, h6⟩ := List.map_eq_cons_iff.1 h3
  exact ⟨a', p, b', by rw [h1, h4], h2.symm, h5.symm⟩
theorem cells_inj : ∀ (p q : Pred), Pred.cells p = Pred.cells q → p = q := by
  intro p
  induction p using Pred.ind with
  | h o s n ks ih =>
  intro q h
  obtain ⟨o', s', n', ks'⟩ := q
  rw [Pred.cells_eq, Pred.cells_eq] at h
  simp only [Pred.op, Pred.name, Pred.n, Pred.kids, List.cons.injEq, D.int.injEq, D.str.injEq, D.lst.injEq, true_and, and_true] at h
  obtain ⟨rfl, rfl, rfl, h4⟩ := h
  have : ks = ks' := by
    induction ks generalizing ks' with
    | nil => cases ks' with | nil => rfl | cons _ _ => cases h4
    | cons k ks ih2 =>
      cases ks' with
      | nil => cases h4
      | cons k' ks' =>
        simp only [List.map_cons, List.cons.injEq] at h4
        rw [ih k (by simp) k' h4.1, ih2 (fun x hx => ih x (by simp [hx])) ks' h4.2]
  rw [this]
theorem yields_inj {a b : List Pred} (h : yields a = yields b) : a = b := by
  induction a generalizing b with
  | nil => cases b with | nil => rfl | cons _ _ => cases h
  | cons x a ih =>
    cases b with
    | nil => cases h
    | cons y b =>
      simp only [yields, List.map_cons, List.cons.injEq, CV.agg.injEq, and_true] at h
      rw [cells_inj x y h.1, ih h.2]
variable {E : AEnv} (Z : Sys E)
include Z
theorem pred_before_ev (p : Pred) : E.C pred_before [.agg (Pred.cells p)] (.one (.clo pred_before_1 [.ref (Pred.cells p)])) := by
  refine Z.pred_before _ _ ⟨Nat.le_of_ble_eq_true rfl, ?_⟩
  rw [Pred.cells_eq]
  simp only [fn_pred_before, go_sem, Nat.reduceEqDiff, reduceCtorEq, Nat.reduceAdd, Nat.reduceLeDiff, Nat.reduceMul, Nat.reduceLT, Int.reduceToNat, Int.reduceLT, Int.reduceLE, Int.reduceEq, Nat.reduceSub]
  rfl
theorem pred_Check_ev (hG : E.G 0 = some (kws.map .str)) (hIt : ∀ p, E.It pred_before_1 [.ref (Pred.cells p)] (yields p.pre)) (p : Pred) : E.C pred_Check [.agg (Pred.cells p)] (.one (.int .i64 p.checkE)) := by
  have h1 := pred_Nodes_ev Z p
  have h2 := pred_Depth_ev Z p
  have h3 := pred_before_ev Z p
  have hit := hIt p
  refine Z.pred_Check _ _ ⟨Nat.le_of_ble_eq_true rfl, ?_⟩
  generalize hR : Pred.checkE p = R
  unfold Pred.checkE at hR
  rw [Pred.formE_first] at hR
  rw [Pred.cells_eq] at *
  simp only [fn_pred_Check, go_sem, Nat.reduceEqDiff, reduceCtorEq, Nat.reduceAdd, Nat.reduceLeDiff, Nat.reduceMul, Nat.reduceLT, Int.reduceToNat, Int.reduceLT, Int.reduceLE, Int.reduceEq, Nat.reduceSub]
  refine call_by h1 ?_
  simp only [go_sem, Nat.reduceEqDiff, reduceCtorEq, Nat.reduceAdd, Nat.reduceLeDiff, Nat.reduceMul, Nat.reduceLT, Int.reduceToNat, Int.reduceLT, Int.reduceLE, Int.reduceEq, Nat.reduceSub]
  split
  · rename_i h; rw [if_pos h] at hR; simp only [go_sem, Nat.reduceEqDiff, reduceCtorEq, Nat.reduceAdd, Nat.reduceLeDiff, Nat.reduceMul, Nat.reduceLT, Int.reduceToNat, Int.reduceLT, Int.reduceLE, Int.reduceEq, Nat.reduceSub, hR]
  rename_i h; rw [if_neg h] at hR
  refine call_by h2 ?_
  simp only [go_sem, Nat.reduceEqDiff, reduceCtorEq, Nat.reduceAdd, Nat.reduceLeDiff, Nat.reduceMul, Nat.reduceLT, Int.reduceToNat, Int.reduceLT, Int.reduceLE, Int.reduceEq, Nat.reduceSub]
  split
  · rename_i h; rw [if_pos h] at hR; simp only [go_sem, Nat.reduceEqDiff, reduceCtorEq, Nat.reduceAdd, Nat.reduceLeDiff, Nat.reduceMul, Nat.reduceLT, Int.reduceToNat, Int.reduceLT, Int.reduceLE, Int.reduceEq, Nat.reduceSub, hR]
  rename_i h; rw [if_neg h] at hR
  refine call_by h3 ?_
  simp only [go_sem, Nat.reduceEqDiff, reduceCtorEq, Nat.reduceAdd, Nat.reduceLeDiff, Nat.reduceMul, Nat.reduceLT, Int.reduceToNat, Int.reduceLT, Int.reduceLE, Int.reduceEq, Nat.reduceSub]
  refine rng_by hit (fun a => ∃ l, a = yields l ∧ ∀ x ∈ l, Pred.err x = 0) (fun _ => ⟨[(2, .ptr 2 0)], [(2, [.d (.int .i64 0)])], []⟩) ?_ ⟨[], rfl, by simp⟩ ?_ ?_
  · exact Ent_plain (by simp only [go_sem, Nat.reduceEqDiff, reduceCtorEq, Nat.reduceAdd, Nat.reduceLeDiff, Nat.reduceMul, Nat.reduceLT, Int.reduceToNat, Int.reduceLT, Int.reduceLE, Int.reduceEq, Nat.reduceSub, Option.isSome_some])
  · intro a x b hx ⟨l, hl, hI⟩
    obtain ⟨a', q, b', e1, rfl, rfl⟩ := yields_mid hx
    obtain rfl := yields_inj hl
    refine ⟨rfl, ?_⟩
    obtain ⟨o, s, n, ks⟩ := q
    have hn := pred_node_ev Z hG o s n ks
    rw [Pred.cells_eq] at hn ⊢
    rw [e1, Pred.first_mid hI] at hR
    simp only [fn_pred_Check_A1, fn_pred_Check_B1, go_sem, Nat.reduceEqDiff, reduceCtorEq, Nat.reduceAdd, Nat.reduceLeDiff, Nat.reduceMul, Nat.reduceLT, Int.reduceToNat, Int.reduceLT, Int.reduceLE, Int.reduceEq, Nat.reduceSub, Pred.op, Pred.name, Pred.n, Pred.kids] at hn ⊢
    refine call_by hn ?_
    simp only [go_sem, Nat.reduceEqDiff, reduceCtorEq, Nat.reduceAdd, Nat.reduceLeDiff, Nat.reduceMul, Nat.reduceLT, Int.reduceToNat, Int.reduceLT, Int.reduceLE, Int.reduceEq, Nat.reduceSub]
    have he : Pred.err (.mk o s n ks) = nodeE o s n ks := rfl
    rw [he] at hR
    cases h2 : (nodeE o s n ks != 0) with
    | true => simp only [h2, go_sem, Nat.reduceEqDiff, reduceCtorEq, Nat.reduceAdd, Nat.reduceLeDiff, Nat.reduceMul, Nat.reduceLT, Int.reduceToNat, Int.reduceLT, Int.reduceLE, Int.reduceEq, Nat.reduceSub] at hR ⊢; simp only [go_sem, Nat.reduceEqDiff, reduceCtorEq, Nat.reduceAdd, Nat.reduceLeDiff, Nat.reduceMul, Nat.reduceLT, Int.reduceToNat, Int.reduceLT, Int.reduceLE, Int.reduceEq, Nat.reduceSub, hR]
    | false =>
      simp only [go_sem, Nat.reduceEqDiff, reduceCtorEq, Nat.reduceAdd, Nat.reduceLeDiff, Nat.reduceMul, Nat.reduceLT, Int.reduceToNat, Int.reduceLT, Int.reduceLE, Int.reduceEq, Nat.reduceSub]
      exact ⟨Ent_plain (by simp only [go_sem, Nat.reduceEqDiff, reduceCtorEq, Nat.reduceAdd, Nat.reduceLeDiff, Nat.reduceMul, Nat.reduceLT, Int.reduceToNat, Int.reduceLT, Int.reduceLE, Int.reduceEq, Nat.reduceSub, Option.isSome_some]), a' ++ [.mk o s n ks], by simp [yields, Pred.cells_eq, Pred.op, Pred.name, Pred.n, Pred.kids], app_all hI (by rw [he]; simpa using h2)⟩
  · rintro ⟨l, hl, hI⟩
    obtain rfl := yields_inj hl
    rw [Pred.first_all hI] at hR
    simp only [go_sem, Nat.reduceEqDiff, reduceCtorEq, Nat.reduceAdd, Nat.reduceLeDiff, Nat.reduceMul, Nat.reduceLT, Int.reduceToNat, Int.reduceLT, Int.reduceLE, Int.reduceEq, Nat.reduceSub, hR]
end Go.Abs
end
section
set_option linter.unusedSimpArgs false
set_option linter.unusedVariables false
set_option linter.unusedSectionVars false
namespace Go.Abs
open Go.RowKit
variable {T : Nat → Option Ty} {P : Program} {G : Nat → Option (List D)}
variable {l : Nat} {J : List (List CV) → World → Safe → Prop} {Jx : World → Safe → Prop}

theorem fn_parts {fn : Func} {fa : FnA} (h : trFn T fn = some fa) : (fn.name == "runtime.NumGoroutine") = false ∧ ∃ cd, fn.body = some cd ∧ tr T fn.ntmps cd = some fa.ac ∧ fn.results.toList.mapM (trRes T) = some fa.rs ∧ fn.ntmps = fa.n := by
  simp only [trFn] at h
  split at h
  · cases h
  · rename_i hname
    simp only [Option.bind_eq_bind, Option.pure_def, Option.bind_eq_some_iff, Option.some.injEq] at h
    obtain ⟨cd, hcd, ac, hac, rs, hrs, rfl⟩ := h
    exact ⟨by simpa using hname, cd, hcd, hac, hrs, rfl⟩

/-- the tail of a text where yield has said no: slot k is set to false, and the function returns -/
theorem stop_tail (hT : ∀ t ty, T t = some ty → chkTy P t ty = true) {fn : Func} {N k : Nat} {cd : Code} {W1 : World} {S1 : Safe} {st : St} {tmps : Array Value} {w : World} {S : Safe} {ρ : Rho} (hrs : fn.results.toList.mapM (trRes T) = some [.t k]) (h : tr T N cd = some (.seq (.reg [(none, .mv k (.c (.d (.bool false))))]) .ret))
    (hs : Sim (baseC P W1 S1 N (fun _ => none)) st tmps w S ρ) (hm : st.mem = []) {R : Ending → World → Prop} (hR : ∀ w' S', Grows W1 S1 w' S' → R (.returned (.bool false)) w') {Q : Exit → Act → World → Prop} (hQ : ∀ a w, LeavesInM Fence.wide 0 P fn a.tmps R a.defers .returning w → Q .ret a w) {m : Nat} :
    cd.wpIn (FR none) m P Q ⟨tmps, []⟩ w := by
  obtain ⟨x, y, rfl, hx, hy⟩ := tr_seq h
  obtain rfl := tr_ret hy
  refine wpIn_seq (reg_step (K := fun s => getS s.slots k = .d (.bool false) ∧ s.mem = []) hT hx hs ?_ ?_)
  · simp only [go_sem, Nat.reduceEqDiff, reduceCtorEq, Nat.reduceAdd, Nat.reduceLeDiff, Nat.reduceMul, Nat.reduceLT, Int.reduceToNat, Int.reduceLT, Int.reduceLE, Int.reduceEq, Nat.reduceSub, hm]
  · rintro st' tm w' S' ρ' hs' ⟨h1, h2⟩
    refine wpIn_ret (hQ _ _ ⟨_, ret_bool hT hrs hs' h2 h1, hR _ _ hs'.grows⟩)

/-- the loop over the kids -/
theorem visit_loop (hT : ∀ t ty, T t = some ty → chkTy P t ty = true) {L : List Pred} (hY : YCtx P G l (yields L) J Jx) {fn : Func} (hrs : fn.results.toList.mapM (trRes T) = some [.t 4]) (hN : fn.ntmps = 23) {ks : List Pred} (hlen : (ks.length : Int) ≤ 9223372036854775807)
    (ih : ∀ k ∈ ks, EvY P (yields L) J Jx pred_visit [CV.agg k.cells, CV.one (D.yl l)] (yields k.pre)) {body : Code} (hbody : tr T fn.ntmps body = some fn_pred_visit_L1) {a b : List (List CV)} (hxs : yields L = a ++ yields (Pred.pre.pres ks) ++ b) {W0 : World} {S0 : Safe}
    {RR : Ending → World → Prop} (hRR : ∀ w' S', Jx w' S' → RR (.returned (.bool false)) w') {R : Exit → Act → World → Prop} (hstop : ∀ a w, LeavesInM Fence.wide 0 P fn a.tmps RR a.defers .returning w → R .ret a w)
    (hexit : ∀ W' S3 st tm w S' ρ, J (a ++ yields (Pred.pre.pres ks)) W' S3 → Keeps W0 S0 W' S3 → Sim (baseC P W' S3 fn.ntmps G) st tm w S' ρ → st.mem = [] → R (.exit 0) ⟨tm, []⟩ w) :
    ∀ (rest done : List Pred), ks = done ++ rest → ∀ (W' : World) (S3 : Safe) (tm : Array Value) (w : World) (S' : Safe) (ρ : Rho), J (a ++ yields (Pred.pre.pres done)) W' S3 → Keeps W0 S0 W' S3 →
      Sim (baseC P W' S3 fn.ntmps G) (pureSt [(14, .int .i64 done.length), (13, .int .i64 ks.length), (12, .lst (ks.map Pred.cells)), (1, .yl l)]) tm w S' ρ →
      Inside (FR none) 0 P body R ⟨tm, []⟩ w := by
  unfold fn_pred_visit_L1 at hbody
  obtain ⟨z0, z1, rfl, k0, k1⟩ := tr_seq hbody
  obtain ⟨z2, z3, rfl, k2, k3⟩ := tr_seq k1
  obtain ⟨z4, z5, rfl, k4, k5⟩ := tr_seq k3
  obtain ⟨zg, zy, zz, rfl, kg, ky, kz⟩ := tr_cond k2
  obtain rfl := tr_skip ky
  obtain rfl := tr_exit kz
  obtain ⟨z6, rfl, k6⟩ := tr_block k4
  obtain ⟨z7, z8, rfl, k7, k8⟩ := tr_seq k6
  obtain ⟨z9, z10, rfl, k9, k10⟩ := tr_seq k8
  obtain ⟨vg, vy, vz, rfl, vk, vky, vkz⟩ := tr_cond k10
  obtain rfl := tr_skip vkz
  have hd : ∀ d, d < 23 → d < fn.ntmps := fun d hd => by rw [hN]; exact hd
  intro rest
  induction rest with
  | nil =>
    intro done hdone W' S3 tm w S' ρ hJ' hk' hs
    have hdone : ks = done := by simpa using hdone
    subst hdone
    refine inside_round (wpIn_seq (reg_step (K := fun z => getS z.slots 15 = .d (.bool false) ∧ z.mem = []) hT k0 hs ?_ ?_))
    · simp only [go_sem, Nat.reduceEqDiff, reduceCtorEq, Nat.reduceAdd, Nat.reduceLeDiff, Nat.reduceMul, Nat.reduceLT, Int.reduceToNat, Int.reduceLT, Int.reduceLE, Int.reduceEq, Nat.reduceSub, pureSt]
    rintro st1 tm1 w1 S1 ρ1 hs1 ⟨h15, hm⟩
    refine wpIn_seq (cond_step kg hs1 (b := false) (by simp [ev, ev0, h15, AV.strip]) (by simp [gd, ev0, h15, AV.grd]) (fun h => by cases h) (fun _ => wpIn_exit ?_))
    exact hexit _ _ _ _ _ _ _ hJ' hk' hs1 hm
  | cons k rest ihr =>
    intro done hdone W' S3 tm w S' ρ hJ' hk' hs
    have hlt := lt_mid hdone
    have hw : IntKind.i64.wrap ((done.length : Int) + 1) = ((done.length + 1 : Nat) : Int) := wrap_succ (by omega)
    refine inside_round (wpIn_seq (reg_step (K := fun z => z = ⟨[(15, .d (.bool true)), (14, .d (.int .i64 done.length)), (13, .d (.int .i64 ks.length)), (12, .d (.lst (ks.map Pred.cells))), (1, .d (.yl l))], [], []⟩) hT k0 hs ?_ ?_))
    · simp only [go_sem, Nat.reduceEqDiff, reduceCtorEq, Nat.reduceAdd, Nat.reduceLeDiff, Nat.reduceMul, Nat.reduceLT, Int.reduceToNat, Int.reduceLT, Int.reduceLE, Int.reduceEq, Nat.reduceSub, pureSt, hlt]
    rintro _ tm1 w1 S1 ρ1 hs1 rfl
    refine wpIn_seq (cond_step kg hs1 (b := true) rfl rfl (fun _ => wpIn_skip ?_) (fun h => by cases h))
    refine wpIn_seq (wpIn_block (wpIn_seq (reg_step (K := fun z => ∃ sl mm, z = ⟨(6, .ptr 6 0) :: sl, (6, (Pred.cells k).map .d) :: mm, []⟩ ∧ getS sl 14 = .d (.int .i64 done.length) ∧ getS sl 13 = .d (.int .i64 ks.length) ∧ getS sl 12 = .d (.lst (ks.map Pred.cells)) ∧ getS sl 1 = .d (.yl l)) hT k7 hs1 ?_ ?_)))
    · simp only [go_sem, Nat.reduceEqDiff, reduceCtorEq, Nat.reduceAdd, Nat.reduceLeDiff, Nat.reduceMul, Nat.reduceLT, Int.reduceToNat, Int.reduceLT, Int.reduceLE, Int.reduceEq, Nat.reduceSub, hlt, getD_midP hdone]
      exact ⟨_, _, rfl, rfl, rfl, rfl, rfl⟩
    rintro _ tm2 w2 S2 ρ2 hs2 ⟨sl, mm, rfl, h14, h13, h12, h1⟩
    refine wpIn_seq ?_
    obtain ⟨id, ops, rfl, hops, hok⟩ := tr_reg k9
    obtain ⟨hlen', hget⟩ := trOps_get hops
    have hsz : ops.size = 4 := by simpa using hlen'.symm
    refine wpIn_region ?_
    have hr : List.range ops.size = List.range' 0 2 ++ [2, 3] := by rw [hsz]; rfl
    rw [hr]
    refine ops_pre (c := baseC P W' S3 fn.ntmps G) (E := quietE G) rfl (fun _ _ _ h => h.elim) hT hops (fun o ho d hd => ⟨okDst_D hok ho hd, rfl⟩) (FR.fw none) 0 _
      (K := fun z => z = ⟨(19, .d (.yl l)) :: (18, .agg ((Pred.cells k).map .d)) :: (6, .ptr 6 0) :: sl, (6, (Pred.cells k).map .d) :: mm, []⟩) [2, 3] 2 0 (by omega) ?_ hs2 ?_
    case refine_2 =>
      rw [Pred.cells_eq]
      simp only [go_sem, Nat.reduceEqDiff, reduceCtorEq, Nat.reduceAdd, Nat.reduceLeDiff, Nat.reduceMul, Nat.reduceLT, Int.reduceToNat, Int.reduceLT, Int.reduceLE, Int.reduceEq, Nat.reduceSub, h1]
    rintro ⟨tm3, ds3⟩ w3 ⟨hds, st3, S4, ρ3, hs3, rfl⟩
    simp only at hds
    subst hds
    obtain ⟨gi2, i2, hl2, htg2, hti2⟩ := hget 2 ops[2] (by simp [hsz])
    obtain ⟨gi3, i3, hl3, htg3, hti3⟩ := hget 3 ops[3] (by simp [hsz])
    simp only [go_sem, Nat.reduceEqDiff, reduceCtorEq, Nat.reduceAdd, Nat.reduceLeDiff, Nat.reduceMul, Nat.reduceLT, Int.reduceToNat, Int.reduceLT, Int.reduceLE, Int.reduceEq, Nat.reduceSub, Prod.mk.injEq] at hl2 hl3
    obtain ⟨rfl, rfl⟩ := hl2
    rw [wpOpsIn_cons]
    have h4 : 3 + 1 ≤ ops.size := by omega
    have hkm : k ∈ ks := by rw [hdone]; simp
    have hys : yields (Pred.pre.pres ks) = yields (Pred.pre.pres done) ++ (yields k.pre ++ yields (Pred.pre.pres rest)) := by
      rw [hdone, Pred.pres_app, Pred.pre.pres]; simp [yields]
    refine wpOpIn_plain (ops := ops) (k := 2) (o := ops[2]) (by simp [hsz]) htg2 (evy_op hY (a := a ++ yields (Pred.pre.pres done)) (ys := yields k.pre) (b := yields (Pred.pre.pres rest) ++ b) (by rw [hxs, hys]; simp) hJ' hs3 hti2 (hd _ (by omega)) rfl rfl rfl
      (cvs := [.agg (Pred.cells k), .one (.yl l)]) ?_ (ih k hkm) [(14, .int .i64 done.length), (13, .int .i64 ks.length), (12, .lst (ks.map Pred.cells)), (1, .yl l)] ?_ ?_ ?_)
    · simp only [go_sem, Nat.reduceEqDiff, reduceCtorEq, Nat.reduceAdd, Nat.reduceLeDiff, Nat.reduceMul, Nat.reduceLT, Int.reduceToNat, Int.reduceLT, Int.reduceLE, Int.reduceEq, Nat.reduceSub]
    · intro q hq
      simp only [List.mem_cons, List.not_mem_nil, or_false] at hq
      rcases hq with rfl | rfl | rfl | rfl <;> simp only [go_sem, Nat.reduceEqDiff, reduceCtorEq, Nat.reduceAdd, Nat.reduceLeDiff, Nat.reduceMul, Nat.reduceLT, Int.reduceToNat, Int.reduceLT, Int.reduceLE, Int.reduceEq, Nat.reduceSub, h14, h13, h12, h1]
    rotate_left
    · -- it has said no
      intro W8 S8 ρ8 hx8 hs8
      refine ops_pre (c := baseC P W8 S8 fn.ntmps fun _ => none) (E := quietE fun _ => none) rfl (fun _ _ _ h => h.elim) hT hops (fun o ho d hd => ⟨okDst_D hok ho hd, rfl⟩) (FR.fw none) 0 _
        (K := fun z => getS z.slots 21 = .d (.bool true) ∧ z.mem = []) [] 1 3 h4 ?_ hs8 ?_
      case refine_2 => simp only [go_sem, Nat.reduceEqDiff, reduceCtorEq, Nat.reduceAdd, Nat.reduceLeDiff, Nat.reduceMul, Nat.reduceLT, Int.reduceToNat, Int.reduceLT, Int.reduceLE, Int.reduceEq, Nat.reduceSub, pureSt]
      rintro ⟨tm4, ds4⟩ w4 ⟨hds, st4, S4, ρ4, hs4, h10, hm⟩
      simp only at hds
      subst hds
      refine cond_step vk hs4 (b := true) (by simp [ev, ev0, h10, AV.strip]) (by simp [gd, ev0, h10, AV.grd]) (fun _ => ?_) (fun h => by cases h)
      refine stop_tail hT hrs vky hs4 hm (fun w' S' hg => hRR _ _ (hY.growx _ _ _ _ hx8 hg)) (fun a w h => ?_)
      exact hstop a w h
    -- it goes on
    intro W8 S8 ρ8 hJ8 hk8 hs8
    refine ops_pre (c := baseC P W8 S8 fn.ntmps G) (E := quietE G) rfl (fun _ _ _ h => h.elim) hT hops (fun o ho d hd => ⟨okDst_D hok ho hd, rfl⟩) (FR.fw none) 0 _
        (K := fun z => z = ⟨(21, .d (.bool false)) :: (20, .d (.bool true)) :: (pureSt [(14, .int .i64 done.length), (13, .int .i64 ks.length), (12, .lst (ks.map Pred.cells)), (1, .yl l)]).slots, [], []⟩) [] 1 3 h4 ?_ hs8 ?_
    case refine_2 => simp only [go_sem, Nat.reduceEqDiff, reduceCtorEq, Nat.reduceAdd, Nat.reduceLeDiff, Nat.reduceMul, Nat.reduceLT, Int.reduceToNat, Int.reduceLT, Int.reduceLE, Int.reduceEq, Nat.reduceSub, pureSt]
    rintro ⟨tm4, ds4⟩ w4 ⟨hds, st4, S4, ρ4, hs4, rfl⟩
    simp only at hds
    subst hds
    refine cond_step vk hs4 (b := false) rfl rfl (fun h => by cases h) (fun _ => wpIn_skip ?_)
    refine reg_step (K := fun z => ∃ sl, z = ⟨(14, .d (.int .i64 (done.length + 1 : Nat))) :: sl, [], []⟩ ∧ getS sl 13 = .d (.int .i64 ks.length) ∧ getS sl 12 = .d (.lst (ks.map Pred.cells)) ∧ getS sl 1 = .d (.yl l)) hT k5 hs4 ?_ ?_
    · simp only [go_sem, Nat.reduceEqDiff, reduceCtorEq, Nat.reduceAdd, Nat.reduceLeDiff, Nat.reduceMul, Nat.reduceLT, Int.reduceToNat, Int.reduceLT, Int.reduceLE, Int.reduceEq, Nat.reduceSub, pureSt, hw]
      exact ⟨_, rfl, rfl, rfl, rfl⟩
    rintro _ tm5 w5 S5 ρ5 hs5 ⟨sl5, rfl, g13, g12, g1⟩
    obtain ⟨ρ6, hs6⟩ := Ent.sound hs5 (st1 := pureSt [(14, .int .i64 (done ++ [k]).length), (13, .int .i64 ks.length), (12, .lst (ks.map Pred.cells)), (1, .yl l)]) (Ent_plain (by simp only [go_sem, Nat.reduceEqDiff, reduceCtorEq, Nat.reduceAdd, Nat.reduceLeDiff, Nat.reduceMul, Nat.reduceLT, Int.reduceToNat, Int.reduceLT, Int.reduceLE, Int.reduceEq, Nat.reduceSub, pureSt, g13, g12, g1, List.length_append]))
    have hkk : Keeps W' S3 w3 _ := hs3.grows.keeps (hY.live _ _ _ hJ')
    exact ihr (done ++ [k]) (by simp [hdone]) W8 S8 tm5 w5 S5 ρ6 (by rw [Pred.pres_app, Pred.pre.pres, Pred.pre.pres]; simpa [yields] using hJ8) ((hk'.trans hkk).trans hk8) hs6

theorem visit_ok (hT : ∀ t ty, T t = some ty → chkTy P t ty = true) {L : List Pred} (hY : YCtx P G l (yields L) J Jx) {fn : Func} (hf : P.funcs[pred_visit]? = some fn) (htr : trFn T fn = some fn_pred_visit) (p : Pred) :
    EvY P (yields L) J Jx pred_visit [.agg (Pred.cells p), .one (.yl l)] (yields p.pre) := by
  induction p using Pred.ind with
  | h o s n ks ih =>
  obtain ⟨hname, cd, hcd, hac, hrs, hN⟩ := fn_parts htr
  refine ⟨⟨fn, hf, hname, by simp [hcd]⟩, ?_⟩
  intro a b W S cargs hxs hJ hargs
  refine callsIn_wide.1 (callsIn_of_wp_marks (n := 0) hf hcd trivial ?_)
  have hs0 := init_sim (P := P) (G := G) (fn := fn) (by rw [hN]; exact Nat.le_of_ble_eq_true rfl) (hY.live _ _ _ hJ) (hY.glob _ _ _ hJ) hargs
  change Sim (baseC P W S fn.ntmps G) _ _ _ _ _ at hs0
  obtain ⟨x0, y0, rfl, h0, hac⟩ := tr_seq hac
  obtain ⟨x1, y1, rfl, h1, hac⟩ := tr_seq hac
  obtain ⟨x2, y2, rfl, h2, h3⟩ := tr_seq hac
  obtain ⟨x1a, x1b, rfl, h1a, h1b⟩ := tr_seq h1
  obtain ⟨x2a, x2b, rfl, h2a, h2b⟩ := tr_seq h2
  obtain ⟨x3a, x3b, rfl, h3a, h3b⟩ := tr_seq h3
  obtain rfl := tr_ret h3b
  obtain ⟨cg, cy, cz, rfl, hcg, hcy, hcz⟩ := tr_cond h1b
  obtain rfl := tr_skip hcz
  have hd : ∀ d, d < 23 → d < fn.ntmps := fun d hd => by rw [hN]; exact hd
  rw [Pred.cells_eq] at hargs hs0
  simp only [Pred.op, Pred.name, Pred.n, Pred.kids] at hargs hs0
  generalize hcs : ([D.int .i64 o, D.str s, D.int .i64 n, D.lst (ks.map Pred.cells)] : List D) = pc at hargs hs0
  -- the predicate is boxed
  refine wpIn_seq (reg_step (K := fun z => z = ⟨[(4, .d (.bool false)), (2, .ptr 2 0), (0, .agg (pc.map .d)), (1, .d (.yl l))], [(2, pc.map .d)], []⟩) hT h0 hs0 ?_ ?_)
  · subst hcs; simp only [go_sem, Nat.reduceEqDiff, reduceCtorEq, Nat.reduceAdd, Nat.reduceLeDiff, Nat.reduceMul, Nat.reduceLT, Int.reduceToNat, Int.reduceLT, Int.reduceLE, Int.reduceEq, Nat.reduceSub]
  rintro _ tm1 w1 S1 ρ1 hs1 rfl
  -- it is yielded
  refine wpIn_seq ?_
  refine wpIn_seq ?_
  obtain ⟨id, ops, rfl, hops, hok⟩ := tr_reg h1a
  obtain ⟨hlen, hget⟩ := trOps_get hops
  have hsz : ops.size = 4 := by simpa using hlen.symm
  refine wpIn_region ?_
  have hr : List.range ops.size = List.range' 0 2 ++ [2, 3] := by rw [hsz]; rfl
  rw [hr]
  refine ops_pre (c := baseC P W S fn.ntmps G) (E := quietE G) rfl (fun _ _ _ h => h.elim) hT hops (fun o ho d hd => ⟨okDst_D hok ho hd, rfl⟩) (FR.fw none) 0 _
    (K := fun z => z = ⟨[(8, .agg (pc.map .d)), (7, .d (.yl l)), (4, .d (.bool false)), (2, .ptr 2 0), (0, .agg (pc.map .d)), (1, .d (.yl l))], [(2, pc.map .d)], []⟩) [2, 3] 2 0 (by omega) ?_ hs1 ?_
  case refine_2 =>
    subst hcs
    simp only [go_sem, Nat.reduceEqDiff, reduceCtorEq, Nat.reduceAdd, Nat.reduceLeDiff, Nat.reduceMul, Nat.reduceLT, Int.reduceToNat, Int.reduceLT, Int.reduceLE, Int.reduceEq, Nat.reduceSub]
  rintro ⟨tm2, ds2⟩ w2 ⟨hds, st2, S2, ρ2, hs2, rfl⟩
  simp only at hds
  subst hds
  obtain ⟨gi2, i2, hl2, htg2, hti2⟩ := hget 2 ops[2] (by simp [hsz])
  obtain ⟨gi3, i3, hl3, htg3, hti3⟩ := hget 3 ops[3] (by simp [hsz])
  simp only [go_sem, Nat.reduceEqDiff, reduceCtorEq, Nat.reduceAdd, Nat.reduceLeDiff, Nat.reduceMul, Nat.reduceLT, Int.reduceToNat, Int.reduceLT, Int.reduceLE, Int.reduceEq, Nat.reduceSub, Prod.mk.injEq] at hl2 hl3
  obtain ⟨rfl, rfl⟩ := hl2
  rw [wpOpsIn_cons]
  have hpre : yields (Pred.mk o s n ks).pre = [.agg pc] :: yields (Pred.pre.pres ks) := by
    rw [Pred.pre_eq, yields, List.map_cons, Pred.cells_eq]
    simp only [Pred.op, Pred.name, Pred.n, Pred.kids, hcs]; rfl
  rw [hpre] at hxs
  have h4 : 3 + 1 ≤ ops.size := by omega
  refine wpOpIn_plain (ops := ops) (k := 2) (o := ops[2]) (by simp [hsz]) htg2 (yield_op hY (x := [.agg pc]) (b := yields (Pred.pre.pres ks) ++ b) (by simpa using hxs) hJ hs2 hti2 (hd _ (by omega)) rfl rfl rfl ?_ [(2, .ref pc), (1, .yl l), (4, .bool false)] ?_ ?_ ?_)
  · simp only [go_sem, Nat.reduceEqDiff, reduceCtorEq, Nat.reduceAdd, Nat.reduceLeDiff, Nat.reduceMul, Nat.reduceLT, Int.reduceToNat, Int.reduceLT, Int.reduceLE, Int.reduceEq, Nat.reduceSub]
  · subst hcs
    intro q hq
    simp only [List.mem_cons, List.not_mem_nil, or_false] at hq
    rcases hq with rfl | rfl | rfl
    · simp only [go_sem, Nat.reduceEqDiff, reduceCtorEq, Nat.reduceAdd, Nat.reduceLeDiff, Nat.reduceMul, Nat.reduceLT, Int.reduceToNat, Int.reduceLT, Int.reduceLE, Int.reduceEq, Nat.reduceSub, List.mapM_cons, List.mapM_nil, Option.bind_eq_bind, Option.bind_some, Option.pure_def]
    · rfl
    · rfl
  rotate_left
  · -- it has said no
    intro W' S3 ρ3 hx3 hs3
    refine ops_pre (c := baseC P W' S3 fn.ntmps fun _ => none) (E := quietE fun _ => none) rfl (fun _ _ _ h => h.elim) hT hops (fun o ho d hd => ⟨okDst_D hok ho hd, rfl⟩) (FR.fw none) 0 _
      (K := fun z => getS z.slots 10 = .d (.bool true) ∧ z.mem = []) [] 1 3 h4 ?_ hs3 ?_
    case refine_2 => simp only [go_sem, Nat.reduceEqDiff, reduceCtorEq, Nat.reduceAdd, Nat.reduceLeDiff, Nat.reduceMul, Nat.reduceLT, Int.reduceToNat, Int.reduceLT, Int.reduceLE, Int.reduceEq, Nat.reduceSub, pureSt]
    rintro ⟨tm4, ds4⟩ w4 ⟨hds, st4, S4, ρ4, hs4, h10, hm⟩
    simp only at hds
    subst hds
    refine cond_step hcg hs4 (b := true) (by simp [ev, ev0, h10, AV.strip]) (by simp [gd, ev0, h10, AV.grd]) (fun _ => ?_) (fun h => by cases h)
    refine stop_tail hT hrs hcy hs4 hm (fun w' S' hg => .inr ⟨rfl, S', hY.growx _ _ _ _ hx3 hg⟩) (fun _ _ h => h)
  -- it goes on
  intro W' S3 ρ3 hJ3 hk3 hs3
  refine ops_pre (c := baseC P W' S3 fn.ntmps G) (E := quietE G) rfl (fun _ _ _ h => h.elim) hT hops (fun o ho d hd => ⟨okDst_D hok ho hd, rfl⟩) (FR.fw none) 0 _
      (K := fun z => z = ⟨[(10, .d (.bool false)), (9, .d (.bool true)), (2, .d (.ref pc)), (1, .d (.yl l)), (4, .d (.bool false))], [], []⟩) [] 1 3 h4 ?_ hs3 ?_
  case refine_2 => simp only [go_sem, Nat.reduceEqDiff, reduceCtorEq, Nat.reduceAdd, Nat.reduceLeDiff, Nat.reduceMul, Nat.reduceLT, Int.reduceToNat, Int.reduceLT, Int.reduceLE, Int.reduceEq, Nat.reduceSub, pureSt]
  rintro ⟨tm4, ds4⟩ w4 ⟨hds, st4, S4, ρ4, hs4, rfl⟩
  simp only at hds
  subst hds
  refine cond_step hcg hs4 (b := false) rfl rfl (fun h => by cases h) (fun _ => wpIn_skip ?_)
  refine wpIn_seq ?_
  refine wpIn_seq ?_
  refine reg_step (K := fun z => (ks.length : Int) ≤ 9223372036854775807 ∧ ∃ sl, z = ⟨(14, .d (.int .i64 0)) :: (13, .d (.int .i64 ks.length)) :: (12, .d (.lst (ks.map Pred.cells))) :: sl, [], []⟩ ∧ getS sl 1 = .d (.yl l)) hT h2a hs4 ?_ ?_
  · subst hcs
    simp only [go_sem, Nat.reduceEqDiff, reduceCtorEq, Nat.reduceAdd, Nat.reduceLeDiff, Nat.reduceMul, Nat.reduceLT, Int.reduceToNat, Int.reduceLT, Int.reduceLE, Int.reduceEq, Nat.reduceSub]
    intro hlen
    exact ⟨hlen, _, rfl, rfl⟩
  rintro _ tm5 w5 S5 ρ5 hs5 ⟨hlen, sl5, rfl, hsl5⟩
  obtain ⟨xl0, rfl, h2c⟩ := tr_block h2b
  obtain ⟨xl, rfl, h2d⟩ := tr_loop h2c
  refine wpIn_block (wp_loop_inside ?_)
  obtain ⟨ρ6, hs6⟩ := Ent.sound hs5 (st1 := pureSt [(14, .int .i64 (0 : Nat)), (13, .int .i64 ks.length), (12, .lst (ks.map Pred.cells)), (1, .yl l)]) (Ent_plain (by simp only [go_sem, Nat.reduceEqDiff, reduceCtorEq, Nat.reduceAdd, Nat.reduceLeDiff, Nat.reduceMul, Nat.reduceLT, Int.reduceToNat, Int.reduceLT, Int.reduceLE, Int.reduceEq, Nat.reduceSub, pureSt, hsl5]))
  refine visit_loop hT hY hrs hN hlen ih h2d (a := a ++ [[.agg pc]]) (b := b) (by rw [hxs]; simp) (W0 := W) (S0 := S) (RR := _) (fun w' S' hx => .inr ⟨rfl, S', hx⟩) (fun a w h => h) ?_ ks [] rfl W' S3 tm5 w5 S5 ρ6 (by simpa [Pred.pre.pres, yields] using hJ3) ((hs2.grows.keeps (hY.live _ _ _ hJ)).trans hk3) hs6
  intro W7 S7 st7 tm7 w7 S7' ρ7 hJ7 hk7 hs7 hm7
  refine wpIn_seq (reg_step (K := fun z => getS z.slots 4 = .d (.bool true) ∧ z.mem = []) hT h3a hs7 ?_ ?_)
  · simp only [go_sem, Nat.reduceEqDiff, reduceCtorEq, Nat.reduceAdd, Nat.reduceLeDiff, Nat.reduceMul, Nat.reduceLT, Int.reduceToNat, Int.reduceLT, Int.reduceLE, Int.reduceEq, Nat.reduceSub, hm7]
  rintro st8 tm8 w8 S8 ρ8 hs8 ⟨h8, hm8⟩
  refine wpIn_ret ⟨_, ret_bool hT hrs hs8 hm8 h8, .inl ⟨rfl, S8, ?_, hk7.trans (hs8.grows.keeps (hY.live _ _ _ hJ7))⟩⟩
  rw [hpre]
  exact hY.grow _ W7 S7 w8 S8 (by simpa using hJ7) hs8.grows
theorem before_1_ok (hT : ∀ t ty, T t = some ty → chkTy P t ty = true) {fv : Func} (hfv : P.funcs[pred_visit]? = some fv) (htrv : trFn T fv = some fn_pred_visit) {fn : Func} (hf : P.funcs[pred_before_1]? = some fn) (htr : trFn T fn = some fn_pred_before_1) (p : Pred) :
    ItOk P G pred_before_1 [.ref (Pred.cells p)] (yields p.pre) := by
  obtain ⟨hname, cd, hcd, hac, hrs, hN⟩ := fn_parts htr
  refine ⟨⟨fn, hf, hname, by simp [hcd]⟩, ?_⟩
  intro l w S cs J Jx hlive hglob hcs hgrow hgrowx hlk hlx hyield hJ0
  have hY : YCtx P G l (yields p.pre) J Jx := ⟨hgrow, hgrowx, fun _ _ _ h => (hlk _ _ _ h).1, hlx, fun _ _ _ h => ⟨fun g c hg => RepCs.keep (hlk _ _ _ h).2.1 _ _ _ (hglob.1 g c hg), (hlk _ _ _ h).2.2⟩, hyield⟩
  refine callsIn_wide.1 (callsIn_of_wp_marks (n := 0) hf hcd trivial ?_)
  have hargs : RepCL w S [.one (.yl l), .one (.ref (Pred.cells p))] ((#[.func (.yield l) #[] #[]] : Array Value) ++ cs.toArray).toList := by
    obtain ⟨v, r, h1, h2, h3⟩ := hcs
    simp only [RepL] at h3
    subst h3
    subst h1
    exact ⟨_, _, rfl, rfl, _, _, rfl, h2, rfl⟩
  have hs0 := init_sim (P := P) (G := G) (fn := fn) (by rw [hN]; exact Nat.le_of_ble_eq_true rfl) hlive hglob hargs
  change Sim (baseC P w S fn.ntmps G) _ _ _ _ _ at hs0
  obtain ⟨id, ops, rfl, hops, hok⟩ := tr_reg hac
  obtain ⟨hlen', hget⟩ := trOps_get hops
  have hsz : ops.size = 3 := by simpa using hlen'.symm
  refine wpIn_region ?_
  have hr : List.range ops.size = List.range' 0 2 ++ [2] := by rw [hsz]; rfl
  rw [hr]
  refine ops_pre (c := baseC P w S fn.ntmps G) (E := quietE G) rfl (fun _ _ _ h => h.elim) hT hops (fun o ho d hd => ⟨okDst_D hok ho hd, rfl⟩) (FR.fw none) 0 _
      (K := fun z => z = ⟨[(4, .d (.yl l)), (3, .agg ((Pred.cells p).map .d)), (0, .d (.yl l)), (1, .d (.ref (Pred.cells p)))], [], []⟩) [2] 2 0 (by omega) ?_ hs0 ?_
  case refine_2 =>
    rw [Pred.cells_eq]
    simp only [go_sem, Nat.reduceEqDiff, reduceCtorEq, Nat.reduceAdd, Nat.reduceLeDiff, Nat.reduceMul, Nat.reduceLT, Int.reduceToNat, Int.reduceLT, Int.reduceLE, Int.reduceEq, Nat.reduceSub]
  rintro ⟨tm3, ds3⟩ w3 ⟨hds, st3, S4, ρ3, hs3, rfl⟩
  simp only at hds
  subst hds
  obtain ⟨gi2, i2, hl2, htg2, hti2⟩ := hget 2 ops[2] (by simp [hsz])
  simp only [fn_pred_before_1, go_sem, Nat.reduceEqDiff, reduceCtorEq, Nat.reduceAdd, Nat.reduceLeDiff, Nat.reduceMul, Nat.reduceLT, Int.reduceToNat, Int.reduceLT, Int.reduceLE, Int.reduceEq, Nat.reduceSub, Prod.mk.injEq] at hl2
  obtain ⟨rfl, rfl⟩ := hl2
  rw [wpOpsIn_cons]
  have hres : ∀ tm w, (results fn tm).run P w = .ok (.tuple #[]) w := by
    intro tm w
    have : fn.results = #[] := by
      have hrs' : fn.results.toList.mapM (trRes T) = some [] := hrs
      cases hc : fn.results.toList with
      | nil => exact Array.toList_eq_nil_iff.1 hc
      | cons x xs =>
        rw [hc] at hrs'
        simp only [List.mapM_cons, Option.bind_eq_bind, Option.bind_eq_some_iff, Option.pure_def, Option.some.injEq] at hrs'
        obtain ⟨_, _, _, _, h⟩ := hrs'
        cases h
    rw [results_eq, this]
    simp
  refine wpOpIn_plain (ops := ops) (k := 2) (o := ops[2]) (by simp [hsz]) htg2 (evy_op hY (a := []) (ys := yields p.pre) (b := []) (by simp) hJ0 hs3 hti2 (by rw [hN]; exact Nat.le_of_ble_eq_true rfl) rfl rfl rfl
      (cvs := [.agg (Pred.cells p), .one (.yl l)]) ?_ (visit_ok hT hY hfv htrv p) [] (fun q hq => by cases hq) ?_ ?_)
  · rw [Pred.cells_eq]; simp only [go_sem, Nat.reduceEqDiff, reduceCtorEq, Nat.reduceAdd, Nat.reduceLeDiff, Nat.reduceMul, Nat.reduceLT, Int.reduceToNat, Int.reduceLT, Int.reduceLE, Int.reduceEq, Nat.reduceSub]
  · intro W8 S8 ρ8 hJ8 hk8 hs8
    exact ⟨_, hres _ _, _, rfl, .inl ⟨S8, by simpa using hJ8⟩⟩
  · intro W8 S8 ρ8 hx8 hs8
    exact ⟨_, hres _ _, _, rfl, .inr ⟨S8, hx8⟩⟩
end Go.Abs
end
section
set_option linter.unusedSimpArgs false
set_option linter.unusedVariables false
set_option linter.unusedSectionVars false
namespace Go.Abs
abbrev Str := List UInt8
/-! ## environments as data -/
structure SVar where
  name : Str
  sort : Str
def SVar.cells (v : SVar) : List D := [.str v.name, .str v.sort]
def scell (s : Str) : List D := [.str s]
structure SSym where
  name : Str
  args : List Str
  res : Str
def SSym.cells (v : SSym) : List D := [.str v.name, .lst (v.args.map scell), .str v.res]
structure SHole where
  name : Str
  params : List SVar
def SHole.cells (v : SHole) : List D := [.str v.name, .lst (v.params.map SVar.cells)]
structure SEnv where
  vars : List SVar
  syms : List SSym
  holes : List SHole
def SEnv.cells (v : SEnv) : List D := [.lst (v.vars.map SVar.cells), .lst (v.syms.map SSym.cells), .lst (v.holes.map SHole.cells)]
theorem lens_map {α : Type} {f : α → List D} {k : Nat} (h : ∀ x, (f x).length = k) (l : List α) : (∀ e ∈ l.map f, e.length = k) = True := eq_true (by
  intro e he; obtain ⟨p, _, rfl⟩ := List.mem_map.1 he; exact h p)
theorem SVar.lens (l : List SVar) : (∀ e ∈ l.map SVar.cells, e.length = 2) = True := lens_map (f := SVar.cells) (fun _ => rfl) l
theorem SSym.lens (l : List SSym) : (∀ e ∈ l.map SSym.cells, e.length = 3) = True := lens_map (f := SSym.cells) (fun _ => rfl) l
theorem SHole.lens (l : List SHole) : (∀ e ∈ l.map SHole.cells, e.length = 2) = True := lens_map (f := SHole.cells) (fun _ => rfl) l
theorem scell_lens (l : List Str) : (∀ e ∈ l.map scell, e.length = 1) = True := lens_map (f := scell) (fun _ => rfl) l
attribute [go_sem] SVar.lens SSym.lens SHole.lens scell_lens
theorem getD_at {α β : Type} {f : α → β} {l a r : List α} {x : α} {d : β} (hl : l = a ++ x :: r) : (l.map f).getD a.length d = f x := by rw [hl]; exact getD_mid _ _ _ _ _
variable {E : AEnv} (Z : Sys E)
include Z
end Go.Abs
end
section
set_option linter.unusedSimpArgs false
set_option linter.unusedVariables false
set_option linter.unusedSectionVars false
namespace Go.Abs
/-- lists that may be appended to -/
def Small (n : Nat) : Prop := n ≤ 1048576
variable {E : AEnv} (Z : Sys E)
include Z
end Go.Abs
end
section
set_option linter.unusedSimpArgs false
set_option linter.unusedVariables false
set_option linter.unusedSectionVars false
namespace Go.Abs
def NodeOk (q : Pred) : Prop := ((q.op == 10 || q.op == 11) = true → 2 ≤ q.kids.length) ∧ q.kids.length ≤ 24
def Arity (p : Pred) : Prop := ∀ q ∈ p.pre, NodeOk q
theorem Arity.kid {o : Int} {s : Str} {n : Int} {ks : List Pred} (h : Arity (.mk o s n ks)) {k : Pred} (hk : k ∈ ks) : Arity k := by
  intro q hq
  refine h q ?_
  rw [Pred.pre_eq]
  refine List.mem_cons_of_mem _ ?_
  clear h
  induction ks with
  | nil => cases hk
  | cons x ks ih =>
    rw [Pred.pre.pres, List.mem_append]
    rcases List.mem_cons.1 hk with rfl | hk
    · exact .inl hq
    · exact .inr (ih hk)
theorem Arity.top {o : Int} {s : Str} {n : Int} {ks : List Pred} (h : Arity (.mk o s n ks)) : NodeOk (.mk o s n ks) := h _ (by rw [Pred.pre_eq]; simp)
theorem first_zero : ∀ {l : List Pred}, Pred.first l = 0 → ∀ q ∈ l, Pred.err q = 0
  | [], _, q, hq => by cases hq
  | p :: l, h, q, hq => by
    rw [Pred.first] at h
    by_cases hp : (Pred.err p != 0) = true
    · rw [if_pos hp] at h; simp [h] at hp
    · rw [if_neg hp] at h
      rcases List.mem_cons.1 hq with rfl | hq
      · simpa using hp
      · exact first_zero h q hq
set_option maxRecDepth 100000
variable {E : AEnv} (Z : Sys E)
include Z
end Go.Abs
end
section
set_option linter.unusedSimpArgs false
set_option linter.unusedVariables false
set_option linter.unusedSectionVars false
namespace Go.Abs
theorem formE_of_check {p : Pred} (h : p.checkE = 0) : p.formE = 0 := by
  unfold Pred.checkE at h
  by_cases h1 : decide (p.nodes > 400) = true
  · rw [if_pos h1] at h; cases h
  · rw [if_neg h1] at h
    by_cases h2 : decide (p.depth > 40) = true
    · rw [if_pos h2] at h; cases h
    · rw [if_neg h2] at h; exact h
end Go.Abs
end
section
set_option linter.unusedSimpArgs false
set_option linter.unusedVariables false
set_option linter.unusedSectionVars false
namespace Go.Abs
namespace Pred
def same : Pred → Pred → Bool
  | .mk o s n ks, .mk o' s' n' ks' => o == o' && s == s' && n == n' && sames ks ks'
where sames : List Pred → List Pred → Bool
  | [], [] => true
  | k :: ks, k' :: ks' => same k k' && sames ks ks'
  | _, _ => false
theorem same_eq (o : Int) (s : Str) (n : Int) (ks : List Pred) (o' : Int) (s' : Str) (n' : Int) (ks' : List Pred) : same (.mk o s n ks) (.mk o' s' n' ks') = (o == o' && s == s' && n == n' && same.sames ks ks') := by rw [same]
theorem same_iff : ∀ (a b : Pred), same a b = true ↔ a = b := by
  intro a
  induction a using Pred.ind with
  | h o s n ks ih =>
  intro b
  obtain ⟨o', s', n', ks'⟩ := b
  have hk : ∀ l', same.sames ks l' = true ↔ ks = l' := by
    induction ks with
    | nil => intro l'; cases l' <;> simp [same.sames]
    | cons k ks ih2 =>
      intro l'
      cases l' with
      | nil => simp [same.sames]
      | cons k' l' => simp only [same.sames, Bool.and_eq_true, List.cons.injEq, ih k (by simp) k', ih2 (fun x hx => ih x (by simp [hx])) l']
  rw [same_eq]
  simp only [Bool.and_eq_true, beq_iff_eq, hk, Pred.mk.injEq, and_assoc]
theorem sames_iff : ∀ (a b : List Pred), same.sames a b = true ↔ a = b
  | [], [] => by simp [same.sames]
  | [], _ :: _ => by simp [same.sames]
  | _ :: _, [] => by simp [same.sames]
  | x :: a, y :: b => by simp only [same.sames, Bool.and_eq_true, List.cons.injEq, same_iff, sames_iff a b]
theorem same_refl (a : Pred) : same a a = true := (same_iff a a).2 rfl
theorem sames_refl (a : List Pred) : same.sames a a = true := (sames_iff a a).2 rfl
theorem sames_app : ∀ {a b l l' : List Pred}, a.length = b.length → same.sames (a ++ l) (b ++ l') = (same.sames a b && same.sames l l')
  | [], [], l, l', _ => by simp [same.sames]
  | x :: a, y :: b, l, l', h => by simp only [List.cons_append, same.sames, sames_app (a := a) (b := b) (by simpa using h), Bool.and_assoc]
  | [], _ :: _, _, _, h => by simp at h
  | _ :: _, [], _, _, h => by simp at h
theorem sames_len : ∀ {a b : List Pred}, a.length ≠ b.length → same.sames a b = false := by
  intro a b h
  rw [Bool.eq_false_iff]
  intro e
  exact h (by rw [(sames_iff a b).1 e])
end Pred
theorem at_split {α : Type} {b : List α} {n : Nat} (h : n < b.length) : ∃ bd y r, b = bd ++ y :: r ∧ bd.length = n := by
  have := List.take_append_drop n b
  rw [List.drop_eq_getElem_cons h] at this
  exact ⟨_, _, _, this.symm, by simp; omega⟩
theorem getD_atP {b bd r : List Pred} {y : Pred} {n : Nat} (hb : b = bd ++ y :: r) (hn : bd.length = n) : (b.map Pred.cells).getD n [] = Pred.cells y := by subst hn; exact getD_midP hb
def zeroP : Pred := .mk 0 [] 0 []
def trueP : Pred := .mk 2 [] 1 []
def falseP : Pred := .mk 2 [] 0 []
variable {E : AEnv} (Z : Sys E)
include Z
theorem pred_equal_ev (a b : List Pred) (h : ∀ x ∈ a, ∀ y, E.C pred_Same [.agg (Pred.cells x), .agg (Pred.cells y)] (.one (.bool (x.same y)))) :
    E.C pred_equal_api_Pred [.one (.lst (a.map Pred.cells)), .one (.lst (b.map Pred.cells)), .one (.clo pred_Same [])] (.one (.bool (Pred.same.sames a b))) := by
  refine Z.pred_equal_api_Pred _ _ ⟨Nat.le_of_ble_eq_true rfl, ?_⟩
  generalize hR : Pred.same.sames a b = R
  simp only [fn_pred_equal_api_Pred, go_sem, Nat.reduceEqDiff, reduceCtorEq, Nat.reduceAdd, Nat.reduceLeDiff, Nat.reduceMul, Nat.reduceLT, Int.reduceToNat, Int.reduceLT, Int.reduceLE, Int.reduceEq, Nat.reduceSub]
  intro hl1 hl2
  by_cases hlen : a.length = b.length
  · have h1 : ((a.length : Int) != (b.length : Int)) = false := by simp [hlen]
    simp only [h1, go_sem, Nat.reduceEqDiff, reduceCtorEq, Nat.reduceAdd, Nat.reduceLeDiff, Nat.reduceMul, Nat.reduceLT, Int.reduceToNat, Int.reduceLT, Int.reduceLE, Int.reduceEq, Nat.reduceSub]
    intro _
    refine loop_list a (fun done => Pred.same.sames done (b.take done.length) = true) (fun done rest => ⟨[(15, .d (.int .i64 done.length)), (14, .d (.int .i64 a.length)), (2, .d (.clo pred_Same [])), (0, .d (.lst (a.map Pred.cells))), (1, .d (.lst (b.map Pred.cells)))], [], []⟩) ?_ (by simp [Pred.same.sames]) ?_ ?_
    · exact Ent_plain (by simp only [go_sem, Nat.reduceEqDiff, reduceCtorEq, Nat.reduceAdd, Nat.reduceLeDiff, Nat.reduceMul, Nat.reduceLT, Int.reduceToNat, Int.reduceLT, Int.reduceLE, Int.reduceEq, Nat.reduceSub])
    · intro done x r hl hI
      obtain ⟨bd, y, r', hb, hbl⟩ := at_split (b := b) (n := done.length) (by rw [← hlen, hl]; simp)
      have htk : b.take done.length = bd := by rw [hb]; exact List.take_left' hbl
      have hlt := lt_mid hl
      have hlt2 := lt_mid hb
      rw [hbl] at hlt2
      have hw : IntKind.i64.wrap ((done.length : Int) + 1) = ((done.length + 1 : Nat) : Int) := wrap_succ (by omega)
      rw [htk] at hI
      rw [hl, hb, Pred.sames_app hbl.symm, hI, Pred.same.sames, Bool.true_and] at hR
      simp only [fn_pred_equal_api_Pred_L1, go_sem, Nat.reduceEqDiff, reduceCtorEq, Nat.reduceAdd, Nat.reduceLeDiff, Nat.reduceMul, Nat.reduceLT, Int.reduceToNat, Int.reduceLT, Int.reduceLE, Int.reduceEq, Nat.reduceSub, getD_midP hl, getD_atP hb hbl, hlt, hlt2]
      refine call_by (h x (by rw [hl]; simp) y) ?_
      cases h2 : x.same y with
      | true =>
        simp only [go_sem, Nat.reduceEqDiff, reduceCtorEq, Nat.reduceAdd, Nat.reduceLeDiff, Nat.reduceMul, Nat.reduceLT, Int.reduceToNat, Int.reduceLT, Int.reduceLE, Int.reduceEq, Nat.reduceSub, hw, List.length_append]
        refine ⟨Ent_plain (by simp only [go_sem, Nat.reduceEqDiff, reduceCtorEq, Nat.reduceAdd, Nat.reduceLeDiff, Nat.reduceMul, Nat.reduceLT, Int.reduceToNat, Int.reduceLT, Int.reduceLE, Int.reduceEq, Nat.reduceSub]), ?_⟩
        have ht2 : b.take (done.length + 1) = bd ++ [y] := by rw [hb, show bd ++ y :: r' = (bd ++ [y]) ++ r' by simp]; exact List.take_left' (by simp [hbl])
        rw [ht2, Pred.sames_app hbl.symm, hI]
        simp [Pred.same.sames, h2]
      | false => simp only [h2, go_sem, Nat.reduceEqDiff, reduceCtorEq, Nat.reduceAdd, Nat.reduceLeDiff, Nat.reduceMul, Nat.reduceLT, Int.reduceToNat, Int.reduceLT, Int.reduceLE, Int.reduceEq, Nat.reduceSub] at hR ⊢; exact hR
    · intro hI
      rw [hlen, List.take_length] at hI
      rw [hI] at hR
      subst hR
      simp only [fn_pred_equal_api_Pred_L1, go_sem, Nat.reduceEqDiff, reduceCtorEq, Nat.reduceAdd, Nat.reduceLeDiff, Nat.reduceMul, Nat.reduceLT, Int.reduceToNat, Int.reduceLT, Int.reduceLE, Int.reduceEq, Nat.reduceSub]
  · have h1 : ((a.length : Int) != (b.length : Int)) = true := by simp; omega
    rw [Pred.sames_len hlen] at hR
    simp only [h1, go_sem, Nat.reduceEqDiff, reduceCtorEq, Nat.reduceAdd, Nat.reduceLeDiff, Nat.reduceMul, Nat.reduceLT, Int.reduceToNat, Int.reduceLT, Int.reduceLE, Int.reduceEq, Nat.reduceSub, hR]
theorem pred_Same_ev (a : Pred) : ∀ b, E.C pred_Same [.agg (Pred.cells a), .agg (Pred.cells b)] (.one (.bool (a.same b))) := by
  induction a using Pred.ind with
  | h o s n ks ih =>
  intro b
  obtain ⟨o', s', n', ks'⟩ := b
  have he := pred_equal_ev Z ks ks' ih
  refine Z.pred_Same _ _ ⟨Nat.le_of_ble_eq_true rfl, ?_⟩
  rw [Pred.cells_eq, Pred.cells_eq, Pred.same_eq]
  simp only [fn_pred_Same, go_sem, Nat.reduceEqDiff, reduceCtorEq, Nat.reduceAdd, Nat.reduceLeDiff, Nat.reduceMul, Nat.reduceLT, Int.reduceToNat, Int.reduceLT, Int.reduceLE, Int.reduceEq, Nat.reduceSub, Pred.op, Pred.name, Pred.n, Pred.kids]
  refine call_g he ?_
  simp only [go_sem, Nat.reduceEqDiff, reduceCtorEq, Nat.reduceAdd, Nat.reduceLeDiff, Nat.reduceMul, Nat.reduceLT, Int.reduceToNat, Int.reduceLT, Int.reduceLE, Int.reduceEq, Nat.reduceSub]
theorem r07_Same_ev (a : Pred) : ∀ b, E.C r07_Same [.agg (Pred.cells a), .agg (Pred.cells b)] (.one (.bool (a.same b))) := by
  induction a using Pred.ind with
  | h o s n a ih =>
  intro b
  obtain ⟨o', s', n', b⟩ := b
  refine Z.r07_Same _ _ ⟨Nat.le_of_ble_eq_true rfl, ?_⟩
  generalize hR : Pred.same (.mk o s n a) (.mk o' s' n' b) = R
  rw [Pred.same_eq] at hR
  rw [Pred.cells_eq, Pred.cells_eq]
  simp only [fn_r07_Same, go_sem, Nat.reduceEqDiff, reduceCtorEq, Nat.reduceAdd, Nat.reduceLeDiff, Nat.reduceMul, Nat.reduceLT, Int.reduceToNat, Int.reduceLT, Int.reduceLE, Int.reduceEq, Nat.reduceSub, Pred.op, Pred.name, Pred.n, Pred.kids]
  intro hl1 hl2
  cases h0 : (o != o' || !s == s' || n != n') with
  | true =>
    have : (o == o' && s == s' && n == n') = false := by
      rw [Bool.eq_false_iff]; intro e; simp only [Bool.and_eq_true, beq_iff_eq] at e; simp [e.1.1, e.1.2, e.2] at h0
    rw [this] at hR
    simp only [go_sem, Nat.reduceEqDiff, reduceCtorEq, Nat.reduceAdd, Nat.reduceLeDiff, Nat.reduceMul, Nat.reduceLT, Int.reduceToNat, Int.reduceLT, Int.reduceLE, Int.reduceEq, Nat.reduceSub] at hR
    simp only [go_sem, Nat.reduceEqDiff, reduceCtorEq, Nat.reduceAdd, Nat.reduceLeDiff, Nat.reduceMul, Nat.reduceLT, Int.reduceToNat, Int.reduceLT, Int.reduceLE, Int.reduceEq, Nat.reduceSub, hR]
  | false =>
  have : (o == o' && s == s' && n == n') = true := by
    simp at h0; simp [h0.1.1, h0.1.2, h0.2]
  rw [this, Bool.true_and] at hR
  by_cases hlen : a.length = b.length
  · have h1 : ((a.length : Int) != (b.length : Int)) = false := by simp [hlen]
    simp only [h1, go_sem, Nat.reduceEqDiff, reduceCtorEq, Nat.reduceAdd, Nat.reduceLeDiff, Nat.reduceMul, Nat.reduceLT, Int.reduceToNat, Int.reduceLT, Int.reduceLE, Int.reduceEq, Nat.reduceSub]
    intro _
    refine loop_list a (fun done => Pred.same.sames done (b.take done.length) = true) (fun done rest => ⟨[(37, .d (.int .i64 done.length)), (36, .d (.int .i64 a.length)), (2, .ptr 2 0), (3, .ptr 3 0)],
      [(2, [.d (.int .i64 o), .d (.str s), .d (.int .i64 n), .d (.lst (a.map Pred.cells))]), (3, [.d (.int .i64 o'), .d (.str s'), .d (.int .i64 n'), .d (.lst (b.map Pred.cells))])], []⟩) ?_ (by simp [Pred.same.sames]) ?_ ?_
    · exact Ent_plain (by simp only [go_sem, Nat.reduceEqDiff, reduceCtorEq, Nat.reduceAdd, Nat.reduceLeDiff, Nat.reduceMul, Nat.reduceLT, Int.reduceToNat, Int.reduceLT, Int.reduceLE, Int.reduceEq, Nat.reduceSub, Option.isSome_some])
    · intro done x r hl hI
      obtain ⟨bd, y, r', hb, hbl⟩ := at_split (b := b) (n := done.length) (by rw [← hlen, hl]; simp)
      have htk : b.take done.length = bd := by rw [hb]; exact List.take_left' hbl
      have hlt := lt_mid hl
      have hlt2 := lt_mid hb
      rw [hbl] at hlt2
      have hw : IntKind.i64.wrap ((done.length : Int) + 1) = ((done.length + 1 : Nat) : Int) := wrap_succ (by omega)
      rw [htk] at hI
      rw [hl, hb, Pred.sames_app hbl.symm, hI, Pred.same.sames, Bool.true_and] at hR
      simp only [fn_r07_Same_L1, go_sem, Nat.reduceEqDiff, reduceCtorEq, Nat.reduceAdd, Nat.reduceLeDiff, Nat.reduceMul, Nat.reduceLT, Int.reduceToNat, Int.reduceLT, Int.reduceLE, Int.reduceEq, Nat.reduceSub, getD_midP hl, getD_atP hb hbl, hlt, hlt2]
      refine call_by (ih x (by rw [hl]; simp) y) ?_
      cases h2 : x.same y with
      | true =>
        simp only [go_sem, Nat.reduceEqDiff, reduceCtorEq, Nat.reduceAdd, Nat.reduceLeDiff, Nat.reduceMul, Nat.reduceLT, Int.reduceToNat, Int.reduceLT, Int.reduceLE, Int.reduceEq, Nat.reduceSub, hw, List.length_append]
        refine ⟨Ent_plain (by simp only [go_sem, Nat.reduceEqDiff, reduceCtorEq, Nat.reduceAdd, Nat.reduceLeDiff, Nat.reduceMul, Nat.reduceLT, Int.reduceToNat, Int.reduceLT, Int.reduceLE, Int.reduceEq, Nat.reduceSub, Option.isSome_some]), ?_⟩
        have ht2 : b.take (done.length + 1) = bd ++ [y] := by rw [hb, show bd ++ y :: r' = (bd ++ [y]) ++ r' by simp]; exact List.take_left' (by simp [hbl])
        rw [ht2, Pred.sames_app hbl.symm, hI]
        simp [Pred.same.sames, h2]
      | false => simp only [h2, go_sem, Nat.reduceEqDiff, reduceCtorEq, Nat.reduceAdd, Nat.reduceLeDiff, Nat.reduceMul, Nat.reduceLT, Int.reduceToNat, Int.reduceLT, Int.reduceLE, Int.reduceEq, Nat.reduceSub] at hR ⊢; exact hR
    · intro hI
      rw [hlen, List.take_length] at hI
      rw [hI] at hR
      subst hR
      simp only [fn_r07_Same_L1, go_sem, Nat.reduceEqDiff, reduceCtorEq, Nat.reduceAdd, Nat.reduceLeDiff, Nat.reduceMul, Nat.reduceLT, Int.reduceToNat, Int.reduceLT, Int.reduceLE, Int.reduceEq, Nat.reduceSub]
  · have h1 : ((a.length : Int) != (b.length : Int)) = true := by simp; omega
    rw [Pred.sames_len hlen] at hR
    simp only [h1, go_sem, Nat.reduceEqDiff, reduceCtorEq, Nat.reduceAdd, Nat.reduceLeDiff, Nat.reduceMul, Nat.reduceLT, Int.reduceToNat, Int.reduceLT, Int.reduceLE, Int.reduceEq, Nat.reduceSub, hR]
end Go.Abs
end
section
set_option linter.unusedSimpArgs false
set_option linter.unusedVariables false
set_option linter.unusedSectionVars false
namespace Go.Abs
/-- a full slice in cell i of box s gets token t, ahead of the loop -/
theorem Ent_convm {st st1 : St} (s i t sz : Nat) (cs : List AV) (es : List (List D)) (mp : TMap) (h0 : getM st.mem s = some cs) (h1 : cs[i]? = some (.full es)) (h2 : ∀ e ∈ es, e.length = sz) (h3 : getT st.tk t = none)
    (h : Ent0 mp { st with mem := (s, cs.set i (.own t sz es)) :: st.mem, tk := (t, true) :: st.tk } st1) : Ent st st1 := ⟨[(.m s i, t, sz)], mp, _, ⟨_, ⟨cs, es, h0, h1, h2, h3, rfl⟩, rfl⟩, h⟩
def AllN (P : Pred → Prop) (p : Pred) : Prop := ∀ q ∈ p.pre, P q
theorem AllN.kid {P : Pred → Prop} {o : Int} {s : Str} {n : Int} {ks : List Pred} (h : AllN P (.mk o s n ks)) {k : Pred} (hk : k ∈ ks) : AllN P k := by
  intro q hq
  refine h q ?_
  rw [Pred.pre_eq]
  refine List.mem_cons_of_mem _ ?_
  clear h
  induction ks with
  | nil => cases hk
  | cons x ks ih =>
    rw [Pred.pre.pres, List.mem_append]
    rcases List.mem_cons.1 hk with rfl | hk
    · exact .inl hq
    · exact .inr (ih hk)
theorem AllN.top {P : Pred → Prop} {o : Int} {s : Str} {n : Int} {ks : List Pred} (h : AllN P (.mk o s n ks)) : P (.mk o s n ks) := h _ (by rw [Pred.pre_eq]; simp)
/-- no node has more kids than may be copied -/
def Tame : Pred → Prop := AllN fun q => Small q.kids.length
theorem one_split {α : Type} {l : List α} (h : l.length = 1) : ∃ a, l = [a] := by
  match l, h with
  | [a], _ => exact ⟨a, rfl⟩
set_option maxRecDepth 100000
variable {E : AEnv} (Z : Sys E)
include Z
theorem pred_copied_ev (p : Pred) (hp : Tame p) : E.C pred_copied [.agg (Pred.cells p)] (.agg (Pred.cells p)) := by
  induction p using Pred.ind with
  | h o s n ks ih =>
  refine Z.pred_copied _ _ ⟨Nat.le_of_ble_eq_true rfl, ?_⟩
  rw [Pred.cells_eq]
  have hk : Small ks.length := hp.top
  unfold Small at hk
  simp only [fn_pred_copied, go_sem, Nat.reduceEqDiff, reduceCtorEq, Nat.reduceAdd, Nat.reduceLeDiff, Nat.reduceMul, Nat.reduceLT, Int.reduceToNat, Int.reduceLT, Int.reduceLE, Int.reduceEq, Nat.reduceSub, Pred.op, Pred.name, Pred.n, Pred.kids]
  intro hlen
  refine loop_list ks (fun _ => True) (fun done rest => ⟨[(16, .d (.int .i64 done.length)), (15, .d (.int .i64 ks.length)), (14, .d (.lst (ks.map Pred.cells))), (3, .ptr 3 0), (2, .ptr 2 0)], [(3, [.d (.int .i64 o), .d (.str s), .d (.int .i64 n), .own 3 4 (done.map Pred.cells)]), (2, [.d (.int .i64 0), .d (.str []), .d (.int .i64 0), .full []])], [(3, true)]⟩) ?_ trivial ?_ ?_
  · exact Ent_convm 3 3 3 4 _ [] [(3, 3)] rfl rfl (by simp) rfl (by simp only [Ent0, go_sem, Nat.reduceEqDiff, reduceCtorEq, Nat.reduceAdd, Nat.reduceLeDiff, Nat.reduceMul, Nat.reduceLT, Int.reduceToNat, Int.reduceLT, Int.reduceLE, Int.reduceEq, Nat.reduceSub, List.contains_nil, Option.isSome_some])
  · intro done k r hl _
    have hk' := ih k (by rw [hl]; simp) (hp.kid (by rw [hl]; simp))
    have hlt := lt_mid hl
    have hw : IntKind.i64.wrap ((done.length : Int) + 1) = ((done.length + 1 : Nat) : Int) := wrap_succ (by omega)
    have hd : done.length < ks.length := by omega
    have ha1 : (done.length + 1) * 56 ≤ 2 ^ 46 := by omega
    simp only [fn_pred_copied_L1, go_sem, Nat.reduceEqDiff, reduceCtorEq, Nat.reduceAdd, Nat.reduceLeDiff, Nat.reduceMul, Nat.reduceLT, Int.reduceToNat, Int.reduceLT, Int.reduceLE, Int.reduceEq, Nat.reduceSub, hlt, getD_midP hl]
    refine call_by hk' ?_
    simp only [go_sem, Nat.reduceEqDiff, reduceCtorEq, Nat.reduceAdd, Nat.reduceLeDiff, Nat.reduceMul, Nat.reduceLT, Int.reduceToNat, Int.reduceLT, Int.reduceLE, Int.reduceEq, Nat.reduceSub, hw, List.length_append, List.length_map, List.map_append, Pred.lens_true]
    refine ⟨⟨by simp [Pred.cells_length], ha1, by omega⟩, Ent_own [(3, 25)] ?_⟩
    simp only [go_sem, Nat.reduceEqDiff, reduceCtorEq, Nat.reduceAdd, Nat.reduceLeDiff, Nat.reduceMul, Nat.reduceLT, Int.reduceToNat, Int.reduceLT, Int.reduceLE, Int.reduceEq, Nat.reduceSub, List.contains_nil, Option.isSome_some]
  · intro _
    simp only [fn_pred_copied_L1, go_sem, Nat.reduceEqDiff, reduceCtorEq, Nat.reduceAdd, Nat.reduceLeDiff, Nat.reduceMul, Nat.reduceLT, Int.reduceToNat, Int.reduceLT, Int.reduceLE, Int.reduceEq, Nat.reduceSub]
theorem pred_constant_ev (b : Bool) : E.C pred_constant [.one (.bool b)] (.agg (Pred.cells (if b then trueP else falseP))) := by
  refine Z.pred_constant _ _ ⟨Nat.le_of_ble_eq_true rfl, ?_⟩
  cases b <;> simp only [fn_pred_constant, go_sem, Nat.reduceEqDiff, reduceCtorEq, Nat.reduceAdd, Nat.reduceLeDiff, Nat.reduceMul, Nat.reduceLT, Int.reduceToNat, Int.reduceLT, Int.reduceLE, Int.reduceEq, Nat.reduceSub, trueP, falseP, Pred.cells_eq, Pred.op, Pred.name, Pred.n, Pred.kids]
def voidP (p : Pred) : Bool := p.same zeroP || p.same trueP
theorem pred_void_ev (p : Pred) : E.C pred_void [.agg (Pred.cells p)] (.one (.bool (voidP p))) := by
  have h0 := pred_Same_ev Z p zeroP
  have h1 := pred_Same_ev Z p trueP
  have h2 := pred_constant_ev Z true
  refine Z.pred_void _ _ ⟨Nat.le_of_ble_eq_true rfl, ?_⟩
  unfold voidP
  simp only [if_true] at h2
  rw [Pred.cells_eq p] at *
  have e0 : Pred.cells zeroP = [.int .i64 0, .str [], .int .i64 0, .lst []] := by rw [Pred.cells_eq]; rfl
  have e1 : Pred.cells trueP = [.int .i64 2, .str [], .int .i64 1, .lst []] := by rw [Pred.cells_eq]; rfl
  rw [e0] at h0
  rw [e1] at h1 h2
  simp only [fn_pred_void, go_sem, Nat.reduceEqDiff, reduceCtorEq, Nat.reduceAdd, Nat.reduceLeDiff, Nat.reduceMul, Nat.reduceLT, Int.reduceToNat, Int.reduceLT, Int.reduceLE, Int.reduceEq, Nat.reduceSub]
  refine call_by h0 ?_
  simp only [go_sem, Nat.reduceEqDiff, reduceCtorEq, Nat.reduceAdd, Nat.reduceLeDiff, Nat.reduceMul, Nat.reduceLT, Int.reduceToNat, Int.reduceLT, Int.reduceLE, Int.reduceEq, Nat.reduceSub]
  refine call_g h2 ?_
  simp only [go_sem, Nat.reduceEqDiff, reduceCtorEq, Nat.reduceAdd, Nat.reduceLeDiff, Nat.reduceMul, Nat.reduceLT, Int.reduceToNat, Int.reduceLT, Int.reduceLE, Int.reduceEq, Nat.reduceSub]
  refine call_g h1 ?_
  simp only [go_sem, Nat.reduceEqDiff, reduceCtorEq, Nat.reduceAdd, Nat.reduceLeDiff, Nat.reduceMul, Nat.reduceLT, Int.reduceToNat, Int.reduceLT, Int.reduceLE, Int.reduceEq, Nat.reduceSub]
/-- the negation of a predicate -/
def notP (p : Pred) : Pred := if p.op == 14 && (p.kids.length : Int) == 1 then p.kids.getD 0 zeroP else if voidP p then falseP else if p.same falseP then trueP else .mk 14 [] 0 [p]
theorem pred_Not_ev (p : Pred) (hp : Tame p) : E.C pred_Not [.agg (Pred.cells p)] (.agg (Pred.cells (notP p))) := by
  have h0 := pred_void_ev Z p
  have h1 := pred_constant_ev Z true
  have h2 := pred_constant_ev Z false
  have h3 := pred_Same_ev Z p falseP
  have h4 := pred_copied_ev Z p hp
  have h5 := fun q hq => pred_copied_ev Z q hq
  refine Z.pred_Not _ _ ⟨Nat.le_of_ble_eq_true rfl, ?_⟩
  generalize hR : notP p = R
  unfold notP at hR
  obtain ⟨o, s, n, ks⟩ := p
  simp only [if_true, Bool.false_eq_true, if_false] at h1 h2
  have e0 : Pred.cells falseP = [.int .i64 2, .str [], .int .i64 0, .lst []] := by rw [Pred.cells_eq]; rfl
  have e1 : Pred.cells trueP = [.int .i64 2, .str [], .int .i64 1, .lst []] := by rw [Pred.cells_eq]; rfl
  rw [Pred.cells_eq (.mk o s n ks)] at *
  rw [e1] at h1
  rw [e0] at h2 h3
  simp only [fn_pred_Not, go_sem, Nat.reduceEqDiff, reduceCtorEq, Nat.reduceAdd, Nat.reduceLeDiff, Nat.reduceMul, Nat.reduceLT, Int.reduceToNat, Int.reduceLT, Int.reduceLE, Int.reduceEq, Nat.reduceSub, Pred.op, Pred.name, Pred.n, Pred.kids] at hR h0 h3 h4 ⊢
  intro hlen
  cases c1 : (o == 14 && (ks.length : Int) == 1) with
  | true =>
    simp only [c1, go_sem, Nat.reduceEqDiff, reduceCtorEq, Nat.reduceAdd, Nat.reduceLeDiff, Nat.reduceMul, Nat.reduceLT, Int.reduceToNat, Int.reduceLT, Int.reduceLE, Int.reduceEq, Nat.reduceSub] at hR ⊢
    obtain ⟨k, rfl⟩ : ∃ k, ks = [k] := one_split (by simp at c1; omega)
    have := h5 k (hp.kid (by simp))
    rw [Pred.cells_eq k] at this
    simp only [go_sem, Nat.reduceEqDiff, reduceCtorEq, Nat.reduceAdd, Nat.reduceLeDiff, Nat.reduceMul, Nat.reduceLT, Int.reduceToNat, Int.reduceLT, Int.reduceLE, Int.reduceEq, Nat.reduceSub, Pred.cells_eq k] at hR ⊢
    refine call_by this ?_
    subst hR
    simp only [go_sem, Nat.reduceEqDiff, reduceCtorEq, Nat.reduceAdd, Nat.reduceLeDiff, Nat.reduceMul, Nat.reduceLT, Int.reduceToNat, Int.reduceLT, Int.reduceLE, Int.reduceEq, Nat.reduceSub, Pred.cells_eq k]
  | false =>
  simp only [c1, go_sem, Nat.reduceEqDiff, reduceCtorEq, Nat.reduceAdd, Nat.reduceLeDiff, Nat.reduceMul, Nat.reduceLT, Int.reduceToNat, Int.reduceLT, Int.reduceLE, Int.reduceEq, Nat.reduceSub] at hR ⊢
  refine call_by h0 ?_
  cases c2 : voidP (.mk o s n ks) with
  | true =>
    simp only [c2, go_sem, Nat.reduceEqDiff, reduceCtorEq, Nat.reduceAdd, Nat.reduceLeDiff, Nat.reduceMul, Nat.reduceLT, Int.reduceToNat, Int.reduceLT, Int.reduceLE, Int.reduceEq, Nat.reduceSub] at hR ⊢
    refine call_by h2 ?_
    subst hR
    simp only [go_sem, Nat.reduceEqDiff, reduceCtorEq, Nat.reduceAdd, Nat.reduceLeDiff, Nat.reduceMul, Nat.reduceLT, Int.reduceToNat, Int.reduceLT, Int.reduceLE, Int.reduceEq, Nat.reduceSub, e0]
  | false =>
  simp only [c2, go_sem, Nat.reduceEqDiff, reduceCtorEq, Nat.reduceAdd, Nat.reduceLeDiff, Nat.reduceMul, Nat.reduceLT, Int.reduceToNat, Int.reduceLT, Int.reduceLE, Int.reduceEq, Nat.reduceSub] at hR ⊢
  refine call_by h2 ?_
  simp only [go_sem, Nat.reduceEqDiff, reduceCtorEq, Nat.reduceAdd, Nat.reduceLeDiff, Nat.reduceMul, Nat.reduceLT, Int.reduceToNat, Int.reduceLT, Int.reduceLE, Int.reduceEq, Nat.reduceSub]
  refine call_by h3 ?_
  cases c3 : (Pred.mk o s n ks).same falseP with
  | true =>
    simp only [c3, go_sem, Nat.reduceEqDiff, reduceCtorEq, Nat.reduceAdd, Nat.reduceLeDiff, Nat.reduceMul, Nat.reduceLT, Int.reduceToNat, Int.reduceLT, Int.reduceLE, Int.reduceEq, Nat.reduceSub] at hR ⊢
    refine call_by h1 ?_
    subst hR
    simp only [go_sem, Nat.reduceEqDiff, reduceCtorEq, Nat.reduceAdd, Nat.reduceLeDiff, Nat.reduceMul, Nat.reduceLT, Int.reduceToNat, Int.reduceLT, Int.reduceLE, Int.reduceEq, Nat.reduceSub, e1]
  | false =>
    simp only [c3, go_sem, Nat.reduceEqDiff, reduceCtorEq, Nat.reduceAdd, Nat.reduceLeDiff, Nat.reduceMul, Nat.reduceLT, Int.reduceToNat, Int.reduceLT, Int.reduceLE, Int.reduceEq, Nat.reduceSub] at hR ⊢
    refine call_by h4 ?_
    subst hR
    simp only [go_sem, Nat.reduceEqDiff, reduceCtorEq, Nat.reduceAdd, Nat.reduceLeDiff, Nat.reduceMul, Nat.reduceLT, Int.reduceToNat, Int.reduceLT, Int.reduceLE, Int.reduceEq, Nat.reduceSub, Pred.cells_eq (.mk 14 [] 0 [.mk o s n ks]), Pred.op, Pred.name, Pred.n, Pred.kids, Pred.cells_eq (.mk o s n ks)]
end Go.Abs
end
section
set_option linter.unusedSimpArgs false
set_option linter.unusedVariables false
set_option linter.unusedSectionVars false
namespace Go.Abs
def pv (s : Str) : Pred := .mk 3 s 0 []
def papp (s : Str) (l : List Pred) : Pred := .mk 4 s 0 l
def p2 (o : Int) (a b : Pred) : Pred := .mk o [] 0 [a, b]
theorem pair_split {α : Type} {l : List α} (h : l.length = 2) : ∃ a b, l = [a, b] := by
  match l, h with
  | [a, b], _ => exact ⟨a, b, rfl⟩
theorem loop_named {E : AEnv} {c : AC} {K : AX → St → Prop} {F : St} (h : ∀ K', K' = K → awp E (.loop c) K' F) : awp E (.loop c) K F := h K rfl
def andStp (x : Pred × Bool) (p : Pred) : Pred × Bool := if voidP p then x else if x.2 then (.mk 15 [] 0 [x.1, p], true) else (p, true)
def andGo (l : List Pred) : Pred × Bool := l.foldl andStp (trueP, false)
def isFalse (p : Pred) : Bool := !voidP p && p.same falseP
/-- the conjunction of predicates -/
def andP (l : List Pred) : Pred := if l.any isFalse then falseP else (andGo l).1
theorem andGo_app (a : List Pred) (k : Pred) : andGo (a ++ [k]) = andStp (andGo a) k := by unfold andGo; rw [List.foldl_append]; rfl
theorem any_mid {α : Type} {f : α → Bool} {l a r : List α} {x : α} (hl : l = a ++ x :: r) (ha : ∀ y ∈ a, f y = false) : l.any f = (f x || r.any f) := by
  rw [hl, List.any_append, List.any_cons]
  have : a.any f = false := by rw [List.any_eq_false]; intro y hy; rw [ha y hy]; exact Bool.false_ne_true
  rw [this, Bool.false_or]
theorem any_none {α : Type} {f : α → Bool} {l : List α} (ha : ∀ y ∈ l, f y = false) : l.any f = false := by rw [List.any_eq_false]; intro y hy; rw [ha y hy]; exact Bool.false_ne_true
theorem seq_named {E : AEnv} {a b : AC} {Q : AX → St → Prop} {st : St} (h : ∀ N, N = awp E b Q → awp E a (seqK N Q) st) : awp E (.seq a b) Q st := h _ rfl
end Go.Abs
end
section
set_option linter.unusedSimpArgs false
set_option linter.unusedVariables false
set_option linter.unusedSectionVars false
namespace Go.Abs

mutual
def Pred.sz : Pred → Nat
  | .mk _ s _ ks => 1 + ((s.length + 1) + (1 + ((Pred.szs ks + 1) + 0))) + 1
def Pred.szs : List Pred → Nat
  | [] => 0
  | k :: ks => Pred.sz k + Pred.szs ks
end
theorem Pred.szs_eq (ks : List Pred) : Pred.szs ks = (ks.map Pred.sz).sum := by
  induction ks with
  | nil => simp [Pred.szs]
  | cons k ks ih => simp [Pred.szs, ih]
/-! ## plain law: what a predicate's parts are, where nothing wraps round -/
namespace Pred
mutual
def cnt : Pred → Nat
  | .mk _ _ _ ks => cnts ks + 1
def cnts : List Pred → Nat
  | [] => 0
  | k :: ks => cnt k + cnts ks
end
mutual
def dep : Pred → Nat
  | .mk _ _ _ ks => deps ks + 1
def deps : List Pred → Nat
  | [] => 0
  | k :: ks => max (dep k) (deps ks)
end
theorem cnt_le {ks : List Pred} {k : Pred} (h : k ∈ ks) : cnt k ≤ cnts ks := by
  induction ks with
  | nil => cases h
  | cons x ks ih =>
    rw [cnts]
    rcases List.mem_cons.1 h with rfl | h
    · omega
    · have := ih h; omega
theorem dep_le {ks : List Pred} {k : Pred} (h : k ∈ ks) : dep k ≤ deps ks := by
  induction ks with
  | nil => cases h
  | cons x ks ih =>
    rw [deps]
    rcases List.mem_cons.1 h with rfl | h
    · omega
    · have := ih h; omega
theorem dep_cnt (p : Pred) : dep p ≤ cnt p := by
  induction p using Pred.ind with
  | h o s n ks ih =>
  have : ∀ l : List Pred, (∀ k ∈ l, dep k ≤ cnt k) → deps l ≤ cnts l := by
    intro l
    induction l with
    | nil => intro _; exact Nat.le_refl _
    | cons x l ih2 =>
      intro h
      have h1 := h x (by simp)
      have h2 := ih2 fun k hk => h k (by simp [hk])
      rw [deps, cnts]; omega
  rw [dep, cnt]
  have := this ks ih
  omega
theorem cnt_sz (p : Pred) : cnt p ≤ sz p := by
  induction p using Pred.ind with
  | h o s n ks ih =>
  have : ∀ l : List Pred, (∀ k ∈ l, cnt k ≤ sz k) → cnts l ≤ szs l := by
    intro l
    induction l with
    | nil => intro _; exact Nat.le_refl _
    | cons x l ih2 =>
      intro h
      have h1 := h x (by simp)
      have h2 := ih2 fun k hk => h k (by simp [hk])
      rw [szs, cnts]; omega
  rw [sz, cnt]
  have := this ks ih
  omega
theorem nodes_cnt (p : Pred) (h : cnt p < 2 ^ 62) : nodes p = cnt p := by
  induction p using Pred.ind with
  | h o s n ks ih =>
  have key : ∀ (l : List Pred) (a : Nat), (∀ k ∈ l, cnt k < 2 ^ 62 → nodes k = cnt k) → a + cnts l < 2 ^ 62 → nodess (a : Int) l = ((a + cnts l : Nat) : Int) := by
    intro l
    induction l with
    | nil => intro a _ _; rw [nodess, cnts]; rfl
    | cons x l ih2 =>
      intro a hk hl
      rw [cnts] at hl
      rw [nodess, hk x (by simp) (by omega), i64_in _ (by omega), cnts]
      have := ih2 (a + cnt x) (fun k hk' => hk k (by simp [hk'])) (by omega)
      rw [← Int.natCast_add, this]
      congr 1; omega
  rw [cnt] at h ⊢
  rw [nodes]
  have := key ks 1 ih (by omega)
  rw [show ((1 : Nat) : Int) = 1 from rfl] at this
  rw [this]
  congr 1; omega
theorem depth_dep (p : Pred) (h : dep p < 2 ^ 62) : depth p = dep p := by
  induction p using Pred.ind with
  | h o s n ks ih =>
  have key : ∀ (l : List Pred) (a : Nat), (∀ k ∈ l, dep k < 2 ^ 62 → depth k = dep k) → deps l < 2 ^ 62 → depths (a : Int) l = ((max a (deps l) : Nat) : Int) := by
    intro l
    induction l with
    | nil => intro a _ _; rw [depths, deps]; simp
    | cons x l ih2 =>
      intro a hk hl
      rw [deps] at hl
      rw [depths, hk x (by simp) (by omega), deps]
      have h2 := fun a => ih2 a (fun k hk' => hk k (by simp [hk'])) (by omega)
      by_cases hc : (dep x : Int) > a
      · rw [if_pos hc, h2]; congr 1; omega
      · rw [if_neg hc, h2]; congr 1; omega
  rw [dep] at h ⊢
  rw [depth]
  have := key ks 0 ih (by omega)
  rw [show ((0 : Nat) : Int) = 0 from rfl] at this
  rw [this, i64_in _ (by omega)]
  omega
end Pred
end Go.Abs
end
section
set_option linter.unusedSimpArgs false
set_option linter.unusedVariables false
set_option linter.unusedSectionVars false
namespace Go.Abs
set_option maxRecDepth 100000
variable {E : AEnv} (Z : Sys E)
include Z
theorem pred_And_ev (l : List Pred) (ht : ∀ p ∈ l, voidP p = false → Tame p) : E.C pred_And [.one (.lst (l.map Pred.cells))] (.agg (andP l).cells) := by
  have hv := pred_void_ev Z
  have hc := fun p hp => pred_copied_ev Z p hp
  have hcf := pred_constant_ev Z false
  have hct := pred_constant_ev Z true
  have hs := fun p => pred_Same_ev Z p falseP
  simp only [if_true, Bool.false_eq_true, if_false] at hcf hct
  have hdr : ∀ p : Pred, List.drop 4 (List.map AV.d p.cells) = [] := fun p => List.drop_of_length_le (by rw [List.length_map, Pred.cells_length]; exact Nat.le_refl _)
  have hcs : ∀ a b : Pred, Pred.cells (.mk 15 [] 0 [a, b]) = [.int .i64 15, .str [], .int .i64 0, .lst [a.cells, b.cells]] := fun a b => by rw [Pred.cells_eq]; rfl
  refine Z.pred_And _ _ ⟨Nat.le_of_ble_eq_true rfl, ?_⟩
  generalize hR : andP l = R
  unfold andP at hR
  simp only [fn_pred_And, go_sem, Nat.reduceEqDiff, reduceCtorEq, Nat.reduceAdd, Nat.reduceLeDiff, Nat.reduceMul, Nat.reduceLT, Int.reduceToNat, Int.reduceLT, Int.reduceLE, Int.reduceEq, Nat.reduceSub]
  refine call_by hct ?_
  simp only [go_sem, Nat.reduceEqDiff, reduceCtorEq, Nat.reduceAdd, Nat.reduceLeDiff, Nat.reduceMul, Nat.reduceLT, Int.reduceToNat, Int.reduceLT, Int.reduceLE, Int.reduceEq, Nat.reduceSub]
  intro hlen
  refine loop_list l (fun done => ∀ x ∈ done, isFalse x = false) (fun done rest => ⟨[(10, .d (.int .i64 done.length)), (9, .d (.int .i64 l.length)), (8, .d (.lst (l.map Pred.cells))), (4, .d (.bool (andGo done).2)), (3, .ptr 3 0), (2, .ptr 2 0)], [(3, (andGo done).1.cells.map .d), (2, [.d (.int .i64 0), .d (.str []), .d (.int .i64 0), .full []])], []⟩) ?_ (by simp) ?_ ?_
  · have h0 : andGo [] = (trueP, false) := rfl
    exact Ent_plain (by simp only [go_sem, Nat.reduceEqDiff, reduceCtorEq, Nat.reduceAdd, Nat.reduceLeDiff, Nat.reduceMul, Nat.reduceLT, Int.reduceToNat, Int.reduceLT, Int.reduceLE, Int.reduceEq, Nat.reduceSub, Option.isSome_some, h0])
  · intro done k r hl hI
    have hlt := lt_mid hl
    have hw : IntKind.i64.wrap ((done.length : Int) + 1) = ((done.length + 1 : Nat) : Int) := wrap_succ (by omega)
    have hfk : isFalse k = (!voidP k && k.same falseP) := rfl
    have hga := andGo_app done k
    unfold andStp at hga
    rw [any_mid hl hI] at hR
    have htk := ht k (by rw [hl]; simp)
    simp only [fn_pred_And_L1, go_sem, Nat.reduceEqDiff, reduceCtorEq, Nat.reduceAdd, Nat.reduceLeDiff, Nat.reduceMul, Nat.reduceLT, Int.reduceToNat, Int.reduceLT, Int.reduceLE, Int.reduceEq, Nat.reduceSub, hlt, getD_midP hl]
    refine call_by (hv k) ?_
    simp only [go_sem, Nat.reduceEqDiff, reduceCtorEq, Nat.reduceAdd, Nat.reduceLeDiff, Nat.reduceMul, Nat.reduceLT, Int.reduceToNat, Int.reduceLT, Int.reduceLE, Int.reduceEq, Nat.reduceSub]
    cases h1 : voidP k with
    | true =>
      simp only [h1, go_sem, Nat.reduceEqDiff, reduceCtorEq, Nat.reduceAdd, Nat.reduceLeDiff, Nat.reduceMul, Nat.reduceLT, Int.reduceToNat, Int.reduceLT, Int.reduceLE, Int.reduceEq, Nat.reduceSub] at hga hfk ⊢
      exact ⟨Ent_plain (by simp only [go_sem, Nat.reduceEqDiff, reduceCtorEq, Nat.reduceAdd, Nat.reduceLeDiff, Nat.reduceMul, Nat.reduceLT, Int.reduceToNat, Int.reduceLT, Int.reduceLE, Int.reduceEq, Nat.reduceSub, hw, hga, Option.isSome_some, List.length_append]), app_all hI hfk⟩
    | false =>
      have htk := htk h1
      simp only [h1, go_sem, Nat.reduceEqDiff, reduceCtorEq, Nat.reduceAdd, Nat.reduceLeDiff, Nat.reduceMul, Nat.reduceLT, Int.reduceToNat, Int.reduceLT, Int.reduceLE, Int.reduceEq, Nat.reduceSub] at hga hfk ⊢
      refine call_by hcf ?_
      simp only [go_sem, Nat.reduceEqDiff, reduceCtorEq, Nat.reduceAdd, Nat.reduceLeDiff, Nat.reduceMul, Nat.reduceLT, Int.reduceToNat, Int.reduceLT, Int.reduceLE, Int.reduceEq, Nat.reduceSub]
      refine call_by (hs k) ?_
      simp only [go_sem, Nat.reduceEqDiff, reduceCtorEq, Nat.reduceAdd, Nat.reduceLeDiff, Nat.reduceMul, Nat.reduceLT, Int.reduceToNat, Int.reduceLT, Int.reduceLE, Int.reduceEq, Nat.reduceSub]
      cases h2 : k.same falseP with
      | true =>
        simp only [h2, go_sem, Nat.reduceEqDiff, reduceCtorEq, Nat.reduceAdd, Nat.reduceLeDiff, Nat.reduceMul, Nat.reduceLT, Int.reduceToNat, Int.reduceLT, Int.reduceLE, Int.reduceEq, Nat.reduceSub] at hfk ⊢
        refine call_by hcf ?_
        simp only [hfk, go_sem, Nat.reduceEqDiff, reduceCtorEq, Nat.reduceAdd, Nat.reduceLeDiff, Nat.reduceMul, Nat.reduceLT, Int.reduceToNat, Int.reduceLT, Int.reduceLE, Int.reduceEq, Nat.reduceSub] at hR ⊢
        subst hR
        simp only [go_sem, Nat.reduceEqDiff, reduceCtorEq, Nat.reduceAdd, Nat.reduceLeDiff, Nat.reduceMul, Nat.reduceLT, Int.reduceToNat, Int.reduceLT, Int.reduceLE, Int.reduceEq, Nat.reduceSub]
      | false =>
        simp only [h2, go_sem, Nat.reduceEqDiff, reduceCtorEq, Nat.reduceAdd, Nat.reduceLeDiff, Nat.reduceMul, Nat.reduceLT, Int.reduceToNat, Int.reduceLT, Int.reduceLE, Int.reduceEq, Nat.reduceSub] at hfk ⊢
        cases h3 : (andGo done).2 with
        | true =>
          simp only [h3, go_sem, Nat.reduceEqDiff, reduceCtorEq, Nat.reduceAdd, Nat.reduceLeDiff, Nat.reduceMul, Nat.reduceLT, Int.reduceToNat, Int.reduceLT, Int.reduceLE, Int.reduceEq, Nat.reduceSub] at hga ⊢
          refine call_by (hc k htk) ?_
          simp only [go_sem, Nat.reduceEqDiff, reduceCtorEq, Nat.reduceAdd, Nat.reduceLeDiff, Nat.reduceMul, Nat.reduceLT, Int.reduceToNat, Int.reduceLT, Int.reduceLE, Int.reduceEq, Nat.reduceSub]
          exact ⟨Ent_plain (by simp only [go_sem, Nat.reduceEqDiff, reduceCtorEq, Nat.reduceAdd, Nat.reduceLeDiff, Nat.reduceMul, Nat.reduceLT, Int.reduceToNat, Int.reduceLT, Int.reduceLE, Int.reduceEq, Nat.reduceSub, hw, hga, hdr, hcs, Option.isSome_some, List.length_append, List.map_cons, List.map_nil]), app_all hI hfk⟩
        | false =>
          simp only [h3, go_sem, Nat.reduceEqDiff, reduceCtorEq, Nat.reduceAdd, Nat.reduceLeDiff, Nat.reduceMul, Nat.reduceLT, Int.reduceToNat, Int.reduceLT, Int.reduceLE, Int.reduceEq, Nat.reduceSub] at hga ⊢
          refine call_by (hc k htk) ?_
          simp only [go_sem, Nat.reduceEqDiff, reduceCtorEq, Nat.reduceAdd, Nat.reduceLeDiff, Nat.reduceMul, Nat.reduceLT, Int.reduceToNat, Int.reduceLT, Int.reduceLE, Int.reduceEq, Nat.reduceSub]
          exact ⟨Ent_plain (by simp only [go_sem, Nat.reduceEqDiff, reduceCtorEq, Nat.reduceAdd, Nat.reduceLeDiff, Nat.reduceMul, Nat.reduceLT, Int.reduceToNat, Int.reduceLT, Int.reduceLE, Int.reduceEq, Nat.reduceSub, hw, hga, hdr, List.append_nil, Option.isSome_some, List.length_append]), app_all hI hfk⟩
  · intro hI
    rw [any_none hI] at hR
    simp only [fn_pred_And_L1, go_sem, Nat.reduceEqDiff, reduceCtorEq, Nat.reduceAdd, Nat.reduceLeDiff, Nat.reduceMul, Nat.reduceLT, Int.reduceToNat, Int.reduceLT, Int.reduceLE, Int.reduceEq, Nat.reduceSub] at hR ⊢
    rw [hR]
omit Z in
omit Z in
omit Z in
omit Z in
omit Z in
omit Z in
omit Z in
omit Z in
omit Z in
omit Z in
omit Z in
omit Z in
omit Z
end Go.Abs
end
section
set_option linter.unusedSimpArgs false
set_option linter.unusedVariables false
set_option linter.unusedSectionVars false
namespace Go.Abs
/-! ## points and facts as data -/
structure Coef where
  name : Str
  n : Int
def Coef.cells (v : Coef) : List D := [.str v.name, .int .i64 v.n]
def icell (n : Int) : List D := [.int .i64 n]
structure Fact where
  name : Str
  args : List Int
  res : Int
def Fact.cells (v : Fact) : List D := [.str v.name, .lst (v.args.map icell), .int .i64 v.res]
theorem Coef.lens (l : List Coef) : (∀ e ∈ l.map Coef.cells, e.length = 2) = True := lens_map (f := Coef.cells) (fun _ => rfl) l
theorem Fact.lens (l : List Fact) : (∀ e ∈ l.map Fact.cells, e.length = 3) = True := lens_map (f := Fact.cells) (fun _ => rfl) l
theorem icell_lens (l : List Int) : (∀ e ∈ l.map icell, e.length = 1) = True := lens_map (f := icell) (fun _ => rfl) l
attribute [go_sem] Coef.lens Fact.lens icell_lens
set_option maxRecDepth 100000
variable {E : AEnv} (Z : Sys E)
include Z
end Go.Abs
end
section
set_option linter.unusedSimpArgs false
set_option linter.unusedVariables false
set_option linter.unusedSectionVars false
namespace Go.Abs
/-- no node is wrong -/
def Good : Pred → Prop := AllN fun q => Pred.err q = 0
theorem Good.kid {o : Int} {s : Str} {n : Int} {ks : List Pred} (h : Good (.mk o s n ks)) {k : Pred} (hk : k ∈ ks) : Good k := AllN.kid h hk
theorem Good.top {o : Int} {s : Str} {n : Int} {ks : List Pred} (h : Good (.mk o s n ks)) : (1 ≤ o ∧ o ≤ 18) ∧ kidsOk o ks.length = true ∧ (o ≠ 1 → o ≠ 2 → n = 0) ∧ (isOpNamed o = false → s = []) := by
  have h := AllN.top h
  change nodeE o s n ks = 0 at h
  unfold nodeE at h
  by_cases h1 : (decide (o < 1) || decide (o > 18) || !s == [] && !isOpNamed o || n != 0 && !(o == 1 || o == 2) || !kidsOk o ks.length) = true
  · rw [if_pos h1] at h; cases h
  · simp only [Bool.or_eq_true, not_or, decide_eq_true_eq, Bool.and_eq_true, Bool.not_eq_true', bne_iff_ne, ne_eq, Bool.or_eq_false_iff, beq_eq_false_iff_ne, not_and] at h1
    obtain ⟨⟨⟨⟨a1, a2⟩, a3⟩, a4⟩, a5⟩ := h1
    refine ⟨⟨by omega, by omega⟩, by simpa using a5, fun e1 e2 => ?_, fun e => ?_⟩
    · by_cases hn : n = 0
      · exact hn
      · exact absurd e2 (fun e2 => a4 hn e1 e2)
    · by_cases hs : s = []
      · exact hs
      · exact absurd e (a3 (by simpa using hs))
theorem good_of {p : Pred} (h : p.checkE = 0) : Good p := by
  have := formE_of_check h
  rw [Pred.formE_first] at this
  exact fun q hq => first_zero this q hq
theorem kids_leaf {o : Int} {ks : List Pred} (hk : kidsOk o ks.length = true) (h : (o == 1 || o == 2 || o == 3) = true) : ks = [] := by
  unfold kidsOk at hk
  rw [if_pos h] at hk
  simpa using hk
set_option maxRecDepth 100000
variable {E : AEnv} (Z : Sys E)
include Z
end Go.Abs
end
section
set_option linter.unusedSimpArgs false
set_option linter.unusedVariables false
set_option linter.unusedSectionVars false
namespace Go.Abs
def pn (k : Int) : Pred := .mk 1 [] k []
def pop (o : Int) (l : List Pred) : Pred := .mk o [] 0 l
theorem papp_cells (s : Str) (l : List Pred) : Pred.cells (papp s l) = [.int .i64 4, .str s, .int .i64 0, .lst (l.map Pred.cells)] := by rw [papp, Pred.cells_eq]; rfl
set_option maxRecDepth 100000
end Go.Abs
end
