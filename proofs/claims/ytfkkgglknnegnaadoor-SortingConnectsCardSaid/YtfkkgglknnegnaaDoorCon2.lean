/-
  CONTRACTS: what the functions answer, as plain Lean functions, each by evaluation at the abstract machine.
-/
import Derived.Test.YtfkkgglknnegnaaDoorCon1
section
set_option linter.unusedSimpArgs false
set_option linter.unusedVariables false
set_option linter.unusedSectionVars false
namespace Go.Abs
def plainS (s : Str) : Bool := s == sInt || s == sBool || s == sCell
def allS (l : List Str) (s : Str) : Bool := l.all (· == s)
/-- the sort of an operation -/
def opS (o : Int) (l : List Str) : Str × Int :=
  if o == 6 || o == 7 || o == 8 || o == 9 then (if allS l sInt then (sInt, 0) else ([], 11))
  else if o == 12 || o == 13 then (if allS l sInt then (sBool, 0) else ([], 11))
  else if o == 10 || o == 11 then (if l.getD 0 [] == l.getD 1 [] then (sBool, 0) else ([], 11))
  else if allS l sBool then (sBool, 0) else ([], 11)
/-- the sort of an application -/
def appS (v : SEnv) (s : Str) (l : List Str) : Str × Int :=
  if !(findSym v.syms s).2 then ([], 5)
  else if s == sTag then (if (l.length : Int) != 1 then ([], 13) else if plainS (l.getD 0 []) then ([], 11) else (sInt, 0))
  else if (l.length : Int) != (findSym v.syms s).1.args.length then ([], 13)
  else if !(l == (findSym v.syms s).1.args) then ([], 11) else ((findSym v.syms s).1.res, 0)
/-- the sort of an applied hole -/
def holeS (v : SEnv) (s : Str) (l : List Str) : Str × Int :=
  if !(findHole v.holes s).2 then ([], 5)
  else if (l.length : Int) != (findHole v.holes s).1.params.length then ([], 13)
  else if !(l == (findHole v.holes s).1.params.map SVar.sort) then ([], 11) else (sBool, 0)
def two (r : Str × Int) : CV := .tup [.one (.str r.1), .one (.int .i64 r.2)]
theorem all_mid {l a r : List Str} {x s : Str} (hl : l = a ++ x :: r) (ha : ∀ y ∈ a, (y == s) = true) : allS l s = ((x == s) && allS r s) := by
  rw [hl]; unfold allS
  rw [List.all_append, List.all_cons, List.all_eq_true.2 ha, Bool.true_and]
theorem all_all {a : List Str} {s : Str} (ha : ∀ y ∈ a, (y == s) = true) : allS a s = true := List.all_eq_true.2 ha
theorem map_mid {α β : Type} {f : α → β} {l : List α} {a b : List β} {x : β} (h : l.map f = a ++ x :: b) : ∃ a' y b', l = a' ++ y :: b' ∧ a'.map f = a ∧ x = f y := by
  obtain ⟨a', r, h1, h2, h3⟩ := List.map_eq_append_iff.1 h
  obtain ⟨p, b', h4, h5, h6⟩ := List.map_eq_cons_iff.1 h3
  exact ⟨a', p, b', by rw [h1, h4], h2, h5.symm⟩
variable {E : AEnv} (Z : Sys E)
include Z
theorem sorting_plain_ev (s : Str) : E.C sorting_plain [.one (.str s)] (.one (.bool (plainS s))) := by
  refine Z.sorting_plain _ _ ⟨Nat.le_of_ble_eq_true rfl, ?_⟩
  simp only [fn_sorting_plain, go_sem, Nat.reduceEqDiff, reduceCtorEq, Nat.reduceAdd, Nat.reduceLeDiff, Bool.false_eq_true, Nat.reduceMul, Bool.true_eq_false, Nat.reduceLT, gR1, gR2, gR3, gR4, gR5, gR6, gR7, gR8, gR9, gR10, gR11, gR12, gR13, gR14, gR15, Int.reduceToNat, Int.cast_ofNat_Int, Int.natCast_one, Int.reduceLT, Int.reduceLE, List.getD_nil, Int.toNat_natCast, Int.natCast_zero, false_and, and_false, Int.toNat_zero, Int.toNat_one, Int.reduceEq, Nat.reduceSub, plainS, sInt, sBool, sCell]
theorem r09_all_ev (l : List Str) (s : Str) : E.C r09_all [.one (.lst (l.map scell)), .one (.str s)] (.one (.bool (allS l s))) := by
  refine Z.r09_all _ _ ⟨Nat.le_of_ble_eq_true rfl, ?_⟩
  generalize hR : allS l s = R
  simp only [fn_r09_all, go_sem, Nat.reduceEqDiff, reduceCtorEq, Nat.reduceAdd, Nat.reduceLeDiff, Bool.false_eq_true, Nat.reduceMul, Bool.true_eq_false, Nat.reduceLT, gR1, gR2, gR3, gR4, gR5, gR6, gR7, gR8, gR9, gR10, gR11, gR12, gR13, gR14, gR15, Int.reduceToNat, Int.cast_ofNat_Int, Int.natCast_one, Int.reduceLT, Int.reduceLE, List.getD_nil, Int.toNat_natCast, Int.natCast_zero, false_and, and_false, Int.toNat_zero, Int.toNat_one, Int.reduceEq, Nat.reduceSub]
  refine loop_list l (fun done => ∀ y ∈ done, (y == s) = true) (fun done rest => ⟨[(5, .d (.int .i64 done.length)), (0, .d (.lst (l.map scell))), (1, .d (.str s))], [], []⟩) ?_ (by simp) ?_ ?_
  · exact Ent_plain (by simp only [go_sem, Nat.reduceEqDiff, reduceCtorEq, Nat.reduceAdd, Nat.reduceLeDiff, Bool.false_eq_true, Nat.reduceMul, Bool.true_eq_false, Nat.reduceLT, gR1, gR2, gR3, gR4, gR5, gR6, gR7, gR8, gR9, gR10, gR11, gR12, gR13, gR14, gR15, Int.reduceToNat, Int.cast_ofNat_Int, Int.natCast_one, Int.reduceLT, Int.reduceLE, List.getD_nil, Int.toNat_natCast, Int.natCast_zero, false_and, and_false, Int.toNat_zero, Int.toNat_one, Int.reduceEq, Nat.reduceSub])
  · intro done x r hl hI
    have hx := getD_at (f := scell) (d := []) hl
    have hlt := lt_mid hl
    rw [all_mid hl hI] at hR
    simp only [fn_r09_all_L1, go_sem, Nat.reduceEqDiff, reduceCtorEq, Nat.reduceAdd, Nat.reduceLeDiff, Bool.false_eq_true, Nat.reduceMul, Bool.true_eq_false, Nat.reduceLT, gR1, gR2, gR3, gR4, gR5, gR6, gR7, gR8, gR9, gR10, gR11, gR12, gR13, gR14, gR15, Int.reduceToNat, Int.cast_ofNat_Int, Int.natCast_one, Int.reduceLT, Int.reduceLE, List.getD_nil, Int.toNat_natCast, Int.natCast_zero, false_and, and_false, Int.toNat_zero, Int.toNat_one, Int.reduceEq, Nat.reduceSub, hx, hlt, scell]
    intro hlen
    have hw : IntKind.i64.wrap ((done.length : Int) + 1) = ((done.length + 1 : Nat) : Int) := wrap_succ (by omega)
    cases h1 : (x == s) with
    | true =>
      simp only [h1, go_sem, Nat.reduceEqDiff, reduceCtorEq, Nat.reduceAdd, Nat.reduceLeDiff, Bool.false_eq_true, Nat.reduceMul, Bool.true_eq_false, Nat.reduceLT, gR1, gR2, gR3, gR4, gR5, gR6, gR7, gR8, gR9, gR10, gR11, gR12, gR13, gR14, gR15, Int.reduceToNat, Int.cast_ofNat_Int, Int.natCast_one, Int.reduceLT, Int.reduceLE, List.getD_nil, Int.toNat_natCast, Int.natCast_zero, false_and, and_false, Int.toNat_zero, Int.toNat_one, Int.reduceEq, Nat.reduceSub, hw, List.length_append]
      exact ⟨Ent_plain (by simp only [go_sem, Nat.reduceEqDiff, reduceCtorEq, Nat.reduceAdd, Nat.reduceLeDiff, Bool.false_eq_true, Nat.reduceMul, Bool.true_eq_false, Nat.reduceLT, gR1, gR2, gR3, gR4, gR5, gR6, gR7, gR8, gR9, gR10, gR11, gR12, gR13, gR14, gR15, Int.reduceToNat, Int.cast_ofNat_Int, Int.natCast_one, Int.reduceLT, Int.reduceLE, List.getD_nil, Int.toNat_natCast, Int.natCast_zero, false_and, and_false, Int.toNat_zero, Int.toNat_one, Int.reduceEq, Nat.reduceSub]), app_all hI h1⟩
    | false => simp only [h1, go_sem, Nat.reduceEqDiff, reduceCtorEq, Nat.reduceAdd, Nat.reduceLeDiff, Bool.false_eq_true, Nat.reduceMul, Bool.true_eq_false, Nat.reduceLT, gR1, gR2, gR3, gR4, gR5, gR6, gR7, gR8, gR9, gR10, gR11, gR12, gR13, gR14, gR15, Int.reduceToNat, Int.cast_ofNat_Int, Int.natCast_one, Int.reduceLT, Int.reduceLE, List.getD_nil, Int.toNat_natCast, Int.natCast_zero, false_and, and_false, Int.toNat_zero, Int.toNat_one, Int.reduceEq, Nat.reduceSub] at hR ⊢; exact hR
  · intro hI
    rw [all_all hI] at hR
    subst hR
    simp only [fn_r09_all_L1, go_sem, Nat.reduceEqDiff, reduceCtorEq, Nat.reduceAdd, Nat.reduceLeDiff, Bool.false_eq_true, Nat.reduceMul, Bool.true_eq_false, Nat.reduceLT, gR1, gR2, gR3, gR4, gR5, gR6, gR7, gR8, gR9, gR10, gR11, gR12, gR13, gR14, gR15, Int.reduceToNat, Int.cast_ofNat_Int, Int.natCast_one, Int.reduceLT, Int.reduceLE, List.getD_nil, Int.toNat_natCast, Int.natCast_zero, false_and, and_false, Int.toNat_zero, Int.toNat_one, Int.reduceEq, Nat.reduceSub, implies_true]
theorem sorting_all_ev (s : Str) : E.C sorting_all [.one (.str s)] (.one (.clo sorting_all_1 [.ref [.str s]])) := by
  refine Z.sorting_all _ _ ⟨Nat.le_of_ble_eq_true rfl, ?_⟩
  simp only [fn_sorting_all, go_sem, Nat.reduceEqDiff, reduceCtorEq, Nat.reduceAdd, Nat.reduceLeDiff, Bool.false_eq_true, Nat.reduceMul, Bool.true_eq_false, Nat.reduceLT, gR1, gR2, gR3, gR4, gR5, gR6, gR7, gR8, gR9, gR10, gR11, gR12, gR13, gR14, gR15, Int.reduceToNat, Int.cast_ofNat_Int, Int.natCast_one, Int.reduceLT, Int.reduceLE, List.getD_nil, Int.toNat_natCast, Int.natCast_zero, false_and, and_false, Int.toNat_zero, Int.toNat_one, Int.reduceEq, Nat.reduceSub]
  rfl
theorem sorting_all_1_ev (l : List Str) (s : Str) : E.C sorting_all_1 [.one (.lst (l.map scell)), .one (.ref [.str s])] (.one (.bool (allS l s))) := by
  refine Z.sorting_all_1 _ _ ⟨Nat.le_of_ble_eq_true rfl, ?_⟩
  generalize hR : allS l s = R
  simp only [fn_sorting_all_1, go_sem, Nat.reduceEqDiff, reduceCtorEq, Nat.reduceAdd, Nat.reduceLeDiff, Bool.false_eq_true, Nat.reduceMul, Bool.true_eq_false, Nat.reduceLT, gR1, gR2, gR3, gR4, gR5, gR6, gR7, gR8, gR9, gR10, gR11, gR12, gR13, gR14, gR15, Int.reduceToNat, Int.cast_ofNat_Int, Int.natCast_one, Int.reduceLT, Int.reduceLE, List.getD_nil, Int.toNat_natCast, Int.natCast_zero, false_and, and_false, Int.toNat_zero, Int.toNat_one, Int.reduceEq, Nat.reduceSub]
  intro hlen
  refine loop_list l (fun done => ∀ y ∈ done, (y == s) = true) (fun done rest => ⟨[(8, .d (.int .i64 done.length)), (7, .d (.int .i64 l.length)), (6, .d (.lst (l.map scell))), (1, .d (.ref [.str s]))], [], []⟩) ?_ (by simp) ?_ ?_
  · exact Ent_plain (by simp only [go_sem, Nat.reduceEqDiff, reduceCtorEq, Nat.reduceAdd, Nat.reduceLeDiff, Bool.false_eq_true, Nat.reduceMul, Bool.true_eq_false, Nat.reduceLT, gR1, gR2, gR3, gR4, gR5, gR6, gR7, gR8, gR9, gR10, gR11, gR12, gR13, gR14, gR15, Int.reduceToNat, Int.cast_ofNat_Int, Int.natCast_one, Int.reduceLT, Int.reduceLE, List.getD_nil, Int.toNat_natCast, Int.natCast_zero, false_and, and_false, Int.toNat_zero, Int.toNat_one, Int.reduceEq, Nat.reduceSub])
  · intro done x r hl hI
    have hx := getD_at (f := scell) (d := []) hl
    have hlt := lt_mid hl
    have hw : IntKind.i64.wrap ((done.length : Int) + 1) = ((done.length + 1 : Nat) : Int) := wrap_succ (by omega)
    rw [all_mid hl hI] at hR
    simp only [fn_sorting_all_1_L1, go_sem, Nat.reduceEqDiff, reduceCtorEq, Nat.reduceAdd, Nat.reduceLeDiff, Bool.false_eq_true, Nat.reduceMul, Bool.true_eq_false, Nat.reduceLT, gR1, gR2, gR3, gR4, gR5, gR6, gR7, gR8, gR9, gR10, gR11, gR12, gR13, gR14, gR15, Int.reduceToNat, Int.cast_ofNat_Int, Int.natCast_one, Int.reduceLT, Int.reduceLE, List.getD_nil, Int.toNat_natCast, Int.natCast_zero, false_and, and_false, Int.toNat_zero, Int.toNat_one, Int.reduceEq, Nat.reduceSub, hx, hlt, scell]
    cases h1 : (x == s) with
    | true =>
      simp only [h1, go_sem, Nat.reduceEqDiff, reduceCtorEq, Nat.reduceAdd, Nat.reduceLeDiff, Bool.false_eq_true, Nat.reduceMul, Bool.true_eq_false, Nat.reduceLT, gR1, gR2, gR3, gR4, gR5, gR6, gR7, gR8, gR9, gR10, gR11, gR12, gR13, gR14, gR15, Int.reduceToNat, Int.cast_ofNat_Int, Int.natCast_one, Int.reduceLT, Int.reduceLE, List.getD_nil, Int.toNat_natCast, Int.natCast_zero, false_and, and_false, Int.toNat_zero, Int.toNat_one, Int.reduceEq, Nat.reduceSub, hw, List.length_append]
      exact ⟨Ent_plain (by simp only [go_sem, Nat.reduceEqDiff, reduceCtorEq, Nat.reduceAdd, Nat.reduceLeDiff, Bool.false_eq_true, Nat.reduceMul, Bool.true_eq_false, Nat.reduceLT, gR1, gR2, gR3, gR4, gR5, gR6, gR7, gR8, gR9, gR10, gR11, gR12, gR13, gR14, gR15, Int.reduceToNat, Int.cast_ofNat_Int, Int.natCast_one, Int.reduceLT, Int.reduceLE, List.getD_nil, Int.toNat_natCast, Int.natCast_zero, false_and, and_false, Int.toNat_zero, Int.toNat_one, Int.reduceEq, Nat.reduceSub]), app_all hI h1⟩
    | false => simp only [h1, go_sem, Nat.reduceEqDiff, reduceCtorEq, Nat.reduceAdd, Nat.reduceLeDiff, Bool.false_eq_true, Nat.reduceMul, Bool.true_eq_false, Nat.reduceLT, gR1, gR2, gR3, gR4, gR5, gR6, gR7, gR8, gR9, gR10, gR11, gR12, gR13, gR14, gR15, Int.reduceToNat, Int.cast_ofNat_Int, Int.natCast_one, Int.reduceLT, Int.reduceLE, List.getD_nil, Int.toNat_natCast, Int.natCast_zero, false_and, and_false, Int.toNat_zero, Int.toNat_one, Int.reduceEq, Nat.reduceSub] at hR ⊢; exact hR
  · intro hI
    rw [all_all hI] at hR
    subst hR
    simp only [fn_sorting_all_1_L1, go_sem, Nat.reduceEqDiff, reduceCtorEq, Nat.reduceAdd, Nat.reduceLeDiff, Bool.false_eq_true, Nat.reduceMul, Bool.true_eq_false, Nat.reduceLT, gR1, gR2, gR3, gR4, gR5, gR6, gR7, gR8, gR9, gR10, gR11, gR12, gR13, gR14, gR15, Int.reduceToNat, Int.cast_ofNat_Int, Int.natCast_one, Int.reduceLT, Int.reduceLE, List.getD_nil, Int.toNat_natCast, Int.natCast_zero, false_and, and_false, Int.toNat_zero, Int.toNat_one, Int.reduceEq, Nat.reduceSub]
theorem sorting_ruleOf_1_ev (l : List Str) (hl : 2 ≤ l.length) : E.C sorting_ruleOf_1 [.one (.lst (l.map scell))] (.one (.bool (l.getD 0 [] == l.getD 1 []))) := by
  match l, hl with
  | a :: b :: r, _ =>
    refine Z.sorting_ruleOf_1 _ _ ⟨Nat.le_of_ble_eq_true rfl, ?_⟩
    have h := scell_lens (a :: b :: r)
    have h1 : (0 : Int) < ((r.length + 1 + 1 : Nat) : Int) := by omega
    have h2 : (1 : Int) < ((r.length + 1 + 1 : Nat) : Int) := by omega
    simp only [List.map_cons] at h
    simp only [fn_sorting_ruleOf_1, go_sem, Nat.reduceEqDiff, reduceCtorEq, Nat.reduceAdd, Nat.reduceLeDiff, Bool.false_eq_true, Nat.reduceMul, Bool.true_eq_false, Nat.reduceLT, gR1, gR2, gR3, gR4, gR5, gR6, gR7, gR8, gR9, gR10, gR11, gR12, gR13, gR14, gR15, Int.reduceToNat, Int.cast_ofNat_Int, Int.natCast_one, Int.reduceLT, Int.reduceLE, List.getD_nil, Int.toNat_natCast, Int.natCast_zero, false_and, and_false, Int.toNat_zero, Int.toNat_one, Int.reduceEq, Nat.reduceSub, h, scell, h1, h2] at h ⊢
/-- the rule of an operation: which function, and the result -/
def ruleS (o : Int) : D × Str :=
  if o == 6 || o == 7 || o == 8 || o == 9 then (.clo sorting_all_1 [.ref [.str sInt]], sInt)
  else if o == 12 || o == 13 then (.clo sorting_all_1 [.ref [.str sInt]], sBool)
  else if o == 10 || o == 11 then (.clo sorting_ruleOf_1 [], sBool)
  else (.clo sorting_all_1 [.ref [.str sBool]], sBool)
theorem sorting_ruleOf_ev (o : Int) : E.C sorting_ruleOf [.one (.int .i64 o)] (.agg [(ruleS o).1, .str (ruleS o).2]) := by
  refine Z.sorting_ruleOf _ _ ⟨Nat.le_of_ble_eq_true rfl, ?_⟩
  generalize hR : ruleS o = R
  unfold ruleS at hR
  have ha := sorting_all_ev Z sInt
  have hb := sorting_all_ev Z sBool
  simp only [sInt, sBool] at ha hb hR
  simp only [fn_sorting_ruleOf, go_sem, Nat.reduceEqDiff, reduceCtorEq, Nat.reduceAdd, Nat.reduceLeDiff, Bool.false_eq_true, Nat.reduceMul, Bool.true_eq_false, Nat.reduceLT, gR1, gR2, gR3, gR4, gR5, gR6, gR7, gR8, gR9, gR10, gR11, gR12, gR13, gR14, gR15, Int.reduceToNat, Int.cast_ofNat_Int, Int.natCast_one, Int.reduceLT, Int.reduceLE, List.getD_nil, Int.toNat_natCast, Int.natCast_zero, false_and, and_false, Int.toNat_zero, Int.toNat_one, Int.reduceEq, Nat.reduceSub]
  cases h6 : (o == 6) <;> cases h7 : (o == 7) <;> cases h8 : (o == 8) <;> cases h9 : (o == 9) <;> cases h12 : (o == 12) <;> cases h13 : (o == 13) <;> cases h10 : (o == 10) <;> cases h11 : (o == 11) <;>
    first
    | (exfalso; simp at *; omega)
    | (simp only [go_sem, Nat.reduceEqDiff, reduceCtorEq, Nat.reduceAdd, Nat.reduceLeDiff, Bool.false_eq_true, Nat.reduceMul, Bool.true_eq_false, Nat.reduceLT, gR1, gR2, gR3, gR4, gR5, gR6, gR7, gR8, gR9, gR10, gR11, gR12, gR13, gR14, gR15, Int.reduceToNat, Int.cast_ofNat_Int, Int.natCast_one, Int.reduceLT, Int.reduceLE, List.getD_nil, Int.toNat_natCast, Int.natCast_zero, false_and, and_false, Int.toNat_zero, Int.toNat_one, Int.reduceEq, Nat.reduceSub, h6, h7, h8, h9, h10, h11, h12, h13] at hR ⊢; first | (refine call_by ha ?_; simp only [go_sem, Nat.reduceEqDiff, reduceCtorEq, Nat.reduceAdd, Nat.reduceLeDiff, Bool.false_eq_true, Nat.reduceMul, Bool.true_eq_false, Nat.reduceLT, gR1, gR2, gR3, gR4, gR5, gR6, gR7, gR8, gR9, gR10, gR11, gR12, gR13, gR14, gR15, Int.reduceToNat, Int.cast_ofNat_Int, Int.natCast_one, Int.reduceLT, Int.reduceLE, List.getD_nil, Int.toNat_natCast, Int.natCast_zero, false_and, and_false, Int.toNat_zero, Int.toNat_one, Int.reduceEq, Nat.reduceSub, ← hR]) | (refine call_by hb ?_; simp only [go_sem, Nat.reduceEqDiff, reduceCtorEq, Nat.reduceAdd, Nat.reduceLeDiff, Bool.false_eq_true, Nat.reduceMul, Bool.true_eq_false, Nat.reduceLT, gR1, gR2, gR3, gR4, gR5, gR6, gR7, gR8, gR9, gR10, gR11, gR12, gR13, gR14, gR15, Int.reduceToNat, Int.cast_ofNat_Int, Int.natCast_one, Int.reduceLT, Int.reduceLE, List.getD_nil, Int.toNat_natCast, Int.natCast_zero, false_and, and_false, Int.toNat_zero, Int.toNat_one, Int.reduceEq, Nat.reduceSub, ← hR]) | simp only [go_sem, Nat.reduceEqDiff, reduceCtorEq, Nat.reduceAdd, Nat.reduceLeDiff, Bool.false_eq_true, Nat.reduceMul, Bool.true_eq_false, Nat.reduceLT, gR1, gR2, gR3, gR4, gR5, gR6, gR7, gR8, gR9, gR10, gR11, gR12, gR13, gR14, gR15, Int.reduceToNat, Int.cast_ofNat_Int, Int.natCast_one, Int.reduceLT, Int.reduceLE, List.getD_nil, Int.toNat_natCast, Int.natCast_zero, false_and, and_false, Int.toNat_zero, Int.toNat_one, Int.reduceEq, Nat.reduceSub, ← hR])
theorem sorting_applied_ev (v : SEnv) (hv : v.Ok) (s : Str) (l : List Str) : E.C sorting_applied [.agg v.cells, .one (.str s), .one (.lst (l.map scell))] (two (appS v s l)) := by
  have hf := sort_Find_ev Z v hv s
  refine Z.sorting_applied _ _ ⟨Nat.le_of_ble_eq_true rfl, ?_⟩
  generalize hR : appS v s l = R
  unfold appS at hR
  unfold two
  rw [SEnv.cells] at *
  simp only [fn_sorting_applied, go_sem, Nat.reduceEqDiff, reduceCtorEq, Nat.reduceAdd, Nat.reduceLeDiff, Bool.false_eq_true, Nat.reduceMul, Bool.true_eq_false, Nat.reduceLT, gR1, gR2, gR3, gR4, gR5, gR6, gR7, gR8, gR9, gR10, gR11, gR12, gR13, gR14, gR15, Int.reduceToNat, Int.cast_ofNat_Int, Int.natCast_one, Int.reduceLT, Int.reduceLE, List.getD_nil, Int.toNat_natCast, Int.natCast_zero, false_and, and_false, Int.toNat_zero, Int.toNat_one, Int.reduceEq, Nat.reduceSub]
  refine call_by hf ?_
  have htag : (s == sTag) = true → (findSym v.syms s).1.res = sInt := by intro h; unfold findSym; rw [if_pos h]
  generalize findSym v.syms s = q at *
  obtain ⟨⟨qn, qa, qr⟩, qb⟩ := q
  simp only [go_sem, Nat.reduceEqDiff, reduceCtorEq, Nat.reduceAdd, Nat.reduceLeDiff, Bool.false_eq_true, Nat.reduceMul, Bool.true_eq_false, Nat.reduceLT, gR1, gR2, gR3, gR4, gR5, gR6, gR7, gR8, gR9, gR10, gR11, gR12, gR13, gR14, gR15, Int.reduceToNat, Int.cast_ofNat_Int, Int.natCast_one, Int.reduceLT, Int.reduceLE, List.getD_nil, Int.toNat_natCast, Int.natCast_zero, false_and, and_false, Int.toNat_zero, Int.toNat_one, Int.reduceEq, Nat.reduceSub, SSym.cells] at hR ⊢
  cases qb with
  | false => simp only [go_sem, Nat.reduceEqDiff, reduceCtorEq, Nat.reduceAdd, Nat.reduceLeDiff, Bool.false_eq_true, Nat.reduceMul, Bool.true_eq_false, Nat.reduceLT, gR1, gR2, gR3, gR4, gR5, gR6, gR7, gR8, gR9, gR10, gR11, gR12, gR13, gR14, gR15, Int.reduceToNat, Int.cast_ofNat_Int, Int.natCast_one, Int.reduceLT, Int.reduceLE, List.getD_nil, Int.toNat_natCast, Int.natCast_zero, false_and, and_false, Int.toNat_zero, Int.toNat_one, Int.reduceEq, Nat.reduceSub] at hR ⊢; simp only [go_sem, Nat.reduceEqDiff, reduceCtorEq, Nat.reduceAdd, Nat.reduceLeDiff, Bool.false_eq_true, Nat.reduceMul, Bool.true_eq_false, Nat.reduceLT, gR1, gR2, gR3, gR4, gR5, gR6, gR7, gR8, gR9, gR10, gR11, gR12, gR13, gR14, gR15, Int.reduceToNat, Int.cast_ofNat_Int, Int.natCast_one, Int.reduceLT, Int.reduceLE, List.getD_nil, Int.toNat_natCast, Int.natCast_zero, false_and, and_false, Int.toNat_zero, Int.toNat_one, Int.reduceEq, Nat.reduceSub, ← hR]
  | true =>
  simp only [go_sem, Nat.reduceEqDiff, reduceCtorEq, Nat.reduceAdd, Nat.reduceLeDiff, Bool.false_eq_true, Nat.reduceMul, Bool.true_eq_false, Nat.reduceLT, gR1, gR2, gR3, gR4, gR5, gR6, gR7, gR8, gR9, gR10, gR11, gR12, gR13, gR14, gR15, Int.reduceToNat, Int.cast_ofNat_Int, Int.natCast_one, Int.reduceLT, Int.reduceLE, List.getD_nil, Int.toNat_natCast, Int.natCast_zero, false_and, and_false, Int.toNat_zero, Int.toNat_one, Int.reduceEq, Nat.reduceSub] at hR ⊢
  cases h1 : (s == sTag) with
  | true =>
    have h1' := h1
    simp only [sTag] at h1'
    have hq := htag h1
    simp only at hq
    simp only [go_sem, Nat.reduceEqDiff, reduceCtorEq, Nat.reduceAdd, Nat.reduceLeDiff, Bool.false_eq_true, Nat.reduceMul, Bool.true_eq_false, Nat.reduceLT, gR1, gR2, gR3, gR4, gR5, gR6, gR7, gR8, gR9, gR10, gR11, gR12, gR13, gR14, gR15, Int.reduceToNat, Int.cast_ofNat_Int, Int.natCast_one, Int.reduceLT, Int.reduceLE, List.getD_nil, Int.toNat_natCast, Int.natCast_zero, false_and, and_false, Int.toNat_zero, Int.toNat_one, Int.reduceEq, Nat.reduceSub, h1, h1'] at hR ⊢
    intro hlen
    cases h2 : ((l.length : Int) != 1) with
    | true => simp only [go_sem, Nat.reduceEqDiff, reduceCtorEq, Nat.reduceAdd, Nat.reduceLeDiff, Bool.false_eq_true, Nat.reduceMul, Bool.true_eq_false, Nat.reduceLT, gR1, gR2, gR3, gR4, gR5, gR6, gR7, gR8, gR9, gR10, gR11, gR12, gR13, gR14, gR15, Int.reduceToNat, Int.cast_ofNat_Int, Int.natCast_one, Int.reduceLT, Int.reduceLE, List.getD_nil, Int.toNat_natCast, Int.natCast_zero, false_and, and_false, Int.toNat_zero, Int.toNat_one, Int.reduceEq, Nat.reduceSub, h2] at hR ⊢; simp only [go_sem, Nat.reduceEqDiff, reduceCtorEq, Nat.reduceAdd, Nat.reduceLeDiff, Bool.false_eq_true, Nat.reduceMul, Bool.true_eq_false, Nat.reduceLT, gR1, gR2, gR3, gR4, gR5, gR6, gR7, gR8, gR9, gR10, gR11, gR12, gR13, gR14, gR15, Int.reduceToNat, Int.cast_ofNat_Int, Int.natCast_one, Int.reduceLT, Int.reduceLE, List.getD_nil, Int.toNat_natCast, Int.natCast_zero, false_and, and_false, Int.toNat_zero, Int.toNat_one, Int.reduceEq, Nat.reduceSub, ← hR]
    | false =>
      simp only [go_sem, Nat.reduceEqDiff, reduceCtorEq, Nat.reduceAdd, Nat.reduceLeDiff, Bool.false_eq_true, Nat.reduceMul, Bool.true_eq_false, Nat.reduceLT, gR1, gR2, gR3, gR4, gR5, gR6, gR7, gR8, gR9, gR10, gR11, gR12, gR13, gR14, gR15, Int.reduceToNat, Int.cast_ofNat_Int, Int.natCast_one, Int.reduceLT, Int.reduceLE, List.getD_nil, Int.toNat_natCast, Int.natCast_zero, false_and, and_false, Int.toNat_zero, Int.toNat_one, Int.reduceEq, Nat.reduceSub, h2] at hR ⊢
      have h3 : l.length = 1 := by simp at h2; omega
      match l, h3 with
      | [x], _ =>
        simp only [go_sem, Nat.reduceEqDiff, reduceCtorEq, Nat.reduceAdd, Nat.reduceLeDiff, Bool.false_eq_true, Nat.reduceMul, Bool.true_eq_false, Nat.reduceLT, gR1, gR2, gR3, gR4, gR5, gR6, gR7, gR8, gR9, gR10, gR11, gR12, gR13, gR14, gR15, Int.reduceToNat, Int.cast_ofNat_Int, Int.natCast_one, Int.reduceLT, Int.reduceLE, List.getD_nil, Int.toNat_natCast, Int.natCast_zero, false_and, and_false, Int.toNat_zero, Int.toNat_one, Int.reduceEq, Nat.reduceSub, scell] at hR ⊢
        refine call_by (sorting_plain_ev Z x) ?_
        cases h4 : plainS x <;> simp only [go_sem, Nat.reduceEqDiff, reduceCtorEq, Nat.reduceAdd, Nat.reduceLeDiff, Bool.false_eq_true, Nat.reduceMul, Bool.true_eq_false, Nat.reduceLT, gR1, gR2, gR3, gR4, gR5, gR6, gR7, gR8, gR9, gR10, gR11, gR12, gR13, gR14, gR15, Int.reduceToNat, Int.cast_ofNat_Int, Int.natCast_one, Int.reduceLT, Int.reduceLE, List.getD_nil, Int.toNat_natCast, Int.natCast_zero, false_and, and_false, Int.toNat_zero, Int.toNat_one, Int.reduceEq, Nat.reduceSub, h4] at hR ⊢ <;> simp only [go_sem, Nat.reduceEqDiff, reduceCtorEq, Nat.reduceAdd, Nat.reduceLeDiff, Bool.false_eq_true, Nat.reduceMul, Bool.true_eq_false, Nat.reduceLT, gR1, gR2, gR3, gR4, gR5, gR6, gR7, gR8, gR9, gR10, gR11, gR12, gR13, gR14, gR15, Int.reduceToNat, Int.cast_ofNat_Int, Int.natCast_one, Int.reduceLT, Int.reduceLE, List.getD_nil, Int.toNat_natCast, Int.natCast_zero, false_and, and_false, Int.toNat_zero, Int.toNat_one, Int.reduceEq, Nat.reduceSub, ← hR, hq]
  | false =>
    have h1' := h1
    simp only [sTag] at h1'
    simp only [go_sem, Nat.reduceEqDiff, reduceCtorEq, Nat.reduceAdd, Nat.reduceLeDiff, Bool.false_eq_true, Nat.reduceMul, Bool.true_eq_false, Nat.reduceLT, gR1, gR2, gR3, gR4, gR5, gR6, gR7, gR8, gR9, gR10, gR11, gR12, gR13, gR14, gR15, Int.reduceToNat, Int.cast_ofNat_Int, Int.natCast_one, Int.reduceLT, Int.reduceLE, List.getD_nil, Int.toNat_natCast, Int.natCast_zero, false_and, and_false, Int.toNat_zero, Int.toNat_one, Int.reduceEq, Nat.reduceSub, h1, h1'] at hR ⊢
    intro hlen hlen2
    by_cases h2 : l.length = qa.length
    · have h3 : ((l.length : Int) != (qa.length : Int)) = false := by simp [h2]
      simp only [go_sem, Nat.reduceEqDiff, reduceCtorEq, Nat.reduceAdd, Nat.reduceLeDiff, Bool.false_eq_true, Nat.reduceMul, Bool.true_eq_false, Nat.reduceLT, gR1, gR2, gR3, gR4, gR5, gR6, gR7, gR8, gR9, gR10, gR11, gR12, gR13, gR14, gR15, Int.reduceToNat, Int.cast_ofNat_Int, Int.natCast_one, Int.reduceLT, Int.reduceLE, List.getD_nil, Int.toNat_natCast, Int.natCast_zero, false_and, and_false, Int.toNat_zero, Int.toNat_one, Int.reduceEq, Nat.reduceSub, h3] at hR ⊢
      intro _
      refine loop_list l (fun done => qa.take done.length = done) (fun done rest => ⟨[(39, .d (.int .i64 done.length)), (38, .d (.int .i64 l.length)), (37, .d (.lst (l.map scell))), (8, .ptr 8 0)], [(8, [.d (.str qn), .d (.lst (qa.map scell)), .d (.str qr)])], []⟩) ?_ (by simp) ?_ ?_
      · exact Ent_plain (by simp only [go_sem, Nat.reduceEqDiff, reduceCtorEq, Nat.reduceAdd, Nat.reduceLeDiff, Bool.false_eq_true, Nat.reduceMul, Bool.true_eq_false, Nat.reduceLT, gR1, gR2, gR3, gR4, gR5, gR6, gR7, gR8, gR9, gR10, gR11, gR12, gR13, gR14, gR15, Int.reduceToNat, Int.cast_ofNat_Int, Int.natCast_one, Int.reduceLT, Int.reduceLE, List.getD_nil, Int.toNat_natCast, Int.natCast_zero, false_and, and_false, Int.toNat_zero, Int.toNat_one, Int.reduceEq, Nat.reduceSub, Option.isSome_some])
      · intro done x r hl hI
        obtain ⟨y, r', hb⟩ := prefix_split hI (by rw [← h2, hl]; simp)
        have hx := getD_at (f := scell) (d := []) hl
        have hy := getD_at (f := scell) (d := []) hb
        have hlt := lt_mid hl
        have hlt2 := lt_mid hb
        have hw : IntKind.i64.wrap ((done.length : Int) + 1) = ((done.length + 1 : Nat) : Int) := wrap_succ (by omega)
        simp only [fn_sorting_applied_L1, go_sem, Nat.reduceEqDiff, reduceCtorEq, Nat.reduceAdd, Nat.reduceLeDiff, Bool.false_eq_true, Nat.reduceMul, Bool.true_eq_false, Nat.reduceLT, gR1, gR2, gR3, gR4, gR5, gR6, gR7, gR8, gR9, gR10, gR11, gR12, gR13, gR14, gR15, Int.reduceToNat, Int.cast_ofNat_Int, Int.natCast_one, Int.reduceLT, Int.reduceLE, List.getD_nil, Int.toNat_natCast, Int.natCast_zero, false_and, and_false, Int.toNat_zero, Int.toNat_one, Int.reduceEq, Nat.reduceSub, hx, hy, hlt, hlt2, scell]
        cases h4 : (x == y) with
        | true =>
          have : x = y := by simpa using h4
          subst this
          simp only [go_sem, Nat.reduceEqDiff, reduceCtorEq, Nat.reduceAdd, Nat.reduceLeDiff, Bool.false_eq_true, Nat.reduceMul, Bool.true_eq_false, Nat.reduceLT, gR1, gR2, gR3, gR4, gR5, gR6, gR7, gR8, gR9, gR10, gR11, gR12, gR13, gR14, gR15, Int.reduceToNat, Int.cast_ofNat_Int, Int.natCast_one, Int.reduceLT, Int.reduceLE, List.getD_nil, Int.toNat_natCast, Int.natCast_zero, false_and, and_false, Int.toNat_zero, Int.toNat_one, Int.reduceEq, Nat.reduceSub, hw, List.length_append]
          exact ⟨Ent_plain (by simp only [go_sem, Nat.reduceEqDiff, reduceCtorEq, Nat.reduceAdd, Nat.reduceLeDiff, Bool.false_eq_true, Nat.reduceMul, Bool.true_eq_false, Nat.reduceLT, gR1, gR2, gR3, gR4, gR5, gR6, gR7, gR8, gR9, gR10, gR11, gR12, gR13, gR14, gR15, Int.reduceToNat, Int.cast_ofNat_Int, Int.natCast_one, Int.reduceLT, Int.reduceLE, List.getD_nil, Int.toNat_natCast, Int.natCast_zero, false_and, and_false, Int.toNat_zero, Int.toNat_one, Int.reduceEq, Nat.reduceSub, Option.isSome_some]), by rw [hb, show done ++ x :: r' = (done ++ [x]) ++ r' by simp]; exact List.take_left' (by simp)⟩
        | false =>
          have h5 : (l == qa) = false := by
            simp only [beq_eq_false_iff_ne, ne_eq] at h4 ⊢
            intro e
            rw [hl, hb] at e
            exact h4 (List.cons.inj (List.append_cancel_left e)).1
          simp only [go_sem, Nat.reduceEqDiff, reduceCtorEq, Nat.reduceAdd, Nat.reduceLeDiff, Bool.false_eq_true, Nat.reduceMul, Bool.true_eq_false, Nat.reduceLT, gR1, gR2, gR3, gR4, gR5, gR6, gR7, gR8, gR9, gR10, gR11, gR12, gR13, gR14, gR15, Int.reduceToNat, Int.cast_ofNat_Int, Int.natCast_one, Int.reduceLT, Int.reduceLE, List.getD_nil, Int.toNat_natCast, Int.natCast_zero, false_and, and_false, Int.toNat_zero, Int.toNat_one, Int.reduceEq, Nat.reduceSub, h5] at hR ⊢
          simp only [go_sem, Nat.reduceEqDiff, reduceCtorEq, Nat.reduceAdd, Nat.reduceLeDiff, Bool.false_eq_true, Nat.reduceMul, Bool.true_eq_false, Nat.reduceLT, gR1, gR2, gR3, gR4, gR5, gR6, gR7, gR8, gR9, gR10, gR11, gR12, gR13, gR14, gR15, Int.reduceToNat, Int.cast_ofNat_Int, Int.natCast_one, Int.reduceLT, Int.reduceLE, List.getD_nil, Int.toNat_natCast, Int.natCast_zero, false_and, and_false, Int.toNat_zero, Int.toNat_one, Int.reduceEq, Nat.reduceSub, ← hR]
      · intro hI
        have h5 : l = qa := by rw [← hI, h2, List.take_length]
        subst h5
        simp only [go_sem, Nat.reduceEqDiff, reduceCtorEq, Nat.reduceAdd, Nat.reduceLeDiff, Bool.false_eq_true, Nat.reduceMul, Bool.true_eq_false, Nat.reduceLT, gR1, gR2, gR3, gR4, gR5, gR6, gR7, gR8, gR9, gR10, gR11, gR12, gR13, gR14, gR15, Int.reduceToNat, Int.cast_ofNat_Int, Int.natCast_one, Int.reduceLT, Int.reduceLE, List.getD_nil, Int.toNat_natCast, Int.natCast_zero, false_and, and_false, Int.toNat_zero, Int.toNat_one, Int.reduceEq, Nat.reduceSub, BEq.rfl] at hR
        simp only [fn_sorting_applied_L1, go_sem, Nat.reduceEqDiff, reduceCtorEq, Nat.reduceAdd, Nat.reduceLeDiff, Bool.false_eq_true, Nat.reduceMul, Bool.true_eq_false, Nat.reduceLT, gR1, gR2, gR3, gR4, gR5, gR6, gR7, gR8, gR9, gR10, gR11, gR12, gR13, gR14, gR15, Int.reduceToNat, Int.cast_ofNat_Int, Int.natCast_one, Int.reduceLT, Int.reduceLE, List.getD_nil, Int.toNat_natCast, Int.natCast_zero, false_and, and_false, Int.toNat_zero, Int.toNat_one, Int.reduceEq, Nat.reduceSub, ← hR]
    · have h3 : ((l.length : Int) != (qa.length : Int)) = true := by simp; omega
      simp only [go_sem, Nat.reduceEqDiff, reduceCtorEq, Nat.reduceAdd, Nat.reduceLeDiff, Bool.false_eq_true, Nat.reduceMul, Bool.true_eq_false, Nat.reduceLT, gR1, gR2, gR3, gR4, gR5, gR6, gR7, gR8, gR9, gR10, gR11, gR12, gR13, gR14, gR15, Int.reduceToNat, Int.cast_ofNat_Int, Int.natCast_one, Int.reduceLT, Int.reduceLE, List.getD_nil, Int.toNat_natCast, Int.natCast_zero, false_and, and_false, Int.toNat_zero, Int.toNat_one, Int.reduceEq, Nat.reduceSub, h3] at hR ⊢
      simp only [go_sem, Nat.reduceEqDiff, reduceCtorEq, Nat.reduceAdd, Nat.reduceLeDiff, Bool.false_eq_true, Nat.reduceMul, Bool.true_eq_false, Nat.reduceLT, gR1, gR2, gR3, gR4, gR5, gR6, gR7, gR8, gR9, gR10, gR11, gR12, gR13, gR14, gR15, Int.reduceToNat, Int.cast_ofNat_Int, Int.natCast_one, Int.reduceLT, Int.reduceLE, List.getD_nil, Int.toNat_natCast, Int.natCast_zero, false_and, and_false, Int.toNat_zero, Int.toNat_one, Int.reduceEq, Nat.reduceSub, ← hR]
theorem sorting_filled_ev (v : SEnv) (hv : v.Ok) (s : Str) (l : List Str) : E.C sorting_filled [.agg v.cells, .one (.str s), .one (.lst (l.map scell))] (two (holeS v s l)) := by
  have hf := sort_Hole_ev Z v hv s
  refine Z.sorting_filled _ _ ⟨Nat.le_of_ble_eq_true rfl, ?_⟩
  generalize hR : holeS v s l = R
  unfold holeS at hR
  unfold two
  rw [SEnv.cells] at *
  simp only [fn_sorting_filled, go_sem, Nat.reduceEqDiff, reduceCtorEq, Nat.reduceAdd, Nat.reduceLeDiff, Bool.false_eq_true, Nat.reduceMul, Bool.true_eq_false, Nat.reduceLT, gR1, gR2, gR3, gR4, gR5, gR6, gR7, gR8, gR9, gR10, gR11, gR12, gR13, gR14, gR15, Int.reduceToNat, Int.cast_ofNat_Int, Int.natCast_one, Int.reduceLT, Int.reduceLE, List.getD_nil, Int.toNat_natCast, Int.natCast_zero, false_and, and_false, Int.toNat_zero, Int.toNat_one, Int.reduceEq, Nat.reduceSub]
  refine call_by hf ?_
  generalize findHole v.holes s = q at *
  obtain ⟨⟨qn, qa⟩, qb⟩ := q
  simp only [go_sem, Nat.reduceEqDiff, reduceCtorEq, Nat.reduceAdd, Nat.reduceLeDiff, Bool.false_eq_true, Nat.reduceMul, Bool.true_eq_false, Nat.reduceLT, gR1, gR2, gR3, gR4, gR5, gR6, gR7, gR8, gR9, gR10, gR11, gR12, gR13, gR14, gR15, Int.reduceToNat, Int.cast_ofNat_Int, Int.natCast_one, Int.reduceLT, Int.reduceLE, List.getD_nil, Int.toNat_natCast, Int.natCast_zero, false_and, and_false, Int.toNat_zero, Int.toNat_one, Int.reduceEq, Nat.reduceSub, SHole.cells] at hR ⊢
  cases qb with
  | false => simp only [go_sem, Nat.reduceEqDiff, reduceCtorEq, Nat.reduceAdd, Nat.reduceLeDiff, Bool.false_eq_true, Nat.reduceMul, Bool.true_eq_false, Nat.reduceLT, gR1, gR2, gR3, gR4, gR5, gR6, gR7, gR8, gR9, gR10, gR11, gR12, gR13, gR14, gR15, Int.reduceToNat, Int.cast_ofNat_Int, Int.natCast_one, Int.reduceLT, Int.reduceLE, List.getD_nil, Int.toNat_natCast, Int.natCast_zero, false_and, and_false, Int.toNat_zero, Int.toNat_one, Int.reduceEq, Nat.reduceSub] at hR ⊢; simp only [go_sem, Nat.reduceEqDiff, reduceCtorEq, Nat.reduceAdd, Nat.reduceLeDiff, Bool.false_eq_true, Nat.reduceMul, Bool.true_eq_false, Nat.reduceLT, gR1, gR2, gR3, gR4, gR5, gR6, gR7, gR8, gR9, gR10, gR11, gR12, gR13, gR14, gR15, Int.reduceToNat, Int.cast_ofNat_Int, Int.natCast_one, Int.reduceLT, Int.reduceLE, List.getD_nil, Int.toNat_natCast, Int.natCast_zero, false_and, and_false, Int.toNat_zero, Int.toNat_one, Int.reduceEq, Nat.reduceSub, ← hR]
  | true =>
  simp only [go_sem, Nat.reduceEqDiff, reduceCtorEq, Nat.reduceAdd, Nat.reduceLeDiff, Bool.false_eq_true, Nat.reduceMul, Bool.true_eq_false, Nat.reduceLT, gR1, gR2, gR3, gR4, gR5, gR6, gR7, gR8, gR9, gR10, gR11, gR12, gR13, gR14, gR15, Int.reduceToNat, Int.cast_ofNat_Int, Int.natCast_one, Int.reduceLT, Int.reduceLE, List.getD_nil, Int.toNat_natCast, Int.natCast_zero, false_and, and_false, Int.toNat_zero, Int.toNat_one, Int.reduceEq, Nat.reduceSub] at hR ⊢
  intro hlen hlen2
  by_cases h2 : l.length = qa.length
  · have h3 : ((l.length : Int) != (qa.length : Int)) = false := by simp [h2]
    simp only [go_sem, Nat.reduceEqDiff, reduceCtorEq, Nat.reduceAdd, Nat.reduceLeDiff, Bool.false_eq_true, Nat.reduceMul, Bool.true_eq_false, Nat.reduceLT, gR1, gR2, gR3, gR4, gR5, gR6, gR7, gR8, gR9, gR10, gR11, gR12, gR13, gR14, gR15, Int.reduceToNat, Int.cast_ofNat_Int, Int.natCast_one, Int.reduceLT, Int.reduceLE, List.getD_nil, Int.toNat_natCast, Int.natCast_zero, false_and, and_false, Int.toNat_zero, Int.toNat_one, Int.reduceEq, Nat.reduceSub, h3] at hR ⊢
    intro _
    refine loop_list l (fun done => (qa.map SVar.sort).take done.length = done) (fun done rest => ⟨[(28, .d (.int .i64 done.length)), (27, .d (.int .i64 l.length)), (26, .d (.lst (l.map scell))), (8, .ptr 8 0)], [(8, [.d (.str qn), .d (.lst (qa.map SVar.cells))])], []⟩) ?_ (by simp) ?_ ?_
    · exact Ent_plain (by simp only [go_sem, Nat.reduceEqDiff, reduceCtorEq, Nat.reduceAdd, Nat.reduceLeDiff, Bool.false_eq_true, Nat.reduceMul, Bool.true_eq_false, Nat.reduceLT, gR1, gR2, gR3, gR4, gR5, gR6, gR7, gR8, gR9, gR10, gR11, gR12, gR13, gR14, gR15, Int.reduceToNat, Int.cast_ofNat_Int, Int.natCast_one, Int.reduceLT, Int.reduceLE, List.getD_nil, Int.toNat_natCast, Int.natCast_zero, false_and, and_false, Int.toNat_zero, Int.toNat_one, Int.reduceEq, Nat.reduceSub, Option.isSome_some])
    · intro done x r hl hI
      obtain ⟨y0, r0, hb0⟩ := prefix_split hI (by rw [List.length_map, ← h2, hl]; simp)
      obtain ⟨da, y, r', hb, hda, rfl⟩ := map_mid hb0
      have hx := getD_at (f := scell) (d := []) hl
      have hy := getD_at (f := SVar.cells) (d := []) hb
      have hdl : da.length = done.length := by rw [← hda]; simp
      rw [hdl] at hy
      have hlt := lt_mid hl
      have hlt2 := lt_mid hb
      rw [hdl] at hlt2
      have hw : IntKind.i64.wrap ((done.length : Int) + 1) = ((done.length + 1 : Nat) : Int) := wrap_succ (by omega)
      simp only [fn_sorting_filled_L1, go_sem, Nat.reduceEqDiff, reduceCtorEq, Nat.reduceAdd, Nat.reduceLeDiff, Bool.false_eq_true, Nat.reduceMul, Bool.true_eq_false, Nat.reduceLT, gR1, gR2, gR3, gR4, gR5, gR6, gR7, gR8, gR9, gR10, gR11, gR12, gR13, gR14, gR15, Int.reduceToNat, Int.cast_ofNat_Int, Int.natCast_one, Int.reduceLT, Int.reduceLE, List.getD_nil, Int.toNat_natCast, Int.natCast_zero, false_and, and_false, Int.toNat_zero, Int.toNat_one, Int.reduceEq, Nat.reduceSub, hx, hy, hlt, hlt2, scell, SVar.cells]
      cases h4 : (x == y.sort) with
      | true =>
        have hxy : x = y.sort := by simpa using h4
        simp only [go_sem, Nat.reduceEqDiff, reduceCtorEq, Nat.reduceAdd, Nat.reduceLeDiff, Bool.false_eq_true, Nat.reduceMul, Bool.true_eq_false, Nat.reduceLT, gR1, gR2, gR3, gR4, gR5, gR6, gR7, gR8, gR9, gR10, gR11, gR12, gR13, gR14, gR15, Int.reduceToNat, Int.cast_ofNat_Int, Int.natCast_one, Int.reduceLT, Int.reduceLE, List.getD_nil, Int.toNat_natCast, Int.natCast_zero, false_and, and_false, Int.toNat_zero, Int.toNat_one, Int.reduceEq, Nat.reduceSub, hw, List.length_append]
        exact ⟨Ent_plain (by simp only [go_sem, Nat.reduceEqDiff, reduceCtorEq, Nat.reduceAdd, Nat.reduceLeDiff, Bool.false_eq_true, Nat.reduceMul, Bool.true_eq_false, Nat.reduceLT, gR1, gR2, gR3, gR4, gR5, gR6, gR7, gR8, gR9, gR10, gR11, gR12, gR13, gR14, gR15, Int.reduceToNat, Int.cast_ofNat_Int, Int.natCast_one, Int.reduceLT, Int.reduceLE, List.getD_nil, Int.toNat_natCast, Int.natCast_zero, false_and, and_false, Int.toNat_zero, Int.toNat_one, Int.reduceEq, Nat.reduceSub, Option.isSome_some]), by rw [hb0, ← hxy, show done ++ x :: r0 = (done ++ [x]) ++ r0 by simp]; exact List.take_left' (by simp)⟩
      | false =>
        have h5 : (l == qa.map SVar.sort) = false := by
          simp only [beq_eq_false_iff_ne, ne_eq] at h4 ⊢
          intro e
          rw [hl, hb0] at e
          exact h4 (List.cons.inj (List.append_cancel_left e)).1
        simp only [go_sem, Nat.reduceEqDiff, reduceCtorEq, Nat.reduceAdd, Nat.reduceLeDiff, Bool.false_eq_true, Nat.reduceMul, Bool.true_eq_false, Nat.reduceLT, gR1, gR2, gR3, gR4, gR5, gR6, gR7, gR8, gR9, gR10, gR11, gR12, gR13, gR14, gR15, Int.reduceToNat, Int.cast_ofNat_Int, Int.natCast_one, Int.reduceLT, Int.reduceLE, List.getD_nil, Int.toNat_natCast, Int.natCast_zero, false_and, and_false, Int.toNat_zero, Int.toNat_one, Int.reduceEq, Nat.reduceSub, h5] at hR ⊢
        simp only [go_sem, Nat.reduceEqDiff, reduceCtorEq, Nat.reduceAdd, Nat.reduceLeDiff, Bool.false_eq_true, Nat.reduceMul, Bool.true_eq_false, Nat.reduceLT, gR1, gR2, gR3, gR4, gR5, gR6, gR7, gR8, gR9, gR10, gR11, gR12, gR13, gR14, gR15, Int.reduceToNat, Int.cast_ofNat_Int, Int.natCast_one, Int.reduceLT, Int.reduceLE, List.getD_nil, Int.toNat_natCast, Int.natCast_zero, false_and, and_false, Int.toNat_zero, Int.toNat_one, Int.reduceEq, Nat.reduceSub, ← hR]
    · intro hI
      have h5 : (l == qa.map SVar.sort) = true := by
        have e : (qa.map SVar.sort).take l.length = qa.map SVar.sort := List.take_of_length_le (by rw [List.length_map, h2]; exact Nat.le_refl _)
        rw [beq_iff_eq]; exact hI.symm.trans e
      simp only [go_sem, Nat.reduceEqDiff, reduceCtorEq, Nat.reduceAdd, Nat.reduceLeDiff, Bool.false_eq_true, Nat.reduceMul, Bool.true_eq_false, Nat.reduceLT, gR1, gR2, gR3, gR4, gR5, gR6, gR7, gR8, gR9, gR10, gR11, gR12, gR13, gR14, gR15, Int.reduceToNat, Int.cast_ofNat_Int, Int.natCast_one, Int.reduceLT, Int.reduceLE, List.getD_nil, Int.toNat_natCast, Int.natCast_zero, false_and, and_false, Int.toNat_zero, Int.toNat_one, Int.reduceEq, Nat.reduceSub, h5] at hR
      simp only [fn_sorting_filled_L1, go_sem, Nat.reduceEqDiff, reduceCtorEq, Nat.reduceAdd, Nat.reduceLeDiff, Bool.false_eq_true, Nat.reduceMul, Bool.true_eq_false, Nat.reduceLT, gR1, gR2, gR3, gR4, gR5, gR6, gR7, gR8, gR9, gR10, gR11, gR12, gR13, gR14, gR15, Int.reduceToNat, Int.cast_ofNat_Int, Int.natCast_one, Int.reduceLT, Int.reduceLE, List.getD_nil, Int.toNat_natCast, Int.natCast_zero, false_and, and_false, Int.toNat_zero, Int.toNat_one, Int.reduceEq, Nat.reduceSub, ← hR, sBool]
  · have h3 : ((l.length : Int) != (qa.length : Int)) = true := by simp; omega
    simp only [go_sem, Nat.reduceEqDiff, reduceCtorEq, Nat.reduceAdd, Nat.reduceLeDiff, Bool.false_eq_true, Nat.reduceMul, Bool.true_eq_false, Nat.reduceLT, gR1, gR2, gR3, gR4, gR5, gR6, gR7, gR8, gR9, gR10, gR11, gR12, gR13, gR14, gR15, Int.reduceToNat, Int.cast_ofNat_Int, Int.natCast_one, Int.reduceLT, Int.reduceLE, List.getD_nil, Int.toNat_natCast, Int.natCast_zero, false_and, and_false, Int.toNat_zero, Int.toNat_one, Int.reduceEq, Nat.reduceSub, h3] at hR ⊢
    simp only [go_sem, Nat.reduceEqDiff, reduceCtorEq, Nat.reduceAdd, Nat.reduceLeDiff, Bool.false_eq_true, Nat.reduceMul, Bool.true_eq_false, Nat.reduceLT, gR1, gR2, gR3, gR4, gR5, gR6, gR7, gR8, gR9, gR10, gR11, gR12, gR13, gR14, gR15, Int.reduceToNat, Int.cast_ofNat_Int, Int.natCast_one, Int.reduceLT, Int.reduceLE, List.getD_nil, Int.toNat_natCast, Int.natCast_zero, false_and, and_false, Int.toNat_zero, Int.toNat_one, Int.reduceEq, Nat.reduceSub, ← hR]
end Go.Abs
end
section
set_option linter.unusedSimpArgs false
set_option linter.unusedVariables false
set_option linter.unusedSectionVars false
namespace Go.Abs
/-- the sort of a node whose kids have these sorts -/
def nodeS (v : SEnv) (o : Int) (s : Str) (l : List Str) : Str × Int :=
  if o == 1 then (sInt, 0) else if o == 2 then (sBool, 0)
  else if o == 3 then (if !(findVar v.vars s).2 then ([], 5) else ((findVar v.vars s).1, 0))
  else if o == 4 then appS v s l else if o == 5 then holeS v s l else opS o l
theorem two_split {α : Type} {l : List α} (h : 2 ≤ l.length) : ∃ a b r, l = a :: b :: r := by
  match l, h with
  | a :: b :: r, _ => exact ⟨a, b, r, rfl⟩
set_option maxRecDepth 100000
variable {E : AEnv} (Z : Sys E)
include Z
theorem r09_app_ev (v : SEnv) (s : Str) (l : List Str) : E.C r09_app [.agg v.cells, .one (.str s), .one (.lst (l.map scell))] (two (appS v s l)) := by
  have hf := r06_Find_ev Z v s
  refine Z.r09_app _ _ ⟨Nat.le_of_ble_eq_true rfl, ?_⟩
  generalize hR : appS v s l = R
  unfold appS at hR
  unfold two
  rw [SEnv.cells] at *
  simp only [fn_r09_app, go_sem, Nat.reduceEqDiff, reduceCtorEq, Nat.reduceAdd, Nat.reduceLeDiff, Bool.false_eq_true, Nat.reduceMul, Bool.true_eq_false, Nat.reduceLT, gR1, gR2, gR3, gR4, gR5, gR6, gR7, gR8, gR9, gR10, gR11, gR12, gR13, gR14, gR15, Int.reduceToNat, Int.cast_ofNat_Int, Int.natCast_one, Int.reduceLT, Int.reduceLE, List.getD_nil, Int.toNat_natCast, Int.natCast_zero, false_and, and_false, Int.toNat_zero, Int.toNat_one, Int.reduceEq, Nat.reduceSub]
  refine call_by hf ?_
  have htag : (s == sTag) = true → (findSym v.syms s).1.res = sInt := by intro h; unfold findSym; rw [if_pos h]
  generalize findSym v.syms s = q at *
  obtain ⟨⟨qn, qa, qr⟩, qb⟩ := q
  simp only [go_sem, Nat.reduceEqDiff, reduceCtorEq, Nat.reduceAdd, Nat.reduceLeDiff, Bool.false_eq_true, Nat.reduceMul, Bool.true_eq_false, Nat.reduceLT, gR1, gR2, gR3, gR4, gR5, gR6, gR7, gR8, gR9, gR10, gR11, gR12, gR13, gR14, gR15, Int.reduceToNat, Int.cast_ofNat_Int, Int.natCast_one, Int.reduceLT, Int.reduceLE, List.getD_nil, Int.toNat_natCast, Int.natCast_zero, false_and, and_false, Int.toNat_zero, Int.toNat_one, Int.reduceEq, Nat.reduceSub, SSym.cells] at hR ⊢
  cases qb with
  | false => simp only [go_sem, Nat.reduceEqDiff, reduceCtorEq, Nat.reduceAdd, Nat.reduceLeDiff, Bool.false_eq_true, Nat.reduceMul, Bool.true_eq_false, Nat.reduceLT, gR1, gR2, gR3, gR4, gR5, gR6, gR7, gR8, gR9, gR10, gR11, gR12, gR13, gR14, gR15, Int.reduceToNat, Int.cast_ofNat_Int, Int.natCast_one, Int.reduceLT, Int.reduceLE, List.getD_nil, Int.toNat_natCast, Int.natCast_zero, false_and, and_false, Int.toNat_zero, Int.toNat_one, Int.reduceEq, Nat.reduceSub] at hR ⊢; simp only [go_sem, Nat.reduceEqDiff, reduceCtorEq, Nat.reduceAdd, Nat.reduceLeDiff, Bool.false_eq_true, Nat.reduceMul, Bool.true_eq_false, Nat.reduceLT, gR1, gR2, gR3, gR4, gR5, gR6, gR7, gR8, gR9, gR10, gR11, gR12, gR13, gR14, gR15, Int.reduceToNat, Int.cast_ofNat_Int, Int.natCast_one, Int.reduceLT, Int.reduceLE, List.getD_nil, Int.toNat_natCast, Int.natCast_zero, false_and, and_false, Int.toNat_zero, Int.toNat_one, Int.reduceEq, Nat.reduceSub, ← hR]
  | true =>
  simp only [go_sem, Nat.reduceEqDiff, reduceCtorEq, Nat.reduceAdd, Nat.reduceLeDiff, Bool.false_eq_true, Nat.reduceMul, Bool.true_eq_false, Nat.reduceLT, gR1, gR2, gR3, gR4, gR5, gR6, gR7, gR8, gR9, gR10, gR11, gR12, gR13, gR14, gR15, Int.reduceToNat, Int.cast_ofNat_Int, Int.natCast_one, Int.reduceLT, Int.reduceLE, List.getD_nil, Int.toNat_natCast, Int.natCast_zero, false_and, and_false, Int.toNat_zero, Int.toNat_one, Int.reduceEq, Nat.reduceSub] at hR ⊢
  cases h1 : (s == sTag) with
  | true =>
    have h1' := h1
    simp only [sTag] at h1'
    simp only [go_sem, Nat.reduceEqDiff, reduceCtorEq, Nat.reduceAdd, Nat.reduceLeDiff, Bool.false_eq_true, Nat.reduceMul, Bool.true_eq_false, Nat.reduceLT, gR1, gR2, gR3, gR4, gR5, gR6, gR7, gR8, gR9, gR10, gR11, gR12, gR13, gR14, gR15, Int.reduceToNat, Int.cast_ofNat_Int, Int.natCast_one, Int.reduceLT, Int.reduceLE, List.getD_nil, Int.toNat_natCast, Int.natCast_zero, false_and, and_false, Int.toNat_zero, Int.toNat_one, Int.reduceEq, Nat.reduceSub, h1, h1'] at hR ⊢
    intro hlen
    cases h2 : ((l.length : Int) != 1) with
    | true => simp only [go_sem, Nat.reduceEqDiff, reduceCtorEq, Nat.reduceAdd, Nat.reduceLeDiff, Bool.false_eq_true, Nat.reduceMul, Bool.true_eq_false, Nat.reduceLT, gR1, gR2, gR3, gR4, gR5, gR6, gR7, gR8, gR9, gR10, gR11, gR12, gR13, gR14, gR15, Int.reduceToNat, Int.cast_ofNat_Int, Int.natCast_one, Int.reduceLT, Int.reduceLE, List.getD_nil, Int.toNat_natCast, Int.natCast_zero, false_and, and_false, Int.toNat_zero, Int.toNat_one, Int.reduceEq, Nat.reduceSub, h2] at hR ⊢; simp only [go_sem, Nat.reduceEqDiff, reduceCtorEq, Nat.reduceAdd, Nat.reduceLeDiff, Bool.false_eq_true, Nat.reduceMul, Bool.true_eq_false, Nat.reduceLT, gR1, gR2, gR3, gR4, gR5, gR6, gR7, gR8, gR9, gR10, gR11, gR12, gR13, gR14, gR15, Int.reduceToNat, Int.cast_ofNat_Int, Int.natCast_one, Int.reduceLT, Int.reduceLE, List.getD_nil, Int.toNat_natCast, Int.natCast_zero, false_and, and_false, Int.toNat_zero, Int.toNat_one, Int.reduceEq, Nat.reduceSub, ← hR]
    | false =>
      simp only [go_sem, Nat.reduceEqDiff, reduceCtorEq, Nat.reduceAdd, Nat.reduceLeDiff, Bool.false_eq_true, Nat.reduceMul, Bool.true_eq_false, Nat.reduceLT, gR1, gR2, gR3, gR4, gR5, gR6, gR7, gR8, gR9, gR10, gR11, gR12, gR13, gR14, gR15, Int.reduceToNat, Int.cast_ofNat_Int, Int.natCast_one, Int.reduceLT, Int.reduceLE, List.getD_nil, Int.toNat_natCast, Int.natCast_zero, false_and, and_false, Int.toNat_zero, Int.toNat_one, Int.reduceEq, Nat.reduceSub, h2] at hR ⊢
      have h3 : l.length = 1 := by simp at h2; omega
      match l, h3 with
      | [x], _ =>
        simp only [go_sem, Nat.reduceEqDiff, reduceCtorEq, Nat.reduceAdd, Nat.reduceLeDiff, Bool.false_eq_true, Nat.reduceMul, Bool.true_eq_false, Nat.reduceLT, gR1, gR2, gR3, gR4, gR5, gR6, gR7, gR8, gR9, gR10, gR11, gR12, gR13, gR14, gR15, Int.reduceToNat, Int.cast_ofNat_Int, Int.natCast_one, Int.reduceLT, Int.reduceLE, List.getD_nil, Int.toNat_natCast, Int.natCast_zero, false_and, and_false, Int.toNat_zero, Int.toNat_one, Int.reduceEq, Nat.reduceSub, scell, plainS, sInt, sBool, sCell] at hR ⊢
        have hb : ∀ b : Bool, (b = false → (0 : Int) < 1) = True := fun b => eq_true fun _ => by omega
        have hb2 : ∀ b : Bool, (b = true → (0 : Int) < 1) = True := fun b => eq_true fun _ => by omega
        try simp only [hb, hb2, go_sem, Nat.reduceEqDiff, reduceCtorEq, Nat.reduceAdd, Nat.reduceLeDiff, Bool.false_eq_true, Nat.reduceMul, Bool.true_eq_false, Nat.reduceLT, gR1, gR2, gR3, gR4, gR5, gR6, gR7, gR8, gR9, gR10, gR11, gR12, gR13, gR14, gR15, Int.reduceToNat, Int.cast_ofNat_Int, Int.natCast_one, Int.reduceLT, Int.reduceLE, List.getD_nil, Int.toNat_natCast, Int.natCast_zero, false_and, and_false, Int.toNat_zero, Int.toNat_one, Int.reduceEq, Nat.reduceSub]
        cases h4 : (x == [73, 110, 116] || x == [66, 111, 111, 108] || x == [67, 101, 108, 108]) <;> simp only [go_sem, Nat.reduceEqDiff, reduceCtorEq, Nat.reduceAdd, Nat.reduceLeDiff, Bool.false_eq_true, Nat.reduceMul, Bool.true_eq_false, Nat.reduceLT, gR1, gR2, gR3, gR4, gR5, gR6, gR7, gR8, gR9, gR10, gR11, gR12, gR13, gR14, gR15, Int.reduceToNat, Int.cast_ofNat_Int, Int.natCast_one, Int.reduceLT, Int.reduceLE, List.getD_nil, Int.toNat_natCast, Int.natCast_zero, false_and, and_false, Int.toNat_zero, Int.toNat_one, Int.reduceEq, Nat.reduceSub, h4] at hR ⊢ <;> simp only [go_sem, Nat.reduceEqDiff, reduceCtorEq, Nat.reduceAdd, Nat.reduceLeDiff, Bool.false_eq_true, Nat.reduceMul, Bool.true_eq_false, Nat.reduceLT, gR1, gR2, gR3, gR4, gR5, gR6, gR7, gR8, gR9, gR10, gR11, gR12, gR13, gR14, gR15, Int.reduceToNat, Int.cast_ofNat_Int, Int.natCast_one, Int.reduceLT, Int.reduceLE, List.getD_nil, Int.toNat_natCast, Int.natCast_zero, false_and, and_false, Int.toNat_zero, Int.toNat_one, Int.reduceEq, Nat.reduceSub, ← hR] <;> simp
  | false =>
    have h1' := h1
    simp only [sTag] at h1'
    simp only [go_sem, Nat.reduceEqDiff, reduceCtorEq, Nat.reduceAdd, Nat.reduceLeDiff, Bool.false_eq_true, Nat.reduceMul, Bool.true_eq_false, Nat.reduceLT, gR1, gR2, gR3, gR4, gR5, gR6, gR7, gR8, gR9, gR10, gR11, gR12, gR13, gR14, gR15, Int.reduceToNat, Int.cast_ofNat_Int, Int.natCast_one, Int.reduceLT, Int.reduceLE, List.getD_nil, Int.toNat_natCast, Int.natCast_zero, false_and, and_false, Int.toNat_zero, Int.toNat_one, Int.reduceEq, Nat.reduceSub, h1, h1'] at hR ⊢
    intro hlen hlen2
    cases h2 : ((l.length : Int) != qa.length) with
    | true => simp only [go_sem, Nat.reduceEqDiff, reduceCtorEq, Nat.reduceAdd, Nat.reduceLeDiff, Bool.false_eq_true, Nat.reduceMul, Bool.true_eq_false, Nat.reduceLT, gR1, gR2, gR3, gR4, gR5, gR6, gR7, gR8, gR9, gR10, gR11, gR12, gR13, gR14, gR15, Int.reduceToNat, Int.cast_ofNat_Int, Int.natCast_one, Int.reduceLT, Int.reduceLE, List.getD_nil, Int.toNat_natCast, Int.natCast_zero, false_and, and_false, Int.toNat_zero, Int.toNat_one, Int.reduceEq, Nat.reduceSub, h2] at hR ⊢; simp only [go_sem, Nat.reduceEqDiff, reduceCtorEq, Nat.reduceAdd, Nat.reduceLeDiff, Bool.false_eq_true, Nat.reduceMul, Bool.true_eq_false, Nat.reduceLT, gR1, gR2, gR3, gR4, gR5, gR6, gR7, gR8, gR9, gR10, gR11, gR12, gR13, gR14, gR15, Int.reduceToNat, Int.cast_ofNat_Int, Int.natCast_one, Int.reduceLT, Int.reduceLE, List.getD_nil, Int.toNat_natCast, Int.natCast_zero, false_and, and_false, Int.toNat_zero, Int.toNat_one, Int.reduceEq, Nat.reduceSub, ← hR]
    | false =>
      simp only [go_sem, Nat.reduceEqDiff, reduceCtorEq, Nat.reduceAdd, Nat.reduceLeDiff, Bool.false_eq_true, Nat.reduceMul, Bool.true_eq_false, Nat.reduceLT, gR1, gR2, gR3, gR4, gR5, gR6, gR7, gR8, gR9, gR10, gR11, gR12, gR13, gR14, gR15, Int.reduceToNat, Int.cast_ofNat_Int, Int.natCast_one, Int.reduceLT, Int.reduceLE, List.getD_nil, Int.toNat_natCast, Int.natCast_zero, false_and, and_false, Int.toNat_zero, Int.toNat_one, Int.reduceEq, Nat.reduceSub, h2] at hR ⊢
      refine call_by (r06_SameSorts_ev Z l qa) ?_
      cases h3 : (l == qa) <;> simp only [go_sem, Nat.reduceEqDiff, reduceCtorEq, Nat.reduceAdd, Nat.reduceLeDiff, Bool.false_eq_true, Nat.reduceMul, Bool.true_eq_false, Nat.reduceLT, gR1, gR2, gR3, gR4, gR5, gR6, gR7, gR8, gR9, gR10, gR11, gR12, gR13, gR14, gR15, Int.reduceToNat, Int.cast_ofNat_Int, Int.natCast_one, Int.reduceLT, Int.reduceLE, List.getD_nil, Int.toNat_natCast, Int.natCast_zero, false_and, and_false, Int.toNat_zero, Int.toNat_one, Int.reduceEq, Nat.reduceSub, h3] at hR ⊢ <;> simp only [go_sem, Nat.reduceEqDiff, reduceCtorEq, Nat.reduceAdd, Nat.reduceLeDiff, Bool.false_eq_true, Nat.reduceMul, Bool.true_eq_false, Nat.reduceLT, gR1, gR2, gR3, gR4, gR5, gR6, gR7, gR8, gR9, gR10, gR11, gR12, gR13, gR14, gR15, Int.reduceToNat, Int.cast_ofNat_Int, Int.natCast_one, Int.reduceLT, Int.reduceLE, List.getD_nil, Int.toNat_natCast, Int.natCast_zero, false_and, and_false, Int.toNat_zero, Int.toNat_one, Int.reduceEq, Nat.reduceSub, ← hR]
theorem r09_operation_ev (o : Int) (l : List Str) (hl : (o == 10 || o == 11) = true → 2 ≤ l.length) : E.C r09_operation [.one (.int .i64 o), .one (.lst (l.map scell))] (two (opS o l)) := by
  have h1 := r09_all_ev Z l sInt
  have h2 := r09_all_ev Z l sBool
  refine Z.r09_operation _ _ ⟨Nat.le_of_ble_eq_true rfl, ?_⟩
  generalize hR : opS o l = R
  unfold opS at hR
  unfold two
  simp only [fn_r09_operation, go_sem, Nat.reduceEqDiff, reduceCtorEq, Nat.reduceAdd, Nat.reduceLeDiff, Bool.false_eq_true, Nat.reduceMul, Bool.true_eq_false, Nat.reduceLT, gR1, gR2, gR3, gR4, gR5, gR6, gR7, gR8, gR9, gR10, gR11, gR12, gR13, gR14, gR15, Int.reduceToNat, Int.cast_ofNat_Int, Int.natCast_one, Int.reduceLT, Int.reduceLE, List.getD_nil, Int.toNat_natCast, Int.natCast_zero, false_and, and_false, Int.toNat_zero, Int.toNat_one, Int.reduceEq, Nat.reduceSub]
  simp only [sInt, sBool] at hR h1 h2
  cases h6 : (o == 6 || o == 7 || o == 8 || o == 9) with
  | true =>
    simp only [h6, go_sem, Nat.reduceEqDiff, reduceCtorEq, Nat.reduceAdd, Nat.reduceLeDiff, Bool.false_eq_true, Nat.reduceMul, Bool.true_eq_false, Nat.reduceLT, gR1, gR2, gR3, gR4, gR5, gR6, gR7, gR8, gR9, gR10, gR11, gR12, gR13, gR14, gR15, Int.reduceToNat, Int.cast_ofNat_Int, Int.natCast_one, Int.reduceLT, Int.reduceLE, List.getD_nil, Int.toNat_natCast, Int.natCast_zero, false_and, and_false, Int.toNat_zero, Int.toNat_one, Int.reduceEq, Nat.reduceSub] at hR
    cases e6 : (o == 6) <;> cases e7 : (o == 7) <;> cases e8 : (o == 8) <;> cases e9 : (o == 9) <;> first | (exfalso; simp_all; done) | skip
    all_goals
      simp only [go_sem, Nat.reduceEqDiff, reduceCtorEq, Nat.reduceAdd, Nat.reduceLeDiff, Bool.false_eq_true, Nat.reduceMul, Bool.true_eq_false, Nat.reduceLT, gR1, gR2, gR3, gR4, gR5, gR6, gR7, gR8, gR9, gR10, gR11, gR12, gR13, gR14, gR15, Int.reduceToNat, Int.cast_ofNat_Int, Int.natCast_one, Int.reduceLT, Int.reduceLE, List.getD_nil, Int.toNat_natCast, Int.natCast_zero, false_and, and_false, Int.toNat_zero, Int.toNat_one, Int.reduceEq, Nat.reduceSub]
      refine call_by h1 ?_
      cases h3 : allS l [73, 110, 116] <;> simp only [go_sem, Nat.reduceEqDiff, reduceCtorEq, Nat.reduceAdd, Nat.reduceLeDiff, Bool.false_eq_true, Nat.reduceMul, Bool.true_eq_false, Nat.reduceLT, gR1, gR2, gR3, gR4, gR5, gR6, gR7, gR8, gR9, gR10, gR11, gR12, gR13, gR14, gR15, Int.reduceToNat, Int.cast_ofNat_Int, Int.natCast_one, Int.reduceLT, Int.reduceLE, List.getD_nil, Int.toNat_natCast, Int.natCast_zero, false_and, and_false, Int.toNat_zero, Int.toNat_one, Int.reduceEq, Nat.reduceSub, h3] at hR ⊢ <;> simp only [go_sem, Nat.reduceEqDiff, reduceCtorEq, Nat.reduceAdd, Nat.reduceLeDiff, Bool.false_eq_true, Nat.reduceMul, Bool.true_eq_false, Nat.reduceLT, gR1, gR2, gR3, gR4, gR5, gR6, gR7, gR8, gR9, gR10, gR11, gR12, gR13, gR14, gR15, Int.reduceToNat, Int.cast_ofNat_Int, Int.natCast_one, Int.reduceLT, Int.reduceLE, List.getD_nil, Int.toNat_natCast, Int.natCast_zero, false_and, and_false, Int.toNat_zero, Int.toNat_one, Int.reduceEq, Nat.reduceSub, ← hR]
  | false =>
    have e6 : (o == 6) = false := by cases h : (o == 6) <;> simp_all
    have e7 : (o == 7) = false := by cases h : (o == 7) <;> simp_all
    have e8 : (o == 8) = false := by cases h : (o == 8) <;> simp_all
    have e9 : (o == 9) = false := by cases h : (o == 9) <;> simp_all
    simp only [h6, e6, e7, e8, e9, go_sem, Nat.reduceEqDiff, reduceCtorEq, Nat.reduceAdd, Nat.reduceLeDiff, Bool.false_eq_true, Nat.reduceMul, Bool.true_eq_false, Nat.reduceLT, gR1, gR2, gR3, gR4, gR5, gR6, gR7, gR8, gR9, gR10, gR11, gR12, gR13, gR14, gR15, Int.reduceToNat, Int.cast_ofNat_Int, Int.natCast_one, Int.reduceLT, Int.reduceLE, List.getD_nil, Int.toNat_natCast, Int.natCast_zero, false_and, and_false, Int.toNat_zero, Int.toNat_one, Int.reduceEq, Nat.reduceSub] at hR ⊢
    cases e10 : (o == 10) <;> cases e11 : (o == 11) <;> cases e12 : (o == 12) <;> cases e13 : (o == 13) <;> first | (exfalso; simp_all; done) | skip
    all_goals
      simp only [e10, e11, e12, e13, go_sem, Nat.reduceEqDiff, reduceCtorEq, Nat.reduceAdd, Nat.reduceLeDiff, Bool.false_eq_true, Nat.reduceMul, Bool.true_eq_false, Nat.reduceLT, gR1, gR2, gR3, gR4, gR5, gR6, gR7, gR8, gR9, gR10, gR11, gR12, gR13, gR14, gR15, Int.reduceToNat, Int.cast_ofNat_Int, Int.natCast_one, Int.reduceLT, Int.reduceLE, List.getD_nil, Int.toNat_natCast, Int.natCast_zero, false_and, and_false, Int.toNat_zero, Int.toNat_one, Int.reduceEq, Nat.reduceSub] at hR hl ⊢
    all_goals first
      | (refine call_by h1 ?_; cases h3 : allS l [73, 110, 116] <;> simp only [go_sem, Nat.reduceEqDiff, reduceCtorEq, Nat.reduceAdd, Nat.reduceLeDiff, Bool.false_eq_true, Nat.reduceMul, Bool.true_eq_false, Nat.reduceLT, gR1, gR2, gR3, gR4, gR5, gR6, gR7, gR8, gR9, gR10, gR11, gR12, gR13, gR14, gR15, Int.reduceToNat, Int.cast_ofNat_Int, Int.natCast_one, Int.reduceLT, Int.reduceLE, List.getD_nil, Int.toNat_natCast, Int.natCast_zero, false_and, and_false, Int.toNat_zero, Int.toNat_one, Int.reduceEq, Nat.reduceSub, h3] at hR ⊢ <;> simp only [go_sem, Nat.reduceEqDiff, reduceCtorEq, Nat.reduceAdd, Nat.reduceLeDiff, Bool.false_eq_true, Nat.reduceMul, Bool.true_eq_false, Nat.reduceLT, gR1, gR2, gR3, gR4, gR5, gR6, gR7, gR8, gR9, gR10, gR11, gR12, gR13, gR14, gR15, Int.reduceToNat, Int.cast_ofNat_Int, Int.natCast_one, Int.reduceLT, Int.reduceLE, List.getD_nil, Int.toNat_natCast, Int.natCast_zero, false_and, and_false, Int.toNat_zero, Int.toNat_one, Int.reduceEq, Nat.reduceSub, ← hR])
      | (refine call_by h2 ?_; cases h3 : allS l [66, 111, 111, 108] <;> simp only [go_sem, Nat.reduceEqDiff, reduceCtorEq, Nat.reduceAdd, Nat.reduceLeDiff, Bool.false_eq_true, Nat.reduceMul, Bool.true_eq_false, Nat.reduceLT, gR1, gR2, gR3, gR4, gR5, gR6, gR7, gR8, gR9, gR10, gR11, gR12, gR13, gR14, gR15, Int.reduceToNat, Int.cast_ofNat_Int, Int.natCast_one, Int.reduceLT, Int.reduceLE, List.getD_nil, Int.toNat_natCast, Int.natCast_zero, false_and, and_false, Int.toNat_zero, Int.toNat_one, Int.reduceEq, Nat.reduceSub, h3] at hR ⊢ <;> simp only [go_sem, Nat.reduceEqDiff, reduceCtorEq, Nat.reduceAdd, Nat.reduceLeDiff, Bool.false_eq_true, Nat.reduceMul, Bool.true_eq_false, Nat.reduceLT, gR1, gR2, gR3, gR4, gR5, gR6, gR7, gR8, gR9, gR10, gR11, gR12, gR13, gR14, gR15, Int.reduceToNat, Int.cast_ofNat_Int, Int.natCast_one, Int.reduceLT, Int.reduceLE, List.getD_nil, Int.toNat_natCast, Int.natCast_zero, false_and, and_false, Int.toNat_zero, Int.toNat_one, Int.reduceEq, Nat.reduceSub, ← hR])
      | (obtain ⟨a, b, r, rfl⟩ := two_split hl
         have hlt1 : (0 : Int) < ((r.length + 1 + 1 : Nat) : Int) := by omega
         have hlt2 : (1 : Int) < ((r.length + 1 + 1 : Nat) : Int) := by omega
         have hln := scell_lens (a :: b :: r)
         simp only [List.map_cons] at hln
         simp only [go_sem, Nat.reduceEqDiff, reduceCtorEq, Nat.reduceAdd, Nat.reduceLeDiff, Bool.false_eq_true, Nat.reduceMul, Bool.true_eq_false, Nat.reduceLT, gR1, gR2, gR3, gR4, gR5, gR6, gR7, gR8, gR9, gR10, gR11, gR12, gR13, gR14, gR15, Int.reduceToNat, Int.cast_ofNat_Int, Int.natCast_one, Int.reduceLT, Int.reduceLE, List.getD_nil, Int.toNat_natCast, Int.natCast_zero, false_and, and_false, Int.toNat_zero, Int.toNat_one, Int.reduceEq, Nat.reduceSub, hlt1, hlt2, scell] at hR hln ⊢
         try simp only [hln, go_sem, Nat.reduceEqDiff, reduceCtorEq, Nat.reduceAdd, Nat.reduceLeDiff, Bool.false_eq_true, Nat.reduceMul, Bool.true_eq_false, Nat.reduceLT, gR1, gR2, gR3, gR4, gR5, gR6, gR7, gR8, gR9, gR10, gR11, gR12, gR13, gR14, gR15, Int.reduceToNat, Int.cast_ofNat_Int, Int.natCast_one, Int.reduceLT, Int.reduceLE, List.getD_nil, Int.toNat_natCast, Int.natCast_zero, false_and, and_false, Int.toNat_zero, Int.toNat_one, Int.reduceEq, Nat.reduceSub]
         cases h3 : (a == b) <;> simp only [go_sem, Nat.reduceEqDiff, reduceCtorEq, Nat.reduceAdd, Nat.reduceLeDiff, Bool.false_eq_true, Nat.reduceMul, Bool.true_eq_false, Nat.reduceLT, gR1, gR2, gR3, gR4, gR5, gR6, gR7, gR8, gR9, gR10, gR11, gR12, gR13, gR14, gR15, Int.reduceToNat, Int.cast_ofNat_Int, Int.natCast_one, Int.reduceLT, Int.reduceLE, List.getD_nil, Int.toNat_natCast, Int.natCast_zero, false_and, and_false, Int.toNat_zero, Int.toNat_one, Int.reduceEq, Nat.reduceSub, h3] at hR ⊢ <;> simp only [go_sem, Nat.reduceEqDiff, reduceCtorEq, Nat.reduceAdd, Nat.reduceLeDiff, Bool.false_eq_true, Nat.reduceMul, Bool.true_eq_false, Nat.reduceLT, gR1, gR2, gR3, gR4, gR5, gR6, gR7, gR8, gR9, gR10, gR11, gR12, gR13, gR14, gR15, Int.reduceToNat, Int.cast_ofNat_Int, Int.natCast_one, Int.reduceLT, Int.reduceLE, List.getD_nil, Int.toNat_natCast, Int.natCast_zero, false_and, and_false, Int.toNat_zero, Int.toNat_one, Int.reduceEq, Nat.reduceSub, ← hR])
theorem r09_hole_ev (v : SEnv) (s : Str) (l : List Str) : E.C r09_hole [.agg v.cells, .one (.str s), .one (.lst (l.map scell))] (two (holeS v s l)) := by
  have hf := r06_Hole_ev Z v s
  refine Z.r09_hole _ _ ⟨Nat.le_of_ble_eq_true rfl, ?_⟩
  generalize hR : holeS v s l = R
  unfold holeS at hR
  unfold two
  rw [SEnv.cells] at *
  simp only [fn_r09_hole, go_sem, Nat.reduceEqDiff, reduceCtorEq, Nat.reduceAdd, Nat.reduceLeDiff, Bool.false_eq_true, Nat.reduceMul, Bool.true_eq_false, Nat.reduceLT, gR1, gR2, gR3, gR4, gR5, gR6, gR7, gR8, gR9, gR10, gR11, gR12, gR13, gR14, gR15, Int.reduceToNat, Int.cast_ofNat_Int, Int.natCast_one, Int.reduceLT, Int.reduceLE, List.getD_nil, Int.toNat_natCast, Int.natCast_zero, false_and, and_false, Int.toNat_zero, Int.toNat_one, Int.reduceEq, Nat.reduceSub]
  refine call_by hf ?_
  generalize findHole v.holes s = q at *
  obtain ⟨⟨qn, qa⟩, qb⟩ := q
  simp only [go_sem, Nat.reduceEqDiff, reduceCtorEq, Nat.reduceAdd, Nat.reduceLeDiff, Bool.false_eq_true, Nat.reduceMul, Bool.true_eq_false, Nat.reduceLT, gR1, gR2, gR3, gR4, gR5, gR6, gR7, gR8, gR9, gR10, gR11, gR12, gR13, gR14, gR15, Int.reduceToNat, Int.cast_ofNat_Int, Int.natCast_one, Int.reduceLT, Int.reduceLE, List.getD_nil, Int.toNat_natCast, Int.natCast_zero, false_and, and_false, Int.toNat_zero, Int.toNat_one, Int.reduceEq, Nat.reduceSub, SHole.cells] at hR ⊢
  cases qb with
  | false => simp only [go_sem, Nat.reduceEqDiff, reduceCtorEq, Nat.reduceAdd, Nat.reduceLeDiff, Bool.false_eq_true, Nat.reduceMul, Bool.true_eq_false, Nat.reduceLT, gR1, gR2, gR3, gR4, gR5, gR6, gR7, gR8, gR9, gR10, gR11, gR12, gR13, gR14, gR15, Int.reduceToNat, Int.cast_ofNat_Int, Int.natCast_one, Int.reduceLT, Int.reduceLE, List.getD_nil, Int.toNat_natCast, Int.natCast_zero, false_and, and_false, Int.toNat_zero, Int.toNat_one, Int.reduceEq, Nat.reduceSub] at hR ⊢; simp only [go_sem, Nat.reduceEqDiff, reduceCtorEq, Nat.reduceAdd, Nat.reduceLeDiff, Bool.false_eq_true, Nat.reduceMul, Bool.true_eq_false, Nat.reduceLT, gR1, gR2, gR3, gR4, gR5, gR6, gR7, gR8, gR9, gR10, gR11, gR12, gR13, gR14, gR15, Int.reduceToNat, Int.cast_ofNat_Int, Int.natCast_one, Int.reduceLT, Int.reduceLE, List.getD_nil, Int.toNat_natCast, Int.natCast_zero, false_and, and_false, Int.toNat_zero, Int.toNat_one, Int.reduceEq, Nat.reduceSub, ← hR]
  | true =>
  simp only [go_sem, Nat.reduceEqDiff, reduceCtorEq, Nat.reduceAdd, Nat.reduceLeDiff, Bool.false_eq_true, Nat.reduceMul, Bool.true_eq_false, Nat.reduceLT, gR1, gR2, gR3, gR4, gR5, gR6, gR7, gR8, gR9, gR10, gR11, gR12, gR13, gR14, gR15, Int.reduceToNat, Int.cast_ofNat_Int, Int.natCast_one, Int.reduceLT, Int.reduceLE, List.getD_nil, Int.toNat_natCast, Int.natCast_zero, false_and, and_false, Int.toNat_zero, Int.toNat_one, Int.reduceEq, Nat.reduceSub] at hR ⊢
  intro hlen hlen2
  by_cases h2 : l.length = qa.length
  · have h3 : ((l.length : Int) != (qa.length : Int)) = false := by simp [h2]
    simp only [go_sem, Nat.reduceEqDiff, reduceCtorEq, Nat.reduceAdd, Nat.reduceLeDiff, Bool.false_eq_true, Nat.reduceMul, Bool.true_eq_false, Nat.reduceLT, gR1, gR2, gR3, gR4, gR5, gR6, gR7, gR8, gR9, gR10, gR11, gR12, gR13, gR14, gR15, Int.reduceToNat, Int.cast_ofNat_Int, Int.natCast_one, Int.reduceLT, Int.reduceLE, List.getD_nil, Int.toNat_natCast, Int.natCast_zero, false_and, and_false, Int.toNat_zero, Int.toNat_one, Int.reduceEq, Nat.reduceSub, h3] at hR ⊢
    refine loop_list l (fun done => (qa.map SVar.sort).take done.length = done) (fun done rest => ⟨[(10, .d (.int .i64 done.length)), (2, .d (.lst (l.map scell))), (8, .ptr 8 0)], [(8, [.d (.str qn), .d (.lst (qa.map SVar.cells))])], []⟩) ?_ (by simp) ?_ ?_
    · exact Ent_plain (by simp only [go_sem, Nat.reduceEqDiff, reduceCtorEq, Nat.reduceAdd, Nat.reduceLeDiff, Bool.false_eq_true, Nat.reduceMul, Bool.true_eq_false, Nat.reduceLT, gR1, gR2, gR3, gR4, gR5, gR6, gR7, gR8, gR9, gR10, gR11, gR12, gR13, gR14, gR15, Int.reduceToNat, Int.cast_ofNat_Int, Int.natCast_one, Int.reduceLT, Int.reduceLE, List.getD_nil, Int.toNat_natCast, Int.natCast_zero, false_and, and_false, Int.toNat_zero, Int.toNat_one, Int.reduceEq, Nat.reduceSub, Option.isSome_some])
    · intro done x r hl hI
      obtain ⟨y0, r0, hb0⟩ := prefix_split hI (by rw [List.length_map, ← h2, hl]; simp)
      obtain ⟨da, y, r', hb, hda, rfl⟩ := map_mid hb0
      have hx := getD_at (f := scell) (d := []) hl
      have hy := getD_at (f := SVar.cells) (d := []) hb
      have hdl : da.length = done.length := by rw [← hda]; simp
      rw [hdl] at hy
      have hlt := lt_mid hl
      have hlt2 := lt_mid hb
      rw [hdl] at hlt2
      have hw : IntKind.i64.wrap ((done.length : Int) + 1) = ((done.length + 1 : Nat) : Int) := wrap_succ (by omega)
      simp only [fn_r09_hole_L1, go_sem, Nat.reduceEqDiff, reduceCtorEq, Nat.reduceAdd, Nat.reduceLeDiff, Bool.false_eq_true, Nat.reduceMul, Bool.true_eq_false, Nat.reduceLT, gR1, gR2, gR3, gR4, gR5, gR6, gR7, gR8, gR9, gR10, gR11, gR12, gR13, gR14, gR15, Int.reduceToNat, Int.cast_ofNat_Int, Int.natCast_one, Int.reduceLT, Int.reduceLE, List.getD_nil, Int.toNat_natCast, Int.natCast_zero, false_and, and_false, Int.toNat_zero, Int.toNat_one, Int.reduceEq, Nat.reduceSub, hx, hy, hlt, hlt2, scell, SVar.cells]
      intro _
      cases h4 : (x == y.sort) with
      | true =>
        have hxy : x = y.sort := by simpa using h4
        simp only [go_sem, Nat.reduceEqDiff, reduceCtorEq, Nat.reduceAdd, Nat.reduceLeDiff, Bool.false_eq_true, Nat.reduceMul, Bool.true_eq_false, Nat.reduceLT, gR1, gR2, gR3, gR4, gR5, gR6, gR7, gR8, gR9, gR10, gR11, gR12, gR13, gR14, gR15, Int.reduceToNat, Int.cast_ofNat_Int, Int.natCast_one, Int.reduceLT, Int.reduceLE, List.getD_nil, Int.toNat_natCast, Int.natCast_zero, false_and, and_false, Int.toNat_zero, Int.toNat_one, Int.reduceEq, Nat.reduceSub, hw, List.length_append]
        exact ⟨Ent_plain (by simp only [go_sem, Nat.reduceEqDiff, reduceCtorEq, Nat.reduceAdd, Nat.reduceLeDiff, Bool.false_eq_true, Nat.reduceMul, Bool.true_eq_false, Nat.reduceLT, gR1, gR2, gR3, gR4, gR5, gR6, gR7, gR8, gR9, gR10, gR11, gR12, gR13, gR14, gR15, Int.reduceToNat, Int.cast_ofNat_Int, Int.natCast_one, Int.reduceLT, Int.reduceLE, List.getD_nil, Int.toNat_natCast, Int.natCast_zero, false_and, and_false, Int.toNat_zero, Int.toNat_one, Int.reduceEq, Nat.reduceSub, Option.isSome_some]), by rw [hb0, ← hxy, show done ++ x :: r0 = (done ++ [x]) ++ r0 by simp]; exact List.take_left' (by simp)⟩
      | false =>
        have h5 : (l == qa.map SVar.sort) = false := by
          simp only [beq_eq_false_iff_ne, ne_eq] at h4 ⊢
          intro e
          rw [hl, hb0] at e
          exact h4 (List.cons.inj (List.append_cancel_left e)).1
        simp only [go_sem, Nat.reduceEqDiff, reduceCtorEq, Nat.reduceAdd, Nat.reduceLeDiff, Bool.false_eq_true, Nat.reduceMul, Bool.true_eq_false, Nat.reduceLT, gR1, gR2, gR3, gR4, gR5, gR6, gR7, gR8, gR9, gR10, gR11, gR12, gR13, gR14, gR15, Int.reduceToNat, Int.cast_ofNat_Int, Int.natCast_one, Int.reduceLT, Int.reduceLE, List.getD_nil, Int.toNat_natCast, Int.natCast_zero, false_and, and_false, Int.toNat_zero, Int.toNat_one, Int.reduceEq, Nat.reduceSub, h5] at hR ⊢
        simp only [go_sem, Nat.reduceEqDiff, reduceCtorEq, Nat.reduceAdd, Nat.reduceLeDiff, Bool.false_eq_true, Nat.reduceMul, Bool.true_eq_false, Nat.reduceLT, gR1, gR2, gR3, gR4, gR5, gR6, gR7, gR8, gR9, gR10, gR11, gR12, gR13, gR14, gR15, Int.reduceToNat, Int.cast_ofNat_Int, Int.natCast_one, Int.reduceLT, Int.reduceLE, List.getD_nil, Int.toNat_natCast, Int.natCast_zero, false_and, and_false, Int.toNat_zero, Int.toNat_one, Int.reduceEq, Nat.reduceSub, ← hR]
    · intro hI
      have h5 : (l == qa.map SVar.sort) = true := by
        have e : (qa.map SVar.sort).take l.length = qa.map SVar.sort := List.take_of_length_le (by rw [List.length_map, h2]; exact Nat.le_refl _)
        rw [beq_iff_eq]; exact hI.symm.trans e
      simp only [go_sem, Nat.reduceEqDiff, reduceCtorEq, Nat.reduceAdd, Nat.reduceLeDiff, Bool.false_eq_true, Nat.reduceMul, Bool.true_eq_false, Nat.reduceLT, gR1, gR2, gR3, gR4, gR5, gR6, gR7, gR8, gR9, gR10, gR11, gR12, gR13, gR14, gR15, Int.reduceToNat, Int.cast_ofNat_Int, Int.natCast_one, Int.reduceLT, Int.reduceLE, List.getD_nil, Int.toNat_natCast, Int.natCast_zero, false_and, and_false, Int.toNat_zero, Int.toNat_one, Int.reduceEq, Nat.reduceSub, h5] at hR
      simp only [fn_r09_hole_L1, go_sem, Nat.reduceEqDiff, reduceCtorEq, Nat.reduceAdd, Nat.reduceLeDiff, Bool.false_eq_true, Nat.reduceMul, Bool.true_eq_false, Nat.reduceLT, gR1, gR2, gR3, gR4, gR5, gR6, gR7, gR8, gR9, gR10, gR11, gR12, gR13, gR14, gR15, Int.reduceToNat, Int.cast_ofNat_Int, Int.natCast_one, Int.reduceLT, Int.reduceLE, List.getD_nil, Int.toNat_natCast, Int.natCast_zero, false_and, and_false, Int.toNat_zero, Int.toNat_one, Int.reduceEq, Nat.reduceSub, ← hR, sBool, implies_true]
  · have h3 : ((l.length : Int) != (qa.length : Int)) = true := by simp; omega
    simp only [go_sem, Nat.reduceEqDiff, reduceCtorEq, Nat.reduceAdd, Nat.reduceLeDiff, Bool.false_eq_true, Nat.reduceMul, Bool.true_eq_false, Nat.reduceLT, gR1, gR2, gR3, gR4, gR5, gR6, gR7, gR8, gR9, gR10, gR11, gR12, gR13, gR14, gR15, Int.reduceToNat, Int.cast_ofNat_Int, Int.natCast_one, Int.reduceLT, Int.reduceLE, List.getD_nil, Int.toNat_natCast, Int.natCast_zero, false_and, and_false, Int.toNat_zero, Int.toNat_one, Int.reduceEq, Nat.reduceSub, h3] at hR ⊢
    simp only [go_sem, Nat.reduceEqDiff, reduceCtorEq, Nat.reduceAdd, Nat.reduceLeDiff, Bool.false_eq_true, Nat.reduceMul, Bool.true_eq_false, Nat.reduceLT, gR1, gR2, gR3, gR4, gR5, gR6, gR7, gR8, gR9, gR10, gR11, gR12, gR13, gR14, gR15, Int.reduceToNat, Int.cast_ofNat_Int, Int.natCast_one, Int.reduceLT, Int.reduceLE, List.getD_nil, Int.toNat_natCast, Int.natCast_zero, false_and, and_false, Int.toNat_zero, Int.toNat_one, Int.reduceEq, Nat.reduceSub, ← hR]
end Go.Abs
end
section
set_option linter.unusedSimpArgs false
set_option linter.unusedVariables false
set_option linter.unusedSectionVars false
namespace Go.Abs
set_option maxRecDepth 100000
variable {E : AEnv} (Z : Sys E)
include Z
theorem sorting_node_ev (v : SEnv) (hv : v.Ok) (o : Int) (s : Str) (n : Int) (ks : List Pred) (l : List Str) (hl : (o == 10 || o == 11) = true → 2 ≤ l.length) :
    E.C sorting_node [.agg v.cells, .agg (Pred.cells (.mk o s n ks)), .one (.lst (l.map scell))] (two (nodeS v o s l)) := by
  have hvar := sort_Var_ev Z v s
  have happ := sorting_applied_ev Z v hv s l
  have hfil := sorting_filled_ev Z v hv s l
  have hrul := sorting_ruleOf_ev Z o
  have hal1 := sorting_all_1_ev Z l sInt
  have hal2 := sorting_all_1_ev Z l sBool
  refine Z.sorting_node _ _ ⟨Nat.le_of_ble_eq_true rfl, ?_⟩
  generalize hR : nodeS v o s l = R
  unfold nodeS at hR
  unfold two at *
  rw [SEnv.cells] at *
  rw [Pred.cells_eq]
  simp only [fn_sorting_node, go_sem, Nat.reduceEqDiff, reduceCtorEq, Nat.reduceAdd, Nat.reduceLeDiff, Bool.false_eq_true, Nat.reduceMul, Bool.true_eq_false, Nat.reduceLT, gR1, gR2, gR3, gR4, gR5, gR6, gR7, gR8, gR9, gR10, gR11, gR12, gR13, gR14, gR15, Int.reduceToNat, Int.cast_ofNat_Int, Int.natCast_one, Int.reduceLT, Int.reduceLE, List.getD_nil, Int.toNat_natCast, Int.natCast_zero, false_and, and_false, Int.toNat_zero, Int.toNat_one, Int.reduceEq, Nat.reduceSub, Pred.op, Pred.name, Pred.n, Pred.kids]
  cases h1 : (o == 1) with
  | true => simp only [h1, go_sem, Nat.reduceEqDiff, reduceCtorEq, Nat.reduceAdd, Nat.reduceLeDiff, Bool.false_eq_true, Nat.reduceMul, Bool.true_eq_false, Nat.reduceLT, gR1, gR2, gR3, gR4, gR5, gR6, gR7, gR8, gR9, gR10, gR11, gR12, gR13, gR14, gR15, Int.reduceToNat, Int.cast_ofNat_Int, Int.natCast_one, Int.reduceLT, Int.reduceLE, List.getD_nil, Int.toNat_natCast, Int.natCast_zero, false_and, and_false, Int.toNat_zero, Int.toNat_one, Int.reduceEq, Nat.reduceSub, sInt] at hR ⊢; simp only [go_sem, Nat.reduceEqDiff, reduceCtorEq, Nat.reduceAdd, Nat.reduceLeDiff, Bool.false_eq_true, Nat.reduceMul, Bool.true_eq_false, Nat.reduceLT, gR1, gR2, gR3, gR4, gR5, gR6, gR7, gR8, gR9, gR10, gR11, gR12, gR13, gR14, gR15, Int.reduceToNat, Int.cast_ofNat_Int, Int.natCast_one, Int.reduceLT, Int.reduceLE, List.getD_nil, Int.toNat_natCast, Int.natCast_zero, false_and, and_false, Int.toNat_zero, Int.toNat_one, Int.reduceEq, Nat.reduceSub, ← hR]
  | false =>
  cases h2 : (o == 2) with
  | true => simp only [h1, h2, go_sem, Nat.reduceEqDiff, reduceCtorEq, Nat.reduceAdd, Nat.reduceLeDiff, Bool.false_eq_true, Nat.reduceMul, Bool.true_eq_false, Nat.reduceLT, gR1, gR2, gR3, gR4, gR5, gR6, gR7, gR8, gR9, gR10, gR11, gR12, gR13, gR14, gR15, Int.reduceToNat, Int.cast_ofNat_Int, Int.natCast_one, Int.reduceLT, Int.reduceLE, List.getD_nil, Int.toNat_natCast, Int.natCast_zero, false_and, and_false, Int.toNat_zero, Int.toNat_one, Int.reduceEq, Nat.reduceSub, sBool] at hR ⊢; simp only [go_sem, Nat.reduceEqDiff, reduceCtorEq, Nat.reduceAdd, Nat.reduceLeDiff, Bool.false_eq_true, Nat.reduceMul, Bool.true_eq_false, Nat.reduceLT, gR1, gR2, gR3, gR4, gR5, gR6, gR7, gR8, gR9, gR10, gR11, gR12, gR13, gR14, gR15, Int.reduceToNat, Int.cast_ofNat_Int, Int.natCast_one, Int.reduceLT, Int.reduceLE, List.getD_nil, Int.toNat_natCast, Int.natCast_zero, false_and, and_false, Int.toNat_zero, Int.toNat_one, Int.reduceEq, Nat.reduceSub, ← hR]
  | false =>
  cases h3 : (o == 3) with
  | true =>
    simp only [h1, h2, h3, go_sem, Nat.reduceEqDiff, reduceCtorEq, Nat.reduceAdd, Nat.reduceLeDiff, Bool.false_eq_true, Nat.reduceMul, Bool.true_eq_false, Nat.reduceLT, gR1, gR2, gR3, gR4, gR5, gR6, gR7, gR8, gR9, gR10, gR11, gR12, gR13, gR14, gR15, Int.reduceToNat, Int.cast_ofNat_Int, Int.natCast_one, Int.reduceLT, Int.reduceLE, List.getD_nil, Int.toNat_natCast, Int.natCast_zero, false_and, and_false, Int.toNat_zero, Int.toNat_one, Int.reduceEq, Nat.reduceSub] at hR ⊢
    refine call_by hvar ?_
    simp only [go_sem, Nat.reduceEqDiff, reduceCtorEq, Nat.reduceAdd, Nat.reduceLeDiff, Bool.false_eq_true, Nat.reduceMul, Bool.true_eq_false, Nat.reduceLT, gR1, gR2, gR3, gR4, gR5, gR6, gR7, gR8, gR9, gR10, gR11, gR12, gR13, gR14, gR15, Int.reduceToNat, Int.cast_ofNat_Int, Int.natCast_one, Int.reduceLT, Int.reduceLE, List.getD_nil, Int.toNat_natCast, Int.natCast_zero, false_and, and_false, Int.toNat_zero, Int.toNat_one, Int.reduceEq, Nat.reduceSub]
    cases h : (findVar v.vars s).2 <;> simp only [h, go_sem, Nat.reduceEqDiff, reduceCtorEq, Nat.reduceAdd, Nat.reduceLeDiff, Bool.false_eq_true, Nat.reduceMul, Bool.true_eq_false, Nat.reduceLT, gR1, gR2, gR3, gR4, gR5, gR6, gR7, gR8, gR9, gR10, gR11, gR12, gR13, gR14, gR15, Int.reduceToNat, Int.cast_ofNat_Int, Int.natCast_one, Int.reduceLT, Int.reduceLE, List.getD_nil, Int.toNat_natCast, Int.natCast_zero, false_and, and_false, Int.toNat_zero, Int.toNat_one, Int.reduceEq, Nat.reduceSub] at hR ⊢ <;> simp only [go_sem, Nat.reduceEqDiff, reduceCtorEq, Nat.reduceAdd, Nat.reduceLeDiff, Bool.false_eq_true, Nat.reduceMul, Bool.true_eq_false, Nat.reduceLT, gR1, gR2, gR3, gR4, gR5, gR6, gR7, gR8, gR9, gR10, gR11, gR12, gR13, gR14, gR15, Int.reduceToNat, Int.cast_ofNat_Int, Int.natCast_one, Int.reduceLT, Int.reduceLE, List.getD_nil, Int.toNat_natCast, Int.natCast_zero, false_and, and_false, Int.toNat_zero, Int.toNat_one, Int.reduceEq, Nat.reduceSub, ← hR]
  | false =>
  cases h4 : (o == 4) with
  | true =>
    simp only [h1, h2, h3, h4, go_sem, Nat.reduceEqDiff, reduceCtorEq, Nat.reduceAdd, Nat.reduceLeDiff, Bool.false_eq_true, Nat.reduceMul, Bool.true_eq_false, Nat.reduceLT, gR1, gR2, gR3, gR4, gR5, gR6, gR7, gR8, gR9, gR10, gR11, gR12, gR13, gR14, gR15, Int.reduceToNat, Int.cast_ofNat_Int, Int.natCast_one, Int.reduceLT, Int.reduceLE, List.getD_nil, Int.toNat_natCast, Int.natCast_zero, false_and, and_false, Int.toNat_zero, Int.toNat_one, Int.reduceEq, Nat.reduceSub] at hR ⊢
    refine call_by happ ?_
    simp only [go_sem, Nat.reduceEqDiff, reduceCtorEq, Nat.reduceAdd, Nat.reduceLeDiff, Bool.false_eq_true, Nat.reduceMul, Bool.true_eq_false, Nat.reduceLT, gR1, gR2, gR3, gR4, gR5, gR6, gR7, gR8, gR9, gR10, gR11, gR12, gR13, gR14, gR15, Int.reduceToNat, Int.cast_ofNat_Int, Int.natCast_one, Int.reduceLT, Int.reduceLE, List.getD_nil, Int.toNat_natCast, Int.natCast_zero, false_and, and_false, Int.toNat_zero, Int.toNat_one, Int.reduceEq, Nat.reduceSub, hR]
  | false =>
  cases h5 : (o == 5) with
  | true =>
    simp only [h1, h2, h3, h4, h5, go_sem, Nat.reduceEqDiff, reduceCtorEq, Nat.reduceAdd, Nat.reduceLeDiff, Bool.false_eq_true, Nat.reduceMul, Bool.true_eq_false, Nat.reduceLT, gR1, gR2, gR3, gR4, gR5, gR6, gR7, gR8, gR9, gR10, gR11, gR12, gR13, gR14, gR15, Int.reduceToNat, Int.cast_ofNat_Int, Int.natCast_one, Int.reduceLT, Int.reduceLE, List.getD_nil, Int.toNat_natCast, Int.natCast_zero, false_and, and_false, Int.toNat_zero, Int.toNat_one, Int.reduceEq, Nat.reduceSub] at hR ⊢
    refine call_by hfil ?_
    simp only [go_sem, Nat.reduceEqDiff, reduceCtorEq, Nat.reduceAdd, Nat.reduceLeDiff, Bool.false_eq_true, Nat.reduceMul, Bool.true_eq_false, Nat.reduceLT, gR1, gR2, gR3, gR4, gR5, gR6, gR7, gR8, gR9, gR10, gR11, gR12, gR13, gR14, gR15, Int.reduceToNat, Int.cast_ofNat_Int, Int.natCast_one, Int.reduceLT, Int.reduceLE, List.getD_nil, Int.toNat_natCast, Int.natCast_zero, false_and, and_false, Int.toNat_zero, Int.toNat_one, Int.reduceEq, Nat.reduceSub, hR]
  | false =>
  simp only [h1, h2, h3, h4, h5, go_sem, Nat.reduceEqDiff, reduceCtorEq, Nat.reduceAdd, Nat.reduceLeDiff, Bool.false_eq_true, Nat.reduceMul, Bool.true_eq_false, Nat.reduceLT, gR1, gR2, gR3, gR4, gR5, gR6, gR7, gR8, gR9, gR10, gR11, gR12, gR13, gR14, gR15, Int.reduceToNat, Int.cast_ofNat_Int, Int.natCast_one, Int.reduceLT, Int.reduceLE, List.getD_nil, Int.toNat_natCast, Int.natCast_zero, false_and, and_false, Int.toNat_zero, Int.toNat_one, Int.reduceEq, Nat.reduceSub] at hR ⊢
  refine call_by hrul ?_
  unfold opS at hR
  unfold ruleS
  cases h6 : (o == 6 || o == 7 || o == 8 || o == 9) with
  | true =>
    simp only [h6, go_sem, Nat.reduceEqDiff, reduceCtorEq, Nat.reduceAdd, Nat.reduceLeDiff, Bool.false_eq_true, Nat.reduceMul, Bool.true_eq_false, Nat.reduceLT, gR1, gR2, gR3, gR4, gR5, gR6, gR7, gR8, gR9, gR10, gR11, gR12, gR13, gR14, gR15, Int.reduceToNat, Int.cast_ofNat_Int, Int.natCast_one, Int.reduceLT, Int.reduceLE, List.getD_nil, Int.toNat_natCast, Int.natCast_zero, false_and, and_false, Int.toNat_zero, Int.toNat_one, Int.reduceEq, Nat.reduceSub] at hR ⊢
    refine call_by hal1 ?_
    cases h : allS l sInt <;> simp only [h, go_sem, Nat.reduceEqDiff, reduceCtorEq, Nat.reduceAdd, Nat.reduceLeDiff, Bool.false_eq_true, Nat.reduceMul, Bool.true_eq_false, Nat.reduceLT, gR1, gR2, gR3, gR4, gR5, gR6, gR7, gR8, gR9, gR10, gR11, gR12, gR13, gR14, gR15, Int.reduceToNat, Int.cast_ofNat_Int, Int.natCast_one, Int.reduceLT, Int.reduceLE, List.getD_nil, Int.toNat_natCast, Int.natCast_zero, false_and, and_false, Int.toNat_zero, Int.toNat_one, Int.reduceEq, Nat.reduceSub] at hR ⊢ <;> simp only [go_sem, Nat.reduceEqDiff, reduceCtorEq, Nat.reduceAdd, Nat.reduceLeDiff, Bool.false_eq_true, Nat.reduceMul, Bool.true_eq_false, Nat.reduceLT, gR1, gR2, gR3, gR4, gR5, gR6, gR7, gR8, gR9, gR10, gR11, gR12, gR13, gR14, gR15, Int.reduceToNat, Int.cast_ofNat_Int, Int.natCast_one, Int.reduceLT, Int.reduceLE, List.getD_nil, Int.toNat_natCast, Int.natCast_zero, false_and, and_false, Int.toNat_zero, Int.toNat_one, Int.reduceEq, Nat.reduceSub, ← hR]
  | false =>
  cases h7 : (o == 12 || o == 13) with
  | true =>
    simp only [h6, h7, go_sem, Nat.reduceEqDiff, reduceCtorEq, Nat.reduceAdd, Nat.reduceLeDiff, Bool.false_eq_true, Nat.reduceMul, Bool.true_eq_false, Nat.reduceLT, gR1, gR2, gR3, gR4, gR5, gR6, gR7, gR8, gR9, gR10, gR11, gR12, gR13, gR14, gR15, Int.reduceToNat, Int.cast_ofNat_Int, Int.natCast_one, Int.reduceLT, Int.reduceLE, List.getD_nil, Int.toNat_natCast, Int.natCast_zero, false_and, and_false, Int.toNat_zero, Int.toNat_one, Int.reduceEq, Nat.reduceSub] at hR ⊢
    refine call_by hal1 ?_
    cases h : allS l sInt <;> simp only [h, go_sem, Nat.reduceEqDiff, reduceCtorEq, Nat.reduceAdd, Nat.reduceLeDiff, Bool.false_eq_true, Nat.reduceMul, Bool.true_eq_false, Nat.reduceLT, gR1, gR2, gR3, gR4, gR5, gR6, gR7, gR8, gR9, gR10, gR11, gR12, gR13, gR14, gR15, Int.reduceToNat, Int.cast_ofNat_Int, Int.natCast_one, Int.reduceLT, Int.reduceLE, List.getD_nil, Int.toNat_natCast, Int.natCast_zero, false_and, and_false, Int.toNat_zero, Int.toNat_one, Int.reduceEq, Nat.reduceSub] at hR ⊢ <;> simp only [go_sem, Nat.reduceEqDiff, reduceCtorEq, Nat.reduceAdd, Nat.reduceLeDiff, Bool.false_eq_true, Nat.reduceMul, Bool.true_eq_false, Nat.reduceLT, gR1, gR2, gR3, gR4, gR5, gR6, gR7, gR8, gR9, gR10, gR11, gR12, gR13, gR14, gR15, Int.reduceToNat, Int.cast_ofNat_Int, Int.natCast_one, Int.reduceLT, Int.reduceLE, List.getD_nil, Int.toNat_natCast, Int.natCast_zero, false_and, and_false, Int.toNat_zero, Int.toNat_one, Int.reduceEq, Nat.reduceSub, ← hR]
  | false =>
  cases h8 : (o == 10 || o == 11) with
  | true =>
    simp only [h6, h7, h8, go_sem, Nat.reduceEqDiff, reduceCtorEq, Nat.reduceAdd, Nat.reduceLeDiff, Bool.false_eq_true, Nat.reduceMul, Bool.true_eq_false, Nat.reduceLT, gR1, gR2, gR3, gR4, gR5, gR6, gR7, gR8, gR9, gR10, gR11, gR12, gR13, gR14, gR15, Int.reduceToNat, Int.cast_ofNat_Int, Int.natCast_one, Int.reduceLT, Int.reduceLE, List.getD_nil, Int.toNat_natCast, Int.natCast_zero, false_and, and_false, Int.toNat_zero, Int.toNat_one, Int.reduceEq, Nat.reduceSub] at hR hl ⊢
    refine call_by (sorting_ruleOf_1_ev Z l hl) ?_
    cases h : (l.getD 0 [] == l.getD 1 []) <;> simp only [h, go_sem, Nat.reduceEqDiff, reduceCtorEq, Nat.reduceAdd, Nat.reduceLeDiff, Bool.false_eq_true, Nat.reduceMul, Bool.true_eq_false, Nat.reduceLT, gR1, gR2, gR3, gR4, gR5, gR6, gR7, gR8, gR9, gR10, gR11, gR12, gR13, gR14, gR15, Int.reduceToNat, Int.cast_ofNat_Int, Int.natCast_one, Int.reduceLT, Int.reduceLE, List.getD_nil, Int.toNat_natCast, Int.natCast_zero, false_and, and_false, Int.toNat_zero, Int.toNat_one, Int.reduceEq, Nat.reduceSub] at hR ⊢ <;> simp only [go_sem, Nat.reduceEqDiff, reduceCtorEq, Nat.reduceAdd, Nat.reduceLeDiff, Bool.false_eq_true, Nat.reduceMul, Bool.true_eq_false, Nat.reduceLT, gR1, gR2, gR3, gR4, gR5, gR6, gR7, gR8, gR9, gR10, gR11, gR12, gR13, gR14, gR15, Int.reduceToNat, Int.cast_ofNat_Int, Int.natCast_one, Int.reduceLT, Int.reduceLE, List.getD_nil, Int.toNat_natCast, Int.natCast_zero, false_and, and_false, Int.toNat_zero, Int.toNat_one, Int.reduceEq, Nat.reduceSub, ← hR]
  | false =>
    simp only [h6, h7, h8, go_sem, Nat.reduceEqDiff, reduceCtorEq, Nat.reduceAdd, Nat.reduceLeDiff, Bool.false_eq_true, Nat.reduceMul, Bool.true_eq_false, Nat.reduceLT, gR1, gR2, gR3, gR4, gR5, gR6, gR7, gR8, gR9, gR10, gR11, gR12, gR13, gR14, gR15, Int.reduceToNat, Int.cast_ofNat_Int, Int.natCast_one, Int.reduceLT, Int.reduceLE, List.getD_nil, Int.toNat_natCast, Int.natCast_zero, false_and, and_false, Int.toNat_zero, Int.toNat_one, Int.reduceEq, Nat.reduceSub] at hR ⊢
    refine call_by hal2 ?_
    cases h : allS l sBool <;> simp only [h, go_sem, Nat.reduceEqDiff, reduceCtorEq, Nat.reduceAdd, Nat.reduceLeDiff, Bool.false_eq_true, Nat.reduceMul, Bool.true_eq_false, Nat.reduceLT, gR1, gR2, gR3, gR4, gR5, gR6, gR7, gR8, gR9, gR10, gR11, gR12, gR13, gR14, gR15, Int.reduceToNat, Int.cast_ofNat_Int, Int.natCast_one, Int.reduceLT, Int.reduceLE, List.getD_nil, Int.toNat_natCast, Int.natCast_zero, false_and, and_false, Int.toNat_zero, Int.toNat_one, Int.reduceEq, Nat.reduceSub] at hR ⊢ <;> simp only [go_sem, Nat.reduceEqDiff, reduceCtorEq, Nat.reduceAdd, Nat.reduceLeDiff, Bool.false_eq_true, Nat.reduceMul, Bool.true_eq_false, Nat.reduceLT, gR1, gR2, gR3, gR4, gR5, gR6, gR7, gR8, gR9, gR10, gR11, gR12, gR13, gR14, gR15, Int.reduceToNat, Int.cast_ofNat_Int, Int.natCast_one, Int.reduceLT, Int.reduceLE, List.getD_nil, Int.toNat_natCast, Int.natCast_zero, false_and, and_false, Int.toNat_zero, Int.toNat_one, Int.reduceEq, Nat.reduceSub, ← hR]
end Go.Abs
end
section
set_option linter.unusedSimpArgs false
set_option linter.unusedVariables false
set_option linter.unusedSectionVars false
namespace Go.Abs
/-- the sort of a predicate that is well formed -/
def ofS (v : SEnv) : Pred → Str × Int
  | .mk o s n ks => if errs ks != 0 then ([], errs ks) else nodeS v o s (sorts ks)
where
  errs : List Pred → Int
  | [] => 0
  | k :: ks => if (ofS v k).2 != 0 then (ofS v k).2 else errs ks
  sorts : List Pred → List Str
  | [] => []
  | k :: ks => (ofS v k).1 :: sorts ks
theorem ofS_eq (v : SEnv) (o : Int) (s : Str) (n : Int) (ks : List Pred) : ofS v (.mk o s n ks) = if ofS.errs v ks != 0 then ([], ofS.errs v ks) else nodeS v o s (ks.map fun k => (ofS v k).1) := by
  rw [ofS]
  have : ofS.sorts v ks = ks.map fun k => (ofS v k).1 := by
    induction ks with
    | nil => rfl
    | cons k ks ih => rw [ofS.sorts, ih]; rfl
  rw [this]
theorem errs_mid {v : SEnv} {a b : List Pred} {k : Pred} (ha : ∀ x ∈ a, (ofS v x).2 = 0) : ofS.errs v (a ++ k :: b) = if (ofS v k).2 != 0 then (ofS v k).2 else ofS.errs v b := by
  induction a with
  | nil => rfl
  | cons x a ih => rw [List.cons_append, ofS.errs, ha x (by simp)]; exact ih fun y hy => ha y (by simp [hy])
theorem errs_all {v : SEnv} {a : List Pred} (ha : ∀ x ∈ a, (ofS v x).2 = 0) : ofS.errs v a = 0 := by
  induction a with
  | nil => rfl
  | cons x a ih => rw [ofS.errs, ha x (by simp)]; exact ih fun y hy => ha y (by simp [hy])
def NodeOk (q : Pred) : Prop := ((q.op == 10 || q.op == 11) = true → 2 ≤ q.kids.length) ∧ q.kids.length ≤ 24
def Arity (p : Pred) : Prop := ∀ q ∈ p.pre, NodeOk q
theorem Arity.kid {o : Int} {s : Str} {n : Int} {ks : List Pred} (h : Arity (.mk o s n ks)) {k : Pred} (hk : k ∈ ks) : Arity k := by
  intro q hq
  refine h q ?_
  rw [Pred.pre_eq]
  refine List.mem_cons_of_mem _ ?_
  clear h
  induction ks with
  | nil => cases hk
  | cons x ks ih =>
    rw [Pred.pre.pres, List.mem_append]
    rcases List.mem_cons.1 hk with rfl | hk
    · exact .inl hq
    · exact .inr (ih hk)
theorem Arity.top {o : Int} {s : Str} {n : Int} {ks : List Pred} (h : Arity (.mk o s n ks)) : NodeOk (.mk o s n ks) := h _ (by rw [Pred.pre_eq]; simp)
theorem first_zero : ∀ {l : List Pred}, Pred.first l = 0 → ∀ q ∈ l, Pred.err q = 0
  | [], _, q, hq => by cases hq
  | p :: l, h, q, hq => by
    rw [Pred.first] at h
    by_cases hp : (Pred.err p != 0) = true
    · rw [if_pos hp] at h; simp [h] at hp
    · rw [if_neg hp] at h
      rcases List.mem_cons.1 hq with rfl | hq
      · simpa using hp
      · exact first_zero h q hq
theorem node_ok_of {q : Pred} (h : Pred.err q = 0) : NodeOk q := by
  obtain ⟨o, s, n, ks⟩ := q
  change nodeE o s n ks = 0 at h
  unfold nodeE at h
  by_cases h1 : (decide (o < 1) || decide (o > 18) || !s == [] && !isOpNamed o || n != 0 && !(o == 1 || o == 2) || !kidsOk o ks.length) = true
  · rw [if_pos h1] at h; cases h
  · simp only [Bool.or_eq_true, not_or] at h1
    have hk : kidsOk o ks.length = true := by simpa using h1.2
    unfold kidsOk at hk
    refine ⟨fun ho => ?_, ?_⟩ <;> simp only [Pred.op, Pred.kids] at *
    · split at hk
      · simp at ho; simp_all; omega
      · split at hk
        · simp at ho; simp_all; omega
        · split at hk
          · simp at ho; simp_all; omega
          · simp at hk; omega
    · split at hk
      · simp at hk; simp [hk]
      · split at hk
        · simp at hk; omega
        · split at hk <;> (simp at hk; omega)
theorem arity_of {p : Pred} (h : Pred.formE p = 0) : Arity p := by
  rw [Pred.formE_first] at h
  exact fun q hq => node_ok_of (first_zero h q hq)
set_option maxRecDepth 100000
variable {E : AEnv} (Z : Sys E)
include Z
theorem sorting_Of_1_ev (v : SEnv) (hv : v.Ok) {b7 b2 : Nat} (h7 : E.G b7 = some [.clo sorting_Of_1 [.gp b7 0, .gp b2 0]]) (h2 : E.G b2 = some v.cells) (p : Pred) (hp : Arity p) :
    E.C sorting_Of_1 [.agg p.cells, .one (.gp b7 0), .one (.gp b2 0)] (two (ofS v p)) := by
  induction p using Pred.ind with
  | h o s n ks ih =>
  have hn := fun l hl => sorting_node_ev Z v hv o s n ks l hl
  refine Z.sorting_Of_1 _ _ ⟨Nat.le_of_ble_eq_true rfl, ?_⟩
  generalize hR : ofS v (.mk o s n ks) = R
  rw [ofS_eq] at hR
  unfold two at *
  rw [SEnv.cells] at *
  rw [Pred.cells_eq] at *
  simp only [fn_sorting_Of_1, go_sem, Nat.reduceEqDiff, reduceCtorEq, Nat.reduceAdd, Nat.reduceLeDiff, Bool.false_eq_true, Nat.reduceMul, Bool.true_eq_false, Nat.reduceLT, gR1, gR2, gR3, gR4, gR5, gR6, gR7, gR8, gR9, gR10, gR11, gR12, gR13, gR14, gR15, Int.reduceToNat, Int.cast_ofNat_Int, Int.natCast_one, Int.reduceLT, Int.reduceLE, List.getD_nil, Int.toNat_natCast, Int.natCast_zero, false_and, and_false, Int.toNat_zero, Int.toNat_one, Int.reduceEq, Nat.reduceSub, Pred.op, Pred.name, Pred.n, Pred.kids] at hn ⊢
  intro hlen
  have hk24 := hp.top.2
  simp only [Pred.kids] at hk24
  refine loop_list ks (fun done => ∀ x ∈ done, (ofS v x).2 = 0) (fun done rest => ⟨[(14, .d (.int .i64 done.length)), (13, .d (.int .i64 ks.length)), (12, .d (.lst (ks.map Pred.cells))), (1, .d (.gp b7 0)), (2, .d (.gp b2 0)), (3, .ptr 3 0), (6, .own 6 1 ((done.map fun k => (ofS v k).1).map scell))], [(3, [.d (.int .i64 o), .d (.str s), .d (.int .i64 n), .d (.lst (ks.map Pred.cells))])], [(6, true)]⟩) ?_ (by simp) ?_ ?_
  · exact Ent_conv 6 6 1 [] [(6, 6)] rfl (by simp) rfl (by simp only [Ent0, go_sem, Nat.reduceEqDiff, reduceCtorEq, Nat.reduceAdd, Nat.reduceLeDiff, Bool.false_eq_true, Nat.reduceMul, Bool.true_eq_false, Nat.reduceLT, gR1, gR2, gR3, gR4, gR5, gR6, gR7, gR8, gR9, gR10, gR11, gR12, gR13, gR14, gR15, Int.reduceToNat, Int.cast_ofNat_Int, Int.natCast_one, Int.reduceLT, Int.reduceLE, List.getD_nil, Int.toNat_natCast, Int.natCast_zero, false_and, and_false, Int.toNat_zero, Int.toNat_one, Int.reduceEq, Nat.reduceSub, List.contains_nil, Option.isSome_some])
  · intro done k r hl hI
    have hk' := ih k (by rw [hl]; simp) (hp.kid (by rw [hl]; simp))
    have hlt := lt_mid hl
    have hw : IntKind.i64.wrap ((done.length : Int) + 1) = ((done.length + 1 : Nat) : Int) := wrap_succ (by omega)
    rw [hl, errs_mid hI, ← hl] at hR
    have hd : done.length ≤ 24 := by omega
    have ha1 : (done.length + 1) * 16 ≤ 2 ^ 46 := by omega
    have ha2 : done.length + 1 ≤ 9223372036854775807 := by omega
    simp only [fn_sorting_Of_1_L1, go_sem, Nat.reduceEqDiff, reduceCtorEq, Nat.reduceAdd, Nat.reduceLeDiff, Bool.false_eq_true, Nat.reduceMul, Bool.true_eq_false, Nat.reduceLT, gR1, gR2, gR3, gR4, gR5, gR6, gR7, gR8, gR9, gR10, gR11, gR12, gR13, gR14, gR15, Int.reduceToNat, Int.cast_ofNat_Int, Int.natCast_one, Int.reduceLT, Int.reduceLE, List.getD_nil, Int.toNat_natCast, Int.natCast_zero, false_and, and_false, Int.toNat_zero, Int.toNat_one, Int.reduceEq, Nat.reduceSub, hlt, getD_midP hl, h7]
    refine call_by hk' ?_
    simp only [go_sem, Nat.reduceEqDiff, reduceCtorEq, Nat.reduceAdd, Nat.reduceLeDiff, Bool.false_eq_true, Nat.reduceMul, Bool.true_eq_false, Nat.reduceLT, gR1, gR2, gR3, gR4, gR5, gR6, gR7, gR8, gR9, gR10, gR11, gR12, gR13, gR14, gR15, Int.reduceToNat, Int.cast_ofNat_Int, Int.natCast_one, Int.reduceLT, Int.reduceLE, List.getD_nil, Int.toNat_natCast, Int.natCast_zero, false_and, and_false, Int.toNat_zero, Int.toNat_one, Int.reduceEq, Nat.reduceSub]
    cases h3 : ((ofS v k).2 != 0) with
    | true => simp only [h3, go_sem, Nat.reduceEqDiff, reduceCtorEq, Nat.reduceAdd, Nat.reduceLeDiff, Bool.false_eq_true, Nat.reduceMul, Bool.true_eq_false, Nat.reduceLT, gR1, gR2, gR3, gR4, gR5, gR6, gR7, gR8, gR9, gR10, gR11, gR12, gR13, gR14, gR15, Int.reduceToNat, Int.cast_ofNat_Int, Int.natCast_one, Int.reduceLT, Int.reduceLE, List.getD_nil, Int.toNat_natCast, Int.natCast_zero, false_and, and_false, Int.toNat_zero, Int.toNat_one, Int.reduceEq, Nat.reduceSub] at hR ⊢; simp only [go_sem, Nat.reduceEqDiff, reduceCtorEq, Nat.reduceAdd, Nat.reduceLeDiff, Bool.false_eq_true, Nat.reduceMul, Bool.true_eq_false, Nat.reduceLT, gR1, gR2, gR3, gR4, gR5, gR6, gR7, gR8, gR9, gR10, gR11, gR12, gR13, gR14, gR15, Int.reduceToNat, Int.cast_ofNat_Int, Int.natCast_one, Int.reduceLT, Int.reduceLE, List.getD_nil, Int.toNat_natCast, Int.natCast_zero, false_and, and_false, Int.toNat_zero, Int.toNat_one, Int.reduceEq, Nat.reduceSub, ← hR]
    | false =>
      simp only [go_sem, Nat.reduceEqDiff, reduceCtorEq, Nat.reduceAdd, Nat.reduceLeDiff, Bool.false_eq_true, Nat.reduceMul, Bool.true_eq_false, Nat.reduceLT, gR1, gR2, gR3, gR4, gR5, gR6, gR7, gR8, gR9, gR10, gR11, gR12, gR13, gR14, gR15, Int.reduceToNat, Int.cast_ofNat_Int, Int.natCast_one, Int.reduceLT, Int.reduceLE, List.getD_nil, Int.toNat_natCast, Int.natCast_zero, false_and, and_false, Int.toNat_zero, Int.toNat_one, Int.reduceEq, Nat.reduceSub, hw, List.length_append, scell_lens, List.length_map]
      refine ⟨⟨by simp, ha1, by omega⟩, Ent_own [(6, 30)] ?_, app_all hI (by simpa using h3)⟩
      simp only [go_sem, Nat.reduceEqDiff, reduceCtorEq, Nat.reduceAdd, Nat.reduceLeDiff, Bool.false_eq_true, Nat.reduceMul, Bool.true_eq_false, Nat.reduceLT, gR1, gR2, gR3, gR4, gR5, gR6, gR7, gR8, gR9, gR10, gR11, gR12, gR13, gR14, gR15, Int.reduceToNat, Int.cast_ofNat_Int, Int.natCast_one, Int.reduceLT, Int.reduceLE, List.getD_nil, Int.toNat_natCast, Int.natCast_zero, false_and, and_false, Int.toNat_zero, Int.toNat_one, Int.reduceEq, Nat.reduceSub, List.contains_nil, Option.isSome_some, List.map_append, scell]
  · intro hI
    rw [errs_all hI] at hR
    have hR : nodeS v o s (ks.map fun k => (ofS v k).1) = R := hR
    simp only [fn_sorting_Of_1_L1, go_sem, Nat.reduceEqDiff, reduceCtorEq, Nat.reduceAdd, Nat.reduceLeDiff, Bool.false_eq_true, Nat.reduceMul, Bool.true_eq_false, Nat.reduceLT, gR1, gR2, gR3, gR4, gR5, gR6, gR7, gR8, gR9, gR10, gR11, gR12, gR13, gR14, gR15, Int.reduceToNat, Int.cast_ofNat_Int, Int.natCast_one, Int.reduceLT, Int.reduceLE, List.getD_nil, Int.toNat_natCast, Int.natCast_zero, false_and, and_false, Int.toNat_zero, Int.toNat_one, Int.reduceEq, Nat.reduceSub, h2]
    refine call_by (hn _ (by rw [List.length_map]; exact hp.top.1)) ?_
    simp only [go_sem, Nat.reduceEqDiff, reduceCtorEq, Nat.reduceAdd, Nat.reduceLeDiff, Bool.false_eq_true, Nat.reduceMul, Bool.true_eq_false, Nat.reduceLT, gR1, gR2, gR3, gR4, gR5, gR6, gR7, gR8, gR9, gR10, gR11, gR12, gR13, gR14, gR15, Int.reduceToNat, Int.cast_ofNat_Int, Int.natCast_one, Int.reduceLT, Int.reduceLE, List.getD_nil, Int.toNat_natCast, Int.natCast_zero, false_and, and_false, Int.toNat_zero, Int.toNat_one, Int.reduceEq, Nat.reduceSub, hR]
end Go.Abs
end
section
set_option linter.unusedSimpArgs false
set_option linter.unusedVariables false
set_option linter.unusedSectionVars false
namespace Go.Abs
/-- what a family of environments (by what the globals hold) gives -/
structure Fam (X : (Nat → Option (List D)) → AEnv) : Prop where
  sys : ∀ G, Sys (X G)
  G : ∀ G, (X G).G = G
  it : ∀ G p, (X G).It pred_before_1 [.ref (Pred.cells p)] (yields p.pre)
def OfS (v : SEnv) (p : Pred) : Str × Int := if p.checkE != 0 then ([], p.checkE) else ofS v p
theorem formE_of_check {p : Pred} (h : p.checkE = 0) : p.formE = 0 := by
  unfold Pred.checkE at h
  by_cases h1 : decide (p.nodes > 400) = true
  · rw [if_pos h1] at h; cases h
  · rw [if_neg h1] at h
    by_cases h2 : decide (p.depth > 40) = true
    · rw [if_pos h2] at h; cases h
    · rw [if_neg h2] at h; exact h
theorem sorting_Of_ev {X : (Nat → Option (List D)) → AEnv} (F : Fam X) (ZF : ∀ G bs dep args r, BodyF X bs dep G fn_sorting_Of args r → (X G).C sorting_Of args r) {G : Nat → Option (List D)} (hG : G 0 = some (kws.map .str)) (v : SEnv) (hv : v.Ok) (p : Pred) :
    (X G).C sorting_Of [.agg v.cells, .agg p.cells] (two (OfS v p)) := by
  have hc := pred_Check_ev (F.sys G) (by rw [F.G]; exact hG) (F.it G) p
  refine ZF G [2, 7] 4 _ _ ⟨Nat.le_of_ble_eq_true rfl, ?_⟩
  generalize hR : OfS v p = R
  unfold OfS at hR
  unfold two at *
  have hvc : v.cells = [.lst (v.vars.map SVar.cells), .lst (v.syms.map SSym.cells), .lst (v.holes.map SHole.cells)] := rfl
  have key : p.checkE = 0 → ∀ G' b7 b2, G' b7 = some [.clo sorting_Of_1 [.gp b7 0, .gp b2 0]] → G' b2 = some v.cells → (X G').C sorting_Of_1 [.agg p.cells, .one (.gp b7 0), .one (.gp b2 0)] (two (ofS v p)) := fun h0 G' b7 b2 h7 h2 =>
    sorting_Of_1_ev (F.sys G') v hv (by rw [F.G]; exact h7) (by rw [F.G]; exact h2) p (arity_of (formE_of_check h0))
  rw [hvc] at *
  obtain ⟨o, s, n, ks⟩ := p
  rw [Pred.cells_eq] at *
  simp only [fn_sorting_Of, awpF, go_sem, Nat.reduceEqDiff, reduceCtorEq, Nat.reduceAdd, Nat.reduceLeDiff, Bool.false_eq_true, Nat.reduceMul, Bool.true_eq_false, Nat.reduceLT, gR1, gR2, gR3, gR4, gR5, gR6, gR7, gR8, gR9, gR10, gR11, gR12, gR13, gR14, gR15, Int.reduceToNat, Int.cast_ofNat_Int, Int.natCast_one, Int.reduceLT, Int.reduceLE, List.getD_nil, Int.toNat_natCast, Int.natCast_zero, false_and, and_false, Int.toNat_zero, Int.toNat_one, Int.reduceEq, Nat.reduceSub, Pred.op, Pred.name, Pred.n, Pred.kids] at hc key ⊢
  refine call_by hc ?_
  simp only [go_sem, Nat.reduceEqDiff, reduceCtorEq, Nat.reduceAdd, Nat.reduceLeDiff, Bool.false_eq_true, Nat.reduceMul, Bool.true_eq_false, Nat.reduceLT, gR1, gR2, gR3, gR4, gR5, gR6, gR7, gR8, gR9, gR10, gR11, gR12, gR13, gR14, gR15, Int.reduceToNat, Int.cast_ofNat_Int, Int.natCast_one, Int.reduceLT, Int.reduceLE, List.getD_nil, Int.toNat_natCast, Int.natCast_zero, false_and, and_false, Int.toNat_zero, Int.toNat_one, Int.reduceEq, Nat.reduceSub]
  cases h1 : ((Pred.mk o s n ks).checkE != 0) with
  | true => simp only [h1, go_sem, Nat.reduceEqDiff, reduceCtorEq, Nat.reduceAdd, Nat.reduceLeDiff, Bool.false_eq_true, Nat.reduceMul, Bool.true_eq_false, Nat.reduceLT, gR1, gR2, gR3, gR4, gR5, gR6, gR7, gR8, gR9, gR10, gR11, gR12, gR13, gR14, gR15, Int.reduceToNat, Int.cast_ofNat_Int, Int.natCast_one, Int.reduceLT, Int.reduceLE, List.getD_nil, Int.toNat_natCast, Int.natCast_zero, false_and, and_false, Int.toNat_zero, Int.toNat_one, Int.reduceEq, Nat.reduceSub] at hR ⊢; simp only [go_sem, Nat.reduceEqDiff, reduceCtorEq, Nat.reduceAdd, Nat.reduceLeDiff, Bool.false_eq_true, Nat.reduceMul, Bool.true_eq_false, Nat.reduceLT, gR1, gR2, gR3, gR4, gR5, gR6, gR7, gR8, gR9, gR10, gR11, gR12, gR13, gR14, gR15, Int.reduceToNat, Int.cast_ofNat_Int, Int.natCast_one, Int.reduceLT, Int.reduceLE, List.getD_nil, Int.toNat_natCast, Int.natCast_zero, false_and, and_false, Int.toNat_zero, Int.toNat_one, Int.reduceEq, Nat.reduceSub, ← hR]
  | false =>
  simp only [h1, go_sem, Nat.reduceEqDiff, reduceCtorEq, Nat.reduceAdd, Nat.reduceLeDiff, Bool.false_eq_true, Nat.reduceMul, Bool.true_eq_false, Nat.reduceLT, gR1, gR2, gR3, gR4, gR5, gR6, gR7, gR8, gR9, gR10, gR11, gR12, gR13, gR14, gR15, Int.reduceToNat, Int.cast_ofNat_Int, Int.natCast_one, Int.reduceLT, Int.reduceLE, List.getD_nil, Int.toNat_natCast, Int.natCast_zero, false_and, and_false, Int.toNat_zero, Int.toNat_one, Int.reduceEq, Nat.reduceSub] at hR
  simp only [awpF, go_sem, Nat.reduceEqDiff, reduceCtorEq, Nat.reduceAdd, Nat.reduceLeDiff, Bool.false_eq_true, Nat.reduceMul, Bool.true_eq_false, Nat.reduceLT, gR1, gR2, gR3, gR4, gR5, gR6, gR7, gR8, gR9, gR10, gR11, gR12, gR13, gR14, gR15, Int.reduceToNat, Int.cast_ofNat_Int, Int.natCast_one, Int.reduceLT, Int.reduceLE, List.getD_nil, Int.toNat_natCast, Int.natCast_zero, false_and, and_false, Int.toNat_zero, Int.toNat_one, Int.reduceEq, Nat.reduceSub]
  intro b2 hb2
  refine ⟨_, _, rfl, rfl, ?_⟩
  simp only [awpF, St.frz, frzSlots, frzMem, AV.frz, AV.frzs, go_sem, Nat.reduceEqDiff, reduceCtorEq, Nat.reduceAdd, Nat.reduceLeDiff, Bool.false_eq_true, Nat.reduceMul, Bool.true_eq_false, Nat.reduceLT, gR1, gR2, gR3, gR4, gR5, gR6, gR7, gR8, gR9, gR10, gR11, gR12, gR13, gR14, gR15, Int.reduceToNat, Int.cast_ofNat_Int, Int.natCast_one, Int.reduceLT, Int.reduceLE, List.getD_nil, Int.toNat_natCast, Int.natCast_zero, false_and, and_false, Int.toNat_zero, Int.toNat_one, Int.reduceEq, Nat.reduceSub]
  intro b7 hb7
  have hne : b2 ≠ b7 := by
    rintro rfl
    have := hb7 [.lst (v.vars.map SVar.cells), .lst (v.syms.map SSym.cells), .lst (v.holes.map SHole.cells)] (by simp [Go.Abs.ext])
    cases this
  refine ⟨_, [.clo sorting_Of_1 [.gp b7 0, .gp b2 0]], rfl, rfl, ?_⟩
  have k7 : (ext (ext G b2 [.lst (v.vars.map SVar.cells), .lst (v.syms.map SSym.cells), .lst (v.holes.map SHole.cells)]) b7 [.clo sorting_Of_1 [.gp b7 0, .gp b2 0]]) b7 = some [.clo sorting_Of_1 [.gp b7 0, .gp b2 0]] := by simp [Go.Abs.ext]
  have k2 : (ext (ext G b2 [.lst (v.vars.map SVar.cells), .lst (v.syms.map SSym.cells), .lst (v.holes.map SHole.cells)]) b7 [.clo sorting_Of_1 [.gp b7 0, .gp b2 0]]) b2 = some [.lst (v.vars.map SVar.cells), .lst (v.syms.map SSym.cells), .lst (v.holes.map SHole.cells)] := by simp [Go.Abs.ext, hne]
  have hk := key (by simpa using h1) _ b7 b2 k7 k2
  simp only [F.G, k7, go_sem, Nat.reduceEqDiff, reduceCtorEq, Nat.reduceAdd, Nat.reduceLeDiff, Bool.false_eq_true, Nat.reduceMul, Bool.true_eq_false, Nat.reduceLT, gR1, gR2, gR3, gR4, gR5, gR6, gR7, gR8, gR9, gR10, gR11, gR12, gR13, gR14, gR15, Int.reduceToNat, Int.cast_ofNat_Int, Int.natCast_one, Int.reduceLT, Int.reduceLE, List.getD_nil, Int.toNat_natCast, Int.natCast_zero, false_and, and_false, Int.toNat_zero, Int.toNat_one, Int.reduceEq, Nat.reduceSub]
  unfold two at hk
  refine call_by hk ?_
  simp only [go_sem, Nat.reduceEqDiff, reduceCtorEq, Nat.reduceAdd, Nat.reduceLeDiff, Bool.false_eq_true, Nat.reduceMul, Bool.true_eq_false, Nat.reduceLT, gR1, gR2, gR3, gR4, gR5, gR6, gR7, gR8, gR9, gR10, gR11, gR12, gR13, gR14, gR15, Int.reduceToNat, Int.cast_ofNat_Int, Int.natCast_one, Int.reduceLT, Int.reduceLE, List.getD_nil, Int.toNat_natCast, Int.natCast_zero, false_and, and_false, Int.toNat_zero, Int.toNat_one, Int.reduceEq, Nat.reduceSub, hR]
end Go.Abs
end
section
set_option linter.unusedSimpArgs false
set_option linter.unusedVariables false
set_option linter.unusedSectionVars false
namespace Go.Abs
namespace Pred
def same : Pred → Pred → Bool
  | .mk o s n ks, .mk o' s' n' ks' => o == o' && s == s' && n == n' && sames ks ks'
where sames : List Pred → List Pred → Bool
  | [], [] => true
  | k :: ks, k' :: ks' => same k k' && sames ks ks'
  | _, _ => false
theorem same_eq (o : Int) (s : Str) (n : Int) (ks : List Pred) (o' : Int) (s' : Str) (n' : Int) (ks' : List Pred) : same (.mk o s n ks) (.mk o' s' n' ks') = (o == o' && s == s' && n == n' && same.sames ks ks') := by rw [same]
theorem same_iff : ∀ (a b : Pred), same a b = true ↔ a = b := by
  intro a
  induction a using Pred.ind with
  | h o s n ks ih =>
  intro b
  obtain ⟨o', s', n', ks'⟩ := b
  have hk : ∀ l', same.sames ks l' = true ↔ ks = l' := by
    induction ks with
    | nil => intro l'; cases l' <;> simp [same.sames]
    | cons k ks ih2 =>
      intro l'
      cases l' with
      | nil => simp [same.sames]
      | cons k' l' => simp only [same.sames, Bool.and_eq_true, List.cons.injEq, ih k (by simp) k', ih2 (fun x hx => ih x (by simp [hx])) l']
  rw [same_eq]
  simp only [Bool.and_eq_true, beq_iff_eq, hk, Pred.mk.injEq, and_assoc]
theorem sames_iff : ∀ (a b : List Pred), same.sames a b = true ↔ a = b
  | [], [] => by simp [same.sames]
  | [], _ :: _ => by simp [same.sames]
  | _ :: _, [] => by simp [same.sames]
  | x :: a, y :: b => by simp only [same.sames, Bool.and_eq_true, List.cons.injEq, same_iff, sames_iff a b]
theorem same_refl (a : Pred) : same a a = true := (same_iff a a).2 rfl
theorem sames_refl (a : List Pred) : same.sames a a = true := (sames_iff a a).2 rfl
theorem sames_app : ∀ {a b l l' : List Pred}, a.length = b.length → same.sames (a ++ l) (b ++ l') = (same.sames a b && same.sames l l')
  | [], [], l, l', _ => by simp [same.sames]
  | x :: a, y :: b, l, l', h => by simp only [List.cons_append, same.sames, sames_app (a := a) (b := b) (by simpa using h), Bool.and_assoc]
  | [], _ :: _, _, _, h => by simp at h
  | _ :: _, [], _, _, h => by simp at h
theorem sames_len : ∀ {a b : List Pred}, a.length ≠ b.length → same.sames a b = false := by
  intro a b h
  rw [Bool.eq_false_iff]
  intro e
  exact h (by rw [(sames_iff a b).1 e])
end Pred
theorem at_split {α : Type} {b : List α} {n : Nat} (h : n < b.length) : ∃ bd y r, b = bd ++ y :: r ∧ bd.length = n := by
  have := List.take_append_drop n b
  rw [List.drop_eq_getElem_cons h] at this
  exact ⟨_, _, _, this.symm, by simp; omega⟩
theorem getD_atP {b bd r : List Pred} {y : Pred} {n : Nat} (hb : b = bd ++ y :: r) (hn : bd.length = n) : (b.map Pred.cells).getD n [] = Pred.cells y := by subst hn; exact getD_midP hb
def zeroP : Pred := .mk 0 [] 0 []
def trueP : Pred := .mk 2 [] 1 []
def falseP : Pred := .mk 2 [] 0 []
theorem same_zero (o : Int) (s : Str) (n : Int) (ks : List Pred) : (Pred.mk o s n ks).same zeroP = (o == 0 && s == [] && n == 0 && (ks.length : Int) == 0) := by
  unfold zeroP
  rw [Pred.same_eq]
  congr 1
  cases ks with
  | nil => rfl
  | cons k ks => simp [Pred.same.sames]; omega
variable {E : AEnv} (Z : Sys E)
include Z
theorem pred_equal_ev (a b : List Pred) (h : ∀ x ∈ a, ∀ y, E.C pred_Same [.agg (Pred.cells x), .agg (Pred.cells y)] (.one (.bool (x.same y)))) :
    E.C pred_equal_api_Pred [.one (.lst (a.map Pred.cells)), .one (.lst (b.map Pred.cells)), .one (.clo pred_Same [])] (.one (.bool (Pred.same.sames a b))) := by
  refine Z.pred_equal_api_Pred _ _ ⟨Nat.le_of_ble_eq_true rfl, ?_⟩
  generalize hR : Pred.same.sames a b = R
  simp only [fn_pred_equal_api_Pred, go_sem, Nat.reduceEqDiff, reduceCtorEq, Nat.reduceAdd, Nat.reduceLeDiff, Bool.false_eq_true, Nat.reduceMul, Bool.true_eq_false, Nat.reduceLT, gR1, gR2, gR3, gR4, gR5, gR6, gR7, gR8, gR9, gR10, gR11, gR12, gR13, gR14, gR15, Int.reduceToNat, Int.cast_ofNat_Int, Int.natCast_one, Int.reduceLT, Int.reduceLE, List.getD_nil, Int.toNat_natCast, Int.natCast_zero, false_and, and_false, Int.toNat_zero, Int.toNat_one, Int.reduceEq, Nat.reduceSub]
  intro hl1 hl2
  by_cases hlen : a.length = b.length
  · have h1 : ((a.length : Int) != (b.length : Int)) = false := by simp [hlen]
    simp only [h1, go_sem, Nat.reduceEqDiff, reduceCtorEq, Nat.reduceAdd, Nat.reduceLeDiff, Bool.false_eq_true, Nat.reduceMul, Bool.true_eq_false, Nat.reduceLT, gR1, gR2, gR3, gR4, gR5, gR6, gR7, gR8, gR9, gR10, gR11, gR12, gR13, gR14, gR15, Int.reduceToNat, Int.cast_ofNat_Int, Int.natCast_one, Int.reduceLT, Int.reduceLE, List.getD_nil, Int.toNat_natCast, Int.natCast_zero, false_and, and_false, Int.toNat_zero, Int.toNat_one, Int.reduceEq, Nat.reduceSub]
    intro _
    refine loop_list a (fun done => Pred.same.sames done (b.take done.length) = true) (fun done rest => ⟨[(15, .d (.int .i64 done.length)), (14, .d (.int .i64 a.length)), (2, .d (.clo pred_Same [])), (0, .d (.lst (a.map Pred.cells))), (1, .d (.lst (b.map Pred.cells)))], [], []⟩) ?_ (by simp [Pred.same.sames]) ?_ ?_
    · exact Ent_plain (by simp only [go_sem, Nat.reduceEqDiff, reduceCtorEq, Nat.reduceAdd, Nat.reduceLeDiff, Bool.false_eq_true, Nat.reduceMul, Bool.true_eq_false, Nat.reduceLT, gR1, gR2, gR3, gR4, gR5, gR6, gR7, gR8, gR9, gR10, gR11, gR12, gR13, gR14, gR15, Int.reduceToNat, Int.cast_ofNat_Int, Int.natCast_one, Int.reduceLT, Int.reduceLE, List.getD_nil, Int.toNat_natCast, Int.natCast_zero, false_and, and_false, Int.toNat_zero, Int.toNat_one, Int.reduceEq, Nat.reduceSub])
    · intro done x r hl hI
      obtain ⟨bd, y, r', hb, hbl⟩ := at_split (b := b) (n := done.length) (by rw [← hlen, hl]; simp)
      have htk : b.take done.length = bd := by rw [hb]; exact List.take_left' hbl
      have hlt := lt_mid hl
      have hlt2 := lt_mid hb
      rw [hbl] at hlt2
      have hw : IntKind.i64.wrap ((done.length : Int) + 1) = ((done.length + 1 : Nat) : Int) := wrap_succ (by omega)
      rw [htk] at hI
      rw [hl, hb, Pred.sames_app hbl.symm, hI, Pred.same.sames, Bool.true_and] at hR
      simp only [fn_pred_equal_api_Pred_L1, go_sem, Nat.reduceEqDiff, reduceCtorEq, Nat.reduceAdd, Nat.reduceLeDiff, Bool.false_eq_true, Nat.reduceMul, Bool.true_eq_false, Nat.reduceLT, gR1, gR2, gR3, gR4, gR5, gR6, gR7, gR8, gR9, gR10, gR11, gR12, gR13, gR14, gR15, Int.reduceToNat, Int.cast_ofNat_Int, Int.natCast_one, Int.reduceLT, Int.reduceLE, List.getD_nil, Int.toNat_natCast, Int.natCast_zero, false_and, and_false, Int.toNat_zero, Int.toNat_one, Int.reduceEq, Nat.reduceSub, getD_midP hl, getD_atP hb hbl, hlt, hlt2]
      refine call_by (h x (by rw [hl]; simp) y) ?_
      cases h2 : x.same y with
      | true =>
        simp only [go_sem, Nat.reduceEqDiff, reduceCtorEq, Nat.reduceAdd, Nat.reduceLeDiff, Bool.false_eq_true, Nat.reduceMul, Bool.true_eq_false, Nat.reduceLT, gR1, gR2, gR3, gR4, gR5, gR6, gR7, gR8, gR9, gR10, gR11, gR12, gR13, gR14, gR15, Int.reduceToNat, Int.cast_ofNat_Int, Int.natCast_one, Int.reduceLT, Int.reduceLE, List.getD_nil, Int.toNat_natCast, Int.natCast_zero, false_and, and_false, Int.toNat_zero, Int.toNat_one, Int.reduceEq, Nat.reduceSub, hw, List.length_append]
        refine ⟨Ent_plain (by simp only [go_sem, Nat.reduceEqDiff, reduceCtorEq, Nat.reduceAdd, Nat.reduceLeDiff, Bool.false_eq_true, Nat.reduceMul, Bool.true_eq_false, Nat.reduceLT, gR1, gR2, gR3, gR4, gR5, gR6, gR7, gR8, gR9, gR10, gR11, gR12, gR13, gR14, gR15, Int.reduceToNat, Int.cast_ofNat_Int, Int.natCast_one, Int.reduceLT, Int.reduceLE, List.getD_nil, Int.toNat_natCast, Int.natCast_zero, false_and, and_false, Int.toNat_zero, Int.toNat_one, Int.reduceEq, Nat.reduceSub]), ?_⟩
        have ht2 : b.take (done.length + 1) = bd ++ [y] := by rw [hb, show bd ++ y :: r' = (bd ++ [y]) ++ r' by simp]; exact List.take_left' (by simp [hbl])
        rw [ht2, Pred.sames_app hbl.symm, hI]
        simp [Pred.same.sames, h2]
      | false => simp only [h2, go_sem, Nat.reduceEqDiff, reduceCtorEq, Nat.reduceAdd, Nat.reduceLeDiff, Bool.false_eq_true, Nat.reduceMul, Bool.true_eq_false, Nat.reduceLT, gR1, gR2, gR3, gR4, gR5, gR6, gR7, gR8, gR9, gR10, gR11, gR12, gR13, gR14, gR15, Int.reduceToNat, Int.cast_ofNat_Int, Int.natCast_one, Int.reduceLT, Int.reduceLE, List.getD_nil, Int.toNat_natCast, Int.natCast_zero, false_and, and_false, Int.toNat_zero, Int.toNat_one, Int.reduceEq, Nat.reduceSub] at hR ⊢; exact hR
    · intro hI
      rw [hlen, List.take_length] at hI
      rw [hI] at hR
      subst hR
      simp only [fn_pred_equal_api_Pred_L1, go_sem, Nat.reduceEqDiff, reduceCtorEq, Nat.reduceAdd, Nat.reduceLeDiff, Bool.false_eq_true, Nat.reduceMul, Bool.true_eq_false, Nat.reduceLT, gR1, gR2, gR3, gR4, gR5, gR6, gR7, gR8, gR9, gR10, gR11, gR12, gR13, gR14, gR15, Int.reduceToNat, Int.cast_ofNat_Int, Int.natCast_one, Int.reduceLT, Int.reduceLE, List.getD_nil, Int.toNat_natCast, Int.natCast_zero, false_and, and_false, Int.toNat_zero, Int.toNat_one, Int.reduceEq, Nat.reduceSub]
  · have h1 : ((a.length : Int) != (b.length : Int)) = true := by simp; omega
    rw [Pred.sames_len hlen] at hR
    simp only [h1, go_sem, Nat.reduceEqDiff, reduceCtorEq, Nat.reduceAdd, Nat.reduceLeDiff, Bool.false_eq_true, Nat.reduceMul, Bool.true_eq_false, Nat.reduceLT, gR1, gR2, gR3, gR4, gR5, gR6, gR7, gR8, gR9, gR10, gR11, gR12, gR13, gR14, gR15, Int.reduceToNat, Int.cast_ofNat_Int, Int.natCast_one, Int.reduceLT, Int.reduceLE, List.getD_nil, Int.toNat_natCast, Int.natCast_zero, false_and, and_false, Int.toNat_zero, Int.toNat_one, Int.reduceEq, Nat.reduceSub, hR]
theorem pred_Same_ev (a : Pred) : ∀ b, E.C pred_Same [.agg (Pred.cells a), .agg (Pred.cells b)] (.one (.bool (a.same b))) := by
  induction a using Pred.ind with
  | h o s n ks ih =>
  intro b
  obtain ⟨o', s', n', ks'⟩ := b
  have he := pred_equal_ev Z ks ks' ih
  refine Z.pred_Same _ _ ⟨Nat.le_of_ble_eq_true rfl, ?_⟩
  rw [Pred.cells_eq, Pred.cells_eq, Pred.same_eq]
  simp only [fn_pred_Same, go_sem, Nat.reduceEqDiff, reduceCtorEq, Nat.reduceAdd, Nat.reduceLeDiff, Bool.false_eq_true, Nat.reduceMul, Bool.true_eq_false, Nat.reduceLT, gR1, gR2, gR3, gR4, gR5, gR6, gR7, gR8, gR9, gR10, gR11, gR12, gR13, gR14, gR15, Int.reduceToNat, Int.cast_ofNat_Int, Int.natCast_one, Int.reduceLT, Int.reduceLE, List.getD_nil, Int.toNat_natCast, Int.natCast_zero, false_and, and_false, Int.toNat_zero, Int.toNat_one, Int.reduceEq, Nat.reduceSub, Pred.op, Pred.name, Pred.n, Pred.kids]
  refine call_g he ?_
  simp only [go_sem, Nat.reduceEqDiff, reduceCtorEq, Nat.reduceAdd, Nat.reduceLeDiff, Bool.false_eq_true, Nat.reduceMul, Bool.true_eq_false, Nat.reduceLT, gR1, gR2, gR3, gR4, gR5, gR6, gR7, gR8, gR9, gR10, gR11, gR12, gR13, gR14, gR15, Int.reduceToNat, Int.cast_ofNat_Int, Int.natCast_one, Int.reduceLT, Int.reduceLE, List.getD_nil, Int.toNat_natCast, Int.natCast_zero, false_and, and_false, Int.toNat_zero, Int.toNat_one, Int.reduceEq, Nat.reduceSub]
theorem r07_Same_ev (a : Pred) : ∀ b, E.C r07_Same [.agg (Pred.cells a), .agg (Pred.cells b)] (.one (.bool (a.same b))) := by
  induction a using Pred.ind with
  | h o s n a ih =>
  intro b
  obtain ⟨o', s', n', b⟩ := b
  refine Z.r07_Same _ _ ⟨Nat.le_of_ble_eq_true rfl, ?_⟩
  generalize hR : Pred.same (.mk o s n a) (.mk o' s' n' b) = R
  rw [Pred.same_eq] at hR
  rw [Pred.cells_eq, Pred.cells_eq]
  simp only [fn_r07_Same, go_sem, Nat.reduceEqDiff, reduceCtorEq, Nat.reduceAdd, Nat.reduceLeDiff, Bool.false_eq_true, Nat.reduceMul, Bool.true_eq_false, Nat.reduceLT, gR1, gR2, gR3, gR4, gR5, gR6, gR7, gR8, gR9, gR10, gR11, gR12, gR13, gR14, gR15, Int.reduceToNat, Int.cast_ofNat_Int, Int.natCast_one, Int.reduceLT, Int.reduceLE, List.getD_nil, Int.toNat_natCast, Int.natCast_zero, false_and, and_false, Int.toNat_zero, Int.toNat_one, Int.reduceEq, Nat.reduceSub, Pred.op, Pred.name, Pred.n, Pred.kids]
  intro hl1 hl2
  cases h0 : (o != o' || !s == s' || n != n') with
  | true =>
    have : (o == o' && s == s' && n == n') = false := by
      rw [Bool.eq_false_iff]; intro e; simp only [Bool.and_eq_true, beq_iff_eq] at e; simp [e.1.1, e.1.2, e.2] at h0
    rw [this] at hR
    simp only [go_sem, Nat.reduceEqDiff, reduceCtorEq, Nat.reduceAdd, Nat.reduceLeDiff, Bool.false_eq_true, Nat.reduceMul, Bool.true_eq_false, Nat.reduceLT, gR1, gR2, gR3, gR4, gR5, gR6, gR7, gR8, gR9, gR10, gR11, gR12, gR13, gR14, gR15, Int.reduceToNat, Int.cast_ofNat_Int, Int.natCast_one, Int.reduceLT, Int.reduceLE, List.getD_nil, Int.toNat_natCast, Int.natCast_zero, false_and, and_false, Int.toNat_zero, Int.toNat_one, Int.reduceEq, Nat.reduceSub] at hR
    simp only [go_sem, Nat.reduceEqDiff, reduceCtorEq, Nat.reduceAdd, Nat.reduceLeDiff, Bool.false_eq_true, Nat.reduceMul, Bool.true_eq_false, Nat.reduceLT, gR1, gR2, gR3, gR4, gR5, gR6, gR7, gR8, gR9, gR10, gR11, gR12, gR13, gR14, gR15, Int.reduceToNat, Int.cast_ofNat_Int, Int.natCast_one, Int.reduceLT, Int.reduceLE, List.getD_nil, Int.toNat_natCast, Int.natCast_zero, false_and, and_false, Int.toNat_zero, Int.toNat_one, Int.reduceEq, Nat.reduceSub, hR]
  | false =>
  have : (o == o' && s == s' && n == n') = true := by
    simp at h0; simp [h0.1.1, h0.1.2, h0.2]
  rw [this, Bool.true_and] at hR
  by_cases hlen : a.length = b.length
  · have h1 : ((a.length : Int) != (b.length : Int)) = false := by simp [hlen]
    simp only [h1, go_sem, Nat.reduceEqDiff, reduceCtorEq, Nat.reduceAdd, Nat.reduceLeDiff, Bool.false_eq_true, Nat.reduceMul, Bool.true_eq_false, Nat.reduceLT, gR1, gR2, gR3, gR4, gR5, gR6, gR7, gR8, gR9, gR10, gR11, gR12, gR13, gR14, gR15, Int.reduceToNat, Int.cast_ofNat_Int, Int.natCast_one, Int.reduceLT, Int.reduceLE, List.getD_nil, Int.toNat_natCast, Int.natCast_zero, false_and, and_false, Int.toNat_zero, Int.toNat_one, Int.reduceEq, Nat.reduceSub]
    intro _
    refine loop_list a (fun done => Pred.same.sames done (b.take done.length) = true) (fun done rest => ⟨[(37, .d (.int .i64 done.length)), (36, .d (.int .i64 a.length)), (2, .ptr 2 0), (3, .ptr 3 0)],
      [(2, [.d (.int .i64 o), .d (.str s), .d (.int .i64 n), .d (.lst (a.map Pred.cells))]), (3, [.d (.int .i64 o'), .d (.str s'), .d (.int .i64 n'), .d (.lst (b.map Pred.cells))])], []⟩) ?_ (by simp [Pred.same.sames]) ?_ ?_
    · exact Ent_plain (by simp only [go_sem, Nat.reduceEqDiff, reduceCtorEq, Nat.reduceAdd, Nat.reduceLeDiff, Bool.false_eq_true, Nat.reduceMul, Bool.true_eq_false, Nat.reduceLT, gR1, gR2, gR3, gR4, gR5, gR6, gR7, gR8, gR9, gR10, gR11, gR12, gR13, gR14, gR15, Int.reduceToNat, Int.cast_ofNat_Int, Int.natCast_one, Int.reduceLT, Int.reduceLE, List.getD_nil, Int.toNat_natCast, Int.natCast_zero, false_and, and_false, Int.toNat_zero, Int.toNat_one, Int.reduceEq, Nat.reduceSub, Option.isSome_some])
    · intro done x r hl hI
      obtain ⟨bd, y, r', hb, hbl⟩ := at_split (b := b) (n := done.length) (by rw [← hlen, hl]; simp)
      have htk : b.take done.length = bd := by rw [hb]; exact List.take_left' hbl
      have hlt := lt_mid hl
      have hlt2 := lt_mid hb
      rw [hbl] at hlt2
      have hw : IntKind.i64.wrap ((done.length : Int) + 1) = ((done.length + 1 : Nat) : Int) := wrap_succ (by omega)
      rw [htk] at hI
      rw [hl, hb, Pred.sames_app hbl.symm, hI, Pred.same.sames, Bool.true_and] at hR
      simp only [fn_r07_Same_L1, go_sem, Nat.reduceEqDiff, reduceCtorEq, Nat.reduceAdd, Nat.reduceLeDiff, Bool.false_eq_true, Nat.reduceMul, Bool.true_eq_false, Nat.reduceLT, gR1, gR2, gR3, gR4, gR5, gR6, gR7, gR8, gR9, gR10, gR11, gR12, gR13, gR14, gR15, Int.reduceToNat, Int.cast_ofNat_Int, Int.natCast_one, Int.reduceLT, Int.reduceLE, List.getD_nil, Int.toNat_natCast, Int.natCast_zero, false_and, and_false, Int.toNat_zero, Int.toNat_one, Int.reduceEq, Nat.reduceSub, getD_midP hl, getD_atP hb hbl, hlt, hlt2]
      refine call_by (ih x (by rw [hl]; simp) y) ?_
      cases h2 : x.same y with
      | true =>
        simp only [go_sem, Nat.reduceEqDiff, reduceCtorEq, Nat.reduceAdd, Nat.reduceLeDiff, Bool.false_eq_true, Nat.reduceMul, Bool.true_eq_false, Nat.reduceLT, gR1, gR2, gR3, gR4, gR5, gR6, gR7, gR8, gR9, gR10, gR11, gR12, gR13, gR14, gR15, Int.reduceToNat, Int.cast_ofNat_Int, Int.natCast_one, Int.reduceLT, Int.reduceLE, List.getD_nil, Int.toNat_natCast, Int.natCast_zero, false_and, and_false, Int.toNat_zero, Int.toNat_one, Int.reduceEq, Nat.reduceSub, hw, List.length_append]
        refine ⟨Ent_plain (by simp only [go_sem, Nat.reduceEqDiff, reduceCtorEq, Nat.reduceAdd, Nat.reduceLeDiff, Bool.false_eq_true, Nat.reduceMul, Bool.true_eq_false, Nat.reduceLT, gR1, gR2, gR3, gR4, gR5, gR6, gR7, gR8, gR9, gR10, gR11, gR12, gR13, gR14, gR15, Int.reduceToNat, Int.cast_ofNat_Int, Int.natCast_one, Int.reduceLT, Int.reduceLE, List.getD_nil, Int.toNat_natCast, Int.natCast_zero, false_and, and_false, Int.toNat_zero, Int.toNat_one, Int.reduceEq, Nat.reduceSub, Option.isSome_some]), ?_⟩
        have ht2 : b.take (done.length + 1) = bd ++ [y] := by rw [hb, show bd ++ y :: r' = (bd ++ [y]) ++ r' by simp]; exact List.take_left' (by simp [hbl])
        rw [ht2, Pred.sames_app hbl.symm, hI]
        simp [Pred.same.sames, h2]
      | false => simp only [h2, go_sem, Nat.reduceEqDiff, reduceCtorEq, Nat.reduceAdd, Nat.reduceLeDiff, Bool.false_eq_true, Nat.reduceMul, Bool.true_eq_false, Nat.reduceLT, gR1, gR2, gR3, gR4, gR5, gR6, gR7, gR8, gR9, gR10, gR11, gR12, gR13, gR14, gR15, Int.reduceToNat, Int.cast_ofNat_Int, Int.natCast_one, Int.reduceLT, Int.reduceLE, List.getD_nil, Int.toNat_natCast, Int.natCast_zero, false_and, and_false, Int.toNat_zero, Int.toNat_one, Int.reduceEq, Nat.reduceSub] at hR ⊢; exact hR
    · intro hI
      rw [hlen, List.take_length] at hI
      rw [hI] at hR
      subst hR
      simp only [fn_r07_Same_L1, go_sem, Nat.reduceEqDiff, reduceCtorEq, Nat.reduceAdd, Nat.reduceLeDiff, Bool.false_eq_true, Nat.reduceMul, Bool.true_eq_false, Nat.reduceLT, gR1, gR2, gR3, gR4, gR5, gR6, gR7, gR8, gR9, gR10, gR11, gR12, gR13, gR14, gR15, Int.reduceToNat, Int.cast_ofNat_Int, Int.natCast_one, Int.reduceLT, Int.reduceLE, List.getD_nil, Int.toNat_natCast, Int.natCast_zero, false_and, and_false, Int.toNat_zero, Int.toNat_one, Int.reduceEq, Nat.reduceSub]
  · have h1 : ((a.length : Int) != (b.length : Int)) = true := by simp; omega
    rw [Pred.sames_len hlen] at hR
    simp only [h1, go_sem, Nat.reduceEqDiff, reduceCtorEq, Nat.reduceAdd, Nat.reduceLeDiff, Bool.false_eq_true, Nat.reduceMul, Bool.true_eq_false, Nat.reduceLT, gR1, gR2, gR3, gR4, gR5, gR6, gR7, gR8, gR9, gR10, gR11, gR12, gR13, gR14, gR15, Int.reduceToNat, Int.cast_ofNat_Int, Int.natCast_one, Int.reduceLT, Int.reduceLE, List.getD_nil, Int.toNat_natCast, Int.natCast_zero, false_and, and_false, Int.toNat_zero, Int.toNat_one, Int.reduceEq, Nat.reduceSub, hR]
theorem r09_Same_ev (a b : List Pred) : E.C r09_Same [.one (.lst (a.map Pred.cells)), .one (.lst (b.map Pred.cells))] (.one (.bool (Pred.same.sames a b))) := by
  have h := r07_Same_ev Z
  refine Z.r09_Same _ _ ⟨Nat.le_of_ble_eq_true rfl, ?_⟩
  generalize hR : Pred.same.sames a b = R
  simp only [fn_r09_Same, go_sem, Nat.reduceEqDiff, reduceCtorEq, Nat.reduceAdd, Nat.reduceLeDiff, Bool.false_eq_true, Nat.reduceMul, Bool.true_eq_false, Nat.reduceLT, gR1, gR2, gR3, gR4, gR5, gR6, gR7, gR8, gR9, gR10, gR11, gR12, gR13, gR14, gR15, Int.reduceToNat, Int.cast_ofNat_Int, Int.natCast_one, Int.reduceLT, Int.reduceLE, List.getD_nil, Int.toNat_natCast, Int.natCast_zero, false_and, and_false, Int.toNat_zero, Int.toNat_one, Int.reduceEq, Nat.reduceSub]
  intro hl1 hl2
  by_cases hlen : a.length = b.length
  · have h1 : ((a.length : Int) != (b.length : Int)) = false := by simp [hlen]
    simp only [h1, go_sem, Nat.reduceEqDiff, reduceCtorEq, Nat.reduceAdd, Nat.reduceLeDiff, Bool.false_eq_true, Nat.reduceMul, Bool.true_eq_false, Nat.reduceLT, gR1, gR2, gR3, gR4, gR5, gR6, gR7, gR8, gR9, gR10, gR11, gR12, gR13, gR14, gR15, Int.reduceToNat, Int.cast_ofNat_Int, Int.natCast_one, Int.reduceLT, Int.reduceLE, List.getD_nil, Int.toNat_natCast, Int.natCast_zero, false_and, and_false, Int.toNat_zero, Int.toNat_one, Int.reduceEq, Nat.reduceSub]
    refine loop_list a (fun done => Pred.same.sames done (b.take done.length) = true) (fun done rest => ⟨[(5, .d (.int .i64 done.length)), (0, .d (.lst (a.map Pred.cells))), (1, .d (.lst (b.map Pred.cells)))], [], []⟩) ?_ (by simp [Pred.same.sames]) ?_ ?_
    · exact Ent_plain (by simp only [go_sem, Nat.reduceEqDiff, reduceCtorEq, Nat.reduceAdd, Nat.reduceLeDiff, Bool.false_eq_true, Nat.reduceMul, Bool.true_eq_false, Nat.reduceLT, gR1, gR2, gR3, gR4, gR5, gR6, gR7, gR8, gR9, gR10, gR11, gR12, gR13, gR14, gR15, Int.reduceToNat, Int.cast_ofNat_Int, Int.natCast_one, Int.reduceLT, Int.reduceLE, List.getD_nil, Int.toNat_natCast, Int.natCast_zero, false_and, and_false, Int.toNat_zero, Int.toNat_one, Int.reduceEq, Nat.reduceSub])
    · intro done x r hl hI
      obtain ⟨bd, y, r', hb, hbl⟩ := at_split (b := b) (n := done.length) (by rw [← hlen, hl]; simp)
      have htk : b.take done.length = bd := by rw [hb]; exact List.take_left' hbl
      have hlt := lt_mid hl
      have hlt2 := lt_mid hb
      rw [hbl] at hlt2
      have hw : IntKind.i64.wrap ((done.length : Int) + 1) = ((done.length + 1 : Nat) : Int) := wrap_succ (by omega)
      rw [htk] at hI
      rw [hl, hb, Pred.sames_app hbl.symm, hI, Pred.same.sames, Bool.true_and] at hR
      simp only [fn_r09_Same_L1, go_sem, Nat.reduceEqDiff, reduceCtorEq, Nat.reduceAdd, Nat.reduceLeDiff, Bool.false_eq_true, Nat.reduceMul, Bool.true_eq_false, Nat.reduceLT, gR1, gR2, gR3, gR4, gR5, gR6, gR7, gR8, gR9, gR10, gR11, gR12, gR13, gR14, gR15, Int.reduceToNat, Int.cast_ofNat_Int, Int.natCast_one, Int.reduceLT, Int.reduceLE, List.getD_nil, Int.toNat_natCast, Int.natCast_zero, false_and, and_false, Int.toNat_zero, Int.toNat_one, Int.reduceEq, Nat.reduceSub, getD_midP hl, getD_atP hb hbl, hlt, hlt2]
      intro _
      refine call_by (h x y) ?_
      cases h2 : x.same y with
      | true =>
        simp only [go_sem, Nat.reduceEqDiff, reduceCtorEq, Nat.reduceAdd, Nat.reduceLeDiff, Bool.false_eq_true, Nat.reduceMul, Bool.true_eq_false, Nat.reduceLT, gR1, gR2, gR3, gR4, gR5, gR6, gR7, gR8, gR9, gR10, gR11, gR12, gR13, gR14, gR15, Int.reduceToNat, Int.cast_ofNat_Int, Int.natCast_one, Int.reduceLT, Int.reduceLE, List.getD_nil, Int.toNat_natCast, Int.natCast_zero, false_and, and_false, Int.toNat_zero, Int.toNat_one, Int.reduceEq, Nat.reduceSub, hw, List.length_append]
        refine ⟨Ent_plain (by simp only [go_sem, Nat.reduceEqDiff, reduceCtorEq, Nat.reduceAdd, Nat.reduceLeDiff, Bool.false_eq_true, Nat.reduceMul, Bool.true_eq_false, Nat.reduceLT, gR1, gR2, gR3, gR4, gR5, gR6, gR7, gR8, gR9, gR10, gR11, gR12, gR13, gR14, gR15, Int.reduceToNat, Int.cast_ofNat_Int, Int.natCast_one, Int.reduceLT, Int.reduceLE, List.getD_nil, Int.toNat_natCast, Int.natCast_zero, false_and, and_false, Int.toNat_zero, Int.toNat_one, Int.reduceEq, Nat.reduceSub]), ?_⟩
        have ht2 : b.take (done.length + 1) = bd ++ [y] := by rw [hb, show bd ++ y :: r' = (bd ++ [y]) ++ r' by simp]; exact List.take_left' (by simp [hbl])
        rw [ht2, Pred.sames_app hbl.symm, hI]
        simp [Pred.same.sames, h2]
      | false => simp only [h2, go_sem, Nat.reduceEqDiff, reduceCtorEq, Nat.reduceAdd, Nat.reduceLeDiff, Bool.false_eq_true, Nat.reduceMul, Bool.true_eq_false, Nat.reduceLT, gR1, gR2, gR3, gR4, gR5, gR6, gR7, gR8, gR9, gR10, gR11, gR12, gR13, gR14, gR15, Int.reduceToNat, Int.cast_ofNat_Int, Int.natCast_one, Int.reduceLT, Int.reduceLE, List.getD_nil, Int.toNat_natCast, Int.natCast_zero, false_and, and_false, Int.toNat_zero, Int.toNat_one, Int.reduceEq, Nat.reduceSub] at hR ⊢; exact hR
    · intro hI
      rw [hlen, List.take_length] at hI
      rw [hI] at hR
      subst hR
      simp only [fn_r09_Same_L1, go_sem, Nat.reduceEqDiff, reduceCtorEq, Nat.reduceAdd, Nat.reduceLeDiff, Bool.false_eq_true, Nat.reduceMul, Bool.true_eq_false, Nat.reduceLT, gR1, gR2, gR3, gR4, gR5, gR6, gR7, gR8, gR9, gR10, gR11, gR12, gR13, gR14, gR15, Int.reduceToNat, Int.cast_ofNat_Int, Int.natCast_one, Int.reduceLT, Int.reduceLE, List.getD_nil, Int.toNat_natCast, Int.natCast_zero, false_and, and_false, Int.toNat_zero, Int.toNat_one, Int.reduceEq, Nat.reduceSub, implies_true]
  · have h1 : ((a.length : Int) != (b.length : Int)) = true := by simp; omega
    rw [Pred.sames_len hlen] at hR
    simp only [h1, go_sem, Nat.reduceEqDiff, reduceCtorEq, Nat.reduceAdd, Nat.reduceLeDiff, Bool.false_eq_true, Nat.reduceMul, Bool.true_eq_false, Nat.reduceLT, gR1, gR2, gR3, gR4, gR5, gR6, gR7, gR8, gR9, gR10, gR11, gR12, gR13, gR14, gR15, Int.reduceToNat, Int.cast_ofNat_Int, Int.natCast_one, Int.reduceLT, Int.reduceLE, List.getD_nil, Int.toNat_natCast, Int.natCast_zero, false_and, and_false, Int.toNat_zero, Int.toNat_one, Int.reduceEq, Nat.reduceSub, hR]
theorem r09_Zero_ev (p : Pred) : E.C r09_Zero [.agg (Pred.cells p)] (.one (.bool (p.same zeroP))) := by
  refine Z.r09_Zero _ _ ⟨Nat.le_of_ble_eq_true rfl, ?_⟩
  obtain ⟨o, s, n, ks⟩ := p
  rw [same_zero, Pred.cells_eq]
  simp only [fn_r09_Zero, go_sem, Nat.reduceEqDiff, reduceCtorEq, Nat.reduceAdd, Nat.reduceLeDiff, Bool.false_eq_true, Nat.reduceMul, Bool.true_eq_false, Nat.reduceLT, gR1, gR2, gR3, gR4, gR5, gR6, gR7, gR8, gR9, gR10, gR11, gR12, gR13, gR14, gR15, Int.reduceToNat, Int.cast_ofNat_Int, Int.natCast_one, Int.reduceLT, Int.reduceLE, List.getD_nil, Int.toNat_natCast, Int.natCast_zero, false_and, and_false, Int.toNat_zero, Int.toNat_one, Int.reduceEq, Nat.reduceSub, Pred.op, Pred.name, Pred.n, Pred.kids, implies_true]
end Go.Abs
end
section
set_option linter.unusedSimpArgs false
set_option linter.unusedVariables false
set_option linter.unusedSectionVars false
namespace Go.Abs
/-- a full slice in cell i of box s gets token t, ahead of the loop -/
theorem Ent_convm {st st1 : St} (s i t sz : Nat) (cs : List AV) (es : List (List D)) (mp : TMap) (h0 : getM st.mem s = some cs) (h1 : cs[i]? = some (.full es)) (h2 : ∀ e ∈ es, e.length = sz) (h3 : getT st.tk t = none)
    (h : Ent0 mp { st with mem := (s, cs.set i (.own t sz es)) :: st.mem, tk := (t, true) :: st.tk } st1) : Ent st st1 := ⟨[(.m s i, t, sz)], mp, _, ⟨_, ⟨cs, es, h0, h1, h2, h3, rfl⟩, rfl⟩, h⟩
def AllN (P : Pred → Prop) (p : Pred) : Prop := ∀ q ∈ p.pre, P q
theorem AllN.kid {P : Pred → Prop} {o : Int} {s : Str} {n : Int} {ks : List Pred} (h : AllN P (.mk o s n ks)) {k : Pred} (hk : k ∈ ks) : AllN P k := by
  intro q hq
  refine h q ?_
  rw [Pred.pre_eq]
  refine List.mem_cons_of_mem _ ?_
  clear h
  induction ks with
  | nil => cases hk
  | cons x ks ih =>
    rw [Pred.pre.pres, List.mem_append]
    rcases List.mem_cons.1 hk with rfl | hk
    · exact .inl hq
    · exact .inr (ih hk)
theorem AllN.top {P : Pred → Prop} {o : Int} {s : Str} {n : Int} {ks : List Pred} (h : AllN P (.mk o s n ks)) : P (.mk o s n ks) := h _ (by rw [Pred.pre_eq]; simp)
/-- no node has more kids than may be copied -/
def Tame : Pred → Prop := AllN fun q => Small q.kids.length
theorem one_split {α : Type} {l : List α} (h : l.length = 1) : ∃ a, l = [a] := by
  match l, h with
  | [a], _ => exact ⟨a, rfl⟩
set_option maxRecDepth 100000
variable {E : AEnv} (Z : Sys E)
include Z
theorem pred_copied_ev (p : Pred) (hp : Tame p) : E.C pred_copied [.agg (Pred.cells p)] (.agg (Pred.cells p)) := by
  induction p using Pred.ind with
  | h o s n ks ih =>
  refine Z.pred_copied _ _ ⟨Nat.le_of_ble_eq_true rfl, ?_⟩
  rw [Pred.cells_eq]
  have hk : Small ks.length := hp.top
  unfold Small at hk
  simp only [fn_pred_copied, go_sem, Nat.reduceEqDiff, reduceCtorEq, Nat.reduceAdd, Nat.reduceLeDiff, Bool.false_eq_true, Nat.reduceMul, Bool.true_eq_false, Nat.reduceLT, gR1, gR2, gR3, gR4, gR5, gR6, gR7, gR8, gR9, gR10, gR11, gR12, gR13, gR14, gR15, Int.reduceToNat, Int.cast_ofNat_Int, Int.natCast_one, Int.reduceLT, Int.reduceLE, List.getD_nil, Int.toNat_natCast, Int.natCast_zero, false_and, and_false, Int.toNat_zero, Int.toNat_one, Int.reduceEq, Nat.reduceSub, Pred.op, Pred.name, Pred.n, Pred.kids]
  intro hlen
  refine loop_list ks (fun _ => True) (fun done rest => ⟨[(16, .d (.int .i64 done.length)), (15, .d (.int .i64 ks.length)), (14, .d (.lst (ks.map Pred.cells))), (3, .ptr 3 0), (2, .ptr 2 0)], [(3, [.d (.int .i64 o), .d (.str s), .d (.int .i64 n), .own 3 4 (done.map Pred.cells)]), (2, [.d (.int .i64 0), .d (.str []), .d (.int .i64 0), .full []])], [(3, true)]⟩) ?_ trivial ?_ ?_
  · exact Ent_convm 3 3 3 4 _ [] [(3, 3)] rfl rfl (by simp) rfl (by simp only [Ent0, go_sem, Nat.reduceEqDiff, reduceCtorEq, Nat.reduceAdd, Nat.reduceLeDiff, Bool.false_eq_true, Nat.reduceMul, Bool.true_eq_false, Nat.reduceLT, gR1, gR2, gR3, gR4, gR5, gR6, gR7, gR8, gR9, gR10, gR11, gR12, gR13, gR14, gR15, Int.reduceToNat, Int.cast_ofNat_Int, Int.natCast_one, Int.reduceLT, Int.reduceLE, List.getD_nil, Int.toNat_natCast, Int.natCast_zero, false_and, and_false, Int.toNat_zero, Int.toNat_one, Int.reduceEq, Nat.reduceSub, List.contains_nil, Option.isSome_some])
  · intro done k r hl _
    have hk' := ih k (by rw [hl]; simp) (hp.kid (by rw [hl]; simp))
    have hlt := lt_mid hl
    have hw : IntKind.i64.wrap ((done.length : Int) + 1) = ((done.length + 1 : Nat) : Int) := wrap_succ (by omega)
    have hd : done.length < ks.length := by omega
    have ha1 : (done.length + 1) * 56 ≤ 2 ^ 46 := by omega
    simp only [fn_pred_copied_L1, go_sem, Nat.reduceEqDiff, reduceCtorEq, Nat.reduceAdd, Nat.reduceLeDiff, Bool.false_eq_true, Nat.reduceMul, Bool.true_eq_false, Nat.reduceLT, gR1, gR2, gR3, gR4, gR5, gR6, gR7, gR8, gR9, gR10, gR11, gR12, gR13, gR14, gR15, Int.reduceToNat, Int.cast_ofNat_Int, Int.natCast_one, Int.reduceLT, Int.reduceLE, List.getD_nil, Int.toNat_natCast, Int.natCast_zero, false_and, and_false, Int.toNat_zero, Int.toNat_one, Int.reduceEq, Nat.reduceSub, hlt, getD_midP hl]
    refine call_by hk' ?_
    simp only [go_sem, Nat.reduceEqDiff, reduceCtorEq, Nat.reduceAdd, Nat.reduceLeDiff, Bool.false_eq_true, Nat.reduceMul, Bool.true_eq_false, Nat.reduceLT, gR1, gR2, gR3, gR4, gR5, gR6, gR7, gR8, gR9, gR10, gR11, gR12, gR13, gR14, gR15, Int.reduceToNat, Int.cast_ofNat_Int, Int.natCast_one, Int.reduceLT, Int.reduceLE, List.getD_nil, Int.toNat_natCast, Int.natCast_zero, false_and, and_false, Int.toNat_zero, Int.toNat_one, Int.reduceEq, Nat.reduceSub, hw, List.length_append, List.length_map, List.map_append, Pred.lens_true]
    refine ⟨⟨by simp [Pred.cells_length], ha1, by omega⟩, Ent_own [(3, 25)] ?_⟩
    simp only [go_sem, Nat.reduceEqDiff, reduceCtorEq, Nat.reduceAdd, Nat.reduceLeDiff, Bool.false_eq_true, Nat.reduceMul, Bool.true_eq_false, Nat.reduceLT, gR1, gR2, gR3, gR4, gR5, gR6, gR7, gR8, gR9, gR10, gR11, gR12, gR13, gR14, gR15, Int.reduceToNat, Int.cast_ofNat_Int, Int.natCast_one, Int.reduceLT, Int.reduceLE, List.getD_nil, Int.toNat_natCast, Int.natCast_zero, false_and, and_false, Int.toNat_zero, Int.toNat_one, Int.reduceEq, Nat.reduceSub, List.contains_nil, Option.isSome_some]
  · intro _
    simp only [fn_pred_copied_L1, go_sem, Nat.reduceEqDiff, reduceCtorEq, Nat.reduceAdd, Nat.reduceLeDiff, Bool.false_eq_true, Nat.reduceMul, Bool.true_eq_false, Nat.reduceLT, gR1, gR2, gR3, gR4, gR5, gR6, gR7, gR8, gR9, gR10, gR11, gR12, gR13, gR14, gR15, Int.reduceToNat, Int.cast_ofNat_Int, Int.natCast_one, Int.reduceLT, Int.reduceLE, List.getD_nil, Int.toNat_natCast, Int.natCast_zero, false_and, and_false, Int.toNat_zero, Int.toNat_one, Int.reduceEq, Nat.reduceSub]
theorem sorting_copied_ev (p : Pred) (hp : Tame p) : E.C sorting_copied [.agg (Pred.cells p)] (.agg (Pred.cells p)) := by
  induction p using Pred.ind with
  | h o s n ks ih =>
  refine Z.sorting_copied _ _ ⟨Nat.le_of_ble_eq_true rfl, ?_⟩
  rw [Pred.cells_eq]
  have hk : Small ks.length := hp.top
  unfold Small at hk
  simp only [fn_sorting_copied, go_sem, Nat.reduceEqDiff, reduceCtorEq, Nat.reduceAdd, Nat.reduceLeDiff, Bool.false_eq_true, Nat.reduceMul, Bool.true_eq_false, Nat.reduceLT, gR1, gR2, gR3, gR4, gR5, gR6, gR7, gR8, gR9, gR10, gR11, gR12, gR13, gR14, gR15, Int.reduceToNat, Int.cast_ofNat_Int, Int.natCast_one, Int.reduceLT, Int.reduceLE, List.getD_nil, Int.toNat_natCast, Int.natCast_zero, false_and, and_false, Int.toNat_zero, Int.toNat_one, Int.reduceEq, Nat.reduceSub, Pred.op, Pred.name, Pred.n, Pred.kids]
  intro hlen
  refine loop_list ks (fun _ => True) (fun done rest => ⟨[(16, .d (.int .i64 done.length)), (15, .d (.int .i64 ks.length)), (14, .d (.lst (ks.map Pred.cells))), (3, .ptr 3 0), (2, .ptr 2 0)], [(3, [.d (.int .i64 o), .d (.str s), .d (.int .i64 n), .own 3 4 (done.map Pred.cells)]), (2, [.d (.int .i64 0), .d (.str []), .d (.int .i64 0), .full []])], [(3, true)]⟩) ?_ trivial ?_ ?_
  · exact Ent_convm 3 3 3 4 _ [] [(3, 3)] rfl rfl (by simp) rfl (by simp only [Ent0, go_sem, Nat.reduceEqDiff, reduceCtorEq, Nat.reduceAdd, Nat.reduceLeDiff, Bool.false_eq_true, Nat.reduceMul, Bool.true_eq_false, Nat.reduceLT, gR1, gR2, gR3, gR4, gR5, gR6, gR7, gR8, gR9, gR10, gR11, gR12, gR13, gR14, gR15, Int.reduceToNat, Int.cast_ofNat_Int, Int.natCast_one, Int.reduceLT, Int.reduceLE, List.getD_nil, Int.toNat_natCast, Int.natCast_zero, false_and, and_false, Int.toNat_zero, Int.toNat_one, Int.reduceEq, Nat.reduceSub, List.contains_nil, Option.isSome_some])
  · intro done k r hl _
    have hk' := ih k (by rw [hl]; simp) (hp.kid (by rw [hl]; simp))
    have hlt := lt_mid hl
    have hw : IntKind.i64.wrap ((done.length : Int) + 1) = ((done.length + 1 : Nat) : Int) := wrap_succ (by omega)
    have hd : done.length < ks.length := by omega
    have ha1 : (done.length + 1) * 56 ≤ 2 ^ 46 := by omega
    simp only [fn_sorting_copied_L1, go_sem, Nat.reduceEqDiff, reduceCtorEq, Nat.reduceAdd, Nat.reduceLeDiff, Bool.false_eq_true, Nat.reduceMul, Bool.true_eq_false, Nat.reduceLT, gR1, gR2, gR3, gR4, gR5, gR6, gR7, gR8, gR9, gR10, gR11, gR12, gR13, gR14, gR15, Int.reduceToNat, Int.cast_ofNat_Int, Int.natCast_one, Int.reduceLT, Int.reduceLE, List.getD_nil, Int.toNat_natCast, Int.natCast_zero, false_and, and_false, Int.toNat_zero, Int.toNat_one, Int.reduceEq, Nat.reduceSub, hlt, getD_midP hl]
    refine call_by hk' ?_
    simp only [go_sem, Nat.reduceEqDiff, reduceCtorEq, Nat.reduceAdd, Nat.reduceLeDiff, Bool.false_eq_true, Nat.reduceMul, Bool.true_eq_false, Nat.reduceLT, gR1, gR2, gR3, gR4, gR5, gR6, gR7, gR8, gR9, gR10, gR11, gR12, gR13, gR14, gR15, Int.reduceToNat, Int.cast_ofNat_Int, Int.natCast_one, Int.reduceLT, Int.reduceLE, List.getD_nil, Int.toNat_natCast, Int.natCast_zero, false_and, and_false, Int.toNat_zero, Int.toNat_one, Int.reduceEq, Nat.reduceSub, hw, List.length_append, List.length_map, List.map_append, Pred.lens_true]
    refine ⟨⟨by simp [Pred.cells_length], ha1, by omega⟩, Ent_own [(3, 25)] ?_⟩
    simp only [go_sem, Nat.reduceEqDiff, reduceCtorEq, Nat.reduceAdd, Nat.reduceLeDiff, Bool.false_eq_true, Nat.reduceMul, Bool.true_eq_false, Nat.reduceLT, gR1, gR2, gR3, gR4, gR5, gR6, gR7, gR8, gR9, gR10, gR11, gR12, gR13, gR14, gR15, Int.reduceToNat, Int.cast_ofNat_Int, Int.natCast_one, Int.reduceLT, Int.reduceLE, List.getD_nil, Int.toNat_natCast, Int.natCast_zero, false_and, and_false, Int.toNat_zero, Int.toNat_one, Int.reduceEq, Nat.reduceSub, List.contains_nil, Option.isSome_some]
  · intro _
    simp only [fn_sorting_copied_L1, go_sem, Nat.reduceEqDiff, reduceCtorEq, Nat.reduceAdd, Nat.reduceLeDiff, Bool.false_eq_true, Nat.reduceMul, Bool.true_eq_false, Nat.reduceLT, gR1, gR2, gR3, gR4, gR5, gR6, gR7, gR8, gR9, gR10, gR11, gR12, gR13, gR14, gR15, Int.reduceToNat, Int.cast_ofNat_Int, Int.natCast_one, Int.reduceLT, Int.reduceLE, List.getD_nil, Int.toNat_natCast, Int.natCast_zero, false_and, and_false, Int.toNat_zero, Int.toNat_one, Int.reduceEq, Nat.reduceSub]
theorem pred_constant_ev (b : Bool) : E.C pred_constant [.one (.bool b)] (.agg (Pred.cells (if b then trueP else falseP))) := by
  refine Z.pred_constant _ _ ⟨Nat.le_of_ble_eq_true rfl, ?_⟩
  cases b <;> simp only [fn_pred_constant, go_sem, Nat.reduceEqDiff, reduceCtorEq, Nat.reduceAdd, Nat.reduceLeDiff, Bool.false_eq_true, Nat.reduceMul, Bool.true_eq_false, Nat.reduceLT, gR1, gR2, gR3, gR4, gR5, gR6, gR7, gR8, gR9, gR10, gR11, gR12, gR13, gR14, gR15, Int.reduceToNat, Int.cast_ofNat_Int, Int.natCast_one, Int.reduceLT, Int.reduceLE, List.getD_nil, Int.toNat_natCast, Int.natCast_zero, false_and, and_false, Int.toNat_zero, Int.toNat_one, Int.reduceEq, Nat.reduceSub, trueP, falseP, Pred.cells_eq, Pred.op, Pred.name, Pred.n, Pred.kids]
def voidP (p : Pred) : Bool := p.same zeroP || p.same trueP
theorem pred_void_ev (p : Pred) : E.C pred_void [.agg (Pred.cells p)] (.one (.bool (voidP p))) := by
  have h0 := pred_Same_ev Z p zeroP
  have h1 := pred_Same_ev Z p trueP
  have h2 := pred_constant_ev Z true
  refine Z.pred_void _ _ ⟨Nat.le_of_ble_eq_true rfl, ?_⟩
  unfold voidP
  simp only [if_true] at h2
  rw [Pred.cells_eq p] at *
  have e0 : Pred.cells zeroP = [.int .i64 0, .str [], .int .i64 0, .lst []] := by rw [Pred.cells_eq]; rfl
  have e1 : Pred.cells trueP = [.int .i64 2, .str [], .int .i64 1, .lst []] := by rw [Pred.cells_eq]; rfl
  rw [e0] at h0
  rw [e1] at h1 h2
  simp only [fn_pred_void, go_sem, Nat.reduceEqDiff, reduceCtorEq, Nat.reduceAdd, Nat.reduceLeDiff, Bool.false_eq_true, Nat.reduceMul, Bool.true_eq_false, Nat.reduceLT, gR1, gR2, gR3, gR4, gR5, gR6, gR7, gR8, gR9, gR10, gR11, gR12, gR13, gR14, gR15, Int.reduceToNat, Int.cast_ofNat_Int, Int.natCast_one, Int.reduceLT, Int.reduceLE, List.getD_nil, Int.toNat_natCast, Int.natCast_zero, false_and, and_false, Int.toNat_zero, Int.toNat_one, Int.reduceEq, Nat.reduceSub]
  refine call_by h0 ?_
  simp only [go_sem, Nat.reduceEqDiff, reduceCtorEq, Nat.reduceAdd, Nat.reduceLeDiff, Bool.false_eq_true, Nat.reduceMul, Bool.true_eq_false, Nat.reduceLT, gR1, gR2, gR3, gR4, gR5, gR6, gR7, gR8, gR9, gR10, gR11, gR12, gR13, gR14, gR15, Int.reduceToNat, Int.cast_ofNat_Int, Int.natCast_one, Int.reduceLT, Int.reduceLE, List.getD_nil, Int.toNat_natCast, Int.natCast_zero, false_and, and_false, Int.toNat_zero, Int.toNat_one, Int.reduceEq, Nat.reduceSub]
  refine call_g h2 ?_
  simp only [go_sem, Nat.reduceEqDiff, reduceCtorEq, Nat.reduceAdd, Nat.reduceLeDiff, Bool.false_eq_true, Nat.reduceMul, Bool.true_eq_false, Nat.reduceLT, gR1, gR2, gR3, gR4, gR5, gR6, gR7, gR8, gR9, gR10, gR11, gR12, gR13, gR14, gR15, Int.reduceToNat, Int.cast_ofNat_Int, Int.natCast_one, Int.reduceLT, Int.reduceLE, List.getD_nil, Int.toNat_natCast, Int.natCast_zero, false_and, and_false, Int.toNat_zero, Int.toNat_one, Int.reduceEq, Nat.reduceSub]
  refine call_g h1 ?_
  simp only [go_sem, Nat.reduceEqDiff, reduceCtorEq, Nat.reduceAdd, Nat.reduceLeDiff, Bool.false_eq_true, Nat.reduceMul, Bool.true_eq_false, Nat.reduceLT, gR1, gR2, gR3, gR4, gR5, gR6, gR7, gR8, gR9, gR10, gR11, gR12, gR13, gR14, gR15, Int.reduceToNat, Int.cast_ofNat_Int, Int.natCast_one, Int.reduceLT, Int.reduceLE, List.getD_nil, Int.toNat_natCast, Int.natCast_zero, false_and, and_false, Int.toNat_zero, Int.toNat_one, Int.reduceEq, Nat.reduceSub]
/-- the negation of a predicate -/
def notP (p : Pred) : Pred := if p.op == 14 && (p.kids.length : Int) == 1 then p.kids.getD 0 zeroP else if voidP p then falseP else if p.same falseP then trueP else .mk 14 [] 0 [p]
theorem pred_Not_ev (p : Pred) (hp : Tame p) : E.C pred_Not [.agg (Pred.cells p)] (.agg (Pred.cells (notP p))) := by
  have h0 := pred_void_ev Z p
  have h1 := pred_constant_ev Z true
  have h2 := pred_constant_ev Z false
  have h3 := pred_Same_ev Z p falseP
  have h4 := pred_copied_ev Z p hp
  have h5 := fun q hq => pred_copied_ev Z q hq
  refine Z.pred_Not _ _ ⟨Nat.le_of_ble_eq_true rfl, ?_⟩
  generalize hR : notP p = R
  unfold notP at hR
  obtain ⟨o, s, n, ks⟩ := p
  simp only [if_true, Bool.false_eq_true, if_false] at h1 h2
  have e0 : Pred.cells falseP = [.int .i64 2, .str [], .int .i64 0, .lst []] := by rw [Pred.cells_eq]; rfl
  have e1 : Pred.cells trueP = [.int .i64 2, .str [], .int .i64 1, .lst []] := by rw [Pred.cells_eq]; rfl
  rw [Pred.cells_eq (.mk o s n ks)] at *
  rw [e1] at h1
  rw [e0] at h2 h3
  simp only [fn_pred_Not, go_sem, Nat.reduceEqDiff, reduceCtorEq, Nat.reduceAdd, Nat.reduceLeDiff, Bool.false_eq_true, Nat.reduceMul, Bool.true_eq_false, Nat.reduceLT, gR1, gR2, gR3, gR4, gR5, gR6, gR7, gR8, gR9, gR10, gR11, gR12, gR13, gR14, gR15, Int.reduceToNat, Int.cast_ofNat_Int, Int.natCast_one, Int.reduceLT, Int.reduceLE, List.getD_nil, Int.toNat_natCast, Int.natCast_zero, false_and, and_false, Int.toNat_zero, Int.toNat_one, Int.reduceEq, Nat.reduceSub, Pred.op, Pred.name, Pred.n, Pred.kids] at hR h0 h3 h4 ⊢
  intro hlen
  cases c1 : (o == 14 && (ks.length : Int) == 1) with
  | true =>
    simp only [c1, go_sem, Nat.reduceEqDiff, reduceCtorEq, Nat.reduceAdd, Nat.reduceLeDiff, Bool.false_eq_true, Nat.reduceMul, Bool.true_eq_false, Nat.reduceLT, gR1, gR2, gR3, gR4, gR5, gR6, gR7, gR8, gR9, gR10, gR11, gR12, gR13, gR14, gR15, Int.reduceToNat, Int.cast_ofNat_Int, Int.natCast_one, Int.reduceLT, Int.reduceLE, List.getD_nil, Int.toNat_natCast, Int.natCast_zero, false_and, and_false, Int.toNat_zero, Int.toNat_one, Int.reduceEq, Nat.reduceSub] at hR ⊢
    obtain ⟨k, rfl⟩ : ∃ k, ks = [k] := one_split (by simp at c1; omega)
    have := h5 k (hp.kid (by simp))
    rw [Pred.cells_eq k] at this
    simp only [go_sem, Nat.reduceEqDiff, reduceCtorEq, Nat.reduceAdd, Nat.reduceLeDiff, Bool.false_eq_true, Nat.reduceMul, Bool.true_eq_false, Nat.reduceLT, gR1, gR2, gR3, gR4, gR5, gR6, gR7, gR8, gR9, gR10, gR11, gR12, gR13, gR14, gR15, Int.reduceToNat, Int.cast_ofNat_Int, Int.natCast_one, Int.reduceLT, Int.reduceLE, List.getD_nil, Int.toNat_natCast, Int.natCast_zero, false_and, and_false, Int.toNat_zero, Int.toNat_one, Int.reduceEq, Nat.reduceSub, Pred.cells_eq k] at hR ⊢
    refine call_by this ?_
    subst hR
    simp only [go_sem, Nat.reduceEqDiff, reduceCtorEq, Nat.reduceAdd, Nat.reduceLeDiff, Bool.false_eq_true, Nat.reduceMul, Bool.true_eq_false, Nat.reduceLT, gR1, gR2, gR3, gR4, gR5, gR6, gR7, gR8, gR9, gR10, gR11, gR12, gR13, gR14, gR15, Int.reduceToNat, Int.cast_ofNat_Int, Int.natCast_one, Int.reduceLT, Int.reduceLE, List.getD_nil, Int.toNat_natCast, Int.natCast_zero, false_and, and_false, Int.toNat_zero, Int.toNat_one, Int.reduceEq, Nat.reduceSub, Pred.cells_eq k]
  | false =>
  simp only [c1, go_sem, Nat.reduceEqDiff, reduceCtorEq, Nat.reduceAdd, Nat.reduceLeDiff, Bool.false_eq_true, Nat.reduceMul, Bool.true_eq_false, Nat.reduceLT, gR1, gR2, gR3, gR4, gR5, gR6, gR7, gR8, gR9, gR10, gR11, gR12, gR13, gR14, gR15, Int.reduceToNat, Int.cast_ofNat_Int, Int.natCast_one, Int.reduceLT, Int.reduceLE, List.getD_nil, Int.toNat_natCast, Int.natCast_zero, false_and, and_false, Int.toNat_zero, Int.toNat_one, Int.reduceEq, Nat.reduceSub] at hR ⊢
  refine call_by h0 ?_
  cases c2 : voidP (.mk o s n ks) with
  | true =>
    simp only [c2, go_sem, Nat.reduceEqDiff, reduceCtorEq, Nat.reduceAdd, Nat.reduceLeDiff, Bool.false_eq_true, Nat.reduceMul, Bool.true_eq_false, Nat.reduceLT, gR1, gR2, gR3, gR4, gR5, gR6, gR7, gR8, gR9, gR10, gR11, gR12, gR13, gR14, gR15, Int.reduceToNat, Int.cast_ofNat_Int, Int.natCast_one, Int.reduceLT, Int.reduceLE, List.getD_nil, Int.toNat_natCast, Int.natCast_zero, false_and, and_false, Int.toNat_zero, Int.toNat_one, Int.reduceEq, Nat.reduceSub] at hR ⊢
    refine call_by h2 ?_
    subst hR
    simp only [go_sem, Nat.reduceEqDiff, reduceCtorEq, Nat.reduceAdd, Nat.reduceLeDiff, Bool.false_eq_true, Nat.reduceMul, Bool.true_eq_false, Nat.reduceLT, gR1, gR2, gR3, gR4, gR5, gR6, gR7, gR8, gR9, gR10, gR11, gR12, gR13, gR14, gR15, Int.reduceToNat, Int.cast_ofNat_Int, Int.natCast_one, Int.reduceLT, Int.reduceLE, List.getD_nil, Int.toNat_natCast, Int.natCast_zero, false_and, and_false, Int.toNat_zero, Int.toNat_one, Int.reduceEq, Nat.reduceSub, e0]
  | false =>
  simp only [c2, go_sem, Nat.reduceEqDiff, reduceCtorEq, Nat.reduceAdd, Nat.reduceLeDiff, Bool.false_eq_true, Nat.reduceMul, Bool.true_eq_false, Nat.reduceLT, gR1, gR2, gR3, gR4, gR5, gR6, gR7, gR8, gR9, gR10, gR11, gR12, gR13, gR14, gR15, Int.reduceToNat, Int.cast_ofNat_Int, Int.natCast_one, Int.reduceLT, Int.reduceLE, List.getD_nil, Int.toNat_natCast, Int.natCast_zero, false_and, and_false, Int.toNat_zero, Int.toNat_one, Int.reduceEq, Nat.reduceSub] at hR ⊢
  refine call_by h2 ?_
  simp only [go_sem, Nat.reduceEqDiff, reduceCtorEq, Nat.reduceAdd, Nat.reduceLeDiff, Bool.false_eq_true, Nat.reduceMul, Bool.true_eq_false, Nat.reduceLT, gR1, gR2, gR3, gR4, gR5, gR6, gR7, gR8, gR9, gR10, gR11, gR12, gR13, gR14, gR15, Int.reduceToNat, Int.cast_ofNat_Int, Int.natCast_one, Int.reduceLT, Int.reduceLE, List.getD_nil, Int.toNat_natCast, Int.natCast_zero, false_and, and_false, Int.toNat_zero, Int.toNat_one, Int.reduceEq, Nat.reduceSub]
  refine call_by h3 ?_
  cases c3 : (Pred.mk o s n ks).same falseP with
  | true =>
    simp only [c3, go_sem, Nat.reduceEqDiff, reduceCtorEq, Nat.reduceAdd, Nat.reduceLeDiff, Bool.false_eq_true, Nat.reduceMul, Bool.true_eq_false, Nat.reduceLT, gR1, gR2, gR3, gR4, gR5, gR6, gR7, gR8, gR9, gR10, gR11, gR12, gR13, gR14, gR15, Int.reduceToNat, Int.cast_ofNat_Int, Int.natCast_one, Int.reduceLT, Int.reduceLE, List.getD_nil, Int.toNat_natCast, Int.natCast_zero, false_and, and_false, Int.toNat_zero, Int.toNat_one, Int.reduceEq, Nat.reduceSub] at hR ⊢
    refine call_by h1 ?_
    subst hR
    simp only [go_sem, Nat.reduceEqDiff, reduceCtorEq, Nat.reduceAdd, Nat.reduceLeDiff, Bool.false_eq_true, Nat.reduceMul, Bool.true_eq_false, Nat.reduceLT, gR1, gR2, gR3, gR4, gR5, gR6, gR7, gR8, gR9, gR10, gR11, gR12, gR13, gR14, gR15, Int.reduceToNat, Int.cast_ofNat_Int, Int.natCast_one, Int.reduceLT, Int.reduceLE, List.getD_nil, Int.toNat_natCast, Int.natCast_zero, false_and, and_false, Int.toNat_zero, Int.toNat_one, Int.reduceEq, Nat.reduceSub, e1]
  | false =>
    simp only [c3, go_sem, Nat.reduceEqDiff, reduceCtorEq, Nat.reduceAdd, Nat.reduceLeDiff, Bool.false_eq_true, Nat.reduceMul, Bool.true_eq_false, Nat.reduceLT, gR1, gR2, gR3, gR4, gR5, gR6, gR7, gR8, gR9, gR10, gR11, gR12, gR13, gR14, gR15, Int.reduceToNat, Int.cast_ofNat_Int, Int.natCast_one, Int.reduceLT, Int.reduceLE, List.getD_nil, Int.toNat_natCast, Int.natCast_zero, false_and, and_false, Int.toNat_zero, Int.toNat_one, Int.reduceEq, Nat.reduceSub] at hR ⊢
    refine call_by h4 ?_
    subst hR
    simp only [go_sem, Nat.reduceEqDiff, reduceCtorEq, Nat.reduceAdd, Nat.reduceLeDiff, Bool.false_eq_true, Nat.reduceMul, Bool.true_eq_false, Nat.reduceLT, gR1, gR2, gR3, gR4, gR5, gR6, gR7, gR8, gR9, gR10, gR11, gR12, gR13, gR14, gR15, Int.reduceToNat, Int.cast_ofNat_Int, Int.natCast_one, Int.reduceLT, Int.reduceLE, List.getD_nil, Int.toNat_natCast, Int.natCast_zero, false_and, and_false, Int.toNat_zero, Int.toNat_one, Int.reduceEq, Nat.reduceSub, Pred.cells_eq (.mk 14 [] 0 [.mk o s n ks]), Pred.op, Pred.name, Pred.n, Pred.kids, Pred.cells_eq (.mk o s n ks)]
end Go.Abs
end
section
set_option linter.unusedSimpArgs false
set_option linter.unusedVariables false
set_option linter.unusedSectionVars false
namespace Go.Abs
def BoolS (v : SEnv) (p : Pred) : Int := if p.same zeroP then 0 else if (OfS v p).2 == 0 && !(OfS v p).1 == sBool then 11 else (OfS v p).2
def EnvS (v : SEnv) : Nat → List Pred → Int × Int
  | _, [] => (-1, 0)
  | i, p :: l => if BoolS v p != 0 then ((i : Int), BoolS v p) else EnvS v (i + 1) l
def okTerm (v : SEnv) (s : Str) (p : Pred) : Bool := (OfS v p).2 == 0 && (OfS v p).1 == s
theorem EnvS_mid {v : SEnv} : ∀ {a b : List Pred} {k : Pred} {i : Nat}, (∀ x ∈ a, BoolS v x = 0) → EnvS v i (a ++ k :: b) = if BoolS v k != 0 then (((i + a.length : Nat) : Int), BoolS v k) else EnvS v (i + a.length + 1) b
  | [], b, k, i, _ => by simp only [List.nil_append, EnvS, List.length_nil, Nat.add_zero]
  | x :: a, b, k, i, h => by
    rw [List.cons_append, EnvS, h x (by simp)]
    have := EnvS_mid (v := v) (a := a) (b := b) (k := k) (i := i + 1) (fun y hy => h y (by simp [hy]))
    rw [show i + (x :: a).length = i + 1 + a.length by simp; omega]
    exact this
theorem EnvS_all {v : SEnv} : ∀ {a : List Pred} {i : Nat}, (∀ x ∈ a, BoolS v x = 0) → EnvS v i a = (-1, 0)
  | [], i, _ => rfl
  | x :: a, i, h => by rw [EnvS, h x (by simp)]; exact EnvS_all fun y hy => h y (by simp [hy])
set_option maxRecDepth 100000
variable {E : AEnv} (Z : Sys E)
include Z
theorem r09_of_ev (v : SEnv) (p : Pred) (hp : Arity p) : E.C r09_of [.agg v.cells, .agg p.cells] (two (ofS v p)) := by
  induction p using Pred.ind with
  | h o s n ks ih =>
  have hvar := r06_Var_ev Z v s
  have happ := fun l => r09_app_ev Z v s l
  have hhol := fun l => r09_hole_ev Z v s l
  have hop := fun l hl => r09_operation_ev Z o l hl
  refine Z.r09_of _ _ ⟨Nat.le_of_ble_eq_true rfl, ?_⟩
  generalize hR : ofS v (.mk o s n ks) = R
  rw [ofS_eq] at hR
  unfold two at *
  rw [SEnv.cells] at *
  rw [Pred.cells_eq] at *
  simp only [fn_r09_of, go_sem, Nat.reduceEqDiff, reduceCtorEq, Nat.reduceAdd, Nat.reduceLeDiff, Bool.false_eq_true, Nat.reduceMul, Bool.true_eq_false, Nat.reduceLT, gR1, gR2, gR3, gR4, gR5, gR6, gR7, gR8, gR9, gR10, gR11, gR12, gR13, gR14, gR15, Int.reduceToNat, Int.cast_ofNat_Int, Int.natCast_one, Int.reduceLT, Int.reduceLE, List.getD_nil, Int.toNat_natCast, Int.natCast_zero, false_and, and_false, Int.toNat_zero, Int.toNat_one, Int.reduceEq, Nat.reduceSub, Pred.op, Pred.name, Pred.n, Pred.kids]
  have hk24 := hp.top.2
  simp only [Pred.kids] at hk24
  refine loop_list ks (fun done => ∀ x ∈ done, (ofS v x).2 = 0) (fun done rest => ⟨[(7, .d (.int .i64 done.length)), (3, .ptr 3 0), (2, .ptr 2 0), (6, .own 6 1 ((done.map fun k => (ofS v k).1).map scell))],
    [(2, [.d (.lst (v.vars.map SVar.cells)), .d (.lst (v.syms.map SSym.cells)), .d (.lst (v.holes.map SHole.cells))]), (3, [.d (.int .i64 o), .d (.str s), .d (.int .i64 n), .d (.lst (ks.map Pred.cells))])], [(6, true)]⟩) ?_ (by simp) ?_ ?_
  · exact Ent_conv 6 6 1 [] [(6, 6)] rfl (by simp) rfl (by simp only [Ent0, go_sem, Nat.reduceEqDiff, reduceCtorEq, Nat.reduceAdd, Nat.reduceLeDiff, Bool.false_eq_true, Nat.reduceMul, Bool.true_eq_false, Nat.reduceLT, gR1, gR2, gR3, gR4, gR5, gR6, gR7, gR8, gR9, gR10, gR11, gR12, gR13, gR14, gR15, Int.reduceToNat, Int.cast_ofNat_Int, Int.natCast_one, Int.reduceLT, Int.reduceLE, List.getD_nil, Int.toNat_natCast, Int.natCast_zero, false_and, and_false, Int.toNat_zero, Int.toNat_one, Int.reduceEq, Nat.reduceSub, List.contains_nil, Option.isSome_some])
  · intro done k r hl hI
    have hk' := ih k (by rw [hl]; simp) (hp.kid (by rw [hl]; simp))
    have hlt := lt_mid hl
    rw [hl, errs_mid hI, ← hl] at hR
    have hd : done.length ≤ 24 := by omega
    have hw : IntKind.i64.wrap ((done.length : Int) + 1) = ((done.length + 1 : Nat) : Int) := wrap_succ (by omega)
    have ha1 : (done.length + 1) * 16 ≤ 2 ^ 46 := by omega
    simp only [fn_r09_of_L1, go_sem, Nat.reduceEqDiff, reduceCtorEq, Nat.reduceAdd, Nat.reduceLeDiff, Bool.false_eq_true, Nat.reduceMul, Bool.true_eq_false, Nat.reduceLT, gR1, gR2, gR3, gR4, gR5, gR6, gR7, gR8, gR9, gR10, gR11, gR12, gR13, gR14, gR15, Int.reduceToNat, Int.cast_ofNat_Int, Int.natCast_one, Int.reduceLT, Int.reduceLE, List.getD_nil, Int.toNat_natCast, Int.natCast_zero, false_and, and_false, Int.toNat_zero, Int.toNat_one, Int.reduceEq, Nat.reduceSub, hlt, getD_midP hl]
    intro _
    refine call_by hk' ?_
    simp only [go_sem, Nat.reduceEqDiff, reduceCtorEq, Nat.reduceAdd, Nat.reduceLeDiff, Bool.false_eq_true, Nat.reduceMul, Bool.true_eq_false, Nat.reduceLT, gR1, gR2, gR3, gR4, gR5, gR6, gR7, gR8, gR9, gR10, gR11, gR12, gR13, gR14, gR15, Int.reduceToNat, Int.cast_ofNat_Int, Int.natCast_one, Int.reduceLT, Int.reduceLE, List.getD_nil, Int.toNat_natCast, Int.natCast_zero, false_and, and_false, Int.toNat_zero, Int.toNat_one, Int.reduceEq, Nat.reduceSub]
    cases h3 : ((ofS v k).2 != 0) with
    | true => simp only [h3, go_sem, Nat.reduceEqDiff, reduceCtorEq, Nat.reduceAdd, Nat.reduceLeDiff, Bool.false_eq_true, Nat.reduceMul, Bool.true_eq_false, Nat.reduceLT, gR1, gR2, gR3, gR4, gR5, gR6, gR7, gR8, gR9, gR10, gR11, gR12, gR13, gR14, gR15, Int.reduceToNat, Int.cast_ofNat_Int, Int.natCast_one, Int.reduceLT, Int.reduceLE, List.getD_nil, Int.toNat_natCast, Int.natCast_zero, false_and, and_false, Int.toNat_zero, Int.toNat_one, Int.reduceEq, Nat.reduceSub] at hR ⊢; simp only [go_sem, Nat.reduceEqDiff, reduceCtorEq, Nat.reduceAdd, Nat.reduceLeDiff, Bool.false_eq_true, Nat.reduceMul, Bool.true_eq_false, Nat.reduceLT, gR1, gR2, gR3, gR4, gR5, gR6, gR7, gR8, gR9, gR10, gR11, gR12, gR13, gR14, gR15, Int.reduceToNat, Int.cast_ofNat_Int, Int.natCast_one, Int.reduceLT, Int.reduceLE, List.getD_nil, Int.toNat_natCast, Int.natCast_zero, false_and, and_false, Int.toNat_zero, Int.toNat_one, Int.reduceEq, Nat.reduceSub, ← hR]
    | false =>
      simp only [go_sem, Nat.reduceEqDiff, reduceCtorEq, Nat.reduceAdd, Nat.reduceLeDiff, Bool.false_eq_true, Nat.reduceMul, Bool.true_eq_false, Nat.reduceLT, gR1, gR2, gR3, gR4, gR5, gR6, gR7, gR8, gR9, gR10, gR11, gR12, gR13, gR14, gR15, Int.reduceToNat, Int.cast_ofNat_Int, Int.natCast_one, Int.reduceLT, Int.reduceLE, List.getD_nil, Int.toNat_natCast, Int.natCast_zero, false_and, and_false, Int.toNat_zero, Int.toNat_one, Int.reduceEq, Nat.reduceSub, hw, List.length_append, scell_lens, List.length_map]
      refine ⟨⟨by simp, ha1, by omega⟩, Ent_own [(6, 35)] ?_, app_all hI (by simpa using h3)⟩
      simp only [go_sem, Nat.reduceEqDiff, reduceCtorEq, Nat.reduceAdd, Nat.reduceLeDiff, Bool.false_eq_true, Nat.reduceMul, Bool.true_eq_false, Nat.reduceLT, gR1, gR2, gR3, gR4, gR5, gR6, gR7, gR8, gR9, gR10, gR11, gR12, gR13, gR14, gR15, Int.reduceToNat, Int.cast_ofNat_Int, Int.natCast_one, Int.reduceLT, Int.reduceLE, List.getD_nil, Int.toNat_natCast, Int.natCast_zero, false_and, and_false, Int.toNat_zero, Int.toNat_one, Int.reduceEq, Nat.reduceSub, List.contains_nil, Option.isSome_some, List.map_append, scell]
  · intro hI
    rw [errs_all hI] at hR
    have hR : nodeS v o s (ks.map fun k => (ofS v k).1) = R := hR
    unfold nodeS at hR
    simp only [fn_r09_of_L1, go_sem, Nat.reduceEqDiff, reduceCtorEq, Nat.reduceAdd, Nat.reduceLeDiff, Bool.false_eq_true, Nat.reduceMul, Bool.true_eq_false, Nat.reduceLT, gR1, gR2, gR3, gR4, gR5, gR6, gR7, gR8, gR9, gR10, gR11, gR12, gR13, gR14, gR15, Int.reduceToNat, Int.cast_ofNat_Int, Int.natCast_one, Int.reduceLT, Int.reduceLE, List.getD_nil, Int.toNat_natCast, Int.natCast_zero, false_and, and_false, Int.toNat_zero, Int.toNat_one, Int.reduceEq, Nat.reduceSub]
    intro _
    cases h1 : (o == 1) with
    | true => simp only [h1, go_sem, Nat.reduceEqDiff, reduceCtorEq, Nat.reduceAdd, Nat.reduceLeDiff, Bool.false_eq_true, Nat.reduceMul, Bool.true_eq_false, Nat.reduceLT, gR1, gR2, gR3, gR4, gR5, gR6, gR7, gR8, gR9, gR10, gR11, gR12, gR13, gR14, gR15, Int.reduceToNat, Int.cast_ofNat_Int, Int.natCast_one, Int.reduceLT, Int.reduceLE, List.getD_nil, Int.toNat_natCast, Int.natCast_zero, false_and, and_false, Int.toNat_zero, Int.toNat_one, Int.reduceEq, Nat.reduceSub, sInt] at hR ⊢; simp only [go_sem, Nat.reduceEqDiff, reduceCtorEq, Nat.reduceAdd, Nat.reduceLeDiff, Bool.false_eq_true, Nat.reduceMul, Bool.true_eq_false, Nat.reduceLT, gR1, gR2, gR3, gR4, gR5, gR6, gR7, gR8, gR9, gR10, gR11, gR12, gR13, gR14, gR15, Int.reduceToNat, Int.cast_ofNat_Int, Int.natCast_one, Int.reduceLT, Int.reduceLE, List.getD_nil, Int.toNat_natCast, Int.natCast_zero, false_and, and_false, Int.toNat_zero, Int.toNat_one, Int.reduceEq, Nat.reduceSub, ← hR]
    | false =>
    cases h2 : (o == 2) with
    | true => simp only [h1, h2, go_sem, Nat.reduceEqDiff, reduceCtorEq, Nat.reduceAdd, Nat.reduceLeDiff, Bool.false_eq_true, Nat.reduceMul, Bool.true_eq_false, Nat.reduceLT, gR1, gR2, gR3, gR4, gR5, gR6, gR7, gR8, gR9, gR10, gR11, gR12, gR13, gR14, gR15, Int.reduceToNat, Int.cast_ofNat_Int, Int.natCast_one, Int.reduceLT, Int.reduceLE, List.getD_nil, Int.toNat_natCast, Int.natCast_zero, false_and, and_false, Int.toNat_zero, Int.toNat_one, Int.reduceEq, Nat.reduceSub, sBool] at hR ⊢; simp only [go_sem, Nat.reduceEqDiff, reduceCtorEq, Nat.reduceAdd, Nat.reduceLeDiff, Bool.false_eq_true, Nat.reduceMul, Bool.true_eq_false, Nat.reduceLT, gR1, gR2, gR3, gR4, gR5, gR6, gR7, gR8, gR9, gR10, gR11, gR12, gR13, gR14, gR15, Int.reduceToNat, Int.cast_ofNat_Int, Int.natCast_one, Int.reduceLT, Int.reduceLE, List.getD_nil, Int.toNat_natCast, Int.natCast_zero, false_and, and_false, Int.toNat_zero, Int.toNat_one, Int.reduceEq, Nat.reduceSub, ← hR]
    | false =>
    cases h3 : (o == 3) with
    | true =>
      simp only [h1, h2, h3, go_sem, Nat.reduceEqDiff, reduceCtorEq, Nat.reduceAdd, Nat.reduceLeDiff, Bool.false_eq_true, Nat.reduceMul, Bool.true_eq_false, Nat.reduceLT, gR1, gR2, gR3, gR4, gR5, gR6, gR7, gR8, gR9, gR10, gR11, gR12, gR13, gR14, gR15, Int.reduceToNat, Int.cast_ofNat_Int, Int.natCast_one, Int.reduceLT, Int.reduceLE, List.getD_nil, Int.toNat_natCast, Int.natCast_zero, false_and, and_false, Int.toNat_zero, Int.toNat_one, Int.reduceEq, Nat.reduceSub] at hR ⊢
      refine call_by hvar ?_
      simp only [go_sem, Nat.reduceEqDiff, reduceCtorEq, Nat.reduceAdd, Nat.reduceLeDiff, Bool.false_eq_true, Nat.reduceMul, Bool.true_eq_false, Nat.reduceLT, gR1, gR2, gR3, gR4, gR5, gR6, gR7, gR8, gR9, gR10, gR11, gR12, gR13, gR14, gR15, Int.reduceToNat, Int.cast_ofNat_Int, Int.natCast_one, Int.reduceLT, Int.reduceLE, List.getD_nil, Int.toNat_natCast, Int.natCast_zero, false_and, and_false, Int.toNat_zero, Int.toNat_one, Int.reduceEq, Nat.reduceSub]
      cases h : (findVar v.vars s).2 <;> simp only [h, go_sem, Nat.reduceEqDiff, reduceCtorEq, Nat.reduceAdd, Nat.reduceLeDiff, Bool.false_eq_true, Nat.reduceMul, Bool.true_eq_false, Nat.reduceLT, gR1, gR2, gR3, gR4, gR5, gR6, gR7, gR8, gR9, gR10, gR11, gR12, gR13, gR14, gR15, Int.reduceToNat, Int.cast_ofNat_Int, Int.natCast_one, Int.reduceLT, Int.reduceLE, List.getD_nil, Int.toNat_natCast, Int.natCast_zero, false_and, and_false, Int.toNat_zero, Int.toNat_one, Int.reduceEq, Nat.reduceSub] at hR ⊢ <;> simp only [go_sem, Nat.reduceEqDiff, reduceCtorEq, Nat.reduceAdd, Nat.reduceLeDiff, Bool.false_eq_true, Nat.reduceMul, Bool.true_eq_false, Nat.reduceLT, gR1, gR2, gR3, gR4, gR5, gR6, gR7, gR8, gR9, gR10, gR11, gR12, gR13, gR14, gR15, Int.reduceToNat, Int.cast_ofNat_Int, Int.natCast_one, Int.reduceLT, Int.reduceLE, List.getD_nil, Int.toNat_natCast, Int.natCast_zero, false_and, and_false, Int.toNat_zero, Int.toNat_one, Int.reduceEq, Nat.reduceSub, ← hR]
    | false =>
    cases h4 : (o == 4) with
    | true =>
      simp only [h1, h2, h3, h4, go_sem, Nat.reduceEqDiff, reduceCtorEq, Nat.reduceAdd, Nat.reduceLeDiff, Bool.false_eq_true, Nat.reduceMul, Bool.true_eq_false, Nat.reduceLT, gR1, gR2, gR3, gR4, gR5, gR6, gR7, gR8, gR9, gR10, gR11, gR12, gR13, gR14, gR15, Int.reduceToNat, Int.cast_ofNat_Int, Int.natCast_one, Int.reduceLT, Int.reduceLE, List.getD_nil, Int.toNat_natCast, Int.natCast_zero, false_and, and_false, Int.toNat_zero, Int.toNat_one, Int.reduceEq, Nat.reduceSub] at hR ⊢
      refine call_by (happ _) ?_
      simp only [go_sem, Nat.reduceEqDiff, reduceCtorEq, Nat.reduceAdd, Nat.reduceLeDiff, Bool.false_eq_true, Nat.reduceMul, Bool.true_eq_false, Nat.reduceLT, gR1, gR2, gR3, gR4, gR5, gR6, gR7, gR8, gR9, gR10, gR11, gR12, gR13, gR14, gR15, Int.reduceToNat, Int.cast_ofNat_Int, Int.natCast_one, Int.reduceLT, Int.reduceLE, List.getD_nil, Int.toNat_natCast, Int.natCast_zero, false_and, and_false, Int.toNat_zero, Int.toNat_one, Int.reduceEq, Nat.reduceSub, hR]
    | false =>
    cases h5 : (o == 5) with
    | true =>
      simp only [h1, h2, h3, h4, h5, go_sem, Nat.reduceEqDiff, reduceCtorEq, Nat.reduceAdd, Nat.reduceLeDiff, Bool.false_eq_true, Nat.reduceMul, Bool.true_eq_false, Nat.reduceLT, gR1, gR2, gR3, gR4, gR5, gR6, gR7, gR8, gR9, gR10, gR11, gR12, gR13, gR14, gR15, Int.reduceToNat, Int.cast_ofNat_Int, Int.natCast_one, Int.reduceLT, Int.reduceLE, List.getD_nil, Int.toNat_natCast, Int.natCast_zero, false_and, and_false, Int.toNat_zero, Int.toNat_one, Int.reduceEq, Nat.reduceSub] at hR ⊢
      refine call_by (hhol _) ?_
      simp only [go_sem, Nat.reduceEqDiff, reduceCtorEq, Nat.reduceAdd, Nat.reduceLeDiff, Bool.false_eq_true, Nat.reduceMul, Bool.true_eq_false, Nat.reduceLT, gR1, gR2, gR3, gR4, gR5, gR6, gR7, gR8, gR9, gR10, gR11, gR12, gR13, gR14, gR15, Int.reduceToNat, Int.cast_ofNat_Int, Int.natCast_one, Int.reduceLT, Int.reduceLE, List.getD_nil, Int.toNat_natCast, Int.natCast_zero, false_and, and_false, Int.toNat_zero, Int.toNat_one, Int.reduceEq, Nat.reduceSub, hR]
    | false =>
    simp only [h1, h2, h3, h4, h5, go_sem, Nat.reduceEqDiff, reduceCtorEq, Nat.reduceAdd, Nat.reduceLeDiff, Bool.false_eq_true, Nat.reduceMul, Bool.true_eq_false, Nat.reduceLT, gR1, gR2, gR3, gR4, gR5, gR6, gR7, gR8, gR9, gR10, gR11, gR12, gR13, gR14, gR15, Int.reduceToNat, Int.cast_ofNat_Int, Int.natCast_one, Int.reduceLT, Int.reduceLE, List.getD_nil, Int.toNat_natCast, Int.natCast_zero, false_and, and_false, Int.toNat_zero, Int.toNat_one, Int.reduceEq, Nat.reduceSub] at hR ⊢
    refine call_by (hop _ (by rw [List.length_map]; exact hp.top.1)) ?_
    simp only [go_sem, Nat.reduceEqDiff, reduceCtorEq, Nat.reduceAdd, Nat.reduceLeDiff, Bool.false_eq_true, Nat.reduceMul, Bool.true_eq_false, Nat.reduceLT, gR1, gR2, gR3, gR4, gR5, gR6, gR7, gR8, gR9, gR10, gR11, gR12, gR13, gR14, gR15, Int.reduceToNat, Int.cast_ofNat_Int, Int.natCast_one, Int.reduceLT, Int.reduceLE, List.getD_nil, Int.toNat_natCast, Int.natCast_zero, false_and, and_false, Int.toNat_zero, Int.toNat_one, Int.reduceEq, Nat.reduceSub, hR]
theorem r09_Of_ev (v : SEnv) (p : Pred) : E.C r09_Of [.agg v.cells, .agg p.cells] (two (OfS v p)) := by
  have hc := r07_Check_ev Z p
  have ho := fun h => r09_of_ev Z v p h
  refine Z.r09_Of _ _ ⟨Nat.le_of_ble_eq_true rfl, ?_⟩
  generalize hR : OfS v p = R
  unfold OfS at hR
  unfold two at *
  rw [SEnv.cells] at *
  have key : p.checkE = 0 → Arity p := fun h => arity_of (formE_of_check h)
  rw [Pred.cells_eq] at *
  simp only [fn_r09_Of, go_sem, Nat.reduceEqDiff, reduceCtorEq, Nat.reduceAdd, Nat.reduceLeDiff, Bool.false_eq_true, Nat.reduceMul, Bool.true_eq_false, Nat.reduceLT, gR1, gR2, gR3, gR4, gR5, gR6, gR7, gR8, gR9, gR10, gR11, gR12, gR13, gR14, gR15, Int.reduceToNat, Int.cast_ofNat_Int, Int.natCast_one, Int.reduceLT, Int.reduceLE, List.getD_nil, Int.toNat_natCast, Int.natCast_zero, false_and, and_false, Int.toNat_zero, Int.toNat_one, Int.reduceEq, Nat.reduceSub]
  refine call_by hc ?_
  simp only [go_sem, Nat.reduceEqDiff, reduceCtorEq, Nat.reduceAdd, Nat.reduceLeDiff, Bool.false_eq_true, Nat.reduceMul, Bool.true_eq_false, Nat.reduceLT, gR1, gR2, gR3, gR4, gR5, gR6, gR7, gR8, gR9, gR10, gR11, gR12, gR13, gR14, gR15, Int.reduceToNat, Int.cast_ofNat_Int, Int.natCast_one, Int.reduceLT, Int.reduceLE, List.getD_nil, Int.toNat_natCast, Int.natCast_zero, false_and, and_false, Int.toNat_zero, Int.toNat_one, Int.reduceEq, Nat.reduceSub]
  cases h1 : (p.checkE != 0) with
  | true => simp only [h1, go_sem, Nat.reduceEqDiff, reduceCtorEq, Nat.reduceAdd, Nat.reduceLeDiff, Bool.false_eq_true, Nat.reduceMul, Bool.true_eq_false, Nat.reduceLT, gR1, gR2, gR3, gR4, gR5, gR6, gR7, gR8, gR9, gR10, gR11, gR12, gR13, gR14, gR15, Int.reduceToNat, Int.cast_ofNat_Int, Int.natCast_one, Int.reduceLT, Int.reduceLE, List.getD_nil, Int.toNat_natCast, Int.natCast_zero, false_and, and_false, Int.toNat_zero, Int.toNat_one, Int.reduceEq, Nat.reduceSub] at hR ⊢; simp only [go_sem, Nat.reduceEqDiff, reduceCtorEq, Nat.reduceAdd, Nat.reduceLeDiff, Bool.false_eq_true, Nat.reduceMul, Bool.true_eq_false, Nat.reduceLT, gR1, gR2, gR3, gR4, gR5, gR6, gR7, gR8, gR9, gR10, gR11, gR12, gR13, gR14, gR15, Int.reduceToNat, Int.cast_ofNat_Int, Int.natCast_one, Int.reduceLT, Int.reduceLE, List.getD_nil, Int.toNat_natCast, Int.natCast_zero, false_and, and_false, Int.toNat_zero, Int.toNat_one, Int.reduceEq, Nat.reduceSub, ← hR]
  | false =>
    simp only [h1, go_sem, Nat.reduceEqDiff, reduceCtorEq, Nat.reduceAdd, Nat.reduceLeDiff, Bool.false_eq_true, Nat.reduceMul, Bool.true_eq_false, Nat.reduceLT, gR1, gR2, gR3, gR4, gR5, gR6, gR7, gR8, gR9, gR10, gR11, gR12, gR13, gR14, gR15, Int.reduceToNat, Int.cast_ofNat_Int, Int.natCast_one, Int.reduceLT, Int.reduceLE, List.getD_nil, Int.toNat_natCast, Int.natCast_zero, false_and, and_false, Int.toNat_zero, Int.toNat_one, Int.reduceEq, Nat.reduceSub] at hR ⊢
    refine call_by (ho (key (by simpa using h1))) ?_
    simp only [go_sem, Nat.reduceEqDiff, reduceCtorEq, Nat.reduceAdd, Nat.reduceLeDiff, Bool.false_eq_true, Nat.reduceMul, Bool.true_eq_false, Nat.reduceLT, gR1, gR2, gR3, gR4, gR5, gR6, gR7, gR8, gR9, gR10, gR11, gR12, gR13, gR14, gR15, Int.reduceToNat, Int.cast_ofNat_Int, Int.natCast_one, Int.reduceLT, Int.reduceLE, List.getD_nil, Int.toNat_natCast, Int.natCast_zero, false_and, and_false, Int.toNat_zero, Int.toNat_one, Int.reduceEq, Nat.reduceSub, hR]
theorem r09_Bool_ev (v : SEnv) (p : Pred) : E.C r09_Bool [.agg v.cells, .agg p.cells] (.one (.int .i64 (BoolS v p))) := by
  have h0 := r09_Zero_ev Z p
  have h1 := r09_Of_ev Z v p
  refine Z.r09_Bool _ _ ⟨Nat.le_of_ble_eq_true rfl, ?_⟩
  generalize hR : BoolS v p = R
  unfold BoolS at hR
  unfold two at *
  rw [SEnv.cells] at *
  rw [Pred.cells_eq] at *
  simp only [fn_r09_Bool, go_sem, Nat.reduceEqDiff, reduceCtorEq, Nat.reduceAdd, Nat.reduceLeDiff, Bool.false_eq_true, Nat.reduceMul, Bool.true_eq_false, Nat.reduceLT, gR1, gR2, gR3, gR4, gR5, gR6, gR7, gR8, gR9, gR10, gR11, gR12, gR13, gR14, gR15, Int.reduceToNat, Int.cast_ofNat_Int, Int.natCast_one, Int.reduceLT, Int.reduceLE, List.getD_nil, Int.toNat_natCast, Int.natCast_zero, false_and, and_false, Int.toNat_zero, Int.toNat_one, Int.reduceEq, Nat.reduceSub]
  refine call_by h0 ?_
  cases c0 : p.same zeroP with
  | true => simp only [c0, go_sem, Nat.reduceEqDiff, reduceCtorEq, Nat.reduceAdd, Nat.reduceLeDiff, Bool.false_eq_true, Nat.reduceMul, Bool.true_eq_false, Nat.reduceLT, gR1, gR2, gR3, gR4, gR5, gR6, gR7, gR8, gR9, gR10, gR11, gR12, gR13, gR14, gR15, Int.reduceToNat, Int.cast_ofNat_Int, Int.natCast_one, Int.reduceLT, Int.reduceLE, List.getD_nil, Int.toNat_natCast, Int.natCast_zero, false_and, and_false, Int.toNat_zero, Int.toNat_one, Int.reduceEq, Nat.reduceSub] at hR ⊢; simp only [go_sem, Nat.reduceEqDiff, reduceCtorEq, Nat.reduceAdd, Nat.reduceLeDiff, Bool.false_eq_true, Nat.reduceMul, Bool.true_eq_false, Nat.reduceLT, gR1, gR2, gR3, gR4, gR5, gR6, gR7, gR8, gR9, gR10, gR11, gR12, gR13, gR14, gR15, Int.reduceToNat, Int.cast_ofNat_Int, Int.natCast_one, Int.reduceLT, Int.reduceLE, List.getD_nil, Int.toNat_natCast, Int.natCast_zero, false_and, and_false, Int.toNat_zero, Int.toNat_one, Int.reduceEq, Nat.reduceSub, ← hR]
  | false =>
  simp only [c0, go_sem, Nat.reduceEqDiff, reduceCtorEq, Nat.reduceAdd, Nat.reduceLeDiff, Bool.false_eq_true, Nat.reduceMul, Bool.true_eq_false, Nat.reduceLT, gR1, gR2, gR3, gR4, gR5, gR6, gR7, gR8, gR9, gR10, gR11, gR12, gR13, gR14, gR15, Int.reduceToNat, Int.cast_ofNat_Int, Int.natCast_one, Int.reduceLT, Int.reduceLE, List.getD_nil, Int.toNat_natCast, Int.natCast_zero, false_and, and_false, Int.toNat_zero, Int.toNat_one, Int.reduceEq, Nat.reduceSub] at hR ⊢
  refine call_by h1 ?_
  simp only [sBool] at hR
  simp only [go_sem, Nat.reduceEqDiff, reduceCtorEq, Nat.reduceAdd, Nat.reduceLeDiff, Bool.false_eq_true, Nat.reduceMul, Bool.true_eq_false, Nat.reduceLT, gR1, gR2, gR3, gR4, gR5, gR6, gR7, gR8, gR9, gR10, gR11, gR12, gR13, gR14, gR15, Int.reduceToNat, Int.cast_ofNat_Int, Int.natCast_one, Int.reduceLT, Int.reduceLE, List.getD_nil, Int.toNat_natCast, Int.natCast_zero, false_and, and_false, Int.toNat_zero, Int.toNat_one, Int.reduceEq, Nat.reduceSub]
  by_cases c1 : (OfS v p).2 = 0
  · have : ((OfS v p).2 != 0) = false := by simp [c1]
    have c2 : ((OfS v p).2 == 0) = true := by simp [c1]
    simp only [this, c2, go_sem, Nat.reduceEqDiff, reduceCtorEq, Nat.reduceAdd, Nat.reduceLeDiff, Bool.false_eq_true, Nat.reduceMul, Bool.true_eq_false, Nat.reduceLT, gR1, gR2, gR3, gR4, gR5, gR6, gR7, gR8, gR9, gR10, gR11, gR12, gR13, gR14, gR15, Int.reduceToNat, Int.cast_ofNat_Int, Int.natCast_one, Int.reduceLT, Int.reduceLE, List.getD_nil, Int.toNat_natCast, Int.natCast_zero, false_and, and_false, Int.toNat_zero, Int.toNat_one, Int.reduceEq, Nat.reduceSub] at hR ⊢
    cases c3 : ((OfS v p).1 == [66, 111, 111, 108]) <;> simp only [c3, go_sem, Nat.reduceEqDiff, reduceCtorEq, Nat.reduceAdd, Nat.reduceLeDiff, Bool.false_eq_true, Nat.reduceMul, Bool.true_eq_false, Nat.reduceLT, gR1, gR2, gR3, gR4, gR5, gR6, gR7, gR8, gR9, gR10, gR11, gR12, gR13, gR14, gR15, Int.reduceToNat, Int.cast_ofNat_Int, Int.natCast_one, Int.reduceLT, Int.reduceLE, List.getD_nil, Int.toNat_natCast, Int.natCast_zero, false_and, and_false, Int.toNat_zero, Int.toNat_one, Int.reduceEq, Nat.reduceSub] at hR ⊢ <;> simp only [← hR, c1]
  · have : ((OfS v p).2 != 0) = true := by simp [c1]
    have c2 : ((OfS v p).2 == 0) = false := by simp [c1]
    simp only [this, c2, go_sem, Nat.reduceEqDiff, reduceCtorEq, Nat.reduceAdd, Nat.reduceLeDiff, Bool.false_eq_true, Nat.reduceMul, Bool.true_eq_false, Nat.reduceLT, gR1, gR2, gR3, gR4, gR5, gR6, gR7, gR8, gR9, gR10, gR11, gR12, gR13, gR14, gR15, Int.reduceToNat, Int.cast_ofNat_Int, Int.natCast_one, Int.reduceLT, Int.reduceLE, List.getD_nil, Int.toNat_natCast, Int.natCast_zero, false_and, and_false, Int.toNat_zero, Int.toNat_one, Int.reduceEq, Nat.reduceSub] at hR ⊢
    exact hR
theorem sorting_Bool_ev (v : SEnv) (p : Pred) (hOf : E.C sorting_Of [.agg v.cells, .agg p.cells] (two (OfS v p))) : E.C sorting_Bool [.agg v.cells, .agg p.cells] (.one (.int .i64 (BoolS v p))) := by
  have h0 := pred_Same_ev Z p zeroP
  refine Z.sorting_Bool _ _ ⟨Nat.le_of_ble_eq_true rfl, ?_⟩
  generalize hR : BoolS v p = R
  unfold BoolS at hR
  unfold two at *
  rw [SEnv.cells] at *
  rw [Pred.cells_eq p] at *
  have e0 : Pred.cells zeroP = [.int .i64 0, .str [], .int .i64 0, .lst []] := by rw [Pred.cells_eq]; rfl
  rw [e0] at h0
  simp only [fn_sorting_Bool, go_sem, Nat.reduceEqDiff, reduceCtorEq, Nat.reduceAdd, Nat.reduceLeDiff, Bool.false_eq_true, Nat.reduceMul, Bool.true_eq_false, Nat.reduceLT, gR1, gR2, gR3, gR4, gR5, gR6, gR7, gR8, gR9, gR10, gR11, gR12, gR13, gR14, gR15, Int.reduceToNat, Int.cast_ofNat_Int, Int.natCast_one, Int.reduceLT, Int.reduceLE, List.getD_nil, Int.toNat_natCast, Int.natCast_zero, false_and, and_false, Int.toNat_zero, Int.toNat_one, Int.reduceEq, Nat.reduceSub]
  refine call_by h0 ?_
  cases c0 : p.same zeroP with
  | true => simp only [c0, go_sem, Nat.reduceEqDiff, reduceCtorEq, Nat.reduceAdd, Nat.reduceLeDiff, Bool.false_eq_true, Nat.reduceMul, Bool.true_eq_false, Nat.reduceLT, gR1, gR2, gR3, gR4, gR5, gR6, gR7, gR8, gR9, gR10, gR11, gR12, gR13, gR14, gR15, Int.reduceToNat, Int.cast_ofNat_Int, Int.natCast_one, Int.reduceLT, Int.reduceLE, List.getD_nil, Int.toNat_natCast, Int.natCast_zero, false_and, and_false, Int.toNat_zero, Int.toNat_one, Int.reduceEq, Nat.reduceSub] at hR ⊢; simp only [go_sem, Nat.reduceEqDiff, reduceCtorEq, Nat.reduceAdd, Nat.reduceLeDiff, Bool.false_eq_true, Nat.reduceMul, Bool.true_eq_false, Nat.reduceLT, gR1, gR2, gR3, gR4, gR5, gR6, gR7, gR8, gR9, gR10, gR11, gR12, gR13, gR14, gR15, Int.reduceToNat, Int.cast_ofNat_Int, Int.natCast_one, Int.reduceLT, Int.reduceLE, List.getD_nil, Int.toNat_natCast, Int.natCast_zero, false_and, and_false, Int.toNat_zero, Int.toNat_one, Int.reduceEq, Nat.reduceSub, ← hR]
  | false =>
  simp only [c0, go_sem, Nat.reduceEqDiff, reduceCtorEq, Nat.reduceAdd, Nat.reduceLeDiff, Bool.false_eq_true, Nat.reduceMul, Bool.true_eq_false, Nat.reduceLT, gR1, gR2, gR3, gR4, gR5, gR6, gR7, gR8, gR9, gR10, gR11, gR12, gR13, gR14, gR15, Int.reduceToNat, Int.cast_ofNat_Int, Int.natCast_one, Int.reduceLT, Int.reduceLE, List.getD_nil, Int.toNat_natCast, Int.natCast_zero, false_and, and_false, Int.toNat_zero, Int.toNat_one, Int.reduceEq, Nat.reduceSub] at hR ⊢
  refine call_by hOf ?_
  simp only [sBool] at hR
  simp only [go_sem, Nat.reduceEqDiff, reduceCtorEq, Nat.reduceAdd, Nat.reduceLeDiff, Bool.false_eq_true, Nat.reduceMul, Bool.true_eq_false, Nat.reduceLT, gR1, gR2, gR3, gR4, gR5, gR6, gR7, gR8, gR9, gR10, gR11, gR12, gR13, gR14, gR15, Int.reduceToNat, Int.cast_ofNat_Int, Int.natCast_one, Int.reduceLT, Int.reduceLE, List.getD_nil, Int.toNat_natCast, Int.natCast_zero, false_and, and_false, Int.toNat_zero, Int.toNat_one, Int.reduceEq, Nat.reduceSub]
  cases c1 : ((OfS v p).2 == 0 && !(OfS v p).1 == [66, 111, 111, 108]) <;> simp only [c1, go_sem, Nat.reduceEqDiff, reduceCtorEq, Nat.reduceAdd, Nat.reduceLeDiff, Bool.false_eq_true, Nat.reduceMul, Bool.true_eq_false, Nat.reduceLT, gR1, gR2, gR3, gR4, gR5, gR6, gR7, gR8, gR9, gR10, gR11, gR12, gR13, gR14, gR15, Int.reduceToNat, Int.cast_ofNat_Int, Int.natCast_one, Int.reduceLT, Int.reduceLE, List.getD_nil, Int.toNat_natCast, Int.natCast_zero, false_and, and_false, Int.toNat_zero, Int.toNat_one, Int.reduceEq, Nat.reduceSub] at hR ⊢ <;> simp only [← hR]
end Go.Abs
end
section
set_option linter.unusedSimpArgs false
set_option linter.unusedVariables false
set_option linter.unusedSectionVars false
namespace Go.Abs
theorem tame_of_arity {p : Pred} (h : Arity p) : Tame p := fun q hq => by have := (h q hq).2; unfold Small; omega
theorem check_of_ok {v : SEnv} {x : Pred} (h : ((OfS v x).2 == 0) = true) : x.checkE = 0 := by
  unfold OfS at h
  by_cases hc : (x.checkE != 0) = true
  · rw [if_pos hc] at h; simp at h hc; exact absurd h hc
  · simpa using hc
theorem tame_of_ok {v : SEnv} {s : Str} {x : Pred} (h : ((OfS v x).2 == 0 && (OfS v x).1 == s) = true) : Tame x := by
  rw [Bool.and_eq_true] at h
  exact tame_of_arity (arity_of (formE_of_check (check_of_ok h.1)))
set_option maxRecDepth 100000
variable {E : AEnv} (Z : Sys E)
include Z
theorem sorting_Env_ev (v : SEnv) (hOf : ∀ p, E.C sorting_Of [.agg v.cells, .agg p.cells] (two (OfS v p))) (l : List Pred) : E.C sorting_Env [.agg v.cells, .one (.lst (l.map Pred.cells))] (.tup [.one (.int .i64 (EnvS v 0 l).1), .one (.int .i64 (EnvS v 0 l).2)]) := by
  have hb := fun p => sorting_Bool_ev Z v p (hOf p)
  refine Z.sorting_Env _ _ ⟨Nat.le_of_ble_eq_true rfl, ?_⟩
  generalize hR : EnvS v 0 l = R
  rw [SEnv.cells] at *
  simp only [fn_sorting_Env, go_sem, Nat.reduceEqDiff, reduceCtorEq, Nat.reduceAdd, Nat.reduceLeDiff, Bool.false_eq_true, Nat.reduceMul, Bool.true_eq_false, Nat.reduceLT, gR1, gR2, gR3, gR4, gR5, gR6, gR7, gR8, gR9, gR10, gR11, gR12, gR13, gR14, gR15, Int.reduceToNat, Int.cast_ofNat_Int, Int.natCast_one, Int.reduceLT, Int.reduceLE, List.getD_nil, Int.toNat_natCast, Int.natCast_zero, false_and, and_false, Int.toNat_zero, Int.toNat_one, Int.reduceEq, Nat.reduceSub]
  intro hlen
  refine loop_list l (fun done => ∀ x ∈ done, BoolS v x = 0) (fun done rest => ⟨[(11, .d (.int .i64 done.length)), (10, .d (.int .i64 l.length)), (9, .d (.lst (l.map Pred.cells))), (2, .ptr 2 0)],
    [(2, [.d (.lst (v.vars.map SVar.cells)), .d (.lst (v.syms.map SSym.cells)), .d (.lst (v.holes.map SHole.cells))])], []⟩) ?_ (by simp) ?_ ?_
  · exact Ent_plain (by simp only [go_sem, Nat.reduceEqDiff, reduceCtorEq, Nat.reduceAdd, Nat.reduceLeDiff, Bool.false_eq_true, Nat.reduceMul, Bool.true_eq_false, Nat.reduceLT, gR1, gR2, gR3, gR4, gR5, gR6, gR7, gR8, gR9, gR10, gR11, gR12, gR13, gR14, gR15, Int.reduceToNat, Int.cast_ofNat_Int, Int.natCast_one, Int.reduceLT, Int.reduceLE, List.getD_nil, Int.toNat_natCast, Int.natCast_zero, false_and, and_false, Int.toNat_zero, Int.toNat_one, Int.reduceEq, Nat.reduceSub, Option.isSome_some])
  · intro done x r hl hI
    have hlt := lt_mid hl
    have hw : IntKind.i64.wrap ((done.length : Int) + 1) = ((done.length + 1 : Nat) : Int) := wrap_succ (by omega)
    rw [hl, EnvS_mid hI, Nat.zero_add] at hR
    simp only [fn_sorting_Env_L1, go_sem, Nat.reduceEqDiff, reduceCtorEq, Nat.reduceAdd, Nat.reduceLeDiff, Bool.false_eq_true, Nat.reduceMul, Bool.true_eq_false, Nat.reduceLT, gR1, gR2, gR3, gR4, gR5, gR6, gR7, gR8, gR9, gR10, gR11, gR12, gR13, gR14, gR15, Int.reduceToNat, Int.cast_ofNat_Int, Int.natCast_one, Int.reduceLT, Int.reduceLE, List.getD_nil, Int.toNat_natCast, Int.natCast_zero, false_and, and_false, Int.toNat_zero, Int.toNat_one, Int.reduceEq, Nat.reduceSub, hlt, getD_midP hl]
    refine call_by (hb x) ?_
    simp only [go_sem, Nat.reduceEqDiff, reduceCtorEq, Nat.reduceAdd, Nat.reduceLeDiff, Bool.false_eq_true, Nat.reduceMul, Bool.true_eq_false, Nat.reduceLT, gR1, gR2, gR3, gR4, gR5, gR6, gR7, gR8, gR9, gR10, gR11, gR12, gR13, gR14, gR15, Int.reduceToNat, Int.cast_ofNat_Int, Int.natCast_one, Int.reduceLT, Int.reduceLE, List.getD_nil, Int.toNat_natCast, Int.natCast_zero, false_and, and_false, Int.toNat_zero, Int.toNat_one, Int.reduceEq, Nat.reduceSub]
    cases h1 : (BoolS v x != 0) with
    | true => simp only [h1, go_sem, Nat.reduceEqDiff, reduceCtorEq, Nat.reduceAdd, Nat.reduceLeDiff, Bool.false_eq_true, Nat.reduceMul, Bool.true_eq_false, Nat.reduceLT, gR1, gR2, gR3, gR4, gR5, gR6, gR7, gR8, gR9, gR10, gR11, gR12, gR13, gR14, gR15, Int.reduceToNat, Int.cast_ofNat_Int, Int.natCast_one, Int.reduceLT, Int.reduceLE, List.getD_nil, Int.toNat_natCast, Int.natCast_zero, false_and, and_false, Int.toNat_zero, Int.toNat_one, Int.reduceEq, Nat.reduceSub] at hR ⊢; simp only [← hR, and_self]
    | false =>
      simp only [go_sem, Nat.reduceEqDiff, reduceCtorEq, Nat.reduceAdd, Nat.reduceLeDiff, Bool.false_eq_true, Nat.reduceMul, Bool.true_eq_false, Nat.reduceLT, gR1, gR2, gR3, gR4, gR5, gR6, gR7, gR8, gR9, gR10, gR11, gR12, gR13, gR14, gR15, Int.reduceToNat, Int.cast_ofNat_Int, Int.natCast_one, Int.reduceLT, Int.reduceLE, List.getD_nil, Int.toNat_natCast, Int.natCast_zero, false_and, and_false, Int.toNat_zero, Int.toNat_one, Int.reduceEq, Nat.reduceSub, hw, List.length_append]
      exact ⟨Ent_plain (by simp only [go_sem, Nat.reduceEqDiff, reduceCtorEq, Nat.reduceAdd, Nat.reduceLeDiff, Bool.false_eq_true, Nat.reduceMul, Bool.true_eq_false, Nat.reduceLT, gR1, gR2, gR3, gR4, gR5, gR6, gR7, gR8, gR9, gR10, gR11, gR12, gR13, gR14, gR15, Int.reduceToNat, Int.cast_ofNat_Int, Int.natCast_one, Int.reduceLT, Int.reduceLE, List.getD_nil, Int.toNat_natCast, Int.natCast_zero, false_and, and_false, Int.toNat_zero, Int.toNat_one, Int.reduceEq, Nat.reduceSub, Option.isSome_some]), app_all hI (by simpa using h1)⟩
  · intro hI
    rw [EnvS_all hI] at hR
    simp only [fn_sorting_Env_L1, go_sem, Nat.reduceEqDiff, reduceCtorEq, Nat.reduceAdd, Nat.reduceLeDiff, Bool.false_eq_true, Nat.reduceMul, Bool.true_eq_false, Nat.reduceLT, gR1, gR2, gR3, gR4, gR5, gR6, gR7, gR8, gR9, gR10, gR11, gR12, gR13, gR14, gR15, Int.reduceToNat, Int.cast_ofNat_Int, Int.natCast_one, Int.reduceLT, Int.reduceLE, List.getD_nil, Int.toNat_natCast, Int.natCast_zero, false_and, and_false, Int.toNat_zero, Int.toNat_one, Int.reduceEq, Nat.reduceSub]
    simp only [← hR, and_self]
theorem r09_Env_ev (v : SEnv) (l : List Pred) : E.C r09_Env [.agg v.cells, .one (.lst (l.map Pred.cells))] (.tup [.one (.int .i64 (EnvS v 0 l).1), .one (.int .i64 (EnvS v 0 l).2)]) := by
  have hb := fun p => r09_Bool_ev Z v p
  refine Z.r09_Env _ _ ⟨Nat.le_of_ble_eq_true rfl, ?_⟩
  generalize hR : EnvS v 0 l = R
  rw [SEnv.cells] at *
  simp only [fn_r09_Env, go_sem, Nat.reduceEqDiff, reduceCtorEq, Nat.reduceAdd, Nat.reduceLeDiff, Bool.false_eq_true, Nat.reduceMul, Bool.true_eq_false, Nat.reduceLT, gR1, gR2, gR3, gR4, gR5, gR6, gR7, gR8, gR9, gR10, gR11, gR12, gR13, gR14, gR15, Int.reduceToNat, Int.cast_ofNat_Int, Int.natCast_one, Int.reduceLT, Int.reduceLE, List.getD_nil, Int.toNat_natCast, Int.natCast_zero, false_and, and_false, Int.toNat_zero, Int.toNat_one, Int.reduceEq, Nat.reduceSub]
  refine loop_list l (fun done => ∀ x ∈ done, BoolS v x = 0) (fun done rest => ⟨[(6, .d (.int .i64 done.length)), (1, .d (.lst (l.map Pred.cells))), (2, .ptr 2 0)],
    [(2, [.d (.lst (v.vars.map SVar.cells)), .d (.lst (v.syms.map SSym.cells)), .d (.lst (v.holes.map SHole.cells))])], []⟩) ?_ (by simp) ?_ ?_
  · exact Ent_plain (by simp only [go_sem, Nat.reduceEqDiff, reduceCtorEq, Nat.reduceAdd, Nat.reduceLeDiff, Bool.false_eq_true, Nat.reduceMul, Bool.true_eq_false, Nat.reduceLT, gR1, gR2, gR3, gR4, gR5, gR6, gR7, gR8, gR9, gR10, gR11, gR12, gR13, gR14, gR15, Int.reduceToNat, Int.cast_ofNat_Int, Int.natCast_one, Int.reduceLT, Int.reduceLE, List.getD_nil, Int.toNat_natCast, Int.natCast_zero, false_and, and_false, Int.toNat_zero, Int.toNat_one, Int.reduceEq, Nat.reduceSub, Option.isSome_some])
  · intro done x r hl hI
    have hlt := lt_mid hl
    rw [hl, EnvS_mid hI, Nat.zero_add] at hR
    simp only [fn_r09_Env_L1, go_sem, Nat.reduceEqDiff, reduceCtorEq, Nat.reduceAdd, Nat.reduceLeDiff, Bool.false_eq_true, Nat.reduceMul, Bool.true_eq_false, Nat.reduceLT, gR1, gR2, gR3, gR4, gR5, gR6, gR7, gR8, gR9, gR10, gR11, gR12, gR13, gR14, gR15, Int.reduceToNat, Int.cast_ofNat_Int, Int.natCast_one, Int.reduceLT, Int.reduceLE, List.getD_nil, Int.toNat_natCast, Int.natCast_zero, false_and, and_false, Int.toNat_zero, Int.toNat_one, Int.reduceEq, Nat.reduceSub, hlt, getD_midP hl]
    intro hlen
    have hw : IntKind.i64.wrap ((done.length : Int) + 1) = ((done.length + 1 : Nat) : Int) := wrap_succ (by omega)
    refine call_by (hb x) ?_
    simp only [go_sem, Nat.reduceEqDiff, reduceCtorEq, Nat.reduceAdd, Nat.reduceLeDiff, Bool.false_eq_true, Nat.reduceMul, Bool.true_eq_false, Nat.reduceLT, gR1, gR2, gR3, gR4, gR5, gR6, gR7, gR8, gR9, gR10, gR11, gR12, gR13, gR14, gR15, Int.reduceToNat, Int.cast_ofNat_Int, Int.natCast_one, Int.reduceLT, Int.reduceLE, List.getD_nil, Int.toNat_natCast, Int.natCast_zero, false_and, and_false, Int.toNat_zero, Int.toNat_one, Int.reduceEq, Nat.reduceSub]
    cases h1 : (BoolS v x != 0) with
    | true => simp only [h1, go_sem, Nat.reduceEqDiff, reduceCtorEq, Nat.reduceAdd, Nat.reduceLeDiff, Bool.false_eq_true, Nat.reduceMul, Bool.true_eq_false, Nat.reduceLT, gR1, gR2, gR3, gR4, gR5, gR6, gR7, gR8, gR9, gR10, gR11, gR12, gR13, gR14, gR15, Int.reduceToNat, Int.cast_ofNat_Int, Int.natCast_one, Int.reduceLT, Int.reduceLE, List.getD_nil, Int.toNat_natCast, Int.natCast_zero, false_and, and_false, Int.toNat_zero, Int.toNat_one, Int.reduceEq, Nat.reduceSub] at hR ⊢; simp only [← hR, and_self]
    | false =>
      simp only [go_sem, Nat.reduceEqDiff, reduceCtorEq, Nat.reduceAdd, Nat.reduceLeDiff, Bool.false_eq_true, Nat.reduceMul, Bool.true_eq_false, Nat.reduceLT, gR1, gR2, gR3, gR4, gR5, gR6, gR7, gR8, gR9, gR10, gR11, gR12, gR13, gR14, gR15, Int.reduceToNat, Int.cast_ofNat_Int, Int.natCast_one, Int.reduceLT, Int.reduceLE, List.getD_nil, Int.toNat_natCast, Int.natCast_zero, false_and, and_false, Int.toNat_zero, Int.toNat_one, Int.reduceEq, Nat.reduceSub, hw, List.length_append]
      exact ⟨Ent_plain (by simp only [go_sem, Nat.reduceEqDiff, reduceCtorEq, Nat.reduceAdd, Nat.reduceLeDiff, Bool.false_eq_true, Nat.reduceMul, Bool.true_eq_false, Nat.reduceLT, gR1, gR2, gR3, gR4, gR5, gR6, gR7, gR8, gR9, gR10, gR11, gR12, gR13, gR14, gR15, Int.reduceToNat, Int.cast_ofNat_Int, Int.natCast_one, Int.reduceLT, Int.reduceLE, List.getD_nil, Int.toNat_natCast, Int.natCast_zero, false_and, and_false, Int.toNat_zero, Int.toNat_one, Int.reduceEq, Nat.reduceSub, Option.isSome_some]), app_all hI (by simpa using h1)⟩
  · intro hI
    rw [EnvS_all hI] at hR
    simp only [fn_r09_Env_L1, go_sem, Nat.reduceEqDiff, reduceCtorEq, Nat.reduceAdd, Nat.reduceLeDiff, Bool.false_eq_true, Nat.reduceMul, Bool.true_eq_false, Nat.reduceLT, gR1, gR2, gR3, gR4, gR5, gR6, gR7, gR8, gR9, gR10, gR11, gR12, gR13, gR14, gR15, Int.reduceToNat, Int.cast_ofNat_Int, Int.natCast_one, Int.reduceLT, Int.reduceLE, List.getD_nil, Int.toNat_natCast, Int.natCast_zero, false_and, and_false, Int.toNat_zero, Int.toNat_one, Int.reduceEq, Nat.reduceSub]
    intro _
    simp only [← hR, and_self]
theorem sorting_Terms_ev (v : SEnv) (s : Str) (hOf : ∀ p, E.C sorting_Of [.agg v.cells, .agg p.cells] (two (OfS v p))) (l : List Pred) (hl : Small l.length) :
    E.C sorting_Terms [.agg v.cells, .one (.str s), .one (.lst (l.map Pred.cells))] (.one (.lst ((l.filter (okTerm v s)).map Pred.cells))) := by
  have hc := fun p hp => sorting_copied_ev Z p hp
  refine Z.sorting_Terms _ _ ⟨Nat.le_of_ble_eq_true rfl, ?_⟩
  unfold two at hOf
  unfold Small at hl
  rw [SEnv.cells] at *
  simp only [fn_sorting_Terms, go_sem, Nat.reduceEqDiff, reduceCtorEq, Nat.reduceAdd, Nat.reduceLeDiff, Bool.false_eq_true, Nat.reduceMul, Bool.true_eq_false, Nat.reduceLT, gR1, gR2, gR3, gR4, gR5, gR6, gR7, gR8, gR9, gR10, gR11, gR12, gR13, gR14, gR15, Int.reduceToNat, Int.cast_ofNat_Int, Int.natCast_one, Int.reduceLT, Int.reduceLE, List.getD_nil, Int.toNat_natCast, Int.natCast_zero, false_and, and_false, Int.toNat_zero, Int.toNat_one, Int.reduceEq, Nat.reduceSub]
  intro hlen
  refine loop_list l (fun _ => True) (fun done rest => ⟨[(14, .d (.int .i64 done.length)), (13, .d (.int .i64 l.length)), (12, .d (.lst (l.map Pred.cells))), (3, .ptr 3 0), (1, .d (.str s)), (7, .own 7 4 ((done.filter (okTerm v s)).map Pred.cells))],
    [(3, [.d (.lst (v.vars.map SVar.cells)), .d (.lst (v.syms.map SSym.cells)), .d (.lst (v.holes.map SHole.cells))])], [(7, true)]⟩) ?_ trivial ?_ ?_
  · exact Ent_conv 7 7 4 [] [(7, 7)] rfl (by simp) rfl (by simp only [Ent0, go_sem, Nat.reduceEqDiff, reduceCtorEq, Nat.reduceAdd, Nat.reduceLeDiff, Bool.false_eq_true, Nat.reduceMul, Bool.true_eq_false, Nat.reduceLT, gR1, gR2, gR3, gR4, gR5, gR6, gR7, gR8, gR9, gR10, gR11, gR12, gR13, gR14, gR15, Int.reduceToNat, Int.cast_ofNat_Int, Int.natCast_one, Int.reduceLT, Int.reduceLE, List.getD_nil, Int.toNat_natCast, Int.natCast_zero, false_and, and_false, Int.toNat_zero, Int.toNat_one, Int.reduceEq, Nat.reduceSub, List.contains_nil, Option.isSome_some, List.filter_nil])
  · intro done x r hl' hI
    have hlt := lt_mid hl'
    have hw : IntKind.i64.wrap ((done.length : Int) + 1) = ((done.length + 1 : Nat) : Int) := wrap_succ (by omega)
    have hd : done.length < l.length := by omega
    have hf : (done.filter (okTerm v s)).length ≤ done.length := List.length_filter_le _ _
    have ha1 : ((done.filter (okTerm v s)).length + 1) * 56 ≤ 2 ^ 46 := by omega
    simp only [fn_sorting_Terms_L1, go_sem, Nat.reduceEqDiff, reduceCtorEq, Nat.reduceAdd, Nat.reduceLeDiff, Bool.false_eq_true, Nat.reduceMul, Bool.true_eq_false, Nat.reduceLT, gR1, gR2, gR3, gR4, gR5, gR6, gR7, gR8, gR9, gR10, gR11, gR12, gR13, gR14, gR15, Int.reduceToNat, Int.cast_ofNat_Int, Int.natCast_one, Int.reduceLT, Int.reduceLE, List.getD_nil, Int.toNat_natCast, Int.natCast_zero, false_and, and_false, Int.toNat_zero, Int.toNat_one, Int.reduceEq, Nat.reduceSub, hlt, getD_midP hl']
    refine call_by (hOf x) ?_
    simp only [go_sem, Nat.reduceEqDiff, reduceCtorEq, Nat.reduceAdd, Nat.reduceLeDiff, Bool.false_eq_true, Nat.reduceMul, Bool.true_eq_false, Nat.reduceLT, gR1, gR2, gR3, gR4, gR5, gR6, gR7, gR8, gR9, gR10, gR11, gR12, gR13, gR14, gR15, Int.reduceToNat, Int.cast_ofNat_Int, Int.natCast_one, Int.reduceLT, Int.reduceLE, List.getD_nil, Int.toNat_natCast, Int.natCast_zero, false_and, and_false, Int.toNat_zero, Int.toNat_one, Int.reduceEq, Nat.reduceSub]
    have hk : okTerm v s x = ((OfS v x).2 == 0 && (OfS v x).1 == s) := rfl
    cases h1 : ((OfS v x).2 == 0 && (OfS v x).1 == s) with
    | true =>
      rw [h1] at hk
      simp only [go_sem, Nat.reduceEqDiff, reduceCtorEq, Nat.reduceAdd, Nat.reduceLeDiff, Bool.false_eq_true, Nat.reduceMul, Bool.true_eq_false, Nat.reduceLT, gR1, gR2, gR3, gR4, gR5, gR6, gR7, gR8, gR9, gR10, gR11, gR12, gR13, gR14, gR15, Int.reduceToNat, Int.cast_ofNat_Int, Int.natCast_one, Int.reduceLT, Int.reduceLE, List.getD_nil, Int.toNat_natCast, Int.natCast_zero, false_and, and_false, Int.toNat_zero, Int.toNat_one, Int.reduceEq, Nat.reduceSub]
      refine call_by (hc x (tame_of_ok h1)) ?_
      simp only [go_sem, Nat.reduceEqDiff, reduceCtorEq, Nat.reduceAdd, Nat.reduceLeDiff, Bool.false_eq_true, Nat.reduceMul, Bool.true_eq_false, Nat.reduceLT, gR1, gR2, gR3, gR4, gR5, gR6, gR7, gR8, gR9, gR10, gR11, gR12, gR13, gR14, gR15, Int.reduceToNat, Int.cast_ofNat_Int, Int.natCast_one, Int.reduceLT, Int.reduceLE, List.getD_nil, Int.toNat_natCast, Int.natCast_zero, false_and, and_false, Int.toNat_zero, Int.toNat_one, Int.reduceEq, Nat.reduceSub, hw, List.length_append, Pred.lens_true, List.length_map]
      refine ⟨⟨by simp [Pred.cells_length], ha1, by omega⟩, Ent_own [(7, 35)] ?_⟩
      simp only [go_sem, Nat.reduceEqDiff, reduceCtorEq, Nat.reduceAdd, Nat.reduceLeDiff, Bool.false_eq_true, Nat.reduceMul, Bool.true_eq_false, Nat.reduceLT, gR1, gR2, gR3, gR4, gR5, gR6, gR7, gR8, gR9, gR10, gR11, gR12, gR13, gR14, gR15, Int.reduceToNat, Int.cast_ofNat_Int, Int.natCast_one, Int.reduceLT, Int.reduceLE, List.getD_nil, Int.toNat_natCast, Int.natCast_zero, false_and, and_false, Int.toNat_zero, Int.toNat_one, Int.reduceEq, Nat.reduceSub, List.contains_nil, Option.isSome_some, List.filter_append, List.filter_cons, hk, List.filter_nil, List.map_append]
    | false =>
      rw [h1] at hk
      simp only [go_sem, Nat.reduceEqDiff, reduceCtorEq, Nat.reduceAdd, Nat.reduceLeDiff, Bool.false_eq_true, Nat.reduceMul, Bool.true_eq_false, Nat.reduceLT, gR1, gR2, gR3, gR4, gR5, gR6, gR7, gR8, gR9, gR10, gR11, gR12, gR13, gR14, gR15, Int.reduceToNat, Int.cast_ofNat_Int, Int.natCast_one, Int.reduceLT, Int.reduceLE, List.getD_nil, Int.toNat_natCast, Int.natCast_zero, false_and, and_false, Int.toNat_zero, Int.toNat_one, Int.reduceEq, Nat.reduceSub, hw, List.length_append]
      refine Ent_own [(7, 7)] ?_
      simp only [go_sem, Nat.reduceEqDiff, reduceCtorEq, Nat.reduceAdd, Nat.reduceLeDiff, Bool.false_eq_true, Nat.reduceMul, Bool.true_eq_false, Nat.reduceLT, gR1, gR2, gR3, gR4, gR5, gR6, gR7, gR8, gR9, gR10, gR11, gR12, gR13, gR14, gR15, Int.reduceToNat, Int.cast_ofNat_Int, Int.natCast_one, Int.reduceLT, Int.reduceLE, List.getD_nil, Int.toNat_natCast, Int.natCast_zero, false_and, and_false, Int.toNat_zero, Int.toNat_one, Int.reduceEq, Nat.reduceSub, List.contains_nil, Option.isSome_some, List.filter_append, List.filter_cons, hk, List.filter_nil, List.map_append]
  · intro _
    simp only [fn_sorting_Terms_L1, go_sem, Nat.reduceEqDiff, reduceCtorEq, Nat.reduceAdd, Nat.reduceLeDiff, Bool.false_eq_true, Nat.reduceMul, Bool.true_eq_false, Nat.reduceLT, gR1, gR2, gR3, gR4, gR5, gR6, gR7, gR8, gR9, gR10, gR11, gR12, gR13, gR14, gR15, Int.reduceToNat, Int.cast_ofNat_Int, Int.natCast_one, Int.reduceLT, Int.reduceLE, List.getD_nil, Int.toNat_natCast, Int.natCast_zero, false_and, and_false, Int.toNat_zero, Int.toNat_one, Int.reduceEq, Nat.reduceSub]
theorem r09_Terms_ev (v : SEnv) (s : Str) (l : List Pred) (hl : Small l.length) :
    E.C r09_Terms [.agg v.cells, .one (.str s), .one (.lst (l.map Pred.cells))] (.one (.lst ((l.filter (okTerm v s)).map Pred.cells))) := by
  have hOf := fun p => r09_Of_ev Z v p
  refine Z.r09_Terms _ _ ⟨Nat.le_of_ble_eq_true rfl, ?_⟩
  unfold two at hOf
  unfold Small at hl
  rw [SEnv.cells] at *
  simp only [fn_r09_Terms, go_sem, Nat.reduceEqDiff, reduceCtorEq, Nat.reduceAdd, Nat.reduceLeDiff, Bool.false_eq_true, Nat.reduceMul, Bool.true_eq_false, Nat.reduceLT, gR1, gR2, gR3, gR4, gR5, gR6, gR7, gR8, gR9, gR10, gR11, gR12, gR13, gR14, gR15, Int.reduceToNat, Int.cast_ofNat_Int, Int.natCast_one, Int.reduceLT, Int.reduceLE, List.getD_nil, Int.toNat_natCast, Int.natCast_zero, false_and, and_false, Int.toNat_zero, Int.toNat_one, Int.reduceEq, Nat.reduceSub]
  refine loop_list l (fun _ => True) (fun done rest => ⟨[(8, .d (.int .i64 done.length)), (2, .d (.lst (l.map Pred.cells))), (3, .ptr 3 0), (1, .d (.str s)), (7, .own 7 4 ((done.filter (okTerm v s)).map Pred.cells))],
    [(3, [.d (.lst (v.vars.map SVar.cells)), .d (.lst (v.syms.map SSym.cells)), .d (.lst (v.holes.map SHole.cells))])], [(7, true)]⟩) ?_ trivial ?_ ?_
  · exact Ent_conv 7 7 4 [] [(7, 7)] rfl (by simp) rfl (by simp only [Ent0, go_sem, Nat.reduceEqDiff, reduceCtorEq, Nat.reduceAdd, Nat.reduceLeDiff, Bool.false_eq_true, Nat.reduceMul, Bool.true_eq_false, Nat.reduceLT, gR1, gR2, gR3, gR4, gR5, gR6, gR7, gR8, gR9, gR10, gR11, gR12, gR13, gR14, gR15, Int.reduceToNat, Int.cast_ofNat_Int, Int.natCast_one, Int.reduceLT, Int.reduceLE, List.getD_nil, Int.toNat_natCast, Int.natCast_zero, false_and, and_false, Int.toNat_zero, Int.toNat_one, Int.reduceEq, Nat.reduceSub, List.contains_nil, Option.isSome_some, List.filter_nil])
  · intro done x r hl' hI
    have hlt := lt_mid hl'
    have hd : done.length < l.length := by omega
    have hw : IntKind.i64.wrap ((done.length : Int) + 1) = ((done.length + 1 : Nat) : Int) := wrap_succ (by omega)
    have hf : (done.filter (okTerm v s)).length ≤ done.length := List.length_filter_le _ _
    have ha1 : ((done.filter (okTerm v s)).length + 1) * 56 ≤ 2 ^ 46 := by omega
    simp only [fn_r09_Terms_L1, go_sem, Nat.reduceEqDiff, reduceCtorEq, Nat.reduceAdd, Nat.reduceLeDiff, Bool.false_eq_true, Nat.reduceMul, Bool.true_eq_false, Nat.reduceLT, gR1, gR2, gR3, gR4, gR5, gR6, gR7, gR8, gR9, gR10, gR11, gR12, gR13, gR14, gR15, Int.reduceToNat, Int.cast_ofNat_Int, Int.natCast_one, Int.reduceLT, Int.reduceLE, List.getD_nil, Int.toNat_natCast, Int.natCast_zero, false_and, and_false, Int.toNat_zero, Int.toNat_one, Int.reduceEq, Nat.reduceSub, hlt, getD_midP hl']
    intro _
    refine call_by (hOf x) ?_
    simp only [go_sem, Nat.reduceEqDiff, reduceCtorEq, Nat.reduceAdd, Nat.reduceLeDiff, Bool.false_eq_true, Nat.reduceMul, Bool.true_eq_false, Nat.reduceLT, gR1, gR2, gR3, gR4, gR5, gR6, gR7, gR8, gR9, gR10, gR11, gR12, gR13, gR14, gR15, Int.reduceToNat, Int.cast_ofNat_Int, Int.natCast_one, Int.reduceLT, Int.reduceLE, List.getD_nil, Int.toNat_natCast, Int.natCast_zero, false_and, and_false, Int.toNat_zero, Int.toNat_one, Int.reduceEq, Nat.reduceSub]
    have hk : okTerm v s x = ((OfS v x).2 == 0 && (OfS v x).1 == s) := rfl
    cases h1 : ((OfS v x).2 == 0 && (OfS v x).1 == s) with
    | true =>
      rw [h1] at hk
      simp only [go_sem, Nat.reduceEqDiff, reduceCtorEq, Nat.reduceAdd, Nat.reduceLeDiff, Bool.false_eq_true, Nat.reduceMul, Bool.true_eq_false, Nat.reduceLT, gR1, gR2, gR3, gR4, gR5, gR6, gR7, gR8, gR9, gR10, gR11, gR12, gR13, gR14, gR15, Int.reduceToNat, Int.cast_ofNat_Int, Int.natCast_one, Int.reduceLT, Int.reduceLE, List.getD_nil, Int.toNat_natCast, Int.natCast_zero, false_and, and_false, Int.toNat_zero, Int.toNat_one, Int.reduceEq, Nat.reduceSub, hlt, getD_midP hl']
      simp only [go_sem, Nat.reduceEqDiff, reduceCtorEq, Nat.reduceAdd, Nat.reduceLeDiff, Bool.false_eq_true, Nat.reduceMul, Bool.true_eq_false, Nat.reduceLT, gR1, gR2, gR3, gR4, gR5, gR6, gR7, gR8, gR9, gR10, gR11, gR12, gR13, gR14, gR15, Int.reduceToNat, Int.cast_ofNat_Int, Int.natCast_one, Int.reduceLT, Int.reduceLE, List.getD_nil, Int.toNat_natCast, Int.natCast_zero, false_and, and_false, Int.toNat_zero, Int.toNat_one, Int.reduceEq, Nat.reduceSub, hw, List.length_append, Pred.lens_true, List.length_map]
      refine ⟨⟨by simp [Pred.cells_length], ha1, by omega⟩, Ent_own [(7, 39)] ?_⟩
      simp only [go_sem, Nat.reduceEqDiff, reduceCtorEq, Nat.reduceAdd, Nat.reduceLeDiff, Bool.false_eq_true, Nat.reduceMul, Bool.true_eq_false, Nat.reduceLT, gR1, gR2, gR3, gR4, gR5, gR6, gR7, gR8, gR9, gR10, gR11, gR12, gR13, gR14, gR15, Int.reduceToNat, Int.cast_ofNat_Int, Int.natCast_one, Int.reduceLT, Int.reduceLE, List.getD_nil, Int.toNat_natCast, Int.natCast_zero, false_and, and_false, Int.toNat_zero, Int.toNat_one, Int.reduceEq, Nat.reduceSub, List.contains_nil, Option.isSome_some, List.filter_append, List.filter_cons, hk, List.filter_nil, List.map_append]
    | false =>
      rw [h1] at hk
      simp only [go_sem, Nat.reduceEqDiff, reduceCtorEq, Nat.reduceAdd, Nat.reduceLeDiff, Bool.false_eq_true, Nat.reduceMul, Bool.true_eq_false, Nat.reduceLT, gR1, gR2, gR3, gR4, gR5, gR6, gR7, gR8, gR9, gR10, gR11, gR12, gR13, gR14, gR15, Int.reduceToNat, Int.cast_ofNat_Int, Int.natCast_one, Int.reduceLT, Int.reduceLE, List.getD_nil, Int.toNat_natCast, Int.natCast_zero, false_and, and_false, Int.toNat_zero, Int.toNat_one, Int.reduceEq, Nat.reduceSub, hw, List.length_append]
      refine Ent_own [(7, 7)] ?_
      simp only [go_sem, Nat.reduceEqDiff, reduceCtorEq, Nat.reduceAdd, Nat.reduceLeDiff, Bool.false_eq_true, Nat.reduceMul, Bool.true_eq_false, Nat.reduceLT, gR1, gR2, gR3, gR4, gR5, gR6, gR7, gR8, gR9, gR10, gR11, gR12, gR13, gR14, gR15, Int.reduceToNat, Int.cast_ofNat_Int, Int.natCast_one, Int.reduceLT, Int.reduceLE, List.getD_nil, Int.toNat_natCast, Int.natCast_zero, false_and, and_false, Int.toNat_zero, Int.toNat_one, Int.reduceEq, Nat.reduceSub, List.contains_nil, Option.isSome_some, List.filter_append, List.filter_cons, hk, List.filter_nil, List.map_append]
  · intro _
    simp only [fn_r09_Terms_L1, go_sem, Nat.reduceEqDiff, reduceCtorEq, Nat.reduceAdd, Nat.reduceLeDiff, Bool.false_eq_true, Nat.reduceMul, Bool.true_eq_false, Nat.reduceLT, gR1, gR2, gR3, gR4, gR5, gR6, gR7, gR8, gR9, gR10, gR11, gR12, gR13, gR14, gR15, Int.reduceToNat, Int.cast_ofNat_Int, Int.natCast_one, Int.reduceLT, Int.reduceLE, List.getD_nil, Int.toNat_natCast, Int.natCast_zero, false_and, and_false, Int.toNat_zero, Int.toNat_one, Int.reduceEq, Nat.reduceSub, implies_true]
end Go.Abs
end
