/-
  CONTRACTS: what the functions answer, as plain Lean functions, each by evaluation at the abstract machine.
-/
import Derived.Laws.AppendOwn
import Derived.Lib.OwnBridge
import Derived.Sort.OwnSorted
import Derived.Lib.SlicesCompact
import Derived.Sort.Walk0
import Derived.Test.YtaipocfddbaakaaDoorCon1
section
set_option linter.unusedSimpArgs false
set_option linter.unusedVariables false
set_option linter.unusedSectionVars false
namespace Go.Abs
/-! ## predicates that are put together: the reference -/
theorem falseP_cells : Pred.cells falseP = [.int .i64 2, .str [], .int .i64 0, .lst []] := by rw [Pred.cells_eq]; rfl
theorem trueP_cells : Pred.cells trueP = [.int .i64 2, .str [], .int .i64 1, .lst []] := by rw [Pred.cells_eq]; rfl
theorem zeroP_cells : Pred.cells zeroP = [.int .i64 0, .str [], .int .i64 0, .lst []] := by rw [Pred.cells_eq]; rfl
theorem void_false : voidP falseP = false := by decide +kernel
theorem isFalse_eq (p : Pred) : isFalse p = p.same falseP := by
  unfold isFalse
  cases h : p.same falseP with
  | false => simp
  | true => rw [(Pred.same_iff _ _).1 h, void_false]; rfl
theorem void_and (a b : Pred) : voidP (.mk 15 [] 0 [a, b]) = false := by
  unfold voidP zeroP trueP
  rw [Pred.same_eq, Pred.same_eq]; simp
theorem andGo_void (l : List Pred) : voidP (andGo l).1 = !(andGo l).2 := by
  have key : ∀ (l : List Pred) (x : Pred × Bool), voidP x.1 = !x.2 → voidP (l.foldl andStp x).1 = !(l.foldl andStp x).2 := by
    intro l
    induction l with
    | nil => intro x h; exact h
    | cons p l ih =>
      intro x h
      rw [List.foldl_cons]
      refine ih _ ?_
      unfold andStp
      split
      · exact h
      · rename_i hv
        split
        · exact void_and _ _
        · simpa using hv
  exact key l (trueP, false) (by decide +kernel)
/-- variables replaced at once -/
def subAll (names : List Str) (by' : List Pred) : Pred → Pred
  | .mk o s n ks => if o == 3 && (decide (findIx s 0 names ≥ 0) && decide (findIx s 0 names < by'.length)) then by'.getD (findIx s 0 names).toNat zeroP else .mk o s n (subs ks)
where
  subs : List Pred → List Pred
  | [] => []
  | k :: ks => subAll names by' k :: subs ks
theorem subAll_eq (names : List Str) (by' : List Pred) (o : Int) (s : Str) (n : Int) (ks : List Pred) : subAll names by' (.mk o s n ks) =
    if o == 3 && (decide (findIx s 0 names ≥ 0) && decide (findIx s 0 names < by'.length)) then by'.getD (findIx s 0 names).toNat zeroP else .mk o s n (ks.map (subAll names by')) := by
  rw [subAll]
  have : subAll.subs names by' ks = ks.map (subAll names by') := by
    induction ks with
    | nil => rfl
    | cons k ks ih => rw [subAll.subs, ih]; rfl
  rw [this]
theorem getD_mapP (l : List Pred) (i : Nat) (h : i < l.length) : (l.map Pred.cells).getD i [] = Pred.cells (l.getD i zeroP) := by
  simp [List.getD_eq_getElem?_getD, h]
theorem drop_cells (p : Pred) : List.drop 4 (p.cells.map AV.d) = [] := List.drop_eq_nil_of_le (by simp [Pred.cells_length])
set_option maxRecDepth 100000
variable {E : AEnv} (Z : Sys E)
include Z
theorem r07_True_ev : E.C r07_True [] (.agg (Pred.cells trueP)) := by
  refine Z.r07_True _ _ ⟨Nat.le_of_ble_eq_true rfl, ?_⟩
  rw [trueP_cells]
  simp only [fn_r07_True, go_sem, Nat.reduceEqDiff, reduceCtorEq, Nat.reduceAdd, Nat.reduceLeDiff, Nat.reduceMul, Nat.reduceLT, Int.reduceToNat, Int.reduceLT, Int.reduceLE, Int.reduceEq, Nat.reduceSub]
theorem r07_False_ev : E.C r07_False [] (.agg (Pred.cells falseP)) := by
  refine Z.r07_False _ _ ⟨Nat.le_of_ble_eq_true rfl, ?_⟩
  rw [falseP_cells]
  simp only [fn_r07_False, go_sem, Nat.reduceEqDiff, reduceCtorEq, Nat.reduceAdd, Nat.reduceLeDiff, Nat.reduceMul, Nat.reduceLT, Int.reduceToNat, Int.reduceLT, Int.reduceLE, Int.reduceEq, Nat.reduceSub]
theorem r07_Void_ev (p : Pred) : E.C r07_Void [.agg (Pred.cells p)] (.one (.bool (voidP p))) := by
  have h0 := r07_Same_ev Z p zeroP
  have h1 := r07_Same_ev Z p trueP
  have h2 := r07_True_ev Z
  refine Z.r07_Void _ _ ⟨Nat.le_of_ble_eq_true rfl, ?_⟩
  generalize hR : voidP p = R
  unfold voidP at hR
  rw [Bool.or_comm] at hR
  rw [zeroP_cells] at h0
  rw [trueP_cells] at h1 h2
  rw [Pred.cells_eq p] at *
  simp only [fn_r07_Void, go_sem, Nat.reduceEqDiff, reduceCtorEq, Nat.reduceAdd, Nat.reduceLeDiff, Nat.reduceMul, Nat.reduceLT, Int.reduceToNat, Int.reduceLT, Int.reduceLE, Int.reduceEq, Nat.reduceSub]
  refine call_by h2 ?_
  simp only [go_sem, Nat.reduceEqDiff, reduceCtorEq, Nat.reduceAdd, Nat.reduceLeDiff, Nat.reduceMul, Nat.reduceLT, Int.reduceToNat, Int.reduceLT, Int.reduceLE, Int.reduceEq, Nat.reduceSub]
  refine call_by h1 ?_
  simp only [go_sem, Nat.reduceEqDiff, reduceCtorEq, Nat.reduceAdd, Nat.reduceLeDiff, Nat.reduceMul, Nat.reduceLT, Int.reduceToNat, Int.reduceLT, Int.reduceLE, Int.reduceEq, Nat.reduceSub]
  refine call_gi (fun _ => h0) ?_
  simp only [go_sem, Nat.reduceEqDiff, reduceCtorEq, Nat.reduceAdd, Nat.reduceLeDiff, Nat.reduceMul, Nat.reduceLT, Int.reduceToNat, Int.reduceLT, Int.reduceLE, Int.reduceEq, Nat.reduceSub, hR]
theorem r07_Not_ev (p : Pred) : E.C r07_Not [.agg (Pred.cells p)] (.agg (Pred.cells (notP p))) := by
  have h0 := r07_Void_ev Z p
  have h1 := r07_True_ev Z
  have h2 := r07_False_ev Z
  have h3 := r07_Same_ev Z p falseP
  refine Z.r07_Not _ _ ⟨Nat.le_of_ble_eq_true rfl, ?_⟩
  generalize hR : notP p = R
  unfold notP at hR
  obtain ⟨o, s, n, ks⟩ := p
  rw [Pred.cells_eq (.mk o s n ks)] at *
  rw [trueP_cells] at h1
  rw [falseP_cells] at h2 h3
  simp only [fn_r07_Not, go_sem, Nat.reduceEqDiff, reduceCtorEq, Nat.reduceAdd, Nat.reduceLeDiff, Nat.reduceMul, Nat.reduceLT, Int.reduceToNat, Int.reduceLT, Int.reduceLE, Int.reduceEq, Nat.reduceSub, Pred.op, Pred.name, Pred.n, Pred.kids] at hR h0 h3 ⊢
  intro hlen
  cases c1 : (o == 14 && (ks.length : Int) == 1) with
  | true =>
    simp only [c1, go_sem, Nat.reduceEqDiff, reduceCtorEq, Nat.reduceAdd, Nat.reduceLeDiff, Nat.reduceMul, Nat.reduceLT, Int.reduceToNat, Int.reduceLT, Int.reduceLE, Int.reduceEq, Nat.reduceSub] at hR ⊢
    obtain ⟨k, rfl⟩ : ∃ k, ks = [k] := one_split (by simp at c1; omega)
    subst hR
    simp only [go_sem, Nat.reduceEqDiff, reduceCtorEq, Nat.reduceAdd, Nat.reduceLeDiff, Nat.reduceMul, Nat.reduceLT, Int.reduceToNat, Int.reduceLT, Int.reduceLE, Int.reduceEq, Nat.reduceSub, Pred.cells_eq k]
  | false =>
  simp only [c1, go_sem, Nat.reduceEqDiff, reduceCtorEq, Nat.reduceAdd, Nat.reduceLeDiff, Nat.reduceMul, Nat.reduceLT, Int.reduceToNat, Int.reduceLT, Int.reduceLE, Int.reduceEq, Nat.reduceSub] at hR ⊢
  refine call_by h0 ?_
  cases c2 : voidP (.mk o s n ks) with
  | true =>
    simp only [c2, go_sem, Nat.reduceEqDiff, reduceCtorEq, Nat.reduceAdd, Nat.reduceLeDiff, Nat.reduceMul, Nat.reduceLT, Int.reduceToNat, Int.reduceLT, Int.reduceLE, Int.reduceEq, Nat.reduceSub] at hR ⊢
    refine call_by h2 ?_
    subst hR
    simp only [go_sem, Nat.reduceEqDiff, reduceCtorEq, Nat.reduceAdd, Nat.reduceLeDiff, Nat.reduceMul, Nat.reduceLT, Int.reduceToNat, Int.reduceLT, Int.reduceLE, Int.reduceEq, Nat.reduceSub, falseP_cells]
  | false =>
  simp only [c2, go_sem, Nat.reduceEqDiff, reduceCtorEq, Nat.reduceAdd, Nat.reduceLeDiff, Nat.reduceMul, Nat.reduceLT, Int.reduceToNat, Int.reduceLT, Int.reduceLE, Int.reduceEq, Nat.reduceSub] at hR ⊢
  refine call_by h2 ?_
  simp only [go_sem, Nat.reduceEqDiff, reduceCtorEq, Nat.reduceAdd, Nat.reduceLeDiff, Nat.reduceMul, Nat.reduceLT, Int.reduceToNat, Int.reduceLT, Int.reduceLE, Int.reduceEq, Nat.reduceSub]
  refine call_by h3 ?_
  cases c3 : (Pred.mk o s n ks).same falseP with
  | true =>
    simp only [c3, go_sem, Nat.reduceEqDiff, reduceCtorEq, Nat.reduceAdd, Nat.reduceLeDiff, Nat.reduceMul, Nat.reduceLT, Int.reduceToNat, Int.reduceLT, Int.reduceLE, Int.reduceEq, Nat.reduceSub] at hR ⊢
    refine call_by h1 ?_
    subst hR
    simp only [go_sem, Nat.reduceEqDiff, reduceCtorEq, Nat.reduceAdd, Nat.reduceLeDiff, Nat.reduceMul, Nat.reduceLT, Int.reduceToNat, Int.reduceLT, Int.reduceLE, Int.reduceEq, Nat.reduceSub, trueP_cells]
  | false =>
    simp only [c3, go_sem, Nat.reduceEqDiff, reduceCtorEq, Nat.reduceAdd, Nat.reduceLeDiff, Nat.reduceMul, Nat.reduceLT, Int.reduceToNat, Int.reduceLT, Int.reduceLE, Int.reduceEq, Nat.reduceSub] at hR ⊢
    subst hR
    rw [Pred.cells_eq (.mk 14 [] 0 [.mk o s n ks])]
    simp only [go_sem, Nat.reduceEqDiff, reduceCtorEq, Nat.reduceAdd, Nat.reduceLeDiff, Nat.reduceMul, Nat.reduceLT, Int.reduceToNat, Int.reduceLT, Int.reduceLE, Int.reduceEq, Nat.reduceSub, Pred.op, Pred.name, Pred.n, Pred.kids, Pred.cells_eq (.mk o s n ks)]
theorem r07_And_ev (l : List Pred) : E.C r07_And [.one (.lst (l.map Pred.cells))] (.agg (andP l).cells) := by
  have hv := r07_Void_ev Z
  have hs := r07_Same_ev Z
  have ht := r07_True_ev Z
  have hf := r07_False_ev Z
  refine Z.r07_And _ _ ⟨Nat.le_of_ble_eq_true rfl, ?_⟩
  generalize hR : andP l = R
  unfold andP at hR
  simp only [fn_r07_And, go_sem, Nat.reduceEqDiff, reduceCtorEq, Nat.reduceAdd, Nat.reduceLeDiff, Nat.reduceMul, Nat.reduceLT, Int.reduceToNat, Int.reduceLT, Int.reduceLE, Int.reduceEq, Nat.reduceSub]
  refine call_by ht ?_
  simp only [go_sem, Nat.reduceEqDiff, reduceCtorEq, Nat.reduceAdd, Nat.reduceLeDiff, Nat.reduceMul, Nat.reduceLT, Int.reduceToNat, Int.reduceLT, Int.reduceLE, Int.reduceEq, Nat.reduceSub]
  intro hlen
  refine loop_named fun K' hK => ?_
  refine loop_list l (fun done => ∀ y ∈ done, isFalse y = false) (fun done rest => ⟨[(9, .d (.int .i64 done.length)), (8, .d (.int .i64 l.length)), (7, .d (.lst (l.map Pred.cells))), (3, .ptr 3 0), (2, .ptr 2 0)], [(3, (Pred.cells (andGo done).1).map .d), (2, [.d (.int .i64 0), .d (.str []), .d (.int .i64 0), .full []])], []⟩) ?_ (by simp) ?_ ?_
  · exact Ent_plain (by simp only [go_sem, Nat.reduceEqDiff, reduceCtorEq, Nat.reduceAdd, Nat.reduceLeDiff, Nat.reduceMul, Nat.reduceLT, Int.reduceToNat, Int.reduceLT, Int.reduceLE, Int.reduceEq, Nat.reduceSub, Option.isSome_some, andGo, List.foldl_nil])
  · intro done k r hl hI
    have hlt := lt_mid hl
    have hw : IntKind.i64.wrap ((done.length : Int) + 1) = ((done.length + 1 : Nat) : Int) := wrap_succ (by omega)
    rw [any_mid hl hI] at hR
    have hgv := andGo_void done
    have hgs : andGo (done ++ [k]) = andStp (andGo done) k := andGo_app done k
    simp only [fn_r07_And_L1, go_sem, Nat.reduceEqDiff, reduceCtorEq, Nat.reduceAdd, Nat.reduceLeDiff, Nat.reduceMul, Nat.reduceLT, Int.reduceToNat, Int.reduceLT, Int.reduceLE, Int.reduceEq, Nat.reduceSub, hlt, getD_midP hl]
    refine call_by hf ?_
    simp only [go_sem, Nat.reduceEqDiff, reduceCtorEq, Nat.reduceAdd, Nat.reduceLeDiff, Nat.reduceMul, Nat.reduceLT, Int.reduceToNat, Int.reduceLT, Int.reduceLE, Int.reduceEq, Nat.reduceSub]
    refine call_by (hs k falseP) ?_
    cases c0 : k.same falseP with
    | true =>
      simp only [isFalse_eq, c0, go_sem, Nat.reduceEqDiff, reduceCtorEq, Nat.reduceAdd, Nat.reduceLeDiff, Nat.reduceMul, Nat.reduceLT, Int.reduceToNat, Int.reduceLT, Int.reduceLE, Int.reduceEq, Nat.reduceSub] at hR ⊢
      refine call_by hf ?_
      simp only [go_sem, Nat.reduceEqDiff, reduceCtorEq, Nat.reduceAdd, Nat.reduceLeDiff, Nat.reduceMul, Nat.reduceLT, Int.reduceToNat, Int.reduceLT, Int.reduceLE, Int.reduceEq, Nat.reduceSub, hK, ← hR]
    | false =>
    have hIk : isFalse k = false := by rw [isFalse_eq]; exact c0
    simp only [go_sem, Nat.reduceEqDiff, reduceCtorEq, Nat.reduceAdd, Nat.reduceLeDiff, Nat.reduceMul, Nat.reduceLT, Int.reduceToNat, Int.reduceLT, Int.reduceLE, Int.reduceEq, Nat.reduceSub]
    refine call_by (hv k) ?_
    cases c1 : voidP k with
    | true =>
      have he : andGo (done ++ [k]) = andGo done := by rw [hgs, andStp, c1]; rfl
      simp only [go_sem, Nat.reduceEqDiff, reduceCtorEq, Nat.reduceAdd, Nat.reduceLeDiff, Nat.reduceMul, Nat.reduceLT, Int.reduceToNat, Int.reduceLT, Int.reduceLE, Int.reduceEq, Nat.reduceSub, hw, List.length_append, he]
      exact ⟨Ent_plain (by simp only [go_sem, Nat.reduceEqDiff, reduceCtorEq, Nat.reduceAdd, Nat.reduceLeDiff, Nat.reduceMul, Nat.reduceLT, Int.reduceToNat, Int.reduceLT, Int.reduceLE, Int.reduceEq, Nat.reduceSub, Option.isSome_some]), app_all hI hIk⟩
    | false =>
    simp only [go_sem, Nat.reduceEqDiff, reduceCtorEq, Nat.reduceAdd, Nat.reduceLeDiff, Nat.reduceMul, Nat.reduceLT, Int.reduceToNat, Int.reduceLT, Int.reduceLE, Int.reduceEq, Nat.reduceSub]
    refine call_by (hv (andGo done).1) ?_
    rw [hgv]
    cases c2 : (andGo done).2 with
    | false =>
      have he : andGo (done ++ [k]) = (k, true) := by rw [hgs, andStp, c1, c2]; rfl
      simp only [go_sem, Nat.reduceEqDiff, reduceCtorEq, Nat.reduceAdd, Nat.reduceLeDiff, Nat.reduceMul, Nat.reduceLT, Int.reduceToNat, Int.reduceLT, Int.reduceLE, Int.reduceEq, Nat.reduceSub, hw, List.length_append, he, List.length_map, drop_cells]
      exact ⟨Ent_plain (by simp only [go_sem, Nat.reduceEqDiff, reduceCtorEq, Nat.reduceAdd, Nat.reduceLeDiff, Nat.reduceMul, Nat.reduceLT, Int.reduceToNat, Int.reduceLT, Int.reduceLE, Int.reduceEq, Nat.reduceSub, Option.isSome_some]), app_all hI hIk⟩
    | true =>
      have he : andGo (done ++ [k]) = (.mk 15 [] 0 [(andGo done).1, k], true) := by rw [hgs, andStp, c1, c2]; rfl
      simp only [go_sem, Nat.reduceEqDiff, reduceCtorEq, Nat.reduceAdd, Nat.reduceLeDiff, Nat.reduceMul, Nat.reduceLT, Int.reduceToNat, Int.reduceLT, Int.reduceLE, Int.reduceEq, Nat.reduceSub, hw, List.length_append, he, drop_cells]
      exact ⟨Ent_plain (by simp only [go_sem, Nat.reduceEqDiff, reduceCtorEq, Nat.reduceAdd, Nat.reduceLeDiff, Nat.reduceMul, Nat.reduceLT, Int.reduceToNat, Int.reduceLT, Int.reduceLE, Int.reduceEq, Nat.reduceSub, Option.isSome_some, Pred.cells_eq (.mk 15 [] 0 [(andGo done).1, k]), Pred.op, Pred.name, Pred.n, Pred.kids]), app_all hI hIk⟩
  · intro hI
    rw [any_none hI] at hR
    simp only [fn_r07_And_L1, go_sem, Nat.reduceEqDiff, reduceCtorEq, Nat.reduceAdd, Nat.reduceLeDiff, Nat.reduceMul, Nat.reduceLT, Int.reduceToNat, Int.reduceLT, Int.reduceLE, Int.reduceEq, Nat.reduceSub, hK] at hR ⊢
    simp only [hR]
theorem r07_with_ev (o : Int) (s : Str) (n : Int) (ks l : List Pred) : E.C r07_with [.agg (Pred.cells (.mk o s n ks)), .one (.lst (l.map Pred.cells))] (.agg (Pred.cells (.mk o s n l))) := by
  refine Z.r07_with _ _ ⟨Nat.le_of_ble_eq_true rfl, ?_⟩
  rw [Pred.cells_eq, Pred.cells_eq]
  simp only [fn_r07_with, go_sem, Nat.reduceEqDiff, reduceCtorEq, Nat.reduceAdd, Nat.reduceLeDiff, Nat.reduceMul, Nat.reduceLT, Int.reduceToNat, Int.reduceLT, Int.reduceLE, Int.reduceEq, Nat.reduceSub, Pred.op, Pred.name, Pred.n, Pred.kids]
theorem r07_SubstAll_ev (names : List Str) (by' : List Pred) (p : Pred) (hp : Tame p) : E.C r07_SubstAll [.agg p.cells, .one (.lst (names.map fun k => [.str k])), .one (.lst (by'.map Pred.cells))] (.agg (subAll names by' p).cells) := by
  induction p using Pred.ind with
  | h o s n ks ih =>
  have hk : Small ks.length := hp.top
  unfold Small at hk
  have hfind := r04_Find_ev Z names s
  have hwith := r07_with_ev Z o s n ks (ks.map (subAll names by'))
  refine Z.r07_SubstAll _ _ ⟨Nat.le_of_ble_eq_true rfl, ?_⟩
  generalize hR : subAll names by' (.mk o s n ks) = R
  rw [subAll_eq] at hR
  generalize findIx s 0 names = ix at *
  rw [Pred.cells_eq (.mk o s n ks)] at *
  have hrs : fn_r07_SubstAll.rs = [.c 6 true 4] := rfl
  have tail : ∀ (st : St), (o == 3 && (decide (ix ≥ 0) && decide (ix < by'.length))) = false → getS st.slots 3 = .ptr 3 0 → getS st.slots 6 = .ptr 6 0 → getS st.slots 1 = .d (.lst (names.map fun k => [.str k])) → getS st.slots 2 = .d (.lst (by'.map Pred.cells)) → st.mem = [(6, [.d (.int .i64 0), .d (.str []), .d (.int .i64 0), .full []]), (3, [.d (.int .i64 o), .d (.str s), .d (.int .i64 n), .d (.lst (ks.map Pred.cells))])] → st.tk = [] →
      ∀ N, N = awp E (.seq (.reg [(none, .mv 8 (.c (.full [])))]) (.seq (.seq (.reg [(none, .fa 30 3 (.t 3)), (none, .ld 31 false 1 (.t 30)), (none, .len 32 false (.t 31)), (none, .mv 33 (.c (.d (.int .i64 0))))]) (.block 0 (.loop fn_r07_SubstAll_L1))) (.seq (.reg [(none, .ld 45 true 4 (.t 3)), (none, .mv 46 (.t 8)), (none, .call (some 47) (.c (.d (.clo r07_with []))) [.t 45, .t 46]), (none, .st 4 (.t 6) (.t 47))]) (.ret)))) (retK fn_r07_SubstAll.rs (.agg (Pred.cells R))) → N st := by
    intro st hc e3 e6 e1 e2 em et N hN
    rw [hc] at hR
    obtain ⟨sl, mm, tk⟩ := st
    simp only at e3 e6 e1 e2 em et
    subst em; subst et
    rw [hN]
    simp only [go_sem, Nat.reduceEqDiff, reduceCtorEq, Nat.reduceAdd, Nat.reduceLeDiff, Nat.reduceMul, Nat.reduceLT, Int.reduceToNat, Int.reduceLT, Int.reduceLE, Int.reduceEq, Nat.reduceSub, e3, e6, e1, e2]
    intro hlen
    refine loop_named fun K' hK => ?_
    refine loop_list ks (fun _ => True) (fun done rest => ⟨[(33, .d (.int .i64 done.length)), (32, .d (.int .i64 ks.length)), (31, .d (.lst (ks.map Pred.cells))), (8, .own 8 4 ((done.map (subAll names by')).map Pred.cells)), (1, .d (.lst (names.map fun k => [.str k]))), (2, .d (.lst (by'.map Pred.cells))), (3, .ptr 3 0), (6, .ptr 6 0)], [(6, [.d (.int .i64 0), .d (.str []), .d (.int .i64 0), .full []]), (3, [.d (.int .i64 o), .d (.str s), .d (.int .i64 n), .d (.lst (ks.map Pred.cells))])], [(8, true)]⟩) ?_ trivial ?_ ?_
    · exact Ent_conv 8 8 4 [] [(8, 8)] rfl (by simp) rfl (by simp only [Ent0, go_sem, Nat.reduceEqDiff, reduceCtorEq, Nat.reduceAdd, Nat.reduceLeDiff, Nat.reduceMul, Nat.reduceLT, Int.reduceToNat, Int.reduceLT, Int.reduceLE, Int.reduceEq, Nat.reduceSub, List.contains_nil, Option.isSome_some, e3, e6, e1, e2])
    · intro done k r hl _
      have hk' := ih k (by rw [hl]; simp) (hp.kid (by rw [hl]; simp))
      have hlt := lt_mid hl
      have hw : IntKind.i64.wrap ((done.length : Int) + 1) = ((done.length + 1 : Nat) : Int) := wrap_succ (by omega)
      have ha1 : (done.length + 1) * 56 ≤ 2 ^ 46 := by omega
      simp only [fn_r07_SubstAll_L1, go_sem, Nat.reduceEqDiff, reduceCtorEq, Nat.reduceAdd, Nat.reduceLeDiff, Nat.reduceMul, Nat.reduceLT, Int.reduceToNat, Int.reduceLT, Int.reduceLE, Int.reduceEq, Nat.reduceSub, hlt, getD_midP hl]
      refine call_by hk' ?_
      simp only [go_sem, Nat.reduceEqDiff, reduceCtorEq, Nat.reduceAdd, Nat.reduceLeDiff, Nat.reduceMul, Nat.reduceLT, Int.reduceToNat, Int.reduceLT, Int.reduceLE, Int.reduceEq, Nat.reduceSub, hw, List.length_append, List.length_map, List.map_append, Pred.lens_true]
      refine ⟨⟨by simp [Pred.cells_length], ha1, by omega⟩, Ent_own [(8, 43)] ?_⟩
      simp only [go_sem, Nat.reduceEqDiff, reduceCtorEq, Nat.reduceAdd, Nat.reduceLeDiff, Nat.reduceMul, Nat.reduceLT, Int.reduceToNat, Int.reduceLT, Int.reduceLE, Int.reduceEq, Nat.reduceSub, List.contains_nil, Option.isSome_some]
    · intro _
      simp only [fn_r07_SubstAll_L1, go_sem, Nat.reduceEqDiff, reduceCtorEq, Nat.reduceAdd, Nat.reduceLeDiff, Nat.reduceMul, Nat.reduceLT, Int.reduceToNat, Int.reduceLT, Int.reduceLE, Int.reduceEq, Nat.reduceSub, hK, Pred.op, Pred.name, Pred.n, Pred.kids] at hwith hR ⊢
      refine call_by hwith ?_
      simp only [go_sem, Nat.reduceEqDiff, reduceCtorEq, Nat.reduceAdd, Nat.reduceLeDiff, Nat.reduceMul, Nat.reduceLT, Int.reduceToNat, Int.reduceLT, Int.reduceLE, Int.reduceEq, Nat.reduceSub, hrs, ← hR]
  refine seq_named fun N0 h0 => ?_
  simp only [go_sem, Nat.reduceEqDiff, reduceCtorEq, Nat.reduceAdd, Nat.reduceLeDiff, Nat.reduceMul, Nat.reduceLT, Int.reduceToNat, Int.reduceLT, Int.reduceLE, Int.reduceEq, Nat.reduceSub, Pred.op, Pred.name, Pred.n, Pred.kids]
  rw [h0]
  refine seq_named fun N1 h1 => ?_
  cases c3 : (o == 3) with
  | false =>
    simp only [go_sem, Nat.reduceEqDiff, reduceCtorEq, Nat.reduceAdd, Nat.reduceLeDiff, Nat.reduceMul, Nat.reduceLT, Int.reduceToNat, Int.reduceLT, Int.reduceLE, Int.reduceEq, Nat.reduceSub, c3]
    exact tail _ (by rw [c3]; rfl) rfl rfl rfl rfl rfl rfl N1 h1
  | true =>
    simp only [go_sem, Nat.reduceEqDiff, reduceCtorEq, Nat.reduceAdd, Nat.reduceLeDiff, Nat.reduceMul, Nat.reduceLT, Int.reduceToNat, Int.reduceLT, Int.reduceLE, Int.reduceEq, Nat.reduceSub, c3]
    refine call_by hfind ?_
    simp only [go_sem, Nat.reduceEqDiff, reduceCtorEq, Nat.reduceAdd, Nat.reduceLeDiff, Nat.reduceMul, Nat.reduceLT, Int.reduceToNat, Int.reduceLT, Int.reduceLE, Int.reduceEq, Nat.reduceSub]
    intro _
    cases c4 : (decide (ix ≥ 0) && decide (ix < by'.length)) with
    | false =>
      simp only [go_sem, Nat.reduceEqDiff, reduceCtorEq, Nat.reduceAdd, Nat.reduceLeDiff, Nat.reduceMul, Nat.reduceLT, Int.reduceToNat, Int.reduceLT, Int.reduceLE, Int.reduceEq, Nat.reduceSub]
      exact tail _ (by rw [c3, c4]; rfl) rfl rfl rfl rfl rfl rfl N1 h1
    | true =>
      simp only [c3, c4, go_sem, Nat.reduceEqDiff, reduceCtorEq, Nat.reduceAdd, Nat.reduceLeDiff, Nat.reduceMul, Nat.reduceLT, Int.reduceToNat, Int.reduceLT, Int.reduceLE, Int.reduceEq, Nat.reduceSub] at hR ⊢
      simp only [Bool.and_eq_true, decide_eq_true_eq] at c4
      have hlt : ix.toNat < by'.length := by omega
      have hge : (0 ≤ ix) = True := eq_true (by omega)
      have hlt' : (ix < (by'.length : Int)) = True := eq_true c4.2
      simp only [hge, hlt', getD_mapP _ _ hlt, go_sem, Nat.reduceEqDiff, reduceCtorEq, Nat.reduceAdd, Nat.reduceLeDiff, Nat.reduceMul, Nat.reduceLT, Int.reduceToNat, Int.reduceLT, Int.reduceLE, Int.reduceEq, Nat.reduceSub, hrs, hR]
theorem r07_Subst_ev (s : Str) (by' p : Pred) (hp : Tame p) : E.C r07_Subst [.agg p.cells, .one (.str s), .agg by'.cells] (.agg (subAll [s] [by'] p).cells) := by
  have h := r07_SubstAll_ev Z [s] [by'] p hp
  refine Z.r07_Subst _ _ ⟨Nat.le_of_ble_eq_true rfl, ?_⟩
  generalize subAll [s] [by'] p = R at *
  rw [Pred.cells_eq p, Pred.cells_eq by', Pred.cells_eq R] at *
  simp only [List.map_cons, List.map_nil, Pred.cells_eq by'] at h
  simp only [fn_r07_Subst, go_sem, Nat.reduceEqDiff, reduceCtorEq, Nat.reduceAdd, Nat.reduceLeDiff, Nat.reduceMul, Nat.reduceLT, Int.reduceToNat, Int.reduceLT, Int.reduceLE, Int.reduceEq, Nat.reduceSub]
  refine call_by h ?_
  simp only [go_sem, Nat.reduceEqDiff, reduceCtorEq, Nat.reduceAdd, Nat.reduceLeDiff, Nat.reduceMul, Nat.reduceLT, Int.reduceToNat, Int.reduceLT, Int.reduceLE, Int.reduceEq, Nat.reduceSub]
end Go.Abs
end
section
set_option linter.unusedSimpArgs false
set_option linter.unusedVariables false
set_option linter.unusedSectionVars false
namespace Go.Abs
/-! ## plain law: replacing a variable is giving it a value -/
theorem AllN.mk {P : Pred → Prop} {o : Int} {s : Str} {n : Int} {ks : List Pred} (h : P (.mk o s n ks)) (hk : ∀ k ∈ ks, AllN P k) : AllN P (.mk o s n ks) := by
  intro q hq
  rw [Pred.pre_eq] at hq
  have hq' := List.mem_cons.1 hq
  clear hq
  rcases hq' with rfl | hq
  · exact h
  · clear h
    revert hq
    induction ks with
    | nil => intro hq; cases hq
    | cons x ks ih =>
      intro hq
      rw [Pred.pre.pres, List.mem_append] at hq
      rcases hq with hq | hq
      · exact hk x (by simp) q hq
      · exact ih (fun k hk' => hk k (by simp [hk'])) hq
theorem Pred.cnt_pos (p : Pred) : 1 ≤ p.cnt := by cases p; rw [Pred.cnt]; omega
theorem Pred.len_cnts (ks : List Pred) : ks.length ≤ Pred.cnts ks := by
  induction ks with
  | nil => simp
  | cons k ks ih => rw [Pred.cnts, List.length_cons]; have := Pred.cnt_pos k; omega
theorem tame_of_cnt (p : Pred) (h : p.cnt ≤ 1048576) : Tame p := by
  induction p using Pred.ind with
  | h o s n ks ih =>
  rw [Pred.cnt] at h
  refine AllN.mk ?_ fun k hk => ih k hk ?_
  · have := Pred.len_cnts ks
    show Small ks.length
    unfold Small; omega
  · have := Pred.cnt_le hk; omega
set_option maxRecDepth 100000
end Go.Abs
end
section
set_option linter.unusedSimpArgs false
set_option linter.unusedVariables false
set_option linter.unusedSectionVars false
namespace Go.Abs
theorem small_parts {p : Pred} (hc : p.cnt < 2 ^ 62) {a b : Nat} (hn : p.nodes ≤ a) (hd : p.depth ≤ b) : p.cnt ≤ a ∧ p.dep ≤ b := by
  have h1 := Pred.dep_cnt p
  rw [Pred.nodes_cnt _ hc] at hn
  rw [Pred.depth_dep _ (by omega)] at hd
  omega
set_option maxRecDepth 100000
end Go.Abs
end
section
set_option linter.unusedSimpArgs false
set_option linter.unusedVariables false
set_option linter.unusedSectionVars false
namespace Go.Abs
/-! ## the free variables: the reference -/
def putS (l : List Str) (s : Str) : List Str := l.takeWhile (fun x => Op.bytesLess x s) ++ s :: (match l.dropWhile (fun x => Op.bytesLess x s) with | x :: r => if x == s then r else x :: r | [] => [])
theorem tw_mid {α : Type} {f : α → Bool} {done r : List α} {x : α} (h : ∀ y ∈ done, f y = true) (hx : f x = false) : (done ++ x :: r).takeWhile f = done ∧ (done ++ x :: r).dropWhile f = x :: r := by
  induction done with
  | nil => simp [hx]
  | cons y done ih =>
    obtain ⟨h1, h2⟩ := ih fun z hz => h z (by simp [hz])
    have hy := h y (by simp)
    simp only [List.cons_append, List.takeWhile_cons, List.dropWhile_cons, hy, if_true, h1, h2, and_self]
theorem tw_end {α : Type} {f : α → Bool} {done : List α} (h : ∀ y ∈ done, f y = true) : done.takeWhile f = done ∧ done.dropWhile f = [] := by
  induction done with
  | nil => simp
  | cons y done ih =>
    obtain ⟨h1, h2⟩ := ih fun z hz => h z (by simp [hz])
    have hy := h y (by simp)
    simp only [List.takeWhile_cons, List.dropWhile_cons, hy, if_true, h1, h2, and_self]
theorem putS_mid {done r : List Str} {x s : Str} (h : ∀ y ∈ done, Op.bytesLess y s = true) (hx : Op.bytesLess x s = false) : putS (done ++ x :: r) s = done ++ s :: (if x == s then r else x :: r) := by
  obtain ⟨h1, h2⟩ := tw_mid (f := fun y => Op.bytesLess y s) (r := r) h hx
  unfold putS; rw [h1, h2]
theorem putS_end {done : List Str} {s : Str} (h : ∀ y ∈ done, Op.bytesLess y s = true) : putS done s = done ++ [s] := by
  obtain ⟨h1, h2⟩ := tw_end (f := fun y => Op.bytesLess y s) h
  unfold putS; rw [h1, h2]
theorem putS_len (l : List Str) (s : Str) : (putS l s).length ≤ l.length + 1 := by
  have h := congrArg List.length (List.takeWhile_append_dropWhile (p := fun x => Op.bytesLess x s) (l := l))
  rw [List.length_append] at h
  unfold putS
  rw [List.length_append, List.length_cons]
  split
  · rename_i x r hr
    rw [hr, List.length_cons] at h
    split <;> simp <;> omega
  · rename_i hr
    rw [hr] at h
    simp at h ⊢; omega
theorem mem_putS (l : List Str) (s x : Str) : x ∈ putS l s ↔ x = s ∨ x ∈ l := by
  have h := List.takeWhile_append_dropWhile (p := fun x => Op.bytesLess x s) (l := l)
  unfold putS
  generalize l.takeWhile (fun x => Op.bytesLess x s) = t at *
  generalize l.dropWhile (fun x => Op.bytesLess x s) = d at *
  subst h
  cases d with
  | nil => simp [or_comm]
  | cons y r =>
    simp only
    by_cases hy : (y == s) = true
    · rw [if_pos hy]
      have : y = s := by simpa using hy
      subst this
      simp only [List.mem_append, List.mem_cons]
      by_cases hx : x = y <;> simp [hx]
    · rw [if_neg hy]
      simp only [List.mem_append, List.mem_cons]
      by_cases hx : x = s <;> simp [hx]
def uniS (a b : List Str) : List Str := b.foldl putS (a.foldl putS [])
theorem fold_len (a acc : List Str) : (a.foldl putS acc).length ≤ acc.length + a.length := by
  induction a generalizing acc with
  | nil => simp
  | cons x a ih =>
    rw [List.foldl_cons, List.length_cons]
    have := ih (putS acc x)
    have := putS_len acc x
    omega
theorem uniS_len (a b : List Str) : (uniS a b).length ≤ a.length + b.length := by
  unfold uniS
  have := fold_len b (a.foldl putS [])
  have := fold_len a []
  simp at this; omega
theorem mem_fold (a acc : List Str) (x : Str) : x ∈ a.foldl putS acc ↔ x ∈ a ∨ x ∈ acc := by
  induction a generalizing acc with
  | nil => simp
  | cons y a ih => rw [List.foldl_cons, ih, mem_putS, List.mem_cons]; by_cases h1 : x = y <;> simp [h1]
theorem mem_uniS (a b : List Str) (x : Str) : x ∈ uniS a b ↔ x ∈ a ∨ x ∈ b := by unfold uniS; rw [mem_fold, mem_fold]; simp [or_comm]
/-- the free variables -/
def freeR : Pred → List Str
  | .mk o s _ ks => frees (if o == 3 then [s] else []) ks
where
  frees (acc : List Str) : List Pred → List Str
  | [] => acc
  | k :: ks => frees (uniS acc (freeR k)) ks
theorem freeR_eq (o : Int) (s : Str) (n : Int) (ks : List Pred) : freeR (.mk o s n ks) = ks.foldl (fun acc k => uniS acc (freeR k)) (if o == 3 then [s] else []) := by
  rw [freeR]
  generalize (if o == 3 then [s] else []) = acc
  induction ks generalizing acc with
  | nil => rw [freeR.frees]; rfl
  | cons k ks ih => rw [freeR.frees, List.foldl_cons, ih]
theorem freeR_len (p : Pred) : (freeR p).length ≤ p.cnt := by
  induction p using Pred.ind with
  | h o s n ks ih =>
  rw [freeR_eq, Pred.cnt]
  have key : ∀ (l : List Pred) (acc : List Str), (∀ k ∈ l, (freeR k).length ≤ k.cnt) → (l.foldl (fun acc k => uniS acc (freeR k)) acc).length ≤ acc.length + Pred.cnts l := by
    intro l
    induction l with
    | nil => intro acc _; simp
    | cons k l ih2 =>
      intro acc hk
      rw [List.foldl_cons, Pred.cnts]
      have h1 := ih2 (uniS acc (freeR k)) fun y hy => hk y (by simp [hy])
      have h2 := uniS_len acc (freeR k)
      have h3 := hk k (by simp)
      omega
  have h1 := key ks (if o == 3 then [s] else []) ih
  have h2 : (if o == 3 then [s] else []).length ≤ 1 := by split <;> simp
  omega
theorem mem_free_acc (ks : List Pred) (acc : List Str) (x : Str) : x ∈ ks.foldl (fun acc k => uniS acc (freeR k)) acc ↔ x ∈ acc ∨ ∃ k ∈ ks, x ∈ freeR k := by
  induction ks generalizing acc with
  | nil => simp
  | cons k ks ih =>
    rw [List.foldl_cons, ih, mem_uniS]
    simp only [List.mem_cons, exists_eq_or_imp, or_assoc]
theorem findIx_in {s : Str} : ∀ {l : List Str} {i : Nat}, s ∈ l → 0 ≤ findIx s i l
  | x :: l, i, h => by
    rw [findIx]
    split
    · omega
    · rcases List.mem_cons.1 h with rfl | h
      · rename_i hne; exact absurd rfl hne
      · exact findIx_in h
theorem findIx_ge {s : Str} {l : List Str} : (findIx s 0 l ≥ 0) ↔ s ∈ l := by
  constructor
  · intro h
    by_cases hm : s ∈ l
    · exact hm
    · rw [findIx_none s l 0 hm] at h; omega
  · exact findIx_in
theorem tc_lens (l : List Str) : (∀ e ∈ l.map (fun k => [D.str k]), e.length = 1) = True := lens_map (f := fun k => [D.str k]) (fun _ => rfl) l
set_option maxRecDepth 100000
variable {E : AEnv} (Z : Sys E)
include Z
theorem r04_put_ev (l : List Str) (s : Str) (hl : l.length ≤ 1073741824) : E.C r04_put [.one (.lst (l.map fun k => [.str k])), .one (.str s)] (.one (.lst ((putS l s).map fun k => [.str k]))) := by
  refine Z.r04_put _ _ ⟨Nat.le_of_ble_eq_true rfl, ?_⟩
  have hrs : fn_r04_put.rs = [.t 4] := rfl
  refine seq_named fun N0 h0 => ?_
  simp only [go_sem, Nat.reduceEqDiff, reduceCtorEq, Nat.reduceAdd, Nat.reduceLeDiff, Nat.reduceMul, Nat.reduceLT, Int.reduceToNat, Int.reduceLT, Int.reduceLE, Int.reduceEq, Nat.reduceSub]
  rw [h0]
  refine seq_named fun N1 h1 => ?_
  simp only [go_sem, Nat.reduceEqDiff, reduceCtorEq, Nat.reduceAdd, Nat.reduceLeDiff, Nat.reduceMul, Nat.reduceLT, Int.reduceToNat, Int.reduceLT, Int.reduceLE, Int.reduceEq, Nat.reduceSub]
  rw [h1]
  refine seq_named fun N2 h2 => ?_
  simp only [go_sem, Nat.reduceEqDiff, reduceCtorEq, Nat.reduceAdd, Nat.reduceLeDiff, Nat.reduceMul, Nat.reduceLT, Int.reduceToNat, Int.reduceLT, Int.reduceLE, Int.reduceEq, Nat.reduceSub]
  rw [h2]
  refine seq_named fun N3 h3 => ?_
  have hls := tc_lens l
  have tail : ∀ (done rest : List Str) (st : St), l = done ++ rest → (∀ y ∈ done, Op.bytesLess y s = true) → (∀ x r, rest = x :: r → Op.bytesLess x s = false) → getS st.slots 5 = .own 5 1 (done.map fun k => [D.str k]) → getS st.slots 6 = .d (.int .i64 done.length) → getS st.slots 0 = .d (.lst (l.map fun k => [D.str k])) → getS st.slots 1 = .d (.str s) → st.mem = [] → st.tk = [(5, true)] → N3 st := by
    intro done rest st hd hI hr e5 e6 e0 e1 em et
    obtain ⟨sl, mm, tk⟩ := st
    simp only at e5 e6 e0 e1 em et
    subst em; subst et
    have hdl : done.length ≤ l.length := by rw [hd]; simp
    have i1 : (∀ e ∈ [[D.str s]], e.length = 1) = True := eq_true (by simp)
    have o1 : (done.length + 1) * 16 ≤ 2 ^ 46 := by omega
    have o2 : done.length + 1 ≤ 9223372036854775807 := by omega
    have hdd : (l.map fun k => [D.str k]).drop done.length = rest.map fun k => [D.str k] := by rw [← List.map_drop, hd, List.drop_left' rfl]
    rw [h3]
    simp only [go_sem, Nat.reduceEqDiff, reduceCtorEq, Nat.reduceAdd, Nat.reduceLeDiff, Nat.reduceMul, Nat.reduceLT, Int.reduceToNat, Int.reduceLT, Int.reduceLE, Int.reduceEq, Nat.reduceSub, e5, e6, e0, e1, i1, o1, o2, List.length_map]
    intro hlen
    cases rest with
    | nil =>
      rw [List.append_nil] at hd
      subst hd
      have hlt : ¬ ((l.length : Int) < l.length) := by omega
      have i2 : (∀ e ∈ ([] : List (List D)), e.length = 1) = True := eq_true (by simp)
      have o3 : (l.length + 1) * 16 ≤ 2 ^ 46 := by omega
      have hg0 : (l.map fun k => [D.str k]).getD l.length [] = [] := by simp
      have o2' : l.length ≤ 9223372036854775806 := by omega
      simp only [go_sem, Nat.reduceEqDiff, reduceCtorEq, Nat.reduceAdd, Nat.reduceLeDiff, Nat.reduceMul, Nat.reduceLT, Int.reduceToNat, Int.reduceLT, Int.reduceLE, Int.reduceEq, Nat.reduceSub, List.map_nil, hlt, hdd, hls, i2, hg0, o2', List.length_append, List.length_map, o3, o2, hrs, putS_end hI, List.map_append, List.map_cons]
    | cons x r =>
      have hx := hr x r rfl
      have hlt := lt_mid hd
      have hww : IntKind.i64.wrap ((done.length : Int) + 1) = ((done.length + 1 : Nat) : Int) := wrap_succ (by omega)
      have hg : (l.map fun k => [D.str k]).getD done.length [] = [.str x] := by rw [hd]; exact getD_mid _ _ _ _ _
      have hll : l.length = done.length + (r.length + 1) := by rw [hd]; simp
      have hd1 : (l.map fun k => [D.str k]).drop (done.length + 1) = r.map fun k => [D.str k] := by
        rw [← List.map_drop, hd, show done ++ x :: r = (done ++ [x]) ++ r by simp, List.drop_left' (by simp)]
      cases hxs : (x == s) with
      | true =>
        have o3 : (done.length + 1 + r.length) * 16 ≤ 2 ^ 46 := by omega
        have o4 : done.length + 1 + r.length ≤ 9223372036854775807 := by omega
        have o5 : ((done.length + 1 : Nat) : Int) ≤ l.length := by omega
        have hpm : putS l s = done ++ s :: r := by rw [hd, putS_mid hI hx, hxs]; rfl
        simp only [go_sem, Nat.reduceEqDiff, reduceCtorEq, Nat.reduceAdd, Nat.reduceLeDiff, Nat.reduceMul, Nat.reduceLT, Int.reduceToNat, Int.reduceLT, Int.reduceLE, Int.reduceEq, Nat.reduceSub, hlt, hg, hxs, hww, hls, hd1, Int.toNat_natCast, tc_lens, List.length_append, List.length_map, o3, o4, o5, hrs, hpm, List.map_append, List.map_cons, List.append_assoc]
      | false =>
        have o3 : (done.length + 1 + (r.length + 1)) * 16 ≤ 2 ^ 46 := by omega
        have o4 : done.length + 1 + (r.length + 1) ≤ 9223372036854775807 := by omega
        have o5 : ((done.length : Nat) : Int) ≤ l.length := by omega
        have hpm : putS l s = done ++ s :: x :: r := by rw [hd, putS_mid hI hx, hxs]; rfl
        have i3 : (∀ e ∈ [D.str x] :: r.map (fun k => [D.str k]), e.length = 1) = True := eq_true (by simp)
        simp only [go_sem, Nat.reduceEqDiff, reduceCtorEq, Nat.reduceAdd, Nat.reduceLeDiff, Nat.reduceMul, Nat.reduceLT, Int.reduceToNat, Int.reduceLT, Int.reduceLE, Int.reduceEq, Nat.reduceSub, hlt, hg, hxs, hls, hdd, i3, Int.toNat_natCast, tc_lens, List.length_append, List.length_map, o3, o4, o5, hrs, hpm, List.map_append, List.map_cons, List.append_assoc]
  simp only [go_sem, Nat.reduceEqDiff, reduceCtorEq, Nat.reduceAdd, Nat.reduceLeDiff, Nat.reduceMul, Nat.reduceLT, Int.reduceToNat, Int.reduceLT, Int.reduceLE, Int.reduceEq, Nat.reduceSub]
  refine loop_named fun K' hK => ?_
  refine loop_list l (fun done => ∀ y ∈ done, Op.bytesLess y s = true) (fun done rest => ⟨[(6, .d (.int .i64 done.length)), (5, .own 5 1 (done.map fun k => [.str k])), (0, .d (.lst (l.map fun k => [.str k]))), (1, .d (.str s))], [], [(5, true)]⟩) ?_ (by simp) ?_ ?_
  · exact Ent_conv 5 5 1 [] [(5, 5)] rfl (by simp) rfl (by simp only [Ent0, go_sem, Nat.reduceEqDiff, reduceCtorEq, Nat.reduceAdd, Nat.reduceLeDiff, Nat.reduceMul, Nat.reduceLT, Int.reduceToNat, Int.reduceLT, Int.reduceLE, Int.reduceEq, Nat.reduceSub, List.contains_nil])
  · intro done x r hd hI
    have hlt := lt_mid hd
    have hll : l.length = done.length + (r.length + 1) := by rw [hd]; simp
    have hww : IntKind.i64.wrap ((done.length : Int) + 1) = ((done.length + 1 : Nat) : Int) := wrap_succ (by omega)
    have hg : (l.map fun k => [D.str k]).getD done.length [] = [.str x] := by rw [hd]; exact getD_mid _ _ _ _ _
    have i1 : (∀ e ∈ [[D.str x]], e.length = 1) = True := eq_true (by simp)
    have o1 : (done.length + 1) * 16 ≤ 2 ^ 46 := by omega
    have o2 : done.length + 1 ≤ 9223372036854775807 := by omega
    simp only [fn_r04_put_L1, go_sem, Nat.reduceEqDiff, reduceCtorEq, Nat.reduceAdd, Nat.reduceLeDiff, Nat.reduceMul, Nat.reduceLT, Int.reduceToNat, Int.reduceLT, Int.reduceLE, Int.reduceEq, Nat.reduceSub, List.length_map]
    intro _
    simp only [go_sem, Nat.reduceEqDiff, reduceCtorEq, Nat.reduceAdd, Nat.reduceLeDiff, Nat.reduceMul, Nat.reduceLT, Int.reduceToNat, Int.reduceLT, Int.reduceLE, Int.reduceEq, Nat.reduceSub, hlt, hg, hls]
    cases hb : Op.bytesLess x s with
    | true =>
      simp only [go_sem, Nat.reduceEqDiff, reduceCtorEq, Nat.reduceAdd, Nat.reduceLeDiff, Nat.reduceMul, Nat.reduceLT, Int.reduceToNat, Int.reduceLT, Int.reduceLE, Int.reduceEq, Nat.reduceSub, hlt, hg, hls, i1, o1, o2, hww, List.length_map, List.length_append, List.map_append, List.map_cons, List.map_nil]
      exact ⟨by omega, Ent_own [(5, 25)] (by simp only [go_sem, Nat.reduceEqDiff, reduceCtorEq, Nat.reduceAdd, Nat.reduceLeDiff, Nat.reduceMul, Nat.reduceLT, Int.reduceToNat, Int.reduceLT, Int.reduceLE, Int.reduceEq, Nat.reduceSub, List.contains_nil]), app_all hI hb⟩
    | false =>
      simp only [go_sem, Nat.reduceEqDiff, reduceCtorEq, Nat.reduceAdd, Nat.reduceLeDiff, Nat.reduceMul, Nat.reduceLT, Int.reduceToNat, Int.reduceLT, Int.reduceLE, Int.reduceEq, Nat.reduceSub, hK]
      exact tail done (x :: r) _ hd hI (fun x' r' e => by cases e; exact hb) rfl rfl rfl rfl rfl rfl
  · intro hI
    have hlt : ¬ ((l.length : Int) < l.length) := by omega
    simp only [fn_r04_put_L1, go_sem, Nat.reduceEqDiff, reduceCtorEq, Nat.reduceAdd, Nat.reduceLeDiff, Nat.reduceMul, Nat.reduceLT, Int.reduceToNat, Int.reduceLT, Int.reduceLE, Int.reduceEq, Nat.reduceSub, List.length_map]
    intro _
    have hg0 : (l.map fun k => [D.str k]).getD l.length [] = [] := by simp
    simp only [go_sem, Nat.reduceEqDiff, reduceCtorEq, Nat.reduceAdd, Nat.reduceLeDiff, Nat.reduceMul, Nat.reduceLT, Int.reduceToNat, Int.reduceLT, Int.reduceLE, Int.reduceEq, Nat.reduceSub, hlt, hg0, hK]
    exact tail l [] _ (by simp) hI (fun x' r' e => by cases e) rfl rfl rfl rfl rfl rfl
theorem r04_Union_ev (a b : List Str) (hl : a.length + b.length ≤ 1073741824) : E.C r04_Union [.one (.lst (a.map fun k => [.str k])), .one (.lst (b.map fun k => [.str k]))] (.one (.lst ((uniS a b).map fun k => [.str k]))) := by
  have hput := r04_put_ev Z
  refine Z.r04_Union _ _ ⟨Nat.le_of_ble_eq_true rfl, ?_⟩
  generalize hR : uniS a b = R
  unfold uniS at hR
  have hrs : fn_r04_Union.rs = [.t 4] := rfl
  have la := tc_lens a
  have lb := tc_lens b
  refine seq_named fun N0 h0 => ?_
  simp only [go_sem, Nat.reduceEqDiff, reduceCtorEq, Nat.reduceAdd, Nat.reduceLeDiff, Nat.reduceMul, Nat.reduceLT, Int.reduceToNat, Int.reduceLT, Int.reduceLE, Int.reduceEq, Nat.reduceSub]
  rw [h0]
  refine seq_named fun N1 h1 => ?_
  simp only [go_sem, Nat.reduceEqDiff, reduceCtorEq, Nat.reduceAdd, Nat.reduceLeDiff, Nat.reduceMul, Nat.reduceLT, Int.reduceToNat, Int.reduceLT, Int.reduceLE, Int.reduceEq, Nat.reduceSub]
  rw [h1]
  refine seq_named fun N2 h2 => ?_
  simp only [go_sem, Nat.reduceEqDiff, reduceCtorEq, Nat.reduceAdd, Nat.reduceLeDiff, Nat.reduceMul, Nat.reduceLT, Int.reduceToNat, Int.reduceLT, Int.reduceLE, Int.reduceEq, Nat.reduceSub, List.length_map]
  intro _
  refine loop_named fun K' hK => ?_
  refine loop_list a (fun _ => True) (fun done rest => ⟨[(10, .d (.int .i64 done.length)), (9, .d (.int .i64 a.length)), (0, .d (.lst (a.map fun k => [.str k]))), (1, .d (.lst (b.map fun k => [.str k]))), (5, .d (.lst ((done.foldl putS []).map fun k => [.str k])))], [], []⟩) ?_ trivial ?_ ?_
  · exact Ent_plain (by simp only [go_sem, Nat.reduceEqDiff, reduceCtorEq, Nat.reduceAdd, Nat.reduceLeDiff, Nat.reduceMul, Nat.reduceLT, Int.reduceToNat, Int.reduceLT, Int.reduceLE, Int.reduceEq, Nat.reduceSub, List.foldl_nil])
  · intro done x r hd _
    have hlt := lt_mid hd
    have hll : a.length = done.length + (r.length + 1) := by rw [hd]; simp
    have hww : IntKind.i64.wrap ((done.length : Int) + 1) = ((done.length + 1 : Nat) : Int) := wrap_succ (by omega)
    have hg : (a.map fun k => [D.str k]).getD done.length [] = [.str x] := by rw [hd]; exact getD_mid _ _ _ _ _
    have hfl := fold_len done []
    simp only [List.length_nil, Nat.zero_add] at hfl
    simp only [fn_r04_Union_L2, go_sem, Nat.reduceEqDiff, reduceCtorEq, Nat.reduceAdd, Nat.reduceLeDiff, Nat.reduceMul, Nat.reduceLT, Int.reduceToNat, Int.reduceLT, Int.reduceLE, Int.reduceEq, Nat.reduceSub, hlt, hg, la, List.length_map]
    refine call_by (hput _ x (by omega)) ?_
    simp only [go_sem, Nat.reduceEqDiff, reduceCtorEq, Nat.reduceAdd, Nat.reduceLeDiff, Nat.reduceMul, Nat.reduceLT, Int.reduceToNat, Int.reduceLT, Int.reduceLE, Int.reduceEq, Nat.reduceSub, hww, List.length_append, List.foldl_append, List.foldl_cons, List.foldl_nil]
    exact Ent_plain (by simp only [go_sem, Nat.reduceEqDiff, reduceCtorEq, Nat.reduceAdd, Nat.reduceLeDiff, Nat.reduceMul, Nat.reduceLT, Int.reduceToNat, Int.reduceLT, Int.reduceLE, Int.reduceEq, Nat.reduceSub])
  · intro _
    have hfa := fold_len a []
    simp only [List.length_nil, Nat.zero_add] at hfa
    generalize hA : a.foldl putS [] = A at *
    simp only [fn_r04_Union_L2, go_sem, Nat.reduceEqDiff, reduceCtorEq, Nat.reduceAdd, Nat.reduceLeDiff, Nat.reduceMul, Nat.reduceLT, Int.reduceToNat, Int.reduceLT, Int.reduceLE, Int.reduceEq, Nat.reduceSub, hK]
    rw [h2]
    refine seq_named fun N3 h3 => ?_
    simp only [go_sem, Nat.reduceEqDiff, reduceCtorEq, Nat.reduceAdd, Nat.reduceLeDiff, Nat.reduceMul, Nat.reduceLT, Int.reduceToNat, Int.reduceLT, Int.reduceLE, Int.reduceEq, Nat.reduceSub, List.length_map]
    intro _
    refine loop_named fun K2 hK2 => ?_
    refine loop_list b (fun _ => True) (fun done rest => ⟨[(22, .d (.int .i64 done.length)), (21, .d (.int .i64 b.length)), (1, .d (.lst (b.map fun k => [.str k]))), (5, .d (.lst ((done.foldl putS A).map fun k => [.str k])))], [], []⟩) ?_ trivial ?_ ?_
    · exact Ent_plain (by simp only [go_sem, Nat.reduceEqDiff, reduceCtorEq, Nat.reduceAdd, Nat.reduceLeDiff, Nat.reduceMul, Nat.reduceLT, Int.reduceToNat, Int.reduceLT, Int.reduceLE, Int.reduceEq, Nat.reduceSub, List.foldl_nil])
    · intro done x r hd _
      have hlt := lt_mid hd
      have hll : b.length = done.length + (r.length + 1) := by rw [hd]; simp
      have hww : IntKind.i64.wrap ((done.length : Int) + 1) = ((done.length + 1 : Nat) : Int) := wrap_succ (by omega)
      have hg : (b.map fun k => [D.str k]).getD done.length [] = [.str x] := by rw [hd]; exact getD_mid _ _ _ _ _
      have hfl := fold_len done A
      simp only [fn_r04_Union_L1, go_sem, Nat.reduceEqDiff, reduceCtorEq, Nat.reduceAdd, Nat.reduceLeDiff, Nat.reduceMul, Nat.reduceLT, Int.reduceToNat, Int.reduceLT, Int.reduceLE, Int.reduceEq, Nat.reduceSub, hlt, hg, lb, List.length_map]
      refine call_by (hput _ x (by omega)) ?_
      simp only [go_sem, Nat.reduceEqDiff, reduceCtorEq, Nat.reduceAdd, Nat.reduceLeDiff, Nat.reduceMul, Nat.reduceLT, Int.reduceToNat, Int.reduceLT, Int.reduceLE, Int.reduceEq, Nat.reduceSub, hww, List.length_append, List.foldl_append, List.foldl_cons, List.foldl_nil]
      exact Ent_plain (by simp only [go_sem, Nat.reduceEqDiff, reduceCtorEq, Nat.reduceAdd, Nat.reduceLeDiff, Nat.reduceMul, Nat.reduceLT, Int.reduceToNat, Int.reduceLT, Int.reduceLE, Int.reduceEq, Nat.reduceSub])
    · intro _
      simp only [fn_r04_Union_L1, go_sem, Nat.reduceEqDiff, reduceCtorEq, Nat.reduceAdd, Nat.reduceLeDiff, Nat.reduceMul, Nat.reduceLT, Int.reduceToNat, Int.reduceLT, Int.reduceLE, Int.reduceEq, Nat.reduceSub, hK2, h3, hrs, hR]
theorem r07_Free_ev (p : Pred) (hp : p.cnt ≤ 1048576) : E.C r07_Free [.agg p.cells] (.one (.lst ((freeR p).map fun k => [.str k]))) := by
  induction p using Pred.ind with
  | h o s n ks ih =>
  have hu := r04_Union_ev Z
  have hc : Pred.cnts ks + 1 ≤ 1048576 := hp
  refine Z.r07_Free _ _ ⟨Nat.le_of_ble_eq_true rfl, ?_⟩
  generalize hR : freeR (.mk o s n ks) = R
  rw [freeR_eq] at hR
  generalize hA : (if o == 3 then [s] else []) = A at *
  have hAl : A.length ≤ 1 := by rw [← hA]; split <;> simp
  rw [Pred.cells_eq]
  have hrs : fn_r07_Free.rs = [.t 2] := rfl
  refine seq_named fun N0 h0 => ?_
  simp only [go_sem, Nat.reduceEqDiff, reduceCtorEq, Nat.reduceAdd, Nat.reduceLeDiff, Nat.reduceMul, Nat.reduceLT, Int.reduceToNat, Int.reduceLT, Int.reduceLE, Int.reduceEq, Nat.reduceSub, Pred.op, Pred.name, Pred.n, Pred.kids]
  rw [h0]
  refine seq_named fun N1 h1 => ?_
  simp only [go_sem, Nat.reduceEqDiff, reduceCtorEq, Nat.reduceAdd, Nat.reduceLeDiff, Nat.reduceMul, Nat.reduceLT, Int.reduceToNat, Int.reduceLT, Int.reduceLE, Int.reduceEq, Nat.reduceSub]
  rw [h1]
  refine seq_named fun N2 h2 => ?_
  have key : ∀ (done : List Pred), (∀ k ∈ done, k ∈ ks) → (done.foldl (fun acc k => uniS acc (freeR k)) A).length ≤ 1 + Pred.cnts done := by
    have key2 : ∀ (l : List Pred) (acc : List Str), (l.foldl (fun acc k => uniS acc (freeR k)) acc).length ≤ acc.length + Pred.cnts l := by
      intro l
      induction l with
      | nil => intro acc; simp
      | cons k l ih2 =>
        intro acc
        rw [List.foldl_cons, Pred.cnts]
        have h1 := ih2 (uniS acc (freeR k))
        have h2 := uniS_len acc (freeR k)
        have h3 := freeR_len k
        omega
    intro done _
    have := key2 done A
    omega
  have cnts_app : ∀ a b : List Pred, Pred.cnts (a ++ b) = Pred.cnts a + Pred.cnts b := by
    intro a b
    induction a with
    | nil => simp [Pred.cnts]
    | cons x a ih3 => rw [List.cons_append, Pred.cnts, Pred.cnts, ih3]; omega
  have tail : ∀ st : St, getS st.slots 1 = .ptr 1 0 → (getS st.slots 3).elems = some (A.map fun k => [D.str k]) → (∃ es, getS st.slots 3 = .full es) → st.mem = [(1, [.d (.int .i64 o), .d (.str s), .d (.int .i64 n), .d (.lst (ks.map Pred.cells))])] → st.tk = [] → N2 st := by
    intro st e1 e3 e3' em et
    obtain ⟨es, e3'⟩ := e3'
    rw [e3'] at e3
    simp only [AV.elems, Option.some.injEq] at e3
    subst e3
    obtain ⟨sl, mm, tk⟩ := st
    simp only at e1 e3' em et
    subst em; subst et
    rw [h2]
    refine seq_named fun N3 h3 => ?_
    simp only [go_sem, Nat.reduceEqDiff, reduceCtorEq, Nat.reduceAdd, Nat.reduceLeDiff, Nat.reduceMul, Nat.reduceLT, Int.reduceToNat, Int.reduceLT, Int.reduceLE, Int.reduceEq, Nat.reduceSub, e1, e3']
    intro _
    refine loop_named fun K' hK => ?_
    refine loop_list ks (fun _ => True) (fun done rest => ⟨[(15, .d (.int .i64 done.length)), (14, .d (.int .i64 ks.length)), (13, .d (.lst (ks.map Pred.cells))), (3, .d (.lst ((done.foldl (fun acc k => uniS acc (freeR k)) A).map fun k => [.str k])))], [], []⟩) ?_ trivial ?_ ?_
    · exact Ent_plain (by simp only [go_sem, Nat.reduceEqDiff, reduceCtorEq, Nat.reduceAdd, Nat.reduceLeDiff, Nat.reduceMul, Nat.reduceLT, Int.reduceToNat, Int.reduceLT, Int.reduceLE, Int.reduceEq, Nat.reduceSub, e3', List.foldl_nil])
    · intro done k r hd _
      have hlt := lt_mid hd
      have hww : IntKind.i64.wrap ((done.length : Int) + 1) = ((done.length + 1 : Nat) : Int) := wrap_succ (by omega)
      have hkc : k.cnt ≤ Pred.cnts ks := Pred.cnt_le (by rw [hd]; simp)
      have hk := ih k (by rw [hd]; simp) (by omega)
      have h4 := key done (fun y hy => by rw [hd]; simp [hy])
      have h5 := freeR_len k
      have h6 : Pred.cnts done ≤ Pred.cnts ks := by rw [hd, cnts_app]; omega
      simp only [fn_r07_Free_L1, go_sem, Nat.reduceEqDiff, reduceCtorEq, Nat.reduceAdd, Nat.reduceLeDiff, Nat.reduceMul, Nat.reduceLT, Int.reduceToNat, Int.reduceLT, Int.reduceLE, Int.reduceEq, Nat.reduceSub, hlt, getD_midP hd]
      refine call_by hk ?_
      simp only [go_sem, Nat.reduceEqDiff, reduceCtorEq, Nat.reduceAdd, Nat.reduceLeDiff, Nat.reduceMul, Nat.reduceLT, Int.reduceToNat, Int.reduceLT, Int.reduceLE, Int.reduceEq, Nat.reduceSub]
      refine call_by (hu _ (freeR k) (by omega)) ?_
      simp only [go_sem, Nat.reduceEqDiff, reduceCtorEq, Nat.reduceAdd, Nat.reduceLeDiff, Nat.reduceMul, Nat.reduceLT, Int.reduceToNat, Int.reduceLT, Int.reduceLE, Int.reduceEq, Nat.reduceSub, hww, List.length_append, List.foldl_append, List.foldl_cons, List.foldl_nil]
      exact Ent_plain (by simp only [go_sem, Nat.reduceEqDiff, reduceCtorEq, Nat.reduceAdd, Nat.reduceLeDiff, Nat.reduceMul, Nat.reduceLT, Int.reduceToNat, Int.reduceLT, Int.reduceLE, Int.reduceEq, Nat.reduceSub])
    · intro _
      simp only [fn_r07_Free_L1, go_sem, Nat.reduceEqDiff, reduceCtorEq, Nat.reduceAdd, Nat.reduceLeDiff, Nat.reduceMul, Nat.reduceLT, Int.reduceToNat, Int.reduceLT, Int.reduceLE, Int.reduceEq, Nat.reduceSub, hK, h3, hrs, hR]
  cases c3 : (o == 3) with
  | true =>
    rw [c3] at hA
    simp only [go_sem, Nat.reduceEqDiff, reduceCtorEq, Nat.reduceAdd, Nat.reduceLeDiff, Nat.reduceMul, Nat.reduceLT, Int.reduceToNat, Int.reduceLT, Int.reduceLE, Int.reduceEq, Nat.reduceSub, c3]
    refine tail _ rfl ?_ ⟨_, rfl⟩ rfl rfl
    rw [← hA]; rfl
  | false =>
    rw [c3] at hA
    simp only [go_sem, Nat.reduceEqDiff, reduceCtorEq, Nat.reduceAdd, Nat.reduceLeDiff, Nat.reduceMul, Nat.reduceLT, Int.reduceToNat, Int.reduceLT, Int.reduceLE, Int.reduceEq, Nat.reduceSub, c3]
    refine tail _ rfl ?_ ⟨_, rfl⟩ rfl rfl
    rw [← hA]; rfl
end Go.Abs
end
section
set_option linter.unusedSimpArgs false
set_option linter.unusedVariables false
set_option linter.unusedSectionVars false
namespace Go.Abs
open Go.RowKit Go.Sort Go.Proofs

/-! ## a straight function, walked by hand -/
/-- the regions of a straight function -/
def segs : Code → Option (List (Nat × Array Oper))
  | .ret => some []
  | .seq (.region i ops false) c => (segs c).map ((i, ops) :: ·)
  | _ => none
abbrev OpC := Option Tmp × Op × Option (Nat × Bool)
def opc (o : Oper) : OpC := (o.dst, o.op, o.guard)
theorem segs_nil {c : Code} (h : segs c = some []) : c = .ret := by
  cases c with
  | ret => rfl
  | seq a b =>
    cases a with
    | region i ops d => cases d <;> simp [segs] at h
    | _ => simp [segs] at h
  | _ => simp [segs] at h
theorem segs_cons {c : Code} {i : Nat} {ops : Array Oper} {l : List (Nat × Array Oper)} (h : segs c = some ((i, ops) :: l)) : ∃ c', c = .seq (.region i ops false) c' ∧ segs c' = some l := by
  cases c with
  | seq a b =>
    cases a with
    | region i' ops' d =>
      cases d with
      | true => simp [segs] at h
      | false =>
        simp only [segs, Option.map_eq_some_iff] at h
        obtain ⟨l', h1, h2⟩ := h
        cases h2
        exact ⟨b, rfl, h1⟩
    | _ => simp [segs] at h
  | _ => simp [segs] at h
theorem segs_map {c : Code} {x : List OpC} {xs : List (List OpC)} (h : (segs c).map (fun l => l.map fun p => p.2.toList.map opc) = some (x :: xs)) :
    ∃ i ops c', c = .seq (.region i ops false) c' ∧ ops.toList.map opc = x ∧ (segs c').map (fun l => l.map fun p => p.2.toList.map opc) = some xs := by
  cases hs : segs c with
  | none => rw [hs] at h; cases h
  | some l =>
    rw [hs] at h
    cases l with
    | nil => simp at h
    | cons p l =>
      obtain ⟨i, ops⟩ := p
      obtain ⟨c', h1, h2⟩ := segs_cons hs
      simp only [Option.map_some, List.map_cons, Option.some.injEq, List.cons.injEq] at h
      exact ⟨i, ops, c', h1, h.1, by rw [h2]; simp [h.2]⟩
theorem segs_end {c : Code} (h : (segs c).map (fun l => l.map fun p => p.2.toList.map opc) = some []) : c = .ret := by
  cases hs : segs c with
  | none => rw [hs] at h; cases h
  | some l =>
    rw [hs] at h
    cases l with
    | nil => exact segs_nil hs
    | cons p l => simp at h

section
variable {F : Fence} {n : Nat} {P : Program} {ops : Array Oper} {Q : Exit → Act → World → Prop} {k : Nat} {N : Act → World → Prop} {a : Act} {w : World}
theorem opc_get {d : Option Tmp} {op : Op} {g : Option (Nat × Bool)} (ho : (ops.toList.map opc)[k]? = some (d, op, g)) : ∃ o, ops[k]? = some o ∧ o.dst = d ∧ o.op = op ∧ o.guard = g := by
  rw [List.getElem?_map, Array.getElem?_toList] at ho
  cases h : ops[k]? with
  | none => rw [h] at ho; cases ho
  | some o =>
    rw [h] at ho
    simp only [Option.map_some, Option.some.injEq, opc, Prod.mk.injEq] at ho
    exact ⟨o, rfl, ho.1, ho.2.1, ho.2.2⟩
theorem wpOp_val (hF : FW F) {d : Tmp} {op : Op} (ho : (ops.toList.map opc)[k]? = some (some d, op, none)) (hnd : ∀ c, op ≠ .defer c) {v : Value} {w' : World} (hrun : ∀ o : Oper, o.op = op → (execOp a.eval o).run P w = .ok (.value v) w')
    (hN : N { a with tmps := a.tmps.setIfInBounds d v } w') : wpOpIn F n P ops Q k N a w := by
  obtain ⟨o, h1, h2, h3, h4⟩ := opc_get ho
  unfold wpOpIn
  simp only [h1]
  rw [if_pos (by simp [Region.wanted, h4])]
  refine wpIn_fw hF (fun c hc => hnd c (h3 ▸ hc)) ?_
  unfold Oper.wp
  rw [hrun o h3]
  simp only [Oper.upon_value, Act.put, h2]
  exact hN
theorem wpOp_call (hF : FW F) {d : Tmp} {op : Op} (ho : (ops.toList.map opc)[k]? = some (some d, op, none)) (hnd : ∀ c, op ≠ .defer c) {f : FuncId} {args : Array Value} (hrun : ∀ o : Oper, o.op = op → (execOp a.eval o).run P w = .ok (.enter f args) w)
    {R : Ending → World → Prop} (hc : Calls P f args w R) (hN : ∀ e w', R e w' → ∃ v, e = .returned v ∧ N { a with tmps := a.tmps.setIfInBounds d v } w') : wpOpIn F n P ops Q k N a w := by
  obtain ⟨o, h1, h2, h3, h4⟩ := opc_get ho
  unfold wpOpIn
  simp only [h1]
  rw [if_pos (by simp [Region.wanted, h4])]
  refine wpIn_fw hF (fun c hc => hnd c (h3 ▸ hc)) ?_
  unfold Oper.wp
  rw [hrun o h3, Oper.upon_enter]
  refine hc.mono ?_
  intro e w' hR
  obtain ⟨v, rfl, hN⟩ := hN e w' hR
  simp only [Act.put, h2]
  exact hN
theorem wpIn_ops {i : Nat} {l : List OpC} (hl : ops.toList.map opc = l) (h : wpOpsIn F n P ops Q (List.range l.length) a w) : (Code.region i ops false).wpIn F n P Q a w :=
  wpIn_region (by have : ops.size = l.length := by rw [← hl]; simp
                  rw [this]; exact h)
end

/-! ## texts -/
theorem str_value {w : World} {S : Safe} {s : List UInt8} {v : Value} (h : Rep w S (.str s) v) : v = encStr s ∧ s.length ≤ 9223372036854775807 := by
  obtain ⟨x, h1, h2, h3⟩ := h
  subst h1 h2
  exact ⟨by simp [encStr], by simpa using h3⟩
theorem strs_values {w : World} {S : Safe} : ∀ {ss : List (List UInt8)} {l : List Value}, RepL w S (ss.map fun s => [D.str s]).flatten l → l = ss.map encStr ∧ ∀ s ∈ ss, s.length ≤ 9223372036854775807
  | [], l, h => by simp [RepL] at h; subst h; simp
  | s :: ss, l, h => by
    simp only [List.map_cons, List.flatten_cons, List.singleton_append] at h
    obtain ⟨v, r, h1, h2, h3⟩ := h
    obtain ⟨rfl, h4⟩ := str_value h2
    obtain ⟨h5, h6⟩ := strs_values h3
    subst h1 h5
    exact ⟨rfl, by simpa using ⟨h4, h6⟩⟩
theorem values_strs {w : World} {S : Safe} : ∀ {ss : List (List UInt8)}, (∀ s ∈ ss, s.length ≤ 9223372036854775807) → RepL w S (ss.map fun s => [D.str s]).flatten (ss.map encStr)
  | [], _ => by simp [RepL]
  | s :: ss, h => by
    simp only [List.map_cons, List.flatten_cons, List.singleton_append]
    exact ⟨_, _, rfl, ⟨_, rfl, by simp, by show s.toArray.size ≤ _; rw [List.size_toArray]; exact h s (by simp)⟩, values_strs fun x hx => h x (by simp [hx])⟩
theorem own_app {P : Program} {w : World} {B t ty e : TypeId} {ie : TypeInfo} {z : Value} {eb : Nat} (hu : P.underlying t = some (.slice e)) (hie : P.info? e = some ie) (q1 : ie.size = 1) (q2 : ie.bytes = eb) (q4 : ie.zero = some z) (q5 : z.cells.size = 1)
    {v : Value} {xs : List Value} (hown : w.ownsRow B e 1 v xs.length xs) {v2 : Value} {es : List (List D)} {S : Safe} (hy : Rep w S (.lst es) v2) (hes : ∀ x ∈ es, x.length = 1) (hB : B ≤ w.heap.size) (h63 : xs.length + es.length ≤ maxLen) (hby : (xs.length + es.length) * eb ≤ 140737488355328) :
    ∃ v' w' l2, RepL w S es.flatten l2 ∧ (Builtin.append_ #[t, t] ty #[v, v2]).run P w = .ok v' w' ∧ w'.ownsRow B e 1 v' (xs ++ l2).length (xs ++ l2) ∧ w.grownBy w' v.ownBlock ∧ (v' = .slice none 0 0 → v = .slice none 0 0) := by
  obtain ⟨base2, cap2, rfl, _⟩ := id hy
  obtain ⟨_, hm, hcap2, hnil2, l2, hl2, hl2c⟩ := lst_values hy
  have len2 : l2.length = es.length := by rw [RepL.length hl2, flatten_length hes, Nat.mul_one]
  cases base2 with
  | none =>
    have h0 : cap2 = 0 := hnil2 rfl
    have hes0 : es = [] := List.eq_nil_of_length_eq_zero (by omega)
    subst hes0
    have hl0 : l2 = [] := List.eq_nil_of_length_eq_zero (by simpa using len2)
    subst hl0
    refine ⟨v, w, [], hl2, ?_, by simpa using hown, ⟨rfl, rfl, rfl, Nat.le_refl _, fun _ _ _ => rfl⟩, id⟩
    rcases hown.2 with ⟨rfl, _⟩ | ⟨g, cap, cur, rfl, _, _, hn, _⟩
    · exact run_append_zero w t ty e ie hu hie none 0 0 (Nat.le_refl _) none cap2
    · exact run_append_zero w t ty e ie hu hie _ _ _ hn none cap2
  | some a2 =>
    obtain ⟨_, hc2⟩ := hl2c a2 rfl
    obtain ⟨v', w', h1, h2, h3, h4⟩ := run_append_own (P := P) w B t ty e ie z 1 eb hu hie q4 q1 q2 q5 (by omega) v xs.length xs hown a2 es.length cap2 l2 (by omega) (fun j u hj => (hc2 j u hj).1) (RepL.ones hl2) h63 hby hB
    exact ⟨v', w', l2, hl2, h1, by rw [List.length_append, len2]; exact h2, h3, fun h => (h4.1 h).1⟩

def unionOps (t fs fc : Nat) : List (List OpC) :=
  [[(some 4, .assign (.const (.slice none 0 0)), none)],
   [(some 6, .buildSlice t 0 #[], none), (some 7, .move (.tmp 0), none), (some 8, .call ⟨.builtin .append, #[.tmp 6, .tmp 7], #[t, t]⟩, none), (some 9, .move (.tmp 1), none), (some 10, .call ⟨.builtin .append, #[.tmp 8, .tmp 9], #[t, t]⟩, none), (some 5, .assign (.tmp 10), none)],
   [(some 11, .move (.tmp 5), none), (some 12, .call ⟨.value (.func fs), #[.tmp 11], #[t]⟩, none)],
   [(some 13, .move (.tmp 5), none), (some 14, .call ⟨.value (.func fc), #[.tmp 13], #[t]⟩, none), (some 4, .assign (.tmp 14), none)]]
abbrev sorted (ss : List (List UInt8)) : List (List UInt8) := ss.mergeSort fun x y => decide (x ≤ y)
def SortLaw (P : Program) (f : FuncId) : Prop := ∀ (blk off cap : Nat) (ss : List (List UInt8)) (w : World), Holds encStr w blk off ss.toArray → blk < w.heap.size → ss.length < 4611686018427387904 →
    Calls P f #[.slice (some ⟨blk, off, none⟩) ss.length cap] w fun e w' => e = .returned (.tuple #[]) ∧ ∃ n os, w' = grow (putRow encStr (Sort.ahead w n) blk off (sorted ss).toArray) os
def CompactLaw (P : Program) (f : FuncId) : Prop := ∀ (blk off cap : Nat) (zs : List (List UInt8)) (w : World), Holds encStr w blk off zs.toArray → zs.length ≤ 9223372036854775807 → zs.length ≤ cap →
    Calls P f #[.slice (some ⟨blk, off, none⟩) zs.length cap] w fun e w' => e = .returned (.slice (some ⟨blk, off, none⟩) (Lib.compact zs).length cap) ∧ ∃ q, w' = putRow encStr (Sort.ahead w q) blk off (Lib.compact zs ++ List.replicate (zs.length - (Lib.compact zs).length) []).toArray
theorem compact_mem {zs : List (List UInt8)} {x : List UInt8} (h : x ∈ Lib.compact zs) : x ∈ zs := by
  unfold Lib.compact Lib.compactUpTo at h
  obtain ⟨i, hi, rfl⟩ := List.mem_map.1 h
  have := List.mem_range.1 (List.mem_filter.1 hi).1
  simp [getElem!_pos, this]
/-- the last state of a straight walk -/
theorem last_sim {P : Program} {G : Nat → Option (List D)} {w w' : World} {S S' : Safe} {N : Nat} {tmps : Array Value} (hglob : GlobOk P G w S) (hlive : Live w S) (hsz : tmps.size = N) (hb : Below w.heap.size w w') {k : Nat} {d : D} (hk : ∀ b o, S b o → S' b o) (hn : ∀ b o, S' b o → S b o ∨ w.heap.size ≤ b) (hl : Live w' S')
    (hr : Rep w' S' d (tmps.getD k undef)) : Sim { P := P, G := G, w0 := w, S0 := S, N := N } ⟨[(k, .d d)], [], []⟩ tmps w' S' ⟨fun _ => none, fun _ => none, fun _ => none⟩ := by
  have hkp : Keeps w S w' S' := fun b o hs => by
    obtain ⟨v, hv⟩ := hlive b o hs
    exact ⟨hk b o hs, hb.cell (p := ⟨b, o, none⟩) (cell_lt hv)⟩
  refine { size := hsz, slots := fun j => ?_, mem := fun s cs hs => (by simp [getM] at hs), inj := fun s s' b hs => (by cases hs), boxNew := fun _ _ => rfl, mps := { at' := fun s k e kvs hs => (by simp [getM] at hs), inj := fun s s' b hs => (by cases hs), new := fun _ _ => rfl, lt := fun s b hs => (by cases hs), apart := fun s b hs => (by cases hs) }, tok := fun t ht => (by simp [getT] at ht), tokNew := fun _ _ => rfl,
           below := (BelowO.refl _).grow hb, old := hk, new := fun b o hs => (hn b o hs).imp id .inl, live := hl, glob := fun g cs hg => RepCs.keep hkp g 0 cs (hglob.1 g cs hg), ex := hglob.2, fx := fun k hk => (by cases hk), obs := fun p hp => (by cases hp), keeps := fun p hp => (by cases hp) }
  simp only [getS]
  by_cases hj : k = j
  · subst hj; rw [if_pos rfl]; exact hr
  · rw [if_neg hj]; trivial
end Go.Abs
end
section
set_option linter.unusedSimpArgs false
set_option linter.unusedVariables false
set_option linter.unusedSectionVars false
namespace Go.Abs
open Go.Proofs
/-- the two lists' texts, in order, each once -/
def unionS (a b : List Str) : List Str := Lib.compact (sorted (a ++ b))
theorem mem_compact {zs : List Str} {x : Str} (h : x ∈ zs) : x ∈ Lib.compact zs := by
  obtain ⟨i, hi, hx⟩ := List.getElem_of_mem h
  have key : ∀ (n i : Nat) (hi : i < zs.length), i = n → zs[i] = x → x ∈ Lib.compact zs := by
    intro n
    induction n with
    | zero =>
      intro i hi hn hx
      subst hn
      refine List.mem_map.2 ⟨0, List.mem_filter.2 ⟨List.mem_range.2 hi, by simp [Lib.keeps]⟩, ?_⟩
      simp [getElem!_pos, hi, hx]
    | succ n ih =>
      intro i hi hn hx
      subst hn
      by_cases he : zs[n]'(by omega) = x
      · exact ih n (by omega) rfl he
      · refine List.mem_map.2 ⟨n + 1, List.mem_filter.2 ⟨List.mem_range.2 hi, ?_⟩, ?_⟩
        · simp only [Lib.keeps, decide_eq_true_eq]
          refine .inr ?_
          simp [getElem!_pos, hi, show n < zs.length by omega, hx]
          exact fun h => he h.symm
        · simp [getElem!_pos, hi, hx]
  exact key i i hi rfl hx
theorem mem_unionS {a b : List Str} {x : Str} : x ∈ unionS a b ↔ x ∈ a ∨ x ∈ b := by
  unfold unionS
  rw [← List.mem_append]
  exact ⟨fun h => List.mem_mergeSort.1 (compact_mem h), fun h => mem_compact (List.mem_mergeSort.2 h)⟩
/-- names.Union's contract -/
def UnionLaw (E : AEnv) : Prop := ∀ a b : List Str, a.length + b.length < 4398046511104 → E.C names_Union [.one (.lst (a.map fun s => [.str s])), .one (.lst (b.map fun s => [.str s]))] (.one (.lst ((unionS a b).map fun s => [.str s])))
/-- the variables' names, in the order of the nodes -/
def freeL (l : List Pred) : List Str := (l.filter fun q => q.op == 3).map Pred.name
def freeS (p : Pred) : List Str := unionS (freeL p.pre) []
theorem freeL_len (l : List Pred) : (freeL l).length ≤ l.length := by
  unfold freeL; rw [List.length_map]; exact List.length_filter_le _ _
/-- a node's name as the loop finds it, if it is a variable -/
def fv : List CV → List (List D)
  | [.agg (.int _ o :: .str s :: _)] => if o == 3 then [[.str s]] else []
  | _ => []
theorem fv_cells (o : Int) (s : Str) (n : Int) (ks : List Pred) : fv [.agg (Pred.cells (.mk o s n ks))] = if o == 3 then [[.str s]] else [] := by
  rw [Pred.cells_eq]; rfl
theorem fv_yields : ∀ l : List Pred, (yields l).flatMap fv = (freeL l).map fun s => [.str s]
  | [] => rfl
  | .mk o s n ks :: l => by
    have ih := fv_yields l
    unfold yields freeL at ih ⊢
    rw [List.map_cons, List.flatMap_cons, ih, fv_cells, List.filter_cons, show (Pred.mk o s n ks).op = o from rfl]
    cases h : (o == 3) <;> rfl
theorem fv_ones (l : List (List CV)) : ∀ e ∈ l.flatMap fv, e.length = 1 := by
  intro e he
  obtain ⟨x, _, hx⟩ := List.mem_flatMap.1 he
  unfold fv at hx
  split at hx
  · split at hx <;> simp at hx; subst hx; rfl
  · cases hx
set_option maxRecDepth 100000
variable {E : AEnv} (Z : Sys E)
include Z
theorem slices_Index_ev (l : List Str) (s : Str) : E.C slices_Index_string_string [.one (.lst (l.map fun k => [.str k])), .one (.str s)] (.one (.int .i64 (findIx s 0 l))) := by
  refine Z.slices_Index_string_string _ _ ⟨Nat.le_of_ble_eq_true rfl, ?_⟩
  simp only [fn_slices_Index_string_string, go_sem, Nat.reduceEqDiff, reduceCtorEq, Nat.reduceAdd, Nat.reduceLeDiff, Nat.reduceMul, Nat.reduceLT, Int.reduceToNat, Int.reduceLT, Int.reduceLE, Int.reduceEq, Nat.reduceSub]
  intro hlen
  refine loop_list l (fun done => s ∉ done) (fun done rest => ⟨[(8, .d (.int .i64 done.length)), (7, .d (.int .i64 l.length)), (0, .d (.lst (l.map fun k => [.str k]))), (1, .d (.str s))], [], []⟩) ?_ (by simp) ?_ ?_
  · exact Ent_plain (by simp only [go_sem, Nat.reduceEqDiff, reduceCtorEq, Nat.reduceAdd, Nat.reduceLeDiff, Nat.reduceMul, Nat.reduceLT, Int.reduceToNat, Int.reduceLT, Int.reduceLE, Int.reduceEq, Nat.reduceSub])
  · intro done k r hl hI
    have hlt := lt_mid hl
    have hw : IntKind.i64.wrap ((done.length : Int) + 1) = ((done.length + 1 : Nat) : Int) := wrap_succ (by omega)
    have hx : (l.map fun k => [D.str k]).getD done.length [] = [.str k] := by rw [hl]; exact getD_mid _ _ _ _ _
    have hls : (∀ e ∈ l.map fun k => [D.str k], e.length = 1) = True := eq_true (by simp)
    simp only [fn_slices_Index_string_string_L1, go_sem, Nat.reduceEqDiff, reduceCtorEq, Nat.reduceAdd, Nat.reduceLeDiff, Nat.reduceMul, Nat.reduceLT, Int.reduceToNat, Int.reduceLT, Int.reduceLE, Int.reduceEq, Nat.reduceSub, hlt, hx, hls]
    cases h1 : (s == k) with
    | true =>
      simp only [go_sem, Nat.reduceEqDiff, reduceCtorEq, Nat.reduceAdd, Nat.reduceLeDiff, Nat.reduceMul, Nat.reduceLT, Int.reduceToNat, Int.reduceLT, Int.reduceLE, Int.reduceEq, Nat.reduceSub]
      have h1 : k = s := by simpa using (beq_iff_eq.1 h1).symm
      rw [hl, findIx_app s done 0 _ hI, findIx, if_pos h1, Nat.zero_add]
    | false =>
      simp only [go_sem, Nat.reduceEqDiff, reduceCtorEq, Nat.reduceAdd, Nat.reduceLeDiff, Nat.reduceMul, Nat.reduceLT, Int.reduceToNat, Int.reduceLT, Int.reduceLE, Int.reduceEq, Nat.reduceSub, hw, List.length_append]
      refine ⟨Ent_plain (by simp only [go_sem, Nat.reduceEqDiff, reduceCtorEq, Nat.reduceAdd, Nat.reduceLeDiff, Nat.reduceMul, Nat.reduceLT, Int.reduceToNat, Int.reduceLT, Int.reduceLE, Int.reduceEq, Nat.reduceSub]), ?_⟩
      have h1 : s ≠ k := by simpa using h1
      simp only [List.mem_append, List.mem_singleton, not_or]
      exact ⟨hI, h1⟩
  · intro hI
    simp only [fn_slices_Index_string_string_L1, go_sem, Nat.reduceEqDiff, reduceCtorEq, Nat.reduceAdd, Nat.reduceLeDiff, Nat.reduceMul, Nat.reduceLT, Int.reduceToNat, Int.reduceLT, Int.reduceLE, Int.reduceEq, Nat.reduceSub, findIx_none s l 0 hI]
theorem names_Find_ev (l : List Str) (s : Str) : E.C names_Find [.one (.lst (l.map fun k => [.str k])), .one (.str s)] (.one (.int .i64 (findIx s 0 l))) := by
  have h := slices_Index_ev Z l s
  refine Z.names_Find _ _ ⟨Nat.le_of_ble_eq_true rfl, ?_⟩
  simp only [fn_names_Find, go_sem, Nat.reduceEqDiff, reduceCtorEq, Nat.reduceAdd, Nat.reduceLeDiff, Nat.reduceMul, Nat.reduceLT, Int.reduceToNat, Int.reduceLT, Int.reduceLE, Int.reduceEq, Nat.reduceSub]
  refine call_by h ?_
  simp only [go_sem, Nat.reduceEqDiff, reduceCtorEq, Nat.reduceAdd, Nat.reduceLeDiff, Nat.reduceMul, Nat.reduceLT, Int.reduceToNat, Int.reduceLT, Int.reduceLE, Int.reduceEq, Nat.reduceSub]
theorem pred_SubstAll_ev (names : List Str) (by' : List Pred) (hb : ∀ b ∈ by', Tame b) (p : Pred) (hp : Tame p) : E.C pred_SubstAll [.agg p.cells, .one (.lst (names.map fun k => [.str k])), .one (.lst (by'.map Pred.cells))] (.agg (subAll names by' p).cells) := by
  induction p using Pred.ind with
  | h o s n ks ih =>
  have hk : Small ks.length := hp.top
  unfold Small at hk
  have hfind := names_Find_ev Z names s
  have hcp := fun q hq => pred_copied_ev Z q hq
  refine Z.pred_SubstAll _ _ ⟨Nat.le_of_ble_eq_true rfl, ?_⟩
  generalize hR : subAll names by' (.mk o s n ks) = R
  rw [subAll_eq] at hR
  generalize findIx s 0 names = ix at *
  rw [Pred.cells_eq (.mk o s n ks)] at *
  have hrs : fn_pred_SubstAll.rs = [.c 6 true 4] := rfl
  have tail : ∀ (st : St), (o == 3 && (decide (ix ≥ 0) && decide (ix < by'.length))) = false → getS st.slots 3 = .ptr 3 0 → getS st.slots 6 = .ptr 6 0 → getS st.slots 1 = .d (.lst (names.map fun k => [.str k])) → getS st.slots 2 = .d (.lst (by'.map Pred.cells)) → st.mem = [(6, [.d (.int .i64 0), .d (.str []), .d (.int .i64 0), .full []]), (3, [.d (.int .i64 o), .d (.str s), .d (.int .i64 n), .d (.lst (ks.map Pred.cells))])] → st.tk = [] →
      ∀ N, N = awp E (.seq (.reg [(none, .fa 31 0 (.t 3)), (none, .ld 32 false 1 (.t 31)), (none, .fa 33 1 (.t 3)), (none, .ld 34 false 1 (.t 33)), (none, .fa 35 2 (.t 3)), (none, .ld 36 false 1 (.t 35)), (none, .build 37 [.d (.int .i64 0), .d (.str []), .d (.int .i64 0), .full []] [(0, 1, .t 32), (1, 1, .t 34), (2, 1, .t 36)]), (none, .alloc 8 [.d (.int .i64 0), .d (.str []), .d (.int .i64 0), .full []]), (none, .st 4 (.t 8) (.t 37))]) (.seq (.seq (.reg [(none, .fa 38 3 (.t 3)), (none, .ld 39 false 1 (.t 38)), (none, .len 40 false (.t 39)), (none, .mv 41 (.c (.d (.int .i64 0))))]) (.block 0 (.loop fn_pred_SubstAll_L1))) (.seq (.reg [(none, .ld 55 true 4 (.t 8)), (none, .st 4 (.t 6) (.t 55))]) (.ret)))) (retK fn_pred_SubstAll.rs (.agg (Pred.cells R))) → N st := by
    intro st hc e3 e6 e1 e2 em et N hN
    rw [hc] at hR
    obtain ⟨sl, mm, tk⟩ := st
    simp only at e3 e6 e1 e2 em et
    subst em; subst et
    rw [hN]
    simp only [go_sem, Nat.reduceEqDiff, reduceCtorEq, Nat.reduceAdd, Nat.reduceLeDiff, Nat.reduceMul, Nat.reduceLT, Int.reduceToNat, Int.reduceLT, Int.reduceLE, Int.reduceEq, Nat.reduceSub, e3, e6, e1, e2]
    intro hlen
    refine loop_named fun K' hK => ?_
    refine loop_list ks (fun _ => True) (fun done rest => ⟨[(41, .d (.int .i64 done.length)), (40, .d (.int .i64 ks.length)), (39, .d (.lst (ks.map Pred.cells))), (8, .ptr 8 0), (1, .d (.lst (names.map fun k => [.str k]))), (2, .d (.lst (by'.map Pred.cells))), (3, .ptr 3 0), (6, .ptr 6 0)], [(8, [.d (.int .i64 o), .d (.str s), .d (.int .i64 n), .own 8 4 ((done.map (subAll names by')).map Pred.cells)]), (6, [.d (.int .i64 0), .d (.str []), .d (.int .i64 0), .full []]), (3, [.d (.int .i64 o), .d (.str s), .d (.int .i64 n), .d (.lst (ks.map Pred.cells))])], [(8, true)]⟩) ?_ trivial ?_ ?_
    · exact Ent_convm 8 3 8 4 _ [] [(8, 8)] rfl rfl (by simp) rfl (by simp only [Ent0, go_sem, Nat.reduceEqDiff, reduceCtorEq, Nat.reduceAdd, Nat.reduceLeDiff, Nat.reduceMul, Nat.reduceLT, Int.reduceToNat, Int.reduceLT, Int.reduceLE, Int.reduceEq, Nat.reduceSub, List.contains_nil, Option.isSome_some, e3, e6, e1, e2])
    · intro done k r hl _
      have hk' := ih k (by rw [hl]; simp) (hp.kid (by rw [hl]; simp))
      have hlt := lt_mid hl
      have hw : IntKind.i64.wrap ((done.length : Int) + 1) = ((done.length + 1 : Nat) : Int) := wrap_succ (by omega)
      have ha1 : (done.length + 1) * 56 ≤ 2 ^ 46 := by omega
      simp only [fn_pred_SubstAll_L1, go_sem, Nat.reduceEqDiff, reduceCtorEq, Nat.reduceAdd, Nat.reduceLeDiff, Nat.reduceMul, Nat.reduceLT, Int.reduceToNat, Int.reduceLT, Int.reduceLE, Int.reduceEq, Nat.reduceSub, hlt, getD_midP hl]
      refine call_by hk' ?_
      simp only [go_sem, Nat.reduceEqDiff, reduceCtorEq, Nat.reduceAdd, Nat.reduceLeDiff, Nat.reduceMul, Nat.reduceLT, Int.reduceToNat, Int.reduceLT, Int.reduceLE, Int.reduceEq, Nat.reduceSub, hw, List.length_append, List.length_map, List.map_append, Pred.lens_true]
      refine ⟨⟨by simp [Pred.cells_length], ha1, by omega⟩, Ent_own [(8, 52)] ?_⟩
      simp only [go_sem, Nat.reduceEqDiff, reduceCtorEq, Nat.reduceAdd, Nat.reduceLeDiff, Nat.reduceMul, Nat.reduceLT, Int.reduceToNat, Int.reduceLT, Int.reduceLE, Int.reduceEq, Nat.reduceSub, List.contains_nil, Option.isSome_some]
    · intro _
      simp only [fn_pred_SubstAll_L1, go_sem, Nat.reduceEqDiff, reduceCtorEq, Nat.reduceAdd, Nat.reduceLeDiff, Nat.reduceMul, Nat.reduceLT, Int.reduceToNat, Int.reduceLT, Int.reduceLE, Int.reduceEq, Nat.reduceSub, hK, Pred.op, Pred.name, Pred.n, Pred.kids] at hR ⊢
      rw [← hR]
      simp only [go_sem, Nat.reduceEqDiff, reduceCtorEq, Nat.reduceAdd, Nat.reduceLeDiff, Nat.reduceMul, Nat.reduceLT, Int.reduceToNat, Int.reduceLT, Int.reduceLE, Int.reduceEq, Nat.reduceSub, hrs, Pred.cells_eq (.mk o s n (ks.map (subAll names by'))), Pred.op, Pred.name, Pred.n, Pred.kids]
  refine seq_named fun N0 h0 => ?_
  simp only [go_sem, Nat.reduceEqDiff, reduceCtorEq, Nat.reduceAdd, Nat.reduceLeDiff, Nat.reduceMul, Nat.reduceLT, Int.reduceToNat, Int.reduceLT, Int.reduceLE, Int.reduceEq, Nat.reduceSub, Pred.op, Pred.name, Pred.n, Pred.kids]
  rw [h0]
  refine seq_named fun N1 h1 => ?_
  cases c3 : (o == 3) with
  | false =>
    simp only [go_sem, Nat.reduceEqDiff, reduceCtorEq, Nat.reduceAdd, Nat.reduceLeDiff, Nat.reduceMul, Nat.reduceLT, Int.reduceToNat, Int.reduceLT, Int.reduceLE, Int.reduceEq, Nat.reduceSub, c3]
    exact tail _ (by rw [c3]; rfl) rfl rfl rfl rfl rfl rfl N1 h1
  | true =>
    simp only [go_sem, Nat.reduceEqDiff, reduceCtorEq, Nat.reduceAdd, Nat.reduceLeDiff, Nat.reduceMul, Nat.reduceLT, Int.reduceToNat, Int.reduceLT, Int.reduceLE, Int.reduceEq, Nat.reduceSub, c3]
    refine call_by hfind ?_
    simp only [go_sem, Nat.reduceEqDiff, reduceCtorEq, Nat.reduceAdd, Nat.reduceLeDiff, Nat.reduceMul, Nat.reduceLT, Int.reduceToNat, Int.reduceLT, Int.reduceLE, Int.reduceEq, Nat.reduceSub]
    intro _
    cases c4 : (decide (ix ≥ 0) && decide (ix < by'.length)) with
    | false =>
      simp only [go_sem, Nat.reduceEqDiff, reduceCtorEq, Nat.reduceAdd, Nat.reduceLeDiff, Nat.reduceMul, Nat.reduceLT, Int.reduceToNat, Int.reduceLT, Int.reduceLE, Int.reduceEq, Nat.reduceSub]
      exact tail _ (by rw [c3, c4]; rfl) rfl rfl rfl rfl rfl rfl N1 h1
    | true =>
      simp only [c3, c4, go_sem, Nat.reduceEqDiff, reduceCtorEq, Nat.reduceAdd, Nat.reduceLeDiff, Nat.reduceMul, Nat.reduceLT, Int.reduceToNat, Int.reduceLT, Int.reduceLE, Int.reduceEq, Nat.reduceSub] at hR ⊢
      simp only [Bool.and_eq_true, decide_eq_true_eq] at c4
      have hlt : ix.toNat < by'.length := by omega
      have hge : (0 ≤ ix) = True := eq_true (by omega)
      have hlt' : (ix < (by'.length : Int)) = True := eq_true c4.2
      have hq := hcp R (by
        rw [← hR, List.getD_eq_getElem?_getD, List.getElem?_eq_getElem hlt]
        exact hb _ (List.getElem_mem hlt))
      simp only [hge, hlt', getD_mapP _ _ hlt, go_sem, Nat.reduceEqDiff, reduceCtorEq, Nat.reduceAdd, Nat.reduceLeDiff, Nat.reduceMul, Nat.reduceLT, Int.reduceToNat, Int.reduceLT, Int.reduceLE, Int.reduceEq, Nat.reduceSub, hR]
      refine call_by hq ?_
      simp only [go_sem, Nat.reduceEqDiff, reduceCtorEq, Nat.reduceAdd, Nat.reduceLeDiff, Nat.reduceMul, Nat.reduceLT, Int.reduceToNat, Int.reduceLT, Int.reduceLE, Int.reduceEq, Nat.reduceSub, hrs]
theorem pred_Subst_ev (s : Str) (by' p : Pred) (hb : Tame by') (hp : Tame p) : E.C pred_Subst [.agg p.cells, .one (.str s), .agg by'.cells] (.agg (subAll [s] [by'] p).cells) := by
  have h := pred_SubstAll_ev Z [s] [by'] (by simpa using hb) p hp
  refine Z.pred_Subst _ _ ⟨Nat.le_of_ble_eq_true rfl, ?_⟩
  generalize subAll [s] [by'] p = R at *
  rw [Pred.cells_eq p, Pred.cells_eq by', Pred.cells_eq R] at *
  simp only [List.map_cons, List.map_nil, Pred.cells_eq by'] at h
  simp only [fn_pred_Subst, go_sem, Nat.reduceEqDiff, reduceCtorEq, Nat.reduceAdd, Nat.reduceLeDiff, Nat.reduceMul, Nat.reduceLT, Int.reduceToNat, Int.reduceLT, Int.reduceLE, Int.reduceEq, Nat.reduceSub]
  refine call_by h ?_
  simp only [go_sem, Nat.reduceEqDiff, reduceCtorEq, Nat.reduceAdd, Nat.reduceLeDiff, Nat.reduceMul, Nat.reduceLT, Int.reduceToNat, Int.reduceLT, Int.reduceLE, Int.reduceEq, Nat.reduceSub]
theorem pred_Free_ev (hU : UnionLaw E) (hIt : ∀ p, E.It pred_before_1 [.ref (Pred.cells p)] (yields p.pre)) (p : Pred) (hp : p.pre.length ≤ 1048576) : E.C pred_Free [.agg p.cells] (.one (.lst ((freeS p).map fun s => [.str s]))) := by
  have h3 := pred_before_ev Z p
  have hit := hIt p
  have hu := hU (freeL p.pre) [] (by have := freeL_len p.pre; simp only [List.length_nil]; omega)
  refine Z.pred_Free _ _ ⟨Nat.le_of_ble_eq_true rfl, ?_⟩
  unfold freeS
  generalize unionS (freeL p.pre) [] = U at *
  rw [Pred.cells_eq] at *
  simp only [fn_pred_Free, go_sem, Nat.reduceEqDiff, reduceCtorEq, Nat.reduceAdd, Nat.reduceLeDiff, Nat.reduceMul, Nat.reduceLT, Int.reduceToNat, Int.reduceLT, Int.reduceLE, Int.reduceEq, Nat.reduceSub]
  refine call_by h3 ?_
  simp only [go_sem, Nat.reduceEqDiff, reduceCtorEq, Nat.reduceAdd, Nat.reduceLeDiff, Nat.reduceMul, Nat.reduceLT, Int.reduceToNat, Int.reduceLT, Int.reduceLE, Int.reduceEq, Nat.reduceSub]
  refine rng_by hit (fun a => ∃ l, a = yields l) (fun a => ⟨[(3, .ptr 3 0)], [(3, [.own 3 1 (a.flatMap fv)])], [(3, true)]⟩) ?_ ⟨[], rfl⟩ ?_ ?_
  · exact Ent_convm 3 0 3 1 _ [] [(3, 3)] rfl rfl (by simp) rfl (by simp only [Ent0, go_sem, Nat.reduceEqDiff, reduceCtorEq, Nat.reduceAdd, Nat.reduceLeDiff, Nat.reduceMul, Nat.reduceLT, Int.reduceToNat, Int.reduceLT, Int.reduceLE, Int.reduceEq, Nat.reduceSub, List.contains_nil, Option.isSome_some, List.flatMap_nil])
  · intro a x b hx ⟨l, hl⟩
    obtain ⟨a', q, b', e1, rfl, rfl⟩ := yields_mid hx
    refine ⟨rfl, ?_⟩
    have hlen : (freeL a').length + 1 ≤ 1048576 := by
      have h1 := freeL_len a'
      have h2 := congrArg List.length e1
      simp only [List.length_append, List.length_cons] at h2
      omega
    rw [List.flatMap_append]
    have hones := fv_ones (yields a')
    have hlen2 : ((yields a').flatMap fv).length + 1 ≤ 1048576 := by rw [fv_yields, List.length_map]; exact hlen
    generalize (yields a').flatMap fv = fs at *
    obtain ⟨o, s, n, ks⟩ := q
    have hfv := fv_cells o s n ks
    simp only [List.flatMap_cons, List.flatMap_nil, List.append_nil, hfv]
    have hy : yields a' ++ [[CV.agg (Pred.cells (.mk o s n ks))]] = yields (a' ++ [.mk o s n ks]) := by simp [yields]
    rw [hy, Pred.cells_eq]
    simp only [fn_pred_Free_A1, fn_pred_Free_B1, go_sem, Nat.reduceEqDiff, reduceCtorEq, Nat.reduceAdd, Nat.reduceLeDiff, Nat.reduceMul, Nat.reduceLT, Int.reduceToNat, Int.reduceLT, Int.reduceLE, Int.reduceEq, Nat.reduceSub, Pred.op, Pred.name, Pred.n, Pred.kids]
    cases h2 : (o == 3) with
    | true =>
      have ha1 : (fs.length + 1) * 16 ≤ 2 ^ 46 := by omega
      simp only [h2, go_sem, Nat.reduceEqDiff, reduceCtorEq, Nat.reduceAdd, Nat.reduceLeDiff, Nat.reduceMul, Nat.reduceLT, Int.reduceToNat, Int.reduceLT, Int.reduceLE, Int.reduceEq, Nat.reduceSub]
      refine ⟨⟨by simp, ha1, by omega⟩, Ent_own [(3, 15)] ?_, a' ++ [.mk o s n ks], rfl⟩
      simp only [go_sem, Nat.reduceEqDiff, reduceCtorEq, Nat.reduceAdd, Nat.reduceLeDiff, Nat.reduceMul, Nat.reduceLT, Int.reduceToNat, Int.reduceLT, Int.reduceLE, Int.reduceEq, Nat.reduceSub, List.contains_nil, Option.isSome_some]
    | false =>
      simp only [h2, go_sem, Nat.reduceEqDiff, reduceCtorEq, Nat.reduceAdd, Nat.reduceLeDiff, Nat.reduceMul, Nat.reduceLT, Int.reduceToNat, Int.reduceLT, Int.reduceLE, Int.reduceEq, Nat.reduceSub]
      exact ⟨Ent_own [(3, 3)] (by simp only [go_sem, Nat.reduceEqDiff, reduceCtorEq, Nat.reduceAdd, Nat.reduceLeDiff, Nat.reduceMul, Nat.reduceLT, Int.reduceToNat, Int.reduceLT, Int.reduceLE, Int.reduceEq, Nat.reduceSub, List.contains_nil, Option.isSome_some]), a' ++ [.mk o s n ks], rfl⟩
  · intro _
    rw [fv_yields]
    simp only [go_sem, Nat.reduceEqDiff, reduceCtorEq, Nat.reduceAdd, Nat.reduceLeDiff, Nat.reduceMul, Nat.reduceLT, Int.reduceToNat, Int.reduceLT, Int.reduceLE, Int.reduceEq, Nat.reduceSub]
    refine call_by hu ?_
    simp only [go_sem, Nat.reduceEqDiff, reduceCtorEq, Nat.reduceAdd, Nat.reduceLeDiff, Nat.reduceMul, Nat.reduceLT, Int.reduceToNat, Int.reduceLT, Int.reduceLE, Int.reduceEq, Nat.reduceSub]
end Go.Abs
end
section
set_option linter.unusedSimpArgs false
set_option linter.unusedVariables false
set_option linter.unusedSectionVars false
namespace Go.Abs
open Go.RowKit Go.Sort Go.Proofs
theorem ops_nil {F : Fence} {n : Nat} {P : Program} {ops : Array Oper} {Q : Exit → Act → World → Prop} {a : Act} {w : World} (h : Q .normal a w) : wpOpsIn F n P ops Q [] a w := h
theorem run_mv {P : Program} {a : Act} {w : World} {x : Operand} {o : Oper} (ho : o.op = .move x) : (execOp a.eval o).run P w = .ok (.value (a.eval x)) w := by
  unfold execOp; simp [ho]
theorem run_asg {P : Program} {a : Act} {w : World} {x : Operand} {o : Oper} (ho : o.op = .assign x) : (execOp a.eval o).run P w = .ok (.value (a.eval x)) w := by
  unfold execOp; simp [ho]
theorem run_app {P : Program} {a : Act} {w w' : World} {x y : Operand} {t : Nat} {v : Value} {o : Oper} (ho : o.op = .call ⟨.builtin .append, #[x, y], #[t, t]⟩) (h : ∀ ty, (Builtin.append_ #[t, t] ty #[a.eval x, a.eval y]).run P w = .ok v w') : (execOp a.eval o).run P w = .ok (.value v) w' := by
  unfold execOp; simp [ho, resolve, invoke, builtin, h]
theorem run_fn {P : Program} {a : Act} {w : World} {x : Operand} {t : Nat} {f : FuncId} {o : Oper} (hen : Enters P f) (ho : o.op = .call ⟨.value (.func f), #[x], #[t]⟩) : (execOp a.eval o).run P w = .ok (.enter f #[a.eval x]) w := by
  obtain ⟨fn, hfn, hname, hbody⟩ := hen
  have hname' : ¬ fn.name = "runtime.NumGoroutine" := by simpa using hname
  have hbody' : ¬ fn.body = none := by intro e; simp [e] at hbody
  unfold execOp
  simp [ho, resolve, invoke, callFunc, Deferred.ofValue, Act.eval, hfn, hname', hbody']
theorem run_bsl0 {P : Program} {a : Act} {w : World} {t e : TypeId} {ie : TypeInfo} {o : Oper} (hu : P.underlying t = some (.slice e)) (hie : P.info? e = some ie) (ho : o.op = .buildSlice t 0 #[]) : (execOp a.eval o).run P w = .ok (.value (.slice (some ⟨w.heap.size, 0, none⟩) 0 0)) (w.alloc (.cells #[] e)) := by
  unfold execOp
  simp [ho, Instr.buildSlice, run_underlying hu, run_sizeOf hie, Instr.fill, newRow]
  congr 2
  exact Array.ext (by simp) (by simp)
theorem union_ev {P : Program} {G : Nat → Option (List D)} {f fs fc t : Nat} {eb : Nat} {T : Nat → Option Ty} {fn : Func} {cd : Code} (hf : P.funcs[f]? = some fn) (hname : (fn.name == "runtime.NumGoroutine") = false) (hcd : fn.body = some cd)
    (hseg : (segs cd).map (fun l => l.map fun p => p.2.toList.map opc) = some (unionOps t fs fc)) (hnt : fn.ntmps = 15) (hres : fn.results.toList.mapM (trRes T) = some [.t 4]) (hT : ∀ t ty, T t = some ty → chkTy P t ty = true) (ht : chkTy P t (.slice 1 eb) = true) (heb : eb ≤ 16)
    (hes : Enters P fs) (hec : Enters P fc) (hsort : SortLaw P fs) (hcomp : CompactLaw P fc) (sa sb : List (List UInt8)) (hlen : sa.length + sb.length < 4398046511104) :
    Ev P G f [.one (.lst (sa.map fun s => [.str s])), .one (.lst (sb.map fun s => [.str s]))] (.one (.lst ((Lib.compact (sorted (sa ++ sb))).map fun s => [.str s]))) := by
  obtain ⟨e, ie, z, hu, hie, q1, q2, q3, q4, q5⟩ := slice_facts ht
  refine ⟨⟨fn, hf, hname, by simp [hcd]⟩, fun w S cargs hlive hglob hargs => ?_⟩
  obtain ⟨va, r, e1, h1, vb, r2, rfl, h2, e3⟩ := hargs
  simp only [RepCL] at e3
  subst e3
  obtain rfl : cargs = #[va, vb] := by cases cargs; simp_all
  have h1 : Rep w S (.lst (sa.map fun s => [.str s])) va := h1
  have h2 : Rep w S (.lst (sb.map fun s => [.str s])) vb := h2
  have one : ∀ (l : List (List UInt8)), ∀ x ∈ (l.map fun s => [D.str s]), x.length = 1 := fun l x hx => by
    obtain ⟨s, _, rfl⟩ := List.mem_map.1 hx; rfl
  obtain ⟨i0, r0, c0, rfl, hl0, hseg⟩ := segs_map hseg
  obtain ⟨i1, r1, c1, rfl, hl1, hseg⟩ := segs_map hseg
  obtain ⟨i2, r2, c2, rfl, hl2, hseg⟩ := segs_map hseg
  obtain ⟨i3, r3, c3, rfl, hl3, hseg⟩ := segs_map hseg
  obtain rfl := segs_end hseg
  refine callsIn_wide.1 (callsIn_of_wp_marks (n := 0) (R := Gives w S _) hf hcd trivial ?_)
  have hT0 : #[va, vb] ++ Array.replicate (fn.ntmps - #[va, vb].size) undef = #[va, vb, undef, undef, undef, undef, undef, undef, undef, undef, undef, undef, undef, undef, undef] := by rw [hnt]; rfl
  rw [hT0]
  have hF : FW Fence.wide := FW.wide
  refine wpIn_seq (wpIn_ops hl0 ?_)
  show wpOpsIn _ _ _ _ _ [0] _ _
  rw [wpOpsIn_cons]
  refine wpOp_val hF (v := .slice none 0 0) (by rw [hl0]; rfl) (by simp) (fun o ho => run_asg ho) ?_
  refine ops_nil ?_
  show Code.wpIn _ _ _ _ _ ⟨#[va, vb, undef, undef, .slice none 0 0, undef, undef, undef, undef, undef, undef, undef, undef, undef, undef], []⟩ _
  refine wpIn_seq (wpIn_ops hl1 ?_)
  show wpOpsIn _ _ _ _ _ [0, 1, 2, 3, 4, 5] _ _
  simp only [wpOpsIn_cons]
  refine wpOp_val hF (v := (.slice (some ⟨w.heap.size, 0, none⟩) 0 0)) (by rw [hl1]; rfl) (by simp) (fun o ho => run_bsl0 hu hie ho) ?_
  show wpOpIn _ _ _ _ _ _ _ ⟨#[va, vb, undef, undef, .slice none 0 0, undef, (.slice (some ⟨w.heap.size, 0, none⟩) 0 0), undef, undef, undef, undef, undef, undef, undef, undef], []⟩ _
  refine wpOp_val hF (v := va) (by rw [hl1]; rfl) (by simp) (fun o ho => run_mv ho) ?_
  show wpOpIn _ _ _ _ _ _ _ ⟨#[va, vb, undef, undef, .slice none 0 0, undef, (.slice (some ⟨w.heap.size, 0, none⟩) 0 0), va, undef, undef, undef, undef, undef, undef, undef], []⟩ _
  -- what was there is as it was
  have keep : ∀ {w' : World}, Below w.heap.size w w' → Keeps w S w' S := fun hb b o hs => by
    obtain ⟨v, hv⟩ := hlive b o hs
    exact ⟨hs, hb.cell (p := ⟨b, o, none⟩) (cell_lt hv)⟩
  have hb1 : Below w.heap.size w (w.alloc (.cells #[] e)) := (Below.refl _ _).alloc (Nat.le_refl _) _
  have own1 : (w.alloc (.cells #[] e)).ownsRow w.heap.size e 1 (.slice (some ⟨w.heap.size, 0, none⟩) 0 0) ([] : List Value).length [] :=
    ⟨rfl, .inr ⟨w.heap.size, 0, #[], rfl, Nat.le_refl _, heap_alloc_new w _, Nat.le_refl _, by unfold maxLen; omega, rfl, rfl⟩⟩
  obtain ⟨v8, w2, l2, hl2r, hrun2, own2, hg2, hn2⟩ := own_app (ty := t) (eb := eb) hu hie q1 q2 q4 q5 own1 (Rep.keep (keep hb1) _ _ h1) (one sa) (by have := hb1.size; exact this) (by simp only [List.length_nil, List.length_map]; unfold maxLen; omega) (by
    simp only [List.length_nil, List.length_map, Nat.zero_add]
    exact Nat.le_trans (Nat.mul_le_mul (Nat.le_of_lt (by omega : sa.length < 4398046511104)) heb) (by omega))
  obtain ⟨rfl, hsa⟩ := strs_values hl2r
  have hb2 : Below w.heap.size w w2 := hb1.grown hg2 hb1.size (fun k hk => (own1.lt k hk).1)
  obtain ⟨v10, w3, l3, hl3r, hrun3, own3, hg3, hn3⟩ := own_app (ty := t) (eb := eb) hu hie q1 q2 q4 q5 own2 (Rep.keep (keep hb2) _ _ h2) (one sb) hb2.size (by simp only [List.length_nil, List.length_map, List.nil_append]; unfold maxLen; omega) (by
    simp only [List.length_nil, List.length_map, List.nil_append]
    exact Nat.le_trans (Nat.mul_le_mul (Nat.le_of_lt hlen) heb) (by omega))
  obtain ⟨rfl, hsb⟩ := strs_values hl3r
  have hb3 : Below w.heap.size w w3 := hb2.grown hg3 hb2.size (fun k hk => (own2.lt k hk).1)
  simp only [List.nil_append] at own3 hn3 own2
  rw [← List.map_append] at own3
  have hnn : v10 ≠ .slice none 0 0 := fun h => by have := hn2 (hn3 h); cases this
  obtain ⟨g, cap, rfl, hgB, hgw, hgc, hgm, _, hHold⟩ := Lib.holds_of_ownsRow own3 hnn
  have rty : ∀ (v v2 v' : Value) (wa wb : World), (∃ ty, (Builtin.append_ #[t, t] ty #[v, v2]).run P wa = .ok v' wb) → ∀ ty, (Builtin.append_ #[t, t] ty #[v, v2]).run P wa = .ok v' wb := fun v v2 v' wa wb ⟨ty, h⟩ ty' => h
  refine wpOp_val hF (v := v8) (by rw [hl1]; rfl) (by simp) (fun o ho => run_app (x := .tmp 6) (y := .tmp 7) ho (rty _ _ _ _ _ ⟨t, hrun2⟩)) ?_
  show wpOpIn _ _ _ _ _ _ _ ⟨#[va, vb, undef, undef, .slice none 0 0, undef, (.slice (some ⟨w.heap.size, 0, none⟩) 0 0), va, v8, undef, undef, undef, undef, undef, undef], []⟩ _
  refine wpOp_val hF (v := vb) (by rw [hl1]; rfl) (by simp) (fun o ho => run_mv ho) ?_
  show wpOpIn _ _ _ _ _ _ _ ⟨#[va, vb, undef, undef, .slice none 0 0, undef, (.slice (some ⟨w.heap.size, 0, none⟩) 0 0), va, v8, vb, undef, undef, undef, undef, undef], []⟩ _
  refine wpOp_val hF (v := (.slice (some ⟨g, 0, none⟩) (List.map encStr (sa ++ sb)).length cap)) (by rw [hl1]; rfl) (by simp) (fun o ho => run_app (x := .tmp 8) (y := .tmp 9) ho (rty _ _ _ _ _ ⟨t, hrun3⟩)) ?_
  show wpOpIn _ _ _ _ _ _ _ ⟨#[va, vb, undef, undef, .slice none 0 0, undef, (.slice (some ⟨w.heap.size, 0, none⟩) 0 0), va, v8, vb, (.slice (some ⟨g, 0, none⟩) (List.map encStr (sa ++ sb)).length cap), undef, undef, undef, undef], []⟩ _
  refine wpOp_val hF (v := (.slice (some ⟨g, 0, none⟩) (List.map encStr (sa ++ sb)).length cap)) (by rw [hl1]; rfl) (by simp) (fun o ho => run_asg ho) ?_
  refine ops_nil ?_
  show Code.wpIn _ _ _ _ _ ⟨#[va, vb, undef, undef, .slice none 0 0, (.slice (some ⟨g, 0, none⟩) (List.map encStr (sa ++ sb)).length cap), (.slice (some ⟨w.heap.size, 0, none⟩) 0 0), va, v8, vb, (.slice (some ⟨g, 0, none⟩) (List.map encStr (sa ++ sb)).length cap), undef, undef, undef, undef], []⟩ _
  refine wpIn_seq (wpIn_ops hl2 ?_)
  show wpOpsIn _ _ _ _ _ [0, 1] _ _
  simp only [wpOpsIn_cons]
  refine wpOp_val hF (v := (.slice (some ⟨g, 0, none⟩) (List.map encStr (sa ++ sb)).length cap)) (by rw [hl2]; rfl) (by simp) (fun o ho => run_mv ho) ?_
  show wpOpIn _ _ _ _ _ _ _ ⟨#[va, vb, undef, undef, .slice none 0 0, (.slice (some ⟨g, 0, none⟩) (List.map encStr (sa ++ sb)).length cap), (.slice (some ⟨w.heap.size, 0, none⟩) 0 0), va, v8, vb, (.slice (some ⟨g, 0, none⟩) (List.map encStr (sa ++ sb)).length cap), (.slice (some ⟨g, 0, none⟩) (List.map encStr (sa ++ sb)).length cap), undef, undef, undef], []⟩ _
  have hlen3 : (List.map encStr (sa ++ sb)).length = (sa ++ sb).length := by simp
  refine wpOp_call hF (by rw [hl2]; rfl) (by simp) (fun o ho => run_fn hes ho) (R := fun e w' => e = .returned (.tuple #[]) ∧ ∃ n os, w' = grow (putRow encStr (Sort.ahead w3 n) g 0 (sorted (sa ++ sb)).toArray) os) ?_ ?_
  · have := hsort g 0 cap (sa ++ sb) w3 hHold hgw (by rw [List.length_append]; omega)
    rw [← hlen3] at this
    exact this
  rintro e' w4 ⟨rfl, nn, os, rfl⟩
  refine ⟨_, rfl, ?_⟩
  refine ops_nil ?_
  show Code.wpIn _ _ _ _ _ ⟨#[va, vb, undef, undef, .slice none 0 0, (.slice (some ⟨g, 0, none⟩) (List.map encStr (sa ++ sb)).length cap), (.slice (some ⟨w.heap.size, 0, none⟩) 0 0), va, v8, vb, (.slice (some ⟨g, 0, none⟩) (List.map encStr (sa ++ sb)).length cap), (.slice (some ⟨g, 0, none⟩) (List.map encStr (sa ++ sb)).length cap), .tuple #[], undef, undef], []⟩ _
  have hset : (sorted (sa ++ sb)).length = (sa ++ sb).length := by simp
  have hb4 : Below w.heap.size w (grow (putRow encStr (Sort.ahead w3 nn) g 0 (sorted (sa ++ sb)).toArray) os) := hb3.grown (grownBy_sorted _) hb3.size (fun k hk => by cases hk; exact hgB)
  obtain ⟨_, hshape⟩ := own3
  rcases hshape with ⟨h0, _⟩ | ⟨g', cap', cur, hv, _, hcell, hn3', hm3, hs3, ht3⟩
  · exact absurd h0 hnn
  obtain ⟨rfl, rfl⟩ : g = g' ∧ cap = cap' := by cases hv; exact ⟨rfl, rfl⟩
  rw [hlen3] at hn3'
  have own4 := ownsRow_sorted (n := nn) (os := os) hset hgB hcell hn3' hm3 hs3
  rw [← hset] at own4
  obtain ⟨g', cap', hv', _, hg4, _, _, _, hHold4⟩ := Lib.holds_of_ownsRow own4 (by simp)
  obtain ⟨rfl, rfl⟩ : g = g' ∧ cap = cap' := by cases hv'; exact ⟨rfl, rfl⟩
  refine wpIn_seq (wpIn_ops hl3 ?_)
  show wpOpsIn _ _ _ _ _ [0, 1, 2] _ _
  simp only [wpOpsIn_cons]
  refine wpOp_val hF (v := (.slice (some ⟨g, 0, none⟩) (List.map encStr (sa ++ sb)).length cap)) (by rw [hl3]; rfl) (by simp) (fun o ho => run_mv ho) ?_
  show wpOpIn _ _ _ _ _ _ _ ⟨#[va, vb, undef, undef, .slice none 0 0, (.slice (some ⟨g, 0, none⟩) (List.map encStr (sa ++ sb)).length cap), (.slice (some ⟨w.heap.size, 0, none⟩) 0 0), va, v8, vb, (.slice (some ⟨g, 0, none⟩) (List.map encStr (sa ++ sb)).length cap), (.slice (some ⟨g, 0, none⟩) (List.map encStr (sa ++ sb)).length cap), .tuple #[], (.slice (some ⟨g, 0, none⟩) (List.map encStr (sa ++ sb)).length cap), undef], []⟩ _
  refine wpOp_call hF (by rw [hl3]; rfl) (by simp) (fun o ho => run_fn hec ho) (R := fun e w' => e = .returned (.slice (some ⟨g, 0, none⟩) (Lib.compact (sorted (sa ++ sb))).length cap) ∧ ∃ q, w' = putRow encStr (Sort.ahead (grow (putRow encStr (Sort.ahead w3 nn) g 0 (sorted (sa ++ sb)).toArray) os) q) g 0 (Lib.compact (sorted (sa ++ sb)) ++ List.replicate ((sorted (sa ++ sb)).length - (Lib.compact (sorted (sa ++ sb))).length) []).toArray) ?_ ?_
  · show Calls P fc #[.slice (some ⟨g, 0, none⟩) (List.map encStr (sa ++ sb)).length cap] _ _
    rw [← show (sorted (sa ++ sb)).length = (List.map encStr (sa ++ sb)).length from hset.trans hlen3.symm]
    exact hcomp g 0 cap (sorted (sa ++ sb)) _ hHold4 (by rw [hset, List.length_append]; omega) (by rw [hset]; exact hn3')
  rintro e' w5 ⟨rfl, q, rfl⟩
  refine ⟨_, rfl, ?_⟩
  show wpOpIn _ _ _ _ _ _ _ ⟨#[va, vb, undef, undef, .slice none 0 0, (.slice (some ⟨g, 0, none⟩) (List.map encStr (sa ++ sb)).length cap), (.slice (some ⟨w.heap.size, 0, none⟩) 0 0), va, v8, vb, (.slice (some ⟨g, 0, none⟩) (List.map encStr (sa ++ sb)).length cap), (.slice (some ⟨g, 0, none⟩) (List.map encStr (sa ++ sb)).length cap), .tuple #[], (.slice (some ⟨g, 0, none⟩) (List.map encStr (sa ++ sb)).length cap), (.slice (some ⟨g, 0, none⟩) (Lib.compact (sorted (sa ++ sb))).length cap)], []⟩ _
  refine wpOp_val hF (v := (.slice (some ⟨g, 0, none⟩) (Lib.compact (sorted (sa ++ sb))).length cap)) (by rw [hl3]; rfl) (by simp) (fun o ho => run_asg ho) ?_
  refine ops_nil ?_
  show Code.wpIn _ _ _ _ _ ⟨#[va, vb, undef, undef, (.slice (some ⟨g, 0, none⟩) (Lib.compact (sorted (sa ++ sb))).length cap), (.slice (some ⟨g, 0, none⟩) (List.map encStr (sa ++ sb)).length cap), (.slice (some ⟨w.heap.size, 0, none⟩) 0 0), va, v8, vb, (.slice (some ⟨g, 0, none⟩) (List.map encStr (sa ++ sb)).length cap), (.slice (some ⟨g, 0, none⟩) (List.map encStr (sa ++ sb)).length cap), .tuple #[], (.slice (some ⟨g, 0, none⟩) (List.map encStr (sa ++ sb)).length cap), (.slice (some ⟨g, 0, none⟩) (Lib.compact (sorted (sa ++ sb))).length cap)], []⟩ _
  refine wpIn_ret ?_
  have hcl : (Lib.compact (sorted (sa ++ sb))).length ≤ (sorted (sa ++ sb)).length := Lib.compact_length_le _
  have hb5 := Lib.below_putRow (enc := encStr) (q := q) (d := (Lib.compact (sorted (sa ++ sb)) ++ List.replicate ((sorted (sa ++ sb)).length - (Lib.compact (sorted (sa ++ sb))).length) []).toArray) hb4 hgB
  have own5 := Lib.ownsRow_putRow (q := q) (ys := Lib.compact (sorted (sa ++ sb)) ++ List.replicate ((sorted (sa ++ sb)).length - (Lib.compact (sorted (sa ++ sb))).length) []) own4 (by rw [List.length_append, List.length_replicate]; omega) hcl
  rw [List.take_left' rfl] at own5
  generalize hW : putRow encStr (Sort.ahead (grow (putRow encStr (Sort.ahead w3 nn) g 0 (sorted (sa ++ sb)).toArray) os) q) g 0 (Lib.compact (sorted (sa ++ sb)) ++ List.replicate ((sorted (sa ++ sb)).length - (Lib.compact (sorted (sa ++ sb))).length) []).toArray = w5 at *
  have hcells := own5.cells (g := g) rfl
  have hsm : ∀ s ∈ Lib.compact (sorted (sa ++ sb)), s.length ≤ 9223372036854775807 := fun s hs => by
    have := List.mem_mergeSort.1 (compact_mem hs)
    rcases List.mem_append.1 this with h | h
    · exact hsa s h
    · exact hsb s h
  have hrep : Rep w5 (fun b o => S b o ∨ (b = g ∧ o < (Lib.compact (sorted (sa ++ sb))).length)) (.lst ((Lib.compact (sorted (sa ++ sb))).map fun s => [.str s])) (.slice (some ⟨g, 0, none⟩) (Lib.compact (sorted (sa ++ sb))).length cap) := by
    have := rep_lst_row (cap := cap) (b := g) (one (Lib.compact (sorted (sa ++ sb)))) (w := w5) (S := fun b o => S b o ∨ (b = g ∧ o < (Lib.compact (sorted (sa ++ sb))).length)) (values_strs hsm) (fun j v hj => ?_) (by rw [List.length_map]; exact Nat.le_trans hcl (by rw [hset]; exact hn3')) hm3
    · rw [List.length_map] at this; exact this
    · have hlt := (List.getElem?_eq_some_iff.1 hj).1
      have := hcells j v hj
      rw [addr_add, Nat.zero_add] at this
      exact ⟨this, .inr ⟨rfl, by simpa using hlt⟩⟩
  refine body_end (G := G) hT hres (Ext.refl _) (last_sim (k := 4) hglob hlive rfl hb5 (fun _ _ hs => .inl hs) (fun b o hs => ?_) (fun b o hs => ?_) hrep) ?_
  · rcases hs with hs | ⟨rfl, _⟩
    · exact .inl hs
    · exact .inr hgB
  · rcases hs with hs | ⟨rfl, ho⟩
    · obtain ⟨v, hv⟩ := hlive b o hs
      exact ⟨v, (hb5.cell (p := ⟨b, o, none⟩) (cell_lt hv)).trans hv⟩
    · have := hcells o (encStr ((Lib.compact (sorted (sa ++ sb)))[o])) (by rw [List.getElem?_map, List.getElem?_eq_getElem ho]; rfl)
      rw [addr_add, Nat.zero_add] at this
      exact ⟨_, this⟩
  · rfl
end Go.Abs
end
section
set_option linter.unusedSimpArgs false
set_option linter.unusedVariables false
set_option linter.unusedSectionVars false
namespace Go.Abs
namespace Pred
theorem pre_cnt (p : Pred) : p.pre.length ≤ p.cnt := by
  induction p using Pred.ind with
  | h o s n ks ih =>
  rw [pre_eq, cnt, List.length_cons]
  have : ∀ l : List Pred, (∀ k ∈ l, k.pre.length ≤ k.cnt) → (pre.pres l).length ≤ cnts l := by
    intro l
    induction l with
    | nil => intro _; simp [pre.pres, cnts]
    | cons a l ih =>
      intro h
      have h1 := h a (by simp)
      have h2 := ih fun k hk => h k (by simp [hk])
      rw [pre.pres, cnts, List.length_append]; omega
  have := this ks ih
  omega
end Pred
set_option maxRecDepth 100000
end Go.Abs
end
section
set_option linter.unusedSimpArgs false
set_option linter.unusedVariables false
set_option linter.unusedSectionVars false
namespace Go.Abs
open Go.Proofs
/-! ## lists of names in order, each once -/
def Inc (l : List Str) : Prop := l.Pairwise (· < ·)
theorem ltT {x y z : Str} (h : x < y) (h' : y < z) : x < z := List.lt_trans h h'
theorem ltI (x : Str) : ¬ x < x := List.lt_irrefl x
theorem lt_of_nle {x y : Str} (h : ¬ x < y) (h' : y ≠ x) : y < x := Std.lt_of_le_of_ne (List.not_lt.1 h) h'
theorem inc_ext : ∀ {a b : List Str}, Inc a → Inc b → (∀ x, x ∈ a ↔ x ∈ b) → a = b
  | [], [], _, _, _ => rfl
  | [], y :: b, _, _, h => absurd ((h y).2 (by simp)) (by simp)
  | x :: a, [], _, _, h => absurd ((h x).1 (by simp)) (by simp)
  | x :: a, y :: b, ha, hb, h => by
    obtain ⟨ha1, ha2⟩ := List.pairwise_cons.1 ha
    obtain ⟨hb1, hb2⟩ := List.pairwise_cons.1 hb
    have hxy : x = y := by
      rcases List.mem_cons.1 ((h x).1 (by simp)) with h1 | h1
      · exact h1
      · rcases List.mem_cons.1 ((h y).2 (by simp)) with h2 | h2
        · exact h2.symm
        · exact absurd (ltT (ha1 y h2) (hb1 x h1)) (ltI x)
    subst hxy
    congr 1
    refine inc_ext ha2 hb2 fun z => ⟨fun hz => ?_, fun hz => ?_⟩
    · rcases List.mem_cons.1 ((h z).1 (by simp [hz])) with h1 | h1
      · subst h1; exact absurd (ha1 z hz) (ltI z)
      · exact h1
    · rcases List.mem_cons.1 ((h z).2 (by simp [hz])) with h1 | h1
      · subst h1; exact absurd (hb1 z hz) (ltI z)
      · exact h1
theorem tw_prop {f : Str → Bool} : ∀ {l : List Str}, ∀ x ∈ l.takeWhile f, f x = true
  | [], x, h => by simp at h
  | y :: l, x, h => by
    rw [List.takeWhile_cons] at h
    split at h
    · rcases List.mem_cons.1 h with rfl | h
      · assumption
      · exact tw_prop x h
    · cases h
theorem dw_head {f : Str → Bool} : ∀ {l : List Str} {x : Str} {r : List Str}, l.dropWhile f = x :: r → f x = false
  | [], x, r, h => by simp at h
  | y :: l, x, r, h => by
    rw [List.dropWhile_cons] at h
    split at h
    · exact dw_head h
    · rename_i hf; cases h; simpa using hf
theorem inc_putS {l : List Str} (h : Inc l) (s : Str) : Inc (putS l s) := by
  have happ := List.takeWhile_append_dropWhile (p := fun x => Op.bytesLess x s) (l := l)
  have ht : ∀ x ∈ l.takeWhile (fun x => Op.bytesLess x s), x < s := fun x hx => by
    have := tw_prop x hx
    rw [_root_.Go.Proofs.bytesLess_eq] at this
    simpa using this
  have hd : ∀ x r, l.dropWhile (fun x => Op.bytesLess x s) = x :: r → ¬ x < s := fun x r hx => by
    have := dw_head hx
    rw [_root_.Go.Proofs.bytesLess_eq] at this
    simpa using this
  unfold putS
  generalize l.takeWhile (fun x => Op.bytesLess x s) = t at *
  generalize l.dropWhile (fun x => Op.bytesLess x s) = d at *
  subst happ
  unfold Inc at h ⊢
  obtain ⟨h1, h2, h3⟩ := List.pairwise_append.1 h
  cases d with
  | nil => exact List.pairwise_append.2 ⟨h1, by simp, fun a ha b hb => by simp at hb; subst hb; exact ht a ha⟩
  | cons y r =>
    obtain ⟨h4, h5⟩ := List.pairwise_cons.1 h2
    have hy := hd y r rfl
    simp only
    by_cases hys : (y == s) = true
    · rw [if_pos hys]
      have : y = s := by simpa using hys
      subst this
      exact h
    · rw [if_neg hys]
      have hne : s ≠ y := fun e => hys (by rw [e]; simp)
      have hsy : s < y := lt_of_nle hy hne
      refine List.pairwise_append.2 ⟨h1, List.pairwise_cons.2 ⟨fun b hb => ?_, h2⟩, fun a ha b hb => ?_⟩
      · rcases List.mem_cons.1 hb with rfl | hb
        · exact hsy
        · exact ltT hsy (h4 b hb)
      · rcases List.mem_cons.1 hb with rfl | hb
        · exact ht a ha
        · exact h3 a ha b hb
theorem inc_fold : ∀ (a acc : List Str), Inc acc → Inc (a.foldl putS acc)
  | [], _, h => h
  | x :: a, _, h => inc_fold a _ (inc_putS h x)
theorem inc_uniS (a b : List Str) : Inc (uniS a b) := inc_fold b _ (inc_fold a [] List.Pairwise.nil)
theorem inc_freeR (p : Pred) : Inc (freeR p) := by
  obtain ⟨o, s, n, ks⟩ := p
  rw [freeR_eq]
  have key : ∀ (l : List Pred) (acc : List Str), Inc acc → Inc (l.foldl (fun acc k => uniS acc (freeR k)) acc) := by
    intro l
    induction l with
    | nil => intro acc h; exact h
    | cons k l ih => intro acc _; exact ih _ (inc_uniS _ _)
  refine key _ _ ?_
  split
  · exact List.pairwise_singleton _ _
  · exact List.Pairwise.nil
theorem inc_compact {zs : List Str} (h : zs.Pairwise (· ≤ ·)) : Inc (Lib.compact zs) := by
  unfold Lib.compact Lib.compactUpTo Inc
  rw [List.pairwise_map, List.pairwise_filter]
  refine List.Pairwise.imp_of_mem ?_ (List.pairwise_lt_range (n := zs.length))
  intro i j hi hj hij hki hkj
  have hj' := List.mem_range.1 hj
  simp only [Lib.keeps, decide_eq_true_eq] at hkj
  have hget : ∀ k, (hk : k < zs.length) → zs.toArray[k]! = zs[k] := fun k hk => by simp [getElem!_pos, hk]
  rcases hkj with h0 | h0
  · omega
  · rw [hget j hj', hget (j - 1) (by omega)] at h0
    rw [hget i (by omega), hget j hj']
    have hle : ∀ a b, (ha : a ≤ b) → (hb : b < zs.length) → zs[a]'(by omega) ≤ zs[b] := by
      intro a b ha hb
      rcases Nat.lt_or_ge a b with hab | hab
      · exact List.pairwise_iff_getElem.1 h a b (by omega) hb hab
      · obtain rfl : a = b := by omega
        exact List.le_refl _
    have h1 := hle (j - 1) j (by omega) hj'
    have h2 : zs[j - 1]'(by omega) < zs[j] := Std.lt_of_le_of_ne h1 (fun e => h0 e.symm)
    exact List.lt_of_le_of_lt (hle i (j - 1) (by omega) (by omega)) h2
theorem inc_freeS (p : Pred) : Inc (freeS p) := by
  unfold freeS unionS
  refine inc_compact ?_
  have := List.pairwise_mergeSort (le := fun x y : Str => decide (x ≤ y)) (fun a b c h1 h2 => by
    simp only [decide_eq_true_eq] at *; exact List.le_trans h1 h2) (fun a b => by
    simp only [Bool.or_eq_true, decide_eq_true_eq]; exact List.le_total a b) (freeL p.pre ++ [])
  exact this.imp fun h => by simpa using h
theorem mem_freeL {l : List Pred} {x : Str} : x ∈ freeL l ↔ ∃ q ∈ l, q.op = 3 ∧ q.name = x := by
  unfold freeL
  simp [List.mem_map, List.mem_filter, and_assoc]
theorem mem_pre {o : Int} {s : Str} {n : Int} {ks : List Pred} {q : Pred} : q ∈ Pred.pre (.mk o s n ks) ↔ q = .mk o s n ks ∨ ∃ k ∈ ks, q ∈ k.pre := by
  rw [Pred.pre_eq, List.mem_cons]
  refine or_congr Iff.rfl ?_
  induction ks with
  | nil => simp [Pred.pre.pres]
  | cons k ks ih => rw [Pred.pre.pres, List.mem_append, ih]; simp
theorem mem_freeSi {p : Pred} {x : Str} : x ∈ freeS p ↔ ∃ q ∈ p.pre, q.op = 3 ∧ q.name = x := by
  unfold freeS
  rw [mem_unionS, mem_freeL]; simp
theorem mem_freeR {p : Pred} {x : Str} : x ∈ freeR p ↔ ∃ q ∈ p.pre, q.op = 3 ∧ q.name = x := by
  induction p using Pred.ind with
  | h o s n ks ih =>
  rw [freeR_eq, mem_free_acc]
  constructor
  · rintro (h | ⟨k, hk, h⟩)
    · split at h
      · rename_i ho
        simp at h
        exact ⟨_, mem_pre.2 (.inl rfl), by simpa [Pred.op] using ho, by rw [h]; rfl⟩
      · cases h
    · obtain ⟨q, h1, h2⟩ := (ih k hk).1 h
      exact ⟨q, mem_pre.2 (.inr ⟨k, hk, h1⟩), h2⟩
  · rintro ⟨q, h1, h2, h3⟩
    rcases mem_pre.1 h1 with rfl | ⟨k, hk, h4⟩
    · left
      simp only [Pred.op, Pred.name] at h2 h3
      rw [if_pos (by simp [h2]), h3]; simp
    · exact .inr ⟨k, hk, (ih k hk).2 ⟨q, h4, h2, h3⟩⟩
/-- ████ the program's free variables are the reference's ████ -/
theorem free_same (p : Pred) : freeS p = freeR p := inc_ext (inc_freeS p) (inc_freeR p) fun x => mem_freeSi.trans mem_freeR.symm

/-! ## nodes of a kind, inner first, each once -/
def hasP (l : List Pred) (p : Pred) : Bool := l.any fun y => p.same y
theorem same_comm (a b : Pred) : a.same b = b.same a := by
  rw [Bool.eq_iff_iff, Pred.same_iff, Pred.same_iff]; exact eq_comm
theorem hasP_mid {done r l : List Pred} {k p : Pred} (hl : l = done ++ k :: r) (h : ∀ y ∈ done, p.same y = false) : hasP l p = if p.same k then true else hasP r p := by
  subst hl
  unfold hasP
  rw [List.any_append, List.any_cons]
  have : done.any (fun y => p.same y) = false := by
    rw [List.any_eq_false]; intro y hy; rw [h y hy]; simp
  rw [this, Bool.false_or]
  cases p.same k <;> rfl
theorem hasP_none {l : List Pred} {p : Pred} (h : ∀ y ∈ l, p.same y = false) : hasP l p = false := by
  unfold hasP; rw [List.any_eq_false]; intro y hy; rw [h y hy]; simp
def innerP (t : Int) : Pred → List Pred → List Pred
  | .mk o s n ks, l => if o == t && !hasP (inners ks l) (.mk o s n ks) then inners ks l ++ [.mk o s n ks] else inners ks l
where
  inners : List Pred → List Pred → List Pred
  | [], l => l
  | k :: ks, l => inners ks (innerP t k l)
theorem inners_fold (t : Int) (ks l : List Pred) : innerP.inners t ks l = ks.foldl (fun l k => innerP t k l) l := by
  induction ks generalizing l with
  | nil => rw [innerP.inners]; rfl
  | cons k ks ih => rw [innerP.inners, ih]; rfl
theorem innerP_eq (t o : Int) (s : Str) (n : Int) (ks l : List Pred) : innerP t (.mk o s n ks) l =
    if o == t && !hasP (ks.foldl (fun l k => innerP t k l) l) (.mk o s n ks) then ks.foldl (fun l k => innerP t k l) l ++ [.mk o s n ks] else ks.foldl (fun l k => innerP t k l) l := by
  rw [innerP, inners_fold]
theorem inner_fold_len (t : Int) : ∀ (ks l : List Pred), (∀ k ∈ ks, ∀ l, (innerP t k l).length ≤ l.length + k.cnt) → (ks.foldl (fun l k => innerP t k l) l).length ≤ l.length + Pred.cnts ks
  | [], l, _ => by simp
  | k :: ks, l, h => by
    rw [List.foldl_cons, Pred.cnts]
    have h1 := inner_fold_len t ks (innerP t k l) fun y hy => h y (by simp [hy])
    have h2 := h k (by simp) l
    omega
theorem innerP_len (t : Int) (p : Pred) : ∀ l, (innerP t p l).length ≤ l.length + p.cnt := by
  induction p using Pred.ind with
  | h o s n ks ih =>
  intro l
  have h := inner_fold_len t ks l ih
  rw [innerP_eq, Pred.cnt]
  split
  · rw [List.length_append, List.length_singleton]; omega
  · omega
/-! ## the conjuncts -/
def splitP : Pred → List Pred
  | .mk o s n [a, b] => if o == 15 then splitP a ++ splitP b else if voidP (.mk o s n [a, b]) then [] else [.mk o s n [a, b]]
  | p => if voidP p then [] else [p]
theorem splitP_and (s : Str) (n : Int) (a b : Pred) : splitP (.mk 15 s n [a, b]) = splitP a ++ splitP b := by rw [splitP]; rfl
theorem splitP_else {o : Int} {s : Str} {n : Int} {ks : List Pred} (h : (o == 15 && (ks.length : Int) == 2) = false) : splitP (.mk o s n ks) = if voidP (.mk o s n ks) then [] else [.mk o s n ks] := by
  match ks with
  | [] => rw [splitP]; intro _ _ _ _ _ h; cases h
  | [a] => rw [splitP]; intro _ _ _ _ _ h; cases h
  | [a, b] =>
    have ho : (o == 15) = false := by
      have e : (((([a, b] : List Pred).length : Nat) : Int) == 2) = true := rfl
      rw [e, Bool.and_true] at h; exact h
    rw [splitP, ho]; rfl
  | a :: b :: c :: r => rw [splitP]; intro _ _ _ _ _ h; cases h
theorem splitP_void {p : Pred} (h : voidP p = true) : splitP p = [] := by
  obtain ⟨o, s, n, ks⟩ := p
  unfold voidP at h
  rw [Bool.or_eq_true, Pred.same_iff, Pred.same_iff] at h
  rcases h with h | h <;> rw [h] <;> decide +kernel
end Go.Abs
end
section
set_option linter.unusedSimpArgs false
set_option linter.unusedVariables false
set_option linter.unusedSectionVars false
namespace Go.Abs
/-! ## plain laws of chapter 7 -/
theorem splitP_true : splitP trueP = [] := splitP_void (by decide +kernel)
/-- the conjuncts of a conjunction are those of its elements -/
theorem split_andGo (l : List Pred) : splitP (andGo l).1 = l.flatMap splitP := by
  have key : ∀ (l done : List Pred) (x : Pred × Bool), splitP x.1 = done.flatMap splitP → (x.2 = false → done.flatMap splitP = []) → splitP (l.foldl andStp x).1 = (done ++ l).flatMap splitP := by
    intro l
    induction l with
    | nil => intro done x h _; rw [List.append_nil]; exact h
    | cons p l ih =>
      intro done x h h2
      rw [List.foldl_cons, show done ++ p :: l = (done ++ [p]) ++ l by simp]
      have happ : (done ++ [p]).flatMap splitP = done.flatMap splitP ++ splitP p := by simp
      unfold andStp
      split
      · rename_i hv
        refine ih _ _ ?_ fun hx => ?_
        · rw [happ, splitP_void hv, List.append_nil]; exact h
        · rw [happ, splitP_void hv, List.append_nil]; exact h2 hx
      · split
        · refine ih _ _ ?_ fun hx => by cases hx
          rw [happ, splitP_and]
          simp only [h]
        · rename_i hx
          refine ih _ _ ?_ fun hx => by cases hx
          rw [happ, h2 (by simpa using hx), List.nil_append]
  have := key l [] (trueP, false) splitP_true fun _ => rfl
  unfold andGo
  simpa using this
theorem split_andP {l : List Pred} (h : ∀ p ∈ l, p.same falseP = false) : splitP (andP l) = l.flatMap splitP := by
  unfold andP
  rw [any_none (fun p hp => by rw [isFalse_eq]; exact h p hp)]
  exact split_andGo l
theorem split_one {p : Pred} : ∀ e ∈ splitP p, splitP e = [e] := by
  induction p using Pred.ind with
  | h o s n ks ih =>
  cases hc : (o == 15 && (ks.length : Int) == 2) with
  | true =>
    obtain ⟨ho, hk⟩ := Bool.and_eq_true_iff.1 hc
    have hk2 : ((ks.length : Nat) : Int) = 2 := by simpa using hk
    obtain ⟨a, b, rfl⟩ := pair_split (l := ks) (by omega)
    have ho : o = 15 := by simpa using ho
    subst ho
    rw [splitP_and]
    intro e he
    rcases List.mem_append.1 he with he | he
    · exact ih a (by simp) e he
    · exact ih b (by simp) e he
  | false =>
    rw [splitP_else hc]
    intro e he
    cases hv : voidP (.mk o s n ks) with
    | true => rw [hv] at he; simp at he
    | false =>
      rw [hv] at he
      simp at he
      subst he
      rw [splitP_else hc, hv]; rfl
theorem flatMap_one {l : List Pred} (h : ∀ e ∈ l, splitP e = [e]) : l.flatMap splitP = l := by
  induction l with
  | nil => rfl
  | cons x l ih => rw [List.flatMap_cons, h x (by simp), ih fun e he => h e (by simp [he])]; rfl
theorem split_again {p : Pred} (h : ∀ e ∈ splitP p, e.same falseP = false) : splitP (andP (splitP p)) = splitP p := by
  rw [split_andP h, flatMap_one split_one]
/-! ## solutions in place of unknown predicates -/
structure SSol where
  name : Str
  pred : Pred
def SSol.cells (v : SSol) : List D := .str v.name :: v.pred.cells
def filledP (holes : List SHole) (l : List SSol) (q : Pred) : Pred :=
  match l.find? (fun s => s.name == q.name) with
  | none => trueP
  | some s => if s.pred.same zeroP then trueP else
    match holes.find? (fun h => h.name == q.name) with
    | none => trueP
    | some h => subAll (h.params.map SVar.name) q.kids s.pred
def solutionP (holes : List SHole) (l : List SSol) (q : Pred) : Pred :=
  match holes.find? (fun h => h.name == q.name) with
  | none => trueP
  | some h =>
    match l.find? (fun s => s.name == q.name) with
    | none => trueP
    | some s => if voidP s.pred then trueP else subAll (h.params.map SVar.name) q.kids s.pred
theorem sub_true (names : List Str) (by' : List Pred) : subAll names by' trueP = trueP := by
  unfold trueP
  rw [subAll_eq]; rfl
theorem filled_same (holes : List SHole) (l : List SSol) (q : Pred) : filledP holes l q = solutionP holes l q := by
  unfold filledP solutionP
  cases hl : l.find? (fun s => s.name == q.name) with
  | none => cases hh : holes.find? (fun h => h.name == q.name) <;> rfl
  | some s =>
    cases hh : holes.find? (fun h => h.name == q.name) with
    | none => simp only; split <;> rfl
    | some h =>
      simp only
      unfold voidP
      cases hz : s.pred.same zeroP with
      | true => rfl
      | false =>
        cases ht : s.pred.same trueP with
        | true => rw [(Pred.same_iff _ _).1 ht, sub_true]; rfl
        | false => rfl
def fillP (holes : List SHole) (l : List SSol) : Pred → Pred
  | .mk o s n ks => if o == 5 then filledP holes l (.mk o s n (fills ks)) else .mk o s n (fills ks)
where
  fills : List Pred → List Pred
  | [] => []
  | k :: ks => fillP holes l k :: fills ks
theorem fillP_eq (holes : List SHole) (l : List SSol) (o : Int) (s : Str) (n : Int) (ks : List Pred) : fillP holes l (.mk o s n ks) =
    if o == 5 then filledP holes l (.mk o s n (ks.map (fillP holes l))) else .mk o s n (ks.map (fillP holes l)) := by
  rw [fillP]
  have : fillP.fills holes l ks = ks.map (fillP holes l) := by
    induction ks with
    | nil => rw [fillP.fills]; rfl
    | cons k ks ih => rw [fillP.fills, ih]; rfl
  rw [this]
/-! ## a name replaced -/
theorem sub_one {x : Str} {b : Pred} {o : Int} {s : Str} {n : Int} {ks : List Pred} : subAll [x] [b] (.mk o s n ks) = if o == 3 && s == x then b else .mk o s n (ks.map (subAll [x] [b])) := by
  rw [subAll_eq]
  have e : (decide (findIx s 0 [x] ≥ 0) && decide (findIx s 0 [x] < (([b] : List Pred).length : Int))) = (s == x) := by
    unfold findIx
    by_cases h : x = s
    · subst h; simp
    · simp only [h, if_false, beq_eq_false_iff_ne.2 (fun e : s = x => h e.symm)]
      unfold findIx
      rfl
  rw [e]
  by_cases h : (o == 3 && s == x) = true
  · rw [if_pos h, if_pos h]
    have hs : s = x := by simp at h; exact h.2
    subst hs
    unfold findIx
    simp
  · rw [if_neg h, if_neg h]
theorem map_id_of {l : List Pred} {f : Pred → Pred} (h : ∀ k ∈ l, f k = k) : l.map f = l := by
  induction l with
  | nil => rfl
  | cons k l ih => rw [List.map_cons, h k (by simp), ih fun y hy => h y (by simp [hy])]
theorem sub_not_free {x : Str} {b : Pred} (p : Pred) (h : ∀ q ∈ p.pre, ¬ (q.op = 3 ∧ q.name = x)) : subAll [x] [b] p = p := by
  induction p using Pred.ind with
  | h o s n ks ih =>
  rw [sub_one]
  have h0 := h _ (mem_pre.2 (.inl rfl))
  simp only [Pred.op, Pred.name] at h0
  rw [if_neg (by simpa using h0), map_id_of fun k hk => ih k hk fun q hq => h q (mem_pre.2 (.inr ⟨k, hk, hq⟩))]
/-- variables have no kids and no number -/
def Vars : Pred → Prop := AllN fun q => q.op = 3 → q.kids = [] ∧ q.n = 0
theorem sub_self {x : Str} (p : Pred) (h : Vars p) : subAll [x] [.mk 3 x 0 []] p = p := by
  induction p using Pred.ind with
  | h o s n ks ih =>
  rw [sub_one]
  by_cases hc : (o == 3 && s == x) = true
  · rw [if_pos hc]
    simp at hc
    obtain ⟨rfl, rfl⟩ := hc
    obtain ⟨h1, h2⟩ := h.top rfl
    simp only [Pred.kids, Pred.n] at h1 h2
    rw [h1, h2]
  · rw [if_neg hc, map_id_of fun k hk => ih k hk (h.kid hk)]
theorem vars_of_good {p : Pred} (h : Good p) : Vars p := by
  induction p using Pred.ind with
  | h o s n ks ih =>
  refine AllN.mk (fun ho => ?_) fun k hk => ih k hk (h.kid hk)
  simp only [Pred.op] at ho
  subst ho
  obtain ⟨_, h2, h3, _⟩ := h.top
  exact ⟨kids_leaf h2 rfl, h3 (by decide) (by decide)⟩
theorem sub_free {x y : Str} {b : Pred} (p : Pred) (h : Vars p) : (∃ q ∈ (subAll [x] [b] p).pre, q.op = 3 ∧ q.name = y) ↔ ((∃ q ∈ p.pre, q.op = 3 ∧ q.name = y) ∧ y ≠ x) ∨ ((∃ q ∈ p.pre, q.op = 3 ∧ q.name = x) ∧ ∃ q ∈ b.pre, q.op = 3 ∧ q.name = y) := by
  induction p using Pred.ind with
  | h o s n ks ih =>
  rw [sub_one]
  by_cases hc : (o == 3 && s == x) = true
  · rw [if_pos hc]
    simp at hc
    obtain ⟨rfl, rfl⟩ := hc
    obtain ⟨h1, h2⟩ := h.top rfl
    simp only [Pred.kids] at h1
    subst h1
    have hone : ∀ z, (∃ q ∈ Pred.pre (.mk 3 s n []), q.op = 3 ∧ q.name = z) ↔ z = s := fun z => by
      constructor
      · rintro ⟨q, hq, _, hz⟩
        rcases mem_pre.1 hq with rfl | ⟨k, hk, _⟩
        · exact hz.symm
        · cases hk
      · rintro rfl; exact ⟨_, mem_pre.2 (.inl rfl), rfl, rfl⟩
    rw [hone, hone]
    constructor
    · intro hh; exact .inr ⟨rfl, hh⟩
    · rintro (⟨h3, h4⟩ | ⟨_, h3⟩)
      · exact absurd h3 h4
      · exact h3
  · rw [if_neg hc]
    have hs : ¬ (o = 3 ∧ s = x) := by simpa using hc
    have hkid : ∀ k ∈ ks, (∃ q ∈ (subAll [x] [b] k).pre, q.op = 3 ∧ q.name = y) ↔ ((∃ q ∈ k.pre, q.op = 3 ∧ q.name = y) ∧ y ≠ x) ∨ ((∃ q ∈ k.pre, q.op = 3 ∧ q.name = x) ∧ ∃ q ∈ b.pre, q.op = 3 ∧ q.name = y) := fun k hk => ih k hk (h.kid hk)
    constructor
    · rintro ⟨q, hq, h3, h4⟩
      rcases mem_pre.1 hq with rfl | ⟨k', hk', hq'⟩
      · simp only [Pred.op, Pred.name] at h3 h4
        refine .inl ⟨⟨_, mem_pre.2 (.inl rfl), h3, h4⟩, fun e => hs ⟨h3, h4.trans e⟩⟩
      · obtain ⟨k, hk, rfl⟩ := List.mem_map.1 hk'
        rcases (hkid k hk).1 ⟨q, hq', h3, h4⟩ with ⟨⟨q1, a1, a2⟩, a3⟩ | ⟨⟨q1, a1, a2⟩, a3⟩
        · exact .inl ⟨⟨q1, mem_pre.2 (.inr ⟨k, hk, a1⟩), a2⟩, a3⟩
        · exact .inr ⟨⟨q1, mem_pre.2 (.inr ⟨k, hk, a1⟩), a2⟩, a3⟩
    · have lift : ∀ k ∈ ks, (∃ q ∈ (subAll [x] [b] k).pre, q.op = 3 ∧ q.name = y) → ∃ q ∈ Pred.pre (.mk o s n (ks.map (subAll [x] [b]))), q.op = 3 ∧ q.name = y := fun k hk ⟨q, a1, a2⟩ => ⟨q, mem_pre.2 (.inr ⟨_, List.mem_map.2 ⟨k, hk, rfl⟩, a1⟩), a2⟩
      rintro (⟨⟨q, hq, h3, h4⟩, hne⟩ | ⟨⟨q, hq, h3, h4⟩, hb⟩)
      · rcases mem_pre.1 hq with rfl | ⟨k, hk, hq'⟩
        · exact ⟨_, mem_pre.2 (.inl rfl), h3, h4⟩
        · exact lift k hk ((hkid k hk).2 (.inl ⟨⟨q, hq', h3, h4⟩, hne⟩))
      · rcases mem_pre.1 hq with rfl | ⟨k, hk, hq'⟩
        · exact absurd ⟨h3, h4⟩ hs
        · exact lift k hk ((hkid k hk).2 (.inr ⟨⟨q, hq', h3, h4⟩, hb⟩))
theorem cnts_map {f : Pred → Pred} {m : Nat} : ∀ {l : List Pred}, (∀ k ∈ l, k.cnt ≤ (f k).cnt ∧ (f k).cnt ≤ k.cnt * m) → Pred.cnts l ≤ Pred.cnts (l.map f) ∧ Pred.cnts (l.map f) ≤ Pred.cnts l * m
  | [], _ => by simp [Pred.cnts]
  | k :: l, h => by
    have h1 := h k (by simp)
    have h2 := cnts_map (l := l) fun y hy => h y (by simp [hy])
    simp only [List.map_cons, Pred.cnts, Nat.add_mul]
    omega
theorem sub_cnt {x : Str} {b : Pred} (p : Pred) (h : Vars p) : p.cnt ≤ (subAll [x] [b] p).cnt ∧ (subAll [x] [b] p).cnt ≤ p.cnt * b.cnt := by
  have hb := Pred.cnt_pos b
  induction p using Pred.ind with
  | h o s n ks ih =>
  rw [sub_one]
  by_cases hc : (o == 3 && s == x) = true
  · rw [if_pos hc]
    simp at hc
    obtain ⟨rfl, rfl⟩ := hc
    obtain ⟨h1, h2⟩ := h.top rfl
    simp only [Pred.kids] at h1
    subst h1
    simp [Pred.cnt, Pred.cnts]
    omega
  · rw [if_neg hc, Pred.cnt, Pred.cnt]
    have := cnts_map (f := subAll [x] [b]) (m := b.cnt) (l := ks) fun k hk => ih k hk (h.kid hk)
    rw [Nat.add_mul]
    omega
end Go.Abs
end
section
set_option linter.unusedSimpArgs false
set_option linter.unusedVariables false
set_option linter.unusedSectionVars false
namespace Go.Abs
theorem cnts_le {m : Nat} {f : Pred → Pred} : ∀ {l : List Pred}, (∀ k ∈ l, (f k).cnt ≤ k.cnt * m) → Pred.cnts (l.map f) ≤ Pred.cnts l * m
  | [], _ => by simp [Pred.cnts]
  | k :: l, h => by
    have h1 := h k (by simp)
    have h2 := cnts_le (l := l) fun y hy => h y (by simp [hy])
    simp only [List.map_cons, Pred.cnts, Nat.add_mul]
    omega
theorem cnts_app (a b : List Pred) : Pred.cnts (a ++ b) = Pred.cnts a + Pred.cnts b := by
  induction a with
  | nil => simp [Pred.cnts]
  | cons x a ih => rw [List.cons_append, Pred.cnts, Pred.cnts, ih]; omega
theorem getD_in {l : List Pred} {i : Nat} (h : i < l.length) : l.getD i zeroP ∈ l := by
  rw [List.getD_eq_getElem?_getD, List.getElem?_eq_getElem h]
  exact List.getElem_mem h
theorem subAll_cnt {names : List Str} {by' : List Pred} {m : Nat} (hm : 1 ≤ m) (hb : ∀ b ∈ by', b.cnt ≤ m) (p : Pred) : (subAll names by' p).cnt ≤ p.cnt * m := by
  induction p using Pred.ind with
  | h o s n ks ih =>
  rw [subAll_eq]
  split
  · rename_i hc
    simp only [Bool.and_eq_true, decide_eq_true_eq] at hc
    have := hb _ (getD_in (l := by') (i := (findIx s 0 names).toNat) (by omega))
    have h2 := Pred.cnt_pos (.mk o s n ks)
    exact Nat.le_trans this (Nat.le_mul_of_pos_left m h2)
  · rw [Pred.cnt, Pred.cnt]
    have := cnts_le (f := subAll names by') (m := m) (l := ks) ih
    rw [Nat.add_mul]; omega
theorem subAll_tame {names : List Str} {by' : List Pred} (hb : ∀ b ∈ by', Tame b) (p : Pred) (hp : Tame p) : Tame (subAll names by' p) := by
  induction p using Pred.ind with
  | h o s n ks ih =>
  rw [subAll_eq]
  split
  · rename_i hc
    simp only [Bool.and_eq_true, decide_eq_true_eq] at hc
    exact hb _ (getD_in (l := by') (i := (findIx s 0 names).toNat) (by omega))
  · refine AllN.mk ?_ fun k hk => ?_
    · have := hp.top
      simpa [Pred.kids] using this
    · obtain ⟨k', hk', rfl⟩ := List.mem_map.1 hk
      exact ih k' hk' (hp.kid hk')
theorem true_tame : Tame trueP := tame_of_cnt _ (by decide)
theorem filled_cases (holes : List SHole) (l : List SSol) (q : Pred) : filledP holes l q = trueP ∨ ∃ s ∈ l, ∃ names, filledP holes l q = subAll names q.kids s.pred := by
  unfold filledP
  cases hl : l.find? (fun s => s.name == q.name) with
  | none => exact .inl rfl
  | some s =>
    simp only
    split
    · exact .inl rfl
    · cases hh : holes.find? (fun h => h.name == q.name) with
      | none => exact .inl rfl
      | some h => exact .inr ⟨s, List.mem_of_find?_eq_some hl, _, rfl⟩
theorem fill_tame {holes : List SHole} {l : List SSol} (hl : ∀ s ∈ l, Tame s.pred) (p : Pred) (hp : Tame p) : Tame (fillP holes l p) := by
  induction p using Pred.ind with
  | h o s n ks ih =>
  have hk : ∀ k ∈ ks.map (fillP holes l), Tame k := fun k hk => by
    obtain ⟨k', hk', rfl⟩ := List.mem_map.1 hk
    exact ih k' hk' (hp.kid hk')
  rw [fillP_eq]
  split
  · rcases filled_cases holes l (.mk o s n (ks.map (fillP holes l))) with h | ⟨s', hs, names, h⟩
    · rw [h]; exact true_tame
    · rw [h]; exact subAll_tame hk _ (hl _ hs)
  · refine AllN.mk ?_ hk
    have := hp.top
    simpa [Pred.kids] using this
theorem cnt_in {l : List Pred} {k : Pred} (h : k ∈ l) : k.cnt ≤ Pred.cnts l := Pred.cnt_le h
theorem fill_cnt {holes : List SHole} {l : List SSol} (hl : ∀ s ∈ l, s.pred.cnt ≤ 10) (p : Pred) : (fillP holes l p).cnt ≤ p.cnt * 10 ^ p.dep := by
  induction p using Pred.ind with
  | h o s n ks ih =>
  have hks : Pred.cnts (ks.map (fillP holes l)) ≤ Pred.cnts ks * 10 ^ Pred.deps ks := by
    refine cnts_le fun k hk => Nat.le_trans (ih k hk) ?_
    exact Nat.mul_le_mul_left _ (Nat.pow_le_pow_right (by omega) (Pred.dep_le hk))
  rw [fillP_eq, Pred.cnt, Pred.dep, Nat.pow_succ]
  have he : 1 ≤ 10 ^ Pred.deps ks := Nat.pow_pos (by omega)
  generalize 10 ^ Pred.deps ks = e at *
  have hT : (Pred.cnts ks + 1) * (e * 10) = Pred.cnts ks * e * 10 + e * 10 := by rw [Nat.add_mul, Nat.one_mul, Nat.mul_assoc]
  rw [hT]
  generalize Pred.cnts ks * e = T at *
  split
  · rcases filled_cases holes l (.mk o s n (ks.map (fillP holes l))) with h | ⟨s', hs, names, h⟩
    · rw [h]
      have : trueP.cnt = 1 := by decide
      omega
    · rw [h]
      have h1 := subAll_cnt (names := names) (by' := (Pred.mk o s n (ks.map (fillP holes l))).kids) (m := Pred.cnts (ks.map (fillP holes l)) + 1) (by omega) (fun b hb => by
        have := cnt_in (l := ks.map (fillP holes l)) hb; omega) s'.pred
      have h2 := Nat.mul_le_mul_right (Pred.cnts (ks.map (fillP holes l)) + 1) (hl s' hs)
      omega
  · rw [Pred.cnt]; omega
end Go.Abs
end
section
set_option linter.unusedSimpArgs false
set_option linter.unusedVariables false
set_option linter.unusedSectionVars false
namespace Go.Abs
set_option maxRecDepth 100000
variable {E : AEnv} (Z : Sys E)
include Z
theorem pred_has_ev (l : List Pred) (p : Pred) : E.C pred_has_api_Pred [.one (.lst (l.map Pred.cells)), .agg p.cells, .one (.clo pred_Same [])] (.one (.bool (hasP l p))) := by
  have hs := pred_Same_ev Z p
  refine Z.pred_has_api_Pred _ _ ⟨Nat.le_of_ble_eq_true rfl, ?_⟩
  generalize hR : hasP l p = R
  obtain ⟨o, s, n, ks⟩ := p
  rw [Pred.cells_eq (.mk o s n ks)] at *
  simp only [fn_pred_has_api_Pred, go_sem, Nat.reduceEqDiff, reduceCtorEq, Nat.reduceAdd, Nat.reduceLeDiff, Nat.reduceMul, Nat.reduceLT, Int.reduceToNat, Int.reduceLT, Int.reduceLE, Int.reduceEq, Nat.reduceSub, Pred.op, Pred.name, Pred.n, Pred.kids] at hs ⊢
  intro hlen
  refine loop_list l (fun done => ∀ y ∈ done, (Pred.mk o s n ks).same y = false) (fun done rest => ⟨[(11, .d (.int .i64 done.length)), (10, .d (.int .i64 l.length)), (9, .d (.lst (l.map Pred.cells))), (4, .ptr 4 0), (2, .d (.clo pred_Same []))], [(4, [.d (.int .i64 o), .d (.str s), .d (.int .i64 n), .d (.lst (ks.map Pred.cells))])], []⟩) ?_ (by simp) ?_ ?_
  · exact Ent_plain (by simp only [go_sem, Nat.reduceEqDiff, reduceCtorEq, Nat.reduceAdd, Nat.reduceLeDiff, Nat.reduceMul, Nat.reduceLT, Int.reduceToNat, Int.reduceLT, Int.reduceLE, Int.reduceEq, Nat.reduceSub, Option.isSome_some])
  · intro done k r hl hI
    have hlt := lt_mid hl
    have hw : IntKind.i64.wrap ((done.length : Int) + 1) = ((done.length + 1 : Nat) : Int) := wrap_succ (by omega)
    rw [hasP_mid hl hI] at hR
    simp only [fn_pred_has_api_Pred_L1, go_sem, Nat.reduceEqDiff, reduceCtorEq, Nat.reduceAdd, Nat.reduceLeDiff, Nat.reduceMul, Nat.reduceLT, Int.reduceToNat, Int.reduceLT, Int.reduceLE, Int.reduceEq, Nat.reduceSub, hlt, getD_midP hl, List.length_map, drop_cells]
    refine call_by (hs k) ?_
    cases c0 : (Pred.mk o s n ks).same k with
    | true =>
      simp only [c0, go_sem, Nat.reduceEqDiff, reduceCtorEq, Nat.reduceAdd, Nat.reduceLeDiff, Nat.reduceMul, Nat.reduceLT, Int.reduceToNat, Int.reduceLT, Int.reduceLE, Int.reduceEq, Nat.reduceSub] at hR ⊢
      exact hR
    | false =>
      simp only [go_sem, Nat.reduceEqDiff, reduceCtorEq, Nat.reduceAdd, Nat.reduceLeDiff, Nat.reduceMul, Nat.reduceLT, Int.reduceToNat, Int.reduceLT, Int.reduceLE, Int.reduceEq, Nat.reduceSub, hw, List.length_append]
      exact ⟨Ent_plain (by simp only [go_sem, Nat.reduceEqDiff, reduceCtorEq, Nat.reduceAdd, Nat.reduceLeDiff, Nat.reduceMul, Nat.reduceLT, Int.reduceToNat, Int.reduceLT, Int.reduceLE, Int.reduceEq, Nat.reduceSub, Option.isSome_some]), app_all hI c0⟩
  · intro hI
    rw [hasP_none hI] at hR
    simp only [fn_pred_has_api_Pred_L1, go_sem, Nat.reduceEqDiff, reduceCtorEq, Nat.reduceAdd, Nat.reduceLeDiff, Nat.reduceMul, Nat.reduceLT, Int.reduceToNat, Int.reduceLT, Int.reduceLE, Int.reduceEq, Nat.reduceSub, ← hR]
theorem r07_Has_ev (l : List Pred) (p : Pred) : E.C r07_Has [.one (.lst (l.map Pred.cells)), .agg p.cells] (.one (.bool (hasP l p))) := by
  have hs := r07_Same_ev Z
  refine Z.r07_Has _ _ ⟨Nat.le_of_ble_eq_true rfl, ?_⟩
  generalize hR : hasP l p = R
  obtain ⟨o, s, n, ks⟩ := p
  have hs := fun k => hs k (.mk o s n ks)
  rw [Pred.cells_eq (.mk o s n ks)] at *
  simp only [fn_r07_Has, go_sem, Nat.reduceEqDiff, reduceCtorEq, Nat.reduceAdd, Nat.reduceLeDiff, Nat.reduceMul, Nat.reduceLT, Int.reduceToNat, Int.reduceLT, Int.reduceLE, Int.reduceEq, Nat.reduceSub, Pred.op, Pred.name, Pred.n, Pred.kids] at hs ⊢
  intro hlen
  refine loop_list l (fun done => ∀ y ∈ done, (Pred.mk o s n ks).same y = false) (fun done rest => ⟨[(9, .d (.int .i64 done.length)), (8, .d (.int .i64 l.length)), (7, .d (.lst (l.map Pred.cells))), (3, .ptr 3 0)], [(3, [.d (.int .i64 o), .d (.str s), .d (.int .i64 n), .d (.lst (ks.map Pred.cells))])], []⟩) ?_ (by simp) ?_ ?_
  · exact Ent_plain (by simp only [go_sem, Nat.reduceEqDiff, reduceCtorEq, Nat.reduceAdd, Nat.reduceLeDiff, Nat.reduceMul, Nat.reduceLT, Int.reduceToNat, Int.reduceLT, Int.reduceLE, Int.reduceEq, Nat.reduceSub, Option.isSome_some])
  · intro done k r hl hI
    have hlt := lt_mid hl
    have hw : IntKind.i64.wrap ((done.length : Int) + 1) = ((done.length + 1 : Nat) : Int) := wrap_succ (by omega)
    rw [hasP_mid hl hI, same_comm] at hR
    simp only [fn_r07_Has_L1, go_sem, Nat.reduceEqDiff, reduceCtorEq, Nat.reduceAdd, Nat.reduceLeDiff, Nat.reduceMul, Nat.reduceLT, Int.reduceToNat, Int.reduceLT, Int.reduceLE, Int.reduceEq, Nat.reduceSub, hlt, getD_midP hl, List.length_map, drop_cells]
    refine call_by (hs k) ?_
    cases c0 : k.same (Pred.mk o s n ks) with
    | true =>
      simp only [c0, go_sem, Nat.reduceEqDiff, reduceCtorEq, Nat.reduceAdd, Nat.reduceLeDiff, Nat.reduceMul, Nat.reduceLT, Int.reduceToNat, Int.reduceLT, Int.reduceLE, Int.reduceEq, Nat.reduceSub] at hR ⊢
      exact hR
    | false =>
      simp only [go_sem, Nat.reduceEqDiff, reduceCtorEq, Nat.reduceAdd, Nat.reduceLeDiff, Nat.reduceMul, Nat.reduceLT, Int.reduceToNat, Int.reduceLT, Int.reduceLE, Int.reduceEq, Nat.reduceSub, hw, List.length_append]
      exact ⟨Ent_plain (by simp only [go_sem, Nat.reduceEqDiff, reduceCtorEq, Nat.reduceAdd, Nat.reduceLeDiff, Nat.reduceMul, Nat.reduceLT, Int.reduceToNat, Int.reduceLT, Int.reduceLE, Int.reduceEq, Nat.reduceSub, Option.isSome_some]), app_all hI (by rw [same_comm]; exact c0)⟩
  · intro hI
    rw [hasP_none hI] at hR
    simp only [fn_r07_Has_L1, go_sem, Nat.reduceEqDiff, reduceCtorEq, Nat.reduceAdd, Nat.reduceLeDiff, Nat.reduceMul, Nat.reduceLT, Int.reduceToNat, Int.reduceLT, Int.reduceLE, Int.reduceEq, Nat.reduceSub, ← hR]
/-- ████ a list that is handed on and comes back longer ████ -/
theorem pred_inner_ev (t : Int) (p : Pred) (hp : Tame p) : ∀ l : List Pred, l.length + p.cnt ≤ 1073741824 → E.C pred_inner [.agg p.cells, .one (.int .i64 t), .one (.lst (l.map Pred.cells))] (.own (some 2) 4 ((innerP t p l).map Pred.cells)) := by
  induction p using Pred.ind with
  | h o s n ks ih =>
  intro l hn
  have hcp := pred_copied_ev Z _ hp
  have hhas := fun l => pred_has_ev Z l (.mk o s n ks)
  refine Z.pred_inner _ _ ⟨Nat.le_of_ble_eq_true rfl, ?_⟩
  have hlenK := inner_fold_len t
  generalize hR : innerP t (.mk o s n ks) l = R
  rw [innerP_eq] at hR
  rw [Pred.cnt] at hn
  rw [Pred.cells_eq (.mk o s n ks)] at *
  have hrs : fn_pred_inner.rs = [.t 6] := rfl
  simp only [fn_pred_inner, go_sem, Nat.reduceEqDiff, reduceCtorEq, Nat.reduceAdd, Nat.reduceLeDiff, Nat.reduceMul, Nat.reduceLT, Int.reduceToNat, Int.reduceLT, Int.reduceLE, Int.reduceEq, Nat.reduceSub, Pred.op, Pred.name, Pred.n, Pred.kids] at hcp hhas ⊢
  intro hlen
  refine loop_named fun K' hK => ?_
  refine loop_list ks (fun _ => True) (fun done rest => ⟨[(12, .d (.int .i64 done.length)), (11, .d (.int .i64 ks.length)), (10, .d (.lst (ks.map Pred.cells))), (1, .d (.int .i64 t)), (2, .own 2 4 ((done.foldl (fun l k => innerP t k l) l).map Pred.cells)), (3, .ptr 3 0)], [(3, [.d (.int .i64 o), .d (.str s), .d (.int .i64 n), .d (.lst (ks.map Pred.cells))])], [(2, true)]⟩) ?_ trivial ?_ ?_
  · exact Ent_own [(2, 2)] (by simp only [go_sem, Nat.reduceEqDiff, reduceCtorEq, Nat.reduceAdd, Nat.reduceLeDiff, Nat.reduceMul, Nat.reduceLT, Int.reduceToNat, Int.reduceLT, Int.reduceLE, Int.reduceEq, Nat.reduceSub, List.contains_nil, Option.isSome_some, List.foldl_nil])
  · intro done k r hl _
    have hk' := ih k (by rw [hl]; simp) (hp.kid (by rw [hl]; simp)) (done.foldl (fun l k => innerP t k l) l) (by
      have h1 := hlenK done l fun k _ l => innerP_len t k l
      have h2 : Pred.cnts ks = Pred.cnts done + (k.cnt + Pred.cnts r) := by rw [hl, cnts_app, Pred.cnts]
      omega)
    have hlt := lt_mid hl
    have hw : IntKind.i64.wrap ((done.length : Int) + 1) = ((done.length + 1 : Nat) : Int) := wrap_succ (by omega)
    simp only [fn_pred_inner_L1, go_sem, Nat.reduceEqDiff, reduceCtorEq, Nat.reduceAdd, Nat.reduceLeDiff, Nat.reduceMul, Nat.reduceLT, Int.reduceToNat, Int.reduceLT, Int.reduceLE, Int.reduceEq, Nat.reduceSub, hlt, getD_midP hl, List.length_map, drop_cells]
    refine call_by hk' ?_
    simp only [go_sem, Nat.reduceEqDiff, reduceCtorEq, Nat.reduceAdd, Nat.reduceLeDiff, Nat.reduceMul, Nat.reduceLT, Int.reduceToNat, Int.reduceLT, Int.reduceLE, Int.reduceEq, Nat.reduceSub, hw, List.length_append]
    refine Ent_own [(2, 19)] ?_
    simp only [go_sem, Nat.reduceEqDiff, reduceCtorEq, Nat.reduceAdd, Nat.reduceLeDiff, Nat.reduceMul, Nat.reduceLT, Int.reduceToNat, Int.reduceLT, Int.reduceLE, Int.reduceEq, Nat.reduceSub, List.contains_nil, Option.isSome_some, List.foldl_append, List.foldl_cons, List.foldl_nil]
  · intro _
    have h1 := hlenK ks l fun k _ l => innerP_len t k l
    generalize ks.foldl (fun l k => innerP t k l) l = m at *
    simp only [fn_pred_inner_L1, go_sem, Nat.reduceEqDiff, reduceCtorEq, Nat.reduceAdd, Nat.reduceLeDiff, Nat.reduceMul, Nat.reduceLT, Int.reduceToNat, Int.reduceLT, Int.reduceLE, Int.reduceEq, Nat.reduceSub, hK]
    cases c0 : (o == t) with
    | false =>
      simp only [c0, go_sem, Nat.reduceEqDiff, reduceCtorEq, Nat.reduceAdd, Nat.reduceLeDiff, Nat.reduceMul, Nat.reduceLT, Int.reduceToNat, Int.reduceLT, Int.reduceLE, Int.reduceEq, Nat.reduceSub] at hR ⊢
      refine ⟨.one (.bool false), ?_⟩
      simp only [go_sem, Nat.reduceEqDiff, reduceCtorEq, Nat.reduceAdd, Nat.reduceLeDiff, Nat.reduceMul, Nat.reduceLT, Int.reduceToNat, Int.reduceLT, Int.reduceLE, Int.reduceEq, Nat.reduceSub, hrs, hR]
    | true =>
      simp only [c0, go_sem, Nat.reduceEqDiff, reduceCtorEq, Nat.reduceAdd, Nat.reduceLeDiff, Nat.reduceMul, Nat.reduceLT, Int.reduceToNat, Int.reduceLT, Int.reduceLE, Int.reduceEq, Nat.reduceSub] at hR ⊢
      refine call_by (hhas m) ?_
      simp only [go_sem, Nat.reduceEqDiff, reduceCtorEq, Nat.reduceAdd, Nat.reduceLeDiff, Nat.reduceMul, Nat.reduceLT, Int.reduceToNat, Int.reduceLT, Int.reduceLE, Int.reduceEq, Nat.reduceSub]
      cases c1 : hasP m (.mk o s n ks) with
      | true =>
        simp only [c1, go_sem, Nat.reduceEqDiff, reduceCtorEq, Nat.reduceAdd, Nat.reduceLeDiff, Nat.reduceMul, Nat.reduceLT, Int.reduceToNat, Int.reduceLT, Int.reduceLE, Int.reduceEq, Nat.reduceSub] at hR ⊢
        simp only [hrs, hR, go_sem, Nat.reduceEqDiff, reduceCtorEq, Nat.reduceAdd, Nat.reduceLeDiff, Nat.reduceMul, Nat.reduceLT, Int.reduceToNat, Int.reduceLT, Int.reduceLE, Int.reduceEq, Nat.reduceSub]
      | false =>
        simp only [c1, go_sem, Nat.reduceEqDiff, reduceCtorEq, Nat.reduceAdd, Nat.reduceLeDiff, Nat.reduceMul, Nat.reduceLT, Int.reduceToNat, Int.reduceLT, Int.reduceLE, Int.reduceEq, Nat.reduceSub] at hR ⊢
        refine call_by hcp ?_
        have ha : (m.length + 1) * 56 ≤ 2 ^ 46 := by omega
        simp only [go_sem, Nat.reduceEqDiff, reduceCtorEq, Nat.reduceAdd, Nat.reduceLeDiff, Nat.reduceMul, Nat.reduceLT, Int.reduceToNat, Int.reduceLT, Int.reduceLE, Int.reduceEq, Nat.reduceSub, List.length_map, Pred.lens_true, ha]
        refine ⟨⟨by simp, by omega⟩, ?_⟩
        rw [← hR]
        simp only [hrs, go_sem, Nat.reduceEqDiff, reduceCtorEq, Nat.reduceAdd, Nat.reduceLeDiff, Nat.reduceMul, Nat.reduceLT, Int.reduceToNat, Int.reduceLT, Int.reduceLE, Int.reduceEq, Nat.reduceSub, List.map_append, List.map_cons, List.map_nil, Pred.cells_eq (.mk o s n ks), Pred.op, Pred.name, Pred.n, Pred.kids]
end Go.Abs
end
section
set_option linter.unusedSimpArgs false
set_option linter.unusedVariables false
set_option linter.unusedSectionVars false
namespace Go.Abs
theorem splitP_len (p : Pred) : (splitP p).length ≤ p.cnt := by
  induction p using Pred.ind with
  | h o s n ks ih =>
  cases hc : (o == 15 && (ks.length : Int) == 2) with
  | true =>
    obtain ⟨ho, hk⟩ := Bool.and_eq_true_iff.1 hc
    have hk2 : ((ks.length : Nat) : Int) = 2 := by simpa using hk
    obtain ⟨a, b, rfl⟩ := pair_split (l := ks) (by omega)
    have ho : o = 15 := by simpa using ho
    subst ho
    rw [splitP_and, List.length_append]
    have h1 := ih a (by simp)
    have h2 := ih b (by simp)
    simp only [Pred.cnt, Pred.cnts]
    omega
  | false =>
    rw [splitP_else hc, Pred.cnt]
    split <;> simp
theorem eql_lists {l m a b r r' : List Str} {x y : Str} (hl : l = a ++ x :: r) (hm : m = b ++ y :: r') (h : a = b) : (l == m) = (x == y && r == r') := by
  subst hl hm h
  rw [Bool.eq_iff_iff]
  simp
set_option maxRecDepth 100000
variable {E : AEnv} (Z : Sys E)
include Z
theorem r07_collect_ev (t : Int) (p : Pred) : ∀ l : List Pred, l.length + p.cnt ≤ 1073741824 → E.C r07_collect [.agg p.cells, .one (.int .i64 t), .one (.lst (l.map Pred.cells))] (.own (some 2) 4 ((innerP t p l).map Pred.cells)) := by
  induction p using Pred.ind with
  | h o s n ks ih =>
  intro l hn
  have hhas := fun l => r07_Has_ev Z l (.mk o s n ks)
  refine Z.r07_collect _ _ ⟨Nat.le_of_ble_eq_true rfl, ?_⟩
  have hlenK := inner_fold_len t
  generalize hR : innerP t (.mk o s n ks) l = R
  rw [innerP_eq] at hR
  rw [Pred.cnt] at hn
  rw [Pred.cells_eq (.mk o s n ks)] at *
  have hrs : fn_r07_collect.rs = [.t 6] := rfl
  simp only [fn_r07_collect, go_sem, Nat.reduceEqDiff, reduceCtorEq, Nat.reduceAdd, Nat.reduceLeDiff, Nat.reduceMul, Nat.reduceLT, Int.reduceToNat, Int.reduceLT, Int.reduceLE, Int.reduceEq, Nat.reduceSub, Pred.op, Pred.name, Pred.n, Pred.kids] at hhas ⊢
  intro hlen
  refine loop_named fun K' hK => ?_
  refine loop_list ks (fun _ => True) (fun done rest => ⟨[(12, .d (.int .i64 done.length)), (11, .d (.int .i64 ks.length)), (10, .d (.lst (ks.map Pred.cells))), (1, .d (.int .i64 t)), (2, .own 2 4 ((done.foldl (fun l k => innerP t k l) l).map Pred.cells)), (3, .ptr 3 0)], [(3, [.d (.int .i64 o), .d (.str s), .d (.int .i64 n), .d (.lst (ks.map Pred.cells))])], [(2, true)]⟩) ?_ trivial ?_ ?_
  · exact Ent_own [(2, 2)] (by simp only [go_sem, Nat.reduceEqDiff, reduceCtorEq, Nat.reduceAdd, Nat.reduceLeDiff, Nat.reduceMul, Nat.reduceLT, Int.reduceToNat, Int.reduceLT, Int.reduceLE, Int.reduceEq, Nat.reduceSub, List.contains_nil, Option.isSome_some, List.foldl_nil])
  · intro done k r hl _
    have hk' := ih k (by rw [hl]; simp) (done.foldl (fun l k => innerP t k l) l) (by
      have h1 := hlenK done l fun k _ l => innerP_len t k l
      have h2 : Pred.cnts ks = Pred.cnts done + (k.cnt + Pred.cnts r) := by rw [hl, cnts_app, Pred.cnts]
      omega)
    have hlt := lt_mid hl
    have hw : IntKind.i64.wrap ((done.length : Int) + 1) = ((done.length + 1 : Nat) : Int) := wrap_succ (by omega)
    simp only [fn_r07_collect_L1, go_sem, Nat.reduceEqDiff, reduceCtorEq, Nat.reduceAdd, Nat.reduceLeDiff, Nat.reduceMul, Nat.reduceLT, Int.reduceToNat, Int.reduceLT, Int.reduceLE, Int.reduceEq, Nat.reduceSub, hlt, getD_midP hl, List.length_map, drop_cells]
    refine call_by hk' ?_
    simp only [go_sem, Nat.reduceEqDiff, reduceCtorEq, Nat.reduceAdd, Nat.reduceLeDiff, Nat.reduceMul, Nat.reduceLT, Int.reduceToNat, Int.reduceLT, Int.reduceLE, Int.reduceEq, Nat.reduceSub, hw, List.length_append]
    refine Ent_own [(2, 19)] ?_
    simp only [go_sem, Nat.reduceEqDiff, reduceCtorEq, Nat.reduceAdd, Nat.reduceLeDiff, Nat.reduceMul, Nat.reduceLT, Int.reduceToNat, Int.reduceLT, Int.reduceLE, Int.reduceEq, Nat.reduceSub, List.contains_nil, Option.isSome_some, List.foldl_append, List.foldl_cons, List.foldl_nil]
  · intro _
    have h1 := hlenK ks l fun k _ l => innerP_len t k l
    generalize ks.foldl (fun l k => innerP t k l) l = m at *
    simp only [fn_r07_collect_L1, go_sem, Nat.reduceEqDiff, reduceCtorEq, Nat.reduceAdd, Nat.reduceLeDiff, Nat.reduceMul, Nat.reduceLT, Int.reduceToNat, Int.reduceLT, Int.reduceLE, Int.reduceEq, Nat.reduceSub, hK]
    cases c0 : (o == t) with
    | false =>
      simp only [c0, go_sem, Nat.reduceEqDiff, reduceCtorEq, Nat.reduceAdd, Nat.reduceLeDiff, Nat.reduceMul, Nat.reduceLT, Int.reduceToNat, Int.reduceLT, Int.reduceLE, Int.reduceEq, Nat.reduceSub] at hR ⊢
      refine ⟨.one (.bool false), ?_⟩
      simp only [go_sem, Nat.reduceEqDiff, reduceCtorEq, Nat.reduceAdd, Nat.reduceLeDiff, Nat.reduceMul, Nat.reduceLT, Int.reduceToNat, Int.reduceLT, Int.reduceLE, Int.reduceEq, Nat.reduceSub, hrs, hR]
    | true =>
      simp only [c0, go_sem, Nat.reduceEqDiff, reduceCtorEq, Nat.reduceAdd, Nat.reduceLeDiff, Nat.reduceMul, Nat.reduceLT, Int.reduceToNat, Int.reduceLT, Int.reduceLE, Int.reduceEq, Nat.reduceSub] at hR ⊢
      refine call_by (hhas m) ?_
      simp only [go_sem, Nat.reduceEqDiff, reduceCtorEq, Nat.reduceAdd, Nat.reduceLeDiff, Nat.reduceMul, Nat.reduceLT, Int.reduceToNat, Int.reduceLT, Int.reduceLE, Int.reduceEq, Nat.reduceSub]
      cases c1 : hasP m (.mk o s n ks) with
      | true =>
        simp only [c1, go_sem, Nat.reduceEqDiff, reduceCtorEq, Nat.reduceAdd, Nat.reduceLeDiff, Nat.reduceMul, Nat.reduceLT, Int.reduceToNat, Int.reduceLT, Int.reduceLE, Int.reduceEq, Nat.reduceSub] at hR ⊢
        simp only [hrs, hR, go_sem, Nat.reduceEqDiff, reduceCtorEq, Nat.reduceAdd, Nat.reduceLeDiff, Nat.reduceMul, Nat.reduceLT, Int.reduceToNat, Int.reduceLT, Int.reduceLE, Int.reduceEq, Nat.reduceSub]
      | false =>
        simp only [c1, go_sem, Nat.reduceEqDiff, reduceCtorEq, Nat.reduceAdd, Nat.reduceLeDiff, Nat.reduceMul, Nat.reduceLT, Int.reduceToNat, Int.reduceLT, Int.reduceLE, Int.reduceEq, Nat.reduceSub] at hR ⊢
        have ha : (m.length + 1) * 56 ≤ 2 ^ 46 := by omega
        simp only [go_sem, Nat.reduceEqDiff, reduceCtorEq, Nat.reduceAdd, Nat.reduceLeDiff, Nat.reduceMul, Nat.reduceLT, Int.reduceToNat, Int.reduceLT, Int.reduceLE, Int.reduceEq, Nat.reduceSub, List.length_map, Pred.lens_true, ha]
        refine ⟨⟨by simp, by omega⟩, ?_⟩
        rw [← hR]
        simp only [hrs, go_sem, Nat.reduceEqDiff, reduceCtorEq, Nat.reduceAdd, Nat.reduceLeDiff, Nat.reduceMul, Nat.reduceLT, Int.reduceToNat, Int.reduceLT, Int.reduceLE, Int.reduceEq, Nat.reduceSub, List.map_append, List.map_cons, List.map_nil, Pred.cells_eq (.mk o s n ks), Pred.op, Pred.name, Pred.n, Pred.kids]
theorem pred_Apps_ev (p : Pred) (hp : Tame p) (hn : p.cnt ≤ 1073741824) : E.C pred_Apps [.agg p.cells] (.one (.lst ((innerP 4 p []).map Pred.cells))) := by
  have h := pred_inner_ev Z 4 p hp [] (by simpa using hn)
  refine Z.pred_Apps _ _ ⟨Nat.le_of_ble_eq_true rfl, ?_⟩
  generalize innerP 4 p [] = R at *
  rw [Pred.cells_eq p] at *
  simp only [fn_pred_Apps, go_sem, Nat.reduceEqDiff, reduceCtorEq, Nat.reduceAdd, Nat.reduceLeDiff, Nat.reduceMul, Nat.reduceLT, Int.reduceToNat, Int.reduceLT, Int.reduceLE, Int.reduceEq, Nat.reduceSub]
  refine call_by h ?_
  simp only [go_sem, Nat.reduceEqDiff, reduceCtorEq, Nat.reduceAdd, Nat.reduceLeDiff, Nat.reduceMul, Nat.reduceLT, Int.reduceToNat, Int.reduceLT, Int.reduceLE, Int.reduceEq, Nat.reduceSub, List.not_mem_nil, false_implies, implies_true]
theorem pred_Holes_ev (p : Pred) (hp : Tame p) (hn : p.cnt ≤ 1073741824) : E.C pred_Holes [.agg p.cells] (.one (.lst ((innerP 5 p []).map Pred.cells))) := by
  have h := pred_inner_ev Z 5 p hp [] (by simpa using hn)
  refine Z.pred_Holes _ _ ⟨Nat.le_of_ble_eq_true rfl, ?_⟩
  generalize innerP 5 p [] = R at *
  rw [Pred.cells_eq p] at *
  simp only [fn_pred_Holes, go_sem, Nat.reduceEqDiff, reduceCtorEq, Nat.reduceAdd, Nat.reduceLeDiff, Nat.reduceMul, Nat.reduceLT, Int.reduceToNat, Int.reduceLT, Int.reduceLE, Int.reduceEq, Nat.reduceSub]
  refine call_by h ?_
  simp only [go_sem, Nat.reduceEqDiff, reduceCtorEq, Nat.reduceAdd, Nat.reduceLeDiff, Nat.reduceMul, Nat.reduceLT, Int.reduceToNat, Int.reduceLT, Int.reduceLE, Int.reduceEq, Nat.reduceSub, List.not_mem_nil, false_implies, implies_true]
theorem r07_Apps_ev (p : Pred) (hn : p.cnt ≤ 1073741824) : E.C r07_Apps [.agg p.cells] (.one (.lst ((innerP 4 p []).map Pred.cells))) := by
  have h := r07_collect_ev Z 4 p [] (by simpa using hn)
  refine Z.r07_Apps _ _ ⟨Nat.le_of_ble_eq_true rfl, ?_⟩
  generalize innerP 4 p [] = R at *
  rw [Pred.cells_eq p] at *
  simp only [fn_r07_Apps, go_sem, Nat.reduceEqDiff, reduceCtorEq, Nat.reduceAdd, Nat.reduceLeDiff, Nat.reduceMul, Nat.reduceLT, Int.reduceToNat, Int.reduceLT, Int.reduceLE, Int.reduceEq, Nat.reduceSub]
  refine call_by h ?_
  simp only [go_sem, Nat.reduceEqDiff, reduceCtorEq, Nat.reduceAdd, Nat.reduceLeDiff, Nat.reduceMul, Nat.reduceLT, Int.reduceToNat, Int.reduceLT, Int.reduceLE, Int.reduceEq, Nat.reduceSub, List.not_mem_nil, false_implies, implies_true]
theorem r07_Holes_ev (p : Pred) (hn : p.cnt ≤ 1073741824) : E.C r07_Holes [.agg p.cells] (.one (.lst ((innerP 5 p []).map Pred.cells))) := by
  have h := r07_collect_ev Z 5 p [] (by simpa using hn)
  refine Z.r07_Holes _ _ ⟨Nat.le_of_ble_eq_true rfl, ?_⟩
  generalize innerP 5 p [] = R at *
  rw [Pred.cells_eq p] at *
  simp only [fn_r07_Holes, go_sem, Nat.reduceEqDiff, reduceCtorEq, Nat.reduceAdd, Nat.reduceLeDiff, Nat.reduceMul, Nat.reduceLT, Int.reduceToNat, Int.reduceLT, Int.reduceLE, Int.reduceEq, Nat.reduceSub]
  refine call_by h ?_
  simp only [go_sem, Nat.reduceEqDiff, reduceCtorEq, Nat.reduceAdd, Nat.reduceLeDiff, Nat.reduceMul, Nat.reduceLT, Int.reduceToNat, Int.reduceLT, Int.reduceLE, Int.reduceEq, Nat.reduceSub, List.not_mem_nil, false_implies, implies_true]
theorem pred_Split_ev (p : Pred) (hp : Tame p) (hn : p.cnt ≤ 1073741824) : E.C pred_Split [.agg p.cells] (.own none 4 ((splitP p).map Pred.cells)) := by
  induction p using Pred.ind with
  | h o s n ks ih =>
  have hv := pred_void_ev Z (.mk o s n ks)
  have hcp := pred_copied_ev Z _ hp
  refine Z.pred_Split _ _ ⟨Nat.le_of_ble_eq_true rfl, ?_⟩
  have hrs : fn_pred_Split.rs = [.t 2] := rfl
  cases hc : (o == 15 && (ks.length : Int) == 2) with
  | true =>
    obtain ⟨ho, hk⟩ := Bool.and_eq_true_iff.1 hc
    have hk2 : ((ks.length : Nat) : Int) = 2 := by simpa using hk
    obtain ⟨a, b, rfl⟩ := pair_split (l := ks) (by omega)
    have ho : o = 15 := by simpa using ho
    subst ho
    have hla := splitP_len a
    have hlb := splitP_len b
    simp only [Pred.cnt, Pred.cnts] at hn
    have ha := ih a (by simp) (hp.kid (by simp)) (by omega)
    have hb := ih b (by simp) (hp.kid (by simp)) (by omega)
    have hcl : Pred.cells (.mk 15 s n [a, b]) = [.int .i64 15, .str s, .int .i64 n, .lst [a.cells, b.cells]] := by rw [Pred.cells_eq]; rfl
    rw [splitP_and, hcl]
    generalize splitP a = A at *
    generalize splitP b = B at *
    have h4 : (∀ e ∈ [a.cells, b.cells], e.length = 4) = True := eq_true (by simp [Pred.cells_length])
    have o1 : (A.length + B.length) * 56 ≤ 2 ^ 46 := by omega
    have o2 : A.length + B.length ≤ 9223372036854775807 := by omega
    simp only [fn_pred_Split, go_sem, Nat.reduceEqDiff, reduceCtorEq, Nat.reduceAdd, Nat.reduceLeDiff, Nat.reduceMul, Nat.reduceLT, Int.reduceToNat, Int.reduceLT, Int.reduceLE, Int.reduceEq, Nat.reduceSub, beq_self_eq_true, h4, Int.ofNat_eq_natCast]
    refine call_by ha ?_
    simp only [go_sem, Nat.reduceEqDiff, reduceCtorEq, Nat.reduceAdd, Nat.reduceLeDiff, Nat.reduceMul, Nat.reduceLT, Int.reduceToNat, Int.reduceLT, Int.reduceLE, Int.reduceEq, Nat.reduceSub, h4]
    refine call_by hb ?_
    simp only [go_sem, Nat.reduceEqDiff, reduceCtorEq, Nat.reduceAdd, Nat.reduceLeDiff, Nat.reduceMul, Nat.reduceLT, Int.reduceToNat, Int.reduceLT, Int.reduceLE, Int.reduceEq, Nat.reduceSub, h4, List.length_map, Pred.lens_true, o1, o2, hrs, List.map_append]
  | false =>
    rw [splitP_else hc]
    rw [Pred.cells_eq (.mk o s n ks)] at *
    simp only [fn_pred_Split, go_sem, Nat.reduceEqDiff, reduceCtorEq, Nat.reduceAdd, Nat.reduceLeDiff, Nat.reduceMul, Nat.reduceLT, Int.reduceToNat, Int.reduceLT, Int.reduceLE, Int.reduceEq, Nat.reduceSub, Pred.op, Pred.name, Pred.n, Pred.kids] at hv hcp ⊢
    intro _
    simp only [hc, go_sem, Nat.reduceEqDiff, reduceCtorEq, Nat.reduceAdd, Nat.reduceLeDiff, Nat.reduceMul, Nat.reduceLT, Int.reduceToNat, Int.reduceLT, Int.reduceLE, Int.reduceEq, Nat.reduceSub]
    refine call_by hv ?_
    cases c1 : voidP (.mk o s n ks) with
    | true =>
      simp only [go_sem, Nat.reduceEqDiff, reduceCtorEq, Nat.reduceAdd, Nat.reduceLeDiff, Nat.reduceMul, Nat.reduceLT, Int.reduceToNat, Int.reduceLT, Int.reduceLE, Int.reduceEq, Nat.reduceSub, hrs, List.not_mem_nil, false_implies, implies_true]
    | false =>
      simp only [go_sem, Nat.reduceEqDiff, reduceCtorEq, Nat.reduceAdd, Nat.reduceLeDiff, Nat.reduceMul, Nat.reduceLT, Int.reduceToNat, Int.reduceLT, Int.reduceLE, Int.reduceEq, Nat.reduceSub]
      refine call_by hcp ?_
      simp only [go_sem, Nat.reduceEqDiff, reduceCtorEq, Nat.reduceAdd, Nat.reduceLeDiff, Nat.reduceMul, Nat.reduceLT, Int.reduceToNat, Int.reduceLT, Int.reduceLE, Int.reduceEq, Nat.reduceSub, hrs, Pred.cells_eq (.mk o s n ks), Pred.op, Pred.name, Pred.n, Pred.kids]
      simp
theorem r07_Split_ev (p : Pred) (hn : p.cnt ≤ 1073741824) : E.C r07_Split [.agg p.cells] (.one (.lst ((splitP p).map Pred.cells))) := by
  induction p using Pred.ind with
  | h o s n ks ih =>
  have hv := r07_Void_ev Z (.mk o s n ks)
  refine Z.r07_Split _ _ ⟨Nat.le_of_ble_eq_true rfl, ?_⟩
  have hrs : fn_r07_Split.rs = [.t 2] := rfl
  cases hc : (o == 15 && (ks.length : Int) == 2) with
  | true =>
    obtain ⟨ho, hk⟩ := Bool.and_eq_true_iff.1 hc
    have hk2 : ((ks.length : Nat) : Int) = 2 := by simpa using hk
    obtain ⟨a, b, rfl⟩ := pair_split (l := ks) (by omega)
    have ho : o = 15 := by simpa using ho
    subst ho
    have hla := splitP_len a
    have hlb := splitP_len b
    simp only [Pred.cnt, Pred.cnts] at hn
    have ha := ih a (by simp) (by omega)
    have hb := ih b (by simp) (by omega)
    have hcl : Pred.cells (.mk 15 s n [a, b]) = [.int .i64 15, .str s, .int .i64 n, .lst [a.cells, b.cells]] := by rw [Pred.cells_eq]; rfl
    rw [splitP_and, hcl]
    generalize splitP a = A at *
    generalize splitP b = B at *
    have h4 : (∀ e ∈ [a.cells, b.cells], e.length = 4) = True := eq_true (by simp [Pred.cells_length])
    have o0 : A.length * 56 ≤ 2 ^ 46 := by omega
    have o1 : (A.length + B.length) * 56 ≤ 2 ^ 46 := by omega
    have o2 : A.length + B.length ≤ 9223372036854775807 := by omega
    have o3 : A.length ≤ 9223372036854775807 := by omega
    simp only [fn_r07_Split, go_sem, Nat.reduceEqDiff, reduceCtorEq, Nat.reduceAdd, Nat.reduceLeDiff, Nat.reduceMul, Nat.reduceLT, Int.reduceToNat, Int.reduceLT, Int.reduceLE, Int.reduceEq, Nat.reduceSub, beq_self_eq_true, h4, Int.ofNat_eq_natCast]
    refine call_by ha ?_
    simp only [go_sem, Nat.reduceEqDiff, reduceCtorEq, Nat.reduceAdd, Nat.reduceLeDiff, Nat.reduceMul, Nat.reduceLT, Int.reduceToNat, Int.reduceLT, Int.reduceLE, Int.reduceEq, Nat.reduceSub, h4, List.length_map, Pred.lens_true, o0, o3, List.not_mem_nil, false_implies, implies_true, Nat.zero_add]
    refine call_by hb ?_
    simp only [go_sem, Nat.reduceEqDiff, reduceCtorEq, Nat.reduceAdd, Nat.reduceLeDiff, Nat.reduceMul, Nat.reduceLT, Int.reduceToNat, Int.reduceLT, Int.reduceLE, Int.reduceEq, Nat.reduceSub, h4, List.length_map, Pred.lens_true, o1, o2, hrs, List.map_append]
  | false =>
    rw [splitP_else hc]
    rw [Pred.cells_eq (.mk o s n ks)] at *
    simp only [fn_r07_Split, go_sem, Nat.reduceEqDiff, reduceCtorEq, Nat.reduceAdd, Nat.reduceLeDiff, Nat.reduceMul, Nat.reduceLT, Int.reduceToNat, Int.reduceLT, Int.reduceLE, Int.reduceEq, Nat.reduceSub, Pred.op, Pred.name, Pred.n, Pred.kids] at hv ⊢
    intro _
    simp only [hc, go_sem, Nat.reduceEqDiff, reduceCtorEq, Nat.reduceAdd, Nat.reduceLeDiff, Nat.reduceMul, Nat.reduceLT, Int.reduceToNat, Int.reduceLT, Int.reduceLE, Int.reduceEq, Nat.reduceSub]
    refine call_by hv ?_
    cases c1 : voidP (.mk o s n ks) with
    | true =>
      simp only [go_sem, Nat.reduceEqDiff, reduceCtorEq, Nat.reduceAdd, Nat.reduceLeDiff, Nat.reduceMul, Nat.reduceLT, Int.reduceToNat, Int.reduceLT, Int.reduceLE, Int.reduceEq, Nat.reduceSub, hrs, List.map_nil]
    | false =>
      simp only [go_sem, Nat.reduceEqDiff, reduceCtorEq, Nat.reduceAdd, Nat.reduceLeDiff, Nat.reduceMul, Nat.reduceLT, Int.reduceToNat, Int.reduceLT, Int.reduceLE, Int.reduceEq, Nat.reduceSub, hrs, Pred.cells_eq (.mk o s n ks), Pred.op, Pred.name, Pred.n, Pred.kids]
theorem r07_SameAll_ev (a b : List Pred) : E.C r07_SameAll [.one (.lst (a.map Pred.cells)), .one (.lst (b.map Pred.cells))] (.one (.bool (Pred.same.sames a b))) := by
  have h := r07_Same_ev Z
  refine Z.r07_SameAll _ _ ⟨Nat.le_of_ble_eq_true rfl, ?_⟩
  generalize hR : Pred.same.sames a b = R
  simp only [fn_r07_SameAll, go_sem, Nat.reduceEqDiff, reduceCtorEq, Nat.reduceAdd, Nat.reduceLeDiff, Nat.reduceMul, Nat.reduceLT, Int.reduceToNat, Int.reduceLT, Int.reduceLE, Int.reduceEq, Nat.reduceSub]
  intro hl1 hl2
  by_cases hlen : a.length = b.length
  · have h1 : ((a.length : Int) != (b.length : Int)) = false := by simp [hlen]
    simp only [h1, go_sem, Nat.reduceEqDiff, reduceCtorEq, Nat.reduceAdd, Nat.reduceLeDiff, Nat.reduceMul, Nat.reduceLT, Int.reduceToNat, Int.reduceLT, Int.reduceLE, Int.reduceEq, Nat.reduceSub]
    intro _
    refine loop_list a (fun done => Pred.same.sames done (b.take done.length) = true) (fun done rest => ⟨[(13, .d (.int .i64 done.length)), (12, .d (.int .i64 a.length)), (0, .d (.lst (a.map Pred.cells))), (1, .d (.lst (b.map Pred.cells)))], [], []⟩) ?_ (by simp [Pred.same.sames]) ?_ ?_
    · exact Ent_plain (by simp only [go_sem, Nat.reduceEqDiff, reduceCtorEq, Nat.reduceAdd, Nat.reduceLeDiff, Nat.reduceMul, Nat.reduceLT, Int.reduceToNat, Int.reduceLT, Int.reduceLE, Int.reduceEq, Nat.reduceSub])
    · intro done x r hl hI
      obtain ⟨bd, y, r', hb, hbl⟩ := at_split (b := b) (n := done.length) (by rw [← hlen, hl]; simp)
      have htk : b.take done.length = bd := by rw [hb]; exact List.take_left' hbl
      have hlt := lt_mid hl
      have hlt2 := lt_mid hb
      rw [hbl] at hlt2
      have hw : IntKind.i64.wrap ((done.length : Int) + 1) = ((done.length + 1 : Nat) : Int) := wrap_succ (by omega)
      rw [htk] at hI
      rw [hl, hb, Pred.sames_app hbl.symm, hI, Pred.same.sames, Bool.true_and] at hR
      simp only [fn_r07_SameAll_L1, go_sem, Nat.reduceEqDiff, reduceCtorEq, Nat.reduceAdd, Nat.reduceLeDiff, Nat.reduceMul, Nat.reduceLT, Int.reduceToNat, Int.reduceLT, Int.reduceLE, Int.reduceEq, Nat.reduceSub, getD_midP hl, getD_atP hb hbl, hlt, hlt2]
      refine call_by (h x y) ?_
      cases h2 : x.same y with
      | true =>
        simp only [go_sem, Nat.reduceEqDiff, reduceCtorEq, Nat.reduceAdd, Nat.reduceLeDiff, Nat.reduceMul, Nat.reduceLT, Int.reduceToNat, Int.reduceLT, Int.reduceLE, Int.reduceEq, Nat.reduceSub, hw, List.length_append]
        refine ⟨Ent_plain (by simp only [go_sem, Nat.reduceEqDiff, reduceCtorEq, Nat.reduceAdd, Nat.reduceLeDiff, Nat.reduceMul, Nat.reduceLT, Int.reduceToNat, Int.reduceLT, Int.reduceLE, Int.reduceEq, Nat.reduceSub]), ?_⟩
        have ht2 : b.take (done.length + 1) = bd ++ [y] := by rw [hb, show bd ++ y :: r' = (bd ++ [y]) ++ r' by simp]; exact List.take_left' (by simp [hbl])
        rw [ht2, Pred.sames_app hbl.symm, hI]
        simp [Pred.same.sames, h2]
      | false => simp only [h2, go_sem, Nat.reduceEqDiff, reduceCtorEq, Nat.reduceAdd, Nat.reduceLeDiff, Nat.reduceMul, Nat.reduceLT, Int.reduceToNat, Int.reduceLT, Int.reduceLE, Int.reduceEq, Nat.reduceSub] at hR ⊢; exact hR
    · intro hI
      rw [hlen, List.take_length] at hI
      rw [hI] at hR
      subst hR
      simp only [fn_r07_SameAll_L1, go_sem, Nat.reduceEqDiff, reduceCtorEq, Nat.reduceAdd, Nat.reduceLeDiff, Nat.reduceMul, Nat.reduceLT, Int.reduceToNat, Int.reduceLT, Int.reduceLE, Int.reduceEq, Nat.reduceSub]
  · have h1 : ((a.length : Int) != (b.length : Int)) = true := by simp; omega
    rw [Pred.sames_len hlen] at hR
    simp only [h1, go_sem, Nat.reduceEqDiff, reduceCtorEq, Nat.reduceAdd, Nat.reduceLeDiff, Nat.reduceMul, Nat.reduceLT, Int.reduceToNat, Int.reduceLT, Int.reduceLE, Int.reduceEq, Nat.reduceSub, hR]
theorem r04_Same_ev (a b : List Str) : E.C r04_Same [.one (.lst (a.map fun k => [.str k])), .one (.lst (b.map fun k => [.str k]))] (.one (.bool (a == b))) := by
  refine Z.r04_Same _ _ ⟨Nat.le_of_ble_eq_true rfl, ?_⟩
  generalize hR : (a == b) = R
  have l1 : ∀ l : List Str, (∀ e ∈ l.map (fun k : Str => [D.str k]), e.length = 1) = True := fun l => eq_true (by simp)
  simp only [fn_r04_Same, go_sem, Nat.reduceEqDiff, reduceCtorEq, Nat.reduceAdd, Nat.reduceLeDiff, Nat.reduceMul, Nat.reduceLT, Int.reduceToNat, Int.reduceLT, Int.reduceLE, Int.reduceEq, Nat.reduceSub, List.length_map]
  intro hl1 hl2
  by_cases hlen : a.length = b.length
  · have h1 : ((a.length : Int) != (b.length : Int)) = false := by simp [hlen]
    simp only [h1, go_sem, Nat.reduceEqDiff, reduceCtorEq, Nat.reduceAdd, Nat.reduceLeDiff, Nat.reduceMul, Nat.reduceLT, Int.reduceToNat, Int.reduceLT, Int.reduceLE, Int.reduceEq, Nat.reduceSub]
    intro _
    refine loop_list a (fun done => done = b.take done.length) (fun done rest => ⟨[(13, .d (.int .i64 done.length)), (12, .d (.int .i64 a.length)), (0, .d (.lst (a.map fun k => [.str k]))), (1, .d (.lst (b.map fun k => [.str k])))], [], []⟩) ?_ (by simp) ?_ ?_
    · exact Ent_plain (by simp only [go_sem, Nat.reduceEqDiff, reduceCtorEq, Nat.reduceAdd, Nat.reduceLeDiff, Nat.reduceMul, Nat.reduceLT, Int.reduceToNat, Int.reduceLT, Int.reduceLE, Int.reduceEq, Nat.reduceSub])
    · intro done x r hl hI
      obtain ⟨bd, y, r', hb, hbl⟩ := at_split (b := b) (n := done.length) (by rw [← hlen, hl]; simp)
      have htk : b.take done.length = bd := by rw [hb]; exact List.take_left' hbl
      have hlt := lt_mid hl
      have hlt2 := lt_mid hb
      rw [hbl] at hlt2
      have hw : IntKind.i64.wrap ((done.length : Int) + 1) = ((done.length + 1 : Nat) : Int) := wrap_succ (by omega)
      rw [htk] at hI
      rw [eql_lists hl hb hI] at hR
      have hx : (a.map fun k : Str => [D.str k]).getD done.length [] = [.str x] := by rw [hl]; simp
      have hy : (b.map fun k : Str => [D.str k]).getD done.length [] = [.str y] := by rw [hb, ← hbl]; simp
      simp only [fn_r04_Same_L1, go_sem, Nat.reduceEqDiff, reduceCtorEq, Nat.reduceAdd, Nat.reduceLeDiff, Nat.reduceMul, Nat.reduceLT, Int.reduceToNat, Int.reduceLT, Int.reduceLE, Int.reduceEq, Nat.reduceSub, hx, hy, hlt, hlt2, List.length_map, l1]
      cases h2 : (x == y) with
      | true =>
        have h2' : x = y := by simpa using h2
        subst h2'
        simp only [go_sem, Nat.reduceEqDiff, reduceCtorEq, Nat.reduceAdd, Nat.reduceLeDiff, Nat.reduceMul, Nat.reduceLT, Int.reduceToNat, Int.reduceLT, Int.reduceLE, Int.reduceEq, Nat.reduceSub, hw, List.length_append]
        refine ⟨Ent_plain (by simp only [go_sem, Nat.reduceEqDiff, reduceCtorEq, Nat.reduceAdd, Nat.reduceLeDiff, Nat.reduceMul, Nat.reduceLT, Int.reduceToNat, Int.reduceLT, Int.reduceLE, Int.reduceEq, Nat.reduceSub]), ?_⟩
        have ht2 : b.take (done.length + 1) = bd ++ [x] := by rw [hb, show bd ++ x :: r' = (bd ++ [x]) ++ r' by simp]; exact List.take_left' (by simp [hbl])
        rw [ht2, ← hI]
      | false =>
        simp only [h2, go_sem, Nat.reduceEqDiff, reduceCtorEq, Nat.reduceAdd, Nat.reduceLeDiff, Nat.reduceMul, Nat.reduceLT, Int.reduceToNat, Int.reduceLT, Int.reduceLE, Int.reduceEq, Nat.reduceSub] at hR ⊢
        exact hR
    · intro hI
      rw [hlen, List.take_length] at hI
      subst hI
      simp only [beq_self_eq_true] at hR
      subst hR
      simp only [fn_r04_Same_L1, go_sem, Nat.reduceEqDiff, reduceCtorEq, Nat.reduceAdd, Nat.reduceLeDiff, Nat.reduceMul, Nat.reduceLT, Int.reduceToNat, Int.reduceLT, Int.reduceLE, Int.reduceEq, Nat.reduceSub]
  · have h1 : ((a.length : Int) != (b.length : Int)) = true := by simp; omega
    have h2 : (a == b) = false := by simp; rintro rfl; exact hlen rfl
    rw [h2] at hR
    simp only [h1, go_sem, Nat.reduceEqDiff, reduceCtorEq, Nat.reduceAdd, Nat.reduceLeDiff, Nat.reduceMul, Nat.reduceLT, Int.reduceToNat, Int.reduceLT, Int.reduceLE, Int.reduceEq, Nat.reduceSub, hR]
theorem l07_Few_ev (p : Pred) : E.C l07_Few [.agg p.cells] (.one (.bool (decide (p.nodes ≤ 600)))) := by
  have h := r07_Nodes_ev Z p
  refine Z.l07_Few _ _ ⟨Nat.le_of_ble_eq_true rfl, ?_⟩
  generalize p.nodes = m at *
  rw [Pred.cells_eq p] at *
  simp only [fn_l07_Few, go_sem, Nat.reduceEqDiff, reduceCtorEq, Nat.reduceAdd, Nat.reduceLeDiff, Nat.reduceMul, Nat.reduceLT, Int.reduceToNat, Int.reduceLT, Int.reduceLE, Int.reduceEq, Nat.reduceSub]
  refine call_by h ?_
  simp only [go_sem, Nat.reduceEqDiff, reduceCtorEq, Nat.reduceAdd, Nat.reduceLeDiff, Nat.reduceMul, Nat.reduceLT, Int.reduceToNat, Int.reduceLT, Int.reduceLE, Int.reduceEq, Nat.reduceSub]
theorem l07_all_ev (l : List Pred) : E.C l07_all [.one (.lst (l.map Pred.cells))] (.one (.bool (l.all (fun p => decide (p.nodes ≤ 600)) && decide ((l.length : Int) ≤ 60)))) := by
  have h := l07_Few_ev Z
  refine Z.l07_all _ _ ⟨Nat.le_of_ble_eq_true rfl, ?_⟩
  generalize hR : (l.all (fun p => decide (p.nodes ≤ 600)) && decide ((l.length : Int) ≤ 60)) = R
  simp only [fn_l07_all, go_sem, Nat.reduceEqDiff, reduceCtorEq, Nat.reduceAdd, Nat.reduceLeDiff, Nat.reduceMul, Nat.reduceLT, Int.reduceToNat, Int.reduceLT, Int.reduceLE, Int.reduceEq, Nat.reduceSub]
  intro hlen
  refine loop_list l (fun done => ∀ y ∈ done, decide (y.nodes ≤ 600) = true) (fun done rest => ⟨[(7, .d (.int .i64 done.length)), (6, .d (.int .i64 l.length)), (5, .d (.lst (l.map Pred.cells))), (0, .d (.lst (l.map Pred.cells)))], [], []⟩) ?_ (by simp) ?_ ?_
  · exact Ent_plain (by simp only [go_sem, Nat.reduceEqDiff, reduceCtorEq, Nat.reduceAdd, Nat.reduceLeDiff, Nat.reduceMul, Nat.reduceLT, Int.reduceToNat, Int.reduceLT, Int.reduceLE, Int.reduceEq, Nat.reduceSub])
  · intro done k r hl hI
    have hlt := lt_mid hl
    have hw : IntKind.i64.wrap ((done.length : Int) + 1) = ((done.length + 1 : Nat) : Int) := wrap_succ (by omega)
    simp only [fn_l07_all_L1, go_sem, Nat.reduceEqDiff, reduceCtorEq, Nat.reduceAdd, Nat.reduceLeDiff, Nat.reduceMul, Nat.reduceLT, Int.reduceToNat, Int.reduceLT, Int.reduceLE, Int.reduceEq, Nat.reduceSub, hlt, getD_midP hl, List.length_map, drop_cells]
    refine call_by (h k) ?_
    cases c0 : decide (k.nodes ≤ 600) with
    | true =>
      simp only [go_sem, Nat.reduceEqDiff, reduceCtorEq, Nat.reduceAdd, Nat.reduceLeDiff, Nat.reduceMul, Nat.reduceLT, Int.reduceToNat, Int.reduceLT, Int.reduceLE, Int.reduceEq, Nat.reduceSub, hw, List.length_append]
      exact ⟨Ent_plain (by simp only [go_sem, Nat.reduceEqDiff, reduceCtorEq, Nat.reduceAdd, Nat.reduceLeDiff, Nat.reduceMul, Nat.reduceLT, Int.reduceToNat, Int.reduceLT, Int.reduceLE, Int.reduceEq, Nat.reduceSub]), app_all hI c0⟩
    | false =>
      have : l.all (fun p => decide (p.nodes ≤ 600)) = false := by
        rw [hl, List.all_append, List.all_cons, c0]; simp
      rw [this] at hR
      simp only [go_sem, Nat.reduceEqDiff, reduceCtorEq, Nat.reduceAdd, Nat.reduceLeDiff, Nat.reduceMul, Nat.reduceLT, Int.reduceToNat, Int.reduceLT, Int.reduceLE, Int.reduceEq, Nat.reduceSub] at hR ⊢
      exact hR
  · intro hI
    have : l.all (fun p => decide (p.nodes ≤ 600)) = true := List.all_eq_true.2 hI
    rw [this, Bool.true_and] at hR
    simp only [fn_l07_all_L1, go_sem, Nat.reduceEqDiff, reduceCtorEq, Nat.reduceAdd, Nat.reduceLeDiff, Nat.reduceMul, Nat.reduceLT, Int.reduceToNat, Int.reduceLT, Int.reduceLE, Int.reduceEq, Nat.reduceSub]
    intro _
    simp only [go_sem, Nat.reduceEqDiff, reduceCtorEq, Nat.reduceAdd, Nat.reduceLeDiff, Nat.reduceMul, Nat.reduceLT, Int.reduceToNat, Int.reduceLT, Int.reduceLE, Int.reduceEq, Nat.reduceSub, hR]
end Go.Abs
end
section
set_option linter.unusedSimpArgs false
set_option linter.unusedVariables false
set_option linter.unusedSectionVars false
namespace Go.Abs
theorem find_at {α : Type} {f : α → Bool} {l done r : List α} {k : α} (hl : l = done ++ k :: r) (h : ∀ y ∈ done, f y = false) : l.find? f = if f k then some k else r.find? f := by
  subst hl
  rw [List.find?_append, List.find?_cons]
  have : done.find? f = none := by rw [List.find?_eq_none]; intro y hy; rw [h y hy]; exact Bool.false_ne_true
  rw [this]
  cases f k <;> rfl
theorem find_no {α : Type} {f : α → Bool} {l : List α} (h : ∀ y ∈ l, f y = false) : l.find? f = none := by
  rw [List.find?_eq_none]; intro y hy; rw [h y hy]; exact Bool.false_ne_true
theorem SSol.lens (l : List SSol) : (∀ e ∈ l.map SSol.cells, e.length = 5) = True := lens_map (f := SSol.cells) (fun s => by simp [SSol.cells, Pred.cells_length]) l
attribute [go_sem] SSol.lens
theorem SSol.cells_mk (t : Str) (o : Int) (s : Str) (n : Int) (ks : List Pred) : SSol.cells ⟨t, .mk o s n ks⟩ = [.str t, .int .i64 o, .str s, .int .i64 n, .lst (ks.map Pred.cells)] := by
  unfold SSol.cells; rw [Pred.cells_eq]; rfl
theorem svar_names (l : List SVar) : ((l.map SVar.name).map fun k => [D.str k]) = l.map fun v => [.str v.name] := by rw [List.map_map]; rfl
set_option maxRecDepth 100000
variable {E : AEnv} (Z : Sys E)
include Z
theorem pred_filled_ev (holes : List SHole) (hh : ∀ h ∈ holes, Small h.params.length) (l : List SSol) (hl : ∀ s ∈ l, Tame s.pred) (q : Pred) (hq : ∀ k ∈ q.kids, Tame k) :
    E.C pred_filled [.agg q.cells, .one (.lst (holes.map SHole.cells)), .one (.lst (l.map SSol.cells))] (.agg (filledP holes l q).cells) := by
  have hs := fun p => pred_Same_ev Z p zeroP
  have hc := pred_constant_ev Z true
  simp only [if_true] at hc
  obtain ⟨o, s, n, ks⟩ := q
  have hsub := fun names p hp => pred_SubstAll_ev Z names ks hq p hp
  refine Z.pred_filled _ _ ⟨Nat.le_of_ble_eq_true rfl, ?_⟩
  generalize hR : filledP holes l (.mk o s n ks) = R
  unfold filledP at hR
  simp only [Pred.name, Pred.kids] at hR
  rw [Pred.cells_eq (.mk o s n ks)]
  rw [zeroP_cells] at hs
  rw [trueP_cells] at hc
  have hrs : fn_pred_filled.rs = [.c 6 true 4] := rfl
  simp only [fn_pred_filled, go_sem, Nat.reduceEqDiff, reduceCtorEq, Nat.reduceAdd, Nat.reduceLeDiff, Nat.reduceMul, Nat.reduceLT, Int.reduceToNat, Int.reduceLT, Int.reduceLE, Int.reduceEq, Nat.reduceSub, Pred.op, Pred.name, Pred.n, Pred.kids]
  intro hlen
  refine loop_named fun K' hK => ?_
  refine loop_list l (fun done => ∀ y ∈ done, (y.name == s) = false) (fun done rest => ⟨[(16, .d (.int .i64 done.length)), (15, .d (.int .i64 l.length)), (14, .d (.lst (l.map SSol.cells))), (1, .d (.lst (holes.map SHole.cells))), (3, .ptr 3 0), (6, .ptr 6 0)], [(6, [.d (.int .i64 0), .d (.str []), .d (.int .i64 0), .full []]), (3, [.d (.int .i64 o), .d (.str s), .d (.int .i64 n), .d (.lst (ks.map Pred.cells))])], []⟩) ?_ (by simp) ?_ ?_
  · exact Ent_plain (by simp only [go_sem, Nat.reduceEqDiff, reduceCtorEq, Nat.reduceAdd, Nat.reduceLeDiff, Nat.reduceMul, Nat.reduceLT, Int.reduceToNat, Int.reduceLT, Int.reduceLE, Int.reduceEq, Nat.reduceSub, Option.isSome_some])
  · intro done k r hl' hI
    rw [find_at hl' hI] at hR
    have hlt := lt_mid hl'
    have hw : IntKind.i64.wrap ((done.length : Int) + 1) = ((done.length + 1 : Nat) : Int) := wrap_succ (by omega)
    have htk := hl k (by rw [hl']; simp)
    obtain ⟨t, so, ss, sn, sks⟩ := k
    have hsk := hs (.mk so ss sn sks)
    have hget : (l.map SSol.cells).getD done.length [] = [.str t, .int .i64 so, .str ss, .int .i64 sn, .lst (sks.map Pred.cells)] := by rw [← SSol.cells_mk]; exact getD_at hl'
    rw [Pred.cells_eq (.mk so ss sn sks)] at hsk
    simp only [Pred.op, Pred.name, Pred.n, Pred.kids] at hsk
    simp only [fn_pred_filled_L3, go_sem, Nat.reduceEqDiff, reduceCtorEq, Nat.reduceAdd, Nat.reduceLeDiff, Nat.reduceMul, Nat.reduceLT, Int.reduceToNat, Int.reduceLT, Int.reduceLE, Int.reduceEq, Nat.reduceSub, hlt, hget]
    cases c0 : (t == s) with
    | false =>
      simp only [c0, go_sem, Nat.reduceEqDiff, reduceCtorEq, Nat.reduceAdd, Nat.reduceLeDiff, Nat.reduceMul, Nat.reduceLT, Int.reduceToNat, Int.reduceLT, Int.reduceLE, Int.reduceEq, Nat.reduceSub, hw, List.length_append]
      exact ⟨Ent_plain (by simp only [go_sem, Nat.reduceEqDiff, reduceCtorEq, Nat.reduceAdd, Nat.reduceLeDiff, Nat.reduceMul, Nat.reduceLT, Int.reduceToNat, Int.reduceLT, Int.reduceLE, Int.reduceEq, Nat.reduceSub, Option.isSome_some]), app_all hI c0⟩
    | true =>
      simp only [c0, go_sem, Nat.reduceEqDiff, reduceCtorEq, Nat.reduceAdd, Nat.reduceLeDiff, Nat.reduceMul, Nat.reduceLT, Int.reduceToNat, Int.reduceLT, Int.reduceLE, Int.reduceEq, Nat.reduceSub] at hR ⊢
      refine call_by hsk ?_
      cases c1 : (Pred.mk so ss sn sks).same zeroP with
      | true =>
        simp only [c1, go_sem, Nat.reduceEqDiff, reduceCtorEq, Nat.reduceAdd, Nat.reduceLeDiff, Nat.reduceMul, Nat.reduceLT, Int.reduceToNat, Int.reduceLT, Int.reduceLE, Int.reduceEq, Nat.reduceSub] at hR ⊢
        refine call_by hc ?_
        simp only [go_sem, Nat.reduceEqDiff, reduceCtorEq, Nat.reduceAdd, Nat.reduceLeDiff, Nat.reduceMul, Nat.reduceLT, Int.reduceToNat, Int.reduceLT, Int.reduceLE, Int.reduceEq, Nat.reduceSub, hK, hrs, ← hR, trueP_cells]
      | false =>
        simp only [c1, go_sem, Nat.reduceEqDiff, reduceCtorEq, Nat.reduceAdd, Nat.reduceLeDiff, Nat.reduceMul, Nat.reduceLT, Int.reduceToNat, Int.reduceLT, Int.reduceLE, Int.reduceEq, Nat.reduceSub] at hR ⊢
        intro hlenh
        refine loop_named fun K2 hK2 => ?_
        refine loop_list holes (fun done => ∀ y ∈ done, (y.name == s) = false) (fun done rest => ⟨[(32, .d (.int .i64 done.length)), (31, .d (.int .i64 holes.length)), (30, .d (.lst (holes.map SHole.cells))), (3, .ptr 3 0), (6, .ptr 6 0), (8, .ptr 8 0)], [(8, [.d (.str t), .d (.int .i64 so), .d (.str ss), .d (.int .i64 sn), .d (.lst (sks.map Pred.cells))]), (6, [.d (.int .i64 0), .d (.str []), .d (.int .i64 0), .full []]), (3, [.d (.int .i64 o), .d (.str s), .d (.int .i64 n), .d (.lst (ks.map Pred.cells))])], []⟩) ?_ (by simp) ?_ ?_
        · exact Ent_plain (by simp only [go_sem, Nat.reduceEqDiff, reduceCtorEq, Nat.reduceAdd, Nat.reduceLeDiff, Nat.reduceMul, Nat.reduceLT, Int.reduceToNat, Int.reduceLT, Int.reduceLE, Int.reduceEq, Nat.reduceSub, Option.isSome_some])
        · intro hdone h hr hlh hIh
          rw [find_at hlh hIh] at hR
          have hhlt := lt_mid hlh
          have hhw : IntKind.i64.wrap ((hdone.length : Int) + 1) = ((hdone.length + 1 : Nat) : Int) := wrap_succ (by omega)
          have hsm := hh h (by rw [hlh]; simp)
          have hgeth : (holes.map SHole.cells).getD hdone.length [] = [.str h.name, .lst (h.params.map SVar.cells)] := getD_at hlh
          simp only [fn_pred_filled_L2, go_sem, Nat.reduceEqDiff, reduceCtorEq, Nat.reduceAdd, Nat.reduceLeDiff, Nat.reduceMul, Nat.reduceLT, Int.reduceToNat, Int.reduceLT, Int.reduceLE, Int.reduceEq, Nat.reduceSub, hhlt, hgeth]
          cases c2 : (h.name == s) with
          | false =>
            simp only [c2, go_sem, Nat.reduceEqDiff, reduceCtorEq, Nat.reduceAdd, Nat.reduceLeDiff, Nat.reduceMul, Nat.reduceLT, Int.reduceToNat, Int.reduceLT, Int.reduceLE, Int.reduceEq, Nat.reduceSub, hhw, List.length_append]
            exact ⟨Ent_plain (by simp only [go_sem, Nat.reduceEqDiff, reduceCtorEq, Nat.reduceAdd, Nat.reduceLeDiff, Nat.reduceMul, Nat.reduceLT, Int.reduceToNat, Int.reduceLT, Int.reduceLE, Int.reduceEq, Nat.reduceSub, Option.isSome_some]), app_all hIh c2⟩
          | true =>
            simp only [c2, go_sem, Nat.reduceEqDiff, reduceCtorEq, Nat.reduceAdd, Nat.reduceLeDiff, Nat.reduceMul, Nat.reduceLT, Int.reduceToNat, Int.reduceLT, Int.reduceLE, Int.reduceEq, Nat.reduceSub] at hR ⊢
            intro hlenp
            unfold Small at hsm
            refine loop_named fun K3 hK3 => ?_
            refine loop_list h.params (fun _ => True) (fun done rest => ⟨[(44, .d (.int .i64 done.length)), (43, .d (.int .i64 h.params.length)), (42, .d (.lst (h.params.map SVar.cells))), (11, .own 11 1 (done.map fun v => [.str v.name])), (3, .ptr 3 0), (6, .ptr 6 0), (8, .ptr 8 0)], [(8, [.d (.str t), .d (.int .i64 so), .d (.str ss), .d (.int .i64 sn), .d (.lst (sks.map Pred.cells))]), (6, [.d (.int .i64 0), .d (.str []), .d (.int .i64 0), .full []]), (3, [.d (.int .i64 o), .d (.str s), .d (.int .i64 n), .d (.lst (ks.map Pred.cells))])], [(11, true)]⟩) ?_ trivial ?_ ?_
            · exact Ent_conv 11 11 1 [] [(11, 11)] rfl (by simp) rfl (by simp only [Ent0, go_sem, Nat.reduceEqDiff, reduceCtorEq, Nat.reduceAdd, Nat.reduceLeDiff, Nat.reduceMul, Nat.reduceLT, Int.reduceToNat, Int.reduceLT, Int.reduceLE, Int.reduceEq, Nat.reduceSub, List.contains_nil, Option.isSome_some])
            · intro pd v pr hlp _
              have hplt := lt_mid hlp
              have hpl : h.params.length = pd.length + (pr.length + 1) := by rw [hlp]; simp
              have hpw : IntKind.i64.wrap ((pd.length : Int) + 1) = ((pd.length + 1 : Nat) : Int) := wrap_succ (by omega)
              have hgetp : (h.params.map SVar.cells).getD pd.length [] = [.str v.name, .str v.sort] := getD_at hlp
              have oa : (pd.length + 1) * 16 ≤ 2 ^ 46 := by omega
              have ob : pd.length + 1 ≤ 9223372036854775807 := by omega
              simp only [fn_pred_filled_L1, go_sem, Nat.reduceEqDiff, reduceCtorEq, Nat.reduceAdd, Nat.reduceLeDiff, Nat.reduceMul, Nat.reduceLT, Int.reduceToNat, Int.reduceLT, Int.reduceLE, Int.reduceEq, Nat.reduceSub, hplt, hgetp, List.length_map, oa, ob]
              refine ⟨by simp, Ent_own [(11, 52)] ?_⟩
              simp only [go_sem, Nat.reduceEqDiff, reduceCtorEq, Nat.reduceAdd, Nat.reduceLeDiff, Nat.reduceMul, Nat.reduceLT, Int.reduceToNat, Int.reduceLT, Int.reduceLE, Int.reduceEq, Nat.reduceSub, hpw, List.contains_nil, Option.isSome_some, List.length_append, List.map_append]
            · intro _
              have hcall := hsub (h.params.map SVar.name) (.mk so ss sn sks) htk
              rw [svar_names, Pred.cells_eq (.mk so ss sn sks)] at hcall
              simp only [Pred.op, Pred.name, Pred.n, Pred.kids] at hcall
              simp only [fn_pred_filled_L1, go_sem, Nat.reduceEqDiff, reduceCtorEq, Nat.reduceAdd, Nat.reduceLeDiff, Nat.reduceMul, Nat.reduceLT, Int.reduceToNat, Int.reduceLT, Int.reduceLE, Int.reduceEq, Nat.reduceSub, hK3]
              refine call_by hcall ?_
              simp only [go_sem, Nat.reduceEqDiff, reduceCtorEq, Nat.reduceAdd, Nat.reduceLeDiff, Nat.reduceMul, Nat.reduceLT, Int.reduceToNat, Int.reduceLT, Int.reduceLE, Int.reduceEq, Nat.reduceSub, hK2, hK, hrs, hR]
        · intro hIh
          rw [find_no hIh] at hR
          simp only [fn_pred_filled_L2, go_sem, Nat.reduceEqDiff, reduceCtorEq, Nat.reduceAdd, Nat.reduceLeDiff, Nat.reduceMul, Nat.reduceLT, Int.reduceToNat, Int.reduceLT, Int.reduceLE, Int.reduceEq, Nat.reduceSub, hK2] at hR ⊢
          refine call_by hc ?_
          simp only [go_sem, Nat.reduceEqDiff, reduceCtorEq, Nat.reduceAdd, Nat.reduceLeDiff, Nat.reduceMul, Nat.reduceLT, Int.reduceToNat, Int.reduceLT, Int.reduceLE, Int.reduceEq, Nat.reduceSub, hK, hrs, ← hR, trueP_cells]
  · intro hI
    rw [find_no hI] at hR
    simp only [fn_pred_filled_L3, go_sem, Nat.reduceEqDiff, reduceCtorEq, Nat.reduceAdd, Nat.reduceLeDiff, Nat.reduceMul, Nat.reduceLT, Int.reduceToNat, Int.reduceLT, Int.reduceLE, Int.reduceEq, Nat.reduceSub, hK] at hR ⊢
    refine call_by hc ?_
    simp only [go_sem, Nat.reduceEqDiff, reduceCtorEq, Nat.reduceAdd, Nat.reduceLeDiff, Nat.reduceMul, Nat.reduceLT, Int.reduceToNat, Int.reduceLT, Int.reduceLE, Int.reduceEq, Nat.reduceSub, hrs, ← hR, trueP_cells]
end Go.Abs
end
section
set_option linter.unusedSimpArgs false
set_option linter.unusedVariables false
set_option linter.unusedSectionVars false
namespace Go.Abs
set_option maxRecDepth 100000
variable {E : AEnv} (Z : Sys E)
include Z
theorem r07_solution_ev (holes : List SHole) (hh : ∀ h ∈ holes, Small h.params.length) (l : List SSol) (hl : ∀ s ∈ l, Tame s.pred) (q : Pred) :
    E.C r07_solution [.agg q.cells, .one (.lst (holes.map SHole.cells)), .one (.lst (l.map SSol.cells))] (.agg (solutionP holes l q).cells) := by
  have hv := r07_Void_ev Z
  have hc := r07_True_ev Z
  obtain ⟨o, s, n, ks⟩ := q
  have hsub := fun names p hp => r07_SubstAll_ev Z names ks p hp
  refine Z.r07_solution _ _ ⟨Nat.le_of_ble_eq_true rfl, ?_⟩
  generalize hR : solutionP holes l (.mk o s n ks) = R
  unfold solutionP at hR
  simp only [Pred.name, Pred.kids] at hR
  rw [Pred.cells_eq (.mk o s n ks)]
  rw [trueP_cells] at hc
  have hrs : fn_r07_solution.rs = [.c 6 true 4] := rfl
  simp only [fn_r07_solution, go_sem, Nat.reduceEqDiff, reduceCtorEq, Nat.reduceAdd, Nat.reduceLeDiff, Nat.reduceMul, Nat.reduceLT, Int.reduceToNat, Int.reduceLT, Int.reduceLE, Int.reduceEq, Nat.reduceSub, Pred.op, Pred.name, Pred.n, Pred.kids]
  intro hlen
  refine loop_named fun K' hK => ?_
  refine loop_list holes (fun done => ∀ y ∈ done, (y.name == s) = false) (fun done rest => ⟨[(16, .d (.int .i64 done.length)), (15, .d (.int .i64 holes.length)), (14, .d (.lst (holes.map SHole.cells))), (2, .d (.lst (l.map SSol.cells))), (3, .ptr 3 0), (6, .ptr 6 0)], [(6, [.d (.int .i64 0), .d (.str []), .d (.int .i64 0), .full []]), (3, [.d (.int .i64 o), .d (.str s), .d (.int .i64 n), .d (.lst (ks.map Pred.cells))])], []⟩) ?_ (by simp) ?_ ?_
  · exact Ent_plain (by simp only [go_sem, Nat.reduceEqDiff, reduceCtorEq, Nat.reduceAdd, Nat.reduceLeDiff, Nat.reduceMul, Nat.reduceLT, Int.reduceToNat, Int.reduceLT, Int.reduceLE, Int.reduceEq, Nat.reduceSub, Option.isSome_some])
  · intro hdone h hr hlh hIh
    rw [find_at hlh hIh] at hR
    have hhlt := lt_mid hlh
    have hhw : IntKind.i64.wrap ((hdone.length : Int) + 1) = ((hdone.length + 1 : Nat) : Int) := wrap_succ (by omega)
    have hsm := hh h (by rw [hlh]; simp)
    have hgeth : (holes.map SHole.cells).getD hdone.length [] = [.str h.name, .lst (h.params.map SVar.cells)] := getD_at hlh
    simp only [fn_r07_solution_L3, go_sem, Nat.reduceEqDiff, reduceCtorEq, Nat.reduceAdd, Nat.reduceLeDiff, Nat.reduceMul, Nat.reduceLT, Int.reduceToNat, Int.reduceLT, Int.reduceLE, Int.reduceEq, Nat.reduceSub, hhlt, hgeth]
    cases c2 : (h.name == s) with
    | false =>
      simp only [c2, go_sem, Nat.reduceEqDiff, reduceCtorEq, Nat.reduceAdd, Nat.reduceLeDiff, Nat.reduceMul, Nat.reduceLT, Int.reduceToNat, Int.reduceLT, Int.reduceLE, Int.reduceEq, Nat.reduceSub, hhw, List.length_append]
      exact ⟨Ent_plain (by simp only [go_sem, Nat.reduceEqDiff, reduceCtorEq, Nat.reduceAdd, Nat.reduceLeDiff, Nat.reduceMul, Nat.reduceLT, Int.reduceToNat, Int.reduceLT, Int.reduceLE, Int.reduceEq, Nat.reduceSub, Option.isSome_some]), app_all hIh c2⟩
    | true =>
      simp only [c2, go_sem, Nat.reduceEqDiff, reduceCtorEq, Nat.reduceAdd, Nat.reduceLeDiff, Nat.reduceMul, Nat.reduceLT, Int.reduceToNat, Int.reduceLT, Int.reduceLE, Int.reduceEq, Nat.reduceSub] at hR ⊢
      intro hlenp
      unfold Small at hsm
      refine loop_named fun K3 hK3 => ?_
      refine loop_list h.params (fun _ => True) (fun done rest => ⟨[(28, .d (.int .i64 done.length)), (27, .d (.int .i64 h.params.length)), (26, .d (.lst (h.params.map SVar.cells))), (9, .own 9 1 (done.map fun v => [.str v.name])), (2, .d (.lst (l.map SSol.cells))), (3, .ptr 3 0), (6, .ptr 6 0)], [(6, [.d (.int .i64 0), .d (.str []), .d (.int .i64 0), .full []]), (3, [.d (.int .i64 o), .d (.str s), .d (.int .i64 n), .d (.lst (ks.map Pred.cells))])], [(9, true)]⟩) ?_ trivial ?_ ?_
      · exact Ent_conv 9 9 1 [] [(9, 9)] rfl (by simp) rfl (by simp only [Ent0, go_sem, Nat.reduceEqDiff, reduceCtorEq, Nat.reduceAdd, Nat.reduceLeDiff, Nat.reduceMul, Nat.reduceLT, Int.reduceToNat, Int.reduceLT, Int.reduceLE, Int.reduceEq, Nat.reduceSub, List.contains_nil, Option.isSome_some])
      · intro pd v pr hlp _
        have hplt := lt_mid hlp
        have hpl : h.params.length = pd.length + (pr.length + 1) := by rw [hlp]; simp
        have hpw : IntKind.i64.wrap ((pd.length : Int) + 1) = ((pd.length + 1 : Nat) : Int) := wrap_succ (by omega)
        have hgetp : (h.params.map SVar.cells).getD pd.length [] = [.str v.name, .str v.sort] := getD_at hlp
        have oa : (pd.length + 1) * 16 ≤ 2 ^ 46 := by omega
        have ob : pd.length + 1 ≤ 9223372036854775807 := by omega
        simp only [fn_r07_solution_L2, go_sem, Nat.reduceEqDiff, reduceCtorEq, Nat.reduceAdd, Nat.reduceLeDiff, Nat.reduceMul, Nat.reduceLT, Int.reduceToNat, Int.reduceLT, Int.reduceLE, Int.reduceEq, Nat.reduceSub, hplt, hgetp, List.length_map, oa, ob]
        refine ⟨by simp, Ent_own [(9, 36)] ?_⟩
        simp only [go_sem, Nat.reduceEqDiff, reduceCtorEq, Nat.reduceAdd, Nat.reduceLeDiff, Nat.reduceMul, Nat.reduceLT, Int.reduceToNat, Int.reduceLT, Int.reduceLE, Int.reduceEq, Nat.reduceSub, hpw, List.contains_nil, Option.isSome_some, List.length_append, List.map_append]
      · intro _
        simp only [fn_r07_solution_L2, go_sem, Nat.reduceEqDiff, reduceCtorEq, Nat.reduceAdd, Nat.reduceLeDiff, Nat.reduceMul, Nat.reduceLT, Int.reduceToNat, Int.reduceLT, Int.reduceLE, Int.reduceEq, Nat.reduceSub, hK3]
        intro hlenl
        refine loop_named fun K2 hK2 => ?_
        refine loop_list l (fun done => ∀ y ∈ done, (y.name == s) = false) (fun done rest => ⟨[(40, .d (.int .i64 done.length)), (39, .d (.int .i64 l.length)), (38, .d (.lst (l.map SSol.cells))), (9, .own 9 1 (h.params.map fun v => [.str v.name])), (3, .ptr 3 0), (6, .ptr 6 0)], [(6, [.d (.int .i64 0), .d (.str []), .d (.int .i64 0), .full []]), (3, [.d (.int .i64 o), .d (.str s), .d (.int .i64 n), .d (.lst (ks.map Pred.cells))])], [(9, true)]⟩) ?_ (by simp) ?_ ?_
        · exact Ent_own [(9, 9)] (by simp only [go_sem, Nat.reduceEqDiff, reduceCtorEq, Nat.reduceAdd, Nat.reduceLeDiff, Nat.reduceMul, Nat.reduceLT, Int.reduceToNat, Int.reduceLT, Int.reduceLE, Int.reduceEq, Nat.reduceSub, List.contains_nil, Option.isSome_some])
        · intro done k r hl' hI
          rw [find_at hl' hI] at hR
          have hlt := lt_mid hl'
          have hw : IntKind.i64.wrap ((done.length : Int) + 1) = ((done.length + 1 : Nat) : Int) := wrap_succ (by omega)
          have htk := hl k (by rw [hl']; simp)
          obtain ⟨t, so, ss, sn, sks⟩ := k
          have hvk := hv (.mk so ss sn sks)
          have hget : (l.map SSol.cells).getD done.length [] = [.str t, .int .i64 so, .str ss, .int .i64 sn, .lst (sks.map Pred.cells)] := by rw [← SSol.cells_mk]; exact getD_at hl'
          rw [Pred.cells_eq (.mk so ss sn sks)] at hvk
          simp only [Pred.op, Pred.name, Pred.n, Pred.kids] at hvk
          simp only [fn_r07_solution_L1, go_sem, Nat.reduceEqDiff, reduceCtorEq, Nat.reduceAdd, Nat.reduceLeDiff, Nat.reduceMul, Nat.reduceLT, Int.reduceToNat, Int.reduceLT, Int.reduceLE, Int.reduceEq, Nat.reduceSub, hlt, hget]
          cases c0 : (t == s) with
          | false =>
            simp only [c0, go_sem, Nat.reduceEqDiff, reduceCtorEq, Nat.reduceAdd, Nat.reduceLeDiff, Nat.reduceMul, Nat.reduceLT, Int.reduceToNat, Int.reduceLT, Int.reduceLE, Int.reduceEq, Nat.reduceSub, hw, List.length_append]
            exact ⟨Ent_own [(9, 9)] (by simp only [go_sem, Nat.reduceEqDiff, reduceCtorEq, Nat.reduceAdd, Nat.reduceLeDiff, Nat.reduceMul, Nat.reduceLT, Int.reduceToNat, Int.reduceLT, Int.reduceLE, Int.reduceEq, Nat.reduceSub, List.contains_nil, Option.isSome_some]), app_all hI c0⟩
          | true =>
            simp only [c0, go_sem, Nat.reduceEqDiff, reduceCtorEq, Nat.reduceAdd, Nat.reduceLeDiff, Nat.reduceMul, Nat.reduceLT, Int.reduceToNat, Int.reduceLT, Int.reduceLE, Int.reduceEq, Nat.reduceSub] at hR ⊢
            refine call_by hvk ?_
            cases c1 : voidP (Pred.mk so ss sn sks) with
            | true =>
              simp only [c1, go_sem, Nat.reduceEqDiff, reduceCtorEq, Nat.reduceAdd, Nat.reduceLeDiff, Nat.reduceMul, Nat.reduceLT, Int.reduceToNat, Int.reduceLT, Int.reduceLE, Int.reduceEq, Nat.reduceSub] at hR ⊢
              refine call_by hc ?_
              simp only [go_sem, Nat.reduceEqDiff, reduceCtorEq, Nat.reduceAdd, Nat.reduceLeDiff, Nat.reduceMul, Nat.reduceLT, Int.reduceToNat, Int.reduceLT, Int.reduceLE, Int.reduceEq, Nat.reduceSub, hK2, hK, hrs, ← hR, trueP_cells]
            | false =>
              simp only [c1, go_sem, Nat.reduceEqDiff, reduceCtorEq, Nat.reduceAdd, Nat.reduceLeDiff, Nat.reduceMul, Nat.reduceLT, Int.reduceToNat, Int.reduceLT, Int.reduceLE, Int.reduceEq, Nat.reduceSub] at hR ⊢
              have hcall := hsub (h.params.map SVar.name) (.mk so ss sn sks) htk
              rw [svar_names, Pred.cells_eq (.mk so ss sn sks)] at hcall
              simp only [Pred.op, Pred.name, Pred.n, Pred.kids] at hcall
              refine call_by hcall ?_
              simp only [go_sem, Nat.reduceEqDiff, reduceCtorEq, Nat.reduceAdd, Nat.reduceLeDiff, Nat.reduceMul, Nat.reduceLT, Int.reduceToNat, Int.reduceLT, Int.reduceLE, Int.reduceEq, Nat.reduceSub, hK2, hK, hrs, hR]
        · intro hI
          rw [find_no hI] at hR
          simp only [fn_r07_solution_L1, go_sem, Nat.reduceEqDiff, reduceCtorEq, Nat.reduceAdd, Nat.reduceLeDiff, Nat.reduceMul, Nat.reduceLT, Int.reduceToNat, Int.reduceLT, Int.reduceLE, Int.reduceEq, Nat.reduceSub, hK2] at hR ⊢
          refine call_by hc ?_
          simp only [go_sem, Nat.reduceEqDiff, reduceCtorEq, Nat.reduceAdd, Nat.reduceLeDiff, Nat.reduceMul, Nat.reduceLT, Int.reduceToNat, Int.reduceLT, Int.reduceLE, Int.reduceEq, Nat.reduceSub, hK, hrs, ← hR, trueP_cells]
  · intro hI
    rw [find_no hI] at hR
    simp only [fn_r07_solution_L3, go_sem, Nat.reduceEqDiff, reduceCtorEq, Nat.reduceAdd, Nat.reduceLeDiff, Nat.reduceMul, Nat.reduceLT, Int.reduceToNat, Int.reduceLT, Int.reduceLE, Int.reduceEq, Nat.reduceSub, hK] at hR ⊢
    refine call_by hc ?_
    simp only [go_sem, Nat.reduceEqDiff, reduceCtorEq, Nat.reduceAdd, Nat.reduceLeDiff, Nat.reduceMul, Nat.reduceLT, Int.reduceToNat, Int.reduceLT, Int.reduceLE, Int.reduceEq, Nat.reduceSub, hrs, ← hR, trueP_cells]
theorem r07_Fill_ev (holes : List SHole) (hh : ∀ h ∈ holes, Small h.params.length) (l : List SSol) (hl : ∀ s ∈ l, Tame s.pred) (p : Pred) (hp : Tame p) :
    E.C r07_Fill [.agg p.cells, .one (.lst (holes.map SHole.cells)), .one (.lst (l.map SSol.cells))] (.agg (fillP holes l p).cells) := by
  induction p using Pred.ind with
  | h o s n ks ih =>
  have hk : Small ks.length := hp.top
  unfold Small at hk
  have hwith := r07_with_ev Z o s n ks (ks.map (fillP holes l))
  have hsol := r07_solution_ev Z holes hh l hl (.mk o s n (ks.map (fillP holes l)))
  refine Z.r07_Fill _ _ ⟨Nat.le_of_ble_eq_true rfl, ?_⟩
  generalize hR : fillP holes l (.mk o s n ks) = R
  rw [fillP_eq, filled_same] at hR
  rw [Pred.cells_eq (.mk o s n ks)] at *
  rw [Pred.cells_eq (.mk o s n (ks.map (fillP holes l)))] at *
  have hrs : fn_r07_Fill.rs = [.c 6 true 4] := rfl
  simp only [fn_r07_Fill, go_sem, Nat.reduceEqDiff, reduceCtorEq, Nat.reduceAdd, Nat.reduceLeDiff, Nat.reduceMul, Nat.reduceLT, Int.reduceToNat, Int.reduceLT, Int.reduceLE, Int.reduceEq, Nat.reduceSub, Pred.op, Pred.name, Pred.n, Pred.kids] at hwith hsol ⊢
  intro hlen
  refine loop_named fun K' hK => ?_
  refine loop_list ks (fun _ => True) (fun done rest => ⟨[(14, .d (.int .i64 done.length)), (13, .d (.int .i64 ks.length)), (12, .d (.lst (ks.map Pred.cells))), (7, .own 7 4 ((done.map (fillP holes l)).map Pred.cells)), (1, .d (.lst (holes.map SHole.cells))), (2, .d (.lst (l.map SSol.cells))), (3, .ptr 3 0), (6, .ptr 6 0)], [(6, [.d (.int .i64 0), .d (.str []), .d (.int .i64 0), .full []]), (3, [.d (.int .i64 o), .d (.str s), .d (.int .i64 n), .d (.lst (ks.map Pred.cells))])], [(7, true)]⟩) ?_ trivial ?_ ?_
  · exact Ent_conv 7 7 4 [] [(7, 7)] rfl (by simp) rfl (by simp only [Ent0, go_sem, Nat.reduceEqDiff, reduceCtorEq, Nat.reduceAdd, Nat.reduceLeDiff, Nat.reduceMul, Nat.reduceLT, Int.reduceToNat, Int.reduceLT, Int.reduceLE, Int.reduceEq, Nat.reduceSub, List.contains_nil, Option.isSome_some, List.map_nil])
  · intro done k r hl' _
    have hk' := ih k (by rw [hl']; simp) (hp.kid (by rw [hl']; simp))
    have hlt := lt_mid hl'
    have hkl : ks.length = done.length + (r.length + 1) := by rw [hl']; simp
    have hw : IntKind.i64.wrap ((done.length : Int) + 1) = ((done.length + 1 : Nat) : Int) := wrap_succ (by omega)
    have ha1 : (done.length + 1) * 56 ≤ 2 ^ 46 := by omega
    have hb1 : done.length + 1 ≤ 9223372036854775807 := by omega
    simp only [fn_r07_Fill_L1, go_sem, Nat.reduceEqDiff, reduceCtorEq, Nat.reduceAdd, Nat.reduceLeDiff, Nat.reduceMul, Nat.reduceLT, Int.reduceToNat, Int.reduceLT, Int.reduceLE, Int.reduceEq, Nat.reduceSub, hlt, getD_midP hl', List.length_map, drop_cells]
    refine call_by hk' ?_
    simp only [go_sem, Nat.reduceEqDiff, reduceCtorEq, Nat.reduceAdd, Nat.reduceLeDiff, Nat.reduceMul, Nat.reduceLT, Int.reduceToNat, Int.reduceLT, Int.reduceLE, Int.reduceEq, Nat.reduceSub, hw, List.length_append, List.length_map, List.map_append, Pred.lens_true, ha1, hb1]
    refine ⟨by simp [Pred.cells_length], Ent_own [(7, 24)] ?_⟩
    simp only [go_sem, Nat.reduceEqDiff, reduceCtorEq, Nat.reduceAdd, Nat.reduceLeDiff, Nat.reduceMul, Nat.reduceLT, Int.reduceToNat, Int.reduceLT, Int.reduceLE, Int.reduceEq, Nat.reduceSub, List.contains_nil, Option.isSome_some]
  · intro _
    simp only [fn_r07_Fill_L1, go_sem, Nat.reduceEqDiff, reduceCtorEq, Nat.reduceAdd, Nat.reduceLeDiff, Nat.reduceMul, Nat.reduceLT, Int.reduceToNat, Int.reduceLT, Int.reduceLE, Int.reduceEq, Nat.reduceSub, hK]
    refine call_by hwith ?_
    simp only [go_sem, Nat.reduceEqDiff, reduceCtorEq, Nat.reduceAdd, Nat.reduceLeDiff, Nat.reduceMul, Nat.reduceLT, Int.reduceToNat, Int.reduceLT, Int.reduceLE, Int.reduceEq, Nat.reduceSub]
    cases c5 : (o == 5) with
    | true =>
      simp only [c5, go_sem, Nat.reduceEqDiff, reduceCtorEq, Nat.reduceAdd, Nat.reduceLeDiff, Nat.reduceMul, Nat.reduceLT, Int.reduceToNat, Int.reduceLT, Int.reduceLE, Int.reduceEq, Nat.reduceSub] at hR ⊢
      refine call_by hsol ?_
      simp only [go_sem, Nat.reduceEqDiff, reduceCtorEq, Nat.reduceAdd, Nat.reduceLeDiff, Nat.reduceMul, Nat.reduceLT, Int.reduceToNat, Int.reduceLT, Int.reduceLE, Int.reduceEq, Nat.reduceSub, hrs, hR]
    | false =>
      simp only [c5, go_sem, Nat.reduceEqDiff, reduceCtorEq, Nat.reduceAdd, Nat.reduceLeDiff, Nat.reduceMul, Nat.reduceLT, Int.reduceToNat, Int.reduceLT, Int.reduceLE, Int.reduceEq, Nat.reduceSub] at hR ⊢
      simp only [go_sem, Nat.reduceEqDiff, reduceCtorEq, Nat.reduceAdd, Nat.reduceLeDiff, Nat.reduceMul, Nat.reduceLT, Int.reduceToNat, Int.reduceLT, Int.reduceLE, Int.reduceEq, Nat.reduceSub, hrs, ← hR, Pred.cells_eq (.mk o s n (ks.map (fillP holes l))), Pred.op, Pred.name, Pred.n, Pred.kids]
theorem pred_Fill_ev (holes : List SHole) (hh : ∀ h ∈ holes, Small h.params.length) (l : List SSol) (hl : ∀ s ∈ l, Tame s.pred) (p : Pred) (hp : Tame p) :
    E.C pred_Fill [.agg p.cells, .one (.lst (holes.map SHole.cells)), .one (.lst (l.map SSol.cells))] (.agg (fillP holes l p).cells) := by
  induction p using Pred.ind with
  | h o s n ks ih =>
  have hk : Small ks.length := hp.top
  unfold Small at hk
  have hfl := pred_filled_ev Z holes hh l hl (.mk o s n (ks.map (fillP holes l))) (fun k hk => by
    obtain ⟨k', hk', rfl⟩ := List.mem_map.1 hk
    exact fill_tame hl k' (hp.kid hk'))
  refine Z.pred_Fill _ _ ⟨Nat.le_of_ble_eq_true rfl, ?_⟩
  generalize hR : fillP holes l (.mk o s n ks) = R
  rw [fillP_eq] at hR
  rw [Pred.cells_eq (.mk o s n ks)] at *
  rw [Pred.cells_eq (.mk o s n (ks.map (fillP holes l)))] at *
  have hrs : fn_pred_Fill.rs = [.c 6 true 4] := rfl
  simp only [fn_pred_Fill, go_sem, Nat.reduceEqDiff, reduceCtorEq, Nat.reduceAdd, Nat.reduceLeDiff, Nat.reduceMul, Nat.reduceLT, Int.reduceToNat, Int.reduceLT, Int.reduceLE, Int.reduceEq, Nat.reduceSub, Pred.op, Pred.name, Pred.n, Pred.kids] at hfl ⊢
  intro hlen
  refine loop_named fun K' hK => ?_
  refine loop_list ks (fun _ => True) (fun done rest => ⟨[(20, .d (.int .i64 done.length)), (19, .d (.int .i64 ks.length)), (18, .d (.lst (ks.map Pred.cells))), (1, .d (.lst (holes.map SHole.cells))), (2, .d (.lst (l.map SSol.cells))), (3, .ptr 3 0), (6, .ptr 6 0), (7, .ptr 7 0)], [(7, [.d (.int .i64 o), .d (.str s), .d (.int .i64 n), .own 7 4 ((done.map (fillP holes l)).map Pred.cells)]), (6, [.d (.int .i64 0), .d (.str []), .d (.int .i64 0), .full []]), (3, [.d (.int .i64 o), .d (.str s), .d (.int .i64 n), .d (.lst (ks.map Pred.cells))])], [(7, true)]⟩) ?_ trivial ?_ ?_
  · exact Ent_convm 7 3 7 4 _ [] [(7, 7)] rfl rfl (by simp) rfl (by simp only [Ent0, go_sem, Nat.reduceEqDiff, reduceCtorEq, Nat.reduceAdd, Nat.reduceLeDiff, Nat.reduceMul, Nat.reduceLT, Int.reduceToNat, Int.reduceLT, Int.reduceLE, Int.reduceEq, Nat.reduceSub, List.contains_nil, Option.isSome_some, List.map_nil])
  · intro done k r hl' _
    have hk' := ih k (by rw [hl']; simp) (hp.kid (by rw [hl']; simp))
    have hlt := lt_mid hl'
    have hkl : ks.length = done.length + (r.length + 1) := by rw [hl']; simp
    have hw : IntKind.i64.wrap ((done.length : Int) + 1) = ((done.length + 1 : Nat) : Int) := wrap_succ (by omega)
    have ha1 : (done.length + 1) * 56 ≤ 2 ^ 46 := by omega
    have hb1 : done.length + 1 ≤ 9223372036854775807 := by omega
    simp only [fn_pred_Fill_L1, go_sem, Nat.reduceEqDiff, reduceCtorEq, Nat.reduceAdd, Nat.reduceLeDiff, Nat.reduceMul, Nat.reduceLT, Int.reduceToNat, Int.reduceLT, Int.reduceLE, Int.reduceEq, Nat.reduceSub, hlt, getD_midP hl', List.length_map, drop_cells]
    refine call_by hk' ?_
    simp only [go_sem, Nat.reduceEqDiff, reduceCtorEq, Nat.reduceAdd, Nat.reduceLeDiff, Nat.reduceMul, Nat.reduceLT, Int.reduceToNat, Int.reduceLT, Int.reduceLE, Int.reduceEq, Nat.reduceSub, hw, List.length_append, List.length_map, List.map_append, Pred.lens_true, ha1, hb1]
    refine ⟨by simp [Pred.cells_length], Ent_own [(7, 31)] ?_⟩
    simp only [go_sem, Nat.reduceEqDiff, reduceCtorEq, Nat.reduceAdd, Nat.reduceLeDiff, Nat.reduceMul, Nat.reduceLT, Int.reduceToNat, Int.reduceLT, Int.reduceLE, Int.reduceEq, Nat.reduceSub, List.contains_nil, Option.isSome_some]
  · intro _
    simp only [fn_pred_Fill_L1, go_sem, Nat.reduceEqDiff, reduceCtorEq, Nat.reduceAdd, Nat.reduceLeDiff, Nat.reduceMul, Nat.reduceLT, Int.reduceToNat, Int.reduceLT, Int.reduceLE, Int.reduceEq, Nat.reduceSub, hK]
    cases c5 : (o == 5) with
    | true =>
      simp only [c5, go_sem, Nat.reduceEqDiff, reduceCtorEq, Nat.reduceAdd, Nat.reduceLeDiff, Nat.reduceMul, Nat.reduceLT, Int.reduceToNat, Int.reduceLT, Int.reduceLE, Int.reduceEq, Nat.reduceSub] at hR ⊢
      refine call_by hfl ?_
      simp only [go_sem, Nat.reduceEqDiff, reduceCtorEq, Nat.reduceAdd, Nat.reduceLeDiff, Nat.reduceMul, Nat.reduceLT, Int.reduceToNat, Int.reduceLT, Int.reduceLE, Int.reduceEq, Nat.reduceSub, hrs, hR]
    | false =>
      simp only [c5, go_sem, Nat.reduceEqDiff, reduceCtorEq, Nat.reduceAdd, Nat.reduceLeDiff, Nat.reduceMul, Nat.reduceLT, Int.reduceToNat, Int.reduceLT, Int.reduceLE, Int.reduceEq, Nat.reduceSub] at hR ⊢
      simp only [go_sem, Nat.reduceEqDiff, reduceCtorEq, Nat.reduceAdd, Nat.reduceLeDiff, Nat.reduceMul, Nat.reduceLT, Int.reduceToNat, Int.reduceLT, Int.reduceLE, Int.reduceEq, Nat.reduceSub, hrs, ← hR, Pred.cells_eq (.mk o s n (ks.map (fillP holes l))), Pred.op, Pred.name, Pred.n, Pred.kids]
end Go.Abs
end
