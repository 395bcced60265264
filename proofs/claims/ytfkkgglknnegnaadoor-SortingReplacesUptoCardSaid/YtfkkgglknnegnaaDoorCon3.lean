/-
  CONTRACTS: what the functions answer, as plain Lean functions, each by evaluation at the abstract machine.
-/
import Derived.KernelRfl
import Derived.Laws.AppendOwn
import Derived.Lib.OwnBridge
import Derived.Sort.OwnSorted
import Derived.Lib.SlicesCompact
import Derived.Test.YtfkkgglknnegnaaDoorCon2
section
set_option linter.unusedSimpArgs false
set_option linter.unusedVariables false
set_option linter.unusedSectionVars false
namespace Go.Abs
def BoolS (v : SEnv) (p : Pred) : Int := if p.same zeroP then 0 else if (OfS v p).2 == 0 && !(OfS v p).1 == sBool then 11 else (OfS v p).2
def EnvS (v : SEnv) : Nat → List Pred → Int × Int
  | _, [] => (-1, 0)
  | i, p :: l => if BoolS v p != 0 then ((i : Int), BoolS v p) else EnvS v (i + 1) l
def okTerm (v : SEnv) (s : Str) (p : Pred) : Bool := (OfS v p).2 == 0 && (OfS v p).1 == s
theorem EnvS_mid {v : SEnv} : ∀ {a b : List Pred} {k : Pred} {i : Nat}, (∀ x ∈ a, BoolS v x = 0) → EnvS v i (a ++ k :: b) = if BoolS v k != 0 then (((i + a.length : Nat) : Int), BoolS v k) else EnvS v (i + a.length + 1) b
  | [], b, k, i, _ => by simp only [List.nil_append, EnvS, List.length_nil, Nat.add_zero]
  | x :: a, b, k, i, h => by
    rw [List.cons_append, EnvS, h x (by simp)]
    have := EnvS_mid (v := v) (a := a) (b := b) (k := k) (i := i + 1) (fun y hy => h y (by simp [hy]))
    rw [show i + (x :: a).length = i + 1 + a.length by simp; omega]
    exact this
theorem EnvS_all {v : SEnv} : ∀ {a : List Pred} {i : Nat}, (∀ x ∈ a, BoolS v x = 0) → EnvS v i a = (-1, 0)
  | [], i, _ => rfl
  | x :: a, i, h => by rw [EnvS, h x (by simp)]; exact EnvS_all fun y hy => h y (by simp [hy])
set_option maxRecDepth 100000
variable {E : AEnv} (Z : Sys E)
include Z
theorem r09_of_ev (v : SEnv) (p : Pred) (hp : Arity p) : E.C r09_of [.agg v.cells, .agg p.cells] (two (ofS v p)) := by
  induction p using Pred.ind with
  | h o s n ks ih =>
  have hvar := r06_Var_ev Z v s
  have happ := fun l => r09_app_ev Z v s l
  have hhol := fun l => r09_hole_ev Z v s l
  have hop := fun l hl => r09_operation_ev Z o l hl
  refine Z.r09_of _ _ ⟨Nat.le_of_ble_eq_true rfl, ?_⟩
  generalize hR : ofS v (.mk o s n ks) = R
  rw [ofS_eq] at hR
  unfold two at *
  rw [SEnv.cells] at *
  rw [Pred.cells_eq] at *
  simp only [fn_r09_of, go_sem, Nat.reduceEqDiff, reduceCtorEq, Nat.reduceAdd, Nat.reduceLeDiff, Nat.reduceMul, Nat.reduceLT, Int.reduceToNat, Int.reduceLT, Int.reduceLE, Int.reduceEq, Nat.reduceSub, Pred.op, Pred.name, Pred.n, Pred.kids]
  have hk24 := hp.top.2
  simp only [Pred.kids] at hk24
  refine loop_list ks (fun done => ∀ x ∈ done, (ofS v x).2 = 0) (fun done rest => ⟨[(7, .d (.int .i64 done.length)), (3, .ptr 3 0), (2, .ptr 2 0), (6, .own 6 1 ((done.map fun k => (ofS v k).1).map scell))],
    [(2, [.d (.lst (v.vars.map SVar.cells)), .d (.lst (v.syms.map SSym.cells)), .d (.lst (v.holes.map SHole.cells))]), (3, [.d (.int .i64 o), .d (.str s), .d (.int .i64 n), .d (.lst (ks.map Pred.cells))])], [(6, true)]⟩) ?_ (by simp) ?_ ?_
  · exact Ent_conv 6 6 1 [] [(6, 6)] rfl (by simp) rfl (by simp only [Ent0, go_sem, Nat.reduceEqDiff, reduceCtorEq, Nat.reduceAdd, Nat.reduceLeDiff, Nat.reduceMul, Nat.reduceLT, Int.reduceToNat, Int.reduceLT, Int.reduceLE, Int.reduceEq, Nat.reduceSub, List.contains_nil, Option.isSome_some])
  · intro done k r hl hI
    have hk' := ih k (by rw [hl]; simp) (hp.kid (by rw [hl]; simp))
    have hlt := lt_mid hl
    rw [hl, errs_mid hI, ← hl] at hR
    have hd : done.length ≤ 24 := by omega
    have hw : IntKind.i64.wrap ((done.length : Int) + 1) = ((done.length + 1 : Nat) : Int) := wrap_succ (by omega)
    have ha1 : (done.length + 1) * 16 ≤ 2 ^ 46 := by omega
    simp only [fn_r09_of_L1, go_sem, Nat.reduceEqDiff, reduceCtorEq, Nat.reduceAdd, Nat.reduceLeDiff, Nat.reduceMul, Nat.reduceLT, Int.reduceToNat, Int.reduceLT, Int.reduceLE, Int.reduceEq, Nat.reduceSub, hlt, getD_midP hl]
    intro _
    refine call_by hk' ?_
    simp only [go_sem, Nat.reduceEqDiff, reduceCtorEq, Nat.reduceAdd, Nat.reduceLeDiff, Nat.reduceMul, Nat.reduceLT, Int.reduceToNat, Int.reduceLT, Int.reduceLE, Int.reduceEq, Nat.reduceSub]
    cases h3 : ((ofS v k).2 != 0) with
    | true => simp only [h3, go_sem, Nat.reduceEqDiff, reduceCtorEq, Nat.reduceAdd, Nat.reduceLeDiff, Nat.reduceMul, Nat.reduceLT, Int.reduceToNat, Int.reduceLT, Int.reduceLE, Int.reduceEq, Nat.reduceSub] at hR ⊢; simp only [go_sem, Nat.reduceEqDiff, reduceCtorEq, Nat.reduceAdd, Nat.reduceLeDiff, Nat.reduceMul, Nat.reduceLT, Int.reduceToNat, Int.reduceLT, Int.reduceLE, Int.reduceEq, Nat.reduceSub, ← hR]
    | false =>
      simp only [go_sem, Nat.reduceEqDiff, reduceCtorEq, Nat.reduceAdd, Nat.reduceLeDiff, Nat.reduceMul, Nat.reduceLT, Int.reduceToNat, Int.reduceLT, Int.reduceLE, Int.reduceEq, Nat.reduceSub, hw, List.length_append, scell_lens, List.length_map]
      refine ⟨⟨by simp, ha1, by omega⟩, Ent_own [(6, 35)] ?_, app_all hI (by simpa using h3)⟩
      simp only [go_sem, Nat.reduceEqDiff, reduceCtorEq, Nat.reduceAdd, Nat.reduceLeDiff, Nat.reduceMul, Nat.reduceLT, Int.reduceToNat, Int.reduceLT, Int.reduceLE, Int.reduceEq, Nat.reduceSub, List.contains_nil, Option.isSome_some, List.map_append, scell]
  · intro hI
    rw [errs_all hI] at hR
    have hR : nodeS v o s (ks.map fun k => (ofS v k).1) = R := hR
    unfold nodeS at hR
    simp only [fn_r09_of_L1, go_sem, Nat.reduceEqDiff, reduceCtorEq, Nat.reduceAdd, Nat.reduceLeDiff, Nat.reduceMul, Nat.reduceLT, Int.reduceToNat, Int.reduceLT, Int.reduceLE, Int.reduceEq, Nat.reduceSub]
    intro _
    cases h1 : (o == 1) with
    | true => simp only [h1, go_sem, Nat.reduceEqDiff, reduceCtorEq, Nat.reduceAdd, Nat.reduceLeDiff, Nat.reduceMul, Nat.reduceLT, Int.reduceToNat, Int.reduceLT, Int.reduceLE, Int.reduceEq, Nat.reduceSub, sInt] at hR ⊢; simp only [go_sem, Nat.reduceEqDiff, reduceCtorEq, Nat.reduceAdd, Nat.reduceLeDiff, Nat.reduceMul, Nat.reduceLT, Int.reduceToNat, Int.reduceLT, Int.reduceLE, Int.reduceEq, Nat.reduceSub, ← hR]
    | false =>
    cases h2 : (o == 2) with
    | true => simp only [h1, h2, go_sem, Nat.reduceEqDiff, reduceCtorEq, Nat.reduceAdd, Nat.reduceLeDiff, Nat.reduceMul, Nat.reduceLT, Int.reduceToNat, Int.reduceLT, Int.reduceLE, Int.reduceEq, Nat.reduceSub, sBool] at hR ⊢; simp only [go_sem, Nat.reduceEqDiff, reduceCtorEq, Nat.reduceAdd, Nat.reduceLeDiff, Nat.reduceMul, Nat.reduceLT, Int.reduceToNat, Int.reduceLT, Int.reduceLE, Int.reduceEq, Nat.reduceSub, ← hR]
    | false =>
    cases h3 : (o == 3) with
    | true =>
      simp only [h1, h2, h3, go_sem, Nat.reduceEqDiff, reduceCtorEq, Nat.reduceAdd, Nat.reduceLeDiff, Nat.reduceMul, Nat.reduceLT, Int.reduceToNat, Int.reduceLT, Int.reduceLE, Int.reduceEq, Nat.reduceSub] at hR ⊢
      refine call_by hvar ?_
      simp only [go_sem, Nat.reduceEqDiff, reduceCtorEq, Nat.reduceAdd, Nat.reduceLeDiff, Nat.reduceMul, Nat.reduceLT, Int.reduceToNat, Int.reduceLT, Int.reduceLE, Int.reduceEq, Nat.reduceSub]
      cases h : (findVar v.vars s).2 <;> simp only [h, go_sem, Nat.reduceEqDiff, reduceCtorEq, Nat.reduceAdd, Nat.reduceLeDiff, Nat.reduceMul, Nat.reduceLT, Int.reduceToNat, Int.reduceLT, Int.reduceLE, Int.reduceEq, Nat.reduceSub] at hR ⊢ <;> simp only [go_sem, Nat.reduceEqDiff, reduceCtorEq, Nat.reduceAdd, Nat.reduceLeDiff, Nat.reduceMul, Nat.reduceLT, Int.reduceToNat, Int.reduceLT, Int.reduceLE, Int.reduceEq, Nat.reduceSub, ← hR]
    | false =>
    cases h4 : (o == 4) with
    | true =>
      simp only [h1, h2, h3, h4, go_sem, Nat.reduceEqDiff, reduceCtorEq, Nat.reduceAdd, Nat.reduceLeDiff, Nat.reduceMul, Nat.reduceLT, Int.reduceToNat, Int.reduceLT, Int.reduceLE, Int.reduceEq, Nat.reduceSub] at hR ⊢
      refine call_by (happ _) ?_
      simp only [go_sem, Nat.reduceEqDiff, reduceCtorEq, Nat.reduceAdd, Nat.reduceLeDiff, Nat.reduceMul, Nat.reduceLT, Int.reduceToNat, Int.reduceLT, Int.reduceLE, Int.reduceEq, Nat.reduceSub, hR]
    | false =>
    cases h5 : (o == 5) with
    | true =>
      simp only [h1, h2, h3, h4, h5, go_sem, Nat.reduceEqDiff, reduceCtorEq, Nat.reduceAdd, Nat.reduceLeDiff, Nat.reduceMul, Nat.reduceLT, Int.reduceToNat, Int.reduceLT, Int.reduceLE, Int.reduceEq, Nat.reduceSub] at hR ⊢
      refine call_by (hhol _) ?_
      simp only [go_sem, Nat.reduceEqDiff, reduceCtorEq, Nat.reduceAdd, Nat.reduceLeDiff, Nat.reduceMul, Nat.reduceLT, Int.reduceToNat, Int.reduceLT, Int.reduceLE, Int.reduceEq, Nat.reduceSub, hR]
    | false =>
    simp only [h1, h2, h3, h4, h5, go_sem, Nat.reduceEqDiff, reduceCtorEq, Nat.reduceAdd, Nat.reduceLeDiff, Nat.reduceMul, Nat.reduceLT, Int.reduceToNat, Int.reduceLT, Int.reduceLE, Int.reduceEq, Nat.reduceSub] at hR ⊢
    refine call_by (hop _ (by rw [List.length_map]; exact hp.top.1)) ?_
    simp only [go_sem, Nat.reduceEqDiff, reduceCtorEq, Nat.reduceAdd, Nat.reduceLeDiff, Nat.reduceMul, Nat.reduceLT, Int.reduceToNat, Int.reduceLT, Int.reduceLE, Int.reduceEq, Nat.reduceSub, hR]
theorem r09_Of_ev (v : SEnv) (p : Pred) : E.C r09_Of [.agg v.cells, .agg p.cells] (two (OfS v p)) := by
  have hc := r07_Check_ev Z p
  have ho := fun h => r09_of_ev Z v p h
  refine Z.r09_Of _ _ ⟨Nat.le_of_ble_eq_true rfl, ?_⟩
  generalize hR : OfS v p = R
  unfold OfS at hR
  unfold two at *
  rw [SEnv.cells] at *
  have key : p.checkE = 0 → Arity p := fun h => arity_of (formE_of_check h)
  rw [Pred.cells_eq] at *
  simp only [fn_r09_Of, go_sem, Nat.reduceEqDiff, reduceCtorEq, Nat.reduceAdd, Nat.reduceLeDiff, Nat.reduceMul, Nat.reduceLT, Int.reduceToNat, Int.reduceLT, Int.reduceLE, Int.reduceEq, Nat.reduceSub]
  refine call_by hc ?_
  simp only [go_sem, Nat.reduceEqDiff, reduceCtorEq, Nat.reduceAdd, Nat.reduceLeDiff, Nat.reduceMul, Nat.reduceLT, Int.reduceToNat, Int.reduceLT, Int.reduceLE, Int.reduceEq, Nat.reduceSub]
  cases h1 : (p.checkE != 0) with
  | true => simp only [h1, go_sem, Nat.reduceEqDiff, reduceCtorEq, Nat.reduceAdd, Nat.reduceLeDiff, Nat.reduceMul, Nat.reduceLT, Int.reduceToNat, Int.reduceLT, Int.reduceLE, Int.reduceEq, Nat.reduceSub] at hR ⊢; simp only [go_sem, Nat.reduceEqDiff, reduceCtorEq, Nat.reduceAdd, Nat.reduceLeDiff, Nat.reduceMul, Nat.reduceLT, Int.reduceToNat, Int.reduceLT, Int.reduceLE, Int.reduceEq, Nat.reduceSub, ← hR]
  | false =>
    simp only [h1, go_sem, Nat.reduceEqDiff, reduceCtorEq, Nat.reduceAdd, Nat.reduceLeDiff, Nat.reduceMul, Nat.reduceLT, Int.reduceToNat, Int.reduceLT, Int.reduceLE, Int.reduceEq, Nat.reduceSub] at hR ⊢
    refine call_by (ho (key (by simpa using h1))) ?_
    simp only [go_sem, Nat.reduceEqDiff, reduceCtorEq, Nat.reduceAdd, Nat.reduceLeDiff, Nat.reduceMul, Nat.reduceLT, Int.reduceToNat, Int.reduceLT, Int.reduceLE, Int.reduceEq, Nat.reduceSub, hR]
theorem r09_Bool_ev (v : SEnv) (p : Pred) : E.C r09_Bool [.agg v.cells, .agg p.cells] (.one (.int .i64 (BoolS v p))) := by
  have h0 := r09_Zero_ev Z p
  have h1 := r09_Of_ev Z v p
  refine Z.r09_Bool _ _ ⟨Nat.le_of_ble_eq_true rfl, ?_⟩
  generalize hR : BoolS v p = R
  unfold BoolS at hR
  unfold two at *
  rw [SEnv.cells] at *
  rw [Pred.cells_eq] at *
  simp only [fn_r09_Bool, go_sem, Nat.reduceEqDiff, reduceCtorEq, Nat.reduceAdd, Nat.reduceLeDiff, Nat.reduceMul, Nat.reduceLT, Int.reduceToNat, Int.reduceLT, Int.reduceLE, Int.reduceEq, Nat.reduceSub]
  refine call_by h0 ?_
  cases c0 : p.same zeroP with
  | true => simp only [c0, go_sem, Nat.reduceEqDiff, reduceCtorEq, Nat.reduceAdd, Nat.reduceLeDiff, Nat.reduceMul, Nat.reduceLT, Int.reduceToNat, Int.reduceLT, Int.reduceLE, Int.reduceEq, Nat.reduceSub] at hR ⊢; simp only [go_sem, Nat.reduceEqDiff, reduceCtorEq, Nat.reduceAdd, Nat.reduceLeDiff, Nat.reduceMul, Nat.reduceLT, Int.reduceToNat, Int.reduceLT, Int.reduceLE, Int.reduceEq, Nat.reduceSub, ← hR]
  | false =>
  simp only [c0, go_sem, Nat.reduceEqDiff, reduceCtorEq, Nat.reduceAdd, Nat.reduceLeDiff, Nat.reduceMul, Nat.reduceLT, Int.reduceToNat, Int.reduceLT, Int.reduceLE, Int.reduceEq, Nat.reduceSub] at hR ⊢
  refine call_by h1 ?_
  simp only [sBool] at hR
  simp only [go_sem, Nat.reduceEqDiff, reduceCtorEq, Nat.reduceAdd, Nat.reduceLeDiff, Nat.reduceMul, Nat.reduceLT, Int.reduceToNat, Int.reduceLT, Int.reduceLE, Int.reduceEq, Nat.reduceSub]
  by_cases c1 : (OfS v p).2 = 0
  · have : ((OfS v p).2 != 0) = false := by simp [c1]
    have c2 : ((OfS v p).2 == 0) = true := by simp [c1]
    simp only [this, c2, go_sem, Nat.reduceEqDiff, reduceCtorEq, Nat.reduceAdd, Nat.reduceLeDiff, Nat.reduceMul, Nat.reduceLT, Int.reduceToNat, Int.reduceLT, Int.reduceLE, Int.reduceEq, Nat.reduceSub] at hR ⊢
    cases c3 : ((OfS v p).1 == [66, 111, 111, 108]) <;> simp only [c3, go_sem, Nat.reduceEqDiff, reduceCtorEq, Nat.reduceAdd, Nat.reduceLeDiff, Nat.reduceMul, Nat.reduceLT, Int.reduceToNat, Int.reduceLT, Int.reduceLE, Int.reduceEq, Nat.reduceSub] at hR ⊢ <;> simp only [← hR, c1]
  · have : ((OfS v p).2 != 0) = true := by simp [c1]
    have c2 : ((OfS v p).2 == 0) = false := by simp [c1]
    simp only [this, c2, go_sem, Nat.reduceEqDiff, reduceCtorEq, Nat.reduceAdd, Nat.reduceLeDiff, Nat.reduceMul, Nat.reduceLT, Int.reduceToNat, Int.reduceLT, Int.reduceLE, Int.reduceEq, Nat.reduceSub] at hR ⊢
    exact hR
theorem sorting_Bool_ev (v : SEnv) (p : Pred) (hOf : E.C sorting_Of [.agg v.cells, .agg p.cells] (two (OfS v p))) : E.C sorting_Bool [.agg v.cells, .agg p.cells] (.one (.int .i64 (BoolS v p))) := by
  have h0 := pred_Same_ev Z p zeroP
  refine Z.sorting_Bool _ _ ⟨Nat.le_of_ble_eq_true rfl, ?_⟩
  generalize hR : BoolS v p = R
  unfold BoolS at hR
  unfold two at *
  rw [SEnv.cells] at *
  rw [Pred.cells_eq p] at *
  have e0 : Pred.cells zeroP = [.int .i64 0, .str [], .int .i64 0, .lst []] := by rw [Pred.cells_eq]; rfl
  rw [e0] at h0
  simp only [fn_sorting_Bool, go_sem, Nat.reduceEqDiff, reduceCtorEq, Nat.reduceAdd, Nat.reduceLeDiff, Nat.reduceMul, Nat.reduceLT, Int.reduceToNat, Int.reduceLT, Int.reduceLE, Int.reduceEq, Nat.reduceSub]
  refine call_by h0 ?_
  cases c0 : p.same zeroP with
  | true => simp only [c0, go_sem, Nat.reduceEqDiff, reduceCtorEq, Nat.reduceAdd, Nat.reduceLeDiff, Nat.reduceMul, Nat.reduceLT, Int.reduceToNat, Int.reduceLT, Int.reduceLE, Int.reduceEq, Nat.reduceSub] at hR ⊢; simp only [go_sem, Nat.reduceEqDiff, reduceCtorEq, Nat.reduceAdd, Nat.reduceLeDiff, Nat.reduceMul, Nat.reduceLT, Int.reduceToNat, Int.reduceLT, Int.reduceLE, Int.reduceEq, Nat.reduceSub, ← hR]
  | false =>
  simp only [c0, go_sem, Nat.reduceEqDiff, reduceCtorEq, Nat.reduceAdd, Nat.reduceLeDiff, Nat.reduceMul, Nat.reduceLT, Int.reduceToNat, Int.reduceLT, Int.reduceLE, Int.reduceEq, Nat.reduceSub] at hR ⊢
  refine call_by hOf ?_
  simp only [sBool] at hR
  simp only [go_sem, Nat.reduceEqDiff, reduceCtorEq, Nat.reduceAdd, Nat.reduceLeDiff, Nat.reduceMul, Nat.reduceLT, Int.reduceToNat, Int.reduceLT, Int.reduceLE, Int.reduceEq, Nat.reduceSub]
  cases c1 : ((OfS v p).2 == 0 && !(OfS v p).1 == [66, 111, 111, 108]) <;> simp only [c1, go_sem, Nat.reduceEqDiff, reduceCtorEq, Nat.reduceAdd, Nat.reduceLeDiff, Nat.reduceMul, Nat.reduceLT, Int.reduceToNat, Int.reduceLT, Int.reduceLE, Int.reduceEq, Nat.reduceSub] at hR ⊢ <;> simp only [← hR]
end Go.Abs
end
section
set_option linter.unusedSimpArgs false
set_option linter.unusedVariables false
set_option linter.unusedSectionVars false
namespace Go.Abs
theorem tame_of_arity {p : Pred} (h : Arity p) : Tame p := fun q hq => by have := (h q hq).2; unfold Small; omega
theorem check_of_ok {v : SEnv} {x : Pred} (h : ((OfS v x).2 == 0) = true) : x.checkE = 0 := by
  unfold OfS at h
  by_cases hc : (x.checkE != 0) = true
  · rw [if_pos hc] at h; simp at h hc; exact absurd h hc
  · simpa using hc
theorem tame_of_ok {v : SEnv} {s : Str} {x : Pred} (h : ((OfS v x).2 == 0 && (OfS v x).1 == s) = true) : Tame x := by
  rw [Bool.and_eq_true] at h
  exact tame_of_arity (arity_of (formE_of_check (check_of_ok h.1)))
set_option maxRecDepth 100000
variable {E : AEnv} (Z : Sys E)
include Z
theorem sorting_Env_ev (v : SEnv) (hOf : ∀ p, E.C sorting_Of [.agg v.cells, .agg p.cells] (two (OfS v p))) (l : List Pred) : E.C sorting_Env [.agg v.cells, .one (.lst (l.map Pred.cells))] (.tup [.one (.int .i64 (EnvS v 0 l).1), .one (.int .i64 (EnvS v 0 l).2)]) := by
  have hb := fun p => sorting_Bool_ev Z v p (hOf p)
  refine Z.sorting_Env _ _ ⟨Nat.le_of_ble_eq_true rfl, ?_⟩
  generalize hR : EnvS v 0 l = R
  rw [SEnv.cells] at *
  simp only [fn_sorting_Env, go_sem, Nat.reduceEqDiff, reduceCtorEq, Nat.reduceAdd, Nat.reduceLeDiff, Nat.reduceMul, Nat.reduceLT, Int.reduceToNat, Int.reduceLT, Int.reduceLE, Int.reduceEq, Nat.reduceSub]
  intro hlen
  refine loop_list l (fun done => ∀ x ∈ done, BoolS v x = 0) (fun done rest => ⟨[(11, .d (.int .i64 done.length)), (10, .d (.int .i64 l.length)), (9, .d (.lst (l.map Pred.cells))), (2, .ptr 2 0)],
    [(2, [.d (.lst (v.vars.map SVar.cells)), .d (.lst (v.syms.map SSym.cells)), .d (.lst (v.holes.map SHole.cells))])], []⟩) ?_ (by simp) ?_ ?_
  · exact Ent_plain (by simp only [go_sem, Nat.reduceEqDiff, reduceCtorEq, Nat.reduceAdd, Nat.reduceLeDiff, Nat.reduceMul, Nat.reduceLT, Int.reduceToNat, Int.reduceLT, Int.reduceLE, Int.reduceEq, Nat.reduceSub, Option.isSome_some])
  · intro done x r hl hI
    have hlt := lt_mid hl
    have hw : IntKind.i64.wrap ((done.length : Int) + 1) = ((done.length + 1 : Nat) : Int) := wrap_succ (by omega)
    rw [hl, EnvS_mid hI, Nat.zero_add] at hR
    simp only [fn_sorting_Env_L1, go_sem, Nat.reduceEqDiff, reduceCtorEq, Nat.reduceAdd, Nat.reduceLeDiff, Nat.reduceMul, Nat.reduceLT, Int.reduceToNat, Int.reduceLT, Int.reduceLE, Int.reduceEq, Nat.reduceSub, hlt, getD_midP hl]
    refine call_by (hb x) ?_
    simp only [go_sem, Nat.reduceEqDiff, reduceCtorEq, Nat.reduceAdd, Nat.reduceLeDiff, Nat.reduceMul, Nat.reduceLT, Int.reduceToNat, Int.reduceLT, Int.reduceLE, Int.reduceEq, Nat.reduceSub]
    cases h1 : (BoolS v x != 0) with
    | true => simp only [h1, go_sem, Nat.reduceEqDiff, reduceCtorEq, Nat.reduceAdd, Nat.reduceLeDiff, Nat.reduceMul, Nat.reduceLT, Int.reduceToNat, Int.reduceLT, Int.reduceLE, Int.reduceEq, Nat.reduceSub] at hR ⊢; simp only [← hR, and_self]
    | false =>
      simp only [go_sem, Nat.reduceEqDiff, reduceCtorEq, Nat.reduceAdd, Nat.reduceLeDiff, Nat.reduceMul, Nat.reduceLT, Int.reduceToNat, Int.reduceLT, Int.reduceLE, Int.reduceEq, Nat.reduceSub, hw, List.length_append]
      exact ⟨Ent_plain (by simp only [go_sem, Nat.reduceEqDiff, reduceCtorEq, Nat.reduceAdd, Nat.reduceLeDiff, Nat.reduceMul, Nat.reduceLT, Int.reduceToNat, Int.reduceLT, Int.reduceLE, Int.reduceEq, Nat.reduceSub, Option.isSome_some]), app_all hI (by simpa using h1)⟩
  · intro hI
    rw [EnvS_all hI] at hR
    simp only [fn_sorting_Env_L1, go_sem, Nat.reduceEqDiff, reduceCtorEq, Nat.reduceAdd, Nat.reduceLeDiff, Nat.reduceMul, Nat.reduceLT, Int.reduceToNat, Int.reduceLT, Int.reduceLE, Int.reduceEq, Nat.reduceSub]
    simp only [← hR, and_self]
theorem r09_Env_ev (v : SEnv) (l : List Pred) : E.C r09_Env [.agg v.cells, .one (.lst (l.map Pred.cells))] (.tup [.one (.int .i64 (EnvS v 0 l).1), .one (.int .i64 (EnvS v 0 l).2)]) := by
  have hb := fun p => r09_Bool_ev Z v p
  refine Z.r09_Env _ _ ⟨Nat.le_of_ble_eq_true rfl, ?_⟩
  generalize hR : EnvS v 0 l = R
  rw [SEnv.cells] at *
  simp only [fn_r09_Env, go_sem, Nat.reduceEqDiff, reduceCtorEq, Nat.reduceAdd, Nat.reduceLeDiff, Nat.reduceMul, Nat.reduceLT, Int.reduceToNat, Int.reduceLT, Int.reduceLE, Int.reduceEq, Nat.reduceSub]
  refine loop_list l (fun done => ∀ x ∈ done, BoolS v x = 0) (fun done rest => ⟨[(6, .d (.int .i64 done.length)), (1, .d (.lst (l.map Pred.cells))), (2, .ptr 2 0)],
    [(2, [.d (.lst (v.vars.map SVar.cells)), .d (.lst (v.syms.map SSym.cells)), .d (.lst (v.holes.map SHole.cells))])], []⟩) ?_ (by simp) ?_ ?_
  · exact Ent_plain (by simp only [go_sem, Nat.reduceEqDiff, reduceCtorEq, Nat.reduceAdd, Nat.reduceLeDiff, Nat.reduceMul, Nat.reduceLT, Int.reduceToNat, Int.reduceLT, Int.reduceLE, Int.reduceEq, Nat.reduceSub, Option.isSome_some])
  · intro done x r hl hI
    have hlt := lt_mid hl
    rw [hl, EnvS_mid hI, Nat.zero_add] at hR
    simp only [fn_r09_Env_L1, go_sem, Nat.reduceEqDiff, reduceCtorEq, Nat.reduceAdd, Nat.reduceLeDiff, Nat.reduceMul, Nat.reduceLT, Int.reduceToNat, Int.reduceLT, Int.reduceLE, Int.reduceEq, Nat.reduceSub, hlt, getD_midP hl]
    intro hlen
    have hw : IntKind.i64.wrap ((done.length : Int) + 1) = ((done.length + 1 : Nat) : Int) := wrap_succ (by omega)
    refine call_by (hb x) ?_
    simp only [go_sem, Nat.reduceEqDiff, reduceCtorEq, Nat.reduceAdd, Nat.reduceLeDiff, Nat.reduceMul, Nat.reduceLT, Int.reduceToNat, Int.reduceLT, Int.reduceLE, Int.reduceEq, Nat.reduceSub]
    cases h1 : (BoolS v x != 0) with
    | true => simp only [h1, go_sem, Nat.reduceEqDiff, reduceCtorEq, Nat.reduceAdd, Nat.reduceLeDiff, Nat.reduceMul, Nat.reduceLT, Int.reduceToNat, Int.reduceLT, Int.reduceLE, Int.reduceEq, Nat.reduceSub] at hR ⊢; simp only [← hR, and_self]
    | false =>
      simp only [go_sem, Nat.reduceEqDiff, reduceCtorEq, Nat.reduceAdd, Nat.reduceLeDiff, Nat.reduceMul, Nat.reduceLT, Int.reduceToNat, Int.reduceLT, Int.reduceLE, Int.reduceEq, Nat.reduceSub, hw, List.length_append]
      exact ⟨Ent_plain (by simp only [go_sem, Nat.reduceEqDiff, reduceCtorEq, Nat.reduceAdd, Nat.reduceLeDiff, Nat.reduceMul, Nat.reduceLT, Int.reduceToNat, Int.reduceLT, Int.reduceLE, Int.reduceEq, Nat.reduceSub, Option.isSome_some]), app_all hI (by simpa using h1)⟩
  · intro hI
    rw [EnvS_all hI] at hR
    simp only [fn_r09_Env_L1, go_sem, Nat.reduceEqDiff, reduceCtorEq, Nat.reduceAdd, Nat.reduceLeDiff, Nat.reduceMul, Nat.reduceLT, Int.reduceToNat, Int.reduceLT, Int.reduceLE, Int.reduceEq, Nat.reduceSub]
    intro _
    simp only [← hR, and_self]
theorem sorting_Terms_ev (v : SEnv) (s : Str) (hOf : ∀ p, E.C sorting_Of [.agg v.cells, .agg p.cells] (two (OfS v p))) (l : List Pred) (hl : Small l.length) :
    E.C sorting_Terms [.agg v.cells, .one (.str s), .one (.lst (l.map Pred.cells))] (.one (.lst ((l.filter (okTerm v s)).map Pred.cells))) := by
  have hc := fun p hp => sorting_copied_ev Z p hp
  refine Z.sorting_Terms _ _ ⟨Nat.le_of_ble_eq_true rfl, ?_⟩
  unfold two at hOf
  unfold Small at hl
  rw [SEnv.cells] at *
  simp only [fn_sorting_Terms, go_sem, Nat.reduceEqDiff, reduceCtorEq, Nat.reduceAdd, Nat.reduceLeDiff, Nat.reduceMul, Nat.reduceLT, Int.reduceToNat, Int.reduceLT, Int.reduceLE, Int.reduceEq, Nat.reduceSub]
  intro hlen
  refine loop_list l (fun _ => True) (fun done rest => ⟨[(14, .d (.int .i64 done.length)), (13, .d (.int .i64 l.length)), (12, .d (.lst (l.map Pred.cells))), (3, .ptr 3 0), (1, .d (.str s)), (7, .own 7 4 ((done.filter (okTerm v s)).map Pred.cells))],
    [(3, [.d (.lst (v.vars.map SVar.cells)), .d (.lst (v.syms.map SSym.cells)), .d (.lst (v.holes.map SHole.cells))])], [(7, true)]⟩) ?_ trivial ?_ ?_
  · exact Ent_conv 7 7 4 [] [(7, 7)] rfl (by simp) rfl (by simp only [Ent0, go_sem, Nat.reduceEqDiff, reduceCtorEq, Nat.reduceAdd, Nat.reduceLeDiff, Nat.reduceMul, Nat.reduceLT, Int.reduceToNat, Int.reduceLT, Int.reduceLE, Int.reduceEq, Nat.reduceSub, List.contains_nil, Option.isSome_some, List.filter_nil])
  · intro done x r hl' hI
    have hlt := lt_mid hl'
    have hw : IntKind.i64.wrap ((done.length : Int) + 1) = ((done.length + 1 : Nat) : Int) := wrap_succ (by omega)
    have hd : done.length < l.length := by omega
    have hf : (done.filter (okTerm v s)).length ≤ done.length := List.length_filter_le _ _
    have ha1 : ((done.filter (okTerm v s)).length + 1) * 56 ≤ 2 ^ 46 := by omega
    simp only [fn_sorting_Terms_L1, go_sem, Nat.reduceEqDiff, reduceCtorEq, Nat.reduceAdd, Nat.reduceLeDiff, Nat.reduceMul, Nat.reduceLT, Int.reduceToNat, Int.reduceLT, Int.reduceLE, Int.reduceEq, Nat.reduceSub, hlt, getD_midP hl']
    refine call_by (hOf x) ?_
    simp only [go_sem, Nat.reduceEqDiff, reduceCtorEq, Nat.reduceAdd, Nat.reduceLeDiff, Nat.reduceMul, Nat.reduceLT, Int.reduceToNat, Int.reduceLT, Int.reduceLE, Int.reduceEq, Nat.reduceSub]
    have hk : okTerm v s x = ((OfS v x).2 == 0 && (OfS v x).1 == s) := rfl
    cases h1 : ((OfS v x).2 == 0 && (OfS v x).1 == s) with
    | true =>
      rw [h1] at hk
      simp only [go_sem, Nat.reduceEqDiff, reduceCtorEq, Nat.reduceAdd, Nat.reduceLeDiff, Nat.reduceMul, Nat.reduceLT, Int.reduceToNat, Int.reduceLT, Int.reduceLE, Int.reduceEq, Nat.reduceSub]
      refine call_by (hc x (tame_of_ok h1)) ?_
      simp only [go_sem, Nat.reduceEqDiff, reduceCtorEq, Nat.reduceAdd, Nat.reduceLeDiff, Nat.reduceMul, Nat.reduceLT, Int.reduceToNat, Int.reduceLT, Int.reduceLE, Int.reduceEq, Nat.reduceSub, hw, List.length_append, Pred.lens_true, List.length_map]
      refine ⟨⟨by simp [Pred.cells_length], ha1, by omega⟩, Ent_own [(7, 35)] ?_⟩
      simp only [go_sem, Nat.reduceEqDiff, reduceCtorEq, Nat.reduceAdd, Nat.reduceLeDiff, Nat.reduceMul, Nat.reduceLT, Int.reduceToNat, Int.reduceLT, Int.reduceLE, Int.reduceEq, Nat.reduceSub, List.contains_nil, Option.isSome_some, List.filter_append, List.filter_cons, hk, List.filter_nil, List.map_append]
    | false =>
      rw [h1] at hk
      simp only [go_sem, Nat.reduceEqDiff, reduceCtorEq, Nat.reduceAdd, Nat.reduceLeDiff, Nat.reduceMul, Nat.reduceLT, Int.reduceToNat, Int.reduceLT, Int.reduceLE, Int.reduceEq, Nat.reduceSub, hw, List.length_append]
      refine Ent_own [(7, 7)] ?_
      simp only [go_sem, Nat.reduceEqDiff, reduceCtorEq, Nat.reduceAdd, Nat.reduceLeDiff, Nat.reduceMul, Nat.reduceLT, Int.reduceToNat, Int.reduceLT, Int.reduceLE, Int.reduceEq, Nat.reduceSub, List.contains_nil, Option.isSome_some, List.filter_append, List.filter_cons, hk, List.filter_nil, List.map_append]
  · intro _
    simp only [fn_sorting_Terms_L1, go_sem, Nat.reduceEqDiff, reduceCtorEq, Nat.reduceAdd, Nat.reduceLeDiff, Nat.reduceMul, Nat.reduceLT, Int.reduceToNat, Int.reduceLT, Int.reduceLE, Int.reduceEq, Nat.reduceSub]
theorem r09_Terms_ev (v : SEnv) (s : Str) (l : List Pred) (hl : Small l.length) :
    E.C r09_Terms [.agg v.cells, .one (.str s), .one (.lst (l.map Pred.cells))] (.one (.lst ((l.filter (okTerm v s)).map Pred.cells))) := by
  have hOf := fun p => r09_Of_ev Z v p
  refine Z.r09_Terms _ _ ⟨Nat.le_of_ble_eq_true rfl, ?_⟩
  unfold two at hOf
  unfold Small at hl
  rw [SEnv.cells] at *
  simp only [fn_r09_Terms, go_sem, Nat.reduceEqDiff, reduceCtorEq, Nat.reduceAdd, Nat.reduceLeDiff, Nat.reduceMul, Nat.reduceLT, Int.reduceToNat, Int.reduceLT, Int.reduceLE, Int.reduceEq, Nat.reduceSub]
  refine loop_list l (fun _ => True) (fun done rest => ⟨[(8, .d (.int .i64 done.length)), (2, .d (.lst (l.map Pred.cells))), (3, .ptr 3 0), (1, .d (.str s)), (7, .own 7 4 ((done.filter (okTerm v s)).map Pred.cells))],
    [(3, [.d (.lst (v.vars.map SVar.cells)), .d (.lst (v.syms.map SSym.cells)), .d (.lst (v.holes.map SHole.cells))])], [(7, true)]⟩) ?_ trivial ?_ ?_
  · exact Ent_conv 7 7 4 [] [(7, 7)] rfl (by simp) rfl (by simp only [Ent0, go_sem, Nat.reduceEqDiff, reduceCtorEq, Nat.reduceAdd, Nat.reduceLeDiff, Nat.reduceMul, Nat.reduceLT, Int.reduceToNat, Int.reduceLT, Int.reduceLE, Int.reduceEq, Nat.reduceSub, List.contains_nil, Option.isSome_some, List.filter_nil])
  · intro done x r hl' hI
    have hlt := lt_mid hl'
    have hd : done.length < l.length := by omega
    have hw : IntKind.i64.wrap ((done.length : Int) + 1) = ((done.length + 1 : Nat) : Int) := wrap_succ (by omega)
    have hf : (done.filter (okTerm v s)).length ≤ done.length := List.length_filter_le _ _
    have ha1 : ((done.filter (okTerm v s)).length + 1) * 56 ≤ 2 ^ 46 := by omega
    simp only [fn_r09_Terms_L1, go_sem, Nat.reduceEqDiff, reduceCtorEq, Nat.reduceAdd, Nat.reduceLeDiff, Nat.reduceMul, Nat.reduceLT, Int.reduceToNat, Int.reduceLT, Int.reduceLE, Int.reduceEq, Nat.reduceSub, hlt, getD_midP hl']
    intro _
    refine call_by (hOf x) ?_
    simp only [go_sem, Nat.reduceEqDiff, reduceCtorEq, Nat.reduceAdd, Nat.reduceLeDiff, Nat.reduceMul, Nat.reduceLT, Int.reduceToNat, Int.reduceLT, Int.reduceLE, Int.reduceEq, Nat.reduceSub]
    have hk : okTerm v s x = ((OfS v x).2 == 0 && (OfS v x).1 == s) := rfl
    cases h1 : ((OfS v x).2 == 0 && (OfS v x).1 == s) with
    | true =>
      rw [h1] at hk
      simp only [go_sem, Nat.reduceEqDiff, reduceCtorEq, Nat.reduceAdd, Nat.reduceLeDiff, Nat.reduceMul, Nat.reduceLT, Int.reduceToNat, Int.reduceLT, Int.reduceLE, Int.reduceEq, Nat.reduceSub, hlt, getD_midP hl']
      simp only [go_sem, Nat.reduceEqDiff, reduceCtorEq, Nat.reduceAdd, Nat.reduceLeDiff, Nat.reduceMul, Nat.reduceLT, Int.reduceToNat, Int.reduceLT, Int.reduceLE, Int.reduceEq, Nat.reduceSub, hw, List.length_append, Pred.lens_true, List.length_map]
      refine ⟨⟨by simp [Pred.cells_length], ha1, by omega⟩, Ent_own [(7, 39)] ?_⟩
      simp only [go_sem, Nat.reduceEqDiff, reduceCtorEq, Nat.reduceAdd, Nat.reduceLeDiff, Nat.reduceMul, Nat.reduceLT, Int.reduceToNat, Int.reduceLT, Int.reduceLE, Int.reduceEq, Nat.reduceSub, List.contains_nil, Option.isSome_some, List.filter_append, List.filter_cons, hk, List.filter_nil, List.map_append]
    | false =>
      rw [h1] at hk
      simp only [go_sem, Nat.reduceEqDiff, reduceCtorEq, Nat.reduceAdd, Nat.reduceLeDiff, Nat.reduceMul, Nat.reduceLT, Int.reduceToNat, Int.reduceLT, Int.reduceLE, Int.reduceEq, Nat.reduceSub, hw, List.length_append]
      refine Ent_own [(7, 7)] ?_
      simp only [go_sem, Nat.reduceEqDiff, reduceCtorEq, Nat.reduceAdd, Nat.reduceLeDiff, Nat.reduceMul, Nat.reduceLT, Int.reduceToNat, Int.reduceLT, Int.reduceLE, Int.reduceEq, Nat.reduceSub, List.contains_nil, Option.isSome_some, List.filter_append, List.filter_cons, hk, List.filter_nil, List.map_append]
  · intro _
    simp only [fn_r09_Terms_L1, go_sem, Nat.reduceEqDiff, reduceCtorEq, Nat.reduceAdd, Nat.reduceLeDiff, Nat.reduceMul, Nat.reduceLT, Int.reduceToNat, Int.reduceLT, Int.reduceLE, Int.reduceEq, Nat.reduceSub, implies_true]
end Go.Abs
end
section
set_option linter.unusedSimpArgs false
set_option linter.unusedVariables false
set_option linter.unusedSectionVars false
namespace Go.Abs
def lightB (v : SEnv) : Bool := !(decide ((v.vars.length : Int) > 26) || decide ((v.syms.length : Int) > 20) || decide ((v.holes.length : Int) > 8)) && (v.syms.all (fun s => !decide ((s.args.length : Int) > 8)) && v.holes.all (fun h => !decide ((h.params.length : Int) > 12)))
def smallB (l : List Pred) : Bool := l.all fun p => !(decide (p.nodes > 410) || decide (p.depth > 45))
theorem lightB_ok {v : SEnv} (h : lightB v = true) : v.Ok := by
  unfold lightB at h
  simp only [Bool.and_eq_true, List.all_eq_true] at h
  refine ⟨fun s hs => ?_, fun s hs => ?_⟩
  · have := h.2.1 s hs
    simp at this
    unfold Small; omega
  · have := h.2.2 s hs
    simp at this
    unfold Small; omega
def sList : Str := [76, 105, 115, 116]
def sLen : Str := [108, 101, 110]
def envV : SEnv := ⟨[⟨[120], sInt⟩, ⟨[108], sList⟩], [⟨sLen, [sList], sInt⟩], []⟩
set_option maxRecDepth 100000
variable {E : AEnv} (Z : Sys E)
include Z
theorem l09_light_ev (v : SEnv) : E.C l09_light [.agg v.cells] (.one (.bool (lightB v))) := by
  refine Z.l09_light _ _ ⟨Nat.le_of_ble_eq_true rfl, ?_⟩
  generalize hR : lightB v = R
  unfold lightB at hR
  rw [SEnv.cells]
  simp only [fn_l09_light, go_sem, Nat.reduceEqDiff, reduceCtorEq, Nat.reduceAdd, Nat.reduceLeDiff, Nat.reduceMul, Nat.reduceLT, Int.reduceToNat, Int.reduceLT, Int.reduceLE, Int.reduceEq, Nat.reduceSub]
  intro hv hs hh
  cases h0 : (decide ((v.vars.length : Int) > 26) || decide ((v.syms.length : Int) > 20) || decide ((v.holes.length : Int) > 8)) with
  | true => simp only [h0, go_sem, Nat.reduceEqDiff, reduceCtorEq, Nat.reduceAdd, Nat.reduceLeDiff, Nat.reduceMul, Nat.reduceLT, Int.reduceToNat, Int.reduceLT, Int.reduceLE, Int.reduceEq, Nat.reduceSub] at hR ⊢; exact hR
  | false =>
  simp only [h0, go_sem, Nat.reduceEqDiff, reduceCtorEq, Nat.reduceAdd, Nat.reduceLeDiff, Nat.reduceMul, Nat.reduceLT, Int.reduceToNat, Int.reduceLT, Int.reduceLE, Int.reduceEq, Nat.reduceSub] at hR ⊢
  refine loop_list v.syms (fun done => ∀ y ∈ done, (!decide ((y.args.length : Int) > 8)) = true) (fun done rest => ⟨[(3, .d (.int .i64 done.length)), (1, .ptr 1 0)],
    [(1, [.d (.lst (v.vars.map SVar.cells)), .d (.lst (v.syms.map SSym.cells)), .d (.lst (v.holes.map SHole.cells))])], []⟩) ?_ (by simp) ?_ ?_
  · exact Ent_plain (by simp only [go_sem, Nat.reduceEqDiff, reduceCtorEq, Nat.reduceAdd, Nat.reduceLeDiff, Nat.reduceMul, Nat.reduceLT, Int.reduceToNat, Int.reduceLT, Int.reduceLE, Int.reduceEq, Nat.reduceSub, Option.isSome_some])
  · intro done x r hl hI
    have hx := getD_at (f := SSym.cells) (d := []) hl
    have hlt := lt_mid hl
    rw [allB_mid hl hI] at hR
    simp only [fn_l09_light_L2, go_sem, Nat.reduceEqDiff, reduceCtorEq, Nat.reduceAdd, Nat.reduceLeDiff, Nat.reduceMul, Nat.reduceLT, Int.reduceToNat, Int.reduceLT, Int.reduceLE, Int.reduceEq, Nat.reduceSub, hx, hlt, SSym.cells]
    intro hlen _
    have hw : IntKind.i64.wrap ((done.length : Int) + 1) = ((done.length + 1 : Nat) : Int) := wrap_succ (by omega)
    cases h1 : decide ((x.args.length : Int) > 8) with
    | true => simp only [h1, go_sem, Nat.reduceEqDiff, reduceCtorEq, Nat.reduceAdd, Nat.reduceLeDiff, Nat.reduceMul, Nat.reduceLT, Int.reduceToNat, Int.reduceLT, Int.reduceLE, Int.reduceEq, Nat.reduceSub] at hR ⊢; exact hR
    | false =>
      simp only [go_sem, Nat.reduceEqDiff, reduceCtorEq, Nat.reduceAdd, Nat.reduceLeDiff, Nat.reduceMul, Nat.reduceLT, Int.reduceToNat, Int.reduceLT, Int.reduceLE, Int.reduceEq, Nat.reduceSub, hw, List.length_append]
      exact ⟨Ent_plain (by simp only [go_sem, Nat.reduceEqDiff, reduceCtorEq, Nat.reduceAdd, Nat.reduceLeDiff, Nat.reduceMul, Nat.reduceLT, Int.reduceToNat, Int.reduceLT, Int.reduceLE, Int.reduceEq, Nat.reduceSub, Option.isSome_some]), app_all hI (by rw [h1]; rfl)⟩
  · intro hI
    have hall : v.syms.all (fun s => !decide ((s.args.length : Int) > 8)) = true := List.all_eq_true.2 hI
    rw [hall, Bool.true_and] at hR
    simp only [fn_l09_light_L2, go_sem, Nat.reduceEqDiff, reduceCtorEq, Nat.reduceAdd, Nat.reduceLeDiff, Nat.reduceMul, Nat.reduceLT, Int.reduceToNat, Int.reduceLT, Int.reduceLE, Int.reduceEq, Nat.reduceSub]
    intro _
    refine loop_list v.holes (fun done => ∀ y ∈ done, (!decide ((y.params.length : Int) > 12)) = true) (fun done rest => ⟨[(4, .d (.int .i64 done.length)), (1, .ptr 1 0)],
      [(1, [.d (.lst (v.vars.map SVar.cells)), .d (.lst (v.syms.map SSym.cells)), .d (.lst (v.holes.map SHole.cells))])], []⟩) ?_ (by simp) ?_ ?_
    · exact Ent_plain (by simp only [go_sem, Nat.reduceEqDiff, reduceCtorEq, Nat.reduceAdd, Nat.reduceLeDiff, Nat.reduceMul, Nat.reduceLT, Int.reduceToNat, Int.reduceLT, Int.reduceLE, Int.reduceEq, Nat.reduceSub, Option.isSome_some])
    · intro done x r hl hI
      have hx := getD_at (f := SHole.cells) (d := []) hl
      have hlt := lt_mid hl
      rw [allB_mid hl hI] at hR
      simp only [fn_l09_light_L1, go_sem, Nat.reduceEqDiff, reduceCtorEq, Nat.reduceAdd, Nat.reduceLeDiff, Nat.reduceMul, Nat.reduceLT, Int.reduceToNat, Int.reduceLT, Int.reduceLE, Int.reduceEq, Nat.reduceSub, hx, hlt, SHole.cells]
      intro hlen _
      have hw : IntKind.i64.wrap ((done.length : Int) + 1) = ((done.length + 1 : Nat) : Int) := wrap_succ (by omega)
      cases h1 : decide ((x.params.length : Int) > 12) with
      | true => simp only [h1, go_sem, Nat.reduceEqDiff, reduceCtorEq, Nat.reduceAdd, Nat.reduceLeDiff, Nat.reduceMul, Nat.reduceLT, Int.reduceToNat, Int.reduceLT, Int.reduceLE, Int.reduceEq, Nat.reduceSub] at hR ⊢; exact hR
      | false =>
        simp only [go_sem, Nat.reduceEqDiff, reduceCtorEq, Nat.reduceAdd, Nat.reduceLeDiff, Nat.reduceMul, Nat.reduceLT, Int.reduceToNat, Int.reduceLT, Int.reduceLE, Int.reduceEq, Nat.reduceSub, hw, List.length_append]
        exact ⟨Ent_plain (by simp only [go_sem, Nat.reduceEqDiff, reduceCtorEq, Nat.reduceAdd, Nat.reduceLeDiff, Nat.reduceMul, Nat.reduceLT, Int.reduceToNat, Int.reduceLT, Int.reduceLE, Int.reduceEq, Nat.reduceSub, Option.isSome_some]), app_all hI (by rw [h1]; rfl)⟩
    · intro hI
      have hall : v.holes.all (fun s => !decide ((s.params.length : Int) > 12)) = true := List.all_eq_true.2 hI
      rw [hall] at hR
      subst hR
      simp only [fn_l09_light_L1, go_sem, Nat.reduceEqDiff, reduceCtorEq, Nat.reduceAdd, Nat.reduceLeDiff, Nat.reduceMul, Nat.reduceLT, Int.reduceToNat, Int.reduceLT, Int.reduceLE, Int.reduceEq, Nat.reduceSub, implies_true]
theorem l09_small_ev (l : List Pred) : E.C l09_small [.one (.lst (l.map Pred.cells))] (.one (.bool (smallB l))) := by
  have hn := r07_Nodes_ev Z
  have hd := r07_Depth_ev Z
  refine Z.l09_small _ _ ⟨Nat.le_of_ble_eq_true rfl, ?_⟩
  generalize hR : smallB l = R
  unfold smallB at hR
  simp only [fn_l09_small, go_sem, Nat.reduceEqDiff, reduceCtorEq, Nat.reduceAdd, Nat.reduceLeDiff, Nat.reduceMul, Nat.reduceLT, Int.reduceToNat, Int.reduceLT, Int.reduceLE, Int.reduceEq, Nat.reduceSub]
  refine loop_list l (fun done => ∀ y ∈ done, (!(decide (y.nodes > 410) || decide (y.depth > 45))) = true) (fun done rest => ⟨[(3, .d (.int .i64 done.length)), (0, .d (.lst (l.map Pred.cells)))], [], []⟩) ?_ (by simp) ?_ ?_
  · exact Ent_plain (by simp only [go_sem, Nat.reduceEqDiff, reduceCtorEq, Nat.reduceAdd, Nat.reduceLeDiff, Nat.reduceMul, Nat.reduceLT, Int.reduceToNat, Int.reduceLT, Int.reduceLE, Int.reduceEq, Nat.reduceSub])
  · intro done x r hl hI
    have hlt := lt_mid hl
    rw [allB_mid hl hI] at hR
    simp only [fn_l09_small_L1, go_sem, Nat.reduceEqDiff, reduceCtorEq, Nat.reduceAdd, Nat.reduceLeDiff, Nat.reduceMul, Nat.reduceLT, Int.reduceToNat, Int.reduceLT, Int.reduceLE, Int.reduceEq, Nat.reduceSub, getD_midP hl, hlt]
    intro hlen
    have hw : IntKind.i64.wrap ((done.length : Int) + 1) = ((done.length + 1 : Nat) : Int) := wrap_succ (by omega)
    refine call_by (hn x) ?_
    simp only [go_sem, Nat.reduceEqDiff, reduceCtorEq, Nat.reduceAdd, Nat.reduceLeDiff, Nat.reduceMul, Nat.reduceLT, Int.reduceToNat, Int.reduceLT, Int.reduceLE, Int.reduceEq, Nat.reduceSub, getD_midP hl, hlt]
    refine call_g (hd x) ?_
    simp only [go_sem, Nat.reduceEqDiff, reduceCtorEq, Nat.reduceAdd, Nat.reduceLeDiff, Nat.reduceMul, Nat.reduceLT, Int.reduceToNat, Int.reduceLT, Int.reduceLE, Int.reduceEq, Nat.reduceSub]
    cases h1 : (decide (x.nodes > 410) || decide (x.depth > 45)) with
    | true => simp only [h1, go_sem, Nat.reduceEqDiff, reduceCtorEq, Nat.reduceAdd, Nat.reduceLeDiff, Nat.reduceMul, Nat.reduceLT, Int.reduceToNat, Int.reduceLT, Int.reduceLE, Int.reduceEq, Nat.reduceSub] at hR ⊢; exact hR
    | false =>
      simp only [go_sem, Nat.reduceEqDiff, reduceCtorEq, Nat.reduceAdd, Nat.reduceLeDiff, Nat.reduceMul, Nat.reduceLT, Int.reduceToNat, Int.reduceLT, Int.reduceLE, Int.reduceEq, Nat.reduceSub, hw, List.length_append]
      exact ⟨Ent_plain (by simp only [go_sem, Nat.reduceEqDiff, reduceCtorEq, Nat.reduceAdd, Nat.reduceLeDiff, Nat.reduceMul, Nat.reduceLT, Int.reduceToNat, Int.reduceLT, Int.reduceLE, Int.reduceEq, Nat.reduceSub]), app_all hI (by rw [h1]; rfl)⟩
  · intro hI
    have hall : l.all (fun y => !(decide (y.nodes > 410) || decide (y.depth > 45))) = true := List.all_eq_true.2 hI
    rw [hall] at hR
    subst hR
    simp only [fn_l09_small_L1, go_sem, Nat.reduceEqDiff, reduceCtorEq, Nat.reduceAdd, Nat.reduceLeDiff, Nat.reduceMul, Nat.reduceLT, Int.reduceToNat, Int.reduceLT, Int.reduceLE, Int.reduceEq, Nat.reduceSub, implies_true]
theorem l09_env_ev : E.C l09_env [] (.agg envV.cells) := by
  refine Z.l09_env _ _ ⟨Nat.le_of_ble_eq_true rfl, ?_⟩
  simp only [fn_l09_env, go_sem, Nat.reduceEqDiff, reduceCtorEq, Nat.reduceAdd, Nat.reduceLeDiff, Nat.reduceMul, Nat.reduceLT, Int.reduceToNat, Int.reduceLT, Int.reduceLE, Int.reduceEq, Nat.reduceSub]
  simp only [envV, SEnv.cells, List.map_cons, List.map_nil, SVar.cells, SSym.cells, scell, sInt, sList, sLen]
theorem l09_v_ev (s : Str) : E.C l09_v [.one (.str s)] (.agg (pv s).cells) := by
  refine Z.l09_v _ _ ⟨Nat.le_of_ble_eq_true rfl, ?_⟩
  simp only [fn_l09_v, go_sem, Nat.reduceEqDiff, reduceCtorEq, Nat.reduceAdd, Nat.reduceLeDiff, Nat.reduceMul, Nat.reduceLT, Int.reduceToNat, Int.reduceLT, Int.reduceLE, Int.reduceEq, Nat.reduceSub, pv, Pred.cells_eq, Pred.op, Pred.name, Pred.n, Pred.kids]
theorem l09_app_ev (s : Str) (l : List Pred) : E.C l09_app [.one (.str s), .one (.lst (l.map Pred.cells))] (.agg (papp s l).cells) := by
  refine Z.l09_app _ _ ⟨Nat.le_of_ble_eq_true rfl, ?_⟩
  simp only [fn_l09_app, go_sem, Nat.reduceEqDiff, reduceCtorEq, Nat.reduceAdd, Nat.reduceLeDiff, Nat.reduceMul, Nat.reduceLT, Int.reduceToNat, Int.reduceLT, Int.reduceLE, Int.reduceEq, Nat.reduceSub, papp, Pred.cells_eq (.mk 4 s 0 l), Pred.op, Pred.name, Pred.n, Pred.kids]
theorem l09_two_ev (o : Int) (a b : Pred) : E.C l09_two [.one (.int .i64 o), .agg a.cells, .agg b.cells] (.agg (p2 o a b).cells) := by
  refine Z.l09_two _ _ ⟨Nat.le_of_ble_eq_true rfl, ?_⟩
  rw [p2, Pred.cells_eq (.mk o [] 0 [a, b])]
  simp only [fn_l09_two, go_sem, Nat.reduceEqDiff, reduceCtorEq, Nat.reduceAdd, Nat.reduceLeDiff, Nat.reduceMul, Nat.reduceLT, Int.reduceToNat, Int.reduceLT, Int.reduceLE, Int.reduceEq, Nat.reduceSub, Pred.op, Pred.name, Pred.n, Pred.kids]
theorem l09_awake_ev (hOf : ∀ p, E.C sorting_Of [.agg envV.cells, .agg p.cells] (two (OfS envV p))) : E.C l09_awake [] (.one (.bool true)) := by
  have hE := l09_env_ev Z
  have vx := l09_v_ev Z [120]
  have vl := l09_v_ev Z [108]
  have vy := l09_v_ev Z [121]
  have alen_l := l09_app_ev Z [108, 101, 110] [pv [108]]
  have alen_x := l09_app_ev Z [108, 101, 110] [pv [120]]
  have alen_y := l09_app_ev Z [108, 101, 110] [pv [121]]
  have alen_ll := l09_app_ev Z [108, 101, 110] [pv [108], pv [108]]
  have atag_l := l09_app_ev Z [116, 97, 103] [pv [108]]
  have atag_x := l09_app_ev Z [116, 97, 103] [pv [120]]
  have tlt := l09_two_ev Z 12 (pv [120]) (papp [108, 101, 110] [pv [108]])
  have teq1 := l09_two_ev Z 10 (pv [108]) (pv [108])
  have teq2 := l09_two_ev Z 10 (pv [120]) (pv [108])
  have r1 := hOf (p2 12 (pv [120]) (papp [108, 101, 110] [pv [108]]))
  have r2 := hOf (papp [108, 101, 110] [pv [120]])
  have r3 := hOf (papp [108, 101, 110] [pv [108], pv [108]])
  have r4 := hOf (papp [108, 101, 110] [pv [121]])
  have r5 := hOf (papp [116, 97, 103] [pv [108]])
  have r6 := hOf (papp [116, 97, 103] [pv [120]])
  have r7 := sorting_Env_ev Z envV hOf [zeroP, p2 10 (pv [108]) (pv [108]), p2 10 (pv [120]) (pv [108])]
  have r8 := sorting_Terms_ev Z envV [73, 110, 116] hOf [pv [120], pv [108], papp [108, 101, 110] [pv [108]]] (by unfold Small; simp)
  have r9 := sorting_Bool_ev Z envV (pv [120]) (hOf _)
  have r10 := sorting_Bool_ev Z envV zeroP (hOf _)
  rw [show OfS envV (p2 12 (pv [120]) (papp [108, 101, 110] [pv [108]])) = ([66, 111, 111, 108], 0) by kernel_rfl] at r1
  rw [show OfS envV (papp [108, 101, 110] [pv [120]]) = ([], 11) by kernel_rfl] at r2
  rw [show OfS envV (papp [108, 101, 110] [pv [108], pv [108]]) = ([], 13) by kernel_rfl] at r3
  rw [show OfS envV (papp [108, 101, 110] [pv [121]]) = ([], 5) by kernel_rfl] at r4
  rw [show OfS envV (papp [116, 97, 103] [pv [108]]) = ([73, 110, 116], 0) by kernel_rfl] at r5
  rw [show OfS envV (papp [116, 97, 103] [pv [120]]) = ([], 11) by kernel_rfl] at r6
  rw [show EnvS envV 0 [zeroP, p2 10 (pv [108]) (pv [108]), p2 10 (pv [120]) (pv [108])] = (2, 11) by kernel_rfl] at r7
  rw [show [pv [120], pv [108], papp [108, 101, 110] [pv [108]]].filter (okTerm envV [73, 110, 116]) = [pv [120], papp [108, 101, 110] [pv [108]]] by kernel_rfl] at r8
  rw [show BoolS envV (pv [120]) = 11 by kernel_rfl] at r9
  rw [show BoolS envV zeroP = 0 by kernel_rfl] at r10
  have e0 : Pred.cells zeroP = [.int .i64 0, .str [], .int .i64 0, .lst []] := by rw [Pred.cells_eq]; rfl
  rw [e0] at r10
  simp only [List.map_cons, List.map_nil, e0, two] at alen_l alen_x alen_y alen_ll atag_l atag_x r1 r2 r3 r4 r5 r6 r7 r8
  refine Z.l09_awake _ _ ⟨Nat.le_of_ble_eq_true rfl, ?_⟩
  simp only [fn_l09_awake, go_sem, Nat.reduceEqDiff, reduceCtorEq, Nat.reduceAdd, Nat.reduceLeDiff, Nat.reduceMul, Nat.reduceLT, Int.reduceToNat, Int.reduceLT, Int.reduceLE, Int.reduceEq, Nat.reduceSub]
  repeat
    first
      | refine call_by hE ?_
      | refine call_by vx ?_
      | refine call_by vl ?_
      | refine call_by vy ?_
      | refine call_by alen_l ?_
      | refine call_by alen_x ?_
      | refine call_by alen_y ?_
      | refine call_by alen_ll ?_
      | refine call_by atag_l ?_
      | refine call_by atag_x ?_
      | refine call_by tlt ?_
      | refine call_by teq1 ?_
      | refine call_by teq2 ?_
      | refine call_by r1 ?_
      | refine call_by r2 ?_
      | refine call_by r3 ?_
      | refine call_by r4 ?_
      | refine call_by r5 ?_
      | refine call_by r6 ?_
      | refine call_by r7 ?_
      | refine call_by r8 ?_
      | refine call_by r9 ?_
      | refine call_by r10 ?_
    try simp only [go_sem, Nat.reduceEqDiff, reduceCtorEq, Nat.reduceAdd, Nat.reduceLeDiff, Nat.reduceMul, Nat.reduceLT, Int.reduceToNat, Int.reduceLT, Int.reduceLE, Int.reduceEq, Nat.reduceSub, beq_self_eq_true]
end Go.Abs
end
section
set_option linter.unusedSimpArgs false
set_option linter.unusedVariables false
set_option linter.unusedSectionVars false
namespace Go.Abs
theorem envV_ok : envV.Ok := ⟨by intro s hs; simp [envV] at hs; subst hs; simp [Small], by intro s hs; simp [envV] at hs⟩
set_option maxRecDepth 100000
/-- what the laws of layer 9 need -/
structure Law9 (E : AEnv) : Prop where
  sys : Sys E
  of : ∀ v p, v.Ok → E.C sorting_Of [.agg v.cells, .agg p.cells] (two (OfS v p))
variable {E : AEnv} (L : Law9 E)
include L
theorem Law9.awake : E.C l09_awake [] (.one (.bool true)) := l09_awake_ev L.sys fun p => L.of envV p envV_ok
theorem SortingFinds_ev (v : SEnv) (p : Pred) : E.C l09_SortingFinds [.agg v.cells, .agg p.cells] (.one (.bool true)) := by
  have hl := l09_light_ev L.sys v
  have hs := l09_small_ev L.sys [p]
  have hw := L.awake
  have ho := L.of v p
  have hr := r09_Of_ev L.sys v p
  have hb := fun h => sorting_Bool_ev L.sys v p h
  have hrb := r09_Bool_ev L.sys v p
  refine L.sys.l09_SortingFinds _ _ ⟨Nat.le_of_ble_eq_true rfl, ?_⟩
  simp only [List.map_cons, List.map_nil] at hs
  unfold two at *
  have hok : lightB v = true → v.Ok := lightB_ok
  rw [SEnv.cells] at *
  simp only [fn_l09_SortingFinds, go_sem, Nat.reduceEqDiff, reduceCtorEq, Nat.reduceAdd, Nat.reduceLeDiff, Nat.reduceMul, Nat.reduceLT, Int.reduceToNat, Int.reduceLT, Int.reduceLE, Int.reduceEq, Nat.reduceSub]
  refine call_by hl ?_
  simp only [go_sem, Nat.reduceEqDiff, reduceCtorEq, Nat.reduceAdd, Nat.reduceLeDiff, Nat.reduceMul, Nat.reduceLT, Int.reduceToNat, Int.reduceLT, Int.reduceLE, Int.reduceEq, Nat.reduceSub]
  refine call_g hs ?_
  simp only [go_sem, Nat.reduceEqDiff, reduceCtorEq, Nat.reduceAdd, Nat.reduceLeDiff, Nat.reduceMul, Nat.reduceLT, Int.reduceToNat, Int.reduceLT, Int.reduceLE, Int.reduceEq, Nat.reduceSub]
  cases h1 : (!lightB v || !smallB [p]) with
  | true =>
    simp only [go_sem, Nat.reduceEqDiff, reduceCtorEq, Nat.reduceAdd, Nat.reduceLeDiff, Nat.reduceMul, Nat.reduceLT, Int.reduceToNat, Int.reduceLT, Int.reduceLE, Int.reduceEq, Nat.reduceSub]
    refine call_by hw ?_
    simp only [go_sem, Nat.reduceEqDiff, reduceCtorEq, Nat.reduceAdd, Nat.reduceLeDiff, Nat.reduceMul, Nat.reduceLT, Int.reduceToNat, Int.reduceLT, Int.reduceLE, Int.reduceEq, Nat.reduceSub]
  | false =>
    have hv : v.Ok := hok (by revert h1; cases lightB v <;> simp)
    have ho := ho hv
    have hb := hb ho
    simp only [go_sem, Nat.reduceEqDiff, reduceCtorEq, Nat.reduceAdd, Nat.reduceLeDiff, Nat.reduceMul, Nat.reduceLT, Int.reduceToNat, Int.reduceLT, Int.reduceLE, Int.reduceEq, Nat.reduceSub]
    refine call_by ho ?_
    simp only [go_sem, Nat.reduceEqDiff, reduceCtorEq, Nat.reduceAdd, Nat.reduceLeDiff, Nat.reduceMul, Nat.reduceLT, Int.reduceToNat, Int.reduceLT, Int.reduceLE, Int.reduceEq, Nat.reduceSub]
    refine call_by hr ?_
    simp only [go_sem, Nat.reduceEqDiff, reduceCtorEq, Nat.reduceAdd, Nat.reduceLeDiff, Nat.reduceMul, Nat.reduceLT, Int.reduceToNat, Int.reduceLT, Int.reduceLE, Int.reduceEq, Nat.reduceSub, beq_self_eq_true]
    refine call_by hb ?_
    simp only [go_sem, Nat.reduceEqDiff, reduceCtorEq, Nat.reduceAdd, Nat.reduceLeDiff, Nat.reduceMul, Nat.reduceLT, Int.reduceToNat, Int.reduceLT, Int.reduceLE, Int.reduceEq, Nat.reduceSub]
    refine call_by hrb ?_
    simp only [go_sem, Nat.reduceEqDiff, reduceCtorEq, Nat.reduceAdd, Nat.reduceLeDiff, Nat.reduceMul, Nat.reduceLT, Int.reduceToNat, Int.reduceLT, Int.reduceLE, Int.reduceEq, Nat.reduceSub, beq_self_eq_true]
    refine call_by hw ?_
    simp only [go_sem, Nat.reduceEqDiff, reduceCtorEq, Nat.reduceAdd, Nat.reduceLeDiff, Nat.reduceMul, Nat.reduceLT, Int.reduceToNat, Int.reduceLT, Int.reduceLE, Int.reduceEq, Nat.reduceSub, beq_self_eq_true]
theorem SortingLists_ev (v : SEnv) (s : Str) (l : List Pred) : E.C l09_SortingLists [.agg v.cells, .one (.str s), .one (.lst (l.map Pred.cells))] (.one (.bool true)) := by
  have hl := l09_light_ev L.sys v
  have hs := l09_small_ev L.sys l
  have hw := L.awake
  have he := fun h => sorting_Env_ev L.sys v (fun p => L.of v p h) l
  have hre := r09_Env_ev L.sys v l
  have ht := fun h hl => sorting_Terms_ev L.sys v s (fun p => L.of v p h) l hl
  have hrt := fun hl => r09_Terms_ev L.sys v s l hl
  have hsame := r09_Same_ev L.sys (l.filter (okTerm v s)) (l.filter (okTerm v s))
  rw [Pred.sames_refl] at hsame
  refine L.sys.l09_SortingLists _ _ ⟨Nat.le_of_ble_eq_true rfl, ?_⟩
  have hok : lightB v = true → v.Ok := lightB_ok
  rw [SEnv.cells] at *
  simp only [fn_l09_SortingLists, go_sem, Nat.reduceEqDiff, reduceCtorEq, Nat.reduceAdd, Nat.reduceLeDiff, Nat.reduceMul, Nat.reduceLT, Int.reduceToNat, Int.reduceLT, Int.reduceLE, Int.reduceEq, Nat.reduceSub]
  refine call_by hl ?_
  simp only [go_sem, Nat.reduceEqDiff, reduceCtorEq, Nat.reduceAdd, Nat.reduceLeDiff, Nat.reduceMul, Nat.reduceLT, Int.reduceToNat, Int.reduceLT, Int.reduceLE, Int.reduceEq, Nat.reduceSub]
  intro hlen
  refine call_g hs ?_
  simp only [go_sem, Nat.reduceEqDiff, reduceCtorEq, Nat.reduceAdd, Nat.reduceLeDiff, Nat.reduceMul, Nat.reduceLT, Int.reduceToNat, Int.reduceLT, Int.reduceLE, Int.reduceEq, Nat.reduceSub]
  cases h1 : (!lightB v || decide ((l.length : Int) > 12) || !smallB l) with
  | true =>
    simp only [go_sem, Nat.reduceEqDiff, reduceCtorEq, Nat.reduceAdd, Nat.reduceLeDiff, Nat.reduceMul, Nat.reduceLT, Int.reduceToNat, Int.reduceLT, Int.reduceLE, Int.reduceEq, Nat.reduceSub]
    refine call_by hw ?_
    simp only [go_sem, Nat.reduceEqDiff, reduceCtorEq, Nat.reduceAdd, Nat.reduceLeDiff, Nat.reduceMul, Nat.reduceLT, Int.reduceToNat, Int.reduceLT, Int.reduceLE, Int.reduceEq, Nat.reduceSub]
  | false =>
    have hv : v.Ok := hok (by revert h1; cases lightB v <;> simp)
    have hlS : Small l.length := by
      unfold Small
      by_cases hc : decide ((l.length : Int) > 12) = true
      · rw [hc] at h1; simp at h1
      · simp at hc; omega
    have he := he hv
    have ht := ht hv hlS
    have hrt := hrt hlS
    simp only [go_sem, Nat.reduceEqDiff, reduceCtorEq, Nat.reduceAdd, Nat.reduceLeDiff, Nat.reduceMul, Nat.reduceLT, Int.reduceToNat, Int.reduceLT, Int.reduceLE, Int.reduceEq, Nat.reduceSub]
    refine call_by he ?_
    simp only [go_sem, Nat.reduceEqDiff, reduceCtorEq, Nat.reduceAdd, Nat.reduceLeDiff, Nat.reduceMul, Nat.reduceLT, Int.reduceToNat, Int.reduceLT, Int.reduceLE, Int.reduceEq, Nat.reduceSub]
    refine call_by hre ?_
    simp only [go_sem, Nat.reduceEqDiff, reduceCtorEq, Nat.reduceAdd, Nat.reduceLeDiff, Nat.reduceMul, Nat.reduceLT, Int.reduceToNat, Int.reduceLT, Int.reduceLE, Int.reduceEq, Nat.reduceSub, beq_self_eq_true]
    refine call_by ht ?_
    simp only [go_sem, Nat.reduceEqDiff, reduceCtorEq, Nat.reduceAdd, Nat.reduceLeDiff, Nat.reduceMul, Nat.reduceLT, Int.reduceToNat, Int.reduceLT, Int.reduceLE, Int.reduceEq, Nat.reduceSub]
    refine call_by hrt ?_
    simp only [go_sem, Nat.reduceEqDiff, reduceCtorEq, Nat.reduceAdd, Nat.reduceLeDiff, Nat.reduceMul, Nat.reduceLT, Int.reduceToNat, Int.reduceLT, Int.reduceLE, Int.reduceEq, Nat.reduceSub, beq_self_eq_true]
    refine call_by hsame ?_
    simp only [go_sem, Nat.reduceEqDiff, reduceCtorEq, Nat.reduceAdd, Nat.reduceLeDiff, Nat.reduceMul, Nat.reduceLT, Int.reduceToNat, Int.reduceLT, Int.reduceLE, Int.reduceEq, Nat.reduceSub, beq_self_eq_true]
    refine call_by hw ?_
    simp only [go_sem, Nat.reduceEqDiff, reduceCtorEq, Nat.reduceAdd, Nat.reduceLeDiff, Nat.reduceMul, Nat.reduceLT, Int.reduceToNat, Int.reduceLT, Int.reduceLE, Int.reduceEq, Nat.reduceSub, beq_self_eq_true]
end Go.Abs
end
section
set_option linter.unusedSimpArgs false
set_option linter.unusedVariables false
set_option linter.unusedSectionVars false
namespace Go.Abs
theorem nodeS_shape {v : SEnv} {o : Int} {s : Str} {l : List Str} {t : Str} (h : nodeS v o s l = (t, 0)) (hk : kidsOk o l.length = true) :
    ((o == 6 || o == 7 || o == 8) = true → t = sInt ∧ l = [sInt, sInt]) ∧ ((o == 10 || o == 11) = true → t = sBool ∧ ∃ a, l = [a, a]) ∧
    ((o == 12 || o == 13) = true → t = sBool ∧ l = [sInt, sInt]) ∧ ((o == 14 || o == 15 || o == 16 || o == 17 || o == 18) = true → t = sBool ∧ ∃ r, l = sBool :: r) := by
  have two : o ≠ 1 → o ≠ 2 → o ≠ 3 → o ≠ 4 → o ≠ 5 → o ≠ 9 → o ≠ 14 → ∃ a b, l = [a, b] := by
    intro h1 h2 h3 h4 h5 h9 h14
    refine pair_split ?_
    simp [kidsOk, h1, h2, h3, h4, h5, h9, h14] at hk
    omega
  refine ⟨fun ho => ?_, fun ho => ?_, fun ho => ?_, fun ho => ?_⟩
  · simp at ho
    obtain ⟨a, b, rfl⟩ := two (by omega) (by omega) (by omega) (by omega) (by omega) (by omega) (by omega)
    have : (o == 6 || o == 7 || o == 8 || o == 9) = true := by simp; omega
    rw [nodeS, if_neg (by simp; omega), if_neg (by simp; omega), if_neg (by simp; omega), if_neg (by simp; omega), if_neg (by simp; omega), opS, if_pos this] at h
    split at h
    · rename_i hall
      simp [allS] at hall
      cases h
      exact ⟨rfl, by rw [hall.1, hall.2]⟩
    · cases h
  · simp at ho
    obtain ⟨a, b, rfl⟩ := two (by omega) (by omega) (by omega) (by omega) (by omega) (by omega) (by omega)
    have : (o == 10 || o == 11) = true := by simp; omega
    rw [nodeS, if_neg (by simp; omega), if_neg (by simp; omega), if_neg (by simp; omega), if_neg (by simp; omega), if_neg (by simp; omega), opS, if_neg (by simp; omega), if_neg (by simp; omega), if_pos this] at h
    split at h
    · rename_i hall
      simp at hall
      cases h
      exact ⟨rfl, a, by rw [hall]⟩
    · cases h
  · simp at ho
    obtain ⟨a, b, rfl⟩ := two (by omega) (by omega) (by omega) (by omega) (by omega) (by omega) (by omega)
    have : (o == 12 || o == 13) = true := by simp; omega
    rw [nodeS, if_neg (by simp; omega), if_neg (by simp; omega), if_neg (by simp; omega), if_neg (by simp; omega), if_neg (by simp; omega), opS, if_neg (by simp; omega), if_pos this] at h
    split at h
    · rename_i hall
      simp [allS] at hall
      cases h
      exact ⟨rfl, by rw [hall.1, hall.2]⟩
    · cases h
  · have hne : ∃ a r, l = a :: r := by
      by_cases h14 : o = 14
      · subst h14
        simp [kidsOk] at hk
        obtain ⟨a, rfl⟩ := one_split (by omega : l.length = 1)
        exact ⟨a, [], rfl⟩
      · simp at ho
        obtain ⟨a, b, rfl⟩ := two (by omega) (by omega) (by omega) (by omega) (by omega) (by omega) (by omega)
        exact ⟨a, [b], rfl⟩
    obtain ⟨a, r, rfl⟩ := hne
    simp at ho
    rw [nodeS, if_neg (by simp; omega), if_neg (by simp; omega), if_neg (by simp; omega), if_neg (by simp; omega), if_neg (by simp; omega), opS, if_neg (by simp; omega), if_neg (by simp; omega), if_neg (by simp; omega)] at h
    split at h
    · rename_i hall
      simp [allS] at hall
      cases h
      exact ⟨rfl, r, by rw [hall.1]⟩
    · cases h
set_option maxRecDepth 100000
variable {E : AEnv} (L : Law9 E)
include L
theorem SortingParts_ev (v : SEnv) (p : Pred) (hcnt : p.cnt < 2 ^ 62) : E.C l09_SortingParts [.agg v.cells, .agg p.cells] (.one (.bool true)) := by
  have hl := l09_light_ev L.sys v
  have hs := l09_small_ev L.sys [p]
  have hw := L.awake
  have ho := L.of v
  refine L.sys.l09_SortingParts _ _ ⟨Nat.le_of_ble_eq_true rfl, ?_⟩
  simp only [List.map_cons, List.map_nil] at hs
  unfold two at *
  have hok : lightB v = true → v.Ok := lightB_ok
  have hbare := OfS_bare v p
  obtain ⟨o, s, n, ks⟩ := p
  have hkids := OfS_kids (v := v) hcnt
  rw [SEnv.cells] at *
  have hof := fun h => ho (.mk o s n ks) h
  rw [Pred.cells_eq] at hs hof ⊢
  simp only [fn_l09_SortingParts, go_sem, Nat.reduceEqDiff, reduceCtorEq, Nat.reduceAdd, Nat.reduceLeDiff, Nat.reduceMul, Nat.reduceLT, Int.reduceToNat, Int.reduceLT, Int.reduceLE, Int.reduceEq, Nat.reduceSub, Pred.op, Pred.name, Pred.n, Pred.kids] at hs hof ⊢
  refine call_by hl ?_
  simp only [go_sem, Nat.reduceEqDiff, reduceCtorEq, Nat.reduceAdd, Nat.reduceLeDiff, Nat.reduceMul, Nat.reduceLT, Int.reduceToNat, Int.reduceLT, Int.reduceLE, Int.reduceEq, Nat.reduceSub]
  refine call_g hs ?_
  simp only [go_sem, Nat.reduceEqDiff, reduceCtorEq, Nat.reduceAdd, Nat.reduceLeDiff, Nat.reduceMul, Nat.reduceLT, Int.reduceToNat, Int.reduceLT, Int.reduceLE, Int.reduceEq, Nat.reduceSub]
  cases h1 : (!lightB v || !smallB [Pred.mk o s n ks]) with
  | true =>
    simp only [go_sem, Nat.reduceEqDiff, reduceCtorEq, Nat.reduceAdd, Nat.reduceLeDiff, Nat.reduceMul, Nat.reduceLT, Int.reduceToNat, Int.reduceLT, Int.reduceLE, Int.reduceEq, Nat.reduceSub]
    refine call_by hw ?_
    simp only [go_sem, Nat.reduceEqDiff, reduceCtorEq, Nat.reduceAdd, Nat.reduceLeDiff, Nat.reduceMul, Nat.reduceLT, Int.reduceToNat, Int.reduceLT, Int.reduceLE, Int.reduceEq, Nat.reduceSub]
  | false =>
    have hv : v.Ok := hok (by revert h1; cases lightB v <;> simp)
    have hof := hof hv
    have ho := fun q => ho q hv
    simp only [go_sem, Nat.reduceEqDiff, reduceCtorEq, Nat.reduceAdd, Nat.reduceLeDiff, Nat.reduceMul, Nat.reduceLT, Int.reduceToNat, Int.reduceLT, Int.reduceLE, Int.reduceEq, Nat.reduceSub]
    refine call_by hof ?_
    simp only [go_sem, Nat.reduceEqDiff, reduceCtorEq, Nat.reduceAdd, Nat.reduceLeDiff, Nat.reduceMul, Nat.reduceLT, Int.reduceToNat, Int.reduceLT, Int.reduceLE, Int.reduceEq, Nat.reduceSub]
    cases h2 : ((OfS v (.mk o s n ks)).2 != 0) with
    | true =>
      rw [hbare h2]
      simp only [go_sem, Nat.reduceEqDiff, reduceCtorEq, Nat.reduceAdd, Nat.reduceLeDiff, Nat.reduceMul, Nat.reduceLT, Int.reduceToNat, Int.reduceLT, Int.reduceLE, Int.reduceEq, Nat.reduceSub, beq_self_eq_true]
      refine call_by hw ?_
      simp only [go_sem, Nat.reduceEqDiff, reduceCtorEq, Nat.reduceAdd, Nat.reduceLeDiff, Nat.reduceMul, Nat.reduceLT, Int.reduceToNat, Int.reduceLT, Int.reduceLE, Int.reduceEq, Nat.reduceSub]
    | false =>
      obtain ⟨hk1, hk2, hk3⟩ := hkids (by simpa using h2)
      simp only [go_sem, Nat.reduceEqDiff, reduceCtorEq, Nat.reduceAdd, Nat.reduceLeDiff, Nat.reduceMul, Nat.reduceLT, Int.reduceToNat, Int.reduceLT, Int.reduceLE, Int.reduceEq, Nat.reduceSub]
      have hlen24 : ks.length ≤ 24 := by
        by_cases hgt : 24 < ks.length
        · have hk := hk3
          unfold kidsOk at hk
          have e0 : ((ks.length : Int) == 0) = false := beq_eq_false_iff_ne.2 (by omega)
          have e1 : ((ks.length : Int) == 1) = false := beq_eq_false_iff_ne.2 (by omega)
          have e2 : ((ks.length : Int) == 2) = false := beq_eq_false_iff_ne.2 (by omega)
          have e3 : decide ((ks.length : Int) ≤ 24) = false := decide_eq_false (by omega)
          rw [e0, e1, e2, e3, Bool.and_false] at hk
          exfalso; revert hk
          repeat' split
          all_goals exact Bool.false_ne_true
        · omega
      refine loop_named fun K hK => ?_
      refine loop_list ks (fun _ => True) (fun done rest => ⟨[(8, .d (.int .i64 done.length)), (5, .d (.str (OfS v (.mk o s n ks)).1)), (3, .ptr 3 0), (2, .ptr 2 0), (7, .own 7 1 (done.map fun k => scell (ofS v k).1))],
        [(3, [.d (.int .i64 o), .d (.str s), .d (.int .i64 n), .d (.lst (ks.map Pred.cells))]), (2, [.d (.lst (v.vars.map SVar.cells)), .d (.lst (v.syms.map SSym.cells)), .d (.lst (v.holes.map SHole.cells))])], [(7, true)]⟩) ?_ trivial ?_ ?_
      · exact Ent_conv 7 7 1 [] [(7, 7)] rfl (by simp) rfl (by simp only [Ent0, go_sem, Nat.reduceEqDiff, reduceCtorEq, Nat.reduceAdd, Nat.reduceLeDiff, Nat.reduceMul, Nat.reduceLT, Int.reduceToNat, Int.reduceLT, Int.reduceLE, Int.reduceEq, Nat.reduceSub, List.contains_nil, Option.isSome_some, List.map_nil])
      · intro done k r hl' _
        have hlt := lt_mid hl'
        have hw' : IntKind.i64.wrap ((done.length : Int) + 1) = ((done.length + 1 : Nat) : Int) := wrap_succ (by omega)
        have hkm : k ∈ ks := by rw [hl']; simp
        have hok' := ho k
        rw [(hk1 k hkm).1] at hok'
        have hz := (hk1 k hkm).2
        have ha1 : (done.length + 1) * 16 ≤ 2 ^ 46 := by omega
        simp only [fn_l09_SortingParts_L1, go_sem, Nat.reduceEqDiff, reduceCtorEq, Nat.reduceAdd, Nat.reduceLeDiff, Nat.reduceMul, Nat.reduceLT, Int.reduceToNat, Int.reduceLT, Int.reduceLE, Int.reduceEq, Nat.reduceSub, hlt, getD_midP hl']
        intro hlen
        refine call_by hok' ?_
        have hzz : ((0 : Int) != 0) = false := rfl
        simp only [go_sem, Nat.reduceEqDiff, reduceCtorEq, Nat.reduceAdd, Nat.reduceLeDiff, Nat.reduceMul, Nat.reduceLT, Int.reduceToNat, Int.reduceLT, Int.reduceLE, Int.reduceEq, Nat.reduceSub, hz, hw', hzz, List.length_map, List.length_append]
        refine ⟨⟨by simp, ha1, by omega⟩, Ent_own [(7, 56)] ?_⟩
        simp only [go_sem, Nat.reduceEqDiff, reduceCtorEq, Nat.reduceAdd, Nat.reduceLeDiff, Nat.reduceMul, Nat.reduceLT, Int.reduceToNat, Int.reduceLT, Int.reduceLE, Int.reduceEq, Nat.reduceSub, List.contains_nil, Option.isSome_some, List.map_append, List.map_cons, List.map_nil, scell]
      · intro _
        subst hK
        have hirr : (((ks.length : Nat) : Int) < ks.length) = False := by simp
        have hz0 : (OfS v (.mk o s n ks)).2 = 0 := by simpa using h2
        have hsh := nodeS_shape (v := v) (o := o) (s := s) (l := ks.map fun k => (ofS v k).1) (t := (OfS v (.mk o s n ks)).1) (by rw [← hk2, ← hz0]) (by rw [List.length_map]; exact hk3)
        obtain ⟨g1, g2, g3, g4⟩ := hsh
        have hmm : (ks.map fun k => scell (ofS v k).1) = (ks.map fun k => (ofS v k).1).map scell := by rw [List.map_map]; rfl
        rw [hmm]
        have hln : ks.length = (ks.map fun k => (ofS v k).1).length := by rw [List.length_map]
        generalize (OfS v (.mk o s n ks)).1 = t at *
        generalize hll : (ks.map fun k => (ofS v k).1) = l at *
        clear hk1 hk2 hof hkids ho hbare hs h2 hz0 hmm
        have hd : (o = 6 ∨ o = 7 ∨ o = 8 ∨ o = 10 ∨ o = 11 ∨ o = 12 ∨ o = 13 ∨ o = 14 ∨ o = 15 ∨ o = 16 ∨ o = 17 ∨ o = 18) ∨ (o ≠ 6 ∧ o ≠ 7 ∧ o ≠ 8 ∧ o ≠ 10 ∧ o ≠ 11 ∧ o ≠ 12 ∧ o ≠ 13 ∧ o ≠ 14 ∧ o ≠ 15 ∧ o ≠ 16 ∧ o ≠ 17 ∧ o ≠ 18) := by omega
        simp only [sInt, sBool] at g1 g2 g3 g4
        have hpos : ∀ n : Nat, decide (((n + 1 : Nat) : Int) > 0) = true := fun n => decide_eq_true (by omega)
        rcases hd with hd | ⟨h6, h7, h8, h10, h11, h12, h13, h14, h15, h16, h17, h18⟩
        · rcases hd with rfl | rfl | rfl | rfl | rfl | rfl | rfl | rfl | rfl | rfl | rfl | rfl
          all_goals first
            | obtain ⟨rfl, rfl⟩ := g1 rfl
            | obtain ⟨rfl, a, rfl⟩ := g2 rfl
            | obtain ⟨rfl, rfl⟩ := g3 rfl
            | obtain ⟨rfl, r, rfl⟩ := g4 rfl
          all_goals
            simp only [↓reduceIte, fn_l09_SortingParts_L1, go_sem, Nat.reduceEqDiff, reduceCtorEq, Nat.reduceAdd, Nat.reduceLeDiff, Nat.reduceMul, Nat.reduceLT, Int.reduceToNat, Int.reduceLT, Int.reduceLE, Int.reduceEq, Nat.reduceSub, hirr, Int.reduceBEq, List.map_cons, List.map_nil, List.length_cons, List.length_nil, scell, beq_self_eq_true, hpos]
            intro hlen
            try intro hlen2
            repeat (refine ⟨by first | (simp; done) | (simp [scell]; done) | exact ⟨by omega, by simp [scell]⟩, ?_⟩)
            try
              refine call_by hw ?_
              simp only [go_sem, Nat.reduceEqDiff, reduceCtorEq, Nat.reduceAdd, Nat.reduceLeDiff, Nat.reduceMul, Nat.reduceLT, Int.reduceToNat, Int.reduceLT, Int.reduceLE, Int.reduceEq, Nat.reduceSub]
        · have e : (o == 6) = false ∧ (o == 7) = false ∧ (o == 8) = false ∧ (o == 10) = false ∧ (o == 11) = false ∧ (o == 12) = false ∧ (o == 13) = false ∧ (o == 14) = false ∧ (o == 15) = false ∧ (o == 16) = false ∧ (o == 17) = false ∧ (o == 18) = false := by
            simp [h6, h7, h8, h10, h11, h12, h13, h14, h15, h16, h17, h18]
          simp only [↓reduceIte, fn_l09_SortingParts_L1, go_sem, Nat.reduceEqDiff, reduceCtorEq, Nat.reduceAdd, Nat.reduceLeDiff, Nat.reduceMul, Nat.reduceLT, Int.reduceToNat, Int.reduceLT, Int.reduceLE, Int.reduceEq, Nat.reduceSub, hirr, e]
          intro hlen
          refine call_by hw ?_
          simp only [go_sem, Nat.reduceEqDiff, reduceCtorEq, Nat.reduceAdd, Nat.reduceLeDiff, Nat.reduceMul, Nat.reduceLT, Int.reduceToNat, Int.reduceLT, Int.reduceLE, Int.reduceEq, Nat.reduceSub]
end Go.Abs
end
section
set_option linter.unusedSimpArgs false
set_option linter.unusedVariables false
set_option linter.unusedSectionVars false
namespace Go.Abs
/-- a name occurs -/
def Pred.named (s : Str) : Pred → Bool
  | .mk _ t _ ks => if t == s then true else nameds ks
where nameds : List Pred → Bool
  | [] => false
  | k :: ks => if named s k then true else nameds ks
theorem Pred.named_eq (s : Str) (o : Int) (t : Str) (n : Int) (ks : List Pred) : Pred.named s (.mk o t n ks) = if t == s then true else Pred.named.nameds s ks := by rw [named]
theorem nameds_mid {s : Str} {a b : List Pred} {k : Pred} (ha : ∀ x ∈ a, Pred.named s x = false) : Pred.named.nameds s (a ++ k :: b) = if Pred.named s k then true else Pred.named.nameds s b := by
  induction a with
  | nil => rw [List.nil_append, Pred.named.nameds]
  | cons x a ih => rw [List.cons_append, Pred.named.nameds, ha x (by simp)]; exact ih fun y hy => ha y (by simp [hy])
theorem nameds_all {s : Str} {a : List Pred} (ha : ∀ x ∈ a, Pred.named s x = false) : Pred.named.nameds s a = false := by
  induction a with
  | nil => rw [Pred.named.nameds]
  | cons x a ih => rw [Pred.named.nameds, ha x (by simp)]; exact ih fun y hy => ha y (by simp [hy])
theorem nameds_none {s : Str} {a : List Pred} (h : Pred.named.nameds s a = false) : ∀ x ∈ a, Pred.named s x = false := by
  induction a with
  | nil => intro x hx; cases hx
  | cons x a ih =>
    rw [Pred.named.nameds] at h
    cases hx : Pred.named s x with
    | true => rw [hx] at h; cases h
    | false =>
      rw [hx] at h
      intro y hy
      rcases List.mem_cons.1 hy with rfl | hy
      · exact hx
      · exact ih h y hy
/-- the environment with one name more -/
def moreEnv (v : SEnv) (x : SVar) : SEnv := ⟨v.vars ++ [x], ⟨x.name, [x.sort], sInt⟩ :: v.syms, ⟨x.name, [x]⟩ :: v.holes⟩
theorem more_nodeS {v : SEnv} {x : SVar} {o : Int} {s : Str} {l : List Str} (h : (s == x.name) = false) : nodeS (moreEnv v x) o s l = nodeS v o s l := by
  have h' : (x.name == s) = false := by
    cases hc : (x.name == s)
    · rfl
    · rw [eq_of_beq hc, beq_self_eq_true] at h; cases h
  have e1 : findVar (moreEnv v x).vars s = findVar v.vars s := by
    unfold findVar moreEnv
    simp only [List.reverse_append, List.reverse_cons, List.reverse_nil, List.nil_append, List.cons_append, List.find?, h']
  have e2 : findSym (moreEnv v x).syms s = findSym v.syms s := by
    unfold findSym moreEnv
    simp only [List.find?, h']
  have e3 : findHole (moreEnv v x).holes s = findHole v.holes s := by
    unfold findHole moreEnv
    simp only [List.find?, h']
  unfold nodeS appS holeS
  rw [e1, e2, e3]
theorem more_ofS {v : SEnv} {x : SVar} (p : Pred) : p.named x.name = false → ofS (moreEnv v x) p = ofS v p := by
  induction p using Pred.ind with
  | h o s n ks ih =>
  intro h
  rw [Pred.named_eq] at h
  cases h1 : (s == x.name) with
  | true => rw [h1] at h; cases h
  | false =>
    rw [h1] at h
    have hk := nameds_none (by simpa using h)
    have he : ∀ l : List Pred, (∀ k ∈ l, ofS (moreEnv v x) k = ofS v k) → ofS.errs (moreEnv v x) l = ofS.errs v l ∧ l.map (fun k => (ofS (moreEnv v x) k).1) = l.map fun k => (ofS v k).1 := by
      intro l
      induction l with
      | nil => intro _; exact ⟨rfl, rfl⟩
      | cons y l ih2 =>
        intro hy
        have := ih2 fun k hk => hy k (by simp [hk])
        rw [ofS.errs, ofS.errs, hy y (by simp), this.1, List.map_cons, List.map_cons, hy y (by simp), this.2]
        exact ⟨rfl, rfl⟩
    obtain ⟨e1, e2⟩ := he ks fun k hk' => ih k hk' (hk k hk')
    rw [ofS_eq, ofS_eq, e1, e2, more_nodeS h1]
theorem more_OfS {v : SEnv} {x : SVar} {p : Pred} (h : p.named x.name = false) : OfS (moreEnv v x) p = OfS v p := by
  unfold OfS; rw [more_ofS p h]
set_option maxRecDepth 100000
variable {E : AEnv}
theorem l09_named_ev (Z : Sys E) (p : Pred) (t : Str) : E.C l09_named [.agg p.cells, .one (.str t)] (.one (.bool (p.named t))) := by
  induction p using Pred.ind with
  | h o s n ks ih =>
  refine Z.l09_named _ _ ⟨Nat.le_of_ble_eq_true rfl, ?_⟩
  generalize hR : Pred.named t (.mk o s n ks) = R
  rw [Pred.named_eq] at hR
  rw [Pred.cells_eq]
  simp only [fn_l09_named, go_sem, Nat.reduceEqDiff, reduceCtorEq, Nat.reduceAdd, Nat.reduceLeDiff, Nat.reduceMul, Nat.reduceLT, Int.reduceToNat, Int.reduceLT, Int.reduceLE, Int.reduceEq, Nat.reduceSub, Pred.op, Pred.name, Pred.n, Pred.kids]
  cases h1 : (s == t) with
  | true => simp only [h1, go_sem, Nat.reduceEqDiff, reduceCtorEq, Nat.reduceAdd, Nat.reduceLeDiff, Nat.reduceMul, Nat.reduceLT, Int.reduceToNat, Int.reduceLT, Int.reduceLE, Int.reduceEq, Nat.reduceSub] at hR ⊢; exact hR
  | false =>
  simp only [h1, go_sem, Nat.reduceEqDiff, reduceCtorEq, Nat.reduceAdd, Nat.reduceLeDiff, Nat.reduceMul, Nat.reduceLT, Int.reduceToNat, Int.reduceLT, Int.reduceLE, Int.reduceEq, Nat.reduceSub] at hR ⊢
  refine loop_list ks (fun done => ∀ x ∈ done, x.named t = false) (fun done rest => ⟨[(5, .d (.int .i64 done.length)), (2, .ptr 2 0), (1, .d (.str t))], [(2, [.d (.int .i64 o), .d (.str s), .d (.int .i64 n), .d (.lst (ks.map Pred.cells))])], []⟩) ?_ (by simp) ?_ ?_
  · exact Ent_plain (by simp only [go_sem, Nat.reduceEqDiff, reduceCtorEq, Nat.reduceAdd, Nat.reduceLeDiff, Nat.reduceMul, Nat.reduceLT, Int.reduceToNat, Int.reduceLT, Int.reduceLE, Int.reduceEq, Nat.reduceSub, Option.isSome_some])
  · intro done k r hl hI
    have hk' := ih k (by rw [hl]; simp)
    have hlt := lt_mid hl
    simp only [fn_l09_named_L1, go_sem, Nat.reduceEqDiff, reduceCtorEq, Nat.reduceAdd, Nat.reduceLeDiff, Nat.reduceMul, Nat.reduceLT, Int.reduceToNat, Int.reduceLT, Int.reduceLE, Int.reduceEq, Nat.reduceSub, hlt, getD_midP hl]
    intro hlen
    have hw : IntKind.i64.wrap ((done.length : Int) + 1) = ((done.length + 1 : Nat) : Int) := wrap_succ (by omega)
    refine call_by hk' ?_
    rw [hl, nameds_mid hI] at hR
    cases h2 : (k.named t) with
    | true => simp only [h2, go_sem, Nat.reduceEqDiff, reduceCtorEq, Nat.reduceAdd, Nat.reduceLeDiff, Nat.reduceMul, Nat.reduceLT, Int.reduceToNat, Int.reduceLT, Int.reduceLE, Int.reduceEq, Nat.reduceSub] at hR ⊢; exact hR
    | false =>
      simp only [h2, go_sem, Nat.reduceEqDiff, reduceCtorEq, Nat.reduceAdd, Nat.reduceLeDiff, Nat.reduceMul, Nat.reduceLT, Int.reduceToNat, Int.reduceLT, Int.reduceLE, Int.reduceEq, Nat.reduceSub, hw] at hR ⊢
      exact ⟨Ent_plain (by simp only [go_sem, Nat.reduceEqDiff, reduceCtorEq, Nat.reduceAdd, Nat.reduceLeDiff, Nat.reduceMul, Nat.reduceLT, Int.reduceToNat, Int.reduceLT, Int.reduceLE, Int.reduceEq, Nat.reduceSub, Option.isSome_some, List.length_append]), app_all hI h2⟩
  · intro hI
    rw [nameds_all hI] at hR
    simp only [fn_l09_named_L1, go_sem, Nat.reduceEqDiff, reduceCtorEq, Nat.reduceAdd, Nat.reduceLeDiff, Nat.reduceMul, Nat.reduceLT, Int.reduceToNat, Int.reduceLT, Int.reduceLE, Int.reduceEq, Nat.reduceSub]
    intro hlen
    exact hR
theorem moreEnv_ok {v : SEnv} {x : SVar} (h : v.Ok) : (moreEnv v x).Ok := by
  refine ⟨fun s hs => ?_, fun s hs => ?_⟩
  · rcases List.mem_cons.1 hs with rfl | hs
    · unfold Small; simp
    · exact h.syms s hs
  · rcases List.mem_cons.1 hs with rfl | hs
    · unfold Small; simp
    · exact h.holes s hs
theorem lightB_lens {v : SEnv} (h : lightB v = true) : v.vars.length ≤ 26 ∧ v.syms.length ≤ 20 ∧ v.holes.length ≤ 8 := by
  unfold lightB at h
  simp only [Bool.and_eq_true, Bool.not_eq_true', Bool.or_eq_false_iff, decide_eq_false_iff_not] at h
  omega
variable (L : Law9 E)
include L
theorem SortingMore_ev (v : SEnv) (x : SVar) (p : Pred) : E.C l09_SortingMore [.agg v.cells, .agg x.cells, .agg p.cells] (.one (.bool true)) := by
  have hl := l09_light_ev L.sys v
  have hs := l09_small_ev L.sys [p]
  have hn := l09_named_ev L.sys p x.name
  have hw := L.awake
  have ho := L.of v p
  have hom := fun h => L.of (moreEnv v x) p (moreEnv_ok h)
  have hbm := fun h => more_OfS (v := v) (x := x) (p := p) h
  refine L.sys.l09_SortingMore _ _ ⟨Nat.le_of_ble_eq_true rfl, ?_⟩
  simp only [List.map_cons, List.map_nil] at hs
  unfold two at *
  have hok : lightB v = true → v.Ok := lightB_ok
  have hlens : lightB v = true → _ := lightB_lens (v := v)
  rw [SEnv.cells] at *
  rw [SVar.cells] at *
  simp only [fn_l09_SortingMore, go_sem, Nat.reduceEqDiff, reduceCtorEq, Nat.reduceAdd, Nat.reduceLeDiff, Nat.reduceMul, Nat.reduceLT, Int.reduceToNat, Int.reduceLT, Int.reduceLE, Int.reduceEq, Nat.reduceSub]
  refine call_by hl ?_
  simp only [go_sem, Nat.reduceEqDiff, reduceCtorEq, Nat.reduceAdd, Nat.reduceLeDiff, Nat.reduceMul, Nat.reduceLT, Int.reduceToNat, Int.reduceLT, Int.reduceLE, Int.reduceEq, Nat.reduceSub]
  refine call_g hs ?_
  simp only [go_sem, Nat.reduceEqDiff, reduceCtorEq, Nat.reduceAdd, Nat.reduceLeDiff, Nat.reduceMul, Nat.reduceLT, Int.reduceToNat, Int.reduceLT, Int.reduceLE, Int.reduceEq, Nat.reduceSub]
  refine call_g hn ?_
  simp only [go_sem, Nat.reduceEqDiff, reduceCtorEq, Nat.reduceAdd, Nat.reduceLeDiff, Nat.reduceMul, Nat.reduceLT, Int.reduceToNat, Int.reduceLT, Int.reduceLE, Int.reduceEq, Nat.reduceSub]
  cases h1 : (!lightB v || !smallB [p] || p.named x.name) with
  | true =>
    simp only [go_sem, Nat.reduceEqDiff, reduceCtorEq, Nat.reduceAdd, Nat.reduceLeDiff, Nat.reduceMul, Nat.reduceLT, Int.reduceToNat, Int.reduceLT, Int.reduceLE, Int.reduceEq, Nat.reduceSub]
    refine call_by hw ?_
    simp only [go_sem, Nat.reduceEqDiff, reduceCtorEq, Nat.reduceAdd, Nat.reduceLeDiff, Nat.reduceMul, Nat.reduceLT, Int.reduceToNat, Int.reduceLT, Int.reduceLE, Int.reduceEq, Nat.reduceSub]
  | false =>
    have hlb : lightB v = true := by revert h1; cases lightB v <;> simp
    have hnm : p.named x.name = false := by revert h1; cases p.named x.name <;> simp
    have hv := hok hlb
    have hlens := hlens hlb
    have ho := ho hv
    have hom := hom hv
    rw [hbm hnm] at hom
    simp only [go_sem, Nat.reduceEqDiff, reduceCtorEq, Nat.reduceAdd, Nat.reduceLeDiff, Nat.reduceMul, Nat.reduceLT, Int.reduceToNat, Int.reduceLT, Int.reduceLE, Int.reduceEq, Nat.reduceSub]
    simp only [moreEnv, List.map_append, List.map_cons, List.map_nil, SVar.cells, SSym.cells, SHole.cells, scell, sInt] at hom
    obtain ⟨q1, q2, q3⟩ := hlens
    refine ⟨⟨by simp, by omega, by omega⟩, ⟨by simp, by omega, by omega⟩, ⟨by simp, by simp, by omega⟩, ⟨by omega, by omega⟩, ⟨by simp, by simp, by omega⟩, ⟨by omega, by omega⟩, ?_⟩
    refine call_by ho ?_
    simp only [go_sem, Nat.reduceEqDiff, reduceCtorEq, Nat.reduceAdd, Nat.reduceLeDiff, Nat.reduceMul, Nat.reduceLT, Int.reduceToNat, Int.reduceLT, Int.reduceLE, Int.reduceEq, Nat.reduceSub]
    refine call_by hom ?_
    simp only [go_sem, Nat.reduceEqDiff, reduceCtorEq, Nat.reduceAdd, Nat.reduceLeDiff, Nat.reduceMul, Nat.reduceLT, Int.reduceToNat, Int.reduceLT, Int.reduceLE, Int.reduceEq, Nat.reduceSub, beq_self_eq_true]
    refine call_by hw ?_
    simp only [go_sem, Nat.reduceEqDiff, reduceCtorEq, Nat.reduceAdd, Nat.reduceLeDiff, Nat.reduceMul, Nat.reduceLT, Int.reduceToNat, Int.reduceLT, Int.reduceLE, Int.reduceEq, Nat.reduceSub, beq_self_eq_true]
end Go.Abs
end
section
set_option linter.unusedSimpArgs false
set_option linter.unusedVariables false
set_option linter.unusedSectionVars false
namespace Go.Abs
set_option maxRecDepth 100000
variable {E : AEnv} (Z : Sys E)
include Z
theorem pred_And_ev (l : List Pred) (ht : ∀ p ∈ l, voidP p = false → Tame p) : E.C pred_And [.one (.lst (l.map Pred.cells))] (.agg (andP l).cells) := by
  have hv := pred_void_ev Z
  have hc := fun p hp => pred_copied_ev Z p hp
  have hcf := pred_constant_ev Z false
  have hct := pred_constant_ev Z true
  have hs := fun p => pred_Same_ev Z p falseP
  simp only [if_true, Bool.false_eq_true, if_false] at hcf hct
  have hdr : ∀ p : Pred, List.drop 4 (List.map AV.d p.cells) = [] := fun p => List.drop_of_length_le (by rw [List.length_map, Pred.cells_length]; exact Nat.le_refl _)
  have hcs : ∀ a b : Pred, Pred.cells (.mk 15 [] 0 [a, b]) = [.int .i64 15, .str [], .int .i64 0, .lst [a.cells, b.cells]] := fun a b => by rw [Pred.cells_eq]; rfl
  refine Z.pred_And _ _ ⟨Nat.le_of_ble_eq_true rfl, ?_⟩
  generalize hR : andP l = R
  unfold andP at hR
  simp only [fn_pred_And, go_sem, Nat.reduceEqDiff, reduceCtorEq, Nat.reduceAdd, Nat.reduceLeDiff, Nat.reduceMul, Nat.reduceLT, Int.reduceToNat, Int.reduceLT, Int.reduceLE, Int.reduceEq, Nat.reduceSub]
  refine call_by hct ?_
  simp only [go_sem, Nat.reduceEqDiff, reduceCtorEq, Nat.reduceAdd, Nat.reduceLeDiff, Nat.reduceMul, Nat.reduceLT, Int.reduceToNat, Int.reduceLT, Int.reduceLE, Int.reduceEq, Nat.reduceSub]
  intro hlen
  refine loop_list l (fun done => ∀ x ∈ done, isFalse x = false) (fun done rest => ⟨[(10, .d (.int .i64 done.length)), (9, .d (.int .i64 l.length)), (8, .d (.lst (l.map Pred.cells))), (4, .d (.bool (andGo done).2)), (3, .ptr 3 0), (2, .ptr 2 0)], [(3, (andGo done).1.cells.map .d), (2, [.d (.int .i64 0), .d (.str []), .d (.int .i64 0), .full []])], []⟩) ?_ (by simp) ?_ ?_
  · have h0 : andGo [] = (trueP, false) := rfl
    exact Ent_plain (by simp only [go_sem, Nat.reduceEqDiff, reduceCtorEq, Nat.reduceAdd, Nat.reduceLeDiff, Nat.reduceMul, Nat.reduceLT, Int.reduceToNat, Int.reduceLT, Int.reduceLE, Int.reduceEq, Nat.reduceSub, Option.isSome_some, h0])
  · intro done k r hl hI
    have hlt := lt_mid hl
    have hw : IntKind.i64.wrap ((done.length : Int) + 1) = ((done.length + 1 : Nat) : Int) := wrap_succ (by omega)
    have hfk : isFalse k = (!voidP k && k.same falseP) := rfl
    have hga := andGo_app done k
    unfold andStp at hga
    rw [any_mid hl hI] at hR
    have htk := ht k (by rw [hl]; simp)
    simp only [fn_pred_And_L1, go_sem, Nat.reduceEqDiff, reduceCtorEq, Nat.reduceAdd, Nat.reduceLeDiff, Nat.reduceMul, Nat.reduceLT, Int.reduceToNat, Int.reduceLT, Int.reduceLE, Int.reduceEq, Nat.reduceSub, hlt, getD_midP hl]
    refine call_by (hv k) ?_
    simp only [go_sem, Nat.reduceEqDiff, reduceCtorEq, Nat.reduceAdd, Nat.reduceLeDiff, Nat.reduceMul, Nat.reduceLT, Int.reduceToNat, Int.reduceLT, Int.reduceLE, Int.reduceEq, Nat.reduceSub]
    cases h1 : voidP k with
    | true =>
      simp only [h1, go_sem, Nat.reduceEqDiff, reduceCtorEq, Nat.reduceAdd, Nat.reduceLeDiff, Nat.reduceMul, Nat.reduceLT, Int.reduceToNat, Int.reduceLT, Int.reduceLE, Int.reduceEq, Nat.reduceSub] at hga hfk ⊢
      exact ⟨Ent_plain (by simp only [go_sem, Nat.reduceEqDiff, reduceCtorEq, Nat.reduceAdd, Nat.reduceLeDiff, Nat.reduceMul, Nat.reduceLT, Int.reduceToNat, Int.reduceLT, Int.reduceLE, Int.reduceEq, Nat.reduceSub, hw, hga, Option.isSome_some, List.length_append]), app_all hI hfk⟩
    | false =>
      have htk := htk h1
      simp only [h1, go_sem, Nat.reduceEqDiff, reduceCtorEq, Nat.reduceAdd, Nat.reduceLeDiff, Nat.reduceMul, Nat.reduceLT, Int.reduceToNat, Int.reduceLT, Int.reduceLE, Int.reduceEq, Nat.reduceSub] at hga hfk ⊢
      refine call_by hcf ?_
      simp only [go_sem, Nat.reduceEqDiff, reduceCtorEq, Nat.reduceAdd, Nat.reduceLeDiff, Nat.reduceMul, Nat.reduceLT, Int.reduceToNat, Int.reduceLT, Int.reduceLE, Int.reduceEq, Nat.reduceSub]
      refine call_by (hs k) ?_
      simp only [go_sem, Nat.reduceEqDiff, reduceCtorEq, Nat.reduceAdd, Nat.reduceLeDiff, Nat.reduceMul, Nat.reduceLT, Int.reduceToNat, Int.reduceLT, Int.reduceLE, Int.reduceEq, Nat.reduceSub]
      cases h2 : k.same falseP with
      | true =>
        simp only [h2, go_sem, Nat.reduceEqDiff, reduceCtorEq, Nat.reduceAdd, Nat.reduceLeDiff, Nat.reduceMul, Nat.reduceLT, Int.reduceToNat, Int.reduceLT, Int.reduceLE, Int.reduceEq, Nat.reduceSub] at hfk ⊢
        refine call_by hcf ?_
        simp only [hfk, go_sem, Nat.reduceEqDiff, reduceCtorEq, Nat.reduceAdd, Nat.reduceLeDiff, Nat.reduceMul, Nat.reduceLT, Int.reduceToNat, Int.reduceLT, Int.reduceLE, Int.reduceEq, Nat.reduceSub] at hR ⊢
        subst hR
        simp only [go_sem, Nat.reduceEqDiff, reduceCtorEq, Nat.reduceAdd, Nat.reduceLeDiff, Nat.reduceMul, Nat.reduceLT, Int.reduceToNat, Int.reduceLT, Int.reduceLE, Int.reduceEq, Nat.reduceSub]
      | false =>
        simp only [h2, go_sem, Nat.reduceEqDiff, reduceCtorEq, Nat.reduceAdd, Nat.reduceLeDiff, Nat.reduceMul, Nat.reduceLT, Int.reduceToNat, Int.reduceLT, Int.reduceLE, Int.reduceEq, Nat.reduceSub] at hfk ⊢
        cases h3 : (andGo done).2 with
        | true =>
          simp only [h3, go_sem, Nat.reduceEqDiff, reduceCtorEq, Nat.reduceAdd, Nat.reduceLeDiff, Nat.reduceMul, Nat.reduceLT, Int.reduceToNat, Int.reduceLT, Int.reduceLE, Int.reduceEq, Nat.reduceSub] at hga ⊢
          refine call_by (hc k htk) ?_
          simp only [go_sem, Nat.reduceEqDiff, reduceCtorEq, Nat.reduceAdd, Nat.reduceLeDiff, Nat.reduceMul, Nat.reduceLT, Int.reduceToNat, Int.reduceLT, Int.reduceLE, Int.reduceEq, Nat.reduceSub]
          exact ⟨Ent_plain (by simp only [go_sem, Nat.reduceEqDiff, reduceCtorEq, Nat.reduceAdd, Nat.reduceLeDiff, Nat.reduceMul, Nat.reduceLT, Int.reduceToNat, Int.reduceLT, Int.reduceLE, Int.reduceEq, Nat.reduceSub, hw, hga, hdr, hcs, Option.isSome_some, List.length_append, List.map_cons, List.map_nil]), app_all hI hfk⟩
        | false =>
          simp only [h3, go_sem, Nat.reduceEqDiff, reduceCtorEq, Nat.reduceAdd, Nat.reduceLeDiff, Nat.reduceMul, Nat.reduceLT, Int.reduceToNat, Int.reduceLT, Int.reduceLE, Int.reduceEq, Nat.reduceSub] at hga ⊢
          refine call_by (hc k htk) ?_
          simp only [go_sem, Nat.reduceEqDiff, reduceCtorEq, Nat.reduceAdd, Nat.reduceLeDiff, Nat.reduceMul, Nat.reduceLT, Int.reduceToNat, Int.reduceLT, Int.reduceLE, Int.reduceEq, Nat.reduceSub]
          exact ⟨Ent_plain (by simp only [go_sem, Nat.reduceEqDiff, reduceCtorEq, Nat.reduceAdd, Nat.reduceLeDiff, Nat.reduceMul, Nat.reduceLT, Int.reduceToNat, Int.reduceLT, Int.reduceLE, Int.reduceEq, Nat.reduceSub, hw, hga, hdr, List.append_nil, Option.isSome_some, List.length_append]), app_all hI hfk⟩
  · intro hI
    rw [any_none hI] at hR
    simp only [fn_pred_And_L1, go_sem, Nat.reduceEqDiff, reduceCtorEq, Nat.reduceAdd, Nat.reduceLeDiff, Nat.reduceMul, Nat.reduceLT, Int.reduceToNat, Int.reduceLT, Int.reduceLE, Int.reduceEq, Nat.reduceSub] at hR ⊢
    rw [hR]
omit Z in
theorem BoolS_zero {v : SEnv} {p : Pred} (h : p.same zeroP = true) : BoolS v p = 0 := by unfold BoolS; rw [h]; rfl
omit Z in
theorem BoolS_ok {v : SEnv} {p : Pred} (h : BoolS v p = 0) (hz : p.same zeroP = false) : p.checkE = 0 ∧ ofS v p = (sBool, 0) := by
  unfold BoolS at h
  rw [hz] at h
  simp only [Bool.false_eq_true, if_false] at h
  by_cases h1 : ((OfS v p).2 == 0 && !(OfS v p).1 == sBool) = true
  · rw [if_pos h1] at h; cases h
  · rw [if_neg h1] at h
    have hc := check_of_ok (v := v) (x := p) (by rw [h]; rfl)
    have hO : OfS v p = ofS v p := by unfold OfS; rw [hc]; rfl
    rw [hO] at h h1
    refine ⟨hc, Prod.ext ?_ h⟩
    rw [h] at h1
    simpa using h1
omit Z in
theorem BoolS_of {v : SEnv} {p : Pred} (hc : p.checkE = 0) (h : ofS v p = (sBool, 0)) : BoolS v p = 0 := by
  have hO : OfS v p = ofS v p := by unfold OfS; rw [hc]; rfl
  unfold BoolS
  rw [hO, h]
  split
  · rfl
  · rfl
omit Z in
theorem tame_of_check {p : Pred} (h : p.checkE = 0) : Tame p := tame_of_arity (arity_of (formE_of_check h))
omit Z in
theorem tame_zero {p : Pred} (h : p.same zeroP = true) : Tame p := by
  rw [(Pred.same_iff p zeroP).1 h]
  intro q hq
  have : zeroP.pre = [zeroP] := rfl
  rw [this] at hq
  simp at hq; subst hq
  unfold Small; simp [zeroP, Pred.kids]
omit Z in
theorem tame_of_bool {v : SEnv} {p : Pred} (h : BoolS v p = 0) : Tame p := by
  cases hz : p.same zeroP with
  | true => exact tame_zero hz
  | false => exact tame_of_check (BoolS_ok h hz).1
omit Z in
theorem ofS_const (v : SEnv) : ofS v trueP = (sBool, 0) ∧ ofS v falseP = (sBool, 0) := ⟨rfl, rfl⟩
omit Z in
theorem ofS_one {v : SEnv} {p : Pred} (h : ofS v p = (sBool, 0)) : ofS v (.mk 14 [] 0 [p]) = (sBool, 0) := by
  rw [ofS_eq, ofS.errs, h, ofS.errs, List.map_cons, List.map_nil, h]; rfl
omit Z in
theorem ofS_two {v : SEnv} {p q : Pred} (h : ofS v p = (sBool, 0)) (h' : ofS v q = (sBool, 0)) : ofS v (.mk 15 [] 0 [p, q]) = (sBool, 0) := by
  rw [ofS_eq, ofS.errs, h, ofS.errs, h', ofS.errs, List.map_cons, List.map_cons, List.map_nil, h, h']; rfl
omit Z in
theorem bool_not {v : SEnv} {p : Pred} (h : BoolS v p = 0) (hc : (notP p).checkE = 0) : BoolS v (notP p) = 0 := by
  unfold notP at hc ⊢
  by_cases h1 : (p.op == 14 && (p.kids.length : Int) == 1) = true
  · rw [if_pos h1] at hc ⊢
    obtain ⟨o, s, n, ks⟩ := p
    simp only [Pred.op, Pred.kids] at h1 hc ⊢
    rw [Bool.and_eq_true] at h1
    obtain ⟨k, rfl⟩ : ∃ k, ks = [k] := one_split (by have := h1.2; simp at this; omega)
    have ho : o = 14 := by simpa using h1.1
    subst ho
    have hz : (Pred.mk 14 s n [k]).same zeroP = false := by
      cases hh : (Pred.mk 14 s n [k]).same zeroP with
      | true => have := (Pred.same_iff _ _).1 hh; cases this
      | false => rfl
    have hb := (BoolS_ok h hz).2
    refine BoolS_of hc ?_
    change ofS v k = (sBool, 0)
    rw [ofS_eq, ofS.errs] at hb
    by_cases hk : ((ofS v k).2 != 0) = true
    · rw [if_pos hk, if_pos hk] at hb
      have := congrArg Prod.snd hb
      simp only at this
      rw [this] at hk; cases hk
    · rw [if_neg hk, ofS.errs] at hb
      have hk0 : (ofS v k).2 = 0 := by simpa using hk
      have hb' : opS 14 [(ofS v k).1] = (sBool, 0) := hb
      have : (if allS [(ofS v k).1] sBool then (sBool, (0 : Int)) else ([], 11)) = (sBool, 0) := hb'
      by_cases ha : allS [(ofS v k).1] sBool = true
      · have : (ofS v k).1 = sBool := by simpa [allS] using ha
        exact Prod.ext this hk0
      · rw [if_neg ha] at this; cases this
  · rw [if_neg h1] at hc ⊢
    cases h2 : voidP p with
    | true => rw [if_pos rfl]; exact BoolS_of rfl (ofS_const v).2
    | false =>
      rw [h2] at hc
      simp only [Bool.false_eq_true, if_false] at hc ⊢
      cases h3 : p.same falseP with
      | true => rw [if_pos rfl]; exact BoolS_of rfl (ofS_const v).1
      | false =>
        rw [h3] at hc
        simp only [Bool.false_eq_true, if_false] at hc ⊢
        have hz : p.same zeroP = false := by unfold voidP at h2; cases hh : p.same zeroP with
          | true => rw [hh] at h2; cases h2
          | false => rfl
        exact BoolS_of hc (ofS_one (BoolS_ok h hz).2)
omit Z in
theorem andGo_bool {v : SEnv} : ∀ (l : List Pred) (x : Pred × Bool), ofS v x.1 = (sBool, 0) → (∀ p ∈ l, BoolS v p = 0) → ofS v (l.foldl andStp x).1 = (sBool, 0)
  | [], x, h, _ => h
  | p :: l, x, h, hl => by
    rw [List.foldl_cons]
    refine andGo_bool l _ ?_ fun q hq => hl q (by simp [hq])
    unfold andStp
    cases h2 : voidP p with
    | true => exact h
    | false =>
      have hz : p.same zeroP = false := by
        unfold voidP at h2
        cases hh : p.same zeroP with
        | true => rw [hh] at h2; cases h2
        | false => rfl
      have hp := (BoolS_ok (hl p (by simp)) hz).2
      simp only [Bool.false_eq_true, if_false]
      cases h3 : x.2 with
      | true => exact ofS_two h hp
      | false => exact hp
omit Z in
theorem bool_and {v : SEnv} {l : List Pred} (h : ∀ p ∈ l, BoolS v p = 0) (hc : (andP l).checkE = 0) : BoolS v (andP l) = 0 := by
  refine BoolS_of hc ?_
  unfold andP
  split
  · exact (ofS_const v).2
  · exact andGo_bool l _ (ofS_const v).1 h
/-- what the laws of layer 9 that check need -/
structure Law9c (E : AEnv) : Prop extends Law9 E where
  check : ∀ p, E.C pred_Check [.agg (Pred.cells p)] (.one (.int .i64 p.checkE))
omit Z
variable (L : Law9c E)
include L
theorem SortingConnects_ev (v : SEnv) (l : List Pred) : E.C l09_SortingConnects [.agg v.cells, .one (.lst (l.map Pred.cells))] (.one (.bool true)) := by
  have hl := l09_light_ev L.sys v
  have hs := l09_small_ev L.sys l
  have hw := L.toLaw9.awake
  have hb := fun h p => sorting_Bool_ev L.sys v p (L.of v p h)
  have hn := fun p hp => pred_Not_ev L.sys p hp
  have ha := pred_And_ev L.sys l
  have hc := L.check
  refine L.sys.l09_SortingConnects _ _ ⟨Nat.le_of_ble_eq_true rfl, ?_⟩
  have hok : lightB v = true → v.Ok := lightB_ok
  rw [SEnv.cells] at *
  simp only [fn_l09_SortingConnects, go_sem, Nat.reduceEqDiff, reduceCtorEq, Nat.reduceAdd, Nat.reduceLeDiff, Nat.reduceMul, Nat.reduceLT, Int.reduceToNat, Int.reduceLT, Int.reduceLE, Int.reduceEq, Nat.reduceSub]
  refine call_by hl ?_
  simp only [go_sem, Nat.reduceEqDiff, reduceCtorEq, Nat.reduceAdd, Nat.reduceLeDiff, Nat.reduceMul, Nat.reduceLT, Int.reduceToNat, Int.reduceLT, Int.reduceLE, Int.reduceEq, Nat.reduceSub]
  intro hlen
  refine call_g hs ?_
  simp only [go_sem, Nat.reduceEqDiff, reduceCtorEq, Nat.reduceAdd, Nat.reduceLeDiff, Nat.reduceMul, Nat.reduceLT, Int.reduceToNat, Int.reduceLT, Int.reduceLE, Int.reduceEq, Nat.reduceSub]
  cases h1 : (!lightB v || decide ((l.length : Int) > 8) || !smallB l) with
  | true =>
    simp only [go_sem, Nat.reduceEqDiff, reduceCtorEq, Nat.reduceAdd, Nat.reduceLeDiff, Nat.reduceMul, Nat.reduceLT, Int.reduceToNat, Int.reduceLT, Int.reduceLE, Int.reduceEq, Nat.reduceSub]
    refine call_by hw ?_
    simp only [go_sem, Nat.reduceEqDiff, reduceCtorEq, Nat.reduceAdd, Nat.reduceLeDiff, Nat.reduceMul, Nat.reduceLT, Int.reduceToNat, Int.reduceLT, Int.reduceLE, Int.reduceEq, Nat.reduceSub]
  | false =>
    have hv := hok (by revert h1; cases lightB v <;> simp)
    have hb := hb hv
    simp only [go_sem, Nat.reduceEqDiff, reduceCtorEq, Nat.reduceAdd, Nat.reduceLeDiff, Nat.reduceMul, Nat.reduceLT, Int.reduceToNat, Int.reduceLT, Int.reduceLE, Int.reduceEq, Nat.reduceSub]
    refine loop_named fun K hK => ?_
    refine loop_list l (fun done => ∀ x ∈ done, BoolS v x = 0) (fun done rest => ⟨[(5, .d (.int .i64 done.length)), (2, .ptr 2 0), (1, .d (.lst (l.map Pred.cells)))], [(2, [.d (.lst (v.vars.map SVar.cells)), .d (.lst (v.syms.map SSym.cells)), .d (.lst (v.holes.map SHole.cells))])], []⟩) ?_ (by simp) ?_ ?_
    · exact Ent_plain (by simp only [go_sem, Nat.reduceEqDiff, reduceCtorEq, Nat.reduceAdd, Nat.reduceLeDiff, Nat.reduceMul, Nat.reduceLT, Int.reduceToNat, Int.reduceLT, Int.reduceLE, Int.reduceEq, Nat.reduceSub, Option.isSome_some])
    · intro done k r hl' hI
      have hlt := lt_mid hl'
      simp only [fn_l09_SortingConnects_L1, go_sem, Nat.reduceEqDiff, reduceCtorEq, Nat.reduceAdd, Nat.reduceLeDiff, Nat.reduceMul, Nat.reduceLT, Int.reduceToNat, Int.reduceLT, Int.reduceLE, Int.reduceEq, Nat.reduceSub, hlt, getD_midP hl']
      intro hlen
      have hw' : IntKind.i64.wrap ((done.length : Int) + 1) = ((done.length + 1 : Nat) : Int) := wrap_succ (by omega)
      refine call_by (hb k) ?_
      simp only [go_sem, Nat.reduceEqDiff, reduceCtorEq, Nat.reduceAdd, Nat.reduceLeDiff, Nat.reduceMul, Nat.reduceLT, Int.reduceToNat, Int.reduceLT, Int.reduceLE, Int.reduceEq, Nat.reduceSub]
      cases h2 : (BoolS v k != 0) with
      | true =>
        simp only [go_sem, Nat.reduceEqDiff, reduceCtorEq, Nat.reduceAdd, Nat.reduceLeDiff, Nat.reduceMul, Nat.reduceLT, Int.reduceToNat, Int.reduceLT, Int.reduceLE, Int.reduceEq, Nat.reduceSub]
        refine call_by hw ?_
        subst hK
        simp only [go_sem, Nat.reduceEqDiff, reduceCtorEq, Nat.reduceAdd, Nat.reduceLeDiff, Nat.reduceMul, Nat.reduceLT, Int.reduceToNat, Int.reduceLT, Int.reduceLE, Int.reduceEq, Nat.reduceSub]
      | false =>
        have hk0 : BoolS v k = 0 := by simpa using h2
        have hnk := bool_not hk0
        simp only [go_sem, Nat.reduceEqDiff, reduceCtorEq, Nat.reduceAdd, Nat.reduceLeDiff, Nat.reduceMul, Nat.reduceLT, Int.reduceToNat, Int.reduceLT, Int.reduceLE, Int.reduceEq, Nat.reduceSub, hlt, getD_midP hl']
        refine call_by (hn k (tame_of_bool hk0)) ?_
        simp only [go_sem, Nat.reduceEqDiff, reduceCtorEq, Nat.reduceAdd, Nat.reduceLeDiff, Nat.reduceMul, Nat.reduceLT, Int.reduceToNat, Int.reduceLT, Int.reduceLE, Int.reduceEq, Nat.reduceSub]
        refine call_by (hc (notP k)) ?_
        simp only [go_sem, Nat.reduceEqDiff, reduceCtorEq, Nat.reduceAdd, Nat.reduceLeDiff, Nat.reduceMul, Nat.reduceLT, Int.reduceToNat, Int.reduceLT, Int.reduceLE, Int.reduceEq, Nat.reduceSub]
        have hgo : ((notP k).checkE == 0 && BoolS v (notP k) != 0) = false := by
          cases h3 : ((notP k).checkE == 0) with
          | true => rw [hnk (by simpa using h3)]; rfl
          | false => rfl
        refine call_g (hb (notP k)) ?_
        simp only [go_sem, Nat.reduceEqDiff, reduceCtorEq, Nat.reduceAdd, Nat.reduceLeDiff, Nat.reduceMul, Nat.reduceLT, Int.reduceToNat, Int.reduceLT, Int.reduceLE, Int.reduceEq, Nat.reduceSub, hgo, hw']
        exact ⟨Ent_plain (by simp only [go_sem, Nat.reduceEqDiff, reduceCtorEq, Nat.reduceAdd, Nat.reduceLeDiff, Nat.reduceMul, Nat.reduceLT, Int.reduceToNat, Int.reduceLT, Int.reduceLE, Int.reduceEq, Nat.reduceSub, Option.isSome_some, List.length_append]), app_all hI hk0⟩
    · intro hI
      subst hK
      have hac := ha fun p hp _ => tame_of_bool (hI p hp)
      have hbc := bool_and hI
      have hgo : (((andP l).checkE != 0) || BoolS v (andP l) == 0) = true := by
        cases h3 : ((andP l).checkE != 0) with
        | true => rfl
        | false => rw [hbc (by simpa using h3)]; rfl
      simp only [fn_l09_SortingConnects_L1, go_sem, Nat.reduceEqDiff, reduceCtorEq, Nat.reduceAdd, Nat.reduceLeDiff, Nat.reduceMul, Nat.reduceLT, Int.reduceToNat, Int.reduceLT, Int.reduceLE, Int.reduceEq, Nat.reduceSub]
      intro hlen
      refine call_by hac ?_
      simp only [go_sem, Nat.reduceEqDiff, reduceCtorEq, Nat.reduceAdd, Nat.reduceLeDiff, Nat.reduceMul, Nat.reduceLT, Int.reduceToNat, Int.reduceLT, Int.reduceLE, Int.reduceEq, Nat.reduceSub]
      refine call_by (hc (andP l)) ?_
      simp only [go_sem, Nat.reduceEqDiff, reduceCtorEq, Nat.reduceAdd, Nat.reduceLeDiff, Nat.reduceMul, Nat.reduceLT, Int.reduceToNat, Int.reduceLT, Int.reduceLE, Int.reduceEq, Nat.reduceSub]
      refine call_g (hb (andP l)) ?_
      simp only [go_sem, Nat.reduceEqDiff, reduceCtorEq, Nat.reduceAdd, Nat.reduceLeDiff, Nat.reduceMul, Nat.reduceLT, Int.reduceToNat, Int.reduceLT, Int.reduceLE, Int.reduceEq, Nat.reduceSub, hgo]
      refine call_by hw ?_
      simp only [go_sem, Nat.reduceEqDiff, reduceCtorEq, Nat.reduceAdd, Nat.reduceLeDiff, Nat.reduceMul, Nat.reduceLT, Int.reduceToNat, Int.reduceLT, Int.reduceLE, Int.reduceEq, Nat.reduceSub]
end Go.Abs
end
section
set_option linter.unusedSimpArgs false
set_option linter.unusedVariables false
set_option linter.unusedSectionVars false
namespace Go.Abs
open Go.RowKit Go.Sort Go.Proofs

/-! ## a straight function, walked by hand -/
/-- the regions of a straight function -/
def segs : Code → Option (List (Nat × Array Oper))
  | .ret => some []
  | .seq (.region i ops false) c => (segs c).map ((i, ops) :: ·)
  | _ => none
abbrev OpC := Option Tmp × Op × Option (Nat × Bool)
def opc (o : Oper) : OpC := (o.dst, o.op, o.guard)
theorem segs_nil {c : Code} (h : segs c = some []) : c = .ret := by
  cases c with
  | ret => rfl
  | seq a b =>
    cases a with
    | region i ops d => cases d <;> simp [segs] at h
    | _ => simp [segs] at h
  | _ => simp [segs] at h
theorem segs_cons {c : Code} {i : Nat} {ops : Array Oper} {l : List (Nat × Array Oper)} (h : segs c = some ((i, ops) :: l)) : ∃ c', c = .seq (.region i ops false) c' ∧ segs c' = some l := by
  cases c with
  | seq a b =>
    cases a with
    | region i' ops' d =>
      cases d with
      | true => simp [segs] at h
      | false =>
        simp only [segs, Option.map_eq_some_iff] at h
        obtain ⟨l', h1, h2⟩ := h
        cases h2
        exact ⟨b, rfl, h1⟩
    | _ => simp [segs] at h
  | _ => simp [segs] at h
theorem segs_map {c : Code} {x : List OpC} {xs : List (List OpC)} (h : (segs c).map (fun l => l.map fun p => p.2.toList.map opc) = some (x :: xs)) :
    ∃ i ops c', c = .seq (.region i ops false) c' ∧ ops.toList.map opc = x ∧ (segs c').map (fun l => l.map fun p => p.2.toList.map opc) = some xs := by
  cases hs : segs c with
  | none => rw [hs] at h; cases h
  | some l =>
    rw [hs] at h
    cases l with
    | nil => simp at h
    | cons p l =>
      obtain ⟨i, ops⟩ := p
      obtain ⟨c', h1, h2⟩ := segs_cons hs
      simp only [Option.map_some, List.map_cons, Option.some.injEq, List.cons.injEq] at h
      exact ⟨i, ops, c', h1, h.1, by rw [h2]; simp [h.2]⟩
theorem segs_end {c : Code} (h : (segs c).map (fun l => l.map fun p => p.2.toList.map opc) = some []) : c = .ret := by
  cases hs : segs c with
  | none => rw [hs] at h; cases h
  | some l =>
    rw [hs] at h
    cases l with
    | nil => exact segs_nil hs
    | cons p l => simp at h

section
variable {F : Fence} {n : Nat} {P : Program} {ops : Array Oper} {Q : Exit → Act → World → Prop} {k : Nat} {N : Act → World → Prop} {a : Act} {w : World}
theorem opc_get {d : Option Tmp} {op : Op} {g : Option (Nat × Bool)} (ho : (ops.toList.map opc)[k]? = some (d, op, g)) : ∃ o, ops[k]? = some o ∧ o.dst = d ∧ o.op = op ∧ o.guard = g := by
  rw [List.getElem?_map, Array.getElem?_toList] at ho
  cases h : ops[k]? with
  | none => rw [h] at ho; cases ho
  | some o =>
    rw [h] at ho
    simp only [Option.map_some, Option.some.injEq, opc, Prod.mk.injEq] at ho
    exact ⟨o, rfl, ho.1, ho.2.1, ho.2.2⟩
theorem wpOp_val (hF : FW F) {d : Tmp} {op : Op} (ho : (ops.toList.map opc)[k]? = some (some d, op, none)) (hnd : ∀ c, op ≠ .defer c) {v : Value} {w' : World} (hrun : ∀ o : Oper, o.op = op → (execOp a.eval o).run P w = .ok (.value v) w')
    (hN : N { a with tmps := a.tmps.setIfInBounds d v } w') : wpOpIn F n P ops Q k N a w := by
  obtain ⟨o, h1, h2, h3, h4⟩ := opc_get ho
  unfold wpOpIn
  simp only [h1]
  rw [if_pos (by simp [Region.wanted, h4])]
  refine wpIn_fw hF (fun c hc => hnd c (h3 ▸ hc)) ?_
  unfold Oper.wp
  rw [hrun o h3]
  simp only [Oper.upon_value, Act.put, h2]
  exact hN
theorem wpOp_call (hF : FW F) {d : Tmp} {op : Op} (ho : (ops.toList.map opc)[k]? = some (some d, op, none)) (hnd : ∀ c, op ≠ .defer c) {f : FuncId} {args : Array Value} (hrun : ∀ o : Oper, o.op = op → (execOp a.eval o).run P w = .ok (.enter f args) w)
    {R : Ending → World → Prop} (hc : Calls P f args w R) (hN : ∀ e w', R e w' → ∃ v, e = .returned v ∧ N { a with tmps := a.tmps.setIfInBounds d v } w') : wpOpIn F n P ops Q k N a w := by
  obtain ⟨o, h1, h2, h3, h4⟩ := opc_get ho
  unfold wpOpIn
  simp only [h1]
  rw [if_pos (by simp [Region.wanted, h4])]
  refine wpIn_fw hF (fun c hc => hnd c (h3 ▸ hc)) ?_
  unfold Oper.wp
  rw [hrun o h3, Oper.upon_enter]
  refine hc.mono ?_
  intro e w' hR
  obtain ⟨v, rfl, hN⟩ := hN e w' hR
  simp only [Act.put, h2]
  exact hN
theorem wpIn_ops {i : Nat} {l : List OpC} (hl : ops.toList.map opc = l) (h : wpOpsIn F n P ops Q (List.range l.length) a w) : (Code.region i ops false).wpIn F n P Q a w :=
  wpIn_region (by have : ops.size = l.length := by rw [← hl]; simp
                  rw [this]; exact h)
end

/-! ## texts -/
theorem str_value {w : World} {S : Safe} {s : List UInt8} {v : Value} (h : Rep w S (.str s) v) : v = encStr s ∧ s.length ≤ 9223372036854775807 := by
  obtain ⟨x, h1, h2, h3⟩ := h
  subst h1 h2
  exact ⟨by simp [encStr], by simpa using h3⟩
theorem strs_values {w : World} {S : Safe} : ∀ {ss : List (List UInt8)} {l : List Value}, RepL w S (ss.map fun s => [D.str s]).flatten l → l = ss.map encStr ∧ ∀ s ∈ ss, s.length ≤ 9223372036854775807
  | [], l, h => by simp [RepL] at h; subst h; simp
  | s :: ss, l, h => by
    simp only [List.map_cons, List.flatten_cons, List.singleton_append] at h
    obtain ⟨v, r, h1, h2, h3⟩ := h
    obtain ⟨rfl, h4⟩ := str_value h2
    obtain ⟨h5, h6⟩ := strs_values h3
    subst h1 h5
    exact ⟨rfl, by simpa using ⟨h4, h6⟩⟩
theorem values_strs {w : World} {S : Safe} : ∀ {ss : List (List UInt8)}, (∀ s ∈ ss, s.length ≤ 9223372036854775807) → RepL w S (ss.map fun s => [D.str s]).flatten (ss.map encStr)
  | [], _ => by simp [RepL]
  | s :: ss, h => by
    simp only [List.map_cons, List.flatten_cons, List.singleton_append]
    exact ⟨_, _, rfl, ⟨_, rfl, by simp, by show s.toArray.size ≤ _; rw [List.size_toArray]; exact h s (by simp)⟩, values_strs fun x hx => h x (by simp [hx])⟩
theorem own_app {P : Program} {w : World} {B t ty e : TypeId} {ie : TypeInfo} {z : Value} {eb : Nat} (hu : P.underlying t = some (.slice e)) (hie : P.info? e = some ie) (q1 : ie.size = 1) (q2 : ie.bytes = eb) (q4 : ie.zero = some z) (q5 : z.cells.size = 1)
    {v : Value} {xs : List Value} (hown : w.ownsRow B e 1 v xs.length xs) {v2 : Value} {es : List (List D)} {S : Safe} (hy : Rep w S (.lst es) v2) (hes : ∀ x ∈ es, x.length = 1) (hB : B ≤ w.heap.size) (h63 : xs.length + es.length ≤ maxLen) (hby : (xs.length + es.length) * eb ≤ 140737488355328) :
    ∃ v' w' l2, RepL w S es.flatten l2 ∧ (Builtin.append_ #[t, t] ty #[v, v2]).run P w = .ok v' w' ∧ w'.ownsRow B e 1 v' (xs ++ l2).length (xs ++ l2) ∧ w.grownBy w' v.ownBlock ∧ (v' = .slice none 0 0 → v = .slice none 0 0) := by
  obtain ⟨base2, cap2, rfl, _⟩ := id hy
  obtain ⟨_, hm, hcap2, hnil2, l2, hl2, hl2c⟩ := lst_values hy
  have len2 : l2.length = es.length := by rw [RepL.length hl2, flatten_length hes, Nat.mul_one]
  cases base2 with
  | none =>
    have h0 : cap2 = 0 := hnil2 rfl
    have hes0 : es = [] := List.eq_nil_of_length_eq_zero (by omega)
    subst hes0
    have hl0 : l2 = [] := List.eq_nil_of_length_eq_zero (by simpa using len2)
    subst hl0
    refine ⟨v, w, [], hl2, ?_, by simpa using hown, ⟨rfl, rfl, rfl, Nat.le_refl _, fun _ _ _ => rfl⟩, id⟩
    rcases hown.2 with ⟨rfl, _⟩ | ⟨g, cap, cur, rfl, _, _, hn, _⟩
    · exact run_append_zero w t ty e ie hu hie none 0 0 (Nat.le_refl _) none cap2
    · exact run_append_zero w t ty e ie hu hie _ _ _ hn none cap2
  | some a2 =>
    obtain ⟨_, hc2⟩ := hl2c a2 rfl
    obtain ⟨v', w', h1, h2, h3, h4⟩ := run_append_own (P := P) w B t ty e ie z 1 eb hu hie q4 q1 q2 q5 (by omega) v xs.length xs hown a2 es.length cap2 l2 (by omega) (fun j u hj => (hc2 j u hj).1) (RepL.ones hl2) h63 hby hB
    exact ⟨v', w', l2, hl2, h1, by rw [List.length_append, len2]; exact h2, h3, fun h => (h4.1 h).1⟩

def unionOps (t fs fc : Nat) : List (List OpC) :=
  [[(some 4, .assign (.const (.slice none 0 0)), none)],
   [(some 6, .buildSlice t 0 #[], none), (some 7, .move (.tmp 0), none), (some 8, .call ⟨.builtin .append, #[.tmp 6, .tmp 7], #[t, t]⟩, none), (some 9, .move (.tmp 1), none), (some 10, .call ⟨.builtin .append, #[.tmp 8, .tmp 9], #[t, t]⟩, none), (some 5, .assign (.tmp 10), none)],
   [(some 11, .move (.tmp 5), none), (some 12, .call ⟨.value (.func fs), #[.tmp 11], #[t]⟩, none)],
   [(some 13, .move (.tmp 5), none), (some 14, .call ⟨.value (.func fc), #[.tmp 13], #[t]⟩, none), (some 4, .assign (.tmp 14), none)]]
abbrev sorted (ss : List (List UInt8)) : List (List UInt8) := ss.mergeSort fun x y => decide (x ≤ y)
def SortLaw (P : Program) (f : FuncId) : Prop := ∀ (blk off cap : Nat) (ss : List (List UInt8)) (w : World), Holds encStr w blk off ss.toArray → blk < w.heap.size → ss.length < 4611686018427387904 →
    Calls P f #[.slice (some ⟨blk, off, none⟩) ss.length cap] w fun e w' => e = .returned (.tuple #[]) ∧ ∃ n os, w' = grow (putRow encStr (Sort.ahead w n) blk off (sorted ss).toArray) os
def CompactLaw (P : Program) (f : FuncId) : Prop := ∀ (blk off cap : Nat) (zs : List (List UInt8)) (w : World), Holds encStr w blk off zs.toArray → zs.length ≤ 9223372036854775807 → zs.length ≤ cap →
    Calls P f #[.slice (some ⟨blk, off, none⟩) zs.length cap] w fun e w' => e = .returned (.slice (some ⟨blk, off, none⟩) (Lib.compact zs).length cap) ∧ ∃ q, w' = putRow encStr (Sort.ahead w q) blk off (Lib.compact zs ++ List.replicate (zs.length - (Lib.compact zs).length) []).toArray
theorem compact_mem {zs : List (List UInt8)} {x : List UInt8} (h : x ∈ Lib.compact zs) : x ∈ zs := by
  unfold Lib.compact Lib.compactUpTo at h
  obtain ⟨i, hi, rfl⟩ := List.mem_map.1 h
  have := List.mem_range.1 (List.mem_filter.1 hi).1
  simp [getElem!_pos, this]
/-- the last state of a straight walk -/
theorem last_sim {P : Program} {G : Nat → Option (List D)} {w w' : World} {S S' : Safe} {N : Nat} {tmps : Array Value} (hglob : GlobOk P G w S) (hlive : Live w S) (hsz : tmps.size = N) (hb : Below w.heap.size w w') {k : Nat} {d : D} (hk : ∀ b o, S b o → S' b o) (hn : ∀ b o, S' b o → S b o ∨ w.heap.size ≤ b) (hl : Live w' S')
    (hr : Rep w' S' d (tmps.getD k undef)) : Sim { P := P, G := G, w0 := w, S0 := S, N := N } ⟨[(k, .d d)], [], []⟩ tmps w' S' ⟨fun _ => none, fun _ => none, fun _ => none⟩ := by
  have hkp : Keeps w S w' S' := fun b o hs => by
    obtain ⟨v, hv⟩ := hlive b o hs
    exact ⟨hk b o hs, hb.cell (p := ⟨b, o, none⟩) (cell_lt hv)⟩
  refine { size := hsz, slots := fun j => ?_, mem := fun s cs hs => (by simp [getM] at hs), inj := fun s s' b hs => (by cases hs), boxNew := fun _ _ => rfl, mps := { at' := fun s k e kvs hs => (by simp [getM] at hs), inj := fun s s' b hs => (by cases hs), new := fun _ _ => rfl, lt := fun s b hs => (by cases hs), apart := fun s b hs => (by cases hs) }, tok := fun t ht => (by simp [getT] at ht), tokNew := fun _ _ => rfl,
           below := hb, old := hk, new := hn, live := hl, glob := fun g cs hg => RepCs.keep hkp g 0 cs (hglob.1 g cs hg), ex := hglob.2, fx := fun k hk => (by cases hk), obs := fun p hp => (by cases hp), keeps := fun p hp => (by cases hp) }
  simp only [getS]
  by_cases hj : k = j
  · subst hj; rw [if_pos rfl]; exact hr
  · rw [if_neg hj]; trivial
end Go.Abs
end
section
set_option linter.unusedSimpArgs false
set_option linter.unusedVariables false
set_option linter.unusedSectionVars false
namespace Go.Abs
open Go.RowKit Go.Sort Go.Proofs
theorem ops_nil {F : Fence} {n : Nat} {P : Program} {ops : Array Oper} {Q : Exit → Act → World → Prop} {a : Act} {w : World} (h : Q .normal a w) : wpOpsIn F n P ops Q [] a w := h
theorem run_mv {P : Program} {a : Act} {w : World} {x : Operand} {o : Oper} (ho : o.op = .move x) : (execOp a.eval o).run P w = .ok (.value (a.eval x)) w := by
  unfold execOp; simp [ho]
theorem run_asg {P : Program} {a : Act} {w : World} {x : Operand} {o : Oper} (ho : o.op = .assign x) : (execOp a.eval o).run P w = .ok (.value (a.eval x)) w := by
  unfold execOp; simp [ho]
theorem run_app {P : Program} {a : Act} {w w' : World} {x y : Operand} {t : Nat} {v : Value} {o : Oper} (ho : o.op = .call ⟨.builtin .append, #[x, y], #[t, t]⟩) (h : ∀ ty, (Builtin.append_ #[t, t] ty #[a.eval x, a.eval y]).run P w = .ok v w') : (execOp a.eval o).run P w = .ok (.value v) w' := by
  unfold execOp; simp [ho, resolve, invoke, builtin, h]
theorem run_fn {P : Program} {a : Act} {w : World} {x : Operand} {t : Nat} {f : FuncId} {o : Oper} (hen : Enters P f) (ho : o.op = .call ⟨.value (.func f), #[x], #[t]⟩) : (execOp a.eval o).run P w = .ok (.enter f #[a.eval x]) w := by
  obtain ⟨fn, hfn, hname, hbody⟩ := hen
  have hname' : ¬ fn.name = "runtime.NumGoroutine" := by simpa using hname
  have hbody' : ¬ fn.body = none := by intro e; simp [e] at hbody
  unfold execOp
  simp [ho, resolve, invoke, callFunc, Deferred.ofValue, Act.eval, hfn, hname', hbody']
theorem run_bsl0 {P : Program} {a : Act} {w : World} {t e : TypeId} {ie : TypeInfo} {o : Oper} (hu : P.underlying t = some (.slice e)) (hie : P.info? e = some ie) (ho : o.op = .buildSlice t 0 #[]) : (execOp a.eval o).run P w = .ok (.value (.slice (some ⟨w.heap.size, 0, none⟩) 0 0)) (w.alloc (.cells #[] e)) := by
  unfold execOp
  simp [ho, Instr.buildSlice, run_underlying hu, run_sizeOf hie, Instr.fill, newRow]
  congr 2
  exact Array.ext (by simp) (by simp)
theorem union_ev {P : Program} {G : Nat → Option (List D)} {f fs fc t : Nat} {eb : Nat} {T : Nat → Option Ty} {fn : Func} {cd : Code} (hf : P.funcs[f]? = some fn) (hname : (fn.name == "runtime.NumGoroutine") = false) (hcd : fn.body = some cd)
    (hseg : (segs cd).map (fun l => l.map fun p => p.2.toList.map opc) = some (unionOps t fs fc)) (hnt : fn.ntmps = 15) (hres : fn.results.toList.mapM (trRes T) = some [.t 4]) (hT : ∀ t ty, T t = some ty → chkTy P t ty = true) (ht : chkTy P t (.slice 1 eb) = true) (heb : eb ≤ 16)
    (hes : Enters P fs) (hec : Enters P fc) (hsort : SortLaw P fs) (hcomp : CompactLaw P fc) (sa sb : List (List UInt8)) (hlen : sa.length + sb.length < 4398046511104) :
    Ev P G f [.one (.lst (sa.map fun s => [.str s])), .one (.lst (sb.map fun s => [.str s]))] (.one (.lst ((Lib.compact (sorted (sa ++ sb))).map fun s => [.str s]))) := by
  obtain ⟨e, ie, z, hu, hie, q1, q2, q3, q4, q5⟩ := slice_facts ht
  refine ⟨⟨fn, hf, hname, by simp [hcd]⟩, fun w S cargs hlive hglob hargs => ?_⟩
  obtain ⟨va, r, e1, h1, vb, r2, rfl, h2, e3⟩ := hargs
  simp only [RepCL] at e3
  subst e3
  obtain rfl : cargs = #[va, vb] := by cases cargs; simp_all
  have h1 : Rep w S (.lst (sa.map fun s => [.str s])) va := h1
  have h2 : Rep w S (.lst (sb.map fun s => [.str s])) vb := h2
  have one : ∀ (l : List (List UInt8)), ∀ x ∈ (l.map fun s => [D.str s]), x.length = 1 := fun l x hx => by
    obtain ⟨s, _, rfl⟩ := List.mem_map.1 hx; rfl
  obtain ⟨i0, r0, c0, rfl, hl0, hseg⟩ := segs_map hseg
  obtain ⟨i1, r1, c1, rfl, hl1, hseg⟩ := segs_map hseg
  obtain ⟨i2, r2, c2, rfl, hl2, hseg⟩ := segs_map hseg
  obtain ⟨i3, r3, c3, rfl, hl3, hseg⟩ := segs_map hseg
  obtain rfl := segs_end hseg
  refine callsIn_wide.1 (callsIn_of_wp_marks (n := 0) (R := Gives w S _) hf hcd trivial ?_)
  have hT0 : #[va, vb] ++ Array.replicate (fn.ntmps - #[va, vb].size) undef = #[va, vb, undef, undef, undef, undef, undef, undef, undef, undef, undef, undef, undef, undef, undef] := by rw [hnt]; rfl
  rw [hT0]
  have hF : FW Fence.wide := FW.wide
  refine wpIn_seq (wpIn_ops hl0 ?_)
  show wpOpsIn _ _ _ _ _ [0] _ _
  rw [wpOpsIn_cons]
  refine wpOp_val hF (v := .slice none 0 0) (by rw [hl0]; rfl) (by simp) (fun o ho => run_asg ho) ?_
  refine ops_nil ?_
  show Code.wpIn _ _ _ _ _ ⟨#[va, vb, undef, undef, .slice none 0 0, undef, undef, undef, undef, undef, undef, undef, undef, undef, undef], []⟩ _
  refine wpIn_seq (wpIn_ops hl1 ?_)
  show wpOpsIn _ _ _ _ _ [0, 1, 2, 3, 4, 5] _ _
  simp only [wpOpsIn_cons]
  refine wpOp_val hF (v := (.slice (some ⟨w.heap.size, 0, none⟩) 0 0)) (by rw [hl1]; rfl) (by simp) (fun o ho => run_bsl0 hu hie ho) ?_
  show wpOpIn _ _ _ _ _ _ _ ⟨#[va, vb, undef, undef, .slice none 0 0, undef, (.slice (some ⟨w.heap.size, 0, none⟩) 0 0), undef, undef, undef, undef, undef, undef, undef, undef], []⟩ _
  refine wpOp_val hF (v := va) (by rw [hl1]; rfl) (by simp) (fun o ho => run_mv ho) ?_
  show wpOpIn _ _ _ _ _ _ _ ⟨#[va, vb, undef, undef, .slice none 0 0, undef, (.slice (some ⟨w.heap.size, 0, none⟩) 0 0), va, undef, undef, undef, undef, undef, undef, undef], []⟩ _
  -- what was there is as it was
  have keep : ∀ {w' : World}, Below w.heap.size w w' → Keeps w S w' S := fun hb b o hs => by
    obtain ⟨v, hv⟩ := hlive b o hs
    exact ⟨hs, hb.cell (p := ⟨b, o, none⟩) (cell_lt hv)⟩
  have hb1 : Below w.heap.size w (w.alloc (.cells #[] e)) := (Below.refl _ _).alloc (Nat.le_refl _) _
  have own1 : (w.alloc (.cells #[] e)).ownsRow w.heap.size e 1 (.slice (some ⟨w.heap.size, 0, none⟩) 0 0) ([] : List Value).length [] :=
    ⟨rfl, .inr ⟨w.heap.size, 0, #[], rfl, Nat.le_refl _, heap_alloc_new w _, Nat.le_refl _, by unfold maxLen; omega, rfl, rfl⟩⟩
  obtain ⟨v8, w2, l2, hl2r, hrun2, own2, hg2, hn2⟩ := own_app (ty := t) (eb := eb) hu hie q1 q2 q4 q5 own1 (Rep.keep (keep hb1) _ _ h1) (one sa) (by have := hb1.size; exact this) (by simp only [List.length_nil, List.length_map]; unfold maxLen; omega) (by
    simp only [List.length_nil, List.length_map, Nat.zero_add]
    exact Nat.le_trans (Nat.mul_le_mul (Nat.le_of_lt (by omega : sa.length < 4398046511104)) heb) (by omega))
  obtain ⟨rfl, hsa⟩ := strs_values hl2r
  have hb2 : Below w.heap.size w w2 := hb1.grown hg2 hb1.size (fun k hk => (own1.lt k hk).1)
  obtain ⟨v10, w3, l3, hl3r, hrun3, own3, hg3, hn3⟩ := own_app (ty := t) (eb := eb) hu hie q1 q2 q4 q5 own2 (Rep.keep (keep hb2) _ _ h2) (one sb) hb2.size (by simp only [List.length_nil, List.length_map, List.nil_append]; unfold maxLen; omega) (by
    simp only [List.length_nil, List.length_map, List.nil_append]
    exact Nat.le_trans (Nat.mul_le_mul (Nat.le_of_lt hlen) heb) (by omega))
  obtain ⟨rfl, hsb⟩ := strs_values hl3r
  have hb3 : Below w.heap.size w w3 := hb2.grown hg3 hb2.size (fun k hk => (own2.lt k hk).1)
  simp only [List.nil_append] at own3 hn3 own2
  rw [← List.map_append] at own3
  have hnn : v10 ≠ .slice none 0 0 := fun h => by have := hn2 (hn3 h); cases this
  obtain ⟨g, cap, rfl, hgB, hgw, hgc, hgm, _, hHold⟩ := Lib.holds_of_ownsRow own3 hnn
  have rty : ∀ (v v2 v' : Value) (wa wb : World), (∃ ty, (Builtin.append_ #[t, t] ty #[v, v2]).run P wa = .ok v' wb) → ∀ ty, (Builtin.append_ #[t, t] ty #[v, v2]).run P wa = .ok v' wb := fun v v2 v' wa wb ⟨ty, h⟩ ty' => h
  refine wpOp_val hF (v := v8) (by rw [hl1]; rfl) (by simp) (fun o ho => run_app (x := .tmp 6) (y := .tmp 7) ho (rty _ _ _ _ _ ⟨t, hrun2⟩)) ?_
  show wpOpIn _ _ _ _ _ _ _ ⟨#[va, vb, undef, undef, .slice none 0 0, undef, (.slice (some ⟨w.heap.size, 0, none⟩) 0 0), va, v8, undef, undef, undef, undef, undef, undef], []⟩ _
  refine wpOp_val hF (v := vb) (by rw [hl1]; rfl) (by simp) (fun o ho => run_mv ho) ?_
  show wpOpIn _ _ _ _ _ _ _ ⟨#[va, vb, undef, undef, .slice none 0 0, undef, (.slice (some ⟨w.heap.size, 0, none⟩) 0 0), va, v8, vb, undef, undef, undef, undef, undef], []⟩ _
  refine wpOp_val hF (v := (.slice (some ⟨g, 0, none⟩) (List.map encStr (sa ++ sb)).length cap)) (by rw [hl1]; rfl) (by simp) (fun o ho => run_app (x := .tmp 8) (y := .tmp 9) ho (rty _ _ _ _ _ ⟨t, hrun3⟩)) ?_
  show wpOpIn _ _ _ _ _ _ _ ⟨#[va, vb, undef, undef, .slice none 0 0, undef, (.slice (some ⟨w.heap.size, 0, none⟩) 0 0), va, v8, vb, (.slice (some ⟨g, 0, none⟩) (List.map encStr (sa ++ sb)).length cap), undef, undef, undef, undef], []⟩ _
  refine wpOp_val hF (v := (.slice (some ⟨g, 0, none⟩) (List.map encStr (sa ++ sb)).length cap)) (by rw [hl1]; rfl) (by simp) (fun o ho => run_asg ho) ?_
  refine ops_nil ?_
  show Code.wpIn _ _ _ _ _ ⟨#[va, vb, undef, undef, .slice none 0 0, (.slice (some ⟨g, 0, none⟩) (List.map encStr (sa ++ sb)).length cap), (.slice (some ⟨w.heap.size, 0, none⟩) 0 0), va, v8, vb, (.slice (some ⟨g, 0, none⟩) (List.map encStr (sa ++ sb)).length cap), undef, undef, undef, undef], []⟩ _
  refine wpIn_seq (wpIn_ops hl2 ?_)
  show wpOpsIn _ _ _ _ _ [0, 1] _ _
  simp only [wpOpsIn_cons]
  refine wpOp_val hF (v := (.slice (some ⟨g, 0, none⟩) (List.map encStr (sa ++ sb)).length cap)) (by rw [hl2]; rfl) (by simp) (fun o ho => run_mv ho) ?_
  show wpOpIn _ _ _ _ _ _ _ ⟨#[va, vb, undef, undef, .slice none 0 0, (.slice (some ⟨g, 0, none⟩) (List.map encStr (sa ++ sb)).length cap), (.slice (some ⟨w.heap.size, 0, none⟩) 0 0), va, v8, vb, (.slice (some ⟨g, 0, none⟩) (List.map encStr (sa ++ sb)).length cap), (.slice (some ⟨g, 0, none⟩) (List.map encStr (sa ++ sb)).length cap), undef, undef, undef], []⟩ _
  have hlen3 : (List.map encStr (sa ++ sb)).length = (sa ++ sb).length := by simp
  refine wpOp_call hF (by rw [hl2]; rfl) (by simp) (fun o ho => run_fn hes ho) (R := fun e w' => e = .returned (.tuple #[]) ∧ ∃ n os, w' = grow (putRow encStr (Sort.ahead w3 n) g 0 (sorted (sa ++ sb)).toArray) os) ?_ ?_
  · have := hsort g 0 cap (sa ++ sb) w3 hHold hgw (by rw [List.length_append]; omega)
    rw [← hlen3] at this
    exact this
  rintro e' w4 ⟨rfl, nn, os, rfl⟩
  refine ⟨_, rfl, ?_⟩
  refine ops_nil ?_
  show Code.wpIn _ _ _ _ _ ⟨#[va, vb, undef, undef, .slice none 0 0, (.slice (some ⟨g, 0, none⟩) (List.map encStr (sa ++ sb)).length cap), (.slice (some ⟨w.heap.size, 0, none⟩) 0 0), va, v8, vb, (.slice (some ⟨g, 0, none⟩) (List.map encStr (sa ++ sb)).length cap), (.slice (some ⟨g, 0, none⟩) (List.map encStr (sa ++ sb)).length cap), .tuple #[], undef, undef], []⟩ _
  have hset : (sorted (sa ++ sb)).length = (sa ++ sb).length := by simp
  have hb4 : Below w.heap.size w (grow (putRow encStr (Sort.ahead w3 nn) g 0 (sorted (sa ++ sb)).toArray) os) := hb3.grown (grownBy_sorted _) hb3.size (fun k hk => by cases hk; exact hgB)
  obtain ⟨_, hshape⟩ := own3
  rcases hshape with ⟨h0, _⟩ | ⟨g', cap', cur, hv, _, hcell, hn3', hm3, hs3, ht3⟩
  · exact absurd h0 hnn
  obtain ⟨rfl, rfl⟩ : g = g' ∧ cap = cap' := by cases hv; exact ⟨rfl, rfl⟩
  rw [hlen3] at hn3'
  have own4 := ownsRow_sorted (n := nn) (os := os) hset hgB hcell hn3' hm3 hs3
  rw [← hset] at own4
  obtain ⟨g', cap', hv', _, hg4, _, _, _, hHold4⟩ := Lib.holds_of_ownsRow own4 (by simp)
  obtain ⟨rfl, rfl⟩ : g = g' ∧ cap = cap' := by cases hv'; exact ⟨rfl, rfl⟩
  refine wpIn_seq (wpIn_ops hl3 ?_)
  show wpOpsIn _ _ _ _ _ [0, 1, 2] _ _
  simp only [wpOpsIn_cons]
  refine wpOp_val hF (v := (.slice (some ⟨g, 0, none⟩) (List.map encStr (sa ++ sb)).length cap)) (by rw [hl3]; rfl) (by simp) (fun o ho => run_mv ho) ?_
  show wpOpIn _ _ _ _ _ _ _ ⟨#[va, vb, undef, undef, .slice none 0 0, (.slice (some ⟨g, 0, none⟩) (List.map encStr (sa ++ sb)).length cap), (.slice (some ⟨w.heap.size, 0, none⟩) 0 0), va, v8, vb, (.slice (some ⟨g, 0, none⟩) (List.map encStr (sa ++ sb)).length cap), (.slice (some ⟨g, 0, none⟩) (List.map encStr (sa ++ sb)).length cap), .tuple #[], (.slice (some ⟨g, 0, none⟩) (List.map encStr (sa ++ sb)).length cap), undef], []⟩ _
  refine wpOp_call hF (by rw [hl3]; rfl) (by simp) (fun o ho => run_fn hec ho) (R := fun e w' => e = .returned (.slice (some ⟨g, 0, none⟩) (Lib.compact (sorted (sa ++ sb))).length cap) ∧ ∃ q, w' = putRow encStr (Sort.ahead (grow (putRow encStr (Sort.ahead w3 nn) g 0 (sorted (sa ++ sb)).toArray) os) q) g 0 (Lib.compact (sorted (sa ++ sb)) ++ List.replicate ((sorted (sa ++ sb)).length - (Lib.compact (sorted (sa ++ sb))).length) []).toArray) ?_ ?_
  · show Calls P fc #[.slice (some ⟨g, 0, none⟩) (List.map encStr (sa ++ sb)).length cap] _ _
    rw [← show (sorted (sa ++ sb)).length = (List.map encStr (sa ++ sb)).length from hset.trans hlen3.symm]
    exact hcomp g 0 cap (sorted (sa ++ sb)) _ hHold4 (by rw [hset, List.length_append]; omega) (by rw [hset]; exact hn3')
  rintro e' w5 ⟨rfl, q, rfl⟩
  refine ⟨_, rfl, ?_⟩
  show wpOpIn _ _ _ _ _ _ _ ⟨#[va, vb, undef, undef, .slice none 0 0, (.slice (some ⟨g, 0, none⟩) (List.map encStr (sa ++ sb)).length cap), (.slice (some ⟨w.heap.size, 0, none⟩) 0 0), va, v8, vb, (.slice (some ⟨g, 0, none⟩) (List.map encStr (sa ++ sb)).length cap), (.slice (some ⟨g, 0, none⟩) (List.map encStr (sa ++ sb)).length cap), .tuple #[], (.slice (some ⟨g, 0, none⟩) (List.map encStr (sa ++ sb)).length cap), (.slice (some ⟨g, 0, none⟩) (Lib.compact (sorted (sa ++ sb))).length cap)], []⟩ _
  refine wpOp_val hF (v := (.slice (some ⟨g, 0, none⟩) (Lib.compact (sorted (sa ++ sb))).length cap)) (by rw [hl3]; rfl) (by simp) (fun o ho => run_asg ho) ?_
  refine ops_nil ?_
  show Code.wpIn _ _ _ _ _ ⟨#[va, vb, undef, undef, (.slice (some ⟨g, 0, none⟩) (Lib.compact (sorted (sa ++ sb))).length cap), (.slice (some ⟨g, 0, none⟩) (List.map encStr (sa ++ sb)).length cap), (.slice (some ⟨w.heap.size, 0, none⟩) 0 0), va, v8, vb, (.slice (some ⟨g, 0, none⟩) (List.map encStr (sa ++ sb)).length cap), (.slice (some ⟨g, 0, none⟩) (List.map encStr (sa ++ sb)).length cap), .tuple #[], (.slice (some ⟨g, 0, none⟩) (List.map encStr (sa ++ sb)).length cap), (.slice (some ⟨g, 0, none⟩) (Lib.compact (sorted (sa ++ sb))).length cap)], []⟩ _
  refine wpIn_ret ?_
  have hcl : (Lib.compact (sorted (sa ++ sb))).length ≤ (sorted (sa ++ sb)).length := Lib.compact_length_le _
  have hb5 := Lib.below_putRow (enc := encStr) (q := q) (d := (Lib.compact (sorted (sa ++ sb)) ++ List.replicate ((sorted (sa ++ sb)).length - (Lib.compact (sorted (sa ++ sb))).length) []).toArray) hb4 hgB
  have own5 := Lib.ownsRow_putRow (q := q) (ys := Lib.compact (sorted (sa ++ sb)) ++ List.replicate ((sorted (sa ++ sb)).length - (Lib.compact (sorted (sa ++ sb))).length) []) own4 (by rw [List.length_append, List.length_replicate]; omega) hcl
  rw [List.take_left' rfl] at own5
  generalize hW : putRow encStr (Sort.ahead (grow (putRow encStr (Sort.ahead w3 nn) g 0 (sorted (sa ++ sb)).toArray) os) q) g 0 (Lib.compact (sorted (sa ++ sb)) ++ List.replicate ((sorted (sa ++ sb)).length - (Lib.compact (sorted (sa ++ sb))).length) []).toArray = w5 at *
  have hcells := own5.cells (g := g) rfl
  have hsm : ∀ s ∈ Lib.compact (sorted (sa ++ sb)), s.length ≤ 9223372036854775807 := fun s hs => by
    have := List.mem_mergeSort.1 (compact_mem hs)
    rcases List.mem_append.1 this with h | h
    · exact hsa s h
    · exact hsb s h
  have hrep : Rep w5 (fun b o => S b o ∨ (b = g ∧ o < (Lib.compact (sorted (sa ++ sb))).length)) (.lst ((Lib.compact (sorted (sa ++ sb))).map fun s => [.str s])) (.slice (some ⟨g, 0, none⟩) (Lib.compact (sorted (sa ++ sb))).length cap) := by
    have := rep_lst_row (cap := cap) (b := g) (one (Lib.compact (sorted (sa ++ sb)))) (w := w5) (S := fun b o => S b o ∨ (b = g ∧ o < (Lib.compact (sorted (sa ++ sb))).length)) (values_strs hsm) (fun j v hj => ?_) (by rw [List.length_map]; exact Nat.le_trans hcl (by rw [hset]; exact hn3')) hm3
    · rw [List.length_map] at this; exact this
    · have hlt := (List.getElem?_eq_some_iff.1 hj).1
      have := hcells j v hj
      rw [addr_add, Nat.zero_add] at this
      exact ⟨this, .inr ⟨rfl, by simpa using hlt⟩⟩
  refine body_end (G := G) hT hres (Ext.refl _) (last_sim (k := 4) hglob hlive rfl hb5 (fun _ _ hs => .inl hs) (fun b o hs => ?_) (fun b o hs => ?_) hrep) ?_
  · rcases hs with hs | ⟨rfl, _⟩
    · exact .inl hs
    · exact .inr hgB
  · rcases hs with hs | ⟨rfl, ho⟩
    · obtain ⟨v, hv⟩ := hlive b o hs
      exact ⟨v, (hb5.cell (p := ⟨b, o, none⟩) (cell_lt hv)).trans hv⟩
    · have := hcells o (encStr ((Lib.compact (sorted (sa ++ sb)))[o])) (by rw [List.getElem?_map, List.getElem?_eq_getElem ho]; rfl)
      rw [addr_add, Nat.zero_add] at this
      exact ⟨_, this⟩
  · rfl
end Go.Abs
end
section
set_option linter.unusedSimpArgs false
set_option linter.unusedVariables false
set_option linter.unusedSectionVars false
namespace Go.Abs
/-! ## predicates that are put together: the reference -/
theorem falseP_cells : Pred.cells falseP = [.int .i64 2, .str [], .int .i64 0, .lst []] := by rw [Pred.cells_eq]; rfl
theorem trueP_cells : Pred.cells trueP = [.int .i64 2, .str [], .int .i64 1, .lst []] := by rw [Pred.cells_eq]; rfl
theorem zeroP_cells : Pred.cells zeroP = [.int .i64 0, .str [], .int .i64 0, .lst []] := by rw [Pred.cells_eq]; rfl
theorem void_false : voidP falseP = false := by decide +kernel
theorem isFalse_eq (p : Pred) : isFalse p = p.same falseP := by
  unfold isFalse
  cases h : p.same falseP with
  | false => simp
  | true => rw [(Pred.same_iff _ _).1 h, void_false]; rfl
theorem void_and (a b : Pred) : voidP (.mk 15 [] 0 [a, b]) = false := by
  unfold voidP zeroP trueP
  rw [Pred.same_eq, Pred.same_eq]; simp
theorem andGo_void (l : List Pred) : voidP (andGo l).1 = !(andGo l).2 := by
  have key : ∀ (l : List Pred) (x : Pred × Bool), voidP x.1 = !x.2 → voidP (l.foldl andStp x).1 = !(l.foldl andStp x).2 := by
    intro l
    induction l with
    | nil => intro x h; exact h
    | cons p l ih =>
      intro x h
      rw [List.foldl_cons]
      refine ih _ ?_
      unfold andStp
      split
      · exact h
      · rename_i hv
        split
        · exact void_and _ _
        · simpa using hv
  exact key l (trueP, false) (by decide +kernel)
/-- variables replaced at once -/
def subAll (names : List Str) (by' : List Pred) : Pred → Pred
  | .mk o s n ks => if o == 3 && (decide (findIx s 0 names ≥ 0) && decide (findIx s 0 names < by'.length)) then by'.getD (findIx s 0 names).toNat zeroP else .mk o s n (subs ks)
where
  subs : List Pred → List Pred
  | [] => []
  | k :: ks => subAll names by' k :: subs ks
theorem subAll_eq (names : List Str) (by' : List Pred) (o : Int) (s : Str) (n : Int) (ks : List Pred) : subAll names by' (.mk o s n ks) =
    if o == 3 && (decide (findIx s 0 names ≥ 0) && decide (findIx s 0 names < by'.length)) then by'.getD (findIx s 0 names).toNat zeroP else .mk o s n (ks.map (subAll names by')) := by
  rw [subAll]
  have : subAll.subs names by' ks = ks.map (subAll names by') := by
    induction ks with
    | nil => rfl
    | cons k ks ih => rw [subAll.subs, ih]; rfl
  rw [this]
def tcell (s : Str) : List D := [.str s]
theorem getD_mapP (l : List Pred) (i : Nat) (h : i < l.length) : (l.map Pred.cells).getD i [] = Pred.cells (l.getD i zeroP) := by
  simp [List.getD_eq_getElem?_getD, h]
theorem drop_cells (p : Pred) : List.drop 4 (p.cells.map AV.d) = [] := List.drop_eq_nil_of_le (by simp [Pred.cells_length])
set_option maxRecDepth 100000
variable {E : AEnv} (Z : Sys E)
include Z
theorem r07_True_ev : E.C r07_True [] (.agg (Pred.cells trueP)) := by
  refine Z.r07_True _ _ ⟨Nat.le_of_ble_eq_true rfl, ?_⟩
  rw [trueP_cells]
  simp only [fn_r07_True, go_sem, Nat.reduceEqDiff, reduceCtorEq, Nat.reduceAdd, Nat.reduceLeDiff, Nat.reduceMul, Nat.reduceLT, Int.reduceToNat, Int.reduceLT, Int.reduceLE, Int.reduceEq, Nat.reduceSub]
theorem r07_False_ev : E.C r07_False [] (.agg (Pred.cells falseP)) := by
  refine Z.r07_False _ _ ⟨Nat.le_of_ble_eq_true rfl, ?_⟩
  rw [falseP_cells]
  simp only [fn_r07_False, go_sem, Nat.reduceEqDiff, reduceCtorEq, Nat.reduceAdd, Nat.reduceLeDiff, Nat.reduceMul, Nat.reduceLT, Int.reduceToNat, Int.reduceLT, Int.reduceLE, Int.reduceEq, Nat.reduceSub]
theorem r07_Void_ev (p : Pred) : E.C r07_Void [.agg (Pred.cells p)] (.one (.bool (voidP p))) := by
  have h0 := r07_Same_ev Z p zeroP
  have h1 := r07_Same_ev Z p trueP
  have h2 := r07_True_ev Z
  refine Z.r07_Void _ _ ⟨Nat.le_of_ble_eq_true rfl, ?_⟩
  generalize hR : voidP p = R
  unfold voidP at hR
  rw [Bool.or_comm] at hR
  rw [zeroP_cells] at h0
  rw [trueP_cells] at h1 h2
  rw [Pred.cells_eq p] at *
  simp only [fn_r07_Void, go_sem, Nat.reduceEqDiff, reduceCtorEq, Nat.reduceAdd, Nat.reduceLeDiff, Nat.reduceMul, Nat.reduceLT, Int.reduceToNat, Int.reduceLT, Int.reduceLE, Int.reduceEq, Nat.reduceSub]
  refine call_by h2 ?_
  simp only [go_sem, Nat.reduceEqDiff, reduceCtorEq, Nat.reduceAdd, Nat.reduceLeDiff, Nat.reduceMul, Nat.reduceLT, Int.reduceToNat, Int.reduceLT, Int.reduceLE, Int.reduceEq, Nat.reduceSub]
  refine call_by h1 ?_
  simp only [go_sem, Nat.reduceEqDiff, reduceCtorEq, Nat.reduceAdd, Nat.reduceLeDiff, Nat.reduceMul, Nat.reduceLT, Int.reduceToNat, Int.reduceLT, Int.reduceLE, Int.reduceEq, Nat.reduceSub]
  refine call_gi (fun _ => h0) ?_
  simp only [go_sem, Nat.reduceEqDiff, reduceCtorEq, Nat.reduceAdd, Nat.reduceLeDiff, Nat.reduceMul, Nat.reduceLT, Int.reduceToNat, Int.reduceLT, Int.reduceLE, Int.reduceEq, Nat.reduceSub, hR]
theorem r07_Not_ev (p : Pred) : E.C r07_Not [.agg (Pred.cells p)] (.agg (Pred.cells (notP p))) := by
  have h0 := r07_Void_ev Z p
  have h1 := r07_True_ev Z
  have h2 := r07_False_ev Z
  have h3 := r07_Same_ev Z p falseP
  refine Z.r07_Not _ _ ⟨Nat.le_of_ble_eq_true rfl, ?_⟩
  generalize hR : notP p = R
  unfold notP at hR
  obtain ⟨o, s, n, ks⟩ := p
  rw [Pred.cells_eq (.mk o s n ks)] at *
  rw [trueP_cells] at h1
  rw [falseP_cells] at h2 h3
  simp only [fn_r07_Not, go_sem, Nat.reduceEqDiff, reduceCtorEq, Nat.reduceAdd, Nat.reduceLeDiff, Nat.reduceMul, Nat.reduceLT, Int.reduceToNat, Int.reduceLT, Int.reduceLE, Int.reduceEq, Nat.reduceSub, Pred.op, Pred.name, Pred.n, Pred.kids] at hR h0 h3 ⊢
  intro hlen
  cases c1 : (o == 14 && (ks.length : Int) == 1) with
  | true =>
    simp only [c1, go_sem, Nat.reduceEqDiff, reduceCtorEq, Nat.reduceAdd, Nat.reduceLeDiff, Nat.reduceMul, Nat.reduceLT, Int.reduceToNat, Int.reduceLT, Int.reduceLE, Int.reduceEq, Nat.reduceSub] at hR ⊢
    obtain ⟨k, rfl⟩ : ∃ k, ks = [k] := one_split (by simp at c1; omega)
    subst hR
    simp only [go_sem, Nat.reduceEqDiff, reduceCtorEq, Nat.reduceAdd, Nat.reduceLeDiff, Nat.reduceMul, Nat.reduceLT, Int.reduceToNat, Int.reduceLT, Int.reduceLE, Int.reduceEq, Nat.reduceSub, Pred.cells_eq k]
  | false =>
  simp only [c1, go_sem, Nat.reduceEqDiff, reduceCtorEq, Nat.reduceAdd, Nat.reduceLeDiff, Nat.reduceMul, Nat.reduceLT, Int.reduceToNat, Int.reduceLT, Int.reduceLE, Int.reduceEq, Nat.reduceSub] at hR ⊢
  refine call_by h0 ?_
  cases c2 : voidP (.mk o s n ks) with
  | true =>
    simp only [c2, go_sem, Nat.reduceEqDiff, reduceCtorEq, Nat.reduceAdd, Nat.reduceLeDiff, Nat.reduceMul, Nat.reduceLT, Int.reduceToNat, Int.reduceLT, Int.reduceLE, Int.reduceEq, Nat.reduceSub] at hR ⊢
    refine call_by h2 ?_
    subst hR
    simp only [go_sem, Nat.reduceEqDiff, reduceCtorEq, Nat.reduceAdd, Nat.reduceLeDiff, Nat.reduceMul, Nat.reduceLT, Int.reduceToNat, Int.reduceLT, Int.reduceLE, Int.reduceEq, Nat.reduceSub, falseP_cells]
  | false =>
  simp only [c2, go_sem, Nat.reduceEqDiff, reduceCtorEq, Nat.reduceAdd, Nat.reduceLeDiff, Nat.reduceMul, Nat.reduceLT, Int.reduceToNat, Int.reduceLT, Int.reduceLE, Int.reduceEq, Nat.reduceSub] at hR ⊢
  refine call_by h2 ?_
  simp only [go_sem, Nat.reduceEqDiff, reduceCtorEq, Nat.reduceAdd, Nat.reduceLeDiff, Nat.reduceMul, Nat.reduceLT, Int.reduceToNat, Int.reduceLT, Int.reduceLE, Int.reduceEq, Nat.reduceSub]
  refine call_by h3 ?_
  cases c3 : (Pred.mk o s n ks).same falseP with
  | true =>
    simp only [c3, go_sem, Nat.reduceEqDiff, reduceCtorEq, Nat.reduceAdd, Nat.reduceLeDiff, Nat.reduceMul, Nat.reduceLT, Int.reduceToNat, Int.reduceLT, Int.reduceLE, Int.reduceEq, Nat.reduceSub] at hR ⊢
    refine call_by h1 ?_
    subst hR
    simp only [go_sem, Nat.reduceEqDiff, reduceCtorEq, Nat.reduceAdd, Nat.reduceLeDiff, Nat.reduceMul, Nat.reduceLT, Int.reduceToNat, Int.reduceLT, Int.reduceLE, Int.reduceEq, Nat.reduceSub, trueP_cells]
  | false =>
    simp only [c3, go_sem, Nat.reduceEqDiff, reduceCtorEq, Nat.reduceAdd, Nat.reduceLeDiff, Nat.reduceMul, Nat.reduceLT, Int.reduceToNat, Int.reduceLT, Int.reduceLE, Int.reduceEq, Nat.reduceSub] at hR ⊢
    subst hR
    rw [Pred.cells_eq (.mk 14 [] 0 [.mk o s n ks])]
    simp only [go_sem, Nat.reduceEqDiff, reduceCtorEq, Nat.reduceAdd, Nat.reduceLeDiff, Nat.reduceMul, Nat.reduceLT, Int.reduceToNat, Int.reduceLT, Int.reduceLE, Int.reduceEq, Nat.reduceSub, Pred.op, Pred.name, Pred.n, Pred.kids, Pred.cells_eq (.mk o s n ks)]
theorem r07_And_ev (l : List Pred) : E.C r07_And [.one (.lst (l.map Pred.cells))] (.agg (andP l).cells) := by
  have hv := r07_Void_ev Z
  have hs := r07_Same_ev Z
  have ht := r07_True_ev Z
  have hf := r07_False_ev Z
  refine Z.r07_And _ _ ⟨Nat.le_of_ble_eq_true rfl, ?_⟩
  generalize hR : andP l = R
  unfold andP at hR
  simp only [fn_r07_And, go_sem, Nat.reduceEqDiff, reduceCtorEq, Nat.reduceAdd, Nat.reduceLeDiff, Nat.reduceMul, Nat.reduceLT, Int.reduceToNat, Int.reduceLT, Int.reduceLE, Int.reduceEq, Nat.reduceSub]
  refine call_by ht ?_
  simp only [go_sem, Nat.reduceEqDiff, reduceCtorEq, Nat.reduceAdd, Nat.reduceLeDiff, Nat.reduceMul, Nat.reduceLT, Int.reduceToNat, Int.reduceLT, Int.reduceLE, Int.reduceEq, Nat.reduceSub]
  intro hlen
  refine loop_named fun K' hK => ?_
  refine loop_list l (fun done => ∀ y ∈ done, isFalse y = false) (fun done rest => ⟨[(9, .d (.int .i64 done.length)), (8, .d (.int .i64 l.length)), (7, .d (.lst (l.map Pred.cells))), (3, .ptr 3 0), (2, .ptr 2 0)], [(3, (Pred.cells (andGo done).1).map .d), (2, [.d (.int .i64 0), .d (.str []), .d (.int .i64 0), .full []])], []⟩) ?_ (by simp) ?_ ?_
  · exact Ent_plain (by simp only [go_sem, Nat.reduceEqDiff, reduceCtorEq, Nat.reduceAdd, Nat.reduceLeDiff, Nat.reduceMul, Nat.reduceLT, Int.reduceToNat, Int.reduceLT, Int.reduceLE, Int.reduceEq, Nat.reduceSub, Option.isSome_some, andGo, List.foldl_nil])
  · intro done k r hl hI
    have hlt := lt_mid hl
    have hw : IntKind.i64.wrap ((done.length : Int) + 1) = ((done.length + 1 : Nat) : Int) := wrap_succ (by omega)
    rw [any_mid hl hI] at hR
    have hgv := andGo_void done
    have hgs : andGo (done ++ [k]) = andStp (andGo done) k := andGo_app done k
    simp only [fn_r07_And_L1, go_sem, Nat.reduceEqDiff, reduceCtorEq, Nat.reduceAdd, Nat.reduceLeDiff, Nat.reduceMul, Nat.reduceLT, Int.reduceToNat, Int.reduceLT, Int.reduceLE, Int.reduceEq, Nat.reduceSub, hlt, getD_midP hl]
    refine call_by hf ?_
    simp only [go_sem, Nat.reduceEqDiff, reduceCtorEq, Nat.reduceAdd, Nat.reduceLeDiff, Nat.reduceMul, Nat.reduceLT, Int.reduceToNat, Int.reduceLT, Int.reduceLE, Int.reduceEq, Nat.reduceSub]
    refine call_by (hs k falseP) ?_
    cases c0 : k.same falseP with
    | true =>
      simp only [isFalse_eq, c0, go_sem, Nat.reduceEqDiff, reduceCtorEq, Nat.reduceAdd, Nat.reduceLeDiff, Nat.reduceMul, Nat.reduceLT, Int.reduceToNat, Int.reduceLT, Int.reduceLE, Int.reduceEq, Nat.reduceSub] at hR ⊢
      refine call_by hf ?_
      simp only [go_sem, Nat.reduceEqDiff, reduceCtorEq, Nat.reduceAdd, Nat.reduceLeDiff, Nat.reduceMul, Nat.reduceLT, Int.reduceToNat, Int.reduceLT, Int.reduceLE, Int.reduceEq, Nat.reduceSub, hK, ← hR]
    | false =>
    have hIk : isFalse k = false := by rw [isFalse_eq]; exact c0
    simp only [go_sem, Nat.reduceEqDiff, reduceCtorEq, Nat.reduceAdd, Nat.reduceLeDiff, Nat.reduceMul, Nat.reduceLT, Int.reduceToNat, Int.reduceLT, Int.reduceLE, Int.reduceEq, Nat.reduceSub]
    refine call_by (hv k) ?_
    cases c1 : voidP k with
    | true =>
      have he : andGo (done ++ [k]) = andGo done := by rw [hgs, andStp, c1]; rfl
      simp only [go_sem, Nat.reduceEqDiff, reduceCtorEq, Nat.reduceAdd, Nat.reduceLeDiff, Nat.reduceMul, Nat.reduceLT, Int.reduceToNat, Int.reduceLT, Int.reduceLE, Int.reduceEq, Nat.reduceSub, hw, List.length_append, he]
      exact ⟨Ent_plain (by simp only [go_sem, Nat.reduceEqDiff, reduceCtorEq, Nat.reduceAdd, Nat.reduceLeDiff, Nat.reduceMul, Nat.reduceLT, Int.reduceToNat, Int.reduceLT, Int.reduceLE, Int.reduceEq, Nat.reduceSub, Option.isSome_some]), app_all hI hIk⟩
    | false =>
    simp only [go_sem, Nat.reduceEqDiff, reduceCtorEq, Nat.reduceAdd, Nat.reduceLeDiff, Nat.reduceMul, Nat.reduceLT, Int.reduceToNat, Int.reduceLT, Int.reduceLE, Int.reduceEq, Nat.reduceSub]
    refine call_by (hv (andGo done).1) ?_
    rw [hgv]
    cases c2 : (andGo done).2 with
    | false =>
      have he : andGo (done ++ [k]) = (k, true) := by rw [hgs, andStp, c1, c2]; rfl
      simp only [go_sem, Nat.reduceEqDiff, reduceCtorEq, Nat.reduceAdd, Nat.reduceLeDiff, Nat.reduceMul, Nat.reduceLT, Int.reduceToNat, Int.reduceLT, Int.reduceLE, Int.reduceEq, Nat.reduceSub, hw, List.length_append, he, List.length_map, drop_cells]
      exact ⟨Ent_plain (by simp only [go_sem, Nat.reduceEqDiff, reduceCtorEq, Nat.reduceAdd, Nat.reduceLeDiff, Nat.reduceMul, Nat.reduceLT, Int.reduceToNat, Int.reduceLT, Int.reduceLE, Int.reduceEq, Nat.reduceSub, Option.isSome_some]), app_all hI hIk⟩
    | true =>
      have he : andGo (done ++ [k]) = (.mk 15 [] 0 [(andGo done).1, k], true) := by rw [hgs, andStp, c1, c2]; rfl
      simp only [go_sem, Nat.reduceEqDiff, reduceCtorEq, Nat.reduceAdd, Nat.reduceLeDiff, Nat.reduceMul, Nat.reduceLT, Int.reduceToNat, Int.reduceLT, Int.reduceLE, Int.reduceEq, Nat.reduceSub, hw, List.length_append, he, drop_cells]
      exact ⟨Ent_plain (by simp only [go_sem, Nat.reduceEqDiff, reduceCtorEq, Nat.reduceAdd, Nat.reduceLeDiff, Nat.reduceMul, Nat.reduceLT, Int.reduceToNat, Int.reduceLT, Int.reduceLE, Int.reduceEq, Nat.reduceSub, Option.isSome_some, Pred.cells_eq (.mk 15 [] 0 [(andGo done).1, k]), Pred.op, Pred.name, Pred.n, Pred.kids]), app_all hI hIk⟩
  · intro hI
    rw [any_none hI] at hR
    simp only [fn_r07_And_L1, go_sem, Nat.reduceEqDiff, reduceCtorEq, Nat.reduceAdd, Nat.reduceLeDiff, Nat.reduceMul, Nat.reduceLT, Int.reduceToNat, Int.reduceLT, Int.reduceLE, Int.reduceEq, Nat.reduceSub, hK] at hR ⊢
    simp only [hR]
theorem r07_with_ev (o : Int) (s : Str) (n : Int) (ks l : List Pred) : E.C r07_with [.agg (Pred.cells (.mk o s n ks)), .one (.lst (l.map Pred.cells))] (.agg (Pred.cells (.mk o s n l))) := by
  refine Z.r07_with _ _ ⟨Nat.le_of_ble_eq_true rfl, ?_⟩
  rw [Pred.cells_eq, Pred.cells_eq]
  simp only [fn_r07_with, go_sem, Nat.reduceEqDiff, reduceCtorEq, Nat.reduceAdd, Nat.reduceLeDiff, Nat.reduceMul, Nat.reduceLT, Int.reduceToNat, Int.reduceLT, Int.reduceLE, Int.reduceEq, Nat.reduceSub, Pred.op, Pred.name, Pred.n, Pred.kids]
theorem r07_SubstAll_ev (names : List Str) (by' : List Pred) (p : Pred) (hp : Tame p) : E.C r07_SubstAll [.agg p.cells, .one (.lst (names.map fun k => [.str k])), .one (.lst (by'.map Pred.cells))] (.agg (subAll names by' p).cells) := by
  induction p using Pred.ind with
  | h o s n ks ih =>
  have hk : Small ks.length := hp.top
  unfold Small at hk
  have hfind := r04_Find_ev Z names s
  have hwith := r07_with_ev Z o s n ks (ks.map (subAll names by'))
  refine Z.r07_SubstAll _ _ ⟨Nat.le_of_ble_eq_true rfl, ?_⟩
  generalize hR : subAll names by' (.mk o s n ks) = R
  rw [subAll_eq] at hR
  generalize findIx s 0 names = ix at *
  rw [Pred.cells_eq (.mk o s n ks)] at *
  have hrs : fn_r07_SubstAll.rs = [.c 6 true 4] := rfl
  have tail : ∀ (st : St), (o == 3 && (decide (ix ≥ 0) && decide (ix < by'.length))) = false → getS st.slots 3 = .ptr 3 0 → getS st.slots 6 = .ptr 6 0 → getS st.slots 1 = .d (.lst (names.map fun k => [.str k])) → getS st.slots 2 = .d (.lst (by'.map Pred.cells)) → st.mem = [(6, [.d (.int .i64 0), .d (.str []), .d (.int .i64 0), .full []]), (3, [.d (.int .i64 o), .d (.str s), .d (.int .i64 n), .d (.lst (ks.map Pred.cells))])] → st.tk = [] →
      ∀ N, N = awp E (.seq (.reg [(none, .mv 8 (.c (.full [])))]) (.seq (.seq (.reg [(none, .fa 30 3 (.t 3)), (none, .ld 31 false 1 (.t 30)), (none, .len 32 false (.t 31)), (none, .mv 33 (.c (.d (.int .i64 0))))]) (.block 0 (.loop fn_r07_SubstAll_L1))) (.seq (.reg [(none, .ld 45 true 4 (.t 3)), (none, .mv 46 (.t 8)), (none, .call (some 47) (.c (.d (.clo r07_with []))) [.t 45, .t 46]), (none, .st 4 (.t 6) (.t 47))]) (.ret)))) (retK fn_r07_SubstAll.rs (.agg (Pred.cells R))) → N st := by
    intro st hc e3 e6 e1 e2 em et N hN
    rw [hc] at hR
    obtain ⟨sl, mm, tk⟩ := st
    simp only at e3 e6 e1 e2 em et
    subst em; subst et
    rw [hN]
    simp only [go_sem, Nat.reduceEqDiff, reduceCtorEq, Nat.reduceAdd, Nat.reduceLeDiff, Nat.reduceMul, Nat.reduceLT, Int.reduceToNat, Int.reduceLT, Int.reduceLE, Int.reduceEq, Nat.reduceSub, e3, e6, e1, e2]
    intro hlen
    refine loop_named fun K' hK => ?_
    refine loop_list ks (fun _ => True) (fun done rest => ⟨[(33, .d (.int .i64 done.length)), (32, .d (.int .i64 ks.length)), (31, .d (.lst (ks.map Pred.cells))), (8, .own 8 4 ((done.map (subAll names by')).map Pred.cells)), (1, .d (.lst (names.map fun k => [.str k]))), (2, .d (.lst (by'.map Pred.cells))), (3, .ptr 3 0), (6, .ptr 6 0)], [(6, [.d (.int .i64 0), .d (.str []), .d (.int .i64 0), .full []]), (3, [.d (.int .i64 o), .d (.str s), .d (.int .i64 n), .d (.lst (ks.map Pred.cells))])], [(8, true)]⟩) ?_ trivial ?_ ?_
    · exact Ent_conv 8 8 4 [] [(8, 8)] rfl (by simp) rfl (by simp only [Ent0, go_sem, Nat.reduceEqDiff, reduceCtorEq, Nat.reduceAdd, Nat.reduceLeDiff, Nat.reduceMul, Nat.reduceLT, Int.reduceToNat, Int.reduceLT, Int.reduceLE, Int.reduceEq, Nat.reduceSub, List.contains_nil, Option.isSome_some, e3, e6, e1, e2])
    · intro done k r hl _
      have hk' := ih k (by rw [hl]; simp) (hp.kid (by rw [hl]; simp))
      have hlt := lt_mid hl
      have hw : IntKind.i64.wrap ((done.length : Int) + 1) = ((done.length + 1 : Nat) : Int) := wrap_succ (by omega)
      have ha1 : (done.length + 1) * 56 ≤ 2 ^ 46 := by omega
      simp only [fn_r07_SubstAll_L1, go_sem, Nat.reduceEqDiff, reduceCtorEq, Nat.reduceAdd, Nat.reduceLeDiff, Nat.reduceMul, Nat.reduceLT, Int.reduceToNat, Int.reduceLT, Int.reduceLE, Int.reduceEq, Nat.reduceSub, hlt, getD_midP hl]
      refine call_by hk' ?_
      simp only [go_sem, Nat.reduceEqDiff, reduceCtorEq, Nat.reduceAdd, Nat.reduceLeDiff, Nat.reduceMul, Nat.reduceLT, Int.reduceToNat, Int.reduceLT, Int.reduceLE, Int.reduceEq, Nat.reduceSub, hw, List.length_append, List.length_map, List.map_append, Pred.lens_true]
      refine ⟨⟨by simp [Pred.cells_length], ha1, by omega⟩, Ent_own [(8, 43)] ?_⟩
      simp only [go_sem, Nat.reduceEqDiff, reduceCtorEq, Nat.reduceAdd, Nat.reduceLeDiff, Nat.reduceMul, Nat.reduceLT, Int.reduceToNat, Int.reduceLT, Int.reduceLE, Int.reduceEq, Nat.reduceSub, List.contains_nil, Option.isSome_some]
    · intro _
      simp only [fn_r07_SubstAll_L1, go_sem, Nat.reduceEqDiff, reduceCtorEq, Nat.reduceAdd, Nat.reduceLeDiff, Nat.reduceMul, Nat.reduceLT, Int.reduceToNat, Int.reduceLT, Int.reduceLE, Int.reduceEq, Nat.reduceSub, hK, Pred.op, Pred.name, Pred.n, Pred.kids] at hwith hR ⊢
      refine call_by hwith ?_
      simp only [go_sem, Nat.reduceEqDiff, reduceCtorEq, Nat.reduceAdd, Nat.reduceLeDiff, Nat.reduceMul, Nat.reduceLT, Int.reduceToNat, Int.reduceLT, Int.reduceLE, Int.reduceEq, Nat.reduceSub, hrs, ← hR]
  refine seq_named fun N0 h0 => ?_
  simp only [go_sem, Nat.reduceEqDiff, reduceCtorEq, Nat.reduceAdd, Nat.reduceLeDiff, Nat.reduceMul, Nat.reduceLT, Int.reduceToNat, Int.reduceLT, Int.reduceLE, Int.reduceEq, Nat.reduceSub, Pred.op, Pred.name, Pred.n, Pred.kids]
  rw [h0]
  refine seq_named fun N1 h1 => ?_
  cases c3 : (o == 3) with
  | false =>
    simp only [go_sem, Nat.reduceEqDiff, reduceCtorEq, Nat.reduceAdd, Nat.reduceLeDiff, Nat.reduceMul, Nat.reduceLT, Int.reduceToNat, Int.reduceLT, Int.reduceLE, Int.reduceEq, Nat.reduceSub, c3]
    exact tail _ (by rw [c3]; rfl) rfl rfl rfl rfl rfl rfl N1 h1
  | true =>
    simp only [go_sem, Nat.reduceEqDiff, reduceCtorEq, Nat.reduceAdd, Nat.reduceLeDiff, Nat.reduceMul, Nat.reduceLT, Int.reduceToNat, Int.reduceLT, Int.reduceLE, Int.reduceEq, Nat.reduceSub, c3]
    refine call_by hfind ?_
    simp only [go_sem, Nat.reduceEqDiff, reduceCtorEq, Nat.reduceAdd, Nat.reduceLeDiff, Nat.reduceMul, Nat.reduceLT, Int.reduceToNat, Int.reduceLT, Int.reduceLE, Int.reduceEq, Nat.reduceSub]
    intro _
    cases c4 : (decide (ix ≥ 0) && decide (ix < by'.length)) with
    | false =>
      simp only [go_sem, Nat.reduceEqDiff, reduceCtorEq, Nat.reduceAdd, Nat.reduceLeDiff, Nat.reduceMul, Nat.reduceLT, Int.reduceToNat, Int.reduceLT, Int.reduceLE, Int.reduceEq, Nat.reduceSub]
      exact tail _ (by rw [c3, c4]; rfl) rfl rfl rfl rfl rfl rfl N1 h1
    | true =>
      simp only [c3, c4, go_sem, Nat.reduceEqDiff, reduceCtorEq, Nat.reduceAdd, Nat.reduceLeDiff, Nat.reduceMul, Nat.reduceLT, Int.reduceToNat, Int.reduceLT, Int.reduceLE, Int.reduceEq, Nat.reduceSub] at hR ⊢
      simp only [Bool.and_eq_true, decide_eq_true_eq] at c4
      have hlt : ix.toNat < by'.length := by omega
      have hge : (0 ≤ ix) = True := eq_true (by omega)
      have hlt' : (ix < (by'.length : Int)) = True := eq_true c4.2
      simp only [hge, hlt', getD_mapP _ _ hlt, go_sem, Nat.reduceEqDiff, reduceCtorEq, Nat.reduceAdd, Nat.reduceLeDiff, Nat.reduceMul, Nat.reduceLT, Int.reduceToNat, Int.reduceLT, Int.reduceLE, Int.reduceEq, Nat.reduceSub, hrs, hR]
theorem r07_Subst_ev (s : Str) (by' p : Pred) (hp : Tame p) : E.C r07_Subst [.agg p.cells, .one (.str s), .agg by'.cells] (.agg (subAll [s] [by'] p).cells) := by
  have h := r07_SubstAll_ev Z [s] [by'] p hp
  refine Z.r07_Subst _ _ ⟨Nat.le_of_ble_eq_true rfl, ?_⟩
  generalize subAll [s] [by'] p = R at *
  rw [Pred.cells_eq p, Pred.cells_eq by', Pred.cells_eq R] at *
  simp only [List.map_cons, List.map_nil, Pred.cells_eq by'] at h
  simp only [fn_r07_Subst, go_sem, Nat.reduceEqDiff, reduceCtorEq, Nat.reduceAdd, Nat.reduceLeDiff, Nat.reduceMul, Nat.reduceLT, Int.reduceToNat, Int.reduceLT, Int.reduceLE, Int.reduceEq, Nat.reduceSub]
  refine call_by h ?_
  simp only [go_sem, Nat.reduceEqDiff, reduceCtorEq, Nat.reduceAdd, Nat.reduceLeDiff, Nat.reduceMul, Nat.reduceLT, Int.reduceToNat, Int.reduceLT, Int.reduceLE, Int.reduceEq, Nat.reduceSub]
end Go.Abs
end
section
set_option linter.unusedSimpArgs false
set_option linter.unusedVariables false
set_option linter.unusedSectionVars false
namespace Go.Abs
open Go.Proofs
/-- the two lists' texts, in order, each once -/
def unionS (a b : List Str) : List Str := Lib.compact (sorted (a ++ b))
theorem mem_compact {zs : List Str} {x : Str} (h : x ∈ zs) : x ∈ Lib.compact zs := by
  obtain ⟨i, hi, hx⟩ := List.getElem_of_mem h
  have key : ∀ (n i : Nat) (hi : i < zs.length), i = n → zs[i] = x → x ∈ Lib.compact zs := by
    intro n
    induction n with
    | zero =>
      intro i hi hn hx
      subst hn
      refine List.mem_map.2 ⟨0, List.mem_filter.2 ⟨List.mem_range.2 hi, by simp [Lib.keeps]⟩, ?_⟩
      simp [getElem!_pos, hi, hx]
    | succ n ih =>
      intro i hi hn hx
      subst hn
      by_cases he : zs[n]'(by omega) = x
      · exact ih n (by omega) rfl he
      · refine List.mem_map.2 ⟨n + 1, List.mem_filter.2 ⟨List.mem_range.2 hi, ?_⟩, ?_⟩
        · simp only [Lib.keeps, decide_eq_true_eq]
          refine .inr ?_
          simp [getElem!_pos, hi, show n < zs.length by omega, hx]
          exact fun h => he h.symm
        · simp [getElem!_pos, hi, hx]
  exact key i i hi rfl hx
theorem mem_unionS {a b : List Str} {x : Str} : x ∈ unionS a b ↔ x ∈ a ∨ x ∈ b := by
  unfold unionS
  rw [← List.mem_append]
  exact ⟨fun h => List.mem_mergeSort.1 (compact_mem h), fun h => mem_compact (List.mem_mergeSort.2 h)⟩
theorem unionS_len (a b : List Str) : (unionS a b).length ≤ a.length + b.length := by
  unfold unionS
  refine Nat.le_trans (Lib.compact_length_le _) ?_
  simp
/-- names.Union's contract -/
def UnionLaw (E : AEnv) : Prop := ∀ a b : List Str, a.length + b.length < 4398046511104 → E.C names_Union [.one (.lst (a.map fun s => [.str s])), .one (.lst (b.map fun s => [.str s]))] (.one (.lst ((unionS a b).map fun s => [.str s])))
/-- the variables' names, in the order of the nodes -/
def freeL (l : List Pred) : List Str := (l.filter fun q => q.op == 3).map Pred.name
def freeS (p : Pred) : List Str := unionS (freeL p.pre) []
theorem freeL_len (l : List Pred) : (freeL l).length ≤ l.length := by
  unfold freeL; rw [List.length_map]; exact List.length_filter_le _ _
theorem freeL_app (a : List Pred) (o : Int) (s : Str) (n : Int) (ks : List Pred) : freeL (a ++ [.mk o s n ks]) = freeL a ++ (if o == 3 then [s] else []) := by
  unfold freeL
  rw [List.filter_append, List.map_append]
  congr 1
  simp only [List.filter_cons, List.filter_nil, Pred.op]
  split <;> simp [Pred.name]
/-- a node's name as the loop finds it, if it is a variable -/
def fv : List CV → List (List D)
  | [.agg (.int _ o :: .str s :: _)] => if o == 3 then [[.str s]] else []
  | _ => []
theorem fv_cells (o : Int) (s : Str) (n : Int) (ks : List Pred) : fv [.agg (Pred.cells (.mk o s n ks))] = if o == 3 then [[.str s]] else [] := by
  rw [Pred.cells_eq]; rfl
theorem fv_yields : ∀ l : List Pred, (yields l).flatMap fv = (freeL l).map fun s => [.str s]
  | [] => rfl
  | .mk o s n ks :: l => by
    have ih := fv_yields l
    unfold yields freeL at ih ⊢
    rw [List.map_cons, List.flatMap_cons, ih, fv_cells, List.filter_cons, show (Pred.mk o s n ks).op = o from rfl]
    cases h : (o == 3) <;> rfl
theorem fv_ones (l : List (List CV)) : ∀ e ∈ l.flatMap fv, e.length = 1 := by
  intro e he
  obtain ⟨x, _, hx⟩ := List.mem_flatMap.1 he
  unfold fv at hx
  split at hx
  · split at hx <;> simp at hx; subst hx; rfl
  · cases hx
set_option maxRecDepth 100000
variable {E : AEnv} (Z : Sys E)
include Z
theorem slices_Index_ev (l : List Str) (s : Str) : E.C slices_Index_string_string [.one (.lst (l.map fun k => [.str k])), .one (.str s)] (.one (.int .i64 (findIx s 0 l))) := by
  refine Z.slices_Index_string_string _ _ ⟨Nat.le_of_ble_eq_true rfl, ?_⟩
  simp only [fn_slices_Index_string_string, go_sem, Nat.reduceEqDiff, reduceCtorEq, Nat.reduceAdd, Nat.reduceLeDiff, Nat.reduceMul, Nat.reduceLT, Int.reduceToNat, Int.reduceLT, Int.reduceLE, Int.reduceEq, Nat.reduceSub]
  intro hlen
  refine loop_list l (fun done => s ∉ done) (fun done rest => ⟨[(8, .d (.int .i64 done.length)), (7, .d (.int .i64 l.length)), (0, .d (.lst (l.map fun k => [.str k]))), (1, .d (.str s))], [], []⟩) ?_ (by simp) ?_ ?_
  · exact Ent_plain (by simp only [go_sem, Nat.reduceEqDiff, reduceCtorEq, Nat.reduceAdd, Nat.reduceLeDiff, Nat.reduceMul, Nat.reduceLT, Int.reduceToNat, Int.reduceLT, Int.reduceLE, Int.reduceEq, Nat.reduceSub])
  · intro done k r hl hI
    have hlt := lt_mid hl
    have hw : IntKind.i64.wrap ((done.length : Int) + 1) = ((done.length + 1 : Nat) : Int) := wrap_succ (by omega)
    have hx : (l.map fun k => [D.str k]).getD done.length [] = [.str k] := by rw [hl]; exact getD_mid _ _ _ _ _
    have hls : (∀ e ∈ l.map fun k => [D.str k], e.length = 1) = True := eq_true (by simp)
    simp only [fn_slices_Index_string_string_L1, go_sem, Nat.reduceEqDiff, reduceCtorEq, Nat.reduceAdd, Nat.reduceLeDiff, Nat.reduceMul, Nat.reduceLT, Int.reduceToNat, Int.reduceLT, Int.reduceLE, Int.reduceEq, Nat.reduceSub, hlt, hx, hls]
    cases h1 : (s == k) with
    | true =>
      simp only [go_sem, Nat.reduceEqDiff, reduceCtorEq, Nat.reduceAdd, Nat.reduceLeDiff, Nat.reduceMul, Nat.reduceLT, Int.reduceToNat, Int.reduceLT, Int.reduceLE, Int.reduceEq, Nat.reduceSub]
      have h1 : k = s := by simpa using (beq_iff_eq.1 h1).symm
      rw [hl, findIx_app s done 0 _ hI, findIx, if_pos h1, Nat.zero_add]
    | false =>
      simp only [go_sem, Nat.reduceEqDiff, reduceCtorEq, Nat.reduceAdd, Nat.reduceLeDiff, Nat.reduceMul, Nat.reduceLT, Int.reduceToNat, Int.reduceLT, Int.reduceLE, Int.reduceEq, Nat.reduceSub, hw, List.length_append]
      refine ⟨Ent_plain (by simp only [go_sem, Nat.reduceEqDiff, reduceCtorEq, Nat.reduceAdd, Nat.reduceLeDiff, Nat.reduceMul, Nat.reduceLT, Int.reduceToNat, Int.reduceLT, Int.reduceLE, Int.reduceEq, Nat.reduceSub]), ?_⟩
      have h1 : s ≠ k := by simpa using h1
      simp only [List.mem_append, List.mem_singleton, not_or]
      exact ⟨hI, h1⟩
  · intro hI
    simp only [fn_slices_Index_string_string_L1, go_sem, Nat.reduceEqDiff, reduceCtorEq, Nat.reduceAdd, Nat.reduceLeDiff, Nat.reduceMul, Nat.reduceLT, Int.reduceToNat, Int.reduceLT, Int.reduceLE, Int.reduceEq, Nat.reduceSub, findIx_none s l 0 hI]
theorem names_Find_ev (l : List Str) (s : Str) : E.C names_Find [.one (.lst (l.map fun k => [.str k])), .one (.str s)] (.one (.int .i64 (findIx s 0 l))) := by
  have h := slices_Index_ev Z l s
  refine Z.names_Find _ _ ⟨Nat.le_of_ble_eq_true rfl, ?_⟩
  simp only [fn_names_Find, go_sem, Nat.reduceEqDiff, reduceCtorEq, Nat.reduceAdd, Nat.reduceLeDiff, Nat.reduceMul, Nat.reduceLT, Int.reduceToNat, Int.reduceLT, Int.reduceLE, Int.reduceEq, Nat.reduceSub]
  refine call_by h ?_
  simp only [go_sem, Nat.reduceEqDiff, reduceCtorEq, Nat.reduceAdd, Nat.reduceLeDiff, Nat.reduceMul, Nat.reduceLT, Int.reduceToNat, Int.reduceLT, Int.reduceLE, Int.reduceEq, Nat.reduceSub]
theorem pred_SubstAll_ev (names : List Str) (by' : List Pred) (hb : ∀ b ∈ by', Tame b) (p : Pred) (hp : Tame p) : E.C pred_SubstAll [.agg p.cells, .one (.lst (names.map fun k => [.str k])), .one (.lst (by'.map Pred.cells))] (.agg (subAll names by' p).cells) := by
  induction p using Pred.ind with
  | h o s n ks ih =>
  have hk : Small ks.length := hp.top
  unfold Small at hk
  have hfind := names_Find_ev Z names s
  have hcp := fun q hq => pred_copied_ev Z q hq
  refine Z.pred_SubstAll _ _ ⟨Nat.le_of_ble_eq_true rfl, ?_⟩
  generalize hR : subAll names by' (.mk o s n ks) = R
  rw [subAll_eq] at hR
  generalize findIx s 0 names = ix at *
  rw [Pred.cells_eq (.mk o s n ks)] at *
  have hrs : fn_pred_SubstAll.rs = [.c 6 true 4] := rfl
  have tail : ∀ (st : St), (o == 3 && (decide (ix ≥ 0) && decide (ix < by'.length))) = false → getS st.slots 3 = .ptr 3 0 → getS st.slots 6 = .ptr 6 0 → getS st.slots 1 = .d (.lst (names.map fun k => [.str k])) → getS st.slots 2 = .d (.lst (by'.map Pred.cells)) → st.mem = [(6, [.d (.int .i64 0), .d (.str []), .d (.int .i64 0), .full []]), (3, [.d (.int .i64 o), .d (.str s), .d (.int .i64 n), .d (.lst (ks.map Pred.cells))])] → st.tk = [] →
      ∀ N, N = awp E (.seq (.reg [(none, .fa 31 0 (.t 3)), (none, .ld 32 false 1 (.t 31)), (none, .fa 33 1 (.t 3)), (none, .ld 34 false 1 (.t 33)), (none, .fa 35 2 (.t 3)), (none, .ld 36 false 1 (.t 35)), (none, .build 37 [.d (.int .i64 0), .d (.str []), .d (.int .i64 0), .full []] [(0, 1, .t 32), (1, 1, .t 34), (2, 1, .t 36)]), (none, .alloc 8 [.d (.int .i64 0), .d (.str []), .d (.int .i64 0), .full []]), (none, .st 4 (.t 8) (.t 37))]) (.seq (.seq (.reg [(none, .fa 38 3 (.t 3)), (none, .ld 39 false 1 (.t 38)), (none, .len 40 false (.t 39)), (none, .mv 41 (.c (.d (.int .i64 0))))]) (.block 0 (.loop fn_pred_SubstAll_L1))) (.seq (.reg [(none, .ld 55 true 4 (.t 8)), (none, .st 4 (.t 6) (.t 55))]) (.ret)))) (retK fn_pred_SubstAll.rs (.agg (Pred.cells R))) → N st := by
    intro st hc e3 e6 e1 e2 em et N hN
    rw [hc] at hR
    obtain ⟨sl, mm, tk⟩ := st
    simp only at e3 e6 e1 e2 em et
    subst em; subst et
    rw [hN]
    simp only [go_sem, Nat.reduceEqDiff, reduceCtorEq, Nat.reduceAdd, Nat.reduceLeDiff, Nat.reduceMul, Nat.reduceLT, Int.reduceToNat, Int.reduceLT, Int.reduceLE, Int.reduceEq, Nat.reduceSub, e3, e6, e1, e2]
    intro hlen
    refine loop_named fun K' hK => ?_
    refine loop_list ks (fun _ => True) (fun done rest => ⟨[(41, .d (.int .i64 done.length)), (40, .d (.int .i64 ks.length)), (39, .d (.lst (ks.map Pred.cells))), (8, .ptr 8 0), (1, .d (.lst (names.map fun k => [.str k]))), (2, .d (.lst (by'.map Pred.cells))), (3, .ptr 3 0), (6, .ptr 6 0)], [(8, [.d (.int .i64 o), .d (.str s), .d (.int .i64 n), .own 8 4 ((done.map (subAll names by')).map Pred.cells)]), (6, [.d (.int .i64 0), .d (.str []), .d (.int .i64 0), .full []]), (3, [.d (.int .i64 o), .d (.str s), .d (.int .i64 n), .d (.lst (ks.map Pred.cells))])], [(8, true)]⟩) ?_ trivial ?_ ?_
    · exact Ent_convm 8 3 8 4 _ [] [(8, 8)] rfl rfl (by simp) rfl (by simp only [Ent0, go_sem, Nat.reduceEqDiff, reduceCtorEq, Nat.reduceAdd, Nat.reduceLeDiff, Nat.reduceMul, Nat.reduceLT, Int.reduceToNat, Int.reduceLT, Int.reduceLE, Int.reduceEq, Nat.reduceSub, List.contains_nil, Option.isSome_some, e3, e6, e1, e2])
    · intro done k r hl _
      have hk' := ih k (by rw [hl]; simp) (hp.kid (by rw [hl]; simp))
      have hlt := lt_mid hl
      have hw : IntKind.i64.wrap ((done.length : Int) + 1) = ((done.length + 1 : Nat) : Int) := wrap_succ (by omega)
      have ha1 : (done.length + 1) * 56 ≤ 2 ^ 46 := by omega
      simp only [fn_pred_SubstAll_L1, go_sem, Nat.reduceEqDiff, reduceCtorEq, Nat.reduceAdd, Nat.reduceLeDiff, Nat.reduceMul, Nat.reduceLT, Int.reduceToNat, Int.reduceLT, Int.reduceLE, Int.reduceEq, Nat.reduceSub, hlt, getD_midP hl]
      refine call_by hk' ?_
      simp only [go_sem, Nat.reduceEqDiff, reduceCtorEq, Nat.reduceAdd, Nat.reduceLeDiff, Nat.reduceMul, Nat.reduceLT, Int.reduceToNat, Int.reduceLT, Int.reduceLE, Int.reduceEq, Nat.reduceSub, hw, List.length_append, List.length_map, List.map_append, Pred.lens_true]
      refine ⟨⟨by simp [Pred.cells_length], ha1, by omega⟩, Ent_own [(8, 52)] ?_⟩
      simp only [go_sem, Nat.reduceEqDiff, reduceCtorEq, Nat.reduceAdd, Nat.reduceLeDiff, Nat.reduceMul, Nat.reduceLT, Int.reduceToNat, Int.reduceLT, Int.reduceLE, Int.reduceEq, Nat.reduceSub, List.contains_nil, Option.isSome_some]
    · intro _
      simp only [fn_pred_SubstAll_L1, go_sem, Nat.reduceEqDiff, reduceCtorEq, Nat.reduceAdd, Nat.reduceLeDiff, Nat.reduceMul, Nat.reduceLT, Int.reduceToNat, Int.reduceLT, Int.reduceLE, Int.reduceEq, Nat.reduceSub, hK, Pred.op, Pred.name, Pred.n, Pred.kids] at hR ⊢
      rw [← hR]
      simp only [go_sem, Nat.reduceEqDiff, reduceCtorEq, Nat.reduceAdd, Nat.reduceLeDiff, Nat.reduceMul, Nat.reduceLT, Int.reduceToNat, Int.reduceLT, Int.reduceLE, Int.reduceEq, Nat.reduceSub, hrs, Pred.cells_eq (.mk o s n (ks.map (subAll names by'))), Pred.op, Pred.name, Pred.n, Pred.kids]
  refine seq_named fun N0 h0 => ?_
  simp only [go_sem, Nat.reduceEqDiff, reduceCtorEq, Nat.reduceAdd, Nat.reduceLeDiff, Nat.reduceMul, Nat.reduceLT, Int.reduceToNat, Int.reduceLT, Int.reduceLE, Int.reduceEq, Nat.reduceSub, Pred.op, Pred.name, Pred.n, Pred.kids]
  rw [h0]
  refine seq_named fun N1 h1 => ?_
  cases c3 : (o == 3) with
  | false =>
    simp only [go_sem, Nat.reduceEqDiff, reduceCtorEq, Nat.reduceAdd, Nat.reduceLeDiff, Nat.reduceMul, Nat.reduceLT, Int.reduceToNat, Int.reduceLT, Int.reduceLE, Int.reduceEq, Nat.reduceSub, c3]
    exact tail _ (by rw [c3]; rfl) rfl rfl rfl rfl rfl rfl N1 h1
  | true =>
    simp only [go_sem, Nat.reduceEqDiff, reduceCtorEq, Nat.reduceAdd, Nat.reduceLeDiff, Nat.reduceMul, Nat.reduceLT, Int.reduceToNat, Int.reduceLT, Int.reduceLE, Int.reduceEq, Nat.reduceSub, c3]
    refine call_by hfind ?_
    simp only [go_sem, Nat.reduceEqDiff, reduceCtorEq, Nat.reduceAdd, Nat.reduceLeDiff, Nat.reduceMul, Nat.reduceLT, Int.reduceToNat, Int.reduceLT, Int.reduceLE, Int.reduceEq, Nat.reduceSub]
    intro _
    cases c4 : (decide (ix ≥ 0) && decide (ix < by'.length)) with
    | false =>
      simp only [go_sem, Nat.reduceEqDiff, reduceCtorEq, Nat.reduceAdd, Nat.reduceLeDiff, Nat.reduceMul, Nat.reduceLT, Int.reduceToNat, Int.reduceLT, Int.reduceLE, Int.reduceEq, Nat.reduceSub]
      exact tail _ (by rw [c3, c4]; rfl) rfl rfl rfl rfl rfl rfl N1 h1
    | true =>
      simp only [c3, c4, go_sem, Nat.reduceEqDiff, reduceCtorEq, Nat.reduceAdd, Nat.reduceLeDiff, Nat.reduceMul, Nat.reduceLT, Int.reduceToNat, Int.reduceLT, Int.reduceLE, Int.reduceEq, Nat.reduceSub] at hR ⊢
      simp only [Bool.and_eq_true, decide_eq_true_eq] at c4
      have hlt : ix.toNat < by'.length := by omega
      have hge : (0 ≤ ix) = True := eq_true (by omega)
      have hlt' : (ix < (by'.length : Int)) = True := eq_true c4.2
      have hq := hcp R (by
        rw [← hR, List.getD_eq_getElem?_getD, List.getElem?_eq_getElem hlt]
        exact hb _ (List.getElem_mem hlt))
      simp only [hge, hlt', getD_mapP _ _ hlt, go_sem, Nat.reduceEqDiff, reduceCtorEq, Nat.reduceAdd, Nat.reduceLeDiff, Nat.reduceMul, Nat.reduceLT, Int.reduceToNat, Int.reduceLT, Int.reduceLE, Int.reduceEq, Nat.reduceSub, hR]
      refine call_by hq ?_
      simp only [go_sem, Nat.reduceEqDiff, reduceCtorEq, Nat.reduceAdd, Nat.reduceLeDiff, Nat.reduceMul, Nat.reduceLT, Int.reduceToNat, Int.reduceLT, Int.reduceLE, Int.reduceEq, Nat.reduceSub, hrs]
theorem pred_Subst_ev (s : Str) (by' p : Pred) (hb : Tame by') (hp : Tame p) : E.C pred_Subst [.agg p.cells, .one (.str s), .agg by'.cells] (.agg (subAll [s] [by'] p).cells) := by
  have h := pred_SubstAll_ev Z [s] [by'] (by simpa using hb) p hp
  refine Z.pred_Subst _ _ ⟨Nat.le_of_ble_eq_true rfl, ?_⟩
  generalize subAll [s] [by'] p = R at *
  rw [Pred.cells_eq p, Pred.cells_eq by', Pred.cells_eq R] at *
  simp only [List.map_cons, List.map_nil, Pred.cells_eq by'] at h
  simp only [fn_pred_Subst, go_sem, Nat.reduceEqDiff, reduceCtorEq, Nat.reduceAdd, Nat.reduceLeDiff, Nat.reduceMul, Nat.reduceLT, Int.reduceToNat, Int.reduceLT, Int.reduceLE, Int.reduceEq, Nat.reduceSub]
  refine call_by h ?_
  simp only [go_sem, Nat.reduceEqDiff, reduceCtorEq, Nat.reduceAdd, Nat.reduceLeDiff, Nat.reduceMul, Nat.reduceLT, Int.reduceToNat, Int.reduceLT, Int.reduceLE, Int.reduceEq, Nat.reduceSub]
theorem pred_Free_ev (hU : UnionLaw E) (hIt : ∀ p, E.It pred_before_1 [.ref (Pred.cells p)] (yields p.pre)) (p : Pred) (hp : p.pre.length ≤ 1048576) : E.C pred_Free [.agg p.cells] (.one (.lst ((freeS p).map fun s => [.str s]))) := by
  have h3 := pred_before_ev Z p
  have hit := hIt p
  have hu := hU (freeL p.pre) [] (by have := freeL_len p.pre; simp only [List.length_nil]; omega)
  refine Z.pred_Free _ _ ⟨Nat.le_of_ble_eq_true rfl, ?_⟩
  unfold freeS
  generalize unionS (freeL p.pre) [] = U at *
  rw [Pred.cells_eq] at *
  simp only [fn_pred_Free, go_sem, Nat.reduceEqDiff, reduceCtorEq, Nat.reduceAdd, Nat.reduceLeDiff, Nat.reduceMul, Nat.reduceLT, Int.reduceToNat, Int.reduceLT, Int.reduceLE, Int.reduceEq, Nat.reduceSub]
  refine call_by h3 ?_
  simp only [go_sem, Nat.reduceEqDiff, reduceCtorEq, Nat.reduceAdd, Nat.reduceLeDiff, Nat.reduceMul, Nat.reduceLT, Int.reduceToNat, Int.reduceLT, Int.reduceLE, Int.reduceEq, Nat.reduceSub]
  refine rng_by hit (fun a => ∃ l, a = yields l) (fun a => ⟨[(3, .ptr 3 0)], [(3, [.own 3 1 (a.flatMap fv)])], [(3, true)]⟩) ?_ ⟨[], rfl⟩ ?_ ?_
  · exact Ent_convm 3 0 3 1 _ [] [(3, 3)] rfl rfl (by simp) rfl (by simp only [Ent0, go_sem, Nat.reduceEqDiff, reduceCtorEq, Nat.reduceAdd, Nat.reduceLeDiff, Nat.reduceMul, Nat.reduceLT, Int.reduceToNat, Int.reduceLT, Int.reduceLE, Int.reduceEq, Nat.reduceSub, List.contains_nil, Option.isSome_some, List.flatMap_nil])
  · intro a x b hx ⟨l, hl⟩
    obtain ⟨a', q, b', e1, rfl, rfl⟩ := yields_mid hx
    refine ⟨rfl, ?_⟩
    have hlen : (freeL a').length + 1 ≤ 1048576 := by
      have h1 := freeL_len a'
      have h2 := congrArg List.length e1
      simp only [List.length_append, List.length_cons] at h2
      omega
    rw [List.flatMap_append]
    have hones := fv_ones (yields a')
    have hlen2 : ((yields a').flatMap fv).length + 1 ≤ 1048576 := by rw [fv_yields, List.length_map]; exact hlen
    generalize (yields a').flatMap fv = fs at *
    obtain ⟨o, s, n, ks⟩ := q
    have hfv := fv_cells o s n ks
    simp only [List.flatMap_cons, List.flatMap_nil, List.append_nil, hfv]
    have hy : yields a' ++ [[CV.agg (Pred.cells (.mk o s n ks))]] = yields (a' ++ [.mk o s n ks]) := by simp [yields]
    rw [hy, Pred.cells_eq]
    simp only [fn_pred_Free_A1, fn_pred_Free_B1, go_sem, Nat.reduceEqDiff, reduceCtorEq, Nat.reduceAdd, Nat.reduceLeDiff, Nat.reduceMul, Nat.reduceLT, Int.reduceToNat, Int.reduceLT, Int.reduceLE, Int.reduceEq, Nat.reduceSub, Pred.op, Pred.name, Pred.n, Pred.kids]
    cases h2 : (o == 3) with
    | true =>
      have ha1 : (fs.length + 1) * 16 ≤ 2 ^ 46 := by omega
      simp only [h2, go_sem, Nat.reduceEqDiff, reduceCtorEq, Nat.reduceAdd, Nat.reduceLeDiff, Nat.reduceMul, Nat.reduceLT, Int.reduceToNat, Int.reduceLT, Int.reduceLE, Int.reduceEq, Nat.reduceSub]
      refine ⟨⟨by simp, ha1, by omega⟩, Ent_own [(3, 15)] ?_, a' ++ [.mk o s n ks], rfl⟩
      simp only [go_sem, Nat.reduceEqDiff, reduceCtorEq, Nat.reduceAdd, Nat.reduceLeDiff, Nat.reduceMul, Nat.reduceLT, Int.reduceToNat, Int.reduceLT, Int.reduceLE, Int.reduceEq, Nat.reduceSub, List.contains_nil, Option.isSome_some]
    | false =>
      simp only [h2, go_sem, Nat.reduceEqDiff, reduceCtorEq, Nat.reduceAdd, Nat.reduceLeDiff, Nat.reduceMul, Nat.reduceLT, Int.reduceToNat, Int.reduceLT, Int.reduceLE, Int.reduceEq, Nat.reduceSub]
      exact ⟨Ent_own [(3, 3)] (by simp only [go_sem, Nat.reduceEqDiff, reduceCtorEq, Nat.reduceAdd, Nat.reduceLeDiff, Nat.reduceMul, Nat.reduceLT, Int.reduceToNat, Int.reduceLT, Int.reduceLE, Int.reduceEq, Nat.reduceSub, List.contains_nil, Option.isSome_some]), a' ++ [.mk o s n ks], rfl⟩
  · intro _
    rw [fv_yields]
    simp only [go_sem, Nat.reduceEqDiff, reduceCtorEq, Nat.reduceAdd, Nat.reduceLeDiff, Nat.reduceMul, Nat.reduceLT, Int.reduceToNat, Int.reduceLT, Int.reduceLE, Int.reduceEq, Nat.reduceSub]
    refine call_by hu ?_
    simp only [go_sem, Nat.reduceEqDiff, reduceCtorEq, Nat.reduceAdd, Nat.reduceLeDiff, Nat.reduceMul, Nat.reduceLT, Int.reduceToNat, Int.reduceLT, Int.reduceLE, Int.reduceEq, Nat.reduceSub]
end Go.Abs
end
section
set_option linter.unusedSimpArgs false
set_option linter.unusedVariables false
set_option linter.unusedSectionVars false
namespace Go.Abs
/-! ## plain law: replacing a variable is giving it a value -/
theorem AllN.mk {P : Pred → Prop} {o : Int} {s : Str} {n : Int} {ks : List Pred} (h : P (.mk o s n ks)) (hk : ∀ k ∈ ks, AllN P k) : AllN P (.mk o s n ks) := by
  intro q hq
  rw [Pred.pre_eq] at hq
  have hq' := List.mem_cons.1 hq
  clear hq
  rcases hq' with rfl | hq
  · exact h
  · clear h
    revert hq
    induction ks with
    | nil => intro hq; cases hq
    | cons x ks ih =>
      intro hq
      rw [Pred.pre.pres, List.mem_append] at hq
      rcases hq with hq | hq
      · exact hk x (by simp) q hq
      · exact ih (fun k hk' => hk k (by simp [hk'])) hq
theorem Pred.cnt_pos (p : Pred) : 1 ≤ p.cnt := by cases p; rw [Pred.cnt]; omega
theorem Pred.len_cnts (ks : List Pred) : ks.length ≤ Pred.cnts ks := by
  induction ks with
  | nil => simp
  | cons k ks ih => rw [Pred.cnts, List.length_cons]; have := Pred.cnt_pos k; omega
theorem tame_of_cnt (p : Pred) (h : p.cnt ≤ 1048576) : Tame p := by
  induction p using Pred.ind with
  | h o s n ks ih =>
  rw [Pred.cnt] at h
  refine AllN.mk ?_ fun k hk => ih k hk ?_
  · have := Pred.len_cnts ks
    show Small ks.length
    unfold Small; omega
  · have := Pred.cnt_le hk; omega
theorem bnd_range {n : Int} (h : (bnd n).2 = true) : inRange (bnd n).1 = true := by
  unfold bnd at h ⊢
  cases hr : inRange n <;> simp [hr] at h ⊢
theorem addI_range {a b : Int} (h : (addI a b).2 = true) : inRange (addI a b).1 = true := by
  unfold addI at h ⊢
  split at h
  · rename_i hc; rw [if_pos hc]; exact bnd_range h
  · cases h
theorem subI_range {a b : Int} (h : (subI a b).2 = true) : inRange (subI a b).1 = true := by
  unfold subI at h ⊢
  split at h
  · rename_i hc; rw [if_pos hc]; exact bnd_range h
  · cases h
theorem mulI_range {a b : Int} (h : (mulI a b).2 = true) : inRange (mulI a b).1 = true := by
  unfold mulI at h ⊢
  split at h
  · rename_i hc; rw [if_pos hc]; exact bnd_range h
  · cases h
theorem tru_range (b : Bool) : inRange (tru b) = true := by cases b <;> decide
theorem compI_range {o a b : Int} (ho : 6 ≤ o ∧ o ≤ 18) (h : (compI o a b).2 = true) : inRange (compI o a b).1 = true := by
  have hor : o = 6 ∨ o = 7 ∨ o = 8 ∨ o = 9 ∨ o = 10 ∨ o = 11 ∨ o = 12 ∨ o = 13 ∨ o = 14 ∨ o = 15 ∨ o = 16 ∨ o = 17 ∨ o = 18 := by omega
  rcases hor with rfl | rfl | rfl | rfl | rfl | rfl | rfl | rfl | rfl | rfl | rfl | rfl | rfl
  · exact addI_range h
  · exact subI_range h
  · exact mulI_range h
  · exact subI_range h
  all_goals exact tru_range _
theorem Good.num {o : Int} {s : Str} {n : Int} {ks : List Pred} (h : Good (.mk o s n ks)) (ho : o = 1 ∨ o = 2) : inRange n = true := by
  have h := AllN.top h
  change nodeE o s n ks = 0 at h
  unfold nodeE at h
  split at h
  · cases h
  · split at h
    · cases h
    · rename_i h2
      rw [inRange_iff]
      rcases ho with rfl | rfl
      · have : inRange n = true := by simpa using h2
        rw [inRange_iff] at this; omega
      · simp at h2; omega
theorem valR_range (at' : List Coef) (fs : List Fact) (p : Pred) (hp : Good p) (h : (valR at' fs p).2 = true) : inRange (valR at' fs p).1 = true := by
  obtain ⟨o, s, n, ks⟩ := p
  obtain ⟨⟨o1, o2⟩, hk, _, _⟩ := hp.top
  have hn := hp.num
  rw [valR_eq] at h ⊢
  by_cases c1 : (o == 1 || o == 2) = true
  · rw [if_pos c1]; exact hn (by simpa using c1)
  rw [if_neg c1] at h ⊢
  by_cases c3 : (o == 3) = true
  · rw [if_pos c3] at h ⊢
    split at h
    · rename_i hc; rw [if_pos hc]; exact bnd_range h
    · cases h
  rw [if_neg c3] at h ⊢
  by_cases c5 : (o == 5) = true
  · rw [if_pos c5] at h; cases h
  rw [if_neg c5] at h ⊢
  by_cases ha : ks.all (fun k => (valR at' fs k).2) = true
  case neg => rw [if_neg ha] at h; cases h
  rw [if_pos ha] at h ⊢
  unfold topR at h ⊢
  by_cases c4 : (o == 4) = true
  · rw [if_pos c4] at h ⊢
    unfold factR at h ⊢
    split at h
    · exact bnd_range h
    · cases h
  rw [if_neg c4] at h ⊢
  simp at c1 c3 c4 c5
  exact compI_range ⟨by omega, o2⟩ h
theorem EvalS_eq {at' : List Coef} {fs : List Fact} {p : Pred} (h : p.checkE = 0) : EvalS at' fs p = valR at' fs p := by unfold EvalS; rw [h]; rfl
theorem EvalS_check {at' : List Coef} {fs : List Fact} {p : Pred} (h : (EvalS at' fs p).2 = true) : p.checkE = 0 := by
  unfold EvalS at h
  by_cases hc : (p.checkE != 0) = true
  · rw [if_pos hc] at h; cases h
  · simpa using hc
theorem val_subst {at' : List Coef} {fs : List Fact} {name : Str} {by' : Pred} {k : Int} (hby : valR at' fs by' = (k, true)) (hk : inRange k = true) (p : Pred) (hp : Good p) :
    valR (⟨name, k⟩ :: at') fs p = valR at' fs (subAll [name] [by'] p) := by
  induction p using Pred.ind with
  | h o s n ks ih =>
  obtain ⟨⟨o1, o2⟩, hkk, _, _⟩ := hp.top
  rw [subAll_eq]
  by_cases c3 : o = 3
  · subst c3
    obtain rfl := kids_leaf hkk rfl
    by_cases hs : name = s
    · subst hs
      have : findIx name 0 [name] = 0 := by simp [findIx]
      rw [this, if_pos (by rfl)]
      show valR _ fs _ = valR at' fs by'
      rw [hby, valR_eq]
      simp [findC, bnd, hk]
    · have : findIx s 0 [name] = -1 := by simp [findIx, hs]
      rw [this, if_neg (by simp), valR_eq, valR_eq]
      have hf : findC s (⟨name, k⟩ :: at') = findC s at' := by rw [findC, if_neg (by simpa using hs)]
      simp [hf]
  · have e3 : (o == 3) = false := by simpa using c3
    rw [e3, Bool.false_and, if_neg Bool.false_ne_true, valR_eq, valR_eq]
    have hall : (ks.map (subAll [name] [by'])).all (fun k => (valR at' fs k).2) = ks.all (fun x => (valR (⟨name, k⟩ :: at') fs x).2) := by
      have : ∀ l : List Pred, (∀ x ∈ l, x ∈ ks) → (l.map (subAll [name] [by'])).all (fun k => (valR at' fs k).2) = l.all (fun x => (valR (⟨name, k⟩ :: at') fs x).2) := by
        intro l
        induction l with
        | nil => intro _; rfl
        | cons x l ih2 =>
          intro hl
          rw [List.map_cons, List.all_cons, List.all_cons, ih2 (fun y hy => hl y (by simp [hy])), ih x (hl x (by simp)) (hp.kid (hl x (by simp)))]
      exact this ks fun _ h => h
    have hmap : (ks.map (subAll [name] [by'])).map (fun k => (valR at' fs k).1) = ks.map (fun x => (valR (⟨name, k⟩ :: at') fs x).1) := by
      rw [List.map_map]
      refine List.map_congr_left fun x hx => ?_
      rw [ih x hx (hp.kid hx)]; rfl
    rw [hall, hmap]
    simp only [e3, Bool.false_eq_true, if_false]
    rfl
theorem eval_subst {at' : List Coef} {fs : List Fact} (name : Str) {by' p : Pred} (h : (EvalS at' fs by').2 = true) (hp : p.checkE = 0) (hq : (subAll [name] [by'] p).checkE = 0) :
    EvalS (⟨name, (EvalS at' fs by').1⟩ :: at') fs p = EvalS at' fs (subAll [name] [by'] p) := by
  have hc := EvalS_check h
  rw [EvalS_eq hc] at h ⊢
  rw [EvalS_eq hp, EvalS_eq hq]
  exact val_subst (by rw [← h]) (valR_range at' fs by' (good_of hc) h) p (good_of hp)
def nm5 : List Str := [[120], [121], [118], [98], [108]]
set_option maxRecDepth 100000
variable {E : AEnv} (L : Law10 E)
include L
theorem MeaningReplaces_ev (p by' : Pred) (at' : List Coef) (fs : List Fact) (hp : Tame p) : E.C l10_MeaningReplaces [.agg p.cells, .agg by'.cells, .agg [.lst (at'.map Coef.cells), .lst (fs.map Fact.cells)]] (.one (.bool true)) := by
  have hf := l10_few_ev L.sys p at' fs
  have hal := L.alive
  have hn1 := r07_Nodes_ev L.sys p
  have hn2 := r07_Nodes_ev L.sys by'
  have hsub := fun s => r07_Subst_ev L.sys s by' p hp
  have he := L.eval at' fs by'
  have hcp := r07_Check_ev L.sys p
  have hcq := fun s => r07_Check_ev L.sys (subAll [s] [by'] p)
  have hep := fun s n => L.eval (⟨s, n⟩ :: at') fs p
  have heq := fun s => L.eval at' fs (subAll [s] [by'] p)
  have hlaw := fun s => @eval_subst at' fs s by' p
  have hfew := @few_small p at' fs
  simp only [List.map_cons, Coef.cells] at hep
  unfold res2 at *
  refine L.sys.l10_MeaningReplaces _ _ ⟨Nat.le_of_ble_eq_true rfl, ?_⟩
  have hrs : fn_l10_MeaningReplaces.rs = [.t 6] := rfl
  refine seq_named fun N0 h0 => ?_
  simp only [go_sem, Nat.reduceEqDiff, reduceCtorEq, Nat.reduceAdd, Nat.reduceLeDiff, Nat.reduceMul, Nat.reduceLT, Int.reduceToNat, Int.reduceLT, Int.reduceLE, Int.reduceEq, Nat.reduceSub, List.length_map]
  rw [h0]
  refine seq_named fun N1 h1 => ?_
  simp only [go_sem, Nat.reduceEqDiff, reduceCtorEq, Nat.reduceAdd, Nat.reduceLeDiff, Nat.reduceMul, Nat.reduceLT, Int.reduceToNat, Int.reduceLT, Int.reduceLE, Int.reduceEq, Nat.reduceSub, List.length_map]
  refine call_by hf ?_
  simp only [go_sem, Nat.reduceEqDiff, reduceCtorEq, Nat.reduceAdd, Nat.reduceLeDiff, Nat.reduceMul, Nat.reduceLT, Int.reduceToNat, Int.reduceLT, Int.reduceLE, Int.reduceEq, Nat.reduceSub, List.length_map]
  refine call_gi (fun _ => hn1) ?_
  simp only [go_sem, Nat.reduceEqDiff, reduceCtorEq, Nat.reduceAdd, Nat.reduceLeDiff, Nat.reduceMul, Nat.reduceLT, Int.reduceToNat, Int.reduceLT, Int.reduceLE, Int.reduceEq, Nat.reduceSub, List.length_map]
  refine call_gi (fun _ => hn2) ?_
  simp only [go_sem, Nat.reduceEqDiff, reduceCtorEq, Nat.reduceAdd, Nat.reduceLeDiff, Nat.reduceMul, Nat.reduceLT, Int.reduceToNat, Int.reduceLT, Int.reduceLE, Int.reduceEq, Nat.reduceSub]
  cases c0 : (!fewB p at' fs || decide (p.nodes > 100) || decide (by'.nodes > 100)) with
  | true =>
    simp only [go_sem, Nat.reduceEqDiff, reduceCtorEq, Nat.reduceAdd, Nat.reduceLeDiff, Nat.reduceMul, Nat.reduceLT, Int.reduceToNat, Int.reduceLT, Int.reduceLE, Int.reduceEq, Nat.reduceSub]
    refine call_by hal ?_
    simp only [go_sem, Nat.reduceEqDiff, reduceCtorEq, Nat.reduceAdd, Nat.reduceLeDiff, Nat.reduceMul, Nat.reduceLT, Int.reduceToNat, Int.reduceLT, Int.reduceLE, Int.reduceEq, Nat.reduceSub, hrs]
  | false =>
  simp only [go_sem, Nat.reduceEqDiff, reduceCtorEq, Nat.reduceAdd, Nat.reduceLeDiff, Nat.reduceMul, Nat.reduceLT, Int.reduceToNat, Int.reduceLT, Int.reduceLE, Int.reduceEq, Nat.reduceSub]
  have hfb : fewB p at' fs = true := by revert c0; cases fewB p at' fs <;> simp
  have hat : at'.length ≤ 60 := (hfew hfb).2.1
  rw [h1]
  refine seq_named fun N2 h2 => ?_
  simp only [go_sem, Nat.reduceEqDiff, reduceCtorEq, Nat.reduceAdd, Nat.reduceLeDiff, Nat.reduceMul, Nat.reduceLT, Int.reduceToNat, Int.reduceLT, Int.reduceLE, Int.reduceEq, Nat.reduceSub]
  refine loop_named fun K' hK => ?_
  refine loop_list nm5 (fun _ => True) (fun done rest => ⟨[(37, .d (.int .i64 done.length)), (36, .d (.int .i64 5)), (35, .d (.lst (nm5.map fun k => [.str k]))), (3, .ptr 3 0), (4, .ptr 4 0), (5, .ptr 5 0)], [(5, [.d (.lst (at'.map Coef.cells)), .d (.lst (fs.map Fact.cells))]), (4, by'.cells.map .d), (3, p.cells.map .d)], []⟩) ?_ trivial ?_ ?_
  · exact Ent_plain (by simp only [go_sem, Nat.reduceEqDiff, reduceCtorEq, Nat.reduceAdd, Nat.reduceLeDiff, Nat.reduceMul, Nat.reduceLT, Int.reduceToNat, Int.reduceLT, Int.reduceLE, Int.reduceEq, Nat.reduceSub, Option.isSome_some, nm5, List.map_cons, List.map_nil, List.length_nil])
  · intro done s r hl _
    have hlt : (done.length : Int) < 5 := by have := lt_mid hl; rw [show nm5.length = 5 from rfl] at this; exact this
    have hln : (nm5.map fun k => [D.str k]).length = 5 := rfl
    have hw : IntKind.i64.wrap ((done.length : Int) + 1) = ((done.length + 1 : Nat) : Int) := wrap_succ (by omega)
    have hx : (nm5.map fun k => [D.str k]).getD done.length [] = [.str s] := by rw [hl]; exact getD_mid _ _ _ _ _
    have hls : (∀ e ∈ nm5.map fun k => [D.str k], e.length = 1) = True := eq_true (by simp [nm5])
    have hlt' : (done.length : Int) < ((5 : Nat) : Int) := hlt
    simp only [fn_l10_MeaningReplaces_L1, go_sem, Nat.reduceEqDiff, reduceCtorEq, Nat.reduceAdd, Nat.reduceLeDiff, Nat.reduceMul, Nat.reduceLT, Int.reduceToNat, Int.reduceLT, Int.reduceLE, Int.reduceEq, Nat.reduceSub, hlt, hlt', hln, hx, hls, List.length_map]
    refine call_by (hsub s) ?_
    simp only [go_sem, Nat.reduceEqDiff, reduceCtorEq, Nat.reduceAdd, Nat.reduceLeDiff, Nat.reduceMul, Nat.reduceLT, Int.reduceToNat, Int.reduceLT, Int.reduceLE, Int.reduceEq, Nat.reduceSub, List.length_map]
    refine call_by he ?_
    simp only [go_sem, Nat.reduceEqDiff, reduceCtorEq, Nat.reduceAdd, Nat.reduceLeDiff, Nat.reduceMul, Nat.reduceLT, Int.reduceToNat, Int.reduceLT, Int.reduceLE, Int.reduceEq, Nat.reduceSub, List.length_map]
    refine call_gi (fun _ => hcp) ?_
    simp only [go_sem, Nat.reduceEqDiff, reduceCtorEq, Nat.reduceAdd, Nat.reduceLeDiff, Nat.reduceMul, Nat.reduceLT, Int.reduceToNat, Int.reduceLT, Int.reduceLE, Int.reduceEq, Nat.reduceSub, List.length_map]
    refine call_gi (fun _ => hcq s) ?_
    simp only [go_sem, Nat.reduceEqDiff, reduceCtorEq, Nat.reduceAdd, Nat.reduceLeDiff, Nat.reduceMul, Nat.reduceLT, Int.reduceToNat, Int.reduceLT, Int.reduceLE, Int.reduceEq, Nat.reduceSub]
    have hlaw := hlaw s
    generalize EvalS at' fs by' = R1 at *
    cases c1 : (!R1.2 || p.checkE != 0 || (subAll [s] [by'] p).checkE != 0) with
    | true =>
      simp only [go_sem, Nat.reduceEqDiff, reduceCtorEq, Nat.reduceAdd, Nat.reduceLeDiff, Nat.reduceMul, Nat.reduceLT, Int.reduceToNat, Int.reduceLT, Int.reduceLE, Int.reduceEq, Nat.reduceSub, hw, List.length_append]
      exact Ent_plain (by simp only [go_sem, Nat.reduceEqDiff, reduceCtorEq, Nat.reduceAdd, Nat.reduceLeDiff, Nat.reduceMul, Nat.reduceLT, Int.reduceToNat, Int.reduceLT, Int.reduceLE, Int.reduceEq, Nat.reduceSub, Option.isSome_some])
    | false =>
      simp only [Bool.or_eq_false_iff, Bool.not_eq_false', bne_eq_false_iff_eq] at c1
      have hlaw := hlaw c1.1.1 c1.1.2 c1.2
      have o1 : (1 + at'.length) * 24 ≤ 2 ^ 46 := by omega
      have o2 : 1 + at'.length ≤ 9223372036854775807 := by omega
      have hi : (∀ e ∈ [[D.str s, D.int .i64 R1.1]], e.length = 2) = True := eq_true (by simp)
      simp only [go_sem, Nat.reduceEqDiff, reduceCtorEq, Nat.reduceAdd, Nat.reduceLeDiff, Nat.reduceMul, Nat.reduceLT, Int.reduceToNat, Int.reduceLT, Int.reduceLE, Int.reduceEq, Nat.reduceSub, hi, List.length_map, o1, o2]
      refine call_by (hep s R1.1) ?_
      simp only [go_sem, Nat.reduceEqDiff, reduceCtorEq, Nat.reduceAdd, Nat.reduceLeDiff, Nat.reduceMul, Nat.reduceLT, Int.reduceToNat, Int.reduceLT, Int.reduceLE, Int.reduceEq, Nat.reduceSub, List.length_map]
      refine call_by (heq s) ?_
      rw [hlaw]
      simp only [go_sem, Nat.reduceEqDiff, reduceCtorEq, Nat.reduceAdd, Nat.reduceLeDiff, Nat.reduceMul, Nat.reduceLT, Int.reduceToNat, Int.reduceLT, Int.reduceLE, Int.reduceEq, Nat.reduceSub, bne_self_eq_false, beq_self_eq_true, hw, List.length_append]
      exact Ent_plain (by simp only [go_sem, Nat.reduceEqDiff, reduceCtorEq, Nat.reduceAdd, Nat.reduceLeDiff, Nat.reduceMul, Nat.reduceLT, Int.reduceToNat, Int.reduceLT, Int.reduceLE, Int.reduceEq, Nat.reduceSub, Option.isSome_some])
  · intro _
    have hln : (nm5.length : Int) = 5 := rfl
    simp only [fn_l10_MeaningReplaces_L1, go_sem, Nat.reduceEqDiff, reduceCtorEq, Nat.reduceAdd, Nat.reduceLeDiff, Nat.reduceMul, Nat.reduceLT, Int.reduceToNat, Int.reduceLT, Int.reduceLE, Int.reduceEq, Nat.reduceSub, hln, hK, h2]
    refine call_by hal ?_
    simp only [go_sem, Nat.reduceEqDiff, reduceCtorEq, Nat.reduceAdd, Nat.reduceLeDiff, Nat.reduceMul, Nat.reduceLT, Int.reduceToNat, Int.reduceLT, Int.reduceLE, Int.reduceEq, Nat.reduceSub, hrs]
end Go.Abs
end
section
set_option linter.unusedSimpArgs false
set_option linter.unusedVariables false
set_option linter.unusedSectionVars false
namespace Go.Abs
namespace Pred
theorem pre_cnt (p : Pred) : p.pre.length ≤ p.cnt := by
  induction p using Pred.ind with
  | h o s n ks ih =>
  rw [pre_eq, cnt, List.length_cons]
  have : ∀ l : List Pred, (∀ k ∈ l, k.pre.length ≤ k.cnt) → (pre.pres l).length ≤ cnts l := by
    intro l
    induction l with
    | nil => intro _; simp [pre.pres, cnts]
    | cons a l ih =>
      intro h
      have h1 := h a (by simp)
      have h2 := ih fun k hk => h k (by simp [hk])
      rw [pre.pres, cnts, List.length_append]; omega
  have := this ks ih
  omega
end Pred
theorem errs_kids {v : SEnv} {o : Int} {s : Str} {n : Int} {ks : List Pred} (h : (ofS v (.mk o s n ks)).2 = 0) : (∀ k ∈ ks, (ofS v k).2 = 0) ∧ ofS v (.mk o s n ks) = nodeS v o s (ks.map fun k => (ofS v k).1) := by
  rw [ofS_eq] at h ⊢
  by_cases he : (ofS.errs v ks != 0) = true
  · rw [if_pos he] at h
    simp at he
    exact absurd h he
  · rw [if_neg he] at h ⊢
    exact ⟨errs_zero (by simpa using he), rfl⟩
theorem ofS_of_kids {v : SEnv} {o : Int} {s : Str} {n : Int} {ks : List Pred} (h : ∀ k ∈ ks, (ofS v k).2 = 0) : ofS v (.mk o s n ks) = nodeS v o s (ks.map fun k => (ofS v k).1) := by
  rw [ofS_eq, errs_all h]; rfl
theorem ofS_subst {v : SEnv} {x : Str} {by' : Pred} {t : Str} (hb : ofS v by' = (t, 0)) (hx : findVar v.vars x = (t, true)) (p : Pred) (h : (ofS v p).2 = 0) : ofS v (subAll [x] [by'] p) = ofS v p := by
  induction p using Pred.ind with
  | h o s n ks ih =>
  obtain ⟨hk, he⟩ := errs_kids h
  rw [subAll_eq]
  by_cases hc : (o == 3 && (decide (findIx s 0 [x] ≥ 0) && decide (findIx s 0 [x] < (([by'] : List Pred).length : Int)))) = true
  · rw [if_pos hc]
    simp only [Bool.and_eq_true, beq_iff_eq, decide_eq_true_eq] at hc
    obtain ⟨rfl, h1, _⟩ := hc
    have hsx : x = s := by
      simp only [findIx] at h1
      by_cases e : x = s
      · exact e
      · rw [if_neg e] at h1; omega
    subst hsx
    have hz : findIx x 0 [x] = 0 := by simp [findIx]
    rw [he, hz]
    simp only [nodeS, hx]
    exact hb
  · rw [if_neg hc, he]
    have hmap : ∀ k ∈ ks.map (subAll [x] [by']), (ofS v k).2 = 0 := by
      intro k hk'
      obtain ⟨k', hk'', rfl⟩ := List.mem_map.1 hk'
      rw [ih k' hk'' (hk k' hk'')]; exact hk k' hk''
    rw [ofS_of_kids hmap, List.map_map]
    congr 1
    refine List.map_congr_left fun k hk' => ?_
    simp only [Function.comp]
    rw [ih k hk' (hk k hk')]
theorem free_found {v : SEnv} (p : Pred) (h : (ofS v p).2 = 0) : ∀ q ∈ p.pre, q.op = 3 → (findVar v.vars q.name).2 = true := by
  induction p using Pred.ind with
  | h o s n ks ih =>
  obtain ⟨hk, he⟩ := errs_kids h
  intro q hq ho
  rw [Pred.pre_eq] at hq
  rcases List.mem_cons.1 hq with rfl | hq
  · have ho : o = 3 := ho
    subst ho
    rw [he] at h
    simp only [nodeS] at h
    show (findVar v.vars s).2 = true
    cases hf : (findVar v.vars s).2 with
    | true => rfl
    | false => simp [hf] at h
  · have : ∀ l : List Pred, q ∈ Pred.pre.pres l → ∃ k ∈ l, q ∈ k.pre := by
      intro l
      induction l with
      | nil => intro h; simp [Pred.pre.pres] at h
      | cons a l ih =>
        intro h
        rw [Pred.pre.pres] at h
        rcases List.mem_append.1 h with h | h
        · exact ⟨a, by simp, h⟩
        · obtain ⟨k, hk, h⟩ := ih h; exact ⟨k, by simp [hk], h⟩
    obtain ⟨k, hk', hq⟩ := this ks hq
    exact ih k hk' (hk k hk') q hq ho
theorem mem_freeS {p : Pred} {x : Str} (h : x ∈ freeS p) : ∃ q ∈ p.pre, q.op = 3 ∧ q.name = x := by
  unfold freeS at h
  rcases mem_unionS.1 h with h | h
  · unfold freeL at h
    obtain ⟨q, hq, rfl⟩ := List.mem_map.1 h
    obtain ⟨h1, h2⟩ := List.mem_filter.1 hq
    exact ⟨q, h1, by simpa using h2, rfl⟩
  · cases h
theorem OfS_ok {v : SEnv} {p : Pred} (h : (OfS v p).2 = 0) : p.checkE = 0 ∧ (ofS v p).2 = 0 ∧ OfS v p = ofS v p := by
  unfold OfS at h ⊢
  by_cases hc : (p.checkE != 0) = true
  · rw [if_pos hc] at h; simp at hc; exact absurd h hc
  · rw [if_neg hc] at h ⊢; exact ⟨by simpa using hc, h, rfl⟩
theorem OfS_check {v : SEnv} {p : Pred} (h : p.checkE = 0) : OfS v p = ofS v p := by
  unfold OfS; rw [h]; rfl
structure Law9u (E : AEnv) : Prop extends Law9c E where
  union : UnionLaw E
  it : ∀ p, E.It pred_before_1 [.ref (Pred.cells p)] (yields p.pre)
set_option maxRecDepth 100000
variable {E : AEnv} (L : Law9u E)
include L
theorem SortingReplaces_ev (v : SEnv) (p by' : Pred) (hp : p.cnt ≤ 1048576) : E.C l09_SortingReplaces [.agg v.cells, .agg p.cells, .agg by'.cells] (.one (.bool true)) := by
  have hl := l09_light_ev L.sys v
  have hn1 := r07_Nodes_ev L.sys p
  have hn2 := r07_Nodes_ev L.sys by'
  have hw := L.toLaw9.awake
  have ho := fun h p => L.of v p h
  have hfr := pred_Free_ev L.sys L.union L.it p (Nat.le_trans (Pred.pre_cnt p) hp)
  have hvar := fun s => r06_Var_ev L.sys v s
  have hsub := fun s h1 h2 => pred_Subst_ev L.sys s by' p h1 h2
  have hck := L.check
  refine L.sys.l09_SortingReplaces _ _ ⟨Nat.le_of_ble_eq_true rfl, ?_⟩
  have hok : lightB v = true → v.Ok := lightB_ok
  unfold two at *
  rw [SEnv.cells] at *
  simp only [Pred.cells_eq p, Pred.cells_eq by'] at hn1 hn2 hfr hsub ⊢
  have ho1 : v.Ok → _ := fun h => ho h p
  have ho2 : v.Ok → _ := fun h => ho h by'
  simp only [Pred.cells_eq p, Pred.cells_eq by'] at ho1 ho2
  simp only [fn_l09_SortingReplaces, go_sem, Nat.reduceEqDiff, reduceCtorEq, Nat.reduceAdd, Nat.reduceLeDiff, Nat.reduceMul, Nat.reduceLT, Int.reduceToNat, Int.reduceLT, Int.reduceLE, Int.reduceEq, Nat.reduceSub]
  refine call_by hl ?_
  simp only [go_sem, Nat.reduceEqDiff, reduceCtorEq, Nat.reduceAdd, Nat.reduceLeDiff, Nat.reduceMul, Nat.reduceLT, Int.reduceToNat, Int.reduceLT, Int.reduceLE, Int.reduceEq, Nat.reduceSub]
  refine call_g hn1 ?_
  simp only [go_sem, Nat.reduceEqDiff, reduceCtorEq, Nat.reduceAdd, Nat.reduceLeDiff, Nat.reduceMul, Nat.reduceLT, Int.reduceToNat, Int.reduceLT, Int.reduceLE, Int.reduceEq, Nat.reduceSub]
  refine call_g hn2 ?_
  simp only [go_sem, Nat.reduceEqDiff, reduceCtorEq, Nat.reduceAdd, Nat.reduceLeDiff, Nat.reduceMul, Nat.reduceLT, Int.reduceToNat, Int.reduceLT, Int.reduceLE, Int.reduceEq, Nat.reduceSub]
  cases h1 : (!lightB v || decide (p.nodes > 200) || decide (by'.nodes > 200)) with
  | true =>
    simp only [go_sem, Nat.reduceEqDiff, reduceCtorEq, Nat.reduceAdd, Nat.reduceLeDiff, Nat.reduceMul, Nat.reduceLT, Int.reduceToNat, Int.reduceLT, Int.reduceLE, Int.reduceEq, Nat.reduceSub]
    refine call_by hw ?_
    simp only [go_sem, Nat.reduceEqDiff, reduceCtorEq, Nat.reduceAdd, Nat.reduceLeDiff, Nat.reduceMul, Nat.reduceLT, Int.reduceToNat, Int.reduceLT, Int.reduceLE, Int.reduceEq, Nat.reduceSub]
  | false =>
    have hv : v.Ok := hok (by revert h1; cases lightB v <;> simp)
    have ho1 := ho1 hv
    have ho2 := ho2 hv
    simp only [go_sem, Nat.reduceEqDiff, reduceCtorEq, Nat.reduceAdd, Nat.reduceLeDiff, Nat.reduceMul, Nat.reduceLT, Int.reduceToNat, Int.reduceLT, Int.reduceLE, Int.reduceEq, Nat.reduceSub]
    refine call_by ho1 ?_
    simp only [go_sem, Nat.reduceEqDiff, reduceCtorEq, Nat.reduceAdd, Nat.reduceLeDiff, Nat.reduceMul, Nat.reduceLT, Int.reduceToNat, Int.reduceLT, Int.reduceLE, Int.reduceEq, Nat.reduceSub]
    refine call_by ho2 ?_
    simp only [go_sem, Nat.reduceEqDiff, reduceCtorEq, Nat.reduceAdd, Nat.reduceLeDiff, Nat.reduceMul, Nat.reduceLT, Int.reduceToNat, Int.reduceLT, Int.reduceLE, Int.reduceEq, Nat.reduceSub]
    cases h2 : ((OfS v p).2 != 0 || (OfS v by').2 != 0) with
    | true =>
      simp only [go_sem, Nat.reduceEqDiff, reduceCtorEq, Nat.reduceAdd, Nat.reduceLeDiff, Nat.reduceMul, Nat.reduceLT, Int.reduceToNat, Int.reduceLT, Int.reduceLE, Int.reduceEq, Nat.reduceSub]
      refine call_by hw ?_
      simp only [go_sem, Nat.reduceEqDiff, reduceCtorEq, Nat.reduceAdd, Nat.reduceLeDiff, Nat.reduceMul, Nat.reduceLT, Int.reduceToNat, Int.reduceLT, Int.reduceLE, Int.reduceEq, Nat.reduceSub]
    | false =>
      simp only [Bool.or_eq_false_iff, bne_eq_false_iff_eq] at h2
      obtain ⟨hc1, hs1, he1⟩ := OfS_ok h2.1
      obtain ⟨hc2, hs2, he2⟩ := OfS_ok h2.2
      simp only [go_sem, Nat.reduceEqDiff, reduceCtorEq, Nat.reduceAdd, Nat.reduceLeDiff, Nat.reduceMul, Nat.reduceLT, Int.reduceToNat, Int.reduceLT, Int.reduceLE, Int.reduceEq, Nat.reduceSub]
      refine call_by hfr ?_
      simp only [go_sem, Nat.reduceEqDiff, reduceCtorEq, Nat.reduceAdd, Nat.reduceLeDiff, Nat.reduceMul, Nat.reduceLT, Int.reduceToNat, Int.reduceLT, Int.reduceLE, Int.reduceEq, Nat.reduceSub]
      refine loop_named fun K hK => ?_
      generalize hFL : freeS p = fl
      have hin : ∀ x ∈ fl, (findVar v.vars x).2 = true := fun x hx => by
        rw [← hFL] at hx
        obtain ⟨q, h1, h2, rfl⟩ := mem_freeS hx
        exact free_found p hs1 q h1 h2
      refine loop_list fl (fun _ => True) (fun done rest => ⟨[(12, .d (.int .i64 done.length)), (11, .d (.lst (fl.map fun s => [.str s]))), (9, .d (.str (OfS v by').1)), (7, .d (.str (OfS v p).1)), (3, .ptr 3 0), (4, .ptr 4 0), (5, .ptr 5 0)], [(3, [.d (.lst (v.vars.map SVar.cells)), .d (.lst (v.syms.map SSym.cells)), .d (.lst (v.holes.map SHole.cells))]), (4, [.d (.int .i64 p.op), .d (.str p.name), .d (.int .i64 p.n), .d (.lst (p.kids.map Pred.cells))]), (5, [.d (.int .i64 by'.op), .d (.str by'.name), .d (.int .i64 by'.n), .d (.lst (by'.kids.map Pred.cells))])], []⟩) ?_ trivial ?_ ?_
      · exact Ent_plain (by simp only [go_sem, Nat.reduceEqDiff, reduceCtorEq, Nat.reduceAdd, Nat.reduceLeDiff, Nat.reduceMul, Nat.reduceLT, Int.reduceToNat, Int.reduceLT, Int.reduceLE, Int.reduceEq, Nat.reduceSub, Option.isSome_some])
      · intro done x r hl' _
        have hlt := lt_mid hl'
        have hx : (fl.map fun k => [D.str k]).getD done.length [] = [.str x] := by rw [hl']; exact getD_mid _ _ _ _ _
        have hls : (∀ e ∈ fl.map fun k => [D.str k], e.length = 1) = True := eq_true (by simp)
        have hfx := hin x (by rw [hl']; simp)
        simp only [fn_l09_SortingReplaces_L1, go_sem, Nat.reduceEqDiff, reduceCtorEq, Nat.reduceAdd, Nat.reduceLeDiff, Nat.reduceMul, Nat.reduceLT, Int.reduceToNat, Int.reduceLT, Int.reduceLE, Int.reduceEq, Nat.reduceSub, hlt, hx, hls]
        intro hlen
        have hw' : IntKind.i64.wrap ((done.length : Int) + 1) = ((done.length + 1 : Nat) : Int) := wrap_succ (by omega)
        refine call_by (hvar x) ?_
        simp only [go_sem, Nat.reduceEqDiff, reduceCtorEq, Nat.reduceAdd, Nat.reduceLeDiff, Nat.reduceMul, Nat.reduceLT, Int.reduceToNat, Int.reduceLT, Int.reduceLE, Int.reduceEq, Nat.reduceSub, hlt, hx, hls]
        refine call_by (hsub x (tame_of_check hc2) (tame_of_check hc1)) ?_
        simp only [go_sem, Nat.reduceEqDiff, reduceCtorEq, Nat.reduceAdd, Nat.reduceLeDiff, Nat.reduceMul, Nat.reduceLT, Int.reduceToNat, Int.reduceLT, Int.reduceLE, Int.reduceEq, Nat.reduceSub, hfx]
        refine call_gi (fun _ => hck (subAll [x] [by'] p)) ?_
        simp only [go_sem, Nat.reduceEqDiff, reduceCtorEq, Nat.reduceAdd, Nat.reduceLeDiff, Nat.reduceMul, Nat.reduceLT, Int.reduceToNat, Int.reduceLT, Int.reduceLE, Int.reduceEq, Nat.reduceSub]
        cases h3 : (!((findVar v.vars x).1 == (OfS v by').1) || (subAll [x] [by'] p).checkE != 0) with
        | true =>
          simp only [go_sem, Nat.reduceEqDiff, reduceCtorEq, Nat.reduceAdd, Nat.reduceLeDiff, Nat.reduceMul, Nat.reduceLT, Int.reduceToNat, Int.reduceLT, Int.reduceLE, Int.reduceEq, Nat.reduceSub, hw', List.length_append]
          exact Ent_plain (by simp only [go_sem, Nat.reduceEqDiff, reduceCtorEq, Nat.reduceAdd, Nat.reduceLeDiff, Nat.reduceMul, Nat.reduceLT, Int.reduceToNat, Int.reduceLT, Int.reduceLE, Int.reduceEq, Nat.reduceSub, Option.isSome_some])
        | false =>
          simp only [Bool.or_eq_false_iff, bne_eq_false_iff_eq, Bool.not_eq_false', beq_iff_eq] at h3
          have hq : OfS v (subAll [x] [by'] p) = OfS v p := by
            rw [OfS_check h3.2, he1]
            refine ofS_subst (t := (OfS v by').1) ?_ (Prod.ext h3.1 hfx) p hs1
            rw [he2]; exact Prod.ext rfl hs2
          have hoq := ho hv (subAll [x] [by'] p)
          rw [hq] at hoq
          have hs1' : (OfS v p).2 = 0 := h2.1
          simp only [go_sem, Nat.reduceEqDiff, reduceCtorEq, Nat.reduceAdd, Nat.reduceLeDiff, Nat.reduceMul, Nat.reduceLT, Int.reduceToNat, Int.reduceLT, Int.reduceLE, Int.reduceEq, Nat.reduceSub]
          refine call_by hoq ?_
          simp only [go_sem, Nat.reduceEqDiff, reduceCtorEq, Nat.reduceAdd, Nat.reduceLeDiff, Nat.reduceMul, Nat.reduceLT, Int.reduceToNat, Int.reduceLT, Int.reduceLE, Int.reduceEq, Nat.reduceSub, hs1', hw', beq_self_eq_true, bne_self_eq_false, List.length_append]
          exact Ent_plain (by simp only [go_sem, Nat.reduceEqDiff, reduceCtorEq, Nat.reduceAdd, Nat.reduceLeDiff, Nat.reduceMul, Nat.reduceLT, Int.reduceToNat, Int.reduceLT, Int.reduceLE, Int.reduceEq, Nat.reduceSub, Option.isSome_some])
      · intro _
        subst hK
        simp only [fn_l09_SortingReplaces_L1, go_sem, Nat.reduceEqDiff, reduceCtorEq, Nat.reduceAdd, Nat.reduceLeDiff, Nat.reduceMul, Nat.reduceLT, Int.reduceToNat, Int.reduceLT, Int.reduceLE, Int.reduceEq, Nat.reduceSub]
        intro _
        refine call_by hw ?_
        simp only [go_sem, Nat.reduceEqDiff, reduceCtorEq, Nat.reduceAdd, Nat.reduceLeDiff, Nat.reduceMul, Nat.reduceLT, Int.reduceToNat, Int.reduceLT, Int.reduceLE, Int.reduceEq, Nat.reduceSub]
end Go.Abs
end
