/-
  CONTRACTS: what the functions answer, as plain Lean functions, each by evaluation at the abstract machine.
-/
import Derived.KernelRfl
import Derived.Test.YtfkkgglknnegnaaDoorCon2
section
set_option linter.unusedSimpArgs false
set_option linter.unusedVariables false
set_option linter.unusedSectionVars false
namespace Go.Abs
def lightB (v : SEnv) : Bool := !(decide ((v.vars.length : Int) > 26) || decide ((v.syms.length : Int) > 20) || decide ((v.holes.length : Int) > 8)) && (v.syms.all (fun s => !decide ((s.args.length : Int) > 8)) && v.holes.all (fun h => !decide ((h.params.length : Int) > 12)))
def smallB (l : List Pred) : Bool := l.all fun p => !(decide (p.nodes > 410) || decide (p.depth > 45))
theorem lightB_ok {v : SEnv} (h : lightB v = true) : v.Ok := by
  unfold lightB at h
  simp only [Bool.and_eq_true, List.all_eq_true] at h
  refine ⟨fun s hs => ?_, fun s hs => ?_⟩
  · have := h.2.1 s hs
    simp at this
    unfold Small; omega
  · have := h.2.2 s hs
    simp at this
    unfold Small; omega
theorem allB_mid {α : Type} {f : α → Bool} {l a r : List α} {x : α} (hl : l = a ++ x :: r) (ha : ∀ y ∈ a, f y = true) : l.all f = (f x && r.all f) := by
  rw [hl, List.all_append, List.all_cons, List.all_eq_true.2 ha, Bool.true_and]
def sList : Str := [76, 105, 115, 116]
def sLen : Str := [108, 101, 110]
def envV : SEnv := ⟨[⟨[120], sInt⟩, ⟨[108], sList⟩], [⟨sLen, [sList], sInt⟩], []⟩
def pv (s : Str) : Pred := .mk 3 s 0 []
def papp (s : Str) (l : List Pred) : Pred := .mk 4 s 0 l
def p2 (o : Int) (a b : Pred) : Pred := .mk o [] 0 [a, b]
set_option maxRecDepth 100000
variable {E : AEnv} (Z : Sys E)
include Z
theorem l09_light_ev (v : SEnv) : E.C l09_light [.agg v.cells] (.one (.bool (lightB v))) := by
  refine Z.l09_light _ _ ⟨Nat.le_of_ble_eq_true rfl, ?_⟩
  generalize hR : lightB v = R
  unfold lightB at hR
  rw [SEnv.cells]
  simp only [fn_l09_light, go_sem, Nat.reduceEqDiff, reduceCtorEq, Nat.reduceAdd, Nat.reduceLeDiff, Bool.false_eq_true, Nat.reduceMul, Bool.true_eq_false, Nat.reduceLT, gR1, gR2, gR3, gR4, gR5, gR6, gR7, gR8, gR9, gR10, gR11, gR12, gR13, gR14, gR15, Int.reduceToNat, Int.cast_ofNat_Int, Int.natCast_one, Int.reduceLT, Int.reduceLE, List.getD_nil, Int.toNat_natCast, Int.natCast_zero, false_and, and_false, Int.toNat_zero, Int.toNat_one, Int.reduceEq, Nat.reduceSub]
  intro hv hs hh
  cases h0 : (decide ((v.vars.length : Int) > 26) || decide ((v.syms.length : Int) > 20) || decide ((v.holes.length : Int) > 8)) with
  | true => simp only [h0, go_sem, Nat.reduceEqDiff, reduceCtorEq, Nat.reduceAdd, Nat.reduceLeDiff, Bool.false_eq_true, Nat.reduceMul, Bool.true_eq_false, Nat.reduceLT, gR1, gR2, gR3, gR4, gR5, gR6, gR7, gR8, gR9, gR10, gR11, gR12, gR13, gR14, gR15, Int.reduceToNat, Int.cast_ofNat_Int, Int.natCast_one, Int.reduceLT, Int.reduceLE, List.getD_nil, Int.toNat_natCast, Int.natCast_zero, false_and, and_false, Int.toNat_zero, Int.toNat_one, Int.reduceEq, Nat.reduceSub] at hR ⊢; exact hR
  | false =>
  simp only [h0, go_sem, Nat.reduceEqDiff, reduceCtorEq, Nat.reduceAdd, Nat.reduceLeDiff, Bool.false_eq_true, Nat.reduceMul, Bool.true_eq_false, Nat.reduceLT, gR1, gR2, gR3, gR4, gR5, gR6, gR7, gR8, gR9, gR10, gR11, gR12, gR13, gR14, gR15, Int.reduceToNat, Int.cast_ofNat_Int, Int.natCast_one, Int.reduceLT, Int.reduceLE, List.getD_nil, Int.toNat_natCast, Int.natCast_zero, false_and, and_false, Int.toNat_zero, Int.toNat_one, Int.reduceEq, Nat.reduceSub] at hR ⊢
  refine loop_list v.syms (fun done => ∀ y ∈ done, (!decide ((y.args.length : Int) > 8)) = true) (fun done rest => ⟨[(3, .d (.int .i64 done.length)), (1, .ptr 1 0)],
    [(1, [.d (.lst (v.vars.map SVar.cells)), .d (.lst (v.syms.map SSym.cells)), .d (.lst (v.holes.map SHole.cells))])], []⟩) ?_ (by simp) ?_ ?_
  · exact Ent_plain (by simp only [go_sem, Nat.reduceEqDiff, reduceCtorEq, Nat.reduceAdd, Nat.reduceLeDiff, Bool.false_eq_true, Nat.reduceMul, Bool.true_eq_false, Nat.reduceLT, gR1, gR2, gR3, gR4, gR5, gR6, gR7, gR8, gR9, gR10, gR11, gR12, gR13, gR14, gR15, Int.reduceToNat, Int.cast_ofNat_Int, Int.natCast_one, Int.reduceLT, Int.reduceLE, List.getD_nil, Int.toNat_natCast, Int.natCast_zero, false_and, and_false, Int.toNat_zero, Int.toNat_one, Int.reduceEq, Nat.reduceSub, Option.isSome_some])
  · intro done x r hl hI
    have hx := getD_at (f := SSym.cells) (d := []) hl
    have hlt := lt_mid hl
    rw [allB_mid hl hI] at hR
    simp only [fn_l09_light_L2, go_sem, Nat.reduceEqDiff, reduceCtorEq, Nat.reduceAdd, Nat.reduceLeDiff, Bool.false_eq_true, Nat.reduceMul, Bool.true_eq_false, Nat.reduceLT, gR1, gR2, gR3, gR4, gR5, gR6, gR7, gR8, gR9, gR10, gR11, gR12, gR13, gR14, gR15, Int.reduceToNat, Int.cast_ofNat_Int, Int.natCast_one, Int.reduceLT, Int.reduceLE, List.getD_nil, Int.toNat_natCast, Int.natCast_zero, false_and, and_false, Int.toNat_zero, Int.toNat_one, Int.reduceEq, Nat.reduceSub, hx, hlt, SSym.cells]
    intro hlen _
    have hw : IntKind.i64.wrap ((done.length : Int) + 1) = ((done.length + 1 : Nat) : Int) := wrap_succ (by omega)
    cases h1 : decide ((x.args.length : Int) > 8) with
    | true => simp only [h1, go_sem, Nat.reduceEqDiff, reduceCtorEq, Nat.reduceAdd, Nat.reduceLeDiff, Bool.false_eq_true, Nat.reduceMul, Bool.true_eq_false, Nat.reduceLT, gR1, gR2, gR3, gR4, gR5, gR6, gR7, gR8, gR9, gR10, gR11, gR12, gR13, gR14, gR15, Int.reduceToNat, Int.cast_ofNat_Int, Int.natCast_one, Int.reduceLT, Int.reduceLE, List.getD_nil, Int.toNat_natCast, Int.natCast_zero, false_and, and_false, Int.toNat_zero, Int.toNat_one, Int.reduceEq, Nat.reduceSub] at hR ⊢; exact hR
    | false =>
      simp only [go_sem, Nat.reduceEqDiff, reduceCtorEq, Nat.reduceAdd, Nat.reduceLeDiff, Bool.false_eq_true, Nat.reduceMul, Bool.true_eq_false, Nat.reduceLT, gR1, gR2, gR3, gR4, gR5, gR6, gR7, gR8, gR9, gR10, gR11, gR12, gR13, gR14, gR15, Int.reduceToNat, Int.cast_ofNat_Int, Int.natCast_one, Int.reduceLT, Int.reduceLE, List.getD_nil, Int.toNat_natCast, Int.natCast_zero, false_and, and_false, Int.toNat_zero, Int.toNat_one, Int.reduceEq, Nat.reduceSub, hw, List.length_append]
      exact ⟨Ent_plain (by simp only [go_sem, Nat.reduceEqDiff, reduceCtorEq, Nat.reduceAdd, Nat.reduceLeDiff, Bool.false_eq_true, Nat.reduceMul, Bool.true_eq_false, Nat.reduceLT, gR1, gR2, gR3, gR4, gR5, gR6, gR7, gR8, gR9, gR10, gR11, gR12, gR13, gR14, gR15, Int.reduceToNat, Int.cast_ofNat_Int, Int.natCast_one, Int.reduceLT, Int.reduceLE, List.getD_nil, Int.toNat_natCast, Int.natCast_zero, false_and, and_false, Int.toNat_zero, Int.toNat_one, Int.reduceEq, Nat.reduceSub, Option.isSome_some]), app_all hI (by rw [h1]; rfl)⟩
  · intro hI
    have hall : v.syms.all (fun s => !decide ((s.args.length : Int) > 8)) = true := List.all_eq_true.2 hI
    rw [hall, Bool.true_and] at hR
    simp only [fn_l09_light_L2, go_sem, Nat.reduceEqDiff, reduceCtorEq, Nat.reduceAdd, Nat.reduceLeDiff, Bool.false_eq_true, Nat.reduceMul, Bool.true_eq_false, Nat.reduceLT, gR1, gR2, gR3, gR4, gR5, gR6, gR7, gR8, gR9, gR10, gR11, gR12, gR13, gR14, gR15, Int.reduceToNat, Int.cast_ofNat_Int, Int.natCast_one, Int.reduceLT, Int.reduceLE, List.getD_nil, Int.toNat_natCast, Int.natCast_zero, false_and, and_false, Int.toNat_zero, Int.toNat_one, Int.reduceEq, Nat.reduceSub]
    intro _
    refine loop_list v.holes (fun done => ∀ y ∈ done, (!decide ((y.params.length : Int) > 12)) = true) (fun done rest => ⟨[(4, .d (.int .i64 done.length)), (1, .ptr 1 0)],
      [(1, [.d (.lst (v.vars.map SVar.cells)), .d (.lst (v.syms.map SSym.cells)), .d (.lst (v.holes.map SHole.cells))])], []⟩) ?_ (by simp) ?_ ?_
    · exact Ent_plain (by simp only [go_sem, Nat.reduceEqDiff, reduceCtorEq, Nat.reduceAdd, Nat.reduceLeDiff, Bool.false_eq_true, Nat.reduceMul, Bool.true_eq_false, Nat.reduceLT, gR1, gR2, gR3, gR4, gR5, gR6, gR7, gR8, gR9, gR10, gR11, gR12, gR13, gR14, gR15, Int.reduceToNat, Int.cast_ofNat_Int, Int.natCast_one, Int.reduceLT, Int.reduceLE, List.getD_nil, Int.toNat_natCast, Int.natCast_zero, false_and, and_false, Int.toNat_zero, Int.toNat_one, Int.reduceEq, Nat.reduceSub, Option.isSome_some])
    · intro done x r hl hI
      have hx := getD_at (f := SHole.cells) (d := []) hl
      have hlt := lt_mid hl
      rw [allB_mid hl hI] at hR
      simp only [fn_l09_light_L1, go_sem, Nat.reduceEqDiff, reduceCtorEq, Nat.reduceAdd, Nat.reduceLeDiff, Bool.false_eq_true, Nat.reduceMul, Bool.true_eq_false, Nat.reduceLT, gR1, gR2, gR3, gR4, gR5, gR6, gR7, gR8, gR9, gR10, gR11, gR12, gR13, gR14, gR15, Int.reduceToNat, Int.cast_ofNat_Int, Int.natCast_one, Int.reduceLT, Int.reduceLE, List.getD_nil, Int.toNat_natCast, Int.natCast_zero, false_and, and_false, Int.toNat_zero, Int.toNat_one, Int.reduceEq, Nat.reduceSub, hx, hlt, SHole.cells]
      intro hlen _
      have hw : IntKind.i64.wrap ((done.length : Int) + 1) = ((done.length + 1 : Nat) : Int) := wrap_succ (by omega)
      cases h1 : decide ((x.params.length : Int) > 12) with
      | true => simp only [h1, go_sem, Nat.reduceEqDiff, reduceCtorEq, Nat.reduceAdd, Nat.reduceLeDiff, Bool.false_eq_true, Nat.reduceMul, Bool.true_eq_false, Nat.reduceLT, gR1, gR2, gR3, gR4, gR5, gR6, gR7, gR8, gR9, gR10, gR11, gR12, gR13, gR14, gR15, Int.reduceToNat, Int.cast_ofNat_Int, Int.natCast_one, Int.reduceLT, Int.reduceLE, List.getD_nil, Int.toNat_natCast, Int.natCast_zero, false_and, and_false, Int.toNat_zero, Int.toNat_one, Int.reduceEq, Nat.reduceSub] at hR ⊢; exact hR
      | false =>
        simp only [go_sem, Nat.reduceEqDiff, reduceCtorEq, Nat.reduceAdd, Nat.reduceLeDiff, Bool.false_eq_true, Nat.reduceMul, Bool.true_eq_false, Nat.reduceLT, gR1, gR2, gR3, gR4, gR5, gR6, gR7, gR8, gR9, gR10, gR11, gR12, gR13, gR14, gR15, Int.reduceToNat, Int.cast_ofNat_Int, Int.natCast_one, Int.reduceLT, Int.reduceLE, List.getD_nil, Int.toNat_natCast, Int.natCast_zero, false_and, and_false, Int.toNat_zero, Int.toNat_one, Int.reduceEq, Nat.reduceSub, hw, List.length_append]
        exact ⟨Ent_plain (by simp only [go_sem, Nat.reduceEqDiff, reduceCtorEq, Nat.reduceAdd, Nat.reduceLeDiff, Bool.false_eq_true, Nat.reduceMul, Bool.true_eq_false, Nat.reduceLT, gR1, gR2, gR3, gR4, gR5, gR6, gR7, gR8, gR9, gR10, gR11, gR12, gR13, gR14, gR15, Int.reduceToNat, Int.cast_ofNat_Int, Int.natCast_one, Int.reduceLT, Int.reduceLE, List.getD_nil, Int.toNat_natCast, Int.natCast_zero, false_and, and_false, Int.toNat_zero, Int.toNat_one, Int.reduceEq, Nat.reduceSub, Option.isSome_some]), app_all hI (by rw [h1]; rfl)⟩
    · intro hI
      have hall : v.holes.all (fun s => !decide ((s.params.length : Int) > 12)) = true := List.all_eq_true.2 hI
      rw [hall] at hR
      subst hR
      simp only [fn_l09_light_L1, go_sem, Nat.reduceEqDiff, reduceCtorEq, Nat.reduceAdd, Nat.reduceLeDiff, Bool.false_eq_true, Nat.reduceMul, Bool.true_eq_false, Nat.reduceLT, gR1, gR2, gR3, gR4, gR5, gR6, gR7, gR8, gR9, gR10, gR11, gR12, gR13, gR14, gR15, Int.reduceToNat, Int.cast_ofNat_Int, Int.natCast_one, Int.reduceLT, Int.reduceLE, List.getD_nil, Int.toNat_natCast, Int.natCast_zero, false_and, and_false, Int.toNat_zero, Int.toNat_one, Int.reduceEq, Nat.reduceSub, implies_true]
theorem l09_small_ev (l : List Pred) : E.C l09_small [.one (.lst (l.map Pred.cells))] (.one (.bool (smallB l))) := by
  have hn := r07_Nodes_ev Z
  have hd := r07_Depth_ev Z
  refine Z.l09_small _ _ ⟨Nat.le_of_ble_eq_true rfl, ?_⟩
  generalize hR : smallB l = R
  unfold smallB at hR
  simp only [fn_l09_small, go_sem, Nat.reduceEqDiff, reduceCtorEq, Nat.reduceAdd, Nat.reduceLeDiff, Bool.false_eq_true, Nat.reduceMul, Bool.true_eq_false, Nat.reduceLT, gR1, gR2, gR3, gR4, gR5, gR6, gR7, gR8, gR9, gR10, gR11, gR12, gR13, gR14, gR15, Int.reduceToNat, Int.cast_ofNat_Int, Int.natCast_one, Int.reduceLT, Int.reduceLE, List.getD_nil, Int.toNat_natCast, Int.natCast_zero, false_and, and_false, Int.toNat_zero, Int.toNat_one, Int.reduceEq, Nat.reduceSub]
  refine loop_list l (fun done => ∀ y ∈ done, (!(decide (y.nodes > 410) || decide (y.depth > 45))) = true) (fun done rest => ⟨[(3, .d (.int .i64 done.length)), (0, .d (.lst (l.map Pred.cells)))], [], []⟩) ?_ (by simp) ?_ ?_
  · exact Ent_plain (by simp only [go_sem, Nat.reduceEqDiff, reduceCtorEq, Nat.reduceAdd, Nat.reduceLeDiff, Bool.false_eq_true, Nat.reduceMul, Bool.true_eq_false, Nat.reduceLT, gR1, gR2, gR3, gR4, gR5, gR6, gR7, gR8, gR9, gR10, gR11, gR12, gR13, gR14, gR15, Int.reduceToNat, Int.cast_ofNat_Int, Int.natCast_one, Int.reduceLT, Int.reduceLE, List.getD_nil, Int.toNat_natCast, Int.natCast_zero, false_and, and_false, Int.toNat_zero, Int.toNat_one, Int.reduceEq, Nat.reduceSub])
  · intro done x r hl hI
    have hlt := lt_mid hl
    rw [allB_mid hl hI] at hR
    simp only [fn_l09_small_L1, go_sem, Nat.reduceEqDiff, reduceCtorEq, Nat.reduceAdd, Nat.reduceLeDiff, Bool.false_eq_true, Nat.reduceMul, Bool.true_eq_false, Nat.reduceLT, gR1, gR2, gR3, gR4, gR5, gR6, gR7, gR8, gR9, gR10, gR11, gR12, gR13, gR14, gR15, Int.reduceToNat, Int.cast_ofNat_Int, Int.natCast_one, Int.reduceLT, Int.reduceLE, List.getD_nil, Int.toNat_natCast, Int.natCast_zero, false_and, and_false, Int.toNat_zero, Int.toNat_one, Int.reduceEq, Nat.reduceSub, getD_midP hl, hlt]
    intro hlen
    have hw : IntKind.i64.wrap ((done.length : Int) + 1) = ((done.length + 1 : Nat) : Int) := wrap_succ (by omega)
    refine call_by (hn x) ?_
    simp only [go_sem, Nat.reduceEqDiff, reduceCtorEq, Nat.reduceAdd, Nat.reduceLeDiff, Bool.false_eq_true, Nat.reduceMul, Bool.true_eq_false, Nat.reduceLT, gR1, gR2, gR3, gR4, gR5, gR6, gR7, gR8, gR9, gR10, gR11, gR12, gR13, gR14, gR15, Int.reduceToNat, Int.cast_ofNat_Int, Int.natCast_one, Int.reduceLT, Int.reduceLE, List.getD_nil, Int.toNat_natCast, Int.natCast_zero, false_and, and_false, Int.toNat_zero, Int.toNat_one, Int.reduceEq, Nat.reduceSub, getD_midP hl, hlt]
    refine call_g (hd x) ?_
    simp only [go_sem, Nat.reduceEqDiff, reduceCtorEq, Nat.reduceAdd, Nat.reduceLeDiff, Bool.false_eq_true, Nat.reduceMul, Bool.true_eq_false, Nat.reduceLT, gR1, gR2, gR3, gR4, gR5, gR6, gR7, gR8, gR9, gR10, gR11, gR12, gR13, gR14, gR15, Int.reduceToNat, Int.cast_ofNat_Int, Int.natCast_one, Int.reduceLT, Int.reduceLE, List.getD_nil, Int.toNat_natCast, Int.natCast_zero, false_and, and_false, Int.toNat_zero, Int.toNat_one, Int.reduceEq, Nat.reduceSub]
    cases h1 : (decide (x.nodes > 410) || decide (x.depth > 45)) with
    | true => simp only [h1, go_sem, Nat.reduceEqDiff, reduceCtorEq, Nat.reduceAdd, Nat.reduceLeDiff, Bool.false_eq_true, Nat.reduceMul, Bool.true_eq_false, Nat.reduceLT, gR1, gR2, gR3, gR4, gR5, gR6, gR7, gR8, gR9, gR10, gR11, gR12, gR13, gR14, gR15, Int.reduceToNat, Int.cast_ofNat_Int, Int.natCast_one, Int.reduceLT, Int.reduceLE, List.getD_nil, Int.toNat_natCast, Int.natCast_zero, false_and, and_false, Int.toNat_zero, Int.toNat_one, Int.reduceEq, Nat.reduceSub] at hR ⊢; exact hR
    | false =>
      simp only [go_sem, Nat.reduceEqDiff, reduceCtorEq, Nat.reduceAdd, Nat.reduceLeDiff, Bool.false_eq_true, Nat.reduceMul, Bool.true_eq_false, Nat.reduceLT, gR1, gR2, gR3, gR4, gR5, gR6, gR7, gR8, gR9, gR10, gR11, gR12, gR13, gR14, gR15, Int.reduceToNat, Int.cast_ofNat_Int, Int.natCast_one, Int.reduceLT, Int.reduceLE, List.getD_nil, Int.toNat_natCast, Int.natCast_zero, false_and, and_false, Int.toNat_zero, Int.toNat_one, Int.reduceEq, Nat.reduceSub, hw, List.length_append]
      exact ⟨Ent_plain (by simp only [go_sem, Nat.reduceEqDiff, reduceCtorEq, Nat.reduceAdd, Nat.reduceLeDiff, Bool.false_eq_true, Nat.reduceMul, Bool.true_eq_false, Nat.reduceLT, gR1, gR2, gR3, gR4, gR5, gR6, gR7, gR8, gR9, gR10, gR11, gR12, gR13, gR14, gR15, Int.reduceToNat, Int.cast_ofNat_Int, Int.natCast_one, Int.reduceLT, Int.reduceLE, List.getD_nil, Int.toNat_natCast, Int.natCast_zero, false_and, and_false, Int.toNat_zero, Int.toNat_one, Int.reduceEq, Nat.reduceSub]), app_all hI (by rw [h1]; rfl)⟩
  · intro hI
    have hall : l.all (fun y => !(decide (y.nodes > 410) || decide (y.depth > 45))) = true := List.all_eq_true.2 hI
    rw [hall] at hR
    subst hR
    simp only [fn_l09_small_L1, go_sem, Nat.reduceEqDiff, reduceCtorEq, Nat.reduceAdd, Nat.reduceLeDiff, Bool.false_eq_true, Nat.reduceMul, Bool.true_eq_false, Nat.reduceLT, gR1, gR2, gR3, gR4, gR5, gR6, gR7, gR8, gR9, gR10, gR11, gR12, gR13, gR14, gR15, Int.reduceToNat, Int.cast_ofNat_Int, Int.natCast_one, Int.reduceLT, Int.reduceLE, List.getD_nil, Int.toNat_natCast, Int.natCast_zero, false_and, and_false, Int.toNat_zero, Int.toNat_one, Int.reduceEq, Nat.reduceSub, implies_true]
theorem l09_env_ev : E.C l09_env [] (.agg envV.cells) := by
  refine Z.l09_env _ _ ⟨Nat.le_of_ble_eq_true rfl, ?_⟩
  simp only [fn_l09_env, go_sem, Nat.reduceEqDiff, reduceCtorEq, Nat.reduceAdd, Nat.reduceLeDiff, Bool.false_eq_true, Nat.reduceMul, Bool.true_eq_false, Nat.reduceLT, gR1, gR2, gR3, gR4, gR5, gR6, gR7, gR8, gR9, gR10, gR11, gR12, gR13, gR14, gR15, Int.reduceToNat, Int.cast_ofNat_Int, Int.natCast_one, Int.reduceLT, Int.reduceLE, List.getD_nil, Int.toNat_natCast, Int.natCast_zero, false_and, and_false, Int.toNat_zero, Int.toNat_one, Int.reduceEq, Nat.reduceSub]
  simp only [envV, SEnv.cells, List.map_cons, List.map_nil, SVar.cells, SSym.cells, scell, sInt, sList, sLen]
theorem l09_v_ev (s : Str) : E.C l09_v [.one (.str s)] (.agg (pv s).cells) := by
  refine Z.l09_v _ _ ⟨Nat.le_of_ble_eq_true rfl, ?_⟩
  simp only [fn_l09_v, go_sem, Nat.reduceEqDiff, reduceCtorEq, Nat.reduceAdd, Nat.reduceLeDiff, Bool.false_eq_true, Nat.reduceMul, Bool.true_eq_false, Nat.reduceLT, gR1, gR2, gR3, gR4, gR5, gR6, gR7, gR8, gR9, gR10, gR11, gR12, gR13, gR14, gR15, Int.reduceToNat, Int.cast_ofNat_Int, Int.natCast_one, Int.reduceLT, Int.reduceLE, List.getD_nil, Int.toNat_natCast, Int.natCast_zero, false_and, and_false, Int.toNat_zero, Int.toNat_one, Int.reduceEq, Nat.reduceSub, pv, Pred.cells_eq, Pred.op, Pred.name, Pred.n, Pred.kids]
theorem l09_app_ev (s : Str) (l : List Pred) : E.C l09_app [.one (.str s), .one (.lst (l.map Pred.cells))] (.agg (papp s l).cells) := by
  refine Z.l09_app _ _ ⟨Nat.le_of_ble_eq_true rfl, ?_⟩
  simp only [fn_l09_app, go_sem, Nat.reduceEqDiff, reduceCtorEq, Nat.reduceAdd, Nat.reduceLeDiff, Bool.false_eq_true, Nat.reduceMul, Bool.true_eq_false, Nat.reduceLT, gR1, gR2, gR3, gR4, gR5, gR6, gR7, gR8, gR9, gR10, gR11, gR12, gR13, gR14, gR15, Int.reduceToNat, Int.cast_ofNat_Int, Int.natCast_one, Int.reduceLT, Int.reduceLE, List.getD_nil, Int.toNat_natCast, Int.natCast_zero, false_and, and_false, Int.toNat_zero, Int.toNat_one, Int.reduceEq, Nat.reduceSub, papp, Pred.cells_eq (.mk 4 s 0 l), Pred.op, Pred.name, Pred.n, Pred.kids]
theorem l09_two_ev (o : Int) (a b : Pred) : E.C l09_two [.one (.int .i64 o), .agg a.cells, .agg b.cells] (.agg (p2 o a b).cells) := by
  refine Z.l09_two _ _ ⟨Nat.le_of_ble_eq_true rfl, ?_⟩
  rw [p2, Pred.cells_eq (.mk o [] 0 [a, b])]
  simp only [fn_l09_two, go_sem, Nat.reduceEqDiff, reduceCtorEq, Nat.reduceAdd, Nat.reduceLeDiff, Bool.false_eq_true, Nat.reduceMul, Bool.true_eq_false, Nat.reduceLT, gR1, gR2, gR3, gR4, gR5, gR6, gR7, gR8, gR9, gR10, gR11, gR12, gR13, gR14, gR15, Int.reduceToNat, Int.cast_ofNat_Int, Int.natCast_one, Int.reduceLT, Int.reduceLE, List.getD_nil, Int.toNat_natCast, Int.natCast_zero, false_and, and_false, Int.toNat_zero, Int.toNat_one, Int.reduceEq, Nat.reduceSub, Pred.op, Pred.name, Pred.n, Pred.kids]
theorem l09_awake_ev (hOf : ∀ p, E.C sorting_Of [.agg envV.cells, .agg p.cells] (two (OfS envV p))) : E.C l09_awake [] (.one (.bool true)) := by
  have hE := l09_env_ev Z
  have vx := l09_v_ev Z [120]
  have vl := l09_v_ev Z [108]
  have vy := l09_v_ev Z [121]
  have alen_l := l09_app_ev Z [108, 101, 110] [pv [108]]
  have alen_x := l09_app_ev Z [108, 101, 110] [pv [120]]
  have alen_y := l09_app_ev Z [108, 101, 110] [pv [121]]
  have alen_ll := l09_app_ev Z [108, 101, 110] [pv [108], pv [108]]
  have atag_l := l09_app_ev Z [116, 97, 103] [pv [108]]
  have atag_x := l09_app_ev Z [116, 97, 103] [pv [120]]
  have tlt := l09_two_ev Z 12 (pv [120]) (papp [108, 101, 110] [pv [108]])
  have teq1 := l09_two_ev Z 10 (pv [108]) (pv [108])
  have teq2 := l09_two_ev Z 10 (pv [120]) (pv [108])
  have r1 := hOf (p2 12 (pv [120]) (papp [108, 101, 110] [pv [108]]))
  have r2 := hOf (papp [108, 101, 110] [pv [120]])
  have r3 := hOf (papp [108, 101, 110] [pv [108], pv [108]])
  have r4 := hOf (papp [108, 101, 110] [pv [121]])
  have r5 := hOf (papp [116, 97, 103] [pv [108]])
  have r6 := hOf (papp [116, 97, 103] [pv [120]])
  have r7 := sorting_Env_ev Z envV hOf [zeroP, p2 10 (pv [108]) (pv [108]), p2 10 (pv [120]) (pv [108])]
  have r8 := sorting_Terms_ev Z envV [73, 110, 116] hOf [pv [120], pv [108], papp [108, 101, 110] [pv [108]]] (by unfold Small; simp)
  have r9 := sorting_Bool_ev Z envV (pv [120]) (hOf _)
  have r10 := sorting_Bool_ev Z envV zeroP (hOf _)
  rw [show OfS envV (p2 12 (pv [120]) (papp [108, 101, 110] [pv [108]])) = ([66, 111, 111, 108], 0) by kernel_rfl] at r1
  rw [show OfS envV (papp [108, 101, 110] [pv [120]]) = ([], 11) by kernel_rfl] at r2
  rw [show OfS envV (papp [108, 101, 110] [pv [108], pv [108]]) = ([], 13) by kernel_rfl] at r3
  rw [show OfS envV (papp [108, 101, 110] [pv [121]]) = ([], 5) by kernel_rfl] at r4
  rw [show OfS envV (papp [116, 97, 103] [pv [108]]) = ([73, 110, 116], 0) by kernel_rfl] at r5
  rw [show OfS envV (papp [116, 97, 103] [pv [120]]) = ([], 11) by kernel_rfl] at r6
  rw [show EnvS envV 0 [zeroP, p2 10 (pv [108]) (pv [108]), p2 10 (pv [120]) (pv [108])] = (2, 11) by kernel_rfl] at r7
  rw [show [pv [120], pv [108], papp [108, 101, 110] [pv [108]]].filter (okTerm envV [73, 110, 116]) = [pv [120], papp [108, 101, 110] [pv [108]]] by kernel_rfl] at r8
  rw [show BoolS envV (pv [120]) = 11 by kernel_rfl] at r9
  rw [show BoolS envV zeroP = 0 by kernel_rfl] at r10
  have e0 : Pred.cells zeroP = [.int .i64 0, .str [], .int .i64 0, .lst []] := by rw [Pred.cells_eq]; rfl
  rw [e0] at r10
  simp only [List.map_cons, List.map_nil, e0, two] at alen_l alen_x alen_y alen_ll atag_l atag_x r1 r2 r3 r4 r5 r6 r7 r8
  refine Z.l09_awake _ _ ⟨Nat.le_of_ble_eq_true rfl, ?_⟩
  simp only [fn_l09_awake, go_sem, Nat.reduceEqDiff, reduceCtorEq, Nat.reduceAdd, Nat.reduceLeDiff, Bool.false_eq_true, Nat.reduceMul, Bool.true_eq_false, Nat.reduceLT, gR1, gR2, gR3, gR4, gR5, gR6, gR7, gR8, gR9, gR10, gR11, gR12, gR13, gR14, gR15, Int.reduceToNat, Int.cast_ofNat_Int, Int.natCast_one, Int.reduceLT, Int.reduceLE, List.getD_nil, Int.toNat_natCast, Int.natCast_zero, false_and, and_false, Int.toNat_zero, Int.toNat_one, Int.reduceEq, Nat.reduceSub]
  repeat
    first
      | refine call_by hE ?_
      | refine call_by vx ?_
      | refine call_by vl ?_
      | refine call_by vy ?_
      | refine call_by alen_l ?_
      | refine call_by alen_x ?_
      | refine call_by alen_y ?_
      | refine call_by alen_ll ?_
      | refine call_by atag_l ?_
      | refine call_by atag_x ?_
      | refine call_by tlt ?_
      | refine call_by teq1 ?_
      | refine call_by teq2 ?_
      | refine call_by r1 ?_
      | refine call_by r2 ?_
      | refine call_by r3 ?_
      | refine call_by r4 ?_
      | refine call_by r5 ?_
      | refine call_by r6 ?_
      | refine call_by r7 ?_
      | refine call_by r8 ?_
      | refine call_by r9 ?_
      | refine call_by r10 ?_
    try simp only [go_sem, Nat.reduceEqDiff, reduceCtorEq, Nat.reduceAdd, Nat.reduceLeDiff, Bool.false_eq_true, Nat.reduceMul, Bool.true_eq_false, Nat.reduceLT, gR1, gR2, gR3, gR4, gR5, gR6, gR7, gR8, gR9, gR10, gR11, gR12, gR13, gR14, gR15, Int.reduceToNat, Int.cast_ofNat_Int, Int.natCast_one, Int.reduceLT, Int.reduceLE, List.getD_nil, Int.toNat_natCast, Int.natCast_zero, false_and, and_false, Int.toNat_zero, Int.toNat_one, Int.reduceEq, Nat.reduceSub, beq_self_eq_true]
end Go.Abs
end
section
set_option linter.unusedSimpArgs false
set_option linter.unusedVariables false
set_option linter.unusedSectionVars false
namespace Go.Abs
theorem envV_ok : envV.Ok := ⟨by intro s hs; simp [envV] at hs; subst hs; simp [Small], by intro s hs; simp [envV] at hs⟩
set_option maxRecDepth 100000
/-- what the laws of layer 9 need -/
structure Law9 (E : AEnv) : Prop where
  sys : Sys E
  of : ∀ v p, v.Ok → E.C sorting_Of [.agg v.cells, .agg p.cells] (two (OfS v p))
variable {E : AEnv} (L : Law9 E)
include L
theorem Law9.awake : E.C l09_awake [] (.one (.bool true)) := l09_awake_ev L.sys fun p => L.of envV p envV_ok
theorem SortingFinds_ev (v : SEnv) (p : Pred) : E.C l09_SortingFinds [.agg v.cells, .agg p.cells] (.one (.bool true)) := by
  have hl := l09_light_ev L.sys v
  have hs := l09_small_ev L.sys [p]
  have hw := L.awake
  have ho := L.of v p
  have hr := r09_Of_ev L.sys v p
  have hb := fun h => sorting_Bool_ev L.sys v p h
  have hrb := r09_Bool_ev L.sys v p
  refine L.sys.l09_SortingFinds _ _ ⟨Nat.le_of_ble_eq_true rfl, ?_⟩
  simp only [List.map_cons, List.map_nil] at hs
  unfold two at *
  have hok : lightB v = true → v.Ok := lightB_ok
  rw [SEnv.cells] at *
  simp only [fn_l09_SortingFinds, go_sem, Nat.reduceEqDiff, reduceCtorEq, Nat.reduceAdd, Nat.reduceLeDiff, Bool.false_eq_true, Nat.reduceMul, Bool.true_eq_false, Nat.reduceLT, gR1, gR2, gR3, gR4, gR5, gR6, gR7, gR8, gR9, gR10, gR11, gR12, gR13, gR14, gR15, Int.reduceToNat, Int.cast_ofNat_Int, Int.natCast_one, Int.reduceLT, Int.reduceLE, List.getD_nil, Int.toNat_natCast, Int.natCast_zero, false_and, and_false, Int.toNat_zero, Int.toNat_one, Int.reduceEq, Nat.reduceSub]
  refine call_by hl ?_
  simp only [go_sem, Nat.reduceEqDiff, reduceCtorEq, Nat.reduceAdd, Nat.reduceLeDiff, Bool.false_eq_true, Nat.reduceMul, Bool.true_eq_false, Nat.reduceLT, gR1, gR2, gR3, gR4, gR5, gR6, gR7, gR8, gR9, gR10, gR11, gR12, gR13, gR14, gR15, Int.reduceToNat, Int.cast_ofNat_Int, Int.natCast_one, Int.reduceLT, Int.reduceLE, List.getD_nil, Int.toNat_natCast, Int.natCast_zero, false_and, and_false, Int.toNat_zero, Int.toNat_one, Int.reduceEq, Nat.reduceSub]
  refine call_g hs ?_
  simp only [go_sem, Nat.reduceEqDiff, reduceCtorEq, Nat.reduceAdd, Nat.reduceLeDiff, Bool.false_eq_true, Nat.reduceMul, Bool.true_eq_false, Nat.reduceLT, gR1, gR2, gR3, gR4, gR5, gR6, gR7, gR8, gR9, gR10, gR11, gR12, gR13, gR14, gR15, Int.reduceToNat, Int.cast_ofNat_Int, Int.natCast_one, Int.reduceLT, Int.reduceLE, List.getD_nil, Int.toNat_natCast, Int.natCast_zero, false_and, and_false, Int.toNat_zero, Int.toNat_one, Int.reduceEq, Nat.reduceSub]
  cases h1 : (!lightB v || !smallB [p]) with
  | true =>
    simp only [go_sem, Nat.reduceEqDiff, reduceCtorEq, Nat.reduceAdd, Nat.reduceLeDiff, Bool.false_eq_true, Nat.reduceMul, Bool.true_eq_false, Nat.reduceLT, gR1, gR2, gR3, gR4, gR5, gR6, gR7, gR8, gR9, gR10, gR11, gR12, gR13, gR14, gR15, Int.reduceToNat, Int.cast_ofNat_Int, Int.natCast_one, Int.reduceLT, Int.reduceLE, List.getD_nil, Int.toNat_natCast, Int.natCast_zero, false_and, and_false, Int.toNat_zero, Int.toNat_one, Int.reduceEq, Nat.reduceSub]
    refine call_by hw ?_
    simp only [go_sem, Nat.reduceEqDiff, reduceCtorEq, Nat.reduceAdd, Nat.reduceLeDiff, Bool.false_eq_true, Nat.reduceMul, Bool.true_eq_false, Nat.reduceLT, gR1, gR2, gR3, gR4, gR5, gR6, gR7, gR8, gR9, gR10, gR11, gR12, gR13, gR14, gR15, Int.reduceToNat, Int.cast_ofNat_Int, Int.natCast_one, Int.reduceLT, Int.reduceLE, List.getD_nil, Int.toNat_natCast, Int.natCast_zero, false_and, and_false, Int.toNat_zero, Int.toNat_one, Int.reduceEq, Nat.reduceSub]
  | false =>
    have hv : v.Ok := hok (by revert h1; cases lightB v <;> simp)
    have ho := ho hv
    have hb := hb ho
    simp only [go_sem, Nat.reduceEqDiff, reduceCtorEq, Nat.reduceAdd, Nat.reduceLeDiff, Bool.false_eq_true, Nat.reduceMul, Bool.true_eq_false, Nat.reduceLT, gR1, gR2, gR3, gR4, gR5, gR6, gR7, gR8, gR9, gR10, gR11, gR12, gR13, gR14, gR15, Int.reduceToNat, Int.cast_ofNat_Int, Int.natCast_one, Int.reduceLT, Int.reduceLE, List.getD_nil, Int.toNat_natCast, Int.natCast_zero, false_and, and_false, Int.toNat_zero, Int.toNat_one, Int.reduceEq, Nat.reduceSub]
    refine call_by ho ?_
    simp only [go_sem, Nat.reduceEqDiff, reduceCtorEq, Nat.reduceAdd, Nat.reduceLeDiff, Bool.false_eq_true, Nat.reduceMul, Bool.true_eq_false, Nat.reduceLT, gR1, gR2, gR3, gR4, gR5, gR6, gR7, gR8, gR9, gR10, gR11, gR12, gR13, gR14, gR15, Int.reduceToNat, Int.cast_ofNat_Int, Int.natCast_one, Int.reduceLT, Int.reduceLE, List.getD_nil, Int.toNat_natCast, Int.natCast_zero, false_and, and_false, Int.toNat_zero, Int.toNat_one, Int.reduceEq, Nat.reduceSub]
    refine call_by hr ?_
    simp only [go_sem, Nat.reduceEqDiff, reduceCtorEq, Nat.reduceAdd, Nat.reduceLeDiff, Bool.false_eq_true, Nat.reduceMul, Bool.true_eq_false, Nat.reduceLT, gR1, gR2, gR3, gR4, gR5, gR6, gR7, gR8, gR9, gR10, gR11, gR12, gR13, gR14, gR15, Int.reduceToNat, Int.cast_ofNat_Int, Int.natCast_one, Int.reduceLT, Int.reduceLE, List.getD_nil, Int.toNat_natCast, Int.natCast_zero, false_and, and_false, Int.toNat_zero, Int.toNat_one, Int.reduceEq, Nat.reduceSub, beq_self_eq_true]
    refine call_by hb ?_
    simp only [go_sem, Nat.reduceEqDiff, reduceCtorEq, Nat.reduceAdd, Nat.reduceLeDiff, Bool.false_eq_true, Nat.reduceMul, Bool.true_eq_false, Nat.reduceLT, gR1, gR2, gR3, gR4, gR5, gR6, gR7, gR8, gR9, gR10, gR11, gR12, gR13, gR14, gR15, Int.reduceToNat, Int.cast_ofNat_Int, Int.natCast_one, Int.reduceLT, Int.reduceLE, List.getD_nil, Int.toNat_natCast, Int.natCast_zero, false_and, and_false, Int.toNat_zero, Int.toNat_one, Int.reduceEq, Nat.reduceSub]
    refine call_by hrb ?_
    simp only [go_sem, Nat.reduceEqDiff, reduceCtorEq, Nat.reduceAdd, Nat.reduceLeDiff, Bool.false_eq_true, Nat.reduceMul, Bool.true_eq_false, Nat.reduceLT, gR1, gR2, gR3, gR4, gR5, gR6, gR7, gR8, gR9, gR10, gR11, gR12, gR13, gR14, gR15, Int.reduceToNat, Int.cast_ofNat_Int, Int.natCast_one, Int.reduceLT, Int.reduceLE, List.getD_nil, Int.toNat_natCast, Int.natCast_zero, false_and, and_false, Int.toNat_zero, Int.toNat_one, Int.reduceEq, Nat.reduceSub, beq_self_eq_true]
    refine call_by hw ?_
    simp only [go_sem, Nat.reduceEqDiff, reduceCtorEq, Nat.reduceAdd, Nat.reduceLeDiff, Bool.false_eq_true, Nat.reduceMul, Bool.true_eq_false, Nat.reduceLT, gR1, gR2, gR3, gR4, gR5, gR6, gR7, gR8, gR9, gR10, gR11, gR12, gR13, gR14, gR15, Int.reduceToNat, Int.cast_ofNat_Int, Int.natCast_one, Int.reduceLT, Int.reduceLE, List.getD_nil, Int.toNat_natCast, Int.natCast_zero, false_and, and_false, Int.toNat_zero, Int.toNat_one, Int.reduceEq, Nat.reduceSub, beq_self_eq_true]
theorem SortingLists_ev (v : SEnv) (s : Str) (l : List Pred) : E.C l09_SortingLists [.agg v.cells, .one (.str s), .one (.lst (l.map Pred.cells))] (.one (.bool true)) := by
  have hl := l09_light_ev L.sys v
  have hs := l09_small_ev L.sys l
  have hw := L.awake
  have he := fun h => sorting_Env_ev L.sys v (fun p => L.of v p h) l
  have hre := r09_Env_ev L.sys v l
  have ht := fun h hl => sorting_Terms_ev L.sys v s (fun p => L.of v p h) l hl
  have hrt := fun hl => r09_Terms_ev L.sys v s l hl
  have hsame := r09_Same_ev L.sys (l.filter (okTerm v s)) (l.filter (okTerm v s))
  rw [Pred.sames_refl] at hsame
  refine L.sys.l09_SortingLists _ _ ⟨Nat.le_of_ble_eq_true rfl, ?_⟩
  have hok : lightB v = true → v.Ok := lightB_ok
  rw [SEnv.cells] at *
  simp only [fn_l09_SortingLists, go_sem, Nat.reduceEqDiff, reduceCtorEq, Nat.reduceAdd, Nat.reduceLeDiff, Bool.false_eq_true, Nat.reduceMul, Bool.true_eq_false, Nat.reduceLT, gR1, gR2, gR3, gR4, gR5, gR6, gR7, gR8, gR9, gR10, gR11, gR12, gR13, gR14, gR15, Int.reduceToNat, Int.cast_ofNat_Int, Int.natCast_one, Int.reduceLT, Int.reduceLE, List.getD_nil, Int.toNat_natCast, Int.natCast_zero, false_and, and_false, Int.toNat_zero, Int.toNat_one, Int.reduceEq, Nat.reduceSub]
  refine call_by hl ?_
  simp only [go_sem, Nat.reduceEqDiff, reduceCtorEq, Nat.reduceAdd, Nat.reduceLeDiff, Bool.false_eq_true, Nat.reduceMul, Bool.true_eq_false, Nat.reduceLT, gR1, gR2, gR3, gR4, gR5, gR6, gR7, gR8, gR9, gR10, gR11, gR12, gR13, gR14, gR15, Int.reduceToNat, Int.cast_ofNat_Int, Int.natCast_one, Int.reduceLT, Int.reduceLE, List.getD_nil, Int.toNat_natCast, Int.natCast_zero, false_and, and_false, Int.toNat_zero, Int.toNat_one, Int.reduceEq, Nat.reduceSub]
  intro hlen
  refine call_g hs ?_
  simp only [go_sem, Nat.reduceEqDiff, reduceCtorEq, Nat.reduceAdd, Nat.reduceLeDiff, Bool.false_eq_true, Nat.reduceMul, Bool.true_eq_false, Nat.reduceLT, gR1, gR2, gR3, gR4, gR5, gR6, gR7, gR8, gR9, gR10, gR11, gR12, gR13, gR14, gR15, Int.reduceToNat, Int.cast_ofNat_Int, Int.natCast_one, Int.reduceLT, Int.reduceLE, List.getD_nil, Int.toNat_natCast, Int.natCast_zero, false_and, and_false, Int.toNat_zero, Int.toNat_one, Int.reduceEq, Nat.reduceSub]
  cases h1 : (!lightB v || decide ((l.length : Int) > 12) || !smallB l) with
  | true =>
    simp only [go_sem, Nat.reduceEqDiff, reduceCtorEq, Nat.reduceAdd, Nat.reduceLeDiff, Bool.false_eq_true, Nat.reduceMul, Bool.true_eq_false, Nat.reduceLT, gR1, gR2, gR3, gR4, gR5, gR6, gR7, gR8, gR9, gR10, gR11, gR12, gR13, gR14, gR15, Int.reduceToNat, Int.cast_ofNat_Int, Int.natCast_one, Int.reduceLT, Int.reduceLE, List.getD_nil, Int.toNat_natCast, Int.natCast_zero, false_and, and_false, Int.toNat_zero, Int.toNat_one, Int.reduceEq, Nat.reduceSub]
    refine call_by hw ?_
    simp only [go_sem, Nat.reduceEqDiff, reduceCtorEq, Nat.reduceAdd, Nat.reduceLeDiff, Bool.false_eq_true, Nat.reduceMul, Bool.true_eq_false, Nat.reduceLT, gR1, gR2, gR3, gR4, gR5, gR6, gR7, gR8, gR9, gR10, gR11, gR12, gR13, gR14, gR15, Int.reduceToNat, Int.cast_ofNat_Int, Int.natCast_one, Int.reduceLT, Int.reduceLE, List.getD_nil, Int.toNat_natCast, Int.natCast_zero, false_and, and_false, Int.toNat_zero, Int.toNat_one, Int.reduceEq, Nat.reduceSub]
  | false =>
    have hv : v.Ok := hok (by revert h1; cases lightB v <;> simp)
    have hlS : Small l.length := by
      unfold Small
      by_cases hc : decide ((l.length : Int) > 12) = true
      · rw [hc] at h1; simp at h1
      · simp at hc; omega
    have he := he hv
    have ht := ht hv hlS
    have hrt := hrt hlS
    simp only [go_sem, Nat.reduceEqDiff, reduceCtorEq, Nat.reduceAdd, Nat.reduceLeDiff, Bool.false_eq_true, Nat.reduceMul, Bool.true_eq_false, Nat.reduceLT, gR1, gR2, gR3, gR4, gR5, gR6, gR7, gR8, gR9, gR10, gR11, gR12, gR13, gR14, gR15, Int.reduceToNat, Int.cast_ofNat_Int, Int.natCast_one, Int.reduceLT, Int.reduceLE, List.getD_nil, Int.toNat_natCast, Int.natCast_zero, false_and, and_false, Int.toNat_zero, Int.toNat_one, Int.reduceEq, Nat.reduceSub]
    refine call_by he ?_
    simp only [go_sem, Nat.reduceEqDiff, reduceCtorEq, Nat.reduceAdd, Nat.reduceLeDiff, Bool.false_eq_true, Nat.reduceMul, Bool.true_eq_false, Nat.reduceLT, gR1, gR2, gR3, gR4, gR5, gR6, gR7, gR8, gR9, gR10, gR11, gR12, gR13, gR14, gR15, Int.reduceToNat, Int.cast_ofNat_Int, Int.natCast_one, Int.reduceLT, Int.reduceLE, List.getD_nil, Int.toNat_natCast, Int.natCast_zero, false_and, and_false, Int.toNat_zero, Int.toNat_one, Int.reduceEq, Nat.reduceSub]
    refine call_by hre ?_
    simp only [go_sem, Nat.reduceEqDiff, reduceCtorEq, Nat.reduceAdd, Nat.reduceLeDiff, Bool.false_eq_true, Nat.reduceMul, Bool.true_eq_false, Nat.reduceLT, gR1, gR2, gR3, gR4, gR5, gR6, gR7, gR8, gR9, gR10, gR11, gR12, gR13, gR14, gR15, Int.reduceToNat, Int.cast_ofNat_Int, Int.natCast_one, Int.reduceLT, Int.reduceLE, List.getD_nil, Int.toNat_natCast, Int.natCast_zero, false_and, and_false, Int.toNat_zero, Int.toNat_one, Int.reduceEq, Nat.reduceSub, beq_self_eq_true]
    refine call_by ht ?_
    simp only [go_sem, Nat.reduceEqDiff, reduceCtorEq, Nat.reduceAdd, Nat.reduceLeDiff, Bool.false_eq_true, Nat.reduceMul, Bool.true_eq_false, Nat.reduceLT, gR1, gR2, gR3, gR4, gR5, gR6, gR7, gR8, gR9, gR10, gR11, gR12, gR13, gR14, gR15, Int.reduceToNat, Int.cast_ofNat_Int, Int.natCast_one, Int.reduceLT, Int.reduceLE, List.getD_nil, Int.toNat_natCast, Int.natCast_zero, false_and, and_false, Int.toNat_zero, Int.toNat_one, Int.reduceEq, Nat.reduceSub]
    refine call_by hrt ?_
    simp only [go_sem, Nat.reduceEqDiff, reduceCtorEq, Nat.reduceAdd, Nat.reduceLeDiff, Bool.false_eq_true, Nat.reduceMul, Bool.true_eq_false, Nat.reduceLT, gR1, gR2, gR3, gR4, gR5, gR6, gR7, gR8, gR9, gR10, gR11, gR12, gR13, gR14, gR15, Int.reduceToNat, Int.cast_ofNat_Int, Int.natCast_one, Int.reduceLT, Int.reduceLE, List.getD_nil, Int.toNat_natCast, Int.natCast_zero, false_and, and_false, Int.toNat_zero, Int.toNat_one, Int.reduceEq, Nat.reduceSub, beq_self_eq_true]
    refine call_by hsame ?_
    simp only [go_sem, Nat.reduceEqDiff, reduceCtorEq, Nat.reduceAdd, Nat.reduceLeDiff, Bool.false_eq_true, Nat.reduceMul, Bool.true_eq_false, Nat.reduceLT, gR1, gR2, gR3, gR4, gR5, gR6, gR7, gR8, gR9, gR10, gR11, gR12, gR13, gR14, gR15, Int.reduceToNat, Int.cast_ofNat_Int, Int.natCast_one, Int.reduceLT, Int.reduceLE, List.getD_nil, Int.toNat_natCast, Int.natCast_zero, false_and, and_false, Int.toNat_zero, Int.toNat_one, Int.reduceEq, Nat.reduceSub, beq_self_eq_true]
    refine call_by hw ?_
    simp only [go_sem, Nat.reduceEqDiff, reduceCtorEq, Nat.reduceAdd, Nat.reduceLeDiff, Bool.false_eq_true, Nat.reduceMul, Bool.true_eq_false, Nat.reduceLT, gR1, gR2, gR3, gR4, gR5, gR6, gR7, gR8, gR9, gR10, gR11, gR12, gR13, gR14, gR15, Int.reduceToNat, Int.cast_ofNat_Int, Int.natCast_one, Int.reduceLT, Int.reduceLE, List.getD_nil, Int.toNat_natCast, Int.natCast_zero, false_and, and_false, Int.toNat_zero, Int.toNat_one, Int.reduceEq, Nat.reduceSub, beq_self_eq_true]
end Go.Abs
end
section
set_option linter.unusedSimpArgs false
set_option linter.unusedVariables false
set_option linter.unusedSectionVars false
namespace Go.Abs

mutual
def Pred.sz : Pred → Nat
  | .mk _ s _ ks => 1 + ((s.length + 1) + (1 + ((Pred.szs ks + 1) + 0))) + 1
def Pred.szs : List Pred → Nat
  | [] => 0
  | k :: ks => Pred.sz k + Pred.szs ks
end
theorem Pred.szs_eq (ks : List Pred) : Pred.szs ks = (ks.map Pred.sz).sum := by
  induction ks with
  | nil => simp [Pred.szs]
  | cons k ks ih => simp [Pred.szs, ih]
/-! ## plain law: what a predicate's parts are, where nothing wraps round -/
namespace Pred
mutual
def cnt : Pred → Nat
  | .mk _ _ _ ks => cnts ks + 1
def cnts : List Pred → Nat
  | [] => 0
  | k :: ks => cnt k + cnts ks
end
mutual
def dep : Pred → Nat
  | .mk _ _ _ ks => deps ks + 1
def deps : List Pred → Nat
  | [] => 0
  | k :: ks => max (dep k) (deps ks)
end
theorem cnt_le {ks : List Pred} {k : Pred} (h : k ∈ ks) : cnt k ≤ cnts ks := by
  induction ks with
  | nil => cases h
  | cons x ks ih =>
    rw [cnts]
    rcases List.mem_cons.1 h with rfl | h
    · omega
    · have := ih h; omega
theorem dep_le {ks : List Pred} {k : Pred} (h : k ∈ ks) : dep k ≤ deps ks := by
  induction ks with
  | nil => cases h
  | cons x ks ih =>
    rw [deps]
    rcases List.mem_cons.1 h with rfl | h
    · omega
    · have := ih h; omega
theorem dep_cnt (p : Pred) : dep p ≤ cnt p := by
  induction p using Pred.ind with
  | h o s n ks ih =>
  have : ∀ l : List Pred, (∀ k ∈ l, dep k ≤ cnt k) → deps l ≤ cnts l := by
    intro l
    induction l with
    | nil => intro _; exact Nat.le_refl _
    | cons x l ih2 =>
      intro h
      have h1 := h x (by simp)
      have h2 := ih2 fun k hk => h k (by simp [hk])
      rw [deps, cnts]; omega
  rw [dep, cnt]
  have := this ks ih
  omega
theorem cnt_sz (p : Pred) : cnt p ≤ sz p := by
  induction p using Pred.ind with
  | h o s n ks ih =>
  have : ∀ l : List Pred, (∀ k ∈ l, cnt k ≤ sz k) → cnts l ≤ szs l := by
    intro l
    induction l with
    | nil => intro _; exact Nat.le_refl _
    | cons x l ih2 =>
      intro h
      have h1 := h x (by simp)
      have h2 := ih2 fun k hk => h k (by simp [hk])
      rw [szs, cnts]; omega
  rw [sz, cnt]
  have := this ks ih
  omega
theorem nodes_cnt (p : Pred) (h : cnt p < 2 ^ 62) : nodes p = cnt p := by
  induction p using Pred.ind with
  | h o s n ks ih =>
  have key : ∀ (l : List Pred) (a : Nat), (∀ k ∈ l, cnt k < 2 ^ 62 → nodes k = cnt k) → a + cnts l < 2 ^ 62 → nodess (a : Int) l = ((a + cnts l : Nat) : Int) := by
    intro l
    induction l with
    | nil => intro a _ _; rw [nodess, cnts]; rfl
    | cons x l ih2 =>
      intro a hk hl
      rw [cnts] at hl
      rw [nodess, hk x (by simp) (by omega), i64_in _ (by omega), cnts]
      have := ih2 (a + cnt x) (fun k hk' => hk k (by simp [hk'])) (by omega)
      rw [← Int.natCast_add, this]
      congr 1; omega
  rw [cnt] at h ⊢
  rw [nodes]
  have := key ks 1 ih (by omega)
  rw [show ((1 : Nat) : Int) = 1 from rfl] at this
  rw [this]
  congr 1; omega
theorem depth_dep (p : Pred) (h : dep p < 2 ^ 62) : depth p = dep p := by
  induction p using Pred.ind with
  | h o s n ks ih =>
  have key : ∀ (l : List Pred) (a : Nat), (∀ k ∈ l, dep k < 2 ^ 62 → depth k = dep k) → deps l < 2 ^ 62 → depths (a : Int) l = ((max a (deps l) : Nat) : Int) := by
    intro l
    induction l with
    | nil => intro a _ _; rw [depths, deps]; simp
    | cons x l ih2 =>
      intro a hk hl
      rw [deps] at hl
      rw [depths, hk x (by simp) (by omega), deps]
      have h2 := fun a => ih2 a (fun k hk' => hk k (by simp [hk'])) (by omega)
      by_cases hc : (dep x : Int) > a
      · rw [if_pos hc, h2]; congr 1; omega
      · rw [if_neg hc, h2]; congr 1; omega
  rw [dep] at h ⊢
  rw [depth]
  have := key ks 0 ih (by omega)
  rw [show ((0 : Nat) : Int) = 0 from rfl] at this
  rw [this, i64_in _ (by omega)]
  omega
theorem formEs_zero {ks : List Pred} (h : formE.formEs ks = 0) : ∀ k ∈ ks, formE k = 0 := by
  induction ks with
  | nil => intro k hk; cases hk
  | cons x ks ih =>
    rw [formE.formEs] at h
    intro k hk
    by_cases h1 : (formE x != 0) = true
    · rw [if_pos h1] at h; rw [h] at h1; cases h1
    · rw [if_neg h1] at h
      rcases List.mem_cons.1 hk with rfl | hk
      · simpa using h1
      · exact ih h k hk
theorem formE_node {o : Int} {s : List UInt8} {n : Int} {ks : List Pred} (h : formE (.mk o s n ks) = 0) : nodeE o s n ks = 0 ∧ ∀ k ∈ ks, formE k = 0 := by
  rw [formE_eq] at h
  by_cases h1 : (nodeE o s n ks != 0) = true
  · rw [if_pos h1] at h; rw [h] at h1; cases h1
  · rw [if_neg h1] at h
    exact ⟨by simpa using h1, formEs_zero h⟩
theorem checkE_parts {p : Pred} (h : checkE p = 0) : nodes p ≤ 400 ∧ depth p ≤ 40 ∧ formE p = 0 := by
  unfold checkE at h
  by_cases h1 : decide (nodes p > 400) = true
  · rw [if_pos h1] at h; cases h
  · rw [if_neg h1] at h
    by_cases h2 : decide (depth p > 40) = true
    · rw [if_pos h2] at h; cases h
    · rw [if_neg h2] at h
      simp at h1 h2
      exact ⟨by omega, by omega, h⟩
theorem checkE_of {p : Pred} (h : nodes p ≤ 400) (h2 : depth p ≤ 40) (h3 : formE p = 0) : checkE p = 0 := by
  unfold checkE
  rw [if_neg (by simp; omega), if_neg (by simp; omega)]
  exact h3
theorem checkE_kid {o : Int} {s : List UInt8} {n : Int} {ks : List Pred} {k : Pred} (hc : cnt (.mk o s n ks) < 2 ^ 62) (h : checkE (.mk o s n ks) = 0) (hk : k ∈ ks) : checkE k = 0 := by
  obtain ⟨h1, h2, h3⟩ := checkE_parts h
  have hd := dep_cnt (.mk o s n ks)
  rw [nodes_cnt _ hc] at h1
  rw [depth_dep _ (by omega)] at h2
  rw [cnt] at h1 hc hd
  rw [dep] at h2 hd
  have k1 := cnt_le hk
  have k2 := dep_le hk
  have k3 := dep_cnt k
  refine checkE_of ?_ ?_ ((formE_node h3).2 k hk)
  · rw [nodes_cnt _ (by omega)]; omega
  · rw [depth_dep _ (by omega)]; omega
theorem nodeE_kids {o : Int} {s : List UInt8} {n : Int} {ks : List Pred} (h : nodeE o s n ks = 0) : kidsOk o ks.length = true := by
  unfold nodeE at h
  by_cases h1 : (decide (o < 1) || decide (o > 18) || !s == [] && !isOpNamed o || n != 0 && !(o == 1 || o == 2) || !kidsOk o ks.length) = true
  · rw [if_pos h1] at h; cases h
  · simp only [Bool.or_eq_true, not_or] at h1
    simpa using h1.2
end Pred
theorem errs_zero {v : SEnv} {ks : List Pred} (h : ofS.errs v ks = 0) : ∀ k ∈ ks, (ofS v k).2 = 0 := by
  induction ks with
  | nil => intro k hk; cases hk
  | cons x ks ih =>
    rw [ofS.errs] at h
    intro k hk
    by_cases h1 : ((ofS v x).2 != 0) = true
    · rw [if_pos h1] at h; rw [h] at h1; cases h1
    · rw [if_neg h1] at h
      rcases List.mem_cons.1 hk with rfl | hk
      · simpa using h1
      · exact ih h k hk
/-- an error has no sort -/
def Bare (r : Str × Int) : Prop := (r.2 != 0) = true → r.1 = []
theorem nodeS_bare (v : SEnv) (o : Int) (s : Str) (l : List Str) : Bare (nodeS v o s l) := by
  unfold nodeS appS holeS opS Bare
  repeat' split
  all_goals simp
theorem ofS_bare (v : SEnv) (p : Pred) : Bare (ofS v p) := by
  obtain ⟨o, s, n, ks⟩ := p
  rw [ofS_eq]
  split
  · intro _; rfl
  · exact nodeS_bare _ _ _ _
theorem OfS_bare (v : SEnv) (p : Pred) : Bare (OfS v p) := by
  unfold OfS
  split
  · intro _; rfl
  · exact ofS_bare _ _
/-- the parts of what has a sort have sorts -/
theorem OfS_kids {v : SEnv} {o : Int} {s : Str} {n : Int} {ks : List Pred} (hc : Pred.cnt (.mk o s n ks) < 2 ^ 62) (h : (OfS v (.mk o s n ks)).2 = 0) :
    (∀ k ∈ ks, OfS v k = ofS v k ∧ (ofS v k).2 = 0) ∧ OfS v (.mk o s n ks) = nodeS v o s (ks.map fun k => (ofS v k).1) ∧ kidsOk o ks.length = true := by
  have hce : Pred.checkE (.mk o s n ks) = 0 := by
    unfold OfS at h
    by_cases h1 : (Pred.checkE (.mk o s n ks) != 0) = true
    · rw [if_pos h1] at h; exact h
    · simpa using h1
  have hO : OfS v (.mk o s n ks) = ofS v (.mk o s n ks) := by unfold OfS; rw [hce]; rfl
  rw [hO] at h ⊢
  rw [ofS_eq] at h ⊢
  by_cases h1 : (ofS.errs v ks != 0) = true
  · rw [if_pos h1] at h; simp only at h; rw [h] at h1; cases h1
  · rw [if_neg h1]
    refine ⟨fun k hk => ⟨?_, errs_zero (by simpa using h1) k hk⟩, rfl, Pred.nodeE_kids (Pred.formE_node (Pred.checkE_parts hce).2.2).1⟩
    unfold OfS
    rw [Pred.checkE_kid hc hce hk]; rfl
end Go.Abs
end
section
set_option linter.unusedSimpArgs false
set_option linter.unusedVariables false
set_option linter.unusedSectionVars false
namespace Go.Abs
theorem pair_split {α : Type} {l : List α} (h : l.length = 2) : ∃ a b, l = [a, b] := by
  match l, h with
  | [a, b], _ => exact ⟨a, b, rfl⟩
theorem loop_named {E : AEnv} {c : AC} {K : AX → St → Prop} {F : St} (h : ∀ K', K' = K → awp E (.loop c) K' F) : awp E (.loop c) K F := h K rfl
theorem nodeS_shape {v : SEnv} {o : Int} {s : Str} {l : List Str} {t : Str} (h : nodeS v o s l = (t, 0)) (hk : kidsOk o l.length = true) :
    ((o == 6 || o == 7 || o == 8) = true → t = sInt ∧ l = [sInt, sInt]) ∧ ((o == 10 || o == 11) = true → t = sBool ∧ ∃ a, l = [a, a]) ∧
    ((o == 12 || o == 13) = true → t = sBool ∧ l = [sInt, sInt]) ∧ ((o == 14 || o == 15 || o == 16 || o == 17 || o == 18) = true → t = sBool ∧ ∃ r, l = sBool :: r) := by
  have two : o ≠ 1 → o ≠ 2 → o ≠ 3 → o ≠ 4 → o ≠ 5 → o ≠ 9 → o ≠ 14 → ∃ a b, l = [a, b] := by
    intro h1 h2 h3 h4 h5 h9 h14
    refine pair_split ?_
    simp [kidsOk, h1, h2, h3, h4, h5, h9, h14] at hk
    omega
  refine ⟨fun ho => ?_, fun ho => ?_, fun ho => ?_, fun ho => ?_⟩
  · simp at ho
    obtain ⟨a, b, rfl⟩ := two (by omega) (by omega) (by omega) (by omega) (by omega) (by omega) (by omega)
    have : (o == 6 || o == 7 || o == 8 || o == 9) = true := by simp; omega
    rw [nodeS, if_neg (by simp; omega), if_neg (by simp; omega), if_neg (by simp; omega), if_neg (by simp; omega), if_neg (by simp; omega), opS, if_pos this] at h
    split at h
    · rename_i hall
      simp [allS] at hall
      cases h
      exact ⟨rfl, by rw [hall.1, hall.2]⟩
    · cases h
  · simp at ho
    obtain ⟨a, b, rfl⟩ := two (by omega) (by omega) (by omega) (by omega) (by omega) (by omega) (by omega)
    have : (o == 10 || o == 11) = true := by simp; omega
    rw [nodeS, if_neg (by simp; omega), if_neg (by simp; omega), if_neg (by simp; omega), if_neg (by simp; omega), if_neg (by simp; omega), opS, if_neg (by simp; omega), if_neg (by simp; omega), if_pos this] at h
    split at h
    · rename_i hall
      simp at hall
      cases h
      exact ⟨rfl, a, by rw [hall]⟩
    · cases h
  · simp at ho
    obtain ⟨a, b, rfl⟩ := two (by omega) (by omega) (by omega) (by omega) (by omega) (by omega) (by omega)
    have : (o == 12 || o == 13) = true := by simp; omega
    rw [nodeS, if_neg (by simp; omega), if_neg (by simp; omega), if_neg (by simp; omega), if_neg (by simp; omega), if_neg (by simp; omega), opS, if_neg (by simp; omega), if_pos this] at h
    split at h
    · rename_i hall
      simp [allS] at hall
      cases h
      exact ⟨rfl, by rw [hall.1, hall.2]⟩
    · cases h
  · have hne : ∃ a r, l = a :: r := by
      by_cases h14 : o = 14
      · subst h14
        simp [kidsOk] at hk
        obtain ⟨a, rfl⟩ := one_split (by omega : l.length = 1)
        exact ⟨a, [], rfl⟩
      · simp at ho
        obtain ⟨a, b, rfl⟩ := two (by omega) (by omega) (by omega) (by omega) (by omega) (by omega) (by omega)
        exact ⟨a, [b], rfl⟩
    obtain ⟨a, r, rfl⟩ := hne
    simp at ho
    rw [nodeS, if_neg (by simp; omega), if_neg (by simp; omega), if_neg (by simp; omega), if_neg (by simp; omega), if_neg (by simp; omega), opS, if_neg (by simp; omega), if_neg (by simp; omega), if_neg (by simp; omega)] at h
    split at h
    · rename_i hall
      simp [allS] at hall
      cases h
      exact ⟨rfl, r, by rw [hall.1]⟩
    · cases h
set_option maxRecDepth 100000
variable {E : AEnv} (L : Law9 E)
include L
theorem SortingParts_ev (v : SEnv) (p : Pred) (hcnt : p.cnt < 2 ^ 62) : E.C l09_SortingParts [.agg v.cells, .agg p.cells] (.one (.bool true)) := by
  have hl := l09_light_ev L.sys v
  have hs := l09_small_ev L.sys [p]
  have hw := L.awake
  have ho := L.of v
  refine L.sys.l09_SortingParts _ _ ⟨Nat.le_of_ble_eq_true rfl, ?_⟩
  simp only [List.map_cons, List.map_nil] at hs
  unfold two at *
  have hok : lightB v = true → v.Ok := lightB_ok
  have hbare := OfS_bare v p
  obtain ⟨o, s, n, ks⟩ := p
  have hkids := OfS_kids (v := v) hcnt
  rw [SEnv.cells] at *
  have hof := fun h => ho (.mk o s n ks) h
  rw [Pred.cells_eq] at hs hof ⊢
  simp only [fn_l09_SortingParts, go_sem, Nat.reduceEqDiff, reduceCtorEq, Nat.reduceAdd, Nat.reduceLeDiff, Bool.false_eq_true, Nat.reduceMul, Bool.true_eq_false, Nat.reduceLT, gR1, gR2, gR3, gR4, gR5, gR6, gR7, gR8, gR9, gR10, gR11, gR12, gR13, gR14, gR15, Int.reduceToNat, Int.cast_ofNat_Int, Int.natCast_one, Int.reduceLT, Int.reduceLE, List.getD_nil, Int.toNat_natCast, Int.natCast_zero, false_and, and_false, Int.toNat_zero, Int.toNat_one, Int.reduceEq, Nat.reduceSub, Pred.op, Pred.name, Pred.n, Pred.kids] at hs hof ⊢
  refine call_by hl ?_
  simp only [go_sem, Nat.reduceEqDiff, reduceCtorEq, Nat.reduceAdd, Nat.reduceLeDiff, Bool.false_eq_true, Nat.reduceMul, Bool.true_eq_false, Nat.reduceLT, gR1, gR2, gR3, gR4, gR5, gR6, gR7, gR8, gR9, gR10, gR11, gR12, gR13, gR14, gR15, Int.reduceToNat, Int.cast_ofNat_Int, Int.natCast_one, Int.reduceLT, Int.reduceLE, List.getD_nil, Int.toNat_natCast, Int.natCast_zero, false_and, and_false, Int.toNat_zero, Int.toNat_one, Int.reduceEq, Nat.reduceSub]
  refine call_g hs ?_
  simp only [go_sem, Nat.reduceEqDiff, reduceCtorEq, Nat.reduceAdd, Nat.reduceLeDiff, Bool.false_eq_true, Nat.reduceMul, Bool.true_eq_false, Nat.reduceLT, gR1, gR2, gR3, gR4, gR5, gR6, gR7, gR8, gR9, gR10, gR11, gR12, gR13, gR14, gR15, Int.reduceToNat, Int.cast_ofNat_Int, Int.natCast_one, Int.reduceLT, Int.reduceLE, List.getD_nil, Int.toNat_natCast, Int.natCast_zero, false_and, and_false, Int.toNat_zero, Int.toNat_one, Int.reduceEq, Nat.reduceSub]
  cases h1 : (!lightB v || !smallB [Pred.mk o s n ks]) with
  | true =>
    simp only [go_sem, Nat.reduceEqDiff, reduceCtorEq, Nat.reduceAdd, Nat.reduceLeDiff, Bool.false_eq_true, Nat.reduceMul, Bool.true_eq_false, Nat.reduceLT, gR1, gR2, gR3, gR4, gR5, gR6, gR7, gR8, gR9, gR10, gR11, gR12, gR13, gR14, gR15, Int.reduceToNat, Int.cast_ofNat_Int, Int.natCast_one, Int.reduceLT, Int.reduceLE, List.getD_nil, Int.toNat_natCast, Int.natCast_zero, false_and, and_false, Int.toNat_zero, Int.toNat_one, Int.reduceEq, Nat.reduceSub]
    refine call_by hw ?_
    simp only [go_sem, Nat.reduceEqDiff, reduceCtorEq, Nat.reduceAdd, Nat.reduceLeDiff, Bool.false_eq_true, Nat.reduceMul, Bool.true_eq_false, Nat.reduceLT, gR1, gR2, gR3, gR4, gR5, gR6, gR7, gR8, gR9, gR10, gR11, gR12, gR13, gR14, gR15, Int.reduceToNat, Int.cast_ofNat_Int, Int.natCast_one, Int.reduceLT, Int.reduceLE, List.getD_nil, Int.toNat_natCast, Int.natCast_zero, false_and, and_false, Int.toNat_zero, Int.toNat_one, Int.reduceEq, Nat.reduceSub]
  | false =>
    have hv : v.Ok := hok (by revert h1; cases lightB v <;> simp)
    have hof := hof hv
    have ho := fun q => ho q hv
    simp only [go_sem, Nat.reduceEqDiff, reduceCtorEq, Nat.reduceAdd, Nat.reduceLeDiff, Bool.false_eq_true, Nat.reduceMul, Bool.true_eq_false, Nat.reduceLT, gR1, gR2, gR3, gR4, gR5, gR6, gR7, gR8, gR9, gR10, gR11, gR12, gR13, gR14, gR15, Int.reduceToNat, Int.cast_ofNat_Int, Int.natCast_one, Int.reduceLT, Int.reduceLE, List.getD_nil, Int.toNat_natCast, Int.natCast_zero, false_and, and_false, Int.toNat_zero, Int.toNat_one, Int.reduceEq, Nat.reduceSub]
    refine call_by hof ?_
    simp only [go_sem, Nat.reduceEqDiff, reduceCtorEq, Nat.reduceAdd, Nat.reduceLeDiff, Bool.false_eq_true, Nat.reduceMul, Bool.true_eq_false, Nat.reduceLT, gR1, gR2, gR3, gR4, gR5, gR6, gR7, gR8, gR9, gR10, gR11, gR12, gR13, gR14, gR15, Int.reduceToNat, Int.cast_ofNat_Int, Int.natCast_one, Int.reduceLT, Int.reduceLE, List.getD_nil, Int.toNat_natCast, Int.natCast_zero, false_and, and_false, Int.toNat_zero, Int.toNat_one, Int.reduceEq, Nat.reduceSub]
    cases h2 : ((OfS v (.mk o s n ks)).2 != 0) with
    | true =>
      rw [hbare h2]
      simp only [go_sem, Nat.reduceEqDiff, reduceCtorEq, Nat.reduceAdd, Nat.reduceLeDiff, Bool.false_eq_true, Nat.reduceMul, Bool.true_eq_false, Nat.reduceLT, gR1, gR2, gR3, gR4, gR5, gR6, gR7, gR8, gR9, gR10, gR11, gR12, gR13, gR14, gR15, Int.reduceToNat, Int.cast_ofNat_Int, Int.natCast_one, Int.reduceLT, Int.reduceLE, List.getD_nil, Int.toNat_natCast, Int.natCast_zero, false_and, and_false, Int.toNat_zero, Int.toNat_one, Int.reduceEq, Nat.reduceSub, beq_self_eq_true]
      refine call_by hw ?_
      simp only [go_sem, Nat.reduceEqDiff, reduceCtorEq, Nat.reduceAdd, Nat.reduceLeDiff, Bool.false_eq_true, Nat.reduceMul, Bool.true_eq_false, Nat.reduceLT, gR1, gR2, gR3, gR4, gR5, gR6, gR7, gR8, gR9, gR10, gR11, gR12, gR13, gR14, gR15, Int.reduceToNat, Int.cast_ofNat_Int, Int.natCast_one, Int.reduceLT, Int.reduceLE, List.getD_nil, Int.toNat_natCast, Int.natCast_zero, false_and, and_false, Int.toNat_zero, Int.toNat_one, Int.reduceEq, Nat.reduceSub]
    | false =>
      obtain ⟨hk1, hk2, hk3⟩ := hkids (by simpa using h2)
      simp only [go_sem, Nat.reduceEqDiff, reduceCtorEq, Nat.reduceAdd, Nat.reduceLeDiff, Bool.false_eq_true, Nat.reduceMul, Bool.true_eq_false, Nat.reduceLT, gR1, gR2, gR3, gR4, gR5, gR6, gR7, gR8, gR9, gR10, gR11, gR12, gR13, gR14, gR15, Int.reduceToNat, Int.cast_ofNat_Int, Int.natCast_one, Int.reduceLT, Int.reduceLE, List.getD_nil, Int.toNat_natCast, Int.natCast_zero, false_and, and_false, Int.toNat_zero, Int.toNat_one, Int.reduceEq, Nat.reduceSub]
      have hlen24 : ks.length ≤ 24 := by
        by_cases hgt : 24 < ks.length
        · have hk := hk3
          unfold kidsOk at hk
          have e0 : ((ks.length : Int) == 0) = false := beq_eq_false_iff_ne.2 (by omega)
          have e1 : ((ks.length : Int) == 1) = false := beq_eq_false_iff_ne.2 (by omega)
          have e2 : ((ks.length : Int) == 2) = false := beq_eq_false_iff_ne.2 (by omega)
          have e3 : decide ((ks.length : Int) ≤ 24) = false := decide_eq_false (by omega)
          rw [e0, e1, e2, e3, Bool.and_false] at hk
          exfalso; revert hk
          repeat' split
          all_goals exact Bool.false_ne_true
        · omega
      refine loop_named fun K hK => ?_
      refine loop_list ks (fun _ => True) (fun done rest => ⟨[(8, .d (.int .i64 done.length)), (5, .d (.str (OfS v (.mk o s n ks)).1)), (3, .ptr 3 0), (2, .ptr 2 0), (7, .own 7 1 (done.map fun k => scell (ofS v k).1))],
        [(3, [.d (.int .i64 o), .d (.str s), .d (.int .i64 n), .d (.lst (ks.map Pred.cells))]), (2, [.d (.lst (v.vars.map SVar.cells)), .d (.lst (v.syms.map SSym.cells)), .d (.lst (v.holes.map SHole.cells))])], [(7, true)]⟩) ?_ trivial ?_ ?_
      · exact Ent_conv 7 7 1 [] [(7, 7)] rfl (by simp) rfl (by simp only [Ent0, go_sem, Nat.reduceEqDiff, reduceCtorEq, Nat.reduceAdd, Nat.reduceLeDiff, Bool.false_eq_true, Nat.reduceMul, Bool.true_eq_false, Nat.reduceLT, gR1, gR2, gR3, gR4, gR5, gR6, gR7, gR8, gR9, gR10, gR11, gR12, gR13, gR14, gR15, Int.reduceToNat, Int.cast_ofNat_Int, Int.natCast_one, Int.reduceLT, Int.reduceLE, List.getD_nil, Int.toNat_natCast, Int.natCast_zero, false_and, and_false, Int.toNat_zero, Int.toNat_one, Int.reduceEq, Nat.reduceSub, List.contains_nil, Option.isSome_some, List.map_nil])
      · intro done k r hl' _
        have hlt := lt_mid hl'
        have hw' : IntKind.i64.wrap ((done.length : Int) + 1) = ((done.length + 1 : Nat) : Int) := wrap_succ (by omega)
        have hkm : k ∈ ks := by rw [hl']; simp
        have hok' := ho k
        rw [(hk1 k hkm).1] at hok'
        have hz := (hk1 k hkm).2
        have ha1 : (done.length + 1) * 16 ≤ 2 ^ 46 := by omega
        simp only [fn_l09_SortingParts_L1, go_sem, Nat.reduceEqDiff, reduceCtorEq, Nat.reduceAdd, Nat.reduceLeDiff, Bool.false_eq_true, Nat.reduceMul, Bool.true_eq_false, Nat.reduceLT, gR1, gR2, gR3, gR4, gR5, gR6, gR7, gR8, gR9, gR10, gR11, gR12, gR13, gR14, gR15, Int.reduceToNat, Int.cast_ofNat_Int, Int.natCast_one, Int.reduceLT, Int.reduceLE, List.getD_nil, Int.toNat_natCast, Int.natCast_zero, false_and, and_false, Int.toNat_zero, Int.toNat_one, Int.reduceEq, Nat.reduceSub, hlt, getD_midP hl']
        intro hlen
        refine call_by hok' ?_
        have hzz : ((0 : Int) != 0) = false := rfl
        simp only [go_sem, Nat.reduceEqDiff, reduceCtorEq, Nat.reduceAdd, Nat.reduceLeDiff, Bool.false_eq_true, Nat.reduceMul, Bool.true_eq_false, Nat.reduceLT, gR1, gR2, gR3, gR4, gR5, gR6, gR7, gR8, gR9, gR10, gR11, gR12, gR13, gR14, gR15, Int.reduceToNat, Int.cast_ofNat_Int, Int.natCast_one, Int.reduceLT, Int.reduceLE, List.getD_nil, Int.toNat_natCast, Int.natCast_zero, false_and, and_false, Int.toNat_zero, Int.toNat_one, Int.reduceEq, Nat.reduceSub, hz, hw', hzz, List.length_map, List.length_append]
        refine ⟨⟨by simp, ha1, by omega⟩, Ent_own [(7, 56)] ?_⟩
        simp only [go_sem, Nat.reduceEqDiff, reduceCtorEq, Nat.reduceAdd, Nat.reduceLeDiff, Bool.false_eq_true, Nat.reduceMul, Bool.true_eq_false, Nat.reduceLT, gR1, gR2, gR3, gR4, gR5, gR6, gR7, gR8, gR9, gR10, gR11, gR12, gR13, gR14, gR15, Int.reduceToNat, Int.cast_ofNat_Int, Int.natCast_one, Int.reduceLT, Int.reduceLE, List.getD_nil, Int.toNat_natCast, Int.natCast_zero, false_and, and_false, Int.toNat_zero, Int.toNat_one, Int.reduceEq, Nat.reduceSub, List.contains_nil, Option.isSome_some, List.map_append, List.map_cons, List.map_nil, scell]
      · intro _
        subst hK
        have hirr : (((ks.length : Nat) : Int) < ks.length) = False := by simp
        have hz0 : (OfS v (.mk o s n ks)).2 = 0 := by simpa using h2
        have hsh := nodeS_shape (v := v) (o := o) (s := s) (l := ks.map fun k => (ofS v k).1) (t := (OfS v (.mk o s n ks)).1) (by rw [← hk2, ← hz0]) (by rw [List.length_map]; exact hk3)
        obtain ⟨g1, g2, g3, g4⟩ := hsh
        have hmm : (ks.map fun k => scell (ofS v k).1) = (ks.map fun k => (ofS v k).1).map scell := by rw [List.map_map]; rfl
        rw [hmm]
        have hln : ks.length = (ks.map fun k => (ofS v k).1).length := by rw [List.length_map]
        generalize (OfS v (.mk o s n ks)).1 = t at *
        generalize hll : (ks.map fun k => (ofS v k).1) = l at *
        clear hk1 hk2 hof hkids ho hbare hs h2 hz0 hmm
        have hd : (o = 6 ∨ o = 7 ∨ o = 8 ∨ o = 10 ∨ o = 11 ∨ o = 12 ∨ o = 13 ∨ o = 14 ∨ o = 15 ∨ o = 16 ∨ o = 17 ∨ o = 18) ∨ (o ≠ 6 ∧ o ≠ 7 ∧ o ≠ 8 ∧ o ≠ 10 ∧ o ≠ 11 ∧ o ≠ 12 ∧ o ≠ 13 ∧ o ≠ 14 ∧ o ≠ 15 ∧ o ≠ 16 ∧ o ≠ 17 ∧ o ≠ 18) := by omega
        simp only [sInt, sBool] at g1 g2 g3 g4
        have hpos : ∀ n : Nat, decide (((n + 1 : Nat) : Int) > 0) = true := fun n => decide_eq_true (by omega)
        rcases hd with hd | ⟨h6, h7, h8, h10, h11, h12, h13, h14, h15, h16, h17, h18⟩
        · rcases hd with rfl | rfl | rfl | rfl | rfl | rfl | rfl | rfl | rfl | rfl | rfl | rfl
          all_goals first
            | obtain ⟨rfl, rfl⟩ := g1 rfl
            | obtain ⟨rfl, a, rfl⟩ := g2 rfl
            | obtain ⟨rfl, rfl⟩ := g3 rfl
            | obtain ⟨rfl, r, rfl⟩ := g4 rfl
          all_goals
            simp only [↓reduceIte, fn_l09_SortingParts_L1, go_sem, Nat.reduceEqDiff, reduceCtorEq, Nat.reduceAdd, Nat.reduceLeDiff, Bool.false_eq_true, Nat.reduceMul, Bool.true_eq_false, Nat.reduceLT, gR1, gR2, gR3, gR4, gR5, gR6, gR7, gR8, gR9, gR10, gR11, gR12, gR13, gR14, gR15, Int.reduceToNat, Int.cast_ofNat_Int, Int.natCast_one, Int.reduceLT, Int.reduceLE, List.getD_nil, Int.toNat_natCast, Int.natCast_zero, false_and, and_false, Int.toNat_zero, Int.toNat_one, Int.reduceEq, Nat.reduceSub, hirr, Int.reduceBEq, List.map_cons, List.map_nil, List.length_cons, List.length_nil, scell, beq_self_eq_true, hpos]
            intro hlen
            try intro hlen2
            repeat (refine ⟨by first | (simp; done) | (simp [scell]; done) | exact ⟨by omega, by simp [scell]⟩, ?_⟩)
            try
              refine call_by hw ?_
              simp only [go_sem, Nat.reduceEqDiff, reduceCtorEq, Nat.reduceAdd, Nat.reduceLeDiff, Bool.false_eq_true, Nat.reduceMul, Bool.true_eq_false, Nat.reduceLT, gR1, gR2, gR3, gR4, gR5, gR6, gR7, gR8, gR9, gR10, gR11, gR12, gR13, gR14, gR15, Int.reduceToNat, Int.cast_ofNat_Int, Int.natCast_one, Int.reduceLT, Int.reduceLE, List.getD_nil, Int.toNat_natCast, Int.natCast_zero, false_and, and_false, Int.toNat_zero, Int.toNat_one, Int.reduceEq, Nat.reduceSub]
        · have e : (o == 6) = false ∧ (o == 7) = false ∧ (o == 8) = false ∧ (o == 10) = false ∧ (o == 11) = false ∧ (o == 12) = false ∧ (o == 13) = false ∧ (o == 14) = false ∧ (o == 15) = false ∧ (o == 16) = false ∧ (o == 17) = false ∧ (o == 18) = false := by
            simp [h6, h7, h8, h10, h11, h12, h13, h14, h15, h16, h17, h18]
          simp only [↓reduceIte, fn_l09_SortingParts_L1, go_sem, Nat.reduceEqDiff, reduceCtorEq, Nat.reduceAdd, Nat.reduceLeDiff, Bool.false_eq_true, Nat.reduceMul, Bool.true_eq_false, Nat.reduceLT, gR1, gR2, gR3, gR4, gR5, gR6, gR7, gR8, gR9, gR10, gR11, gR12, gR13, gR14, gR15, Int.reduceToNat, Int.cast_ofNat_Int, Int.natCast_one, Int.reduceLT, Int.reduceLE, List.getD_nil, Int.toNat_natCast, Int.natCast_zero, false_and, and_false, Int.toNat_zero, Int.toNat_one, Int.reduceEq, Nat.reduceSub, hirr, e]
          intro hlen
          refine call_by hw ?_
          simp only [go_sem, Nat.reduceEqDiff, reduceCtorEq, Nat.reduceAdd, Nat.reduceLeDiff, Bool.false_eq_true, Nat.reduceMul, Bool.true_eq_false, Nat.reduceLT, gR1, gR2, gR3, gR4, gR5, gR6, gR7, gR8, gR9, gR10, gR11, gR12, gR13, gR14, gR15, Int.reduceToNat, Int.cast_ofNat_Int, Int.natCast_one, Int.reduceLT, Int.reduceLE, List.getD_nil, Int.toNat_natCast, Int.natCast_zero, false_and, and_false, Int.toNat_zero, Int.toNat_one, Int.reduceEq, Nat.reduceSub]
end Go.Abs
end
section
set_option linter.unusedSimpArgs false
set_option linter.unusedVariables false
set_option linter.unusedSectionVars false
namespace Go.Abs
/-- a name occurs -/
def Pred.named (s : Str) : Pred → Bool
  | .mk _ t _ ks => if t == s then true else nameds ks
where nameds : List Pred → Bool
  | [] => false
  | k :: ks => if named s k then true else nameds ks
theorem Pred.named_eq (s : Str) (o : Int) (t : Str) (n : Int) (ks : List Pred) : Pred.named s (.mk o t n ks) = if t == s then true else Pred.named.nameds s ks := by rw [named]
theorem nameds_mid {s : Str} {a b : List Pred} {k : Pred} (ha : ∀ x ∈ a, Pred.named s x = false) : Pred.named.nameds s (a ++ k :: b) = if Pred.named s k then true else Pred.named.nameds s b := by
  induction a with
  | nil => rw [List.nil_append, Pred.named.nameds]
  | cons x a ih => rw [List.cons_append, Pred.named.nameds, ha x (by simp)]; exact ih fun y hy => ha y (by simp [hy])
theorem nameds_all {s : Str} {a : List Pred} (ha : ∀ x ∈ a, Pred.named s x = false) : Pred.named.nameds s a = false := by
  induction a with
  | nil => rw [Pred.named.nameds]
  | cons x a ih => rw [Pred.named.nameds, ha x (by simp)]; exact ih fun y hy => ha y (by simp [hy])
theorem nameds_none {s : Str} {a : List Pred} (h : Pred.named.nameds s a = false) : ∀ x ∈ a, Pred.named s x = false := by
  induction a with
  | nil => intro x hx; cases hx
  | cons x a ih =>
    rw [Pred.named.nameds] at h
    cases hx : Pred.named s x with
    | true => rw [hx] at h; cases h
    | false =>
      rw [hx] at h
      intro y hy
      rcases List.mem_cons.1 hy with rfl | hy
      · exact hx
      · exact ih h y hy
/-- the environment with one name more -/
def moreEnv (v : SEnv) (x : SVar) : SEnv := ⟨v.vars ++ [x], ⟨x.name, [x.sort], sInt⟩ :: v.syms, ⟨x.name, [x]⟩ :: v.holes⟩
theorem more_nodeS {v : SEnv} {x : SVar} {o : Int} {s : Str} {l : List Str} (h : (s == x.name) = false) : nodeS (moreEnv v x) o s l = nodeS v o s l := by
  have h' : (x.name == s) = false := by
    cases hc : (x.name == s)
    · rfl
    · rw [eq_of_beq hc, beq_self_eq_true] at h; cases h
  have e1 : findVar (moreEnv v x).vars s = findVar v.vars s := by
    unfold findVar moreEnv
    simp only [List.reverse_append, List.reverse_cons, List.reverse_nil, List.nil_append, List.cons_append, List.find?, h']
  have e2 : findSym (moreEnv v x).syms s = findSym v.syms s := by
    unfold findSym moreEnv
    simp only [List.find?, h']
  have e3 : findHole (moreEnv v x).holes s = findHole v.holes s := by
    unfold findHole moreEnv
    simp only [List.find?, h']
  unfold nodeS appS holeS
  rw [e1, e2, e3]
theorem more_ofS {v : SEnv} {x : SVar} (p : Pred) : p.named x.name = false → ofS (moreEnv v x) p = ofS v p := by
  induction p using Pred.ind with
  | h o s n ks ih =>
  intro h
  rw [Pred.named_eq] at h
  cases h1 : (s == x.name) with
  | true => rw [h1] at h; cases h
  | false =>
    rw [h1] at h
    have hk := nameds_none (by simpa using h)
    have he : ∀ l : List Pred, (∀ k ∈ l, ofS (moreEnv v x) k = ofS v k) → ofS.errs (moreEnv v x) l = ofS.errs v l ∧ l.map (fun k => (ofS (moreEnv v x) k).1) = l.map fun k => (ofS v k).1 := by
      intro l
      induction l with
      | nil => intro _; exact ⟨rfl, rfl⟩
      | cons y l ih2 =>
        intro hy
        have := ih2 fun k hk => hy k (by simp [hk])
        rw [ofS.errs, ofS.errs, hy y (by simp), this.1, List.map_cons, List.map_cons, hy y (by simp), this.2]
        exact ⟨rfl, rfl⟩
    obtain ⟨e1, e2⟩ := he ks fun k hk' => ih k hk' (hk k hk')
    rw [ofS_eq, ofS_eq, e1, e2, more_nodeS h1]
theorem more_OfS {v : SEnv} {x : SVar} {p : Pred} (h : p.named x.name = false) : OfS (moreEnv v x) p = OfS v p := by
  unfold OfS; rw [more_ofS p h]
set_option maxRecDepth 100000
variable {E : AEnv}
theorem l09_named_ev (Z : Sys E) (p : Pred) (t : Str) : E.C l09_named [.agg p.cells, .one (.str t)] (.one (.bool (p.named t))) := by
  induction p using Pred.ind with
  | h o s n ks ih =>
  refine Z.l09_named _ _ ⟨Nat.le_of_ble_eq_true rfl, ?_⟩
  generalize hR : Pred.named t (.mk o s n ks) = R
  rw [Pred.named_eq] at hR
  rw [Pred.cells_eq]
  simp only [fn_l09_named, go_sem, Nat.reduceEqDiff, reduceCtorEq, Nat.reduceAdd, Nat.reduceLeDiff, Bool.false_eq_true, Nat.reduceMul, Bool.true_eq_false, Nat.reduceLT, gR1, gR2, gR3, gR4, gR5, gR6, gR7, gR8, gR9, gR10, gR11, gR12, gR13, gR14, gR15, Int.reduceToNat, Int.cast_ofNat_Int, Int.natCast_one, Int.reduceLT, Int.reduceLE, List.getD_nil, Int.toNat_natCast, Int.natCast_zero, false_and, and_false, Int.toNat_zero, Int.toNat_one, Int.reduceEq, Nat.reduceSub, Pred.op, Pred.name, Pred.n, Pred.kids]
  cases h1 : (s == t) with
  | true => simp only [h1, go_sem, Nat.reduceEqDiff, reduceCtorEq, Nat.reduceAdd, Nat.reduceLeDiff, Bool.false_eq_true, Nat.reduceMul, Bool.true_eq_false, Nat.reduceLT, gR1, gR2, gR3, gR4, gR5, gR6, gR7, gR8, gR9, gR10, gR11, gR12, gR13, gR14, gR15, Int.reduceToNat, Int.cast_ofNat_Int, Int.natCast_one, Int.reduceLT, Int.reduceLE, List.getD_nil, Int.toNat_natCast, Int.natCast_zero, false_and, and_false, Int.toNat_zero, Int.toNat_one, Int.reduceEq, Nat.reduceSub] at hR ⊢; exact hR
  | false =>
  simp only [h1, go_sem, Nat.reduceEqDiff, reduceCtorEq, Nat.reduceAdd, Nat.reduceLeDiff, Bool.false_eq_true, Nat.reduceMul, Bool.true_eq_false, Nat.reduceLT, gR1, gR2, gR3, gR4, gR5, gR6, gR7, gR8, gR9, gR10, gR11, gR12, gR13, gR14, gR15, Int.reduceToNat, Int.cast_ofNat_Int, Int.natCast_one, Int.reduceLT, Int.reduceLE, List.getD_nil, Int.toNat_natCast, Int.natCast_zero, false_and, and_false, Int.toNat_zero, Int.toNat_one, Int.reduceEq, Nat.reduceSub] at hR ⊢
  refine loop_list ks (fun done => ∀ x ∈ done, x.named t = false) (fun done rest => ⟨[(5, .d (.int .i64 done.length)), (2, .ptr 2 0), (1, .d (.str t))], [(2, [.d (.int .i64 o), .d (.str s), .d (.int .i64 n), .d (.lst (ks.map Pred.cells))])], []⟩) ?_ (by simp) ?_ ?_
  · exact Ent_plain (by simp only [go_sem, Nat.reduceEqDiff, reduceCtorEq, Nat.reduceAdd, Nat.reduceLeDiff, Bool.false_eq_true, Nat.reduceMul, Bool.true_eq_false, Nat.reduceLT, gR1, gR2, gR3, gR4, gR5, gR6, gR7, gR8, gR9, gR10, gR11, gR12, gR13, gR14, gR15, Int.reduceToNat, Int.cast_ofNat_Int, Int.natCast_one, Int.reduceLT, Int.reduceLE, List.getD_nil, Int.toNat_natCast, Int.natCast_zero, false_and, and_false, Int.toNat_zero, Int.toNat_one, Int.reduceEq, Nat.reduceSub, Option.isSome_some])
  · intro done k r hl hI
    have hk' := ih k (by rw [hl]; simp)
    have hlt := lt_mid hl
    simp only [fn_l09_named_L1, go_sem, Nat.reduceEqDiff, reduceCtorEq, Nat.reduceAdd, Nat.reduceLeDiff, Bool.false_eq_true, Nat.reduceMul, Bool.true_eq_false, Nat.reduceLT, gR1, gR2, gR3, gR4, gR5, gR6, gR7, gR8, gR9, gR10, gR11, gR12, gR13, gR14, gR15, Int.reduceToNat, Int.cast_ofNat_Int, Int.natCast_one, Int.reduceLT, Int.reduceLE, List.getD_nil, Int.toNat_natCast, Int.natCast_zero, false_and, and_false, Int.toNat_zero, Int.toNat_one, Int.reduceEq, Nat.reduceSub, hlt, getD_midP hl]
    intro hlen
    have hw : IntKind.i64.wrap ((done.length : Int) + 1) = ((done.length + 1 : Nat) : Int) := wrap_succ (by omega)
    refine call_by hk' ?_
    rw [hl, nameds_mid hI] at hR
    cases h2 : (k.named t) with
    | true => simp only [h2, go_sem, Nat.reduceEqDiff, reduceCtorEq, Nat.reduceAdd, Nat.reduceLeDiff, Bool.false_eq_true, Nat.reduceMul, Bool.true_eq_false, Nat.reduceLT, gR1, gR2, gR3, gR4, gR5, gR6, gR7, gR8, gR9, gR10, gR11, gR12, gR13, gR14, gR15, Int.reduceToNat, Int.cast_ofNat_Int, Int.natCast_one, Int.reduceLT, Int.reduceLE, List.getD_nil, Int.toNat_natCast, Int.natCast_zero, false_and, and_false, Int.toNat_zero, Int.toNat_one, Int.reduceEq, Nat.reduceSub] at hR ⊢; exact hR
    | false =>
      simp only [h2, go_sem, Nat.reduceEqDiff, reduceCtorEq, Nat.reduceAdd, Nat.reduceLeDiff, Bool.false_eq_true, Nat.reduceMul, Bool.true_eq_false, Nat.reduceLT, gR1, gR2, gR3, gR4, gR5, gR6, gR7, gR8, gR9, gR10, gR11, gR12, gR13, gR14, gR15, Int.reduceToNat, Int.cast_ofNat_Int, Int.natCast_one, Int.reduceLT, Int.reduceLE, List.getD_nil, Int.toNat_natCast, Int.natCast_zero, false_and, and_false, Int.toNat_zero, Int.toNat_one, Int.reduceEq, Nat.reduceSub, hw] at hR ⊢
      exact ⟨Ent_plain (by simp only [go_sem, Nat.reduceEqDiff, reduceCtorEq, Nat.reduceAdd, Nat.reduceLeDiff, Bool.false_eq_true, Nat.reduceMul, Bool.true_eq_false, Nat.reduceLT, gR1, gR2, gR3, gR4, gR5, gR6, gR7, gR8, gR9, gR10, gR11, gR12, gR13, gR14, gR15, Int.reduceToNat, Int.cast_ofNat_Int, Int.natCast_one, Int.reduceLT, Int.reduceLE, List.getD_nil, Int.toNat_natCast, Int.natCast_zero, false_and, and_false, Int.toNat_zero, Int.toNat_one, Int.reduceEq, Nat.reduceSub, Option.isSome_some, List.length_append]), app_all hI h2⟩
  · intro hI
    rw [nameds_all hI] at hR
    simp only [fn_l09_named_L1, go_sem, Nat.reduceEqDiff, reduceCtorEq, Nat.reduceAdd, Nat.reduceLeDiff, Bool.false_eq_true, Nat.reduceMul, Bool.true_eq_false, Nat.reduceLT, gR1, gR2, gR3, gR4, gR5, gR6, gR7, gR8, gR9, gR10, gR11, gR12, gR13, gR14, gR15, Int.reduceToNat, Int.cast_ofNat_Int, Int.natCast_one, Int.reduceLT, Int.reduceLE, List.getD_nil, Int.toNat_natCast, Int.natCast_zero, false_and, and_false, Int.toNat_zero, Int.toNat_one, Int.reduceEq, Nat.reduceSub]
    intro hlen
    exact hR
theorem moreEnv_ok {v : SEnv} {x : SVar} (h : v.Ok) : (moreEnv v x).Ok := by
  refine ⟨fun s hs => ?_, fun s hs => ?_⟩
  · rcases List.mem_cons.1 hs with rfl | hs
    · unfold Small; simp
    · exact h.syms s hs
  · rcases List.mem_cons.1 hs with rfl | hs
    · unfold Small; simp
    · exact h.holes s hs
theorem lightB_lens {v : SEnv} (h : lightB v = true) : v.vars.length ≤ 26 ∧ v.syms.length ≤ 20 ∧ v.holes.length ≤ 8 := by
  unfold lightB at h
  simp only [Bool.and_eq_true, Bool.not_eq_true', Bool.or_eq_false_iff, decide_eq_false_iff_not] at h
  omega
variable (L : Law9 E)
include L
theorem SortingMore_ev (v : SEnv) (x : SVar) (p : Pred) : E.C l09_SortingMore [.agg v.cells, .agg x.cells, .agg p.cells] (.one (.bool true)) := by
  have hl := l09_light_ev L.sys v
  have hs := l09_small_ev L.sys [p]
  have hn := l09_named_ev L.sys p x.name
  have hw := L.awake
  have ho := L.of v p
  have hom := fun h => L.of (moreEnv v x) p (moreEnv_ok h)
  have hbm := fun h => more_OfS (v := v) (x := x) (p := p) h
  refine L.sys.l09_SortingMore _ _ ⟨Nat.le_of_ble_eq_true rfl, ?_⟩
  simp only [List.map_cons, List.map_nil] at hs
  unfold two at *
  have hok : lightB v = true → v.Ok := lightB_ok
  have hlens : lightB v = true → _ := lightB_lens (v := v)
  rw [SEnv.cells] at *
  rw [SVar.cells] at *
  simp only [fn_l09_SortingMore, go_sem, Nat.reduceEqDiff, reduceCtorEq, Nat.reduceAdd, Nat.reduceLeDiff, Bool.false_eq_true, Nat.reduceMul, Bool.true_eq_false, Nat.reduceLT, gR1, gR2, gR3, gR4, gR5, gR6, gR7, gR8, gR9, gR10, gR11, gR12, gR13, gR14, gR15, Int.reduceToNat, Int.cast_ofNat_Int, Int.natCast_one, Int.reduceLT, Int.reduceLE, List.getD_nil, Int.toNat_natCast, Int.natCast_zero, false_and, and_false, Int.toNat_zero, Int.toNat_one, Int.reduceEq, Nat.reduceSub]
  refine call_by hl ?_
  simp only [go_sem, Nat.reduceEqDiff, reduceCtorEq, Nat.reduceAdd, Nat.reduceLeDiff, Bool.false_eq_true, Nat.reduceMul, Bool.true_eq_false, Nat.reduceLT, gR1, gR2, gR3, gR4, gR5, gR6, gR7, gR8, gR9, gR10, gR11, gR12, gR13, gR14, gR15, Int.reduceToNat, Int.cast_ofNat_Int, Int.natCast_one, Int.reduceLT, Int.reduceLE, List.getD_nil, Int.toNat_natCast, Int.natCast_zero, false_and, and_false, Int.toNat_zero, Int.toNat_one, Int.reduceEq, Nat.reduceSub]
  refine call_g hs ?_
  simp only [go_sem, Nat.reduceEqDiff, reduceCtorEq, Nat.reduceAdd, Nat.reduceLeDiff, Bool.false_eq_true, Nat.reduceMul, Bool.true_eq_false, Nat.reduceLT, gR1, gR2, gR3, gR4, gR5, gR6, gR7, gR8, gR9, gR10, gR11, gR12, gR13, gR14, gR15, Int.reduceToNat, Int.cast_ofNat_Int, Int.natCast_one, Int.reduceLT, Int.reduceLE, List.getD_nil, Int.toNat_natCast, Int.natCast_zero, false_and, and_false, Int.toNat_zero, Int.toNat_one, Int.reduceEq, Nat.reduceSub]
  refine call_g hn ?_
  simp only [go_sem, Nat.reduceEqDiff, reduceCtorEq, Nat.reduceAdd, Nat.reduceLeDiff, Bool.false_eq_true, Nat.reduceMul, Bool.true_eq_false, Nat.reduceLT, gR1, gR2, gR3, gR4, gR5, gR6, gR7, gR8, gR9, gR10, gR11, gR12, gR13, gR14, gR15, Int.reduceToNat, Int.cast_ofNat_Int, Int.natCast_one, Int.reduceLT, Int.reduceLE, List.getD_nil, Int.toNat_natCast, Int.natCast_zero, false_and, and_false, Int.toNat_zero, Int.toNat_one, Int.reduceEq, Nat.reduceSub]
  cases h1 : (!lightB v || !smallB [p] || p.named x.name) with
  | true =>
    simp only [go_sem, Nat.reduceEqDiff, reduceCtorEq, Nat.reduceAdd, Nat.reduceLeDiff, Bool.false_eq_true, Nat.reduceMul, Bool.true_eq_false, Nat.reduceLT, gR1, gR2, gR3, gR4, gR5, gR6, gR7, gR8, gR9, gR10, gR11, gR12, gR13, gR14, gR15, Int.reduceToNat, Int.cast_ofNat_Int, Int.natCast_one, Int.reduceLT, Int.reduceLE, List.getD_nil, Int.toNat_natCast, Int.natCast_zero, false_and, and_false, Int.toNat_zero, Int.toNat_one, Int.reduceEq, Nat.reduceSub]
    refine call_by hw ?_
    simp only [go_sem, Nat.reduceEqDiff, reduceCtorEq, Nat.reduceAdd, Nat.reduceLeDiff, Bool.false_eq_true, Nat.reduceMul, Bool.true_eq_false, Nat.reduceLT, gR1, gR2, gR3, gR4, gR5, gR6, gR7, gR8, gR9, gR10, gR11, gR12, gR13, gR14, gR15, Int.reduceToNat, Int.cast_ofNat_Int, Int.natCast_one, Int.reduceLT, Int.reduceLE, List.getD_nil, Int.toNat_natCast, Int.natCast_zero, false_and, and_false, Int.toNat_zero, Int.toNat_one, Int.reduceEq, Nat.reduceSub]
  | false =>
    have hlb : lightB v = true := by revert h1; cases lightB v <;> simp
    have hnm : p.named x.name = false := by revert h1; cases p.named x.name <;> simp
    have hv := hok hlb
    have hlens := hlens hlb
    have ho := ho hv
    have hom := hom hv
    rw [hbm hnm] at hom
    simp only [go_sem, Nat.reduceEqDiff, reduceCtorEq, Nat.reduceAdd, Nat.reduceLeDiff, Bool.false_eq_true, Nat.reduceMul, Bool.true_eq_false, Nat.reduceLT, gR1, gR2, gR3, gR4, gR5, gR6, gR7, gR8, gR9, gR10, gR11, gR12, gR13, gR14, gR15, Int.reduceToNat, Int.cast_ofNat_Int, Int.natCast_one, Int.reduceLT, Int.reduceLE, List.getD_nil, Int.toNat_natCast, Int.natCast_zero, false_and, and_false, Int.toNat_zero, Int.toNat_one, Int.reduceEq, Nat.reduceSub]
    simp only [moreEnv, List.map_append, List.map_cons, List.map_nil, SVar.cells, SSym.cells, SHole.cells, scell, sInt] at hom
    obtain ⟨q1, q2, q3⟩ := hlens
    refine ⟨⟨by simp, by omega, by omega⟩, ⟨by simp, by omega, by omega⟩, ⟨by simp, by simp, by omega⟩, ⟨by omega, by omega⟩, ⟨by simp, by simp, by omega⟩, ⟨by omega, by omega⟩, ?_⟩
    refine call_by ho ?_
    simp only [go_sem, Nat.reduceEqDiff, reduceCtorEq, Nat.reduceAdd, Nat.reduceLeDiff, Bool.false_eq_true, Nat.reduceMul, Bool.true_eq_false, Nat.reduceLT, gR1, gR2, gR3, gR4, gR5, gR6, gR7, gR8, gR9, gR10, gR11, gR12, gR13, gR14, gR15, Int.reduceToNat, Int.cast_ofNat_Int, Int.natCast_one, Int.reduceLT, Int.reduceLE, List.getD_nil, Int.toNat_natCast, Int.natCast_zero, false_and, and_false, Int.toNat_zero, Int.toNat_one, Int.reduceEq, Nat.reduceSub]
    refine call_by hom ?_
    simp only [go_sem, Nat.reduceEqDiff, reduceCtorEq, Nat.reduceAdd, Nat.reduceLeDiff, Bool.false_eq_true, Nat.reduceMul, Bool.true_eq_false, Nat.reduceLT, gR1, gR2, gR3, gR4, gR5, gR6, gR7, gR8, gR9, gR10, gR11, gR12, gR13, gR14, gR15, Int.reduceToNat, Int.cast_ofNat_Int, Int.natCast_one, Int.reduceLT, Int.reduceLE, List.getD_nil, Int.toNat_natCast, Int.natCast_zero, false_and, and_false, Int.toNat_zero, Int.toNat_one, Int.reduceEq, Nat.reduceSub, beq_self_eq_true]
    refine call_by hw ?_
    simp only [go_sem, Nat.reduceEqDiff, reduceCtorEq, Nat.reduceAdd, Nat.reduceLeDiff, Bool.false_eq_true, Nat.reduceMul, Bool.true_eq_false, Nat.reduceLT, gR1, gR2, gR3, gR4, gR5, gR6, gR7, gR8, gR9, gR10, gR11, gR12, gR13, gR14, gR15, Int.reduceToNat, Int.cast_ofNat_Int, Int.natCast_one, Int.reduceLT, Int.reduceLE, List.getD_nil, Int.toNat_natCast, Int.natCast_zero, false_and, and_false, Int.toNat_zero, Int.toNat_one, Int.reduceEq, Nat.reduceSub, beq_self_eq_true]
end Go.Abs
end
section
set_option linter.unusedSimpArgs false
set_option linter.unusedVariables false
set_option linter.unusedSectionVars false
namespace Go.Abs
def andStp (x : Pred × Bool) (p : Pred) : Pred × Bool := if voidP p then x else if x.2 then (.mk 15 [] 0 [x.1, p], true) else (p, true)
def andGo (l : List Pred) : Pred × Bool := l.foldl andStp (trueP, false)
def isFalse (p : Pred) : Bool := !voidP p && p.same falseP
/-- the conjunction of predicates -/
def andP (l : List Pred) : Pred := if l.any isFalse then falseP else (andGo l).1
theorem andGo_app (a : List Pred) (k : Pred) : andGo (a ++ [k]) = andStp (andGo a) k := by unfold andGo; rw [List.foldl_append]; rfl
theorem any_mid {α : Type} {f : α → Bool} {l a r : List α} {x : α} (hl : l = a ++ x :: r) (ha : ∀ y ∈ a, f y = false) : l.any f = (f x || r.any f) := by
  rw [hl, List.any_append, List.any_cons]
  have : a.any f = false := by rw [List.any_eq_false]; intro y hy; rw [ha y hy]; exact Bool.false_ne_true
  rw [this, Bool.false_or]
theorem any_none {α : Type} {f : α → Bool} {l : List α} (ha : ∀ y ∈ l, f y = false) : l.any f = false := by rw [List.any_eq_false]; intro y hy; rw [ha y hy]; exact Bool.false_ne_true
set_option maxRecDepth 100000
variable {E : AEnv} (Z : Sys E)
include Z
theorem pred_And_ev (l : List Pred) (ht : ∀ p ∈ l, voidP p = false → Tame p) : E.C pred_And [.one (.lst (l.map Pred.cells))] (.agg (andP l).cells) := by
  have hv := pred_void_ev Z
  have hc := fun p hp => pred_copied_ev Z p hp
  have hcf := pred_constant_ev Z false
  have hct := pred_constant_ev Z true
  have hs := fun p => pred_Same_ev Z p falseP
  simp only [if_true, Bool.false_eq_true, if_false] at hcf hct
  have hdr : ∀ p : Pred, List.drop 4 (List.map AV.d p.cells) = [] := fun p => List.drop_of_length_le (by rw [List.length_map, Pred.cells_length]; exact Nat.le_refl _)
  have hcs : ∀ a b : Pred, Pred.cells (.mk 15 [] 0 [a, b]) = [.int .i64 15, .str [], .int .i64 0, .lst [a.cells, b.cells]] := fun a b => by rw [Pred.cells_eq]; rfl
  refine Z.pred_And _ _ ⟨Nat.le_of_ble_eq_true rfl, ?_⟩
  generalize hR : andP l = R
  unfold andP at hR
  simp only [fn_pred_And, go_sem, Nat.reduceEqDiff, reduceCtorEq, Nat.reduceAdd, Nat.reduceLeDiff, Bool.false_eq_true, Nat.reduceMul, Bool.true_eq_false, Nat.reduceLT, gR1, gR2, gR3, gR4, gR5, gR6, gR7, gR8, gR9, gR10, gR11, gR12, gR13, gR14, gR15, Int.reduceToNat, Int.cast_ofNat_Int, Int.natCast_one, Int.reduceLT, Int.reduceLE, List.getD_nil, Int.toNat_natCast, Int.natCast_zero, false_and, and_false, Int.toNat_zero, Int.toNat_one, Int.reduceEq, Nat.reduceSub]
  refine call_by hct ?_
  simp only [go_sem, Nat.reduceEqDiff, reduceCtorEq, Nat.reduceAdd, Nat.reduceLeDiff, Bool.false_eq_true, Nat.reduceMul, Bool.true_eq_false, Nat.reduceLT, gR1, gR2, gR3, gR4, gR5, gR6, gR7, gR8, gR9, gR10, gR11, gR12, gR13, gR14, gR15, Int.reduceToNat, Int.cast_ofNat_Int, Int.natCast_one, Int.reduceLT, Int.reduceLE, List.getD_nil, Int.toNat_natCast, Int.natCast_zero, false_and, and_false, Int.toNat_zero, Int.toNat_one, Int.reduceEq, Nat.reduceSub]
  intro hlen
  refine loop_list l (fun done => ∀ x ∈ done, isFalse x = false) (fun done rest => ⟨[(10, .d (.int .i64 done.length)), (9, .d (.int .i64 l.length)), (8, .d (.lst (l.map Pred.cells))), (4, .d (.bool (andGo done).2)), (3, .ptr 3 0), (2, .ptr 2 0)], [(3, (andGo done).1.cells.map .d), (2, [.d (.int .i64 0), .d (.str []), .d (.int .i64 0), .full []])], []⟩) ?_ (by simp) ?_ ?_
  · have h0 : andGo [] = (trueP, false) := rfl
    exact Ent_plain (by simp only [go_sem, Nat.reduceEqDiff, reduceCtorEq, Nat.reduceAdd, Nat.reduceLeDiff, Bool.false_eq_true, Nat.reduceMul, Bool.true_eq_false, Nat.reduceLT, gR1, gR2, gR3, gR4, gR5, gR6, gR7, gR8, gR9, gR10, gR11, gR12, gR13, gR14, gR15, Int.reduceToNat, Int.cast_ofNat_Int, Int.natCast_one, Int.reduceLT, Int.reduceLE, List.getD_nil, Int.toNat_natCast, Int.natCast_zero, false_and, and_false, Int.toNat_zero, Int.toNat_one, Int.reduceEq, Nat.reduceSub, Option.isSome_some, h0])
  · intro done k r hl hI
    have hlt := lt_mid hl
    have hw : IntKind.i64.wrap ((done.length : Int) + 1) = ((done.length + 1 : Nat) : Int) := wrap_succ (by omega)
    have hfk : isFalse k = (!voidP k && k.same falseP) := rfl
    have hga := andGo_app done k
    unfold andStp at hga
    rw [any_mid hl hI] at hR
    have htk := ht k (by rw [hl]; simp)
    simp only [fn_pred_And_L1, go_sem, Nat.reduceEqDiff, reduceCtorEq, Nat.reduceAdd, Nat.reduceLeDiff, Bool.false_eq_true, Nat.reduceMul, Bool.true_eq_false, Nat.reduceLT, gR1, gR2, gR3, gR4, gR5, gR6, gR7, gR8, gR9, gR10, gR11, gR12, gR13, gR14, gR15, Int.reduceToNat, Int.cast_ofNat_Int, Int.natCast_one, Int.reduceLT, Int.reduceLE, List.getD_nil, Int.toNat_natCast, Int.natCast_zero, false_and, and_false, Int.toNat_zero, Int.toNat_one, Int.reduceEq, Nat.reduceSub, hlt, getD_midP hl]
    refine call_by (hv k) ?_
    simp only [go_sem, Nat.reduceEqDiff, reduceCtorEq, Nat.reduceAdd, Nat.reduceLeDiff, Bool.false_eq_true, Nat.reduceMul, Bool.true_eq_false, Nat.reduceLT, gR1, gR2, gR3, gR4, gR5, gR6, gR7, gR8, gR9, gR10, gR11, gR12, gR13, gR14, gR15, Int.reduceToNat, Int.cast_ofNat_Int, Int.natCast_one, Int.reduceLT, Int.reduceLE, List.getD_nil, Int.toNat_natCast, Int.natCast_zero, false_and, and_false, Int.toNat_zero, Int.toNat_one, Int.reduceEq, Nat.reduceSub]
    cases h1 : voidP k with
    | true =>
      simp only [h1, go_sem, Nat.reduceEqDiff, reduceCtorEq, Nat.reduceAdd, Nat.reduceLeDiff, Bool.false_eq_true, Nat.reduceMul, Bool.true_eq_false, Nat.reduceLT, gR1, gR2, gR3, gR4, gR5, gR6, gR7, gR8, gR9, gR10, gR11, gR12, gR13, gR14, gR15, Int.reduceToNat, Int.cast_ofNat_Int, Int.natCast_one, Int.reduceLT, Int.reduceLE, List.getD_nil, Int.toNat_natCast, Int.natCast_zero, false_and, and_false, Int.toNat_zero, Int.toNat_one, Int.reduceEq, Nat.reduceSub] at hga hfk ⊢
      exact ⟨Ent_plain (by simp only [go_sem, Nat.reduceEqDiff, reduceCtorEq, Nat.reduceAdd, Nat.reduceLeDiff, Bool.false_eq_true, Nat.reduceMul, Bool.true_eq_false, Nat.reduceLT, gR1, gR2, gR3, gR4, gR5, gR6, gR7, gR8, gR9, gR10, gR11, gR12, gR13, gR14, gR15, Int.reduceToNat, Int.cast_ofNat_Int, Int.natCast_one, Int.reduceLT, Int.reduceLE, List.getD_nil, Int.toNat_natCast, Int.natCast_zero, false_and, and_false, Int.toNat_zero, Int.toNat_one, Int.reduceEq, Nat.reduceSub, hw, hga, Option.isSome_some, List.length_append]), app_all hI hfk⟩
    | false =>
      have htk := htk h1
      simp only [h1, go_sem, Nat.reduceEqDiff, reduceCtorEq, Nat.reduceAdd, Nat.reduceLeDiff, Bool.false_eq_true, Nat.reduceMul, Bool.true_eq_false, Nat.reduceLT, gR1, gR2, gR3, gR4, gR5, gR6, gR7, gR8, gR9, gR10, gR11, gR12, gR13, gR14, gR15, Int.reduceToNat, Int.cast_ofNat_Int, Int.natCast_one, Int.reduceLT, Int.reduceLE, List.getD_nil, Int.toNat_natCast, Int.natCast_zero, false_and, and_false, Int.toNat_zero, Int.toNat_one, Int.reduceEq, Nat.reduceSub] at hga hfk ⊢
      refine call_by hcf ?_
      simp only [go_sem, Nat.reduceEqDiff, reduceCtorEq, Nat.reduceAdd, Nat.reduceLeDiff, Bool.false_eq_true, Nat.reduceMul, Bool.true_eq_false, Nat.reduceLT, gR1, gR2, gR3, gR4, gR5, gR6, gR7, gR8, gR9, gR10, gR11, gR12, gR13, gR14, gR15, Int.reduceToNat, Int.cast_ofNat_Int, Int.natCast_one, Int.reduceLT, Int.reduceLE, List.getD_nil, Int.toNat_natCast, Int.natCast_zero, false_and, and_false, Int.toNat_zero, Int.toNat_one, Int.reduceEq, Nat.reduceSub]
      refine call_by (hs k) ?_
      simp only [go_sem, Nat.reduceEqDiff, reduceCtorEq, Nat.reduceAdd, Nat.reduceLeDiff, Bool.false_eq_true, Nat.reduceMul, Bool.true_eq_false, Nat.reduceLT, gR1, gR2, gR3, gR4, gR5, gR6, gR7, gR8, gR9, gR10, gR11, gR12, gR13, gR14, gR15, Int.reduceToNat, Int.cast_ofNat_Int, Int.natCast_one, Int.reduceLT, Int.reduceLE, List.getD_nil, Int.toNat_natCast, Int.natCast_zero, false_and, and_false, Int.toNat_zero, Int.toNat_one, Int.reduceEq, Nat.reduceSub]
      cases h2 : k.same falseP with
      | true =>
        simp only [h2, go_sem, Nat.reduceEqDiff, reduceCtorEq, Nat.reduceAdd, Nat.reduceLeDiff, Bool.false_eq_true, Nat.reduceMul, Bool.true_eq_false, Nat.reduceLT, gR1, gR2, gR3, gR4, gR5, gR6, gR7, gR8, gR9, gR10, gR11, gR12, gR13, gR14, gR15, Int.reduceToNat, Int.cast_ofNat_Int, Int.natCast_one, Int.reduceLT, Int.reduceLE, List.getD_nil, Int.toNat_natCast, Int.natCast_zero, false_and, and_false, Int.toNat_zero, Int.toNat_one, Int.reduceEq, Nat.reduceSub] at hfk ⊢
        refine call_by hcf ?_
        simp only [hfk, go_sem, Nat.reduceEqDiff, reduceCtorEq, Nat.reduceAdd, Nat.reduceLeDiff, Bool.false_eq_true, Nat.reduceMul, Bool.true_eq_false, Nat.reduceLT, gR1, gR2, gR3, gR4, gR5, gR6, gR7, gR8, gR9, gR10, gR11, gR12, gR13, gR14, gR15, Int.reduceToNat, Int.cast_ofNat_Int, Int.natCast_one, Int.reduceLT, Int.reduceLE, List.getD_nil, Int.toNat_natCast, Int.natCast_zero, false_and, and_false, Int.toNat_zero, Int.toNat_one, Int.reduceEq, Nat.reduceSub] at hR ⊢
        subst hR
        simp only [go_sem, Nat.reduceEqDiff, reduceCtorEq, Nat.reduceAdd, Nat.reduceLeDiff, Bool.false_eq_true, Nat.reduceMul, Bool.true_eq_false, Nat.reduceLT, gR1, gR2, gR3, gR4, gR5, gR6, gR7, gR8, gR9, gR10, gR11, gR12, gR13, gR14, gR15, Int.reduceToNat, Int.cast_ofNat_Int, Int.natCast_one, Int.reduceLT, Int.reduceLE, List.getD_nil, Int.toNat_natCast, Int.natCast_zero, false_and, and_false, Int.toNat_zero, Int.toNat_one, Int.reduceEq, Nat.reduceSub]
      | false =>
        simp only [h2, go_sem, Nat.reduceEqDiff, reduceCtorEq, Nat.reduceAdd, Nat.reduceLeDiff, Bool.false_eq_true, Nat.reduceMul, Bool.true_eq_false, Nat.reduceLT, gR1, gR2, gR3, gR4, gR5, gR6, gR7, gR8, gR9, gR10, gR11, gR12, gR13, gR14, gR15, Int.reduceToNat, Int.cast_ofNat_Int, Int.natCast_one, Int.reduceLT, Int.reduceLE, List.getD_nil, Int.toNat_natCast, Int.natCast_zero, false_and, and_false, Int.toNat_zero, Int.toNat_one, Int.reduceEq, Nat.reduceSub] at hfk ⊢
        cases h3 : (andGo done).2 with
        | true =>
          simp only [h3, go_sem, Nat.reduceEqDiff, reduceCtorEq, Nat.reduceAdd, Nat.reduceLeDiff, Bool.false_eq_true, Nat.reduceMul, Bool.true_eq_false, Nat.reduceLT, gR1, gR2, gR3, gR4, gR5, gR6, gR7, gR8, gR9, gR10, gR11, gR12, gR13, gR14, gR15, Int.reduceToNat, Int.cast_ofNat_Int, Int.natCast_one, Int.reduceLT, Int.reduceLE, List.getD_nil, Int.toNat_natCast, Int.natCast_zero, false_and, and_false, Int.toNat_zero, Int.toNat_one, Int.reduceEq, Nat.reduceSub] at hga ⊢
          refine call_by (hc k htk) ?_
          simp only [go_sem, Nat.reduceEqDiff, reduceCtorEq, Nat.reduceAdd, Nat.reduceLeDiff, Bool.false_eq_true, Nat.reduceMul, Bool.true_eq_false, Nat.reduceLT, gR1, gR2, gR3, gR4, gR5, gR6, gR7, gR8, gR9, gR10, gR11, gR12, gR13, gR14, gR15, Int.reduceToNat, Int.cast_ofNat_Int, Int.natCast_one, Int.reduceLT, Int.reduceLE, List.getD_nil, Int.toNat_natCast, Int.natCast_zero, false_and, and_false, Int.toNat_zero, Int.toNat_one, Int.reduceEq, Nat.reduceSub]
          exact ⟨Ent_plain (by simp only [go_sem, Nat.reduceEqDiff, reduceCtorEq, Nat.reduceAdd, Nat.reduceLeDiff, Bool.false_eq_true, Nat.reduceMul, Bool.true_eq_false, Nat.reduceLT, gR1, gR2, gR3, gR4, gR5, gR6, gR7, gR8, gR9, gR10, gR11, gR12, gR13, gR14, gR15, Int.reduceToNat, Int.cast_ofNat_Int, Int.natCast_one, Int.reduceLT, Int.reduceLE, List.getD_nil, Int.toNat_natCast, Int.natCast_zero, false_and, and_false, Int.toNat_zero, Int.toNat_one, Int.reduceEq, Nat.reduceSub, hw, hga, hdr, hcs, Option.isSome_some, List.length_append, List.map_cons, List.map_nil]), app_all hI hfk⟩
        | false =>
          simp only [h3, go_sem, Nat.reduceEqDiff, reduceCtorEq, Nat.reduceAdd, Nat.reduceLeDiff, Bool.false_eq_true, Nat.reduceMul, Bool.true_eq_false, Nat.reduceLT, gR1, gR2, gR3, gR4, gR5, gR6, gR7, gR8, gR9, gR10, gR11, gR12, gR13, gR14, gR15, Int.reduceToNat, Int.cast_ofNat_Int, Int.natCast_one, Int.reduceLT, Int.reduceLE, List.getD_nil, Int.toNat_natCast, Int.natCast_zero, false_and, and_false, Int.toNat_zero, Int.toNat_one, Int.reduceEq, Nat.reduceSub] at hga ⊢
          refine call_by (hc k htk) ?_
          simp only [go_sem, Nat.reduceEqDiff, reduceCtorEq, Nat.reduceAdd, Nat.reduceLeDiff, Bool.false_eq_true, Nat.reduceMul, Bool.true_eq_false, Nat.reduceLT, gR1, gR2, gR3, gR4, gR5, gR6, gR7, gR8, gR9, gR10, gR11, gR12, gR13, gR14, gR15, Int.reduceToNat, Int.cast_ofNat_Int, Int.natCast_one, Int.reduceLT, Int.reduceLE, List.getD_nil, Int.toNat_natCast, Int.natCast_zero, false_and, and_false, Int.toNat_zero, Int.toNat_one, Int.reduceEq, Nat.reduceSub]
          exact ⟨Ent_plain (by simp only [go_sem, Nat.reduceEqDiff, reduceCtorEq, Nat.reduceAdd, Nat.reduceLeDiff, Bool.false_eq_true, Nat.reduceMul, Bool.true_eq_false, Nat.reduceLT, gR1, gR2, gR3, gR4, gR5, gR6, gR7, gR8, gR9, gR10, gR11, gR12, gR13, gR14, gR15, Int.reduceToNat, Int.cast_ofNat_Int, Int.natCast_one, Int.reduceLT, Int.reduceLE, List.getD_nil, Int.toNat_natCast, Int.natCast_zero, false_and, and_false, Int.toNat_zero, Int.toNat_one, Int.reduceEq, Nat.reduceSub, hw, hga, hdr, List.append_nil, Option.isSome_some, List.length_append]), app_all hI hfk⟩
  · intro hI
    rw [any_none hI] at hR
    simp only [fn_pred_And_L1, go_sem, Nat.reduceEqDiff, reduceCtorEq, Nat.reduceAdd, Nat.reduceLeDiff, Bool.false_eq_true, Nat.reduceMul, Bool.true_eq_false, Nat.reduceLT, gR1, gR2, gR3, gR4, gR5, gR6, gR7, gR8, gR9, gR10, gR11, gR12, gR13, gR14, gR15, Int.reduceToNat, Int.cast_ofNat_Int, Int.natCast_one, Int.reduceLT, Int.reduceLE, List.getD_nil, Int.toNat_natCast, Int.natCast_zero, false_and, and_false, Int.toNat_zero, Int.toNat_one, Int.reduceEq, Nat.reduceSub] at hR ⊢
    rw [hR]
omit Z in
theorem BoolS_zero {v : SEnv} {p : Pred} (h : p.same zeroP = true) : BoolS v p = 0 := by unfold BoolS; rw [h]; rfl
omit Z in
theorem BoolS_ok {v : SEnv} {p : Pred} (h : BoolS v p = 0) (hz : p.same zeroP = false) : p.checkE = 0 ∧ ofS v p = (sBool, 0) := by
  unfold BoolS at h
  rw [hz] at h
  simp only [Bool.false_eq_true, if_false] at h
  by_cases h1 : ((OfS v p).2 == 0 && !(OfS v p).1 == sBool) = true
  · rw [if_pos h1] at h; cases h
  · rw [if_neg h1] at h
    have hc := check_of_ok (v := v) (x := p) (by rw [h]; rfl)
    have hO : OfS v p = ofS v p := by unfold OfS; rw [hc]; rfl
    rw [hO] at h h1
    refine ⟨hc, Prod.ext ?_ h⟩
    rw [h] at h1
    simpa using h1
omit Z in
theorem BoolS_of {v : SEnv} {p : Pred} (hc : p.checkE = 0) (h : ofS v p = (sBool, 0)) : BoolS v p = 0 := by
  have hO : OfS v p = ofS v p := by unfold OfS; rw [hc]; rfl
  unfold BoolS
  rw [hO, h]
  split
  · rfl
  · rfl
omit Z in
theorem tame_of_check {p : Pred} (h : p.checkE = 0) : Tame p := tame_of_arity (arity_of (formE_of_check h))
omit Z in
theorem tame_zero {p : Pred} (h : p.same zeroP = true) : Tame p := by
  rw [(Pred.same_iff p zeroP).1 h]
  intro q hq
  have : zeroP.pre = [zeroP] := rfl
  rw [this] at hq
  simp at hq; subst hq
  unfold Small; simp [zeroP, Pred.kids]
omit Z in
theorem tame_of_bool {v : SEnv} {p : Pred} (h : BoolS v p = 0) : Tame p := by
  cases hz : p.same zeroP with
  | true => exact tame_zero hz
  | false => exact tame_of_check (BoolS_ok h hz).1
omit Z in
theorem ofS_const (v : SEnv) : ofS v trueP = (sBool, 0) ∧ ofS v falseP = (sBool, 0) := ⟨rfl, rfl⟩
omit Z in
theorem ofS_one {v : SEnv} {p : Pred} (h : ofS v p = (sBool, 0)) : ofS v (.mk 14 [] 0 [p]) = (sBool, 0) := by
  rw [ofS_eq, ofS.errs, h, ofS.errs, List.map_cons, List.map_nil, h]; rfl
omit Z in
theorem ofS_two {v : SEnv} {p q : Pred} (h : ofS v p = (sBool, 0)) (h' : ofS v q = (sBool, 0)) : ofS v (.mk 15 [] 0 [p, q]) = (sBool, 0) := by
  rw [ofS_eq, ofS.errs, h, ofS.errs, h', ofS.errs, List.map_cons, List.map_cons, List.map_nil, h, h']; rfl
omit Z in
theorem bool_not {v : SEnv} {p : Pred} (h : BoolS v p = 0) (hc : (notP p).checkE = 0) : BoolS v (notP p) = 0 := by
  unfold notP at hc ⊢
  by_cases h1 : (p.op == 14 && (p.kids.length : Int) == 1) = true
  · rw [if_pos h1] at hc ⊢
    obtain ⟨o, s, n, ks⟩ := p
    simp only [Pred.op, Pred.kids] at h1 hc ⊢
    rw [Bool.and_eq_true] at h1
    obtain ⟨k, rfl⟩ : ∃ k, ks = [k] := one_split (by have := h1.2; simp at this; omega)
    have ho : o = 14 := by simpa using h1.1
    subst ho
    have hz : (Pred.mk 14 s n [k]).same zeroP = false := by
      cases hh : (Pred.mk 14 s n [k]).same zeroP with
      | true => have := (Pred.same_iff _ _).1 hh; cases this
      | false => rfl
    have hb := (BoolS_ok h hz).2
    refine BoolS_of hc ?_
    change ofS v k = (sBool, 0)
    rw [ofS_eq, ofS.errs] at hb
    by_cases hk : ((ofS v k).2 != 0) = true
    · rw [if_pos hk, if_pos hk] at hb
      have := congrArg Prod.snd hb
      simp only at this
      rw [this] at hk; cases hk
    · rw [if_neg hk, ofS.errs] at hb
      have hk0 : (ofS v k).2 = 0 := by simpa using hk
      have hb' : opS 14 [(ofS v k).1] = (sBool, 0) := hb
      have : (if allS [(ofS v k).1] sBool then (sBool, (0 : Int)) else ([], 11)) = (sBool, 0) := hb'
      by_cases ha : allS [(ofS v k).1] sBool = true
      · have : (ofS v k).1 = sBool := by simpa [allS] using ha
        exact Prod.ext this hk0
      · rw [if_neg ha] at this; cases this
  · rw [if_neg h1] at hc ⊢
    cases h2 : voidP p with
    | true => rw [if_pos rfl]; exact BoolS_of rfl (ofS_const v).2
    | false =>
      rw [h2] at hc
      simp only [Bool.false_eq_true, if_false] at hc ⊢
      cases h3 : p.same falseP with
      | true => rw [if_pos rfl]; exact BoolS_of rfl (ofS_const v).1
      | false =>
        rw [h3] at hc
        simp only [Bool.false_eq_true, if_false] at hc ⊢
        have hz : p.same zeroP = false := by unfold voidP at h2; cases hh : p.same zeroP with
          | true => rw [hh] at h2; cases h2
          | false => rfl
        exact BoolS_of hc (ofS_one (BoolS_ok h hz).2)
omit Z in
theorem andGo_bool {v : SEnv} : ∀ (l : List Pred) (x : Pred × Bool), ofS v x.1 = (sBool, 0) → (∀ p ∈ l, BoolS v p = 0) → ofS v (l.foldl andStp x).1 = (sBool, 0)
  | [], x, h, _ => h
  | p :: l, x, h, hl => by
    rw [List.foldl_cons]
    refine andGo_bool l _ ?_ fun q hq => hl q (by simp [hq])
    unfold andStp
    cases h2 : voidP p with
    | true => exact h
    | false =>
      have hz : p.same zeroP = false := by
        unfold voidP at h2
        cases hh : p.same zeroP with
        | true => rw [hh] at h2; cases h2
        | false => rfl
      have hp := (BoolS_ok (hl p (by simp)) hz).2
      simp only [Bool.false_eq_true, if_false]
      cases h3 : x.2 with
      | true => exact ofS_two h hp
      | false => exact hp
omit Z in
theorem bool_and {v : SEnv} {l : List Pred} (h : ∀ p ∈ l, BoolS v p = 0) (hc : (andP l).checkE = 0) : BoolS v (andP l) = 0 := by
  refine BoolS_of hc ?_
  unfold andP
  split
  · exact (ofS_const v).2
  · exact andGo_bool l _ (ofS_const v).1 h
/-- what the laws of layer 9 that check need -/
structure Law9c (E : AEnv) : Prop extends Law9 E where
  check : ∀ p, E.C pred_Check [.agg (Pred.cells p)] (.one (.int .i64 p.checkE))
omit Z
variable (L : Law9c E)
include L
theorem SortingConnects_ev (v : SEnv) (l : List Pred) : E.C l09_SortingConnects [.agg v.cells, .one (.lst (l.map Pred.cells))] (.one (.bool true)) := by
  have hl := l09_light_ev L.sys v
  have hs := l09_small_ev L.sys l
  have hw := L.toLaw9.awake
  have hb := fun h p => sorting_Bool_ev L.sys v p (L.of v p h)
  have hn := fun p hp => pred_Not_ev L.sys p hp
  have ha := pred_And_ev L.sys l
  have hc := L.check
  refine L.sys.l09_SortingConnects _ _ ⟨Nat.le_of_ble_eq_true rfl, ?_⟩
  have hok : lightB v = true → v.Ok := lightB_ok
  rw [SEnv.cells] at *
  simp only [fn_l09_SortingConnects, go_sem, Nat.reduceEqDiff, reduceCtorEq, Nat.reduceAdd, Nat.reduceLeDiff, Bool.false_eq_true, Nat.reduceMul, Bool.true_eq_false, Nat.reduceLT, gR1, gR2, gR3, gR4, gR5, gR6, gR7, gR8, gR9, gR10, gR11, gR12, gR13, gR14, gR15, Int.reduceToNat, Int.cast_ofNat_Int, Int.natCast_one, Int.reduceLT, Int.reduceLE, List.getD_nil, Int.toNat_natCast, Int.natCast_zero, false_and, and_false, Int.toNat_zero, Int.toNat_one, Int.reduceEq, Nat.reduceSub]
  refine call_by hl ?_
  simp only [go_sem, Nat.reduceEqDiff, reduceCtorEq, Nat.reduceAdd, Nat.reduceLeDiff, Bool.false_eq_true, Nat.reduceMul, Bool.true_eq_false, Nat.reduceLT, gR1, gR2, gR3, gR4, gR5, gR6, gR7, gR8, gR9, gR10, gR11, gR12, gR13, gR14, gR15, Int.reduceToNat, Int.cast_ofNat_Int, Int.natCast_one, Int.reduceLT, Int.reduceLE, List.getD_nil, Int.toNat_natCast, Int.natCast_zero, false_and, and_false, Int.toNat_zero, Int.toNat_one, Int.reduceEq, Nat.reduceSub]
  intro hlen
  refine call_g hs ?_
  simp only [go_sem, Nat.reduceEqDiff, reduceCtorEq, Nat.reduceAdd, Nat.reduceLeDiff, Bool.false_eq_true, Nat.reduceMul, Bool.true_eq_false, Nat.reduceLT, gR1, gR2, gR3, gR4, gR5, gR6, gR7, gR8, gR9, gR10, gR11, gR12, gR13, gR14, gR15, Int.reduceToNat, Int.cast_ofNat_Int, Int.natCast_one, Int.reduceLT, Int.reduceLE, List.getD_nil, Int.toNat_natCast, Int.natCast_zero, false_and, and_false, Int.toNat_zero, Int.toNat_one, Int.reduceEq, Nat.reduceSub]
  cases h1 : (!lightB v || decide ((l.length : Int) > 8) || !smallB l) with
  | true =>
    simp only [go_sem, Nat.reduceEqDiff, reduceCtorEq, Nat.reduceAdd, Nat.reduceLeDiff, Bool.false_eq_true, Nat.reduceMul, Bool.true_eq_false, Nat.reduceLT, gR1, gR2, gR3, gR4, gR5, gR6, gR7, gR8, gR9, gR10, gR11, gR12, gR13, gR14, gR15, Int.reduceToNat, Int.cast_ofNat_Int, Int.natCast_one, Int.reduceLT, Int.reduceLE, List.getD_nil, Int.toNat_natCast, Int.natCast_zero, false_and, and_false, Int.toNat_zero, Int.toNat_one, Int.reduceEq, Nat.reduceSub]
    refine call_by hw ?_
    simp only [go_sem, Nat.reduceEqDiff, reduceCtorEq, Nat.reduceAdd, Nat.reduceLeDiff, Bool.false_eq_true, Nat.reduceMul, Bool.true_eq_false, Nat.reduceLT, gR1, gR2, gR3, gR4, gR5, gR6, gR7, gR8, gR9, gR10, gR11, gR12, gR13, gR14, gR15, Int.reduceToNat, Int.cast_ofNat_Int, Int.natCast_one, Int.reduceLT, Int.reduceLE, List.getD_nil, Int.toNat_natCast, Int.natCast_zero, false_and, and_false, Int.toNat_zero, Int.toNat_one, Int.reduceEq, Nat.reduceSub]
  | false =>
    have hv := hok (by revert h1; cases lightB v <;> simp)
    have hb := hb hv
    simp only [go_sem, Nat.reduceEqDiff, reduceCtorEq, Nat.reduceAdd, Nat.reduceLeDiff, Bool.false_eq_true, Nat.reduceMul, Bool.true_eq_false, Nat.reduceLT, gR1, gR2, gR3, gR4, gR5, gR6, gR7, gR8, gR9, gR10, gR11, gR12, gR13, gR14, gR15, Int.reduceToNat, Int.cast_ofNat_Int, Int.natCast_one, Int.reduceLT, Int.reduceLE, List.getD_nil, Int.toNat_natCast, Int.natCast_zero, false_and, and_false, Int.toNat_zero, Int.toNat_one, Int.reduceEq, Nat.reduceSub]
    refine loop_named fun K hK => ?_
    refine loop_list l (fun done => ∀ x ∈ done, BoolS v x = 0) (fun done rest => ⟨[(5, .d (.int .i64 done.length)), (2, .ptr 2 0), (1, .d (.lst (l.map Pred.cells)))], [(2, [.d (.lst (v.vars.map SVar.cells)), .d (.lst (v.syms.map SSym.cells)), .d (.lst (v.holes.map SHole.cells))])], []⟩) ?_ (by simp) ?_ ?_
    · exact Ent_plain (by simp only [go_sem, Nat.reduceEqDiff, reduceCtorEq, Nat.reduceAdd, Nat.reduceLeDiff, Bool.false_eq_true, Nat.reduceMul, Bool.true_eq_false, Nat.reduceLT, gR1, gR2, gR3, gR4, gR5, gR6, gR7, gR8, gR9, gR10, gR11, gR12, gR13, gR14, gR15, Int.reduceToNat, Int.cast_ofNat_Int, Int.natCast_one, Int.reduceLT, Int.reduceLE, List.getD_nil, Int.toNat_natCast, Int.natCast_zero, false_and, and_false, Int.toNat_zero, Int.toNat_one, Int.reduceEq, Nat.reduceSub, Option.isSome_some])
    · intro done k r hl' hI
      have hlt := lt_mid hl'
      simp only [fn_l09_SortingConnects_L1, go_sem, Nat.reduceEqDiff, reduceCtorEq, Nat.reduceAdd, Nat.reduceLeDiff, Bool.false_eq_true, Nat.reduceMul, Bool.true_eq_false, Nat.reduceLT, gR1, gR2, gR3, gR4, gR5, gR6, gR7, gR8, gR9, gR10, gR11, gR12, gR13, gR14, gR15, Int.reduceToNat, Int.cast_ofNat_Int, Int.natCast_one, Int.reduceLT, Int.reduceLE, List.getD_nil, Int.toNat_natCast, Int.natCast_zero, false_and, and_false, Int.toNat_zero, Int.toNat_one, Int.reduceEq, Nat.reduceSub, hlt, getD_midP hl']
      intro hlen
      have hw' : IntKind.i64.wrap ((done.length : Int) + 1) = ((done.length + 1 : Nat) : Int) := wrap_succ (by omega)
      refine call_by (hb k) ?_
      simp only [go_sem, Nat.reduceEqDiff, reduceCtorEq, Nat.reduceAdd, Nat.reduceLeDiff, Bool.false_eq_true, Nat.reduceMul, Bool.true_eq_false, Nat.reduceLT, gR1, gR2, gR3, gR4, gR5, gR6, gR7, gR8, gR9, gR10, gR11, gR12, gR13, gR14, gR15, Int.reduceToNat, Int.cast_ofNat_Int, Int.natCast_one, Int.reduceLT, Int.reduceLE, List.getD_nil, Int.toNat_natCast, Int.natCast_zero, false_and, and_false, Int.toNat_zero, Int.toNat_one, Int.reduceEq, Nat.reduceSub]
      cases h2 : (BoolS v k != 0) with
      | true =>
        simp only [go_sem, Nat.reduceEqDiff, reduceCtorEq, Nat.reduceAdd, Nat.reduceLeDiff, Bool.false_eq_true, Nat.reduceMul, Bool.true_eq_false, Nat.reduceLT, gR1, gR2, gR3, gR4, gR5, gR6, gR7, gR8, gR9, gR10, gR11, gR12, gR13, gR14, gR15, Int.reduceToNat, Int.cast_ofNat_Int, Int.natCast_one, Int.reduceLT, Int.reduceLE, List.getD_nil, Int.toNat_natCast, Int.natCast_zero, false_and, and_false, Int.toNat_zero, Int.toNat_one, Int.reduceEq, Nat.reduceSub]
        refine call_by hw ?_
        subst hK
        simp only [go_sem, Nat.reduceEqDiff, reduceCtorEq, Nat.reduceAdd, Nat.reduceLeDiff, Bool.false_eq_true, Nat.reduceMul, Bool.true_eq_false, Nat.reduceLT, gR1, gR2, gR3, gR4, gR5, gR6, gR7, gR8, gR9, gR10, gR11, gR12, gR13, gR14, gR15, Int.reduceToNat, Int.cast_ofNat_Int, Int.natCast_one, Int.reduceLT, Int.reduceLE, List.getD_nil, Int.toNat_natCast, Int.natCast_zero, false_and, and_false, Int.toNat_zero, Int.toNat_one, Int.reduceEq, Nat.reduceSub]
      | false =>
        have hk0 : BoolS v k = 0 := by simpa using h2
        have hnk := bool_not hk0
        simp only [go_sem, Nat.reduceEqDiff, reduceCtorEq, Nat.reduceAdd, Nat.reduceLeDiff, Bool.false_eq_true, Nat.reduceMul, Bool.true_eq_false, Nat.reduceLT, gR1, gR2, gR3, gR4, gR5, gR6, gR7, gR8, gR9, gR10, gR11, gR12, gR13, gR14, gR15, Int.reduceToNat, Int.cast_ofNat_Int, Int.natCast_one, Int.reduceLT, Int.reduceLE, List.getD_nil, Int.toNat_natCast, Int.natCast_zero, false_and, and_false, Int.toNat_zero, Int.toNat_one, Int.reduceEq, Nat.reduceSub, hlt, getD_midP hl']
        refine call_by (hn k (tame_of_bool hk0)) ?_
        simp only [go_sem, Nat.reduceEqDiff, reduceCtorEq, Nat.reduceAdd, Nat.reduceLeDiff, Bool.false_eq_true, Nat.reduceMul, Bool.true_eq_false, Nat.reduceLT, gR1, gR2, gR3, gR4, gR5, gR6, gR7, gR8, gR9, gR10, gR11, gR12, gR13, gR14, gR15, Int.reduceToNat, Int.cast_ofNat_Int, Int.natCast_one, Int.reduceLT, Int.reduceLE, List.getD_nil, Int.toNat_natCast, Int.natCast_zero, false_and, and_false, Int.toNat_zero, Int.toNat_one, Int.reduceEq, Nat.reduceSub]
        refine call_by (hc (notP k)) ?_
        simp only [go_sem, Nat.reduceEqDiff, reduceCtorEq, Nat.reduceAdd, Nat.reduceLeDiff, Bool.false_eq_true, Nat.reduceMul, Bool.true_eq_false, Nat.reduceLT, gR1, gR2, gR3, gR4, gR5, gR6, gR7, gR8, gR9, gR10, gR11, gR12, gR13, gR14, gR15, Int.reduceToNat, Int.cast_ofNat_Int, Int.natCast_one, Int.reduceLT, Int.reduceLE, List.getD_nil, Int.toNat_natCast, Int.natCast_zero, false_and, and_false, Int.toNat_zero, Int.toNat_one, Int.reduceEq, Nat.reduceSub]
        have hgo : ((notP k).checkE == 0 && BoolS v (notP k) != 0) = false := by
          cases h3 : ((notP k).checkE == 0) with
          | true => rw [hnk (by simpa using h3)]; rfl
          | false => rfl
        refine call_g (hb (notP k)) ?_
        simp only [go_sem, Nat.reduceEqDiff, reduceCtorEq, Nat.reduceAdd, Nat.reduceLeDiff, Bool.false_eq_true, Nat.reduceMul, Bool.true_eq_false, Nat.reduceLT, gR1, gR2, gR3, gR4, gR5, gR6, gR7, gR8, gR9, gR10, gR11, gR12, gR13, gR14, gR15, Int.reduceToNat, Int.cast_ofNat_Int, Int.natCast_one, Int.reduceLT, Int.reduceLE, List.getD_nil, Int.toNat_natCast, Int.natCast_zero, false_and, and_false, Int.toNat_zero, Int.toNat_one, Int.reduceEq, Nat.reduceSub, hgo, hw']
        exact ⟨Ent_plain (by simp only [go_sem, Nat.reduceEqDiff, reduceCtorEq, Nat.reduceAdd, Nat.reduceLeDiff, Bool.false_eq_true, Nat.reduceMul, Bool.true_eq_false, Nat.reduceLT, gR1, gR2, gR3, gR4, gR5, gR6, gR7, gR8, gR9, gR10, gR11, gR12, gR13, gR14, gR15, Int.reduceToNat, Int.cast_ofNat_Int, Int.natCast_one, Int.reduceLT, Int.reduceLE, List.getD_nil, Int.toNat_natCast, Int.natCast_zero, false_and, and_false, Int.toNat_zero, Int.toNat_one, Int.reduceEq, Nat.reduceSub, Option.isSome_some, List.length_append]), app_all hI hk0⟩
    · intro hI
      subst hK
      have hac := ha fun p hp _ => tame_of_bool (hI p hp)
      have hbc := bool_and hI
      have hgo : (((andP l).checkE != 0) || BoolS v (andP l) == 0) = true := by
        cases h3 : ((andP l).checkE != 0) with
        | true => rfl
        | false => rw [hbc (by simpa using h3)]; rfl
      simp only [fn_l09_SortingConnects_L1, go_sem, Nat.reduceEqDiff, reduceCtorEq, Nat.reduceAdd, Nat.reduceLeDiff, Bool.false_eq_true, Nat.reduceMul, Bool.true_eq_false, Nat.reduceLT, gR1, gR2, gR3, gR4, gR5, gR6, gR7, gR8, gR9, gR10, gR11, gR12, gR13, gR14, gR15, Int.reduceToNat, Int.cast_ofNat_Int, Int.natCast_one, Int.reduceLT, Int.reduceLE, List.getD_nil, Int.toNat_natCast, Int.natCast_zero, false_and, and_false, Int.toNat_zero, Int.toNat_one, Int.reduceEq, Nat.reduceSub]
      intro hlen
      refine call_by hac ?_
      simp only [go_sem, Nat.reduceEqDiff, reduceCtorEq, Nat.reduceAdd, Nat.reduceLeDiff, Bool.false_eq_true, Nat.reduceMul, Bool.true_eq_false, Nat.reduceLT, gR1, gR2, gR3, gR4, gR5, gR6, gR7, gR8, gR9, gR10, gR11, gR12, gR13, gR14, gR15, Int.reduceToNat, Int.cast_ofNat_Int, Int.natCast_one, Int.reduceLT, Int.reduceLE, List.getD_nil, Int.toNat_natCast, Int.natCast_zero, false_and, and_false, Int.toNat_zero, Int.toNat_one, Int.reduceEq, Nat.reduceSub]
      refine call_by (hc (andP l)) ?_
      simp only [go_sem, Nat.reduceEqDiff, reduceCtorEq, Nat.reduceAdd, Nat.reduceLeDiff, Bool.false_eq_true, Nat.reduceMul, Bool.true_eq_false, Nat.reduceLT, gR1, gR2, gR3, gR4, gR5, gR6, gR7, gR8, gR9, gR10, gR11, gR12, gR13, gR14, gR15, Int.reduceToNat, Int.cast_ofNat_Int, Int.natCast_one, Int.reduceLT, Int.reduceLE, List.getD_nil, Int.toNat_natCast, Int.natCast_zero, false_and, and_false, Int.toNat_zero, Int.toNat_one, Int.reduceEq, Nat.reduceSub]
      refine call_g (hb (andP l)) ?_
      simp only [go_sem, Nat.reduceEqDiff, reduceCtorEq, Nat.reduceAdd, Nat.reduceLeDiff, Bool.false_eq_true, Nat.reduceMul, Bool.true_eq_false, Nat.reduceLT, gR1, gR2, gR3, gR4, gR5, gR6, gR7, gR8, gR9, gR10, gR11, gR12, gR13, gR14, gR15, Int.reduceToNat, Int.cast_ofNat_Int, Int.natCast_one, Int.reduceLT, Int.reduceLE, List.getD_nil, Int.toNat_natCast, Int.natCast_zero, false_and, and_false, Int.toNat_zero, Int.toNat_one, Int.reduceEq, Nat.reduceSub, hgo]
      refine call_by hw ?_
      simp only [go_sem, Nat.reduceEqDiff, reduceCtorEq, Nat.reduceAdd, Nat.reduceLeDiff, Bool.false_eq_true, Nat.reduceMul, Bool.true_eq_false, Nat.reduceLT, gR1, gR2, gR3, gR4, gR5, gR6, gR7, gR8, gR9, gR10, gR11, gR12, gR13, gR14, gR15, Int.reduceToNat, Int.cast_ofNat_Int, Int.natCast_one, Int.reduceLT, Int.reduceLE, List.getD_nil, Int.toNat_natCast, Int.natCast_zero, false_and, and_false, Int.toNat_zero, Int.toNat_one, Int.reduceEq, Nat.reduceSub]
end Go.Abs
end
section
set_option linter.unusedSimpArgs false
set_option linter.unusedVariables false
set_option linter.unusedSectionVars false
namespace Go.Abs
open Go.RowKit
variable {T : Nat → Option Ty} {P : Program} {G : Nat → Option (List D)}
variable {l : Nat} {J : List (List CV) → World → Safe → Prop} {Jx : World → Safe → Prop}

theorem fn_parts {fn : Func} {fa : FnA} (h : trFn T fn = some fa) : (fn.name == "runtime.NumGoroutine") = false ∧ ∃ cd, fn.body = some cd ∧ tr T fn.ntmps cd = some fa.ac ∧ fn.results.toList.mapM (trRes T) = some fa.rs ∧ fn.ntmps = fa.n := by
  simp only [trFn] at h
  split at h
  · cases h
  · rename_i hname
    simp only [Option.bind_eq_bind, Option.pure_def, Option.bind_eq_some_iff, Option.some.injEq] at h
    obtain ⟨cd, hcd, ac, hac, rs, hrs, rfl⟩ := h
    exact ⟨by simpa using hname, cd, hcd, hac, hrs, rfl⟩

/-- the tail of a text where yield has said no: slot k is set to false, and the function returns -/
theorem stop_tail (hT : ∀ t ty, T t = some ty → chkTy P t ty = true) {fn : Func} {N k : Nat} {cd : Code} {W1 : World} {S1 : Safe} {st : St} {tmps : Array Value} {w : World} {S : Safe} {ρ : Rho} (hrs : fn.results.toList.mapM (trRes T) = some [.t k]) (h : tr T N cd = some (.seq (.reg [(none, .mv k (.c (.d (.bool false))))]) .ret))
    (hs : Sim (baseC P W1 S1 N (fun _ => none)) st tmps w S ρ) (hm : st.mem = []) {R : Ending → World → Prop} (hR : ∀ w' S', Grows W1 S1 w' S' → R (.returned (.bool false)) w') {Q : Exit → Act → World → Prop} (hQ : ∀ a w, LeavesInM Fence.wide 0 P fn a.tmps R a.defers .returning w → Q .ret a w) {m : Nat} :
    cd.wpIn (FR none) m P Q ⟨tmps, []⟩ w := by
  obtain ⟨x, y, rfl, hx, hy⟩ := tr_seq h
  obtain rfl := tr_ret hy
  refine wpIn_seq (reg_step (K := fun s => getS s.slots k = .d (.bool false) ∧ s.mem = []) hT hx hs ?_ ?_)
  · simp only [go_sem, Nat.reduceEqDiff, reduceCtorEq, Nat.reduceAdd, Nat.reduceLeDiff, Bool.false_eq_true, Nat.reduceMul, Bool.true_eq_false, Nat.reduceLT, gR1, gR2, gR3, gR4, gR5, gR6, gR7, gR8, gR9, gR10, gR11, gR12, gR13, gR14, gR15, Int.reduceToNat, Int.cast_ofNat_Int, Int.natCast_one, Int.reduceLT, Int.reduceLE, List.getD_nil, Int.toNat_natCast, Int.natCast_zero, false_and, and_false, Int.toNat_zero, Int.toNat_one, Int.reduceEq, Nat.reduceSub, hm]
  · rintro st' tm w' S' ρ' hs' ⟨h1, h2⟩
    refine wpIn_ret (hQ _ _ ⟨_, ret_bool hT hrs hs' h2 h1, hR _ _ hs'.grows⟩)

/-- the loop over the kids -/
theorem visit_loop (hT : ∀ t ty, T t = some ty → chkTy P t ty = true) {L : List Pred} (hY : YCtx P G l (yields L) J Jx) {fn : Func} (hrs : fn.results.toList.mapM (trRes T) = some [.t 4]) (hN : fn.ntmps = 23) {ks : List Pred} (hlen : (ks.length : Int) ≤ 9223372036854775807)
    (ih : ∀ k ∈ ks, EvY P (yields L) J Jx pred_visit [CV.agg k.cells, CV.one (D.yl l)] (yields k.pre)) {body : Code} (hbody : tr T fn.ntmps body = some fn_pred_visit_L1) {a b : List (List CV)} (hxs : yields L = a ++ yields (Pred.pre.pres ks) ++ b) {W0 : World} {S0 : Safe}
    {RR : Ending → World → Prop} (hRR : ∀ w' S', Jx w' S' → RR (.returned (.bool false)) w') {R : Exit → Act → World → Prop} (hstop : ∀ a w, LeavesInM Fence.wide 0 P fn a.tmps RR a.defers .returning w → R .ret a w)
    (hexit : ∀ W' S3 st tm w S' ρ, J (a ++ yields (Pred.pre.pres ks)) W' S3 → Keeps W0 S0 W' S3 → Sim (baseC P W' S3 fn.ntmps G) st tm w S' ρ → st.mem = [] → R (.exit 0) ⟨tm, []⟩ w) :
    ∀ (rest done : List Pred), ks = done ++ rest → ∀ (W' : World) (S3 : Safe) (tm : Array Value) (w : World) (S' : Safe) (ρ : Rho), J (a ++ yields (Pred.pre.pres done)) W' S3 → Keeps W0 S0 W' S3 →
      Sim (baseC P W' S3 fn.ntmps G) (pureSt [(14, .int .i64 done.length), (13, .int .i64 ks.length), (12, .lst (ks.map Pred.cells)), (1, .yl l)]) tm w S' ρ →
      Inside (FR none) 0 P body R ⟨tm, []⟩ w := by
  unfold fn_pred_visit_L1 at hbody
  obtain ⟨z0, z1, rfl, k0, k1⟩ := tr_seq hbody
  obtain ⟨z2, z3, rfl, k2, k3⟩ := tr_seq k1
  obtain ⟨z4, z5, rfl, k4, k5⟩ := tr_seq k3
  obtain ⟨zg, zy, zz, rfl, kg, ky, kz⟩ := tr_cond k2
  obtain rfl := tr_skip ky
  obtain rfl := tr_exit kz
  obtain ⟨z6, rfl, k6⟩ := tr_block k4
  obtain ⟨z7, z8, rfl, k7, k8⟩ := tr_seq k6
  obtain ⟨z9, z10, rfl, k9, k10⟩ := tr_seq k8
  obtain ⟨vg, vy, vz, rfl, vk, vky, vkz⟩ := tr_cond k10
  obtain rfl := tr_skip vkz
  have hd : ∀ d, d < 23 → d < fn.ntmps := fun d hd => by rw [hN]; exact hd
  intro rest
  induction rest with
  | nil =>
    intro done hdone W' S3 tm w S' ρ hJ' hk' hs
    have hdone : ks = done := by simpa using hdone
    subst hdone
    refine inside_round (wpIn_seq (reg_step (K := fun z => getS z.slots 15 = .d (.bool false) ∧ z.mem = []) hT k0 hs ?_ ?_))
    · simp only [go_sem, Nat.reduceEqDiff, reduceCtorEq, Nat.reduceAdd, Nat.reduceLeDiff, Bool.false_eq_true, Nat.reduceMul, Bool.true_eq_false, Nat.reduceLT, gR1, gR2, gR3, gR4, gR5, gR6, gR7, gR8, gR9, gR10, gR11, gR12, gR13, gR14, gR15, Int.reduceToNat, Int.cast_ofNat_Int, Int.natCast_one, Int.reduceLT, Int.reduceLE, List.getD_nil, Int.toNat_natCast, Int.natCast_zero, false_and, and_false, Int.toNat_zero, Int.toNat_one, Int.reduceEq, Nat.reduceSub, pureSt]
    rintro st1 tm1 w1 S1 ρ1 hs1 ⟨h15, hm⟩
    refine wpIn_seq (cond_step kg hs1 (b := false) (by simp [ev, ev0, h15, AV.strip]) (by simp [gd, ev0, h15, AV.grd]) (fun h => by cases h) (fun _ => wpIn_exit ?_))
    exact hexit _ _ _ _ _ _ _ hJ' hk' hs1 hm
  | cons k rest ihr =>
    intro done hdone W' S3 tm w S' ρ hJ' hk' hs
    have hlt := lt_mid hdone
    have hw : IntKind.i64.wrap ((done.length : Int) + 1) = ((done.length + 1 : Nat) : Int) := wrap_succ (by omega)
    refine inside_round (wpIn_seq (reg_step (K := fun z => z = ⟨[(15, .d (.bool true)), (14, .d (.int .i64 done.length)), (13, .d (.int .i64 ks.length)), (12, .d (.lst (ks.map Pred.cells))), (1, .d (.yl l))], [], []⟩) hT k0 hs ?_ ?_))
    · simp only [go_sem, Nat.reduceEqDiff, reduceCtorEq, Nat.reduceAdd, Nat.reduceLeDiff, Bool.false_eq_true, Nat.reduceMul, Bool.true_eq_false, Nat.reduceLT, gR1, gR2, gR3, gR4, gR5, gR6, gR7, gR8, gR9, gR10, gR11, gR12, gR13, gR14, gR15, Int.reduceToNat, Int.cast_ofNat_Int, Int.natCast_one, Int.reduceLT, Int.reduceLE, List.getD_nil, Int.toNat_natCast, Int.natCast_zero, false_and, and_false, Int.toNat_zero, Int.toNat_one, Int.reduceEq, Nat.reduceSub, pureSt, hlt]
    rintro _ tm1 w1 S1 ρ1 hs1 rfl
    refine wpIn_seq (cond_step kg hs1 (b := true) rfl rfl (fun _ => wpIn_skip ?_) (fun h => by cases h))
    refine wpIn_seq (wpIn_block (wpIn_seq (reg_step (K := fun z => ∃ sl mm, z = ⟨(6, .ptr 6 0) :: sl, (6, (Pred.cells k).map .d) :: mm, []⟩ ∧ getS sl 14 = .d (.int .i64 done.length) ∧ getS sl 13 = .d (.int .i64 ks.length) ∧ getS sl 12 = .d (.lst (ks.map Pred.cells)) ∧ getS sl 1 = .d (.yl l)) hT k7 hs1 ?_ ?_)))
    · simp only [go_sem, Nat.reduceEqDiff, reduceCtorEq, Nat.reduceAdd, Nat.reduceLeDiff, Bool.false_eq_true, Nat.reduceMul, Bool.true_eq_false, Nat.reduceLT, gR1, gR2, gR3, gR4, gR5, gR6, gR7, gR8, gR9, gR10, gR11, gR12, gR13, gR14, gR15, Int.reduceToNat, Int.cast_ofNat_Int, Int.natCast_one, Int.reduceLT, Int.reduceLE, List.getD_nil, Int.toNat_natCast, Int.natCast_zero, false_and, and_false, Int.toNat_zero, Int.toNat_one, Int.reduceEq, Nat.reduceSub, hlt, getD_midP hdone]
      exact ⟨_, _, rfl, rfl, rfl, rfl, rfl⟩
    rintro _ tm2 w2 S2 ρ2 hs2 ⟨sl, mm, rfl, h14, h13, h12, h1⟩
    refine wpIn_seq ?_
    obtain ⟨id, ops, rfl, hops, hok⟩ := tr_reg k9
    obtain ⟨hlen', hget⟩ := trOps_get hops
    have hsz : ops.size = 4 := by simpa using hlen'.symm
    refine wpIn_region ?_
    have hr : List.range ops.size = List.range' 0 2 ++ [2, 3] := by rw [hsz]; rfl
    rw [hr]
    refine ops_pre (c := baseC P W' S3 fn.ntmps G) (E := quietE G) rfl (fun _ _ _ h => h.elim) hT hops (fun o ho d hd => ⟨okDst_D hok ho hd, rfl⟩) (FR.fw none) 0 _
      (K := fun z => z = ⟨(19, .d (.yl l)) :: (18, .agg ((Pred.cells k).map .d)) :: (6, .ptr 6 0) :: sl, (6, (Pred.cells k).map .d) :: mm, []⟩) [2, 3] 2 0 (by omega) ?_ hs2 ?_
    case refine_2 =>
      rw [Pred.cells_eq]
      simp only [go_sem, Nat.reduceEqDiff, reduceCtorEq, Nat.reduceAdd, Nat.reduceLeDiff, Bool.false_eq_true, Nat.reduceMul, Bool.true_eq_false, Nat.reduceLT, gR1, gR2, gR3, gR4, gR5, gR6, gR7, gR8, gR9, gR10, gR11, gR12, gR13, gR14, gR15, Int.reduceToNat, Int.cast_ofNat_Int, Int.natCast_one, Int.reduceLT, Int.reduceLE, List.getD_nil, Int.toNat_natCast, Int.natCast_zero, false_and, and_false, Int.toNat_zero, Int.toNat_one, Int.reduceEq, Nat.reduceSub, h1]
    rintro ⟨tm3, ds3⟩ w3 ⟨hds, st3, S4, ρ3, hs3, rfl⟩
    simp only at hds
    subst hds
    obtain ⟨gi2, i2, hl2, htg2, hti2⟩ := hget 2 ops[2] (by simp [hsz])
    obtain ⟨gi3, i3, hl3, htg3, hti3⟩ := hget 3 ops[3] (by simp [hsz])
    simp only [go_sem, Nat.reduceEqDiff, reduceCtorEq, Nat.reduceAdd, Nat.reduceLeDiff, Bool.false_eq_true, Nat.reduceMul, Bool.true_eq_false, Nat.reduceLT, gR1, gR2, gR3, gR4, gR5, gR6, gR7, gR8, gR9, gR10, gR11, gR12, gR13, gR14, gR15, Int.reduceToNat, Int.cast_ofNat_Int, Int.natCast_one, Int.reduceLT, Int.reduceLE, List.getD_nil, Int.toNat_natCast, Int.natCast_zero, false_and, and_false, Int.toNat_zero, Int.toNat_one, Int.reduceEq, Nat.reduceSub, Prod.mk.injEq] at hl2 hl3
    obtain ⟨rfl, rfl⟩ := hl2
    rw [wpOpsIn_cons]
    have h4 : 3 + 1 ≤ ops.size := by omega
    have hkm : k ∈ ks := by rw [hdone]; simp
    have hys : yields (Pred.pre.pres ks) = yields (Pred.pre.pres done) ++ (yields k.pre ++ yields (Pred.pre.pres rest)) := by
      rw [hdone, Pred.pres_app, Pred.pre.pres]; simp [yields]
    refine wpOpIn_plain (ops := ops) (k := 2) (o := ops[2]) (by simp [hsz]) htg2 (evy_op hY (a := a ++ yields (Pred.pre.pres done)) (ys := yields k.pre) (b := yields (Pred.pre.pres rest) ++ b) (by rw [hxs, hys]; simp) hJ' hs3 hti2 (hd _ (by omega)) rfl rfl rfl
      (cvs := [.agg (Pred.cells k), .one (.yl l)]) ?_ (ih k hkm) [(14, .int .i64 done.length), (13, .int .i64 ks.length), (12, .lst (ks.map Pred.cells)), (1, .yl l)] ?_ ?_ ?_)
    · simp only [go_sem, Nat.reduceEqDiff, reduceCtorEq, Nat.reduceAdd, Nat.reduceLeDiff, Bool.false_eq_true, Nat.reduceMul, Bool.true_eq_false, Nat.reduceLT, gR1, gR2, gR3, gR4, gR5, gR6, gR7, gR8, gR9, gR10, gR11, gR12, gR13, gR14, gR15, Int.reduceToNat, Int.cast_ofNat_Int, Int.natCast_one, Int.reduceLT, Int.reduceLE, List.getD_nil, Int.toNat_natCast, Int.natCast_zero, false_and, and_false, Int.toNat_zero, Int.toNat_one, Int.reduceEq, Nat.reduceSub]
    · intro q hq
      simp only [List.mem_cons, List.not_mem_nil, or_false] at hq
      rcases hq with rfl | rfl | rfl | rfl <;> simp only [go_sem, Nat.reduceEqDiff, reduceCtorEq, Nat.reduceAdd, Nat.reduceLeDiff, Bool.false_eq_true, Nat.reduceMul, Bool.true_eq_false, Nat.reduceLT, gR1, gR2, gR3, gR4, gR5, gR6, gR7, gR8, gR9, gR10, gR11, gR12, gR13, gR14, gR15, Int.reduceToNat, Int.cast_ofNat_Int, Int.natCast_one, Int.reduceLT, Int.reduceLE, List.getD_nil, Int.toNat_natCast, Int.natCast_zero, false_and, and_false, Int.toNat_zero, Int.toNat_one, Int.reduceEq, Nat.reduceSub, h14, h13, h12, h1]
    rotate_left
    · -- it has said no
      intro W8 S8 ρ8 hx8 hs8
      refine ops_pre (c := baseC P W8 S8 fn.ntmps fun _ => none) (E := quietE fun _ => none) rfl (fun _ _ _ h => h.elim) hT hops (fun o ho d hd => ⟨okDst_D hok ho hd, rfl⟩) (FR.fw none) 0 _
        (K := fun z => getS z.slots 21 = .d (.bool true) ∧ z.mem = []) [] 1 3 h4 ?_ hs8 ?_
      case refine_2 => simp only [go_sem, Nat.reduceEqDiff, reduceCtorEq, Nat.reduceAdd, Nat.reduceLeDiff, Bool.false_eq_true, Nat.reduceMul, Bool.true_eq_false, Nat.reduceLT, gR1, gR2, gR3, gR4, gR5, gR6, gR7, gR8, gR9, gR10, gR11, gR12, gR13, gR14, gR15, Int.reduceToNat, Int.cast_ofNat_Int, Int.natCast_one, Int.reduceLT, Int.reduceLE, List.getD_nil, Int.toNat_natCast, Int.natCast_zero, false_and, and_false, Int.toNat_zero, Int.toNat_one, Int.reduceEq, Nat.reduceSub, pureSt]
      rintro ⟨tm4, ds4⟩ w4 ⟨hds, st4, S4, ρ4, hs4, h10, hm⟩
      simp only at hds
      subst hds
      refine cond_step vk hs4 (b := true) (by simp [ev, ev0, h10, AV.strip]) (by simp [gd, ev0, h10, AV.grd]) (fun _ => ?_) (fun h => by cases h)
      refine stop_tail hT hrs vky hs4 hm (fun w' S' hg => hRR _ _ (hY.growx _ _ _ _ hx8 hg)) (fun a w h => ?_)
      exact hstop a w h
    -- it goes on
    intro W8 S8 ρ8 hJ8 hk8 hs8
    refine ops_pre (c := baseC P W8 S8 fn.ntmps G) (E := quietE G) rfl (fun _ _ _ h => h.elim) hT hops (fun o ho d hd => ⟨okDst_D hok ho hd, rfl⟩) (FR.fw none) 0 _
        (K := fun z => z = ⟨(21, .d (.bool false)) :: (20, .d (.bool true)) :: (pureSt [(14, .int .i64 done.length), (13, .int .i64 ks.length), (12, .lst (ks.map Pred.cells)), (1, .yl l)]).slots, [], []⟩) [] 1 3 h4 ?_ hs8 ?_
    case refine_2 => simp only [go_sem, Nat.reduceEqDiff, reduceCtorEq, Nat.reduceAdd, Nat.reduceLeDiff, Bool.false_eq_true, Nat.reduceMul, Bool.true_eq_false, Nat.reduceLT, gR1, gR2, gR3, gR4, gR5, gR6, gR7, gR8, gR9, gR10, gR11, gR12, gR13, gR14, gR15, Int.reduceToNat, Int.cast_ofNat_Int, Int.natCast_one, Int.reduceLT, Int.reduceLE, List.getD_nil, Int.toNat_natCast, Int.natCast_zero, false_and, and_false, Int.toNat_zero, Int.toNat_one, Int.reduceEq, Nat.reduceSub, pureSt]
    rintro ⟨tm4, ds4⟩ w4 ⟨hds, st4, S4, ρ4, hs4, rfl⟩
    simp only at hds
    subst hds
    refine cond_step vk hs4 (b := false) rfl rfl (fun h => by cases h) (fun _ => wpIn_skip ?_)
    refine reg_step (K := fun z => ∃ sl, z = ⟨(14, .d (.int .i64 (done.length + 1 : Nat))) :: sl, [], []⟩ ∧ getS sl 13 = .d (.int .i64 ks.length) ∧ getS sl 12 = .d (.lst (ks.map Pred.cells)) ∧ getS sl 1 = .d (.yl l)) hT k5 hs4 ?_ ?_
    · simp only [go_sem, Nat.reduceEqDiff, reduceCtorEq, Nat.reduceAdd, Nat.reduceLeDiff, Bool.false_eq_true, Nat.reduceMul, Bool.true_eq_false, Nat.reduceLT, gR1, gR2, gR3, gR4, gR5, gR6, gR7, gR8, gR9, gR10, gR11, gR12, gR13, gR14, gR15, Int.reduceToNat, Int.cast_ofNat_Int, Int.natCast_one, Int.reduceLT, Int.reduceLE, List.getD_nil, Int.toNat_natCast, Int.natCast_zero, false_and, and_false, Int.toNat_zero, Int.toNat_one, Int.reduceEq, Nat.reduceSub, pureSt, hw]
      exact ⟨_, rfl, rfl, rfl, rfl⟩
    rintro _ tm5 w5 S5 ρ5 hs5 ⟨sl5, rfl, g13, g12, g1⟩
    obtain ⟨ρ6, hs6⟩ := Ent.sound hs5 (st1 := pureSt [(14, .int .i64 (done ++ [k]).length), (13, .int .i64 ks.length), (12, .lst (ks.map Pred.cells)), (1, .yl l)]) (Ent_plain (by simp only [go_sem, Nat.reduceEqDiff, reduceCtorEq, Nat.reduceAdd, Nat.reduceLeDiff, Bool.false_eq_true, Nat.reduceMul, Bool.true_eq_false, Nat.reduceLT, gR1, gR2, gR3, gR4, gR5, gR6, gR7, gR8, gR9, gR10, gR11, gR12, gR13, gR14, gR15, Int.reduceToNat, Int.cast_ofNat_Int, Int.natCast_one, Int.reduceLT, Int.reduceLE, List.getD_nil, Int.toNat_natCast, Int.natCast_zero, false_and, and_false, Int.toNat_zero, Int.toNat_one, Int.reduceEq, Nat.reduceSub, pureSt, g13, g12, g1, List.length_append]))
    have hkk : Keeps W' S3 w3 _ := hs3.grows.keeps (hY.live _ _ _ hJ')
    exact ihr (done ++ [k]) (by simp [hdone]) W8 S8 tm5 w5 S5 ρ6 (by rw [Pred.pres_app, Pred.pre.pres, Pred.pre.pres]; simpa [yields] using hJ8) ((hk'.trans hkk).trans hk8) hs6

theorem visit_ok (hT : ∀ t ty, T t = some ty → chkTy P t ty = true) {L : List Pred} (hY : YCtx P G l (yields L) J Jx) {fn : Func} (hf : P.funcs[pred_visit]? = some fn) (htr : trFn T fn = some fn_pred_visit) (p : Pred) :
    EvY P (yields L) J Jx pred_visit [.agg (Pred.cells p), .one (.yl l)] (yields p.pre) := by
  induction p using Pred.ind with
  | h o s n ks ih =>
  obtain ⟨hname, cd, hcd, hac, hrs, hN⟩ := fn_parts htr
  refine ⟨⟨fn, hf, hname, by simp [hcd]⟩, ?_⟩
  intro a b W S cargs hxs hJ hargs
  refine callsIn_wide.1 (callsIn_of_wp_marks (n := 0) hf hcd trivial ?_)
  have hs0 := init_sim (P := P) (G := G) (fn := fn) (by rw [hN]; exact Nat.le_of_ble_eq_true rfl) (hY.live _ _ _ hJ) (hY.glob _ _ _ hJ) hargs
  change Sim (baseC P W S fn.ntmps G) _ _ _ _ _ at hs0
  obtain ⟨x0, y0, rfl, h0, hac⟩ := tr_seq hac
  obtain ⟨x1, y1, rfl, h1, hac⟩ := tr_seq hac
  obtain ⟨x2, y2, rfl, h2, h3⟩ := tr_seq hac
  obtain ⟨x1a, x1b, rfl, h1a, h1b⟩ := tr_seq h1
  obtain ⟨x2a, x2b, rfl, h2a, h2b⟩ := tr_seq h2
  obtain ⟨x3a, x3b, rfl, h3a, h3b⟩ := tr_seq h3
  obtain rfl := tr_ret h3b
  obtain ⟨cg, cy, cz, rfl, hcg, hcy, hcz⟩ := tr_cond h1b
  obtain rfl := tr_skip hcz
  have hd : ∀ d, d < 23 → d < fn.ntmps := fun d hd => by rw [hN]; exact hd
  rw [Pred.cells_eq] at hargs hs0
  simp only [Pred.op, Pred.name, Pred.n, Pred.kids] at hargs hs0
  generalize hcs : ([D.int .i64 o, D.str s, D.int .i64 n, D.lst (ks.map Pred.cells)] : List D) = pc at hargs hs0
  -- the predicate is boxed
  refine wpIn_seq (reg_step (K := fun z => z = ⟨[(4, .d (.bool false)), (2, .ptr 2 0), (0, .agg (pc.map .d)), (1, .d (.yl l))], [(2, pc.map .d)], []⟩) hT h0 hs0 ?_ ?_)
  · subst hcs; simp only [go_sem, Nat.reduceEqDiff, reduceCtorEq, Nat.reduceAdd, Nat.reduceLeDiff, Bool.false_eq_true, Nat.reduceMul, Bool.true_eq_false, Nat.reduceLT, gR1, gR2, gR3, gR4, gR5, gR6, gR7, gR8, gR9, gR10, gR11, gR12, gR13, gR14, gR15, Int.reduceToNat, Int.cast_ofNat_Int, Int.natCast_one, Int.reduceLT, Int.reduceLE, List.getD_nil, Int.toNat_natCast, Int.natCast_zero, false_and, and_false, Int.toNat_zero, Int.toNat_one, Int.reduceEq, Nat.reduceSub]
  rintro _ tm1 w1 S1 ρ1 hs1 rfl
  -- it is yielded
  refine wpIn_seq ?_
  refine wpIn_seq ?_
  obtain ⟨id, ops, rfl, hops, hok⟩ := tr_reg h1a
  obtain ⟨hlen, hget⟩ := trOps_get hops
  have hsz : ops.size = 4 := by simpa using hlen.symm
  refine wpIn_region ?_
  have hr : List.range ops.size = List.range' 0 2 ++ [2, 3] := by rw [hsz]; rfl
  rw [hr]
  refine ops_pre (c := baseC P W S fn.ntmps G) (E := quietE G) rfl (fun _ _ _ h => h.elim) hT hops (fun o ho d hd => ⟨okDst_D hok ho hd, rfl⟩) (FR.fw none) 0 _
    (K := fun z => z = ⟨[(8, .agg (pc.map .d)), (7, .d (.yl l)), (4, .d (.bool false)), (2, .ptr 2 0), (0, .agg (pc.map .d)), (1, .d (.yl l))], [(2, pc.map .d)], []⟩) [2, 3] 2 0 (by omega) ?_ hs1 ?_
  case refine_2 =>
    subst hcs
    simp only [go_sem, Nat.reduceEqDiff, reduceCtorEq, Nat.reduceAdd, Nat.reduceLeDiff, Bool.false_eq_true, Nat.reduceMul, Bool.true_eq_false, Nat.reduceLT, gR1, gR2, gR3, gR4, gR5, gR6, gR7, gR8, gR9, gR10, gR11, gR12, gR13, gR14, gR15, Int.reduceToNat, Int.cast_ofNat_Int, Int.natCast_one, Int.reduceLT, Int.reduceLE, List.getD_nil, Int.toNat_natCast, Int.natCast_zero, false_and, and_false, Int.toNat_zero, Int.toNat_one, Int.reduceEq, Nat.reduceSub]
  rintro ⟨tm2, ds2⟩ w2 ⟨hds, st2, S2, ρ2, hs2, rfl⟩
  simp only at hds
  subst hds
  obtain ⟨gi2, i2, hl2, htg2, hti2⟩ := hget 2 ops[2] (by simp [hsz])
  obtain ⟨gi3, i3, hl3, htg3, hti3⟩ := hget 3 ops[3] (by simp [hsz])
  simp only [go_sem, Nat.reduceEqDiff, reduceCtorEq, Nat.reduceAdd, Nat.reduceLeDiff, Bool.false_eq_true, Nat.reduceMul, Bool.true_eq_false, Nat.reduceLT, gR1, gR2, gR3, gR4, gR5, gR6, gR7, gR8, gR9, gR10, gR11, gR12, gR13, gR14, gR15, Int.reduceToNat, Int.cast_ofNat_Int, Int.natCast_one, Int.reduceLT, Int.reduceLE, List.getD_nil, Int.toNat_natCast, Int.natCast_zero, false_and, and_false, Int.toNat_zero, Int.toNat_one, Int.reduceEq, Nat.reduceSub, Prod.mk.injEq] at hl2 hl3
  obtain ⟨rfl, rfl⟩ := hl2
  rw [wpOpsIn_cons]
  have hpre : yields (Pred.mk o s n ks).pre = [.agg pc] :: yields (Pred.pre.pres ks) := by
    rw [Pred.pre_eq, yields, List.map_cons, Pred.cells_eq]
    simp only [Pred.op, Pred.name, Pred.n, Pred.kids, hcs]; rfl
  rw [hpre] at hxs
  have h4 : 3 + 1 ≤ ops.size := by omega
  refine wpOpIn_plain (ops := ops) (k := 2) (o := ops[2]) (by simp [hsz]) htg2 (yield_op hY (x := [.agg pc]) (b := yields (Pred.pre.pres ks) ++ b) (by simpa using hxs) hJ hs2 hti2 (hd _ (by omega)) rfl rfl rfl ?_ [(2, .ref pc), (1, .yl l), (4, .bool false)] ?_ ?_ ?_)
  · simp only [go_sem, Nat.reduceEqDiff, reduceCtorEq, Nat.reduceAdd, Nat.reduceLeDiff, Bool.false_eq_true, Nat.reduceMul, Bool.true_eq_false, Nat.reduceLT, gR1, gR2, gR3, gR4, gR5, gR6, gR7, gR8, gR9, gR10, gR11, gR12, gR13, gR14, gR15, Int.reduceToNat, Int.cast_ofNat_Int, Int.natCast_one, Int.reduceLT, Int.reduceLE, List.getD_nil, Int.toNat_natCast, Int.natCast_zero, false_and, and_false, Int.toNat_zero, Int.toNat_one, Int.reduceEq, Nat.reduceSub]
  · subst hcs
    intro q hq
    simp only [List.mem_cons, List.not_mem_nil, or_false] at hq
    rcases hq with rfl | rfl | rfl
    · simp only [go_sem, Nat.reduceEqDiff, reduceCtorEq, Nat.reduceAdd, Nat.reduceLeDiff, Bool.false_eq_true, Nat.reduceMul, Bool.true_eq_false, Nat.reduceLT, gR1, gR2, gR3, gR4, gR5, gR6, gR7, gR8, gR9, gR10, gR11, gR12, gR13, gR14, gR15, Int.reduceToNat, Int.cast_ofNat_Int, Int.natCast_one, Int.reduceLT, Int.reduceLE, List.getD_nil, Int.toNat_natCast, Int.natCast_zero, false_and, and_false, Int.toNat_zero, Int.toNat_one, Int.reduceEq, Nat.reduceSub, List.mapM_cons, List.mapM_nil, Option.bind_eq_bind, Option.bind_some, Option.pure_def]
    · rfl
    · rfl
  rotate_left
  · -- it has said no
    intro W' S3 ρ3 hx3 hs3
    refine ops_pre (c := baseC P W' S3 fn.ntmps fun _ => none) (E := quietE fun _ => none) rfl (fun _ _ _ h => h.elim) hT hops (fun o ho d hd => ⟨okDst_D hok ho hd, rfl⟩) (FR.fw none) 0 _
      (K := fun z => getS z.slots 10 = .d (.bool true) ∧ z.mem = []) [] 1 3 h4 ?_ hs3 ?_
    case refine_2 => simp only [go_sem, Nat.reduceEqDiff, reduceCtorEq, Nat.reduceAdd, Nat.reduceLeDiff, Bool.false_eq_true, Nat.reduceMul, Bool.true_eq_false, Nat.reduceLT, gR1, gR2, gR3, gR4, gR5, gR6, gR7, gR8, gR9, gR10, gR11, gR12, gR13, gR14, gR15, Int.reduceToNat, Int.cast_ofNat_Int, Int.natCast_one, Int.reduceLT, Int.reduceLE, List.getD_nil, Int.toNat_natCast, Int.natCast_zero, false_and, and_false, Int.toNat_zero, Int.toNat_one, Int.reduceEq, Nat.reduceSub, pureSt]
    rintro ⟨tm4, ds4⟩ w4 ⟨hds, st4, S4, ρ4, hs4, h10, hm⟩
    simp only at hds
    subst hds
    refine cond_step hcg hs4 (b := true) (by simp [ev, ev0, h10, AV.strip]) (by simp [gd, ev0, h10, AV.grd]) (fun _ => ?_) (fun h => by cases h)
    refine stop_tail hT hrs hcy hs4 hm (fun w' S' hg => .inr ⟨rfl, S', hY.growx _ _ _ _ hx3 hg⟩) (fun _ _ h => h)
  -- it goes on
  intro W' S3 ρ3 hJ3 hk3 hs3
  refine ops_pre (c := baseC P W' S3 fn.ntmps G) (E := quietE G) rfl (fun _ _ _ h => h.elim) hT hops (fun o ho d hd => ⟨okDst_D hok ho hd, rfl⟩) (FR.fw none) 0 _
      (K := fun z => z = ⟨[(10, .d (.bool false)), (9, .d (.bool true)), (2, .d (.ref pc)), (1, .d (.yl l)), (4, .d (.bool false))], [], []⟩) [] 1 3 h4 ?_ hs3 ?_
  case refine_2 => simp only [go_sem, Nat.reduceEqDiff, reduceCtorEq, Nat.reduceAdd, Nat.reduceLeDiff, Bool.false_eq_true, Nat.reduceMul, Bool.true_eq_false, Nat.reduceLT, gR1, gR2, gR3, gR4, gR5, gR6, gR7, gR8, gR9, gR10, gR11, gR12, gR13, gR14, gR15, Int.reduceToNat, Int.cast_ofNat_Int, Int.natCast_one, Int.reduceLT, Int.reduceLE, List.getD_nil, Int.toNat_natCast, Int.natCast_zero, false_and, and_false, Int.toNat_zero, Int.toNat_one, Int.reduceEq, Nat.reduceSub, pureSt]
  rintro ⟨tm4, ds4⟩ w4 ⟨hds, st4, S4, ρ4, hs4, rfl⟩
  simp only at hds
  subst hds
  refine cond_step hcg hs4 (b := false) rfl rfl (fun h => by cases h) (fun _ => wpIn_skip ?_)
  refine wpIn_seq ?_
  refine wpIn_seq ?_
  refine reg_step (K := fun z => (ks.length : Int) ≤ 9223372036854775807 ∧ ∃ sl, z = ⟨(14, .d (.int .i64 0)) :: (13, .d (.int .i64 ks.length)) :: (12, .d (.lst (ks.map Pred.cells))) :: sl, [], []⟩ ∧ getS sl 1 = .d (.yl l)) hT h2a hs4 ?_ ?_
  · subst hcs
    simp only [go_sem, Nat.reduceEqDiff, reduceCtorEq, Nat.reduceAdd, Nat.reduceLeDiff, Bool.false_eq_true, Nat.reduceMul, Bool.true_eq_false, Nat.reduceLT, gR1, gR2, gR3, gR4, gR5, gR6, gR7, gR8, gR9, gR10, gR11, gR12, gR13, gR14, gR15, Int.reduceToNat, Int.cast_ofNat_Int, Int.natCast_one, Int.reduceLT, Int.reduceLE, List.getD_nil, Int.toNat_natCast, Int.natCast_zero, false_and, and_false, Int.toNat_zero, Int.toNat_one, Int.reduceEq, Nat.reduceSub]
    intro hlen
    exact ⟨hlen, _, rfl, rfl⟩
  rintro _ tm5 w5 S5 ρ5 hs5 ⟨hlen, sl5, rfl, hsl5⟩
  obtain ⟨xl0, rfl, h2c⟩ := tr_block h2b
  obtain ⟨xl, rfl, h2d⟩ := tr_loop h2c
  refine wpIn_block (wp_loop_inside ?_)
  obtain ⟨ρ6, hs6⟩ := Ent.sound hs5 (st1 := pureSt [(14, .int .i64 (0 : Nat)), (13, .int .i64 ks.length), (12, .lst (ks.map Pred.cells)), (1, .yl l)]) (Ent_plain (by simp only [go_sem, Nat.reduceEqDiff, reduceCtorEq, Nat.reduceAdd, Nat.reduceLeDiff, Bool.false_eq_true, Nat.reduceMul, Bool.true_eq_false, Nat.reduceLT, gR1, gR2, gR3, gR4, gR5, gR6, gR7, gR8, gR9, gR10, gR11, gR12, gR13, gR14, gR15, Int.reduceToNat, Int.cast_ofNat_Int, Int.natCast_one, Int.reduceLT, Int.reduceLE, List.getD_nil, Int.toNat_natCast, Int.natCast_zero, false_and, and_false, Int.toNat_zero, Int.toNat_one, Int.reduceEq, Nat.reduceSub, pureSt, hsl5]))
  refine visit_loop hT hY hrs hN hlen ih h2d (a := a ++ [[.agg pc]]) (b := b) (by rw [hxs]; simp) (W0 := W) (S0 := S) (RR := _) (fun w' S' hx => .inr ⟨rfl, S', hx⟩) (fun a w h => h) ?_ ks [] rfl W' S3 tm5 w5 S5 ρ6 (by simpa [Pred.pre.pres, yields] using hJ3) ((hs2.grows.keeps (hY.live _ _ _ hJ)).trans hk3) hs6
  intro W7 S7 st7 tm7 w7 S7' ρ7 hJ7 hk7 hs7 hm7
  refine wpIn_seq (reg_step (K := fun z => getS z.slots 4 = .d (.bool true) ∧ z.mem = []) hT h3a hs7 ?_ ?_)
  · simp only [go_sem, Nat.reduceEqDiff, reduceCtorEq, Nat.reduceAdd, Nat.reduceLeDiff, Bool.false_eq_true, Nat.reduceMul, Bool.true_eq_false, Nat.reduceLT, gR1, gR2, gR3, gR4, gR5, gR6, gR7, gR8, gR9, gR10, gR11, gR12, gR13, gR14, gR15, Int.reduceToNat, Int.cast_ofNat_Int, Int.natCast_one, Int.reduceLT, Int.reduceLE, List.getD_nil, Int.toNat_natCast, Int.natCast_zero, false_and, and_false, Int.toNat_zero, Int.toNat_one, Int.reduceEq, Nat.reduceSub, hm7]
  rintro st8 tm8 w8 S8 ρ8 hs8 ⟨h8, hm8⟩
  refine wpIn_ret ⟨_, ret_bool hT hrs hs8 hm8 h8, .inl ⟨rfl, S8, ?_, hk7.trans (hs8.grows.keeps (hY.live _ _ _ hJ7))⟩⟩
  rw [hpre]
  exact hY.grow _ W7 S7 w8 S8 (by simpa using hJ7) hs8.grows
theorem before_1_ok (hT : ∀ t ty, T t = some ty → chkTy P t ty = true) {fv : Func} (hfv : P.funcs[pred_visit]? = some fv) (htrv : trFn T fv = some fn_pred_visit) {fn : Func} (hf : P.funcs[pred_before_1]? = some fn) (htr : trFn T fn = some fn_pred_before_1) (p : Pred) :
    ItOk P G pred_before_1 [.ref (Pred.cells p)] (yields p.pre) := by
  obtain ⟨hname, cd, hcd, hac, hrs, hN⟩ := fn_parts htr
  refine ⟨⟨fn, hf, hname, by simp [hcd]⟩, ?_⟩
  intro l w S cs J Jx hlive hglob hcs hgrow hgrowx hlk hlx hyield hJ0
  have hY : YCtx P G l (yields p.pre) J Jx := ⟨hgrow, hgrowx, fun _ _ _ h => (hlk _ _ _ h).1, hlx, fun _ _ _ h g c hg => RepCs.keep (hlk _ _ _ h).2 _ _ _ (hglob g c hg), hyield⟩
  refine callsIn_wide.1 (callsIn_of_wp_marks (n := 0) hf hcd trivial ?_)
  have hargs : RepCL w S [.one (.yl l), .one (.ref (Pred.cells p))] ((#[.func (.yield l) #[] #[]] : Array Value) ++ cs.toArray).toList := by
    obtain ⟨v, r, h1, h2, h3⟩ := hcs
    simp only [RepL] at h3
    subst h3
    subst h1
    exact ⟨_, _, rfl, rfl, _, _, rfl, h2, rfl⟩
  have hs0 := init_sim (P := P) (G := G) (fn := fn) (by rw [hN]; exact Nat.le_of_ble_eq_true rfl) hlive hglob hargs
  change Sim (baseC P w S fn.ntmps G) _ _ _ _ _ at hs0
  obtain ⟨id, ops, rfl, hops, hok⟩ := tr_reg hac
  obtain ⟨hlen', hget⟩ := trOps_get hops
  have hsz : ops.size = 3 := by simpa using hlen'.symm
  refine wpIn_region ?_
  have hr : List.range ops.size = List.range' 0 2 ++ [2] := by rw [hsz]; rfl
  rw [hr]
  refine ops_pre (c := baseC P w S fn.ntmps G) (E := quietE G) rfl (fun _ _ _ h => h.elim) hT hops (fun o ho d hd => ⟨okDst_D hok ho hd, rfl⟩) (FR.fw none) 0 _
      (K := fun z => z = ⟨[(4, .d (.yl l)), (3, .agg ((Pred.cells p).map .d)), (0, .d (.yl l)), (1, .d (.ref (Pred.cells p)))], [], []⟩) [2] 2 0 (by omega) ?_ hs0 ?_
  case refine_2 =>
    rw [Pred.cells_eq]
    simp only [go_sem, Nat.reduceEqDiff, reduceCtorEq, Nat.reduceAdd, Nat.reduceLeDiff, Bool.false_eq_true, Nat.reduceMul, Bool.true_eq_false, Nat.reduceLT, gR1, gR2, gR3, gR4, gR5, gR6, gR7, gR8, gR9, gR10, gR11, gR12, gR13, gR14, gR15, Int.reduceToNat, Int.cast_ofNat_Int, Int.natCast_one, Int.reduceLT, Int.reduceLE, List.getD_nil, Int.toNat_natCast, Int.natCast_zero, false_and, and_false, Int.toNat_zero, Int.toNat_one, Int.reduceEq, Nat.reduceSub]
  rintro ⟨tm3, ds3⟩ w3 ⟨hds, st3, S4, ρ3, hs3, rfl⟩
  simp only at hds
  subst hds
  obtain ⟨gi2, i2, hl2, htg2, hti2⟩ := hget 2 ops[2] (by simp [hsz])
  simp only [fn_pred_before_1, go_sem, Nat.reduceEqDiff, reduceCtorEq, Nat.reduceAdd, Nat.reduceLeDiff, Bool.false_eq_true, Nat.reduceMul, Bool.true_eq_false, Nat.reduceLT, gR1, gR2, gR3, gR4, gR5, gR6, gR7, gR8, gR9, gR10, gR11, gR12, gR13, gR14, gR15, Int.reduceToNat, Int.cast_ofNat_Int, Int.natCast_one, Int.reduceLT, Int.reduceLE, List.getD_nil, Int.toNat_natCast, Int.natCast_zero, false_and, and_false, Int.toNat_zero, Int.toNat_one, Int.reduceEq, Nat.reduceSub, Prod.mk.injEq] at hl2
  obtain ⟨rfl, rfl⟩ := hl2
  rw [wpOpsIn_cons]
  have hres : ∀ tm w, (results fn tm).run P w = .ok (.tuple #[]) w := by
    intro tm w
    have : fn.results = #[] := by
      have hrs' : fn.results.toList.mapM (trRes T) = some [] := hrs
      cases hc : fn.results.toList with
      | nil => exact Array.toList_eq_nil_iff.1 hc
      | cons x xs =>
        rw [hc] at hrs'
        simp only [List.mapM_cons, Option.bind_eq_bind, Option.bind_eq_some_iff, Option.pure_def, Option.some.injEq] at hrs'
        obtain ⟨_, _, _, _, h⟩ := hrs'
        cases h
    rw [results_eq, this]
    simp
  refine wpOpIn_plain (ops := ops) (k := 2) (o := ops[2]) (by simp [hsz]) htg2 (evy_op hY (a := []) (ys := yields p.pre) (b := []) (by simp) hJ0 hs3 hti2 (by rw [hN]; exact Nat.le_of_ble_eq_true rfl) rfl rfl rfl
      (cvs := [.agg (Pred.cells p), .one (.yl l)]) ?_ (visit_ok hT hY hfv htrv p) [] (fun q hq => by cases hq) ?_ ?_)
  · rw [Pred.cells_eq]; simp only [go_sem, Nat.reduceEqDiff, reduceCtorEq, Nat.reduceAdd, Nat.reduceLeDiff, Bool.false_eq_true, Nat.reduceMul, Bool.true_eq_false, Nat.reduceLT, gR1, gR2, gR3, gR4, gR5, gR6, gR7, gR8, gR9, gR10, gR11, gR12, gR13, gR14, gR15, Int.reduceToNat, Int.cast_ofNat_Int, Int.natCast_one, Int.reduceLT, Int.reduceLE, List.getD_nil, Int.toNat_natCast, Int.natCast_zero, false_and, and_false, Int.toNat_zero, Int.toNat_one, Int.reduceEq, Nat.reduceSub]
  · intro W8 S8 ρ8 hJ8 hk8 hs8
    exact ⟨_, hres _ _, _, rfl, .inl ⟨S8, by simpa using hJ8⟩⟩
  · intro W8 S8 ρ8 hx8 hs8
    exact ⟨_, hres _ _, _, rfl, .inr ⟨S8, hx8⟩⟩
end Go.Abs
end
