/-
  CONTRACTS: what the functions answer, as plain Lean functions, each by evaluation at the abstract machine.
-/
import Derived.Test.YtaipocfddbaakaaDoorCon2
section
set_option linter.unusedSimpArgs false
set_option linter.unusedVariables false
set_option linter.unusedSectionVars false
namespace Go.Abs
theorem pop_cells (o : Int) (l : List Pred) : Pred.cells (pop o l) = [.int .i64 o, .str [], .int .i64 0, .lst (l.map Pred.cells)] := by rw [pop, Pred.cells_eq]; rfl
/-- what the laws of layer 7 need -/
structure Law7 (E : AEnv) : Prop where
  sys : Sys E
  G0 : E.G 0 = some (kws.map .str)
  it : ∀ p, E.It pred_before_1 [.ref (Pred.cells p)] (yields p.pre)
  union : UnionLaw E
def exF : Pred := papp [102] [pv [121]]
def exA1 : Pred := pop 6 [pv [120], pn 1]
def exP : Pred := pop 13 [exA1, exF]
def exAnd : Pred := pop 15 [pop 15 [pv [97], pv [98]], pv [99]]
def exB1 : Pred := pop 6 [pv [121], pn 1]
def exK : Pred := .mk 5 [107] 0 [exB1, pn 5]
def exH : SHole := ⟨[107], [⟨[118], [73, 110, 116]⟩, ⟨[120], [73, 110, 116]⟩]⟩
def exS : SSol := ⟨[107], pop 13 [pv [118], pv [120]]⟩
def exFill : Pred := pop 13 [exB1, pn 5]
theorem exK_cells : exK.cells = [.int .i64 5, .str [107], .int .i64 0, .lst [exB1.cells, (pn 5).cells]] := by rw [exK, Pred.cells_eq]; rfl
theorem exH_cells : exH.cells = [.str [107], .lst [[.str [118], .str [73, 110, 116]], [.str [120], .str [73, 110, 116]]]] := rfl
theorem exF_cells : exF.cells = [.int .i64 4, .str [102], .int .i64 0, .lst [(pv [121]).cells]] := papp_cells _ _
/-- a call that is passed over -/
theorem call_skip {d : Option Nat} {K : St → Prop} {st : St} {av : List AV} (hk : callK (some false) d K st av (.one (.bool false))) : ∃ r, callK (some false) d K st av r := ⟨_, hk⟩
theorem split_pv (s : Str) : splitP (pv s) = [pv s] := by
  unfold pv
  rw [splitP_else rfl]
  have : voidP (.mk 3 s 0 []) = false := by unfold voidP zeroP trueP; rw [Pred.same_eq, Pred.same_eq]; rfl
  rw [this]; rfl
set_option maxRecDepth 100000
section
variable {E : AEnv} (Z : Sys E)
include Z
theorem pred_SplitD_ev (p : Pred) (hp : Tame p) (hn : p.cnt ≤ 1073741824) : E.C pred_Split [.agg p.cells] (.one (.lst ((splitP p).map Pred.cells))) := by
  obtain ⟨o, s, n, ks⟩ := p
  have ih := pred_Split_ev Z
  have hv := pred_void_ev Z (.mk o s n ks)
  have hcp := pred_copied_ev Z _ hp
  refine Z.pred_Split _ _ ⟨Nat.le_of_ble_eq_true rfl, ?_⟩
  have hrs : fn_pred_Split.rs = [.t 2] := rfl
  cases hc : (o == 15 && (ks.length : Int) == 2) with
  | true =>
    obtain ⟨ho, hk⟩ := Bool.and_eq_true_iff.1 hc
    have hk2 : ((ks.length : Nat) : Int) = 2 := by simpa using hk
    obtain ⟨a, b, rfl⟩ := pair_split (l := ks) (by omega)
    have ho : o = 15 := by simpa using ho
    subst ho
    have hla := splitP_len a
    have hlb := splitP_len b
    simp only [Pred.cnt, Pred.cnts] at hn
    have ha := ih a (hp.kid (by simp)) (by omega)
    have hb := ih b (hp.kid (by simp)) (by omega)
    have hcl : Pred.cells (.mk 15 s n [a, b]) = [.int .i64 15, .str s, .int .i64 n, .lst [a.cells, b.cells]] := by rw [Pred.cells_eq]; rfl
    rw [splitP_and, hcl]
    generalize splitP a = A at *
    generalize splitP b = B at *
    have h4 : (∀ e ∈ [a.cells, b.cells], e.length = 4) = True := eq_true (by simp [Pred.cells_length])
    have o1 : (A.length + B.length) * 56 ≤ 2 ^ 46 := by omega
    have o2 : A.length + B.length ≤ 9223372036854775807 := by omega
    simp only [fn_pred_Split, go_sem, Nat.reduceEqDiff, reduceCtorEq, Nat.reduceAdd, Nat.reduceLeDiff, Nat.reduceMul, Nat.reduceLT, Int.reduceToNat, Int.reduceLT, Int.reduceLE, Int.reduceEq, Nat.reduceSub, beq_self_eq_true, h4, Int.ofNat_eq_natCast]
    refine call_by ha ?_
    simp only [go_sem, Nat.reduceEqDiff, reduceCtorEq, Nat.reduceAdd, Nat.reduceLeDiff, Nat.reduceMul, Nat.reduceLT, Int.reduceToNat, Int.reduceLT, Int.reduceLE, Int.reduceEq, Nat.reduceSub, h4]
    refine call_by hb ?_
    simp only [go_sem, Nat.reduceEqDiff, reduceCtorEq, Nat.reduceAdd, Nat.reduceLeDiff, Nat.reduceMul, Nat.reduceLT, Int.reduceToNat, Int.reduceLT, Int.reduceLE, Int.reduceEq, Nat.reduceSub, h4, List.length_map, Pred.lens_true, o1, o2, hrs, List.map_append]
  | false =>
    rw [splitP_else hc]
    rw [Pred.cells_eq (.mk o s n ks)] at *
    simp only [fn_pred_Split, go_sem, Nat.reduceEqDiff, reduceCtorEq, Nat.reduceAdd, Nat.reduceLeDiff, Nat.reduceMul, Nat.reduceLT, Int.reduceToNat, Int.reduceLT, Int.reduceLE, Int.reduceEq, Nat.reduceSub, Pred.op, Pred.name, Pred.n, Pred.kids] at hv hcp ⊢
    intro _
    simp only [hc, go_sem, Nat.reduceEqDiff, reduceCtorEq, Nat.reduceAdd, Nat.reduceLeDiff, Nat.reduceMul, Nat.reduceLT, Int.reduceToNat, Int.reduceLT, Int.reduceLE, Int.reduceEq, Nat.reduceSub]
    refine call_by hv ?_
    cases c1 : voidP (.mk o s n ks) with
    | true =>
      simp only [go_sem, Nat.reduceEqDiff, reduceCtorEq, Nat.reduceAdd, Nat.reduceLeDiff, Nat.reduceMul, Nat.reduceLT, Int.reduceToNat, Int.reduceLT, Int.reduceLE, Int.reduceEq, Nat.reduceSub, hrs, List.map_nil]
    | false =>
      simp only [go_sem, Nat.reduceEqDiff, reduceCtorEq, Nat.reduceAdd, Nat.reduceLeDiff, Nat.reduceMul, Nat.reduceLT, Int.reduceToNat, Int.reduceLT, Int.reduceLE, Int.reduceEq, Nat.reduceSub]
      refine call_by hcp ?_
      simp only [go_sem, Nat.reduceEqDiff, reduceCtorEq, Nat.reduceAdd, Nat.reduceLeDiff, Nat.reduceMul, Nat.reduceLT, Int.reduceToNat, Int.reduceLT, Int.reduceLE, Int.reduceEq, Nat.reduceSub, hrs, Pred.cells_eq (.mk o s n ks), Pred.op, Pred.name, Pred.n, Pred.kids]
end
variable {E : AEnv} (L : Law7 E)
include L
theorem l07_x_ev (s : Str) : E.C l07_x [.one (.str s)] (.agg (pv s).cells) := by
  refine L.sys.l07_x _ _ ⟨Nat.le_of_ble_eq_true rfl, ?_⟩
  simp only [fn_l07_x, go_sem, Nat.reduceEqDiff, reduceCtorEq, Nat.reduceAdd, Nat.reduceLeDiff, Nat.reduceMul, Nat.reduceLT, Int.reduceToNat, Int.reduceLT, Int.reduceLE, Int.reduceEq, Nat.reduceSub, pv, Pred.cells_eq, Pred.op, Pred.name, Pred.n, Pred.kids]
theorem l07_n_ev (k : Int) : E.C l07_n [.one (.int .i64 k)] (.agg (pn k).cells) := by
  refine L.sys.l07_n _ _ ⟨Nat.le_of_ble_eq_true rfl, ?_⟩
  simp only [fn_l07_n, go_sem, Nat.reduceEqDiff, reduceCtorEq, Nat.reduceAdd, Nat.reduceLeDiff, Nat.reduceMul, Nat.reduceLT, Int.reduceToNat, Int.reduceLT, Int.reduceLE, Int.reduceEq, Nat.reduceSub, pn, Pred.cells_eq, Pred.op, Pred.name, Pred.n, Pred.kids]
theorem l07_op_ev (o : Int) (l : List Pred) : E.C l07_op [.one (.int .i64 o), .one (.lst (l.map Pred.cells))] (.agg (pop o l).cells) := by
  refine L.sys.l07_op _ _ ⟨Nat.le_of_ble_eq_true rfl, ?_⟩
  rw [pop_cells]
  simp only [fn_l07_op, go_sem, Nat.reduceEqDiff, reduceCtorEq, Nat.reduceAdd, Nat.reduceLeDiff, Nat.reduceMul, Nat.reduceLT, Int.reduceToNat, Int.reduceLT, Int.reduceLE, Int.reduceEq, Nat.reduceSub]
theorem Law7.alive7 : E.C l07_alive [] (.one (.bool true)) := by
  have vx := fun s => l07_x_ev L s
  have vn := fun k => l07_n_ev L k
  have o1 := l07_op_ev L 6 [pv [120], pn 1]
  have o2 := l07_op_ev L 13 [exA1, exF]
  have o3 := l07_op_ev L 6 [pv [121], pn 1]
  have o4 := l07_op_ev L 13 [pv [118], pv [120]]
  have o5 := l07_op_ev L 15 [pv [97], pv [98]]
  have o6 := l07_op_ev L 15 [pop 15 [pv [97], pv [98]], pv [99]]
  have o7 := l07_op_ev L 13 [exB1, pn 5]
  have ht := r07_True_ev L.sys
  have ha := pred_And_ev L.sys [trueP, pv [97], pv [98], pv [99]] (by
    intro p hp _
    refine tame_of_cnt p ?_
    simp only [List.mem_cons, List.not_mem_nil, or_false] at hp
    rcases hp with rfl | rfl | rfl | rfl <;> decide +kernel)
  rw [show andP [trueP, pv [97], pv [98], pv [99]] = exAnd by kernel_rfl] at ha
  have hf := pred_Fill_ev L.sys [exH] (by intro h hh; simp only [List.mem_singleton] at hh; subst hh; unfold Small exH; simp) [exS] (by intro s hs; simp only [List.mem_singleton] at hs; subst hs; exact tame_of_cnt _ (by decide +kernel)) exK (tame_of_cnt _ (by decide +kernel))
  rw [show fillP [exH] [exS] exK = exFill by kernel_rfl] at hf
  have hsu := pred_Subst_ev L.sys [121] (pn 2) exP (tame_of_cnt _ (by decide +kernel)) (tame_of_cnt _ (by decide +kernel))
  rw [show subAll [[121]] [pn 2] exP = pop 13 [exA1, papp [102] [pn 2]] by kernel_rfl, pop_cells] at hsu
  have hc1 := pred_Check_ev L.sys L.G0 L.it exP
  rw [show exP.checkE = 0 by kernel_rfl] at hc1
  have hc2 := pred_Check_ev L.sys L.G0 L.it zeroP
  rw [show zeroP.checkE = 1 by kernel_rfl, zeroP_cells] at hc2
  have hno := pred_Nodes_ev L.sys exP
  rw [show exP.nodes = 6 by kernel_rfl] at hno
  have hde := pred_Depth_ev L.sys exP
  rw [show exP.depth = 3 by kernel_rfl] at hde
  have hfr := pred_Free_ev L.sys L.union L.it exP (by decide +kernel)
  rw [free_same, show freeR exP = [[120], [121]] by kernel_rfl] at hfr
  have hsa := r04_Same_ev L.sys [[120], [121]] [[120], [121]]
  have hap := pred_Apps_ev L.sys exP (tame_of_cnt _ (by decide +kernel)) (by decide +kernel)
  rw [show innerP 4 exP [] = [exF] by kernel_rfl] at hap
  have hsl := r07_SameAll_ev L.sys [exF] [exF]
  have hs1 := pred_Same_ev L.sys exAnd exAnd
  have hsp := pred_SplitD_ev L.sys exAnd (tame_of_cnt _ (by decide +kernel)) (by decide +kernel)
  rw [show splitP exAnd = [pv [97], pv [98], pv [99]] by unfold exAnd pop; rw [splitP_and, splitP_and, split_pv, split_pv, split_pv]; rfl] at hsp
  have hn1 := pred_Not_ev L.sys (pv [97]) (tame_of_cnt _ (by decide +kernel))
  rw [show notP (pv [97]) = pop 14 [pv [97]] by kernel_rfl] at hn1
  have hn2 := pred_Not_ev L.sys (pop 14 [pv [97]]) (tame_of_cnt _ (by decide +kernel))
  rw [show notP (pop 14 [pv [97]]) = pv [97] by kernel_rfl] at hn2
  have hs2 := pred_Same_ev L.sys (pv [97]) (pv [97])
  have hs3 := pred_Same_ev L.sys exFill exFill
  have hs4 := pred_Same_ev L.sys (pn 2) (pn 2)
  rw [Pred.same_refl] at hs1 hs2 hs3 hs4
  rw [Pred.sames_refl] at hsl
  change E.C l07_op _ (.agg exA1.cells) at o1
  change E.C l07_op _ (.agg exP.cells) at o2
  change E.C l07_op _ (.agg exB1.cells) at o3
  change E.C l07_op _ (.agg exAnd.cells) at o6
  change E.C l07_op _ (.agg exFill.cells) at o7
  rw [exK_cells] at hf
  simp only [List.map_cons, List.map_nil, exF_cells, exH_cells, SSol.cells, exS, beq_self_eq_true, papp_cells] at o1 o2 o3 o4 o5 o6 o7 ha hf hsu hfr hsa hap hsl hsp
  refine L.sys.l07_alive _ _ ⟨Nat.le_of_ble_eq_true rfl, ?_⟩
  have hrs : fn_l07_alive.rs = [.t 0] := rfl
  simp only [fn_l07_alive, go_sem, Nat.reduceEqDiff, reduceCtorEq, Nat.reduceAdd, Nat.reduceLeDiff, Nat.reduceMul, Nat.reduceLT, Int.reduceToNat, Int.reduceLT, Int.reduceLE, Int.reduceEq, Nat.reduceSub]
  repeat
    first
      | refine call_by (vx _) ?_
      | refine call_by (vn _) ?_
      | refine call_by o1 ?_
      | refine call_by o2 ?_
      | refine call_by o3 ?_
      | refine call_by o4 ?_
      | refine call_by o5 ?_
      | refine call_by o6 ?_
      | refine call_by o7 ?_
      | refine call_by ht ?_
      | refine call_by ha ?_
      | refine call_by hf ?_
      | refine call_by hsu ?_
      | refine call_by hc1 ?_
      | refine call_by hc2 ?_
      | refine call_by hno ?_
      | refine call_by hde ?_
      | refine call_by hfr ?_
      | refine call_by hsa ?_
      | refine call_by hap ?_
      | refine call_by hsl ?_
      | refine call_by hs1 ?_
      | refine call_by hsp ?_
      | refine call_by hn1 ?_
      | refine call_by hn2 ?_
      | refine call_by hs2 ?_
      | refine call_by hs3 ?_
      | refine call_by hs4 ?_
    try simp only [go_sem, Nat.reduceEqDiff, reduceCtorEq, Nat.reduceAdd, Nat.reduceLeDiff, Nat.reduceMul, Nat.reduceLT, Int.reduceToNat, Int.reduceLT, Int.reduceLE, Int.reduceEq, Nat.reduceSub, beq_self_eq_true, List.length_map, drop_cells]
  refine ⟨by simp [Pred.cells_length], by simp [Pred.cells_length], by simp [Pred.cells_length], ?_⟩
  refine call_by (vn _) ?_
  simp only [go_sem, Nat.reduceEqDiff, reduceCtorEq, Nat.reduceAdd, Nat.reduceLeDiff, Nat.reduceMul, Nat.reduceLT, Int.reduceToNat, Int.reduceLT, Int.reduceLE, Int.reduceEq, Nat.reduceSub]
  refine call_by hs4 ?_
  simp only [go_sem, Nat.reduceEqDiff, reduceCtorEq, Nat.reduceAdd, Nat.reduceLeDiff, Nat.reduceMul, Nat.reduceLT, Int.reduceToNat, Int.reduceLT, Int.reduceLE, Int.reduceEq, Nat.reduceSub]
end Go.Abs
end
section
set_option linter.unusedSimpArgs false
set_option linter.unusedVariables false
set_option linter.unusedSectionVars false
namespace Go.Abs
set_option maxRecDepth 100000
variable {E : AEnv} (L : Law7 E)
include L
theorem PredChecks_ev (p q : Pred) (hp : p.cnt ≤ 1048576) : E.C l07_PredChecks [.agg p.cells, .agg q.cells] (.one (.bool true)) := by
  have hf := l07_Few_ev L.sys
  have hal := L.alive7
  have h1 := pred_Check_ev L.sys L.G0 L.it p
  have h2 := r07_Check_ev L.sys p
  have h3 := pred_Nodes_ev L.sys p
  have h4 := r07_Nodes_ev L.sys p
  have h5 := pred_Depth_ev L.sys p
  have h6 := r07_Depth_ev L.sys p
  have h7 := pred_Same_ev L.sys p q
  have h8 := r07_Same_ev L.sys p q
  have h9 := pred_Same_ev L.sys p p
  have hpre := Pred.pre_cnt p
  have h10 := pred_Free_ev L.sys L.union L.it p (by omega)
  have h11 := r07_Free_ev L.sys p hp
  have h12 := r04_Same_ev L.sys (freeR p) (freeR p)
  rw [Pred.same_refl] at h9
  rw [free_same] at h10
  rw [beq_self_eq_true] at h12
  refine L.sys.l07_PredChecks _ _ ⟨Nat.le_of_ble_eq_true rfl, ?_⟩
  generalize p.checkE = R1 at *
  generalize p.depth = R3 at *
  generalize p.same q = R4 at *
  generalize freeR p = R5 at *
  have hrs : fn_l07_PredChecks.rs = [.t 4] := rfl
  simp only [fn_l07_PredChecks, go_sem, Nat.reduceEqDiff, reduceCtorEq, Nat.reduceAdd, Nat.reduceLeDiff, Nat.reduceMul, Nat.reduceLT, Int.reduceToNat, Int.reduceLT, Int.reduceLE, Int.reduceEq, Nat.reduceSub, List.length_map, drop_cells]
  refine call_by (hf p) ?_
  cases c0 : decide (p.nodes ≤ 600) with
  | false =>
    simp only [go_sem, Nat.reduceEqDiff, reduceCtorEq, Nat.reduceAdd, Nat.reduceLeDiff, Nat.reduceMul, Nat.reduceLT, Int.reduceToNat, Int.reduceLT, Int.reduceLE, Int.reduceEq, Nat.reduceSub]
    refine call_skip ?_
    simp only [go_sem, Nat.reduceEqDiff, reduceCtorEq, Nat.reduceAdd, Nat.reduceLeDiff, Nat.reduceMul, Nat.reduceLT, Int.reduceToNat, Int.reduceLT, Int.reduceLE, Int.reduceEq, Nat.reduceSub]
    refine call_by hal ?_
    simp only [go_sem, Nat.reduceEqDiff, reduceCtorEq, Nat.reduceAdd, Nat.reduceLeDiff, Nat.reduceMul, Nat.reduceLT, Int.reduceToNat, Int.reduceLT, Int.reduceLE, Int.reduceEq, Nat.reduceSub]
  | true =>
    simp only [go_sem, Nat.reduceEqDiff, reduceCtorEq, Nat.reduceAdd, Nat.reduceLeDiff, Nat.reduceMul, Nat.reduceLT, Int.reduceToNat, Int.reduceLT, Int.reduceLE, Int.reduceEq, Nat.reduceSub, List.length_map, drop_cells]
    refine call_by (hf q) ?_
    generalize p.nodes = R2 at *
    cases c1 : decide (q.nodes ≤ 600) with
    | false =>
      simp only [go_sem, Nat.reduceEqDiff, reduceCtorEq, Nat.reduceAdd, Nat.reduceLeDiff, Nat.reduceMul, Nat.reduceLT, Int.reduceToNat, Int.reduceLT, Int.reduceLE, Int.reduceEq, Nat.reduceSub]
      refine call_by hal ?_
      simp only [go_sem, Nat.reduceEqDiff, reduceCtorEq, Nat.reduceAdd, Nat.reduceLeDiff, Nat.reduceMul, Nat.reduceLT, Int.reduceToNat, Int.reduceLT, Int.reduceLE, Int.reduceEq, Nat.reduceSub]
    | true =>
      simp only [go_sem, Nat.reduceEqDiff, reduceCtorEq, Nat.reduceAdd, Nat.reduceLeDiff, Nat.reduceMul, Nat.reduceLT, Int.reduceToNat, Int.reduceLT, Int.reduceLE, Int.reduceEq, Nat.reduceSub, List.length_map, drop_cells]
      repeat
        first
          | refine call_by h1 ?_
          | refine call_by h2 ?_
          | refine call_by h3 ?_
          | refine call_by h4 ?_
          | refine call_by h5 ?_
          | refine call_by h6 ?_
          | refine call_by h9 ?_
          | refine call_by h7 ?_
          | refine call_by h8 ?_
          | refine call_by h10 ?_
          | refine call_by h11 ?_
          | refine call_by h12 ?_
          | refine call_by hal ?_
        try simp only [go_sem, Nat.reduceEqDiff, reduceCtorEq, Nat.reduceAdd, Nat.reduceLeDiff, Nat.reduceMul, Nat.reduceLT, Int.reduceToNat, Int.reduceLT, Int.reduceLE, Int.reduceEq, Nat.reduceSub, beq_self_eq_true, List.length_map, drop_cells]
theorem PredLists_ev (p : Pred) (hp : p.cnt ≤ 1048576) : E.C l07_PredLists [.agg p.cells] (.one (.bool true)) := by
  have hf := l07_Few_ev L.sys
  have hal := L.alive7
  have ht := tame_of_cnt p hp
  have h1 := pred_Apps_ev L.sys p ht (by omega)
  have h2 := r07_Apps_ev L.sys p (by omega)
  have h3 := r07_SameAll_ev L.sys (innerP 4 p []) (innerP 4 p [])
  have h4 := pred_Holes_ev L.sys p ht (by omega)
  have h5 := r07_Holes_ev L.sys p (by omega)
  have h6 := r07_SameAll_ev L.sys (innerP 5 p []) (innerP 5 p [])
  have h7 := pred_SplitD_ev L.sys p ht (by omega)
  have h8 := r07_Split_ev L.sys p (by omega)
  have h9 := r07_SameAll_ev L.sys (splitP p) (splitP p)
  rw [Pred.sames_refl] at h3 h6 h9
  refine L.sys.l07_PredLists _ _ ⟨Nat.le_of_ble_eq_true rfl, ?_⟩
  generalize innerP 4 p [] = R1 at *
  generalize innerP 5 p [] = R2 at *
  generalize splitP p = R3 at *
  simp only [fn_l07_PredLists, go_sem, Nat.reduceEqDiff, reduceCtorEq, Nat.reduceAdd, Nat.reduceLeDiff, Nat.reduceMul, Nat.reduceLT, Int.reduceToNat, Int.reduceLT, Int.reduceLE, Int.reduceEq, Nat.reduceSub, List.length_map, drop_cells]
  refine call_by (hf p) ?_
  cases c0 : decide (p.nodes ≤ 600) with
  | false =>
    simp only [go_sem, Nat.reduceEqDiff, reduceCtorEq, Nat.reduceAdd, Nat.reduceLeDiff, Nat.reduceMul, Nat.reduceLT, Int.reduceToNat, Int.reduceLT, Int.reduceLE, Int.reduceEq, Nat.reduceSub]
    repeat
      refine call_skip ?_
      simp only [go_sem, Nat.reduceEqDiff, reduceCtorEq, Nat.reduceAdd, Nat.reduceLeDiff, Nat.reduceMul, Nat.reduceLT, Int.reduceToNat, Int.reduceLT, Int.reduceLE, Int.reduceEq, Nat.reduceSub]
    refine call_by hal ?_
    simp only [go_sem, Nat.reduceEqDiff, reduceCtorEq, Nat.reduceAdd, Nat.reduceLeDiff, Nat.reduceMul, Nat.reduceLT, Int.reduceToNat, Int.reduceLT, Int.reduceLE, Int.reduceEq, Nat.reduceSub]
  | true =>
    simp only [go_sem, Nat.reduceEqDiff, reduceCtorEq, Nat.reduceAdd, Nat.reduceLeDiff, Nat.reduceMul, Nat.reduceLT, Int.reduceToNat, Int.reduceLT, Int.reduceLE, Int.reduceEq, Nat.reduceSub, List.length_map, drop_cells]
    repeat
      first
        | refine call_by h1 ?_
        | refine call_by h2 ?_
        | refine call_by h3 ?_
        | refine call_by h4 ?_
        | refine call_by h5 ?_
        | refine call_by h6 ?_
        | refine call_by h7 ?_
        | refine call_by h8 ?_
        | refine call_by h9 ?_
        | refine call_by hal ?_
      try simp only [go_sem, Nat.reduceEqDiff, reduceCtorEq, Nat.reduceAdd, Nat.reduceLeDiff, Nat.reduceMul, Nat.reduceLT, Int.reduceToNat, Int.reduceLT, Int.reduceLE, Int.reduceEq, Nat.reduceSub, beq_self_eq_true, List.length_map, drop_cells]
theorem PredJoins_ev (l : List Pred) (p : Pred) (hl : ∀ x ∈ l, x.cnt ≤ 1048576) (hp : p.cnt ≤ 1048576) : E.C l07_PredJoins [.one (.lst (l.map Pred.cells)), .agg p.cells] (.one (.bool true)) := by
  have hf := l07_Few_ev L.sys p
  have ha := l07_all_ev L.sys l
  have hal := L.alive7
  have h1 := pred_And_ev L.sys l (fun x hx _ => tame_of_cnt x (hl x hx))
  have h2 := r07_And_ev L.sys l
  have h3 := r07_Same_ev L.sys (andP l) (andP l)
  have h4 := pred_Not_ev L.sys p (tame_of_cnt p hp)
  have h5 := r07_Not_ev L.sys p
  have h6 := r07_Same_ev L.sys (notP p) (notP p)
  rw [Pred.same_refl] at h3 h6
  refine L.sys.l07_PredJoins _ _ ⟨Nat.le_of_ble_eq_true rfl, ?_⟩
  generalize andP l = R1 at *
  generalize notP p = R2 at *
  generalize (l.all (fun p => decide (p.nodes ≤ 600)) && decide ((l.length : Int) ≤ 60)) = B1 at *
  generalize decide (p.nodes ≤ 600) = B2 at *
  simp only [fn_l07_PredJoins, go_sem, Nat.reduceEqDiff, reduceCtorEq, Nat.reduceAdd, Nat.reduceLeDiff, Nat.reduceMul, Nat.reduceLT, Int.reduceToNat, Int.reduceLT, Int.reduceLE, Int.reduceEq, Nat.reduceSub, List.length_map, drop_cells]
  refine call_by ha ?_
  have fin : ∀ (b : Bool), True := fun _ => trivial
  cases B1 with
  | false =>
    simp only [go_sem, Nat.reduceEqDiff, reduceCtorEq, Nat.reduceAdd, Nat.reduceLeDiff, Nat.reduceMul, Nat.reduceLT, Int.reduceToNat, Int.reduceLT, Int.reduceLE, Int.reduceEq, Nat.reduceSub]
    repeat
      refine call_skip ?_
      simp only [go_sem, Nat.reduceEqDiff, reduceCtorEq, Nat.reduceAdd, Nat.reduceLeDiff, Nat.reduceMul, Nat.reduceLT, Int.reduceToNat, Int.reduceLT, Int.reduceLE, Int.reduceEq, Nat.reduceSub]
    refine call_by hal ?_
    simp only [go_sem, Nat.reduceEqDiff, reduceCtorEq, Nat.reduceAdd, Nat.reduceLeDiff, Nat.reduceMul, Nat.reduceLT, Int.reduceToNat, Int.reduceLT, Int.reduceLE, Int.reduceEq, Nat.reduceSub]
  | true =>
    simp only [go_sem, Nat.reduceEqDiff, reduceCtorEq, Nat.reduceAdd, Nat.reduceLeDiff, Nat.reduceMul, Nat.reduceLT, Int.reduceToNat, Int.reduceLT, Int.reduceLE, Int.reduceEq, Nat.reduceSub, List.length_map, drop_cells]
    refine call_by hf ?_
    cases B2 with
    | false =>
      simp only [go_sem, Nat.reduceEqDiff, reduceCtorEq, Nat.reduceAdd, Nat.reduceLeDiff, Nat.reduceMul, Nat.reduceLT, Int.reduceToNat, Int.reduceLT, Int.reduceLE, Int.reduceEq, Nat.reduceSub]
      repeat
        refine call_skip ?_
        simp only [go_sem, Nat.reduceEqDiff, reduceCtorEq, Nat.reduceAdd, Nat.reduceLeDiff, Nat.reduceMul, Nat.reduceLT, Int.reduceToNat, Int.reduceLT, Int.reduceLE, Int.reduceEq, Nat.reduceSub]
      refine call_by hal ?_
      simp only [go_sem, Nat.reduceEqDiff, reduceCtorEq, Nat.reduceAdd, Nat.reduceLeDiff, Nat.reduceMul, Nat.reduceLT, Int.reduceToNat, Int.reduceLT, Int.reduceLE, Int.reduceEq, Nat.reduceSub]
    | true =>
      simp only [go_sem, Nat.reduceEqDiff, reduceCtorEq, Nat.reduceAdd, Nat.reduceLeDiff, Nat.reduceMul, Nat.reduceLT, Int.reduceToNat, Int.reduceLT, Int.reduceLE, Int.reduceEq, Nat.reduceSub, List.length_map, drop_cells]
      repeat
        first
          | refine call_by h1 ?_
          | refine call_by h2 ?_
          | refine call_by h3 ?_
          | refine call_by h4 ?_
          | refine call_by h5 ?_
          | refine call_by h6 ?_
          | refine call_by hal ?_
        try simp only [go_sem, Nat.reduceEqDiff, reduceCtorEq, Nat.reduceAdd, Nat.reduceLeDiff, Nat.reduceMul, Nat.reduceLT, Int.reduceToNat, Int.reduceLT, Int.reduceLE, Int.reduceEq, Nat.reduceSub, beq_self_eq_true, List.length_map, drop_cells]
end Go.Abs
end
section
set_option linter.unusedSimpArgs false
set_option linter.unusedVariables false
set_option linter.unusedSectionVars false
namespace Go.Abs
set_option maxRecDepth 100000
variable {E : AEnv} (L : Law7 E)
include L
theorem PredSubsts_ev (p : Pred) (names : List Str) (by' : List Pred) (hp : p.cnt ≤ 1048576) (hb : ∀ b ∈ by', b.cnt ≤ 1048576) : E.C l07_PredSubsts [.agg p.cells, .one (.lst (names.map fun k => [.str k])), .one (.lst (by'.map Pred.cells))] (.one (.bool true)) := by
  have hf := l07_Few_ev L.sys p
  have ha := l07_all_ev L.sys by'
  have hal := L.alive7
  have htp := tame_of_cnt p hp
  have htb : ∀ b ∈ by', Tame b := fun b h => tame_of_cnt b (hb b h)
  have h1 := pred_SubstAll_ev L.sys names by' htb p htp
  have h2 := r07_SubstAll_ev L.sys names by' p htp
  have h3 := r07_Same_ev L.sys (subAll names by' p) (subAll names by' p)
  have h4 := fun s b (h : b ∈ by') => pred_Subst_ev L.sys s b p (htb b h) htp
  have h5 := fun s b => r07_Subst_ev L.sys s b p htp
  have h6 := fun s b => r07_Same_ev L.sys (subAll [s] [b] p) (subAll [s] [b] p)
  simp only [Pred.same_refl] at h3 h6
  refine L.sys.l07_PredSubsts _ _ ⟨Nat.le_of_ble_eq_true rfl, ?_⟩
  have hrs : fn_l07_PredSubsts.rs = [.t 6] := rfl
  generalize subAll names by' p = R at *
  generalize (by'.all (fun p => decide (p.nodes ≤ 600)) && decide ((by'.length : Int) ≤ 60)) = B2 at *
  generalize decide (p.nodes ≤ 600) = B1 at *
  generalize hB3 : decide ((names.length : Int) > 60) = B3
  refine seq_named fun N0 h0 => ?_
  simp only [go_sem, Nat.reduceEqDiff, reduceCtorEq, Nat.reduceAdd, Nat.reduceLeDiff, Nat.reduceMul, Nat.reduceLT, Int.reduceToNat, Int.reduceLT, Int.reduceLE, Int.reduceEq, Nat.reduceSub, List.length_map, drop_cells]
  rw [h0]
  refine seq_named fun N1 h1' => ?_
  simp only [go_sem, Nat.reduceEqDiff, reduceCtorEq, Nat.reduceAdd, Nat.reduceLeDiff, Nat.reduceMul, Nat.reduceLT, Int.reduceToNat, Int.reduceLT, Int.reduceLE, Int.reduceEq, Nat.reduceSub, List.length_map, drop_cells]
  refine call_by hf ?_
  cases B1 with
  | false =>
    simp only [go_sem, Nat.reduceEqDiff, reduceCtorEq, Nat.reduceAdd, Nat.reduceLeDiff, Nat.reduceMul, Nat.reduceLT, Int.reduceToNat, Int.reduceLT, Int.reduceLE, Int.reduceEq, Nat.reduceSub]
    refine call_skip ?_
    simp only [go_sem, Nat.reduceEqDiff, reduceCtorEq, Nat.reduceAdd, Nat.reduceLeDiff, Nat.reduceMul, Nat.reduceLT, Int.reduceToNat, Int.reduceLT, Int.reduceLE, Int.reduceEq, Nat.reduceSub]
    refine call_by hal ?_
    simp only [go_sem, Nat.reduceEqDiff, reduceCtorEq, Nat.reduceAdd, Nat.reduceLeDiff, Nat.reduceMul, Nat.reduceLT, Int.reduceToNat, Int.reduceLT, Int.reduceLE, Int.reduceEq, Nat.reduceSub, hrs]
  | true =>
  simp only [go_sem, Nat.reduceEqDiff, reduceCtorEq, Nat.reduceAdd, Nat.reduceLeDiff, Nat.reduceMul, Nat.reduceLT, Int.reduceToNat, Int.reduceLT, Int.reduceLE, Int.reduceEq, Nat.reduceSub, List.length_map, drop_cells]
  refine call_by ha ?_
  cases B2 with
  | false =>
    simp only [go_sem, Nat.reduceEqDiff, reduceCtorEq, Nat.reduceAdd, Nat.reduceLeDiff, Nat.reduceMul, Nat.reduceLT, Int.reduceToNat, Int.reduceLT, Int.reduceLE, Int.reduceEq, Nat.reduceSub]
    refine call_by hal ?_
    simp only [go_sem, Nat.reduceEqDiff, reduceCtorEq, Nat.reduceAdd, Nat.reduceLeDiff, Nat.reduceMul, Nat.reduceLT, Int.reduceToNat, Int.reduceLT, Int.reduceLE, Int.reduceEq, Nat.reduceSub, hrs]
  | true =>
  simp only [go_sem, Nat.reduceEqDiff, reduceCtorEq, Nat.reduceAdd, Nat.reduceLeDiff, Nat.reduceMul, Nat.reduceLT, Int.reduceToNat, Int.reduceLT, Int.reduceLE, Int.reduceEq, Nat.reduceSub, List.length_map, drop_cells, hB3]
  intro _
  cases B3 with
  | true =>
    simp only [go_sem, Nat.reduceEqDiff, reduceCtorEq, Nat.reduceAdd, Nat.reduceLeDiff, Nat.reduceMul, Nat.reduceLT, Int.reduceToNat, Int.reduceLT, Int.reduceLE, Int.reduceEq, Nat.reduceSub]
    refine call_by hal ?_
    simp only [go_sem, Nat.reduceEqDiff, reduceCtorEq, Nat.reduceAdd, Nat.reduceLeDiff, Nat.reduceMul, Nat.reduceLT, Int.reduceToNat, Int.reduceLT, Int.reduceLE, Int.reduceEq, Nat.reduceSub, hrs]
  | false =>
  simp only [go_sem, Nat.reduceEqDiff, reduceCtorEq, Nat.reduceAdd, Nat.reduceLeDiff, Nat.reduceMul, Nat.reduceLT, Int.reduceToNat, Int.reduceLT, Int.reduceLE, Int.reduceEq, Nat.reduceSub]
  rw [h1']
  have l1 : ∀ l : List Str, (∀ e ∈ l.map (fun k : Str => [D.str k]), e.length = 1) = True := fun l => eq_true (by simp)
  have tail : ∀ (st : St), getS st.slots 3 = .ptr 3 0 → getS st.slots 1 = .d (.lst (names.map fun k => [.str k])) → getS st.slots 2 = .d (.lst (by'.map Pred.cells)) → st.mem = [(3, p.cells.map .d)] → st.tk = [] →
      ∀ N, N = awp E (.seq (.regd [(none, .ld 49 true 4 (.t 3)), (none, .mv 50 (.t 1)), (none, .mv 51 (.t 2)), (none, .call (some 52) (.c (.d (.clo pred_SubstAll []))) [.t 49, .t 50, .t 51]), (none, .ld 53 true 4 (.t 3)), (none, .mv 54 (.t 1)), (none, .mv 55 (.t 2)), (none, .call (some 56) (.c (.d (.clo r07_SubstAll []))) [.t 53, .t 54, .t 55]), (none, .call (some 57) (.c (.d (.clo r07_Same []))) [.t 52, .t 56]), (none, .mv 58 (.t 57)), (some (58, true), .call (some 59) (.c (.d (.clo l07_alive []))) []), (none, .and 60 (.t 58) (.t 59)), (none, .mv 6 (.t 60))]) (.ret)) (retK [.t 6] (.one (.bool true))) → N st := by
    intro st e3 e1 e2 em et N hN
    obtain ⟨sl, mm, tk⟩ := st
    simp only at e3 e1 e2 em et
    subst em; subst et
    rw [hN]
    simp only [go_sem, Nat.reduceEqDiff, reduceCtorEq, Nat.reduceAdd, Nat.reduceLeDiff, Nat.reduceMul, Nat.reduceLT, Int.reduceToNat, Int.reduceLT, Int.reduceLE, Int.reduceEq, Nat.reduceSub, e3, e1, e2, List.length_map]
    refine call_by h1 ?_
    simp only [go_sem, Nat.reduceEqDiff, reduceCtorEq, Nat.reduceAdd, Nat.reduceLeDiff, Nat.reduceMul, Nat.reduceLT, Int.reduceToNat, Int.reduceLT, Int.reduceLE, Int.reduceEq, Nat.reduceSub, e3, e1, e2, List.length_map]
    refine call_by h2 ?_
    simp only [go_sem, Nat.reduceEqDiff, reduceCtorEq, Nat.reduceAdd, Nat.reduceLeDiff, Nat.reduceMul, Nat.reduceLT, Int.reduceToNat, Int.reduceLT, Int.reduceLE, Int.reduceEq, Nat.reduceSub]
    refine call_by h3 ?_
    simp only [go_sem, Nat.reduceEqDiff, reduceCtorEq, Nat.reduceAdd, Nat.reduceLeDiff, Nat.reduceMul, Nat.reduceLT, Int.reduceToNat, Int.reduceLT, Int.reduceLE, Int.reduceEq, Nat.reduceSub]
    refine call_by hal ?_
    simp only [go_sem, Nat.reduceEqDiff, reduceCtorEq, Nat.reduceAdd, Nat.reduceLeDiff, Nat.reduceMul, Nat.reduceLT, Int.reduceToNat, Int.reduceLT, Int.reduceLE, Int.reduceEq, Nat.reduceSub]
  refine seq_named fun N2 h2' => ?_
  by_cases hnil : names = [] ∨ by' = []
  · cases names with
    | nil =>
      have e0 : decide (((0 : Nat) : Int) > 0) = false := rfl
      cases by' with
      | nil =>
        simp only [go_sem, Nat.reduceEqDiff, reduceCtorEq, Nat.reduceAdd, Nat.reduceLeDiff, Nat.reduceMul, Nat.reduceLT, Int.reduceToNat, Int.reduceLT, Int.reduceLE, Int.reduceEq, Nat.reduceSub, List.length_map, drop_cells, List.map_nil, List.length_nil, e0, gt_iff_lt, Int.lt_irrefl, decide_false]
        repeat
          refine call_skip ?_
          simp only [go_sem, Nat.reduceEqDiff, reduceCtorEq, Nat.reduceAdd, Nat.reduceLeDiff, Nat.reduceMul, Nat.reduceLT, Int.reduceToNat, Int.reduceLT, Int.reduceLE, Int.reduceEq, Nat.reduceSub]
        exact tail _ rfl rfl rfl rfl rfl N2 h2'
      | cons b bs =>
        simp only [go_sem, Nat.reduceEqDiff, reduceCtorEq, Nat.reduceAdd, Nat.reduceLeDiff, Nat.reduceMul, Nat.reduceLT, Int.reduceToNat, Int.reduceLT, Int.reduceLE, Int.reduceEq, Nat.reduceSub, List.length_map, drop_cells, List.map_nil, List.map_cons, List.length_nil, e0, gt_iff_lt, Int.lt_irrefl, decide_false]
        repeat
          refine call_skip ?_
          simp only [go_sem, Nat.reduceEqDiff, reduceCtorEq, Nat.reduceAdd, Nat.reduceLeDiff, Nat.reduceMul, Nat.reduceLT, Int.reduceToNat, Int.reduceLT, Int.reduceLE, Int.reduceEq, Nat.reduceSub]
        exact tail _ rfl rfl rfl rfl rfl N2 h2'
    | cons s ns =>
      have hby : by' = [] := hnil.resolve_left (by simp)
      subst hby
      have e1 : decide (((ns.length + 1 : Nat) : Int) > 0) = true := decide_eq_true (by omega)
      have e0 : decide (((0 : Nat) : Int) > 0) = false := rfl
      simp only [go_sem, Nat.reduceEqDiff, reduceCtorEq, Nat.reduceAdd, Nat.reduceLeDiff, Nat.reduceMul, Nat.reduceLT, Int.reduceToNat, Int.reduceLT, Int.reduceLE, Int.reduceEq, Nat.reduceSub, List.length_map, drop_cells, List.map_nil, List.map_cons, List.length_nil, e0, e1, gt_iff_lt, Int.lt_irrefl, decide_false]
      repeat
        refine call_skip ?_
        simp only [go_sem, Nat.reduceEqDiff, reduceCtorEq, Nat.reduceAdd, Nat.reduceLeDiff, Nat.reduceMul, Nat.reduceLT, Int.reduceToNat, Int.reduceLT, Int.reduceLE, Int.reduceEq, Nat.reduceSub]
      exact tail _ rfl rfl rfl rfl rfl N2 h2'
  · simp only [not_or] at hnil
    obtain ⟨s, ns, rfl⟩ := List.exists_cons_of_ne_nil hnil.1
    obtain ⟨b, bs, rfl⟩ := List.exists_cons_of_ne_nil hnil.2
    have e1 : decide (((ns.length + 1 : Nat) : Int) > 0) = true := decide_eq_true (by omega)
    have e2 : decide (((bs.length + 1 : Nat) : Int) > 0) = true := decide_eq_true (by omega)
    have e3 : ((0 : Int) < ((ns.length + 1 : Nat) : Int)) = True := eq_true (by omega)
    have e4 : ((0 : Int) < ((bs.length + 1 : Nat) : Int)) = True := eq_true (by omega)
    have k1 := l1 (s :: ns)
    have k2 := Pred.lens_true (b :: bs)
    simp only [List.map_cons] at k1 k2
    simp only [go_sem, Nat.reduceEqDiff, reduceCtorEq, Nat.reduceAdd, Nat.reduceLeDiff, Nat.reduceMul, Nat.reduceLT, Int.reduceToNat, Int.reduceLT, Int.reduceLE, Int.reduceEq, Nat.reduceSub, List.length_map, drop_cells, List.map_cons, e1, e2, e3, e4, k1, k2]
    refine call_by (h4 s b (by simp)) ?_
    simp only [go_sem, Nat.reduceEqDiff, reduceCtorEq, Nat.reduceAdd, Nat.reduceLeDiff, Nat.reduceMul, Nat.reduceLT, Int.reduceToNat, Int.reduceLT, Int.reduceLE, Int.reduceEq, Nat.reduceSub, List.length_map, drop_cells, List.map_cons, e1, e2, e3, e4, k1, k2]
    refine call_by (h5 s b) ?_
    simp only [go_sem, Nat.reduceEqDiff, reduceCtorEq, Nat.reduceAdd, Nat.reduceLeDiff, Nat.reduceMul, Nat.reduceLT, Int.reduceToNat, Int.reduceLT, Int.reduceLE, Int.reduceEq, Nat.reduceSub]
    refine call_by (h6 s b) ?_
    simp only [go_sem, Nat.reduceEqDiff, reduceCtorEq, Nat.reduceAdd, Nat.reduceLeDiff, Nat.reduceMul, Nat.reduceLT, Int.reduceToNat, Int.reduceLT, Int.reduceLE, Int.reduceEq, Nat.reduceSub]
    exact tail _ rfl rfl rfl rfl rfl N2 h2'
end Go.Abs
end
section
set_option linter.unusedSimpArgs false
set_option linter.unusedVariables false
set_option linter.unusedSectionVars false
namespace Go.Abs
theorem free_sub {x : Str} {b p : Pred} (h : Vars p) : decide (findIx x 0 (freeS (subAll [x] [b] p)) ≥ 0) = (decide (findIx x 0 (freeS p) ≥ 0) && decide (findIx x 0 (freeS b) ≥ 0)) := by
  have hs := sub_free (x := x) (y := x) (b := b) p h
  rw [← mem_freeSi, ← mem_freeSi, ← mem_freeSi] at hs
  rw [Bool.eq_iff_iff, Bool.and_eq_true, decide_eq_true_eq, decide_eq_true_eq, decide_eq_true_eq, findIx_ge, findIx_ge, findIx_ge, hs]
  constructor
  · rintro (⟨_, h⟩ | h)
    · exact absurd rfl h
    · exact h
  · exact .inr
theorem sub_same {x : Str} {b p : Pred} (h : decide (findIx x 0 (freeS p) ≥ 0) = false) : subAll [x] [b] p = p := by
  refine sub_not_free p fun q hq hh => ?_
  rw [decide_eq_false_iff_not, findIx_ge] at h
  exact h (mem_freeSi.2 ⟨q, hq, hh⟩)
theorem nodes_le {p : Pred} (hc : p.cnt < 2 ^ 62) {a : Nat} (h : decide (p.nodes ≤ a) = true) : p.cnt ≤ a := by
  have h1 := Pred.nodes_cnt p hc
  have h2 := of_decide_eq_true h
  omega
set_option maxRecDepth 100000
variable {E : AEnv} (L : Law7 E)
include L
theorem PredReplaces_ev (p : Pred) (name : Str) (b : Pred) (hp : p.cnt ≤ 1048576) (hb : b.cnt ≤ 1048576) : E.C l07_PredReplaces [.agg p.cells, .one (.str name), .agg b.cells] (.one (.bool true)) := by
  have hf := l07_Few_ev L.sys
  have hal := L.alive7
  have hck := r07_Check_ev L.sys p
  have htp := tame_of_cnt p hp
  have htb := tame_of_cnt b hb
  have hprep := Pred.pre_cnt p
  have hpreb := Pred.pre_cnt b
  have h1 := pred_Subst_ev L.sys name b p htb htp
  have h2 := pred_Free_ev L.sys L.union L.it p (by omega)
  have h3 := fun l => r04_Find_ev L.sys l name
  have h4 := pred_Free_ev L.sys L.union L.it b (by omega)
  have h8 := l07_x_ev L name
  have h9 := pred_Subst_ev L.sys name (pv name) p (tame_of_cnt _ (by show Pred.cnt (.mk 3 name 0 []) ≤ _; simp [Pred.cnt, Pred.cnts])) htp
  have h10 := pred_Same_ev L.sys p p
  rw [Pred.same_refl] at h10
  have h11 := pred_Nodes_ev L.sys p
  have key : decide (p.nodes ≤ 600) = true → decide (b.nodes ≤ 600) = true → (p.checkE != 0) = false →
      ∃ q, subAll [name] [b] p = q ∧ q.pre.length ≤ 1048576 ∧ decide (q.nodes ≥ p.nodes) = true ∧ subAll [name] [pv name] p = p ∧ decide (findIx name 0 (freeS q) ≥ 0) = (decide (findIx name 0 (freeS p) ≥ 0) && decide (findIx name 0 (freeS b) ≥ 0)) ∧ (decide (findIx name 0 (freeS p) ≥ 0) = false → q.same p = true) := by
    intro k1 k2 k3
    have hc1 := nodes_le (a := 600) (by omega) k1
    have hc2 := nodes_le (a := 600) (by omega) k2
    have hg := good_of (p := p) (by simpa using k3)
    have hv := vars_of_good hg
    obtain ⟨g1, g2⟩ := sub_cnt (x := name) (b := b) p hv
    have g3 : p.cnt * b.cnt ≤ 600 * 600 := Nat.mul_le_mul hc1 hc2
    have g4 := Pred.pre_cnt (subAll [name] [b] p)
    refine ⟨_, rfl, by omega, ?_, sub_self p hv, free_sub hv, fun h => by rw [sub_same h]; exact Pred.same_refl p⟩
    rw [Pred.nodes_cnt p (by omega), Pred.nodes_cnt _ (by omega)]
    exact decide_eq_true (by omega)
  refine L.sys.l07_PredReplaces _ _ ⟨Nat.le_of_ble_eq_true rfl, ?_⟩
  have hrs : fn_l07_PredReplaces.rs = [.t 6] := rfl
  refine seq_named fun N0 h0 => ?_
  simp only [go_sem, Nat.reduceEqDiff, reduceCtorEq, Nat.reduceAdd, Nat.reduceLeDiff, Nat.reduceMul, Nat.reduceLT, Int.reduceToNat, Int.reduceLT, Int.reduceLE, Int.reduceEq, Nat.reduceSub, List.length_map, drop_cells]
  rw [h0]
  refine seq_named fun N1 h1' => ?_
  simp only [go_sem, Nat.reduceEqDiff, reduceCtorEq, Nat.reduceAdd, Nat.reduceLeDiff, Nat.reduceMul, Nat.reduceLT, Int.reduceToNat, Int.reduceLT, Int.reduceLE, Int.reduceEq, Nat.reduceSub, List.length_map, drop_cells]
  refine call_by (hf p) ?_
  cases c0 : decide (p.nodes ≤ 600) with
  | false =>
    simp only [go_sem, Nat.reduceEqDiff, reduceCtorEq, Nat.reduceAdd, Nat.reduceLeDiff, Nat.reduceMul, Nat.reduceLT, Int.reduceToNat, Int.reduceLT, Int.reduceLE, Int.reduceEq, Nat.reduceSub]
    refine call_skip ?_
    simp only [go_sem, Nat.reduceEqDiff, reduceCtorEq, Nat.reduceAdd, Nat.reduceLeDiff, Nat.reduceMul, Nat.reduceLT, Int.reduceToNat, Int.reduceLT, Int.reduceLE, Int.reduceEq, Nat.reduceSub]
    refine call_skip ?_
    simp only [go_sem, Nat.reduceEqDiff, reduceCtorEq, Nat.reduceAdd, Nat.reduceLeDiff, Nat.reduceMul, Nat.reduceLT, Int.reduceToNat, Int.reduceLT, Int.reduceLE, Int.reduceEq, Nat.reduceSub]
    refine call_by hal ?_
    simp only [go_sem, Nat.reduceEqDiff, reduceCtorEq, Nat.reduceAdd, Nat.reduceLeDiff, Nat.reduceMul, Nat.reduceLT, Int.reduceToNat, Int.reduceLT, Int.reduceLE, Int.reduceEq, Nat.reduceSub, hrs]
  | true =>
  simp only [go_sem, Nat.reduceEqDiff, reduceCtorEq, Nat.reduceAdd, Nat.reduceLeDiff, Nat.reduceMul, Nat.reduceLT, Int.reduceToNat, Int.reduceLT, Int.reduceLE, Int.reduceEq, Nat.reduceSub, List.length_map, drop_cells]
  refine call_by (hf b) ?_
  cases c1 : decide (b.nodes ≤ 600) with
  | false =>
    simp only [go_sem, Nat.reduceEqDiff, reduceCtorEq, Nat.reduceAdd, Nat.reduceLeDiff, Nat.reduceMul, Nat.reduceLT, Int.reduceToNat, Int.reduceLT, Int.reduceLE, Int.reduceEq, Nat.reduceSub]
    refine call_skip ?_
    simp only [go_sem, Nat.reduceEqDiff, reduceCtorEq, Nat.reduceAdd, Nat.reduceLeDiff, Nat.reduceMul, Nat.reduceLT, Int.reduceToNat, Int.reduceLT, Int.reduceLE, Int.reduceEq, Nat.reduceSub]
    refine call_by hal ?_
    simp only [go_sem, Nat.reduceEqDiff, reduceCtorEq, Nat.reduceAdd, Nat.reduceLeDiff, Nat.reduceMul, Nat.reduceLT, Int.reduceToNat, Int.reduceLT, Int.reduceLE, Int.reduceEq, Nat.reduceSub, hrs]
  | true =>
  simp only [go_sem, Nat.reduceEqDiff, reduceCtorEq, Nat.reduceAdd, Nat.reduceLeDiff, Nat.reduceMul, Nat.reduceLT, Int.reduceToNat, Int.reduceLT, Int.reduceLE, Int.reduceEq, Nat.reduceSub, List.length_map, drop_cells]
  refine call_by hck ?_
  cases c2 : (p.checkE != 0) with
  | true =>
    simp only [go_sem, Nat.reduceEqDiff, reduceCtorEq, Nat.reduceAdd, Nat.reduceLeDiff, Nat.reduceMul, Nat.reduceLT, Int.reduceToNat, Int.reduceLT, Int.reduceLE, Int.reduceEq, Nat.reduceSub, c2]
    refine call_by hal ?_
    simp only [go_sem, Nat.reduceEqDiff, reduceCtorEq, Nat.reduceAdd, Nat.reduceLeDiff, Nat.reduceMul, Nat.reduceLT, Int.reduceToNat, Int.reduceLT, Int.reduceLE, Int.reduceEq, Nat.reduceSub, hrs]
  | false =>
  obtain ⟨q, e0, e1, e2, e3, e4, e5⟩ := key c0 c1 c2
  have h5 := pred_Same_ev L.sys q p
  have h6 := pred_Free_ev L.sys L.union L.it q e1
  have h7 := pred_Nodes_ev L.sys q
  rw [e0] at h1
  rw [e3] at h9
  simp only [go_sem, Nat.reduceEqDiff, reduceCtorEq, Nat.reduceAdd, Nat.reduceLeDiff, Nat.reduceMul, Nat.reduceLT, Int.reduceToNat, Int.reduceLT, Int.reduceLE, Int.reduceEq, Nat.reduceSub, c2]
  rw [h1']
  refine seq_named fun N2 h2' => ?_
  simp only [go_sem, Nat.reduceEqDiff, reduceCtorEq, Nat.reduceAdd, Nat.reduceLeDiff, Nat.reduceMul, Nat.reduceLT, Int.reduceToNat, Int.reduceLT, Int.reduceLE, Int.reduceEq, Nat.reduceSub, List.length_map, drop_cells]
  refine call_by h1 ?_
  simp only [go_sem, Nat.reduceEqDiff, reduceCtorEq, Nat.reduceAdd, Nat.reduceLeDiff, Nat.reduceMul, Nat.reduceLT, Int.reduceToNat, Int.reduceLT, Int.reduceLE, Int.reduceEq, Nat.reduceSub, List.length_map, drop_cells]
  rw [h2']
  refine seq_named fun N3 h3' => ?_
  simp only [go_sem, Nat.reduceEqDiff, reduceCtorEq, Nat.reduceAdd, Nat.reduceLeDiff, Nat.reduceMul, Nat.reduceLT, Int.reduceToNat, Int.reduceLT, Int.reduceLE, Int.reduceEq, Nat.reduceSub, List.length_map, drop_cells]
  refine call_by h2 ?_
  simp only [go_sem, Nat.reduceEqDiff, reduceCtorEq, Nat.reduceAdd, Nat.reduceLeDiff, Nat.reduceMul, Nat.reduceLT, Int.reduceToNat, Int.reduceLT, Int.reduceLE, Int.reduceEq, Nat.reduceSub]
  refine call_by (h3 _) ?_
  simp only [go_sem, Nat.reduceEqDiff, reduceCtorEq, Nat.reduceAdd, Nat.reduceLeDiff, Nat.reduceMul, Nat.reduceLT, Int.reduceToNat, Int.reduceLT, Int.reduceLE, Int.reduceEq, Nat.reduceSub, List.length_map, drop_cells]
  refine call_by h4 ?_
  simp only [go_sem, Nat.reduceEqDiff, reduceCtorEq, Nat.reduceAdd, Nat.reduceLeDiff, Nat.reduceMul, Nat.reduceLT, Int.reduceToNat, Int.reduceLT, Int.reduceLE, Int.reduceEq, Nat.reduceSub]
  refine call_by (h3 _) ?_
  simp only [go_sem, Nat.reduceEqDiff, reduceCtorEq, Nat.reduceAdd, Nat.reduceLeDiff, Nat.reduceMul, Nat.reduceLT, Int.reduceToNat, Int.reduceLT, Int.reduceLE, Int.reduceEq, Nat.reduceSub]
  rw [h3']
  refine seq_named fun N4 h4' => ?_
  simp only [go_sem, Nat.reduceEqDiff, reduceCtorEq, Nat.reduceAdd, Nat.reduceLeDiff, Nat.reduceMul, Nat.reduceLT, Int.reduceToNat, Int.reduceLT, Int.reduceLE, Int.reduceEq, Nat.reduceSub, List.length_map, drop_cells]
  refine call_by h6 ?_
  simp only [go_sem, Nat.reduceEqDiff, reduceCtorEq, Nat.reduceAdd, Nat.reduceLeDiff, Nat.reduceMul, Nat.reduceLT, Int.reduceToNat, Int.reduceLT, Int.reduceLE, Int.reduceEq, Nat.reduceSub]
  refine call_by (h3 _) ?_
  simp only [go_sem, Nat.reduceEqDiff, reduceCtorEq, Nat.reduceAdd, Nat.reduceLeDiff, Nat.reduceMul, Nat.reduceLT, Int.reduceToNat, Int.reduceLT, Int.reduceLE, Int.reduceEq, Nat.reduceSub]
  rw [h4']
  refine seq_named fun N5 h5' => ?_
  simp only [go_sem, Nat.reduceEqDiff, reduceCtorEq, Nat.reduceAdd, Nat.reduceLeDiff, Nat.reduceMul, Nat.reduceLT, Int.reduceToNat, Int.reduceLT, Int.reduceLE, Int.reduceEq, Nat.reduceSub]
  have tail : ∀ (st : St), getS st.slots 3 = .ptr 3 0 → getS st.slots 7 = .ptr 7 0 → getS st.slots 1 = .d (.str name) → getM st.mem 3 = some (p.cells.map .d) → getM st.mem 7 = some (q.cells.map .d) → st.tk = [] → N5 st := by
    intro st a3 a7 a1 m3 m7 et
    obtain ⟨sl, mm, tk⟩ := st
    simp only at a3 a7 a1 m3 m7 et
    subst et
    rw [h5']
    simp only [go_sem, Nat.reduceEqDiff, reduceCtorEq, Nat.reduceAdd, Nat.reduceLeDiff, Nat.reduceMul, Nat.reduceLT, Int.reduceToNat, Int.reduceLT, Int.reduceLE, Int.reduceEq, Nat.reduceSub, a3, a7, a1, m3, m7, List.length_map]
    refine call_by h8 ?_
    simp only [go_sem, Nat.reduceEqDiff, reduceCtorEq, Nat.reduceAdd, Nat.reduceLeDiff, Nat.reduceMul, Nat.reduceLT, Int.reduceToNat, Int.reduceLT, Int.reduceLE, Int.reduceEq, Nat.reduceSub, a3, a7, a1, m3, m7, List.length_map]
    refine call_by h9 ?_
    simp only [go_sem, Nat.reduceEqDiff, reduceCtorEq, Nat.reduceAdd, Nat.reduceLeDiff, Nat.reduceMul, Nat.reduceLT, Int.reduceToNat, Int.reduceLT, Int.reduceLE, Int.reduceEq, Nat.reduceSub, a3, a7, a1, m3, m7, List.length_map]
    refine call_by h10 ?_
    simp only [go_sem, Nat.reduceEqDiff, reduceCtorEq, Nat.reduceAdd, Nat.reduceLeDiff, Nat.reduceMul, Nat.reduceLT, Int.reduceToNat, Int.reduceLT, Int.reduceLE, Int.reduceEq, Nat.reduceSub, a3, a7, a1, m3, m7, List.length_map]
    refine call_by h7 ?_
    simp only [go_sem, Nat.reduceEqDiff, reduceCtorEq, Nat.reduceAdd, Nat.reduceLeDiff, Nat.reduceMul, Nat.reduceLT, Int.reduceToNat, Int.reduceLT, Int.reduceLE, Int.reduceEq, Nat.reduceSub, a3, a7, a1, m3, m7, List.length_map]
    refine call_by h11 ?_
    simp only [go_sem, Nat.reduceEqDiff, reduceCtorEq, Nat.reduceAdd, Nat.reduceLeDiff, Nat.reduceMul, Nat.reduceLT, Int.reduceToNat, Int.reduceLT, Int.reduceLE, Int.reduceEq, Nat.reduceSub, e2]
    refine call_by hal ?_
    simp only [go_sem, Nat.reduceEqDiff, reduceCtorEq, Nat.reduceAdd, Nat.reduceLeDiff, Nat.reduceMul, Nat.reduceLT, Int.reduceToNat, Int.reduceLT, Int.reduceLE, Int.reduceEq, Nat.reduceSub, hrs]
  rw [e4]
  cases w1 : decide (findIx name 0 (freeS p) ≥ 0) with
  | false =>
    have e6 := e5 w1
    rw [e6] at h5
    simp only [go_sem, Nat.reduceEqDiff, reduceCtorEq, Nat.reduceAdd, Nat.reduceLeDiff, Nat.reduceMul, Nat.reduceLT, Int.reduceToNat, Int.reduceLT, Int.reduceLE, Int.reduceEq, Nat.reduceSub, List.length_map, drop_cells]
    refine call_by h5 ?_
    simp only [go_sem, Nat.reduceEqDiff, reduceCtorEq, Nat.reduceAdd, Nat.reduceLeDiff, Nat.reduceMul, Nat.reduceLT, Int.reduceToNat, Int.reduceLT, Int.reduceLE, Int.reduceEq, Nat.reduceSub, beq_self_eq_true]
    refine tail _ rfl rfl rfl rfl rfl rfl
  | true =>
    simp only [go_sem, Nat.reduceEqDiff, reduceCtorEq, Nat.reduceAdd, Nat.reduceLeDiff, Nat.reduceMul, Nat.reduceLT, Int.reduceToNat, Int.reduceLT, Int.reduceLE, Int.reduceEq, Nat.reduceSub, List.length_map, drop_cells]
    refine call_skip ?_
    cases w2 : decide (findIx name 0 (freeS b) ≥ 0) with
    | false =>
      simp only [go_sem, Nat.reduceEqDiff, reduceCtorEq, Nat.reduceAdd, Nat.reduceLeDiff, Nat.reduceMul, Nat.reduceLT, Int.reduceToNat, Int.reduceLT, Int.reduceLE, Int.reduceEq, Nat.reduceSub, beq_self_eq_true]
      refine tail _ rfl rfl rfl rfl rfl rfl
    | true =>
      simp only [go_sem, Nat.reduceEqDiff, reduceCtorEq, Nat.reduceAdd, Nat.reduceLeDiff, Nat.reduceMul, Nat.reduceLT, Int.reduceToNat, Int.reduceLT, Int.reduceLE, Int.reduceEq, Nat.reduceSub, beq_self_eq_true]
      refine tail _ rfl rfl rfl rfl rfl rfl
end Go.Abs
end
section
set_option linter.unusedSimpArgs false
set_option linter.unusedVariables false
set_option linter.unusedSectionVars false
namespace Go.Abs
theorem false_tame : Tame falseP := tame_of_cnt _ (by decide)
theorem andP_tame {l : List Pred} (h : ∀ p ∈ l, Tame p) : Tame (andP l) := by
  have key : ∀ (l : List Pred) (x : Pred × Bool), Tame x.1 → (∀ p ∈ l, Tame p) → Tame (l.foldl andStp x).1 := by
    intro l
    induction l with
    | nil => intro x hx _; exact hx
    | cons p l ih =>
      intro x hx h
      rw [List.foldl_cons]
      refine ih _ ?_ fun q hq => h q (by simp [hq])
      unfold andStp
      split
      · exact hx
      · split
        · refine AllN.mk (by show Small _; unfold Small; simp [Pred.kids]) fun k hk => ?_
          rcases List.mem_cons.1 hk with rfl | hk
          · exact hx
          · rw [List.mem_singleton] at hk; subst hk; exact h _ (by simp)
        · exact h _ (by simp)
  unfold andP
  split
  · exact false_tame
  · exact key l _ true_tame h
theorem andP_cnt (l : List Pred) : (andP l).cnt ≤ Pred.cnts l + l.length + 1 := by
  have key : ∀ (l : List Pred) (x : Pred × Bool), (l.foldl andStp x).1.cnt ≤ x.1.cnt + Pred.cnts l + l.length := by
    intro l
    induction l with
    | nil => intro x; simp [Pred.cnts]
    | cons p l ih =>
      intro x
      rw [List.foldl_cons, Pred.cnts, List.length_cons]
      have h1 := ih (andStp x p)
      have h2 : (andStp x p).1.cnt ≤ x.1.cnt + p.cnt + 1 := by
        unfold andStp
        split
        · omega
        · split
          · simp only [Pred.cnt, Pred.cnts]; omega
          · simp only; omega
      omega
  unfold andP
  split
  · have : falseP.cnt = 1 := by decide
    omega
  · have h1 := key l (trueP, false)
    have : trueP.cnt = 1 := by decide
    unfold andGo
    simp only [this] at h1
    omega
theorem split_parts (p : Pred) : Pred.cnts (splitP p) ≤ p.cnt ∧ (Tame p → ∀ e ∈ splitP p, Tame e) := by
  induction p using Pred.ind with
  | h o s n ks ih =>
  cases hc : (o == 15 && (ks.length : Int) == 2) with
  | true =>
    obtain ⟨ho, hk⟩ := Bool.and_eq_true_iff.1 hc
    have hk2 : ((ks.length : Nat) : Int) = 2 := by simpa using hk
    obtain ⟨a, b, rfl⟩ := pair_split (l := ks) (by omega)
    have ho : o = 15 := by simpa using ho
    subst ho
    obtain ⟨a1, a2⟩ := ih a (by simp)
    obtain ⟨b1, b2⟩ := ih b (by simp)
    rw [splitP_and, cnts_app]
    refine ⟨by simp only [Pred.cnt, Pred.cnts]; omega, fun ht e he => ?_⟩
    rcases List.mem_append.1 he with he | he
    · exact a2 (ht.kid (by simp)) e he
    · exact b2 (ht.kid (by simp)) e he
  | false =>
    rw [splitP_else hc]
    split
    · exact ⟨by simp [Pred.cnts], fun _ e he => by cases he⟩
    · exact ⟨by simp [Pred.cnts], fun ht e he => by rw [List.mem_singleton] at he; subst he; exact ht⟩
theorem flat_cnts : ∀ l : List Pred, Pred.cnts (l.flatMap splitP) ≤ Pred.cnts l
  | [] => by simp [Pred.cnts]
  | p :: l => by
    rw [List.flatMap_cons, cnts_app, Pred.cnts]
    have h1 := (split_parts p).1
    have h2 := flat_cnts l
    omega
theorem flat_tame {l : List Pred} (h : ∀ p ∈ l, Tame p) : ∀ e ∈ l.flatMap splitP, Tame e := by
  intro e he
  obtain ⟨p, hp, he⟩ := List.mem_flatMap.1 he
  exact (split_parts p).2 (h p hp) e he
theorem flat_again {l : List Pred} (h : ∀ e ∈ l.flatMap splitP, e.same falseP = false) : splitP (andP (l.flatMap splitP)) = l.flatMap splitP := by
  rw [split_andP h]
  refine flatMap_one fun e he => ?_
  obtain ⟨p, _, he⟩ := List.mem_flatMap.1 he
  exact split_one e he
theorem and_false {l done r : List Pred} {k : Pred} (hl : l = done ++ k :: r) (hk : k.same falseP = true) : andP l = falseP := by
  unfold andP
  have : l.any isFalse = true := by
    rw [hl, List.any_append, List.any_cons, isFalse_eq, hk]; simp
  rw [if_pos this]
set_option maxRecDepth 100000
variable {E : AEnv} (L : Law7 E)
include L
theorem PredConjuncts_ev (l : List Pred) (hc : Pred.cnts l ≤ 1048576) : E.C l07_PredConjuncts [.one (.lst (l.map Pred.cells))] (.one (.bool true)) := by
  have ha := l07_all_ev L.sys l
  have hal := L.alive7
  have hcl : ∀ p ∈ l, p.cnt ≤ 1048576 := fun p hp => Nat.le_trans (Pred.cnt_le hp) hc
  have htl : ∀ p ∈ l, Tame p := fun p hp => tame_of_cnt p (hcl p hp)
  have hlen0 := Pred.len_cnts l
  have hfc := flat_cnts l
  have hfl := Pred.len_cnts (l.flatMap splitP)
  have hac := andP_cnt l
  have hac2 := andP_cnt (l.flatMap splitP)
  have hF := r07_False_ev L.sys
  have hS := fun p => pred_Same_ev L.sys p falseP
  have h1 := pred_And_ev L.sys l (fun x hx _ => htl x hx)
  have h2 := fun p (hp : p ∈ l) => pred_SplitD_ev L.sys p (htl p hp) (by have := hcl p hp; omega)
  have h3 := pred_SplitD_ev L.sys (andP l) (andP_tame htl) (by omega)
  have h4 := r07_SameAll_ev L.sys (l.flatMap splitP) (l.flatMap splitP)
  have h5 := pred_And_ev L.sys (l.flatMap splitP) (fun x hx _ => flat_tame htl x hx)
  have h6 := pred_SplitD_ev L.sys (andP (l.flatMap splitP)) (andP_tame (flat_tame htl)) (by omega)
  rw [Pred.sames_refl] at h4
  have hFF := hS falseP
  rw [Pred.same_refl] at hFF
  refine L.sys.l07_PredConjuncts _ _ ⟨Nat.le_of_ble_eq_true rfl, ?_⟩
  have hrs : fn_l07_PredConjuncts.rs = [.t 2] := rfl
  generalize (l.all (fun p => decide (p.nodes ≤ 600)) && decide ((l.length : Int) ≤ 60)) = B at *
  refine seq_named fun N0 h0 => ?_
  simp only [go_sem, Nat.reduceEqDiff, reduceCtorEq, Nat.reduceAdd, Nat.reduceLeDiff, Nat.reduceMul, Nat.reduceLT, Int.reduceToNat, Int.reduceLT, Int.reduceLE, Int.reduceEq, Nat.reduceSub, List.length_map]
  rw [h0]
  refine seq_named fun N1 h1' => ?_
  simp only [go_sem, Nat.reduceEqDiff, reduceCtorEq, Nat.reduceAdd, Nat.reduceLeDiff, Nat.reduceMul, Nat.reduceLT, Int.reduceToNat, Int.reduceLT, Int.reduceLE, Int.reduceEq, Nat.reduceSub, List.length_map]
  refine call_by ha ?_
  cases B with
  | false =>
    simp only [go_sem, Nat.reduceEqDiff, reduceCtorEq, Nat.reduceAdd, Nat.reduceLeDiff, Nat.reduceMul, Nat.reduceLT, Int.reduceToNat, Int.reduceLT, Int.reduceLE, Int.reduceEq, Nat.reduceSub]
    refine call_by hal ?_
    simp only [go_sem, Nat.reduceEqDiff, reduceCtorEq, Nat.reduceAdd, Nat.reduceLeDiff, Nat.reduceMul, Nat.reduceLT, Int.reduceToNat, Int.reduceLT, Int.reduceLE, Int.reduceEq, Nat.reduceSub, hrs]
  | true =>
  simp only [go_sem, Nat.reduceEqDiff, reduceCtorEq, Nat.reduceAdd, Nat.reduceLeDiff, Nat.reduceMul, Nat.reduceLT, Int.reduceToNat, Int.reduceLT, Int.reduceLE, Int.reduceEq, Nat.reduceSub]
  rw [h1']
  refine seq_named fun N2 h2' => ?_
  simp only [go_sem, Nat.reduceEqDiff, reduceCtorEq, Nat.reduceAdd, Nat.reduceLeDiff, Nat.reduceMul, Nat.reduceLT, Int.reduceToNat, Int.reduceLT, Int.reduceLE, Int.reduceEq, Nat.reduceSub]
  rw [h2']
  refine seq_named fun N3 h3' => ?_
  simp only [go_sem, Nat.reduceEqDiff, reduceCtorEq, Nat.reduceAdd, Nat.reduceLeDiff, Nat.reduceMul, Nat.reduceLT, Int.reduceToNat, Int.reduceLT, Int.reduceLE, Int.reduceEq, Nat.reduceSub, List.length_map]
  intro _
  refine loop_named fun K hK => ?_
  refine loop_list l (fun done => ∀ y ∈ done, y.same falseP = false) (fun done rest => ⟨[(15, .d (.int .i64 done.length)), (14, .d (.int .i64 l.length)), (13, .d (.lst (l.map Pred.cells))), (0, .d (.lst (l.map Pred.cells))), (3, .own 3 4 ((done.flatMap splitP).map Pred.cells))], [], [(3, true)]⟩) ?_ (by simp) ?_ ?_
  · exact Ent_conv 3 3 4 [] [(3, 3)] rfl (by simp) rfl (by simp only [Ent0, go_sem, Nat.reduceEqDiff, reduceCtorEq, Nat.reduceAdd, Nat.reduceLeDiff, Nat.reduceMul, Nat.reduceLT, Int.reduceToNat, Int.reduceLT, Int.reduceLE, Int.reduceEq, Nat.reduceSub, List.contains_nil, Option.isSome_some, List.flatMap_nil, List.map_nil])
  · intro done k r hl hI
    have hlt := lt_mid hl
    have hw : IntKind.i64.wrap ((done.length : Int) + 1) = ((done.length + 1 : Nat) : Int) := wrap_succ (by omega)
    simp only [fn_l07_PredConjuncts_L2, go_sem, Nat.reduceEqDiff, reduceCtorEq, Nat.reduceAdd, Nat.reduceLeDiff, Nat.reduceMul, Nat.reduceLT, Int.reduceToNat, Int.reduceLT, Int.reduceLE, Int.reduceEq, Nat.reduceSub, hlt, getD_midP hl, List.length_map, drop_cells]
    refine call_by hF ?_
    simp only [go_sem, Nat.reduceEqDiff, reduceCtorEq, Nat.reduceAdd, Nat.reduceLeDiff, Nat.reduceMul, Nat.reduceLT, Int.reduceToNat, Int.reduceLT, Int.reduceLE, Int.reduceEq, Nat.reduceSub]
    refine call_by (hS k) ?_
    cases c0 : k.same falseP with
    | true =>
      have hand := and_false hl c0
      rw [hand] at h1
      simp only [go_sem, Nat.reduceEqDiff, reduceCtorEq, Nat.reduceAdd, Nat.reduceLeDiff, Nat.reduceMul, Nat.reduceLT, Int.reduceToNat, Int.reduceLT, Int.reduceLE, Int.reduceEq, Nat.reduceSub]
      refine call_by h1 ?_
      simp only [go_sem, Nat.reduceEqDiff, reduceCtorEq, Nat.reduceAdd, Nat.reduceLeDiff, Nat.reduceMul, Nat.reduceLT, Int.reduceToNat, Int.reduceLT, Int.reduceLE, Int.reduceEq, Nat.reduceSub]
      refine call_by hF ?_
      simp only [go_sem, Nat.reduceEqDiff, reduceCtorEq, Nat.reduceAdd, Nat.reduceLeDiff, Nat.reduceMul, Nat.reduceLT, Int.reduceToNat, Int.reduceLT, Int.reduceLE, Int.reduceEq, Nat.reduceSub]
      refine call_by hFF ?_
      simp only [go_sem, Nat.reduceEqDiff, reduceCtorEq, Nat.reduceAdd, Nat.reduceLeDiff, Nat.reduceMul, Nat.reduceLT, Int.reduceToNat, Int.reduceLT, Int.reduceLE, Int.reduceEq, Nat.reduceSub]
      refine call_by hal ?_
      simp only [go_sem, Nat.reduceEqDiff, reduceCtorEq, Nat.reduceAdd, Nat.reduceLeDiff, Nat.reduceMul, Nat.reduceLT, Int.reduceToNat, Int.reduceLT, Int.reduceLE, Int.reduceEq, Nat.reduceSub, hK, hrs]
    | false =>
      have hcnt : Pred.cnts l = Pred.cnts done + (k.cnt + Pred.cnts r) := by rw [hl, cnts_app, Pred.cnts]
      have q1 := Pred.len_cnts (done.flatMap splitP)
      have q2 := flat_cnts done
      have q3 := splitP_len k
      have o1 : ((done.flatMap splitP).length + (splitP k).length) * 56 ≤ 2 ^ 46 := by omega
      have o2 : (done.flatMap splitP).length + (splitP k).length ≤ 9223372036854775807 := by omega
      simp only [go_sem, Nat.reduceEqDiff, reduceCtorEq, Nat.reduceAdd, Nat.reduceLeDiff, Nat.reduceMul, Nat.reduceLT, Int.reduceToNat, Int.reduceLT, Int.reduceLE, Int.reduceEq, Nat.reduceSub, List.length_map, drop_cells]
      refine call_by (h2 k (by rw [hl]; simp)) ?_
      simp only [go_sem, Nat.reduceEqDiff, reduceCtorEq, Nat.reduceAdd, Nat.reduceLeDiff, Nat.reduceMul, Nat.reduceLT, Int.reduceToNat, Int.reduceLT, Int.reduceLE, Int.reduceEq, Nat.reduceSub, hw, List.length_append, List.length_map, Pred.lens_true, o1, o2]
      refine ⟨Ent_own [(3, 32)] ?_, app_all hI c0⟩
      simp only [go_sem, Nat.reduceEqDiff, reduceCtorEq, Nat.reduceAdd, Nat.reduceLeDiff, Nat.reduceMul, Nat.reduceLT, Int.reduceToNat, Int.reduceLT, Int.reduceLE, Int.reduceEq, Nat.reduceSub, List.contains_nil, Option.isSome_some, List.flatMap_append, List.flatMap_cons, List.flatMap_nil, List.map_append]
  · intro hI
    rw [split_andP hI] at h3
    have hagain := @flat_again l
    simp only [fn_l07_PredConjuncts_L2, go_sem, Nat.reduceEqDiff, reduceCtorEq, Nat.reduceAdd, Nat.reduceLeDiff, Nat.reduceMul, Nat.reduceLT, Int.reduceToNat, Int.reduceLT, Int.reduceLE, Int.reduceEq, Nat.reduceSub, hK]
    rw [h3']
    generalize l.flatMap splitP = W at *
    refine seq_named fun N4 h4' => ?_
    simp only [go_sem, Nat.reduceEqDiff, reduceCtorEq, Nat.reduceAdd, Nat.reduceLeDiff, Nat.reduceMul, Nat.reduceLT, Int.reduceToNat, Int.reduceLT, Int.reduceLE, Int.reduceEq, Nat.reduceSub]
    refine call_by h1 ?_
    simp only [go_sem, Nat.reduceEqDiff, reduceCtorEq, Nat.reduceAdd, Nat.reduceLeDiff, Nat.reduceMul, Nat.reduceLT, Int.reduceToNat, Int.reduceLT, Int.reduceLE, Int.reduceEq, Nat.reduceSub]
    refine call_by h3 ?_
    simp only [go_sem, Nat.reduceEqDiff, reduceCtorEq, Nat.reduceAdd, Nat.reduceLeDiff, Nat.reduceMul, Nat.reduceLT, Int.reduceToNat, Int.reduceLT, Int.reduceLE, Int.reduceEq, Nat.reduceSub]
    rw [h4']
    refine seq_named fun N5 h5' => ?_
    simp only [go_sem, Nat.reduceEqDiff, reduceCtorEq, Nat.reduceAdd, Nat.reduceLeDiff, Nat.reduceMul, Nat.reduceLT, Int.reduceToNat, Int.reduceLT, Int.reduceLE, Int.reduceEq, Nat.reduceSub]
    refine call_by h4 ?_
    simp only [go_sem, Nat.reduceEqDiff, reduceCtorEq, Nat.reduceAdd, Nat.reduceLeDiff, Nat.reduceMul, Nat.reduceLT, Int.reduceToNat, Int.reduceLT, Int.reduceLE, Int.reduceEq, Nat.reduceSub]
    rw [h5']
    refine seq_named fun N6 h6' => ?_
    simp only [go_sem, Nat.reduceEqDiff, reduceCtorEq, Nat.reduceAdd, Nat.reduceLeDiff, Nat.reduceMul, Nat.reduceLT, Int.reduceToNat, Int.reduceLT, Int.reduceLE, Int.reduceEq, Nat.reduceSub, List.length_map]
    intro _
    refine loop_named fun K2 hK2 => ?_
    refine loop_list W (fun done => ∀ y ∈ done, y.same falseP = false) (fun done rest => ⟨[(43, .d (.int .i64 done.length)), (42, .d (.int .i64 W.length)), (41, .own 3 4 (W.map Pred.cells)), (6, .d (.lst (W.map Pred.cells)))], [], [(3, true)]⟩) ?_ (by simp) ?_ ?_
    · exact Ent_own [(3, 3)] (by simp only [go_sem, Nat.reduceEqDiff, reduceCtorEq, Nat.reduceAdd, Nat.reduceLeDiff, Nat.reduceMul, Nat.reduceLT, Int.reduceToNat, Int.reduceLT, Int.reduceLE, Int.reduceEq, Nat.reduceSub, List.contains_nil, Option.isSome_some])
    · intro done k r hl hI2
      have hlt := lt_mid hl
      have hw : IntKind.i64.wrap ((done.length : Int) + 1) = ((done.length + 1 : Nat) : Int) := wrap_succ (by omega)
      simp only [fn_l07_PredConjuncts_L1, go_sem, Nat.reduceEqDiff, reduceCtorEq, Nat.reduceAdd, Nat.reduceLeDiff, Nat.reduceMul, Nat.reduceLT, Int.reduceToNat, Int.reduceLT, Int.reduceLE, Int.reduceEq, Nat.reduceSub, hlt, getD_midP hl, List.length_map, drop_cells]
      refine call_by hF ?_
      simp only [go_sem, Nat.reduceEqDiff, reduceCtorEq, Nat.reduceAdd, Nat.reduceLeDiff, Nat.reduceMul, Nat.reduceLT, Int.reduceToNat, Int.reduceLT, Int.reduceLE, Int.reduceEq, Nat.reduceSub]
      refine call_by (hS k) ?_
      cases c0 : k.same falseP with
      | true =>
        simp only [go_sem, Nat.reduceEqDiff, reduceCtorEq, Nat.reduceAdd, Nat.reduceLeDiff, Nat.reduceMul, Nat.reduceLT, Int.reduceToNat, Int.reduceLT, Int.reduceLE, Int.reduceEq, Nat.reduceSub]
        refine call_by hal ?_
        simp only [go_sem, Nat.reduceEqDiff, reduceCtorEq, Nat.reduceAdd, Nat.reduceLeDiff, Nat.reduceMul, Nat.reduceLT, Int.reduceToNat, Int.reduceLT, Int.reduceLE, Int.reduceEq, Nat.reduceSub, hK2, hrs]
      | false =>
        simp only [go_sem, Nat.reduceEqDiff, reduceCtorEq, Nat.reduceAdd, Nat.reduceLeDiff, Nat.reduceMul, Nat.reduceLT, Int.reduceToNat, Int.reduceLT, Int.reduceLE, Int.reduceEq, Nat.reduceSub, hw, List.length_append]
        exact ⟨Ent_own [(3, 3)] (by simp only [go_sem, Nat.reduceEqDiff, reduceCtorEq, Nat.reduceAdd, Nat.reduceLeDiff, Nat.reduceMul, Nat.reduceLT, Int.reduceToNat, Int.reduceLT, Int.reduceLE, Int.reduceEq, Nat.reduceSub, List.contains_nil, Option.isSome_some]), app_all hI2 c0⟩
    · intro hI2
      rw [hagain hI2] at h6
      simp only [fn_l07_PredConjuncts_L1, go_sem, Nat.reduceEqDiff, reduceCtorEq, Nat.reduceAdd, Nat.reduceLeDiff, Nat.reduceMul, Nat.reduceLT, Int.reduceToNat, Int.reduceLT, Int.reduceLE, Int.reduceEq, Nat.reduceSub, hK2]
      rw [h6']
      simp only [go_sem, Nat.reduceEqDiff, reduceCtorEq, Nat.reduceAdd, Nat.reduceLeDiff, Nat.reduceMul, Nat.reduceLT, Int.reduceToNat, Int.reduceLT, Int.reduceLE, Int.reduceEq, Nat.reduceSub]
      refine call_by h5 ?_
      simp only [go_sem, Nat.reduceEqDiff, reduceCtorEq, Nat.reduceAdd, Nat.reduceLeDiff, Nat.reduceMul, Nat.reduceLT, Int.reduceToNat, Int.reduceLT, Int.reduceLE, Int.reduceEq, Nat.reduceSub]
      refine call_by h6 ?_
      simp only [go_sem, Nat.reduceEqDiff, reduceCtorEq, Nat.reduceAdd, Nat.reduceLeDiff, Nat.reduceMul, Nat.reduceLT, Int.reduceToNat, Int.reduceLT, Int.reduceLE, Int.reduceEq, Nat.reduceSub]
      refine call_by h4 ?_
      simp only [go_sem, Nat.reduceEqDiff, reduceCtorEq, Nat.reduceAdd, Nat.reduceLeDiff, Nat.reduceMul, Nat.reduceLT, Int.reduceToNat, Int.reduceLT, Int.reduceLE, Int.reduceEq, Nat.reduceSub]
      refine call_by hal ?_
      simp only [go_sem, Nat.reduceEqDiff, reduceCtorEq, Nat.reduceAdd, Nat.reduceLeDiff, Nat.reduceMul, Nat.reduceLT, Int.reduceToNat, Int.reduceLT, Int.reduceLE, Int.reduceEq, Nat.reduceSub, hrs]
end Go.Abs
end
section
set_option linter.unusedSimpArgs false
set_option linter.unusedVariables false
set_option linter.unusedSectionVars false
namespace Go.Abs
set_option maxRecDepth 100000
variable {E : AEnv} (L : Law7 E)
include L
theorem PredFills_ev (p : Pred) (holes : List SHole) (l : List SSol) (hp : p.cnt ≤ 1048576) (hl : ∀ s ∈ l, s.pred.cnt ≤ 1048576) : E.C l07_PredFills [.agg p.cells, .one (.lst (holes.map SHole.cells)), .one (.lst (l.map SSol.cells))] (.one (.bool true)) := by
  have hal := L.alive7
  have hn := r07_Nodes_ev L.sys
  have hd := r07_Depth_ev L.sys p
  have htp := tame_of_cnt p hp
  have htl : ∀ s ∈ l, Tame s.pred := fun s hs => tame_of_cnt _ (hl s hs)
  have h1 := fun hh => r07_Fill_ev L.sys holes hh l htl p htp
  have h2 := fun hh => pred_Fill_ev L.sys holes hh l htl p htp
  have h3 := r07_Same_ev L.sys (fillP holes l p) (fillP holes l p)
  have h4 := fun h => pred_Holes_ev L.sys (fillP holes l p) (fill_tame htl p htp) h
  have h5 := fun h => r07_Holes_ev L.sys (fillP holes l p) h
  have h6 := hn (fillP holes l p)
  rw [Pred.same_refl] at h3
  have key : decide (p.nodes > 100) = false → decide (p.depth > 5) = false → (∀ s ∈ l, decide (s.pred.nodes > 10) = false) → (fillP holes l p).cnt ≤ 10000000 := by
    intro k1 k2 k3
    obtain ⟨c1, c2⟩ := small_parts (p := p) (a := 100) (b := 5) (by omega) (by have := of_decide_eq_false k1; omega) (by have := of_decide_eq_false k2; omega)
    have c3 : ∀ s ∈ l, s.pred.cnt ≤ 10 := fun s hs => by
      have g1 := hl s hs
      have g2 := of_decide_eq_false (k3 s hs)
      have g3 := Pred.nodes_cnt s.pred (by omega)
      omega
    have c4 := fill_cnt (holes := holes) c3 p
    have c5 : 10 ^ p.dep ≤ 10 ^ 5 := Nat.pow_le_pow_right (by omega) c2
    have c6 : p.cnt * 10 ^ p.dep ≤ 100 * 10 ^ 5 := Nat.mul_le_mul c1 c5
    omega
  generalize fillP holes l p = W at *
  refine L.sys.l07_PredFills _ _ ⟨Nat.le_of_ble_eq_true rfl, ?_⟩
  have hrs : fn_l07_PredFills.rs = [.t 6] := rfl
  have hnp := hn p
  generalize hB1 : decide (p.nodes > 100) = B1 at *
  generalize hB4 : decide (p.depth > 5) = B4 at *
  generalize hB2 : decide ((holes.length : Int) > 10) = B2 at *
  generalize hB3 : decide ((l.length : Int) > 10) = B3 at *
  refine seq_named fun N0 h0 => ?_
  simp only [go_sem, Nat.reduceEqDiff, reduceCtorEq, Nat.reduceAdd, Nat.reduceLeDiff, Nat.reduceMul, Nat.reduceLT, Int.reduceToNat, Int.reduceLT, Int.reduceLE, Int.reduceEq, Nat.reduceSub, List.length_map, drop_cells]
  rw [h0]
  refine seq_named fun N1 h1' => ?_
  simp only [go_sem, Nat.reduceEqDiff, reduceCtorEq, Nat.reduceAdd, Nat.reduceLeDiff, Nat.reduceMul, Nat.reduceLT, Int.reduceToNat, Int.reduceLT, Int.reduceLE, Int.reduceEq, Nat.reduceSub, List.length_map, drop_cells]
  refine call_by hnp ?_
  cases B1 with
  | true =>
    simp only [go_sem, Nat.reduceEqDiff, reduceCtorEq, Nat.reduceAdd, Nat.reduceLeDiff, Nat.reduceMul, Nat.reduceLT, Int.reduceToNat, Int.reduceLT, Int.reduceLE, Int.reduceEq, Nat.reduceSub, hB1]
    refine call_skip ?_
    simp only [go_sem, Nat.reduceEqDiff, reduceCtorEq, Nat.reduceAdd, Nat.reduceLeDiff, Nat.reduceMul, Nat.reduceLT, Int.reduceToNat, Int.reduceLT, Int.reduceLE, Int.reduceEq, Nat.reduceSub]
    refine call_by hal ?_
    simp only [go_sem, Nat.reduceEqDiff, reduceCtorEq, Nat.reduceAdd, Nat.reduceLeDiff, Nat.reduceMul, Nat.reduceLT, Int.reduceToNat, Int.reduceLT, Int.reduceLE, Int.reduceEq, Nat.reduceSub, hrs]
  | false =>
  simp only [go_sem, Nat.reduceEqDiff, reduceCtorEq, Nat.reduceAdd, Nat.reduceLeDiff, Nat.reduceMul, Nat.reduceLT, Int.reduceToNat, Int.reduceLT, Int.reduceLE, Int.reduceEq, Nat.reduceSub, hB1, List.length_map, hB2]
  intro _
  cases B2 with
  | true =>
    simp only [go_sem, Nat.reduceEqDiff, reduceCtorEq, Nat.reduceAdd, Nat.reduceLeDiff, Nat.reduceMul, Nat.reduceLT, Int.reduceToNat, Int.reduceLT, Int.reduceLE, Int.reduceEq, Nat.reduceSub]
    refine call_skip ?_
    simp only [go_sem, Nat.reduceEqDiff, reduceCtorEq, Nat.reduceAdd, Nat.reduceLeDiff, Nat.reduceMul, Nat.reduceLT, Int.reduceToNat, Int.reduceLT, Int.reduceLE, Int.reduceEq, Nat.reduceSub]
    refine call_by hal ?_
    simp only [go_sem, Nat.reduceEqDiff, reduceCtorEq, Nat.reduceAdd, Nat.reduceLeDiff, Nat.reduceMul, Nat.reduceLT, Int.reduceToNat, Int.reduceLT, Int.reduceLE, Int.reduceEq, Nat.reduceSub, hrs]
  | false =>
  simp only [go_sem, Nat.reduceEqDiff, reduceCtorEq, Nat.reduceAdd, Nat.reduceLeDiff, Nat.reduceMul, Nat.reduceLT, Int.reduceToNat, Int.reduceLT, Int.reduceLE, Int.reduceEq, Nat.reduceSub, List.length_map, hB3]
  intro _
  cases B3 with
  | true =>
    simp only [go_sem, Nat.reduceEqDiff, reduceCtorEq, Nat.reduceAdd, Nat.reduceLeDiff, Nat.reduceMul, Nat.reduceLT, Int.reduceToNat, Int.reduceLT, Int.reduceLE, Int.reduceEq, Nat.reduceSub]
    refine call_skip ?_
    simp only [go_sem, Nat.reduceEqDiff, reduceCtorEq, Nat.reduceAdd, Nat.reduceLeDiff, Nat.reduceMul, Nat.reduceLT, Int.reduceToNat, Int.reduceLT, Int.reduceLE, Int.reduceEq, Nat.reduceSub]
    refine call_by hal ?_
    simp only [go_sem, Nat.reduceEqDiff, reduceCtorEq, Nat.reduceAdd, Nat.reduceLeDiff, Nat.reduceMul, Nat.reduceLT, Int.reduceToNat, Int.reduceLT, Int.reduceLE, Int.reduceEq, Nat.reduceSub, hrs]
  | false =>
  simp only [go_sem, Nat.reduceEqDiff, reduceCtorEq, Nat.reduceAdd, Nat.reduceLeDiff, Nat.reduceMul, Nat.reduceLT, Int.reduceToNat, Int.reduceLT, Int.reduceLE, Int.reduceEq, Nat.reduceSub, List.length_map, drop_cells]
  refine call_by hd ?_
  cases B4 with
  | true =>
    simp only [go_sem, Nat.reduceEqDiff, reduceCtorEq, Nat.reduceAdd, Nat.reduceLeDiff, Nat.reduceMul, Nat.reduceLT, Int.reduceToNat, Int.reduceLT, Int.reduceLE, Int.reduceEq, Nat.reduceSub, hB4]
    refine call_by hal ?_
    simp only [go_sem, Nat.reduceEqDiff, reduceCtorEq, Nat.reduceAdd, Nat.reduceLeDiff, Nat.reduceMul, Nat.reduceLT, Int.reduceToNat, Int.reduceLT, Int.reduceLE, Int.reduceEq, Nat.reduceSub, hrs]
  | false =>
  simp only [go_sem, Nat.reduceEqDiff, reduceCtorEq, Nat.reduceAdd, Nat.reduceLeDiff, Nat.reduceMul, Nat.reduceLT, Int.reduceToNat, Int.reduceLT, Int.reduceLE, Int.reduceEq, Nat.reduceSub, hB4]
  rw [h1']
  refine seq_named fun N2 h2' => ?_
  simp only [go_sem, Nat.reduceEqDiff, reduceCtorEq, Nat.reduceAdd, Nat.reduceLeDiff, Nat.reduceMul, Nat.reduceLT, Int.reduceToNat, Int.reduceLT, Int.reduceLE, Int.reduceEq, Nat.reduceSub, List.length_map]
  intro _
  refine loop_named fun K hK => ?_
  refine loop_list holes (fun done => ∀ y ∈ done, decide ((y.params.length : Int) > 10) = false) (fun done rest => ⟨[(34, .d (.int .i64 done.length)), (33, .d (.int .i64 holes.length)), (32, .d (.lst (holes.map SHole.cells))), (1, .d (.lst (holes.map SHole.cells))), (2, .d (.lst (l.map SSol.cells))), (3, .ptr 3 0)], [(3, p.cells.map .d)], []⟩) ?_ (by simp) ?_ ?_
  · exact Ent_plain (by simp only [go_sem, Nat.reduceEqDiff, reduceCtorEq, Nat.reduceAdd, Nat.reduceLeDiff, Nat.reduceMul, Nat.reduceLT, Int.reduceToNat, Int.reduceLT, Int.reduceLE, Int.reduceEq, Nat.reduceSub, Option.isSome_some])
  · intro done h r hlh hI
    have hlt := lt_mid hlh
    have hw : IntKind.i64.wrap ((done.length : Int) + 1) = ((done.length + 1 : Nat) : Int) := wrap_succ (by omega)
    have hgeth : (holes.map SHole.cells).getD done.length [] = [.str h.name, .lst (h.params.map SVar.cells)] := getD_at hlh
    simp only [fn_l07_PredFills_L2, go_sem, Nat.reduceEqDiff, reduceCtorEq, Nat.reduceAdd, Nat.reduceLeDiff, Nat.reduceMul, Nat.reduceLT, Int.reduceToNat, Int.reduceLT, Int.reduceLE, Int.reduceEq, Nat.reduceSub, hlt, hgeth, List.length_map]
    intro _
    cases c0 : decide ((h.params.length : Int) > 10) with
    | true =>
      simp only [go_sem, Nat.reduceEqDiff, reduceCtorEq, Nat.reduceAdd, Nat.reduceLeDiff, Nat.reduceMul, Nat.reduceLT, Int.reduceToNat, Int.reduceLT, Int.reduceLE, Int.reduceEq, Nat.reduceSub]
      refine call_by hal ?_
      simp only [go_sem, Nat.reduceEqDiff, reduceCtorEq, Nat.reduceAdd, Nat.reduceLeDiff, Nat.reduceMul, Nat.reduceLT, Int.reduceToNat, Int.reduceLT, Int.reduceLE, Int.reduceEq, Nat.reduceSub, hK, hrs]
    | false =>
      simp only [go_sem, Nat.reduceEqDiff, reduceCtorEq, Nat.reduceAdd, Nat.reduceLeDiff, Nat.reduceMul, Nat.reduceLT, Int.reduceToNat, Int.reduceLT, Int.reduceLE, Int.reduceEq, Nat.reduceSub, hw, List.length_append]
      exact ⟨Ent_plain (by simp only [go_sem, Nat.reduceEqDiff, reduceCtorEq, Nat.reduceAdd, Nat.reduceLeDiff, Nat.reduceMul, Nat.reduceLT, Int.reduceToNat, Int.reduceLT, Int.reduceLE, Int.reduceEq, Nat.reduceSub, Option.isSome_some]), app_all hI c0⟩
  · intro hI
    have hh : ∀ h ∈ holes, Small h.params.length := fun h hm => by
      have := of_decide_eq_false (hI h hm)
      unfold Small; omega
    have h1 := h1 hh
    have h2 := h2 hh
    simp only [fn_l07_PredFills_L2, go_sem, Nat.reduceEqDiff, reduceCtorEq, Nat.reduceAdd, Nat.reduceLeDiff, Nat.reduceMul, Nat.reduceLT, Int.reduceToNat, Int.reduceLT, Int.reduceLE, Int.reduceEq, Nat.reduceSub, hK]
    rw [h2']
    refine seq_named fun N3 h3' => ?_
    simp only [go_sem, Nat.reduceEqDiff, reduceCtorEq, Nat.reduceAdd, Nat.reduceLeDiff, Nat.reduceMul, Nat.reduceLT, Int.reduceToNat, Int.reduceLT, Int.reduceLE, Int.reduceEq, Nat.reduceSub, List.length_map]
    intro _
    refine loop_named fun K2 hK2 => ?_
    refine loop_list l (fun done => ∀ y ∈ done, decide (y.pred.nodes > 10) = false) (fun done rest => ⟨[(46, .d (.int .i64 done.length)), (45, .d (.int .i64 l.length)), (44, .d (.lst (l.map SSol.cells))), (1, .d (.lst (holes.map SHole.cells))), (2, .d (.lst (l.map SSol.cells))), (3, .ptr 3 0)], [(3, p.cells.map .d)], []⟩) ?_ (by simp) ?_ ?_
    · exact Ent_plain (by simp only [go_sem, Nat.reduceEqDiff, reduceCtorEq, Nat.reduceAdd, Nat.reduceLeDiff, Nat.reduceMul, Nat.reduceLT, Int.reduceToNat, Int.reduceLT, Int.reduceLE, Int.reduceEq, Nat.reduceSub, Option.isSome_some])
    · intro done k r hl' hI2
      have hlt := lt_mid hl'
      have hw : IntKind.i64.wrap ((done.length : Int) + 1) = ((done.length + 1 : Nat) : Int) := wrap_succ (by omega)
      obtain ⟨t, so, ss, sn, sks⟩ := k
      have hnk := hn (.mk so ss sn sks)
      have hget : (l.map SSol.cells).getD done.length [] = [.str t, .int .i64 so, .str ss, .int .i64 sn, .lst (sks.map Pred.cells)] := by rw [← SSol.cells_mk]; exact getD_at hl'
      rw [Pred.cells_eq (.mk so ss sn sks)] at hnk
      simp only [Pred.op, Pred.name, Pred.n, Pred.kids] at hnk
      simp only [fn_l07_PredFills_L1, go_sem, Nat.reduceEqDiff, reduceCtorEq, Nat.reduceAdd, Nat.reduceLeDiff, Nat.reduceMul, Nat.reduceLT, Int.reduceToNat, Int.reduceLT, Int.reduceLE, Int.reduceEq, Nat.reduceSub, hlt, hget]
      refine call_by hnk ?_
      cases c0 : decide ((Pred.mk so ss sn sks).nodes > 10) with
      | true =>
        simp only [go_sem, Nat.reduceEqDiff, reduceCtorEq, Nat.reduceAdd, Nat.reduceLeDiff, Nat.reduceMul, Nat.reduceLT, Int.reduceToNat, Int.reduceLT, Int.reduceLE, Int.reduceEq, Nat.reduceSub, c0]
        refine call_by hal ?_
        simp only [go_sem, Nat.reduceEqDiff, reduceCtorEq, Nat.reduceAdd, Nat.reduceLeDiff, Nat.reduceMul, Nat.reduceLT, Int.reduceToNat, Int.reduceLT, Int.reduceLE, Int.reduceEq, Nat.reduceSub, hK2, hrs]
      | false =>
        simp only [go_sem, Nat.reduceEqDiff, reduceCtorEq, Nat.reduceAdd, Nat.reduceLeDiff, Nat.reduceMul, Nat.reduceLT, Int.reduceToNat, Int.reduceLT, Int.reduceLE, Int.reduceEq, Nat.reduceSub, c0, hw, List.length_append]
        exact ⟨Ent_plain (by simp only [go_sem, Nat.reduceEqDiff, reduceCtorEq, Nat.reduceAdd, Nat.reduceLeDiff, Nat.reduceMul, Nat.reduceLT, Int.reduceToNat, Int.reduceLT, Int.reduceLE, Int.reduceEq, Nat.reduceSub, Option.isSome_some]), app_all hI2 c0⟩
    · intro hI2
      have hW := key rfl rfl hI2
      have h4 := h4 (by omega)
      have h5 := h5 (by omega)
      generalize innerP 5 W [] = V at *
      simp only [fn_l07_PredFills_L1, go_sem, Nat.reduceEqDiff, reduceCtorEq, Nat.reduceAdd, Nat.reduceLeDiff, Nat.reduceMul, Nat.reduceLT, Int.reduceToNat, Int.reduceLT, Int.reduceLE, Int.reduceEq, Nat.reduceSub, hK2]
      rw [h3']
      refine seq_named fun N4 h4' => ?_
      simp only [go_sem, Nat.reduceEqDiff, reduceCtorEq, Nat.reduceAdd, Nat.reduceLeDiff, Nat.reduceMul, Nat.reduceLT, Int.reduceToNat, Int.reduceLT, Int.reduceLE, Int.reduceEq, Nat.reduceSub, List.length_map, drop_cells]
      refine call_by h1 ?_
      simp only [go_sem, Nat.reduceEqDiff, reduceCtorEq, Nat.reduceAdd, Nat.reduceLeDiff, Nat.reduceMul, Nat.reduceLT, Int.reduceToNat, Int.reduceLT, Int.reduceLE, Int.reduceEq, Nat.reduceSub, List.length_map, drop_cells]
      rw [h4']
      refine seq_named fun N5 h5' => ?_
      simp only [go_sem, Nat.reduceEqDiff, reduceCtorEq, Nat.reduceAdd, Nat.reduceLeDiff, Nat.reduceMul, Nat.reduceLT, Int.reduceToNat, Int.reduceLT, Int.reduceLE, Int.reduceEq, Nat.reduceSub, List.length_map, drop_cells]
      refine call_by h6 ?_
      cases c0 : decide (W.nodes > 20000) with
      | true =>
        simp only [go_sem, Nat.reduceEqDiff, reduceCtorEq, Nat.reduceAdd, Nat.reduceLeDiff, Nat.reduceMul, Nat.reduceLT, Int.reduceToNat, Int.reduceLT, Int.reduceLE, Int.reduceEq, Nat.reduceSub, c0]
        refine call_by hal ?_
        simp only [go_sem, Nat.reduceEqDiff, reduceCtorEq, Nat.reduceAdd, Nat.reduceLeDiff, Nat.reduceMul, Nat.reduceLT, Int.reduceToNat, Int.reduceLT, Int.reduceLE, Int.reduceEq, Nat.reduceSub, hrs]
      | false =>
        simp only [go_sem, Nat.reduceEqDiff, reduceCtorEq, Nat.reduceAdd, Nat.reduceLeDiff, Nat.reduceMul, Nat.reduceLT, Int.reduceToNat, Int.reduceLT, Int.reduceLE, Int.reduceEq, Nat.reduceSub, c0]
        rw [h5']
        refine seq_named fun N6 h6' => ?_
        simp only [go_sem, Nat.reduceEqDiff, reduceCtorEq, Nat.reduceAdd, Nat.reduceLeDiff, Nat.reduceMul, Nat.reduceLT, Int.reduceToNat, Int.reduceLT, Int.reduceLE, Int.reduceEq, Nat.reduceSub, List.length_map, drop_cells]
        refine call_by h2 ?_
        simp only [go_sem, Nat.reduceEqDiff, reduceCtorEq, Nat.reduceAdd, Nat.reduceLeDiff, Nat.reduceMul, Nat.reduceLT, Int.reduceToNat, Int.reduceLT, Int.reduceLE, Int.reduceEq, Nat.reduceSub, List.length_map, drop_cells]
        rw [h6']
        simp only [go_sem, Nat.reduceEqDiff, reduceCtorEq, Nat.reduceAdd, Nat.reduceLeDiff, Nat.reduceMul, Nat.reduceLT, Int.reduceToNat, Int.reduceLT, Int.reduceLE, Int.reduceEq, Nat.reduceSub, List.length_map, drop_cells]
        refine call_by h3 ?_
        simp only [go_sem, Nat.reduceEqDiff, reduceCtorEq, Nat.reduceAdd, Nat.reduceLeDiff, Nat.reduceMul, Nat.reduceLT, Int.reduceToNat, Int.reduceLT, Int.reduceLE, Int.reduceEq, Nat.reduceSub, List.length_map, drop_cells]
        refine call_by h4 ?_
        simp only [go_sem, Nat.reduceEqDiff, reduceCtorEq, Nat.reduceAdd, Nat.reduceLeDiff, Nat.reduceMul, Nat.reduceLT, Int.reduceToNat, Int.reduceLT, Int.reduceLE, Int.reduceEq, Nat.reduceSub, List.length_map, drop_cells]
        refine call_by h5 ?_
        simp only [go_sem, Nat.reduceEqDiff, reduceCtorEq, Nat.reduceAdd, Nat.reduceLeDiff, Nat.reduceMul, Nat.reduceLT, Int.reduceToNat, Int.reduceLT, Int.reduceLE, Int.reduceEq, Nat.reduceSub, List.length_map, beq_self_eq_true]
        refine call_by hal ?_
        simp only [go_sem, Nat.reduceEqDiff, reduceCtorEq, Nat.reduceAdd, Nat.reduceLeDiff, Nat.reduceMul, Nat.reduceLT, Int.reduceToNat, Int.reduceLT, Int.reduceLE, Int.reduceEq, Nat.reduceSub, hrs]
end Go.Abs
end
