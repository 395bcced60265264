/-
  CONTRACTS: what the functions answer, as plain Lean functions, each by evaluation at the abstract machine.
-/
import Derived.Test.YtehngpkgdcnkiaaGreatDoorCon2
set_option linter.unusedSimpArgs false
set_option linter.unusedVariables false
set_option linter.unusedSectionVars false
set_option maxRecDepth 100000
section
namespace Go.Abs
def hornC : List D := [.lst [[.str [108, 101, 110], .lst [[.str [76, 105, 115, 116]]], .str [73, 110, 116]]], .lst [], .lst [oblN, [.lst [[.str [120], .str [73, 110, 116]], [.str [114, 101, 115, 116], .str [76, 105, 115, 116]]], .lst (hypsL.map Pred.cells), .int .i64 13, .str [], .int .i64 0, .lst [(pn 0).cells, lenB.cells], .int .i64 1]]]
theorem data_lists : dataS [76, 105, 115, 116] listsM.datas = (listD, true) := by rfl
theorem cas_nil : findCas lenM.cases [78, 105, 108] = (casNil, true) := by rfl
theorem cas_cons : findCas lenM.cases [67, 111, 110, 115] = (casCons, true) := by rfl
theorem lenI_nz : lenI.same zeroP = false := by kernel_rfl
variable {E : AEnv} (Z : Sys E)
include Z
set_option maxHeartbeats 4000000 in
theorem measure_Obligations_lists (hE : ∀ (m : Mod), MBig m → ∀ (value : Pred) (s : Str), Tame value → E.C measure_Invariants [.agg m.cells, .agg value.cells, .one (.str s)] (.agg (invS m value s).cells)) : E.C measure_Obligations [.agg listsM.cells] (.agg hornC) := by
 have h1 := oblN_ev Z
 have h2 := oblC_ev Z hE
 have hd := syntax_Data_ev Z listsM [76, 105, 115, 116]
 rw [data_lists] at hd
 have hc1 := measure_caseOf_ev Z lenM [78, 105, 108]
 rw [cas_nil] at hc1
 have hc2 := measure_caseOf_ev Z lenM [67, 111, 110, 115]
 rw [cas_cons] at hc2
 have hz := pred_Same_ev Z lenI zeroP
 rw [lenI_nz, lenI_cells, zeroP_cells4] at hz
 have w1 : IntKind.i64.wrap (0 + 1) = 1 := by kernel_rfl
 have w2 : IntKind.i64.wrap (1 + 1) = 2 := by kernel_rfl
 refine Z.measure_Obligations _ _ ⟨Nat.le_of_ble_eq_true rfl, ?_⟩
 unfold hornC
 unfold oblN at h1 ⊢
 unfold oblC4 at h2
 simp only [listsM_cells, lenM_cells, listD_cells, conNil_cells, conCons_cells] at h1 h2 hd hc1 hc2 ⊢
 generalize hy : D.lst (hypsL.map Pred.cells) = hyp at *
 generalize hlc : D.lst [casNil.cells, casCons.cells] = lc at *
 generalize hb2 : D.lst [(pn 0).cells, (pv [118]).cells] = b2 at *
 generalize hk1 : D.lst [[D.str [120]], [D.str [114, 101, 115, 116]]] = k1 at *
 generalize hk2 : D.lst [tyIC, tyLC] = k2 at *
 generalize hq1 : D.lst [(pn 0).cells, (pn 0).cells] = q1 at *
 generalize hq2 : D.lst [(pn 0).cells, lenB.cells] = q2 at *
 obtain ⟨a0, a1, a2, a3, a4, a5, ha⟩ := cells6 (l := casNil.cells) (Cas.cells_length _)
 obtain ⟨b0, b1, b3, b4, b5, b6, hb⟩ := cells6 (l := casCons.cells) (Cas.cells_length _)
 rw [ha] at h1 hc1
 rw [hb] at h2 hc2
 clear ha hb hy hlc hb2 hk1 hk2 hq1 hq2
 simp only [fn_measure_Obligations, go_sem, List.length_nil, List.length_cons, Int.natCast_zero, Int.reduceBEq, Int.reduceBNe, Int.cast_ofNat_Int, Nat.reducePow, ge_iff_le, Int.reduceLE, Int.reduceGE, Int.reduceLT, decide_false, decide_true, Nat.reduceBEq, Bool.not_true, Bool.not_false, beq_self_eq_true, bne_self_eq_false, List.mem_singleton, forall_eq, List.mem_cons, List.not_mem_nil, or_false, forall_eq_or_imp, w1, w2]
 refine awp_round (s1 := ⟨[(18, .d (.int .i64 0)), (17, .d (.int .i64 1)), (16, .d (.lst [[.str [108, 101, 110], .str [76, 105, 115, 116], .str [73, 110, 116], lc, .int .i64 13, .str [], .int .i64 0, b2]])), (1, .ptr 1 0), (2, .ptr 2 0), (3, .ptr 3 0)], [(1, [.d (.lst [[.str [76, 105, 115, 116], .lst [], .lst [], .lst [[.str [78, 105, 108], .lst [], .lst []], [.str [67, 111, 110, 115], k1, k2]]]]), .d (.lst []), .d (.lst []), .d (.lst [[.str [108, 101, 110], .str [76, 105, 115, 116], .str [73, 110, 116], lc, .int .i64 13, .str [], .int .i64 0, b2]]), .d (.lst []), .d (.lst [])]), (2, [.full [], .full [], .full []]), (3, [.full [], .full [], .full []])], []⟩) ?_ ?_
 ·exact Ent_plain (by simp only [go_sem, Option.isSome_some])
 simp only [fn_measure_Obligations_L3, go_sem, List.length_nil, List.length_cons, Int.natCast_zero, Int.reduceBEq, Int.reduceBNe, Int.cast_ofNat_Int, Nat.reducePow, ge_iff_le, Int.reduceLE, Int.reduceGE, Int.reduceLT, decide_false, decide_true, Nat.reduceBEq, Bool.not_true, Bool.not_false, beq_self_eq_true, bne_self_eq_false, List.mem_singleton, forall_eq, List.mem_cons, List.not_mem_nil, or_false, forall_eq_or_imp, w1, w2]
 refine awp_round (s1 := ⟨[(18, .d (.int .i64 1)), (17, .d (.int .i64 1)), (16, .d (.lst [[.str [108, 101, 110], .str [76, 105, 115, 116], .str [73, 110, 116], lc, .int .i64 13, .str [], .int .i64 0, b2]])), (1, .ptr 1 0), (2, .ptr 2 0), (3, .ptr 3 0)], [(1, [.d (.lst [[.str [76, 105, 115, 116], .lst [], .lst [], .lst [[.str [78, 105, 108], .lst [], .lst []], [.str [67, 111, 110, 115], k1, k2]]]]), .d (.lst []), .d (.lst []), .d (.lst [[.str [108, 101, 110], .str [76, 105, 115, 116], .str [73, 110, 116], lc, .int .i64 13, .str [], .int .i64 0, b2]]), .d (.lst []), .d (.lst [])]), (2, [.full [], .full [], .full []]), (3, [.own 1 3 [[.str [108, 101, 110], .lst [[.str [76, 105, 115, 116]]], .str [73, 110, 116]]], .full [], .full []])], [(1, true)]⟩) ?_ ?_
 ·exact Ent_own [(1, 33)] (by simp only [go_sem, List.contains_nil, List.contains_cons, Nat.reduceBEq, Option.isSome_some, w1, w2])
 simp only [fn_measure_Obligations_L3, go_sem, List.length_nil, List.length_cons, Int.natCast_zero, Int.reduceBEq, Int.reduceBNe, Int.cast_ofNat_Int, Nat.reducePow, ge_iff_le, Int.reduceLE, Int.reduceGE, Int.reduceLT, decide_false, decide_true, Nat.reduceBEq, Bool.not_true, Bool.not_false, beq_self_eq_true, bne_self_eq_false, List.mem_singleton, forall_eq, List.mem_cons, List.not_mem_nil, or_false, forall_eq_or_imp, w1, w2]
 refine awp_round (s1 := ⟨[(39, .d (.int .i64 0)), (38, .d (.int .i64 1)), (37, .d (.lst [[.str [108, 101, 110], .str [76, 105, 115, 116], .str [73, 110, 116], lc, .int .i64 13, .str [], .int .i64 0, b2]])), (1, .ptr 1 0), (2, .ptr 2 0), (3, .ptr 3 0)], [(1, [.d (.lst [[.str [76, 105, 115, 116], .lst [], .lst [], .lst [[.str [78, 105, 108], .lst [], .lst []], [.str [67, 111, 110, 115], k1, k2]]]]), .d (.lst []), .d (.lst []), .d (.lst [[.str [108, 101, 110], .str [76, 105, 115, 116], .str [73, 110, 116], lc, .int .i64 13, .str [], .int .i64 0, b2]]), .d (.lst []), .d (.lst [])]), (2, [.full [], .full [], .full []]), (3, [.own 1 3 [[.str [108, 101, 110], .lst [[.str [76, 105, 115, 116]]], .str [73, 110, 116]]], .full [], .full []])], [(1, true)]⟩) ?_ ?_
 ·exact Ent_own [(1, 1)] (by simp only [go_sem, List.contains_nil, List.contains_cons, Nat.reduceBEq, Option.isSome_some, w1, w2])
 simp only [fn_measure_Obligations_L2, go_sem, List.length_nil, List.length_cons, Int.natCast_zero, Int.reduceBEq, Int.reduceBNe, Int.cast_ofNat_Int, Nat.reducePow, ge_iff_le, Int.reduceLE, Int.reduceGE, Int.reduceLT, decide_false, decide_true, Nat.reduceBEq, Bool.not_true, Bool.not_false, beq_self_eq_true, bne_self_eq_false, List.mem_singleton, forall_eq, List.mem_cons, List.not_mem_nil, or_false, forall_eq_or_imp, w1, w2]
 refine call_by hd ?_
 simp only [go_sem, List.length_nil, List.length_cons, Int.natCast_zero, Int.reduceBEq, Int.reduceBNe, Int.cast_ofNat_Int, Nat.reducePow, ge_iff_le, Int.reduceLE, Int.reduceGE, Int.reduceLT, decide_false, decide_true, Nat.reduceBEq, Bool.not_true, Bool.not_false, beq_self_eq_true, bne_self_eq_false, List.mem_singleton, forall_eq, List.mem_cons, List.not_mem_nil, or_false, forall_eq_or_imp, w1, w2]
 refine call_by hz ?_
 simp only [go_sem, List.length_nil, List.length_cons, Int.natCast_zero, Int.reduceBEq, Int.reduceBNe, Int.cast_ofNat_Int, Nat.reducePow, ge_iff_le, Int.reduceLE, Int.reduceGE, Int.reduceLT, decide_false, decide_true, Nat.reduceBEq, Bool.not_true, Bool.not_false, beq_self_eq_true, bne_self_eq_false, List.mem_singleton, forall_eq, List.mem_cons, List.not_mem_nil, or_false, forall_eq_or_imp, w1, w2]
 refine awp_round (s1 := ⟨[(61, .d (.int .i64 0)), (60, .d (.int .i64 2)), (59, .d (.lst [[.str [78, 105, 108], .lst [], .lst []], [.str [67, 111, 110, 115], k1, k2]])), (7, .ptr 7 0), (8, .ptr 8 0), (39, .d (.int .i64 0)), (38, .d (.int .i64 1)), (37, .d (.lst [[.str [108, 101, 110], .str [76, 105, 115, 116], .str [73, 110, 116], lc, .int .i64 13, .str [], .int .i64 0, b2]])), (1, .ptr 1 0), (2, .ptr 2 0), (3, .ptr 3 0)], [(1, [.d (.lst [[.str [76, 105, 115, 116], .lst [], .lst [], .lst [[.str [78, 105, 108], .lst [], .lst []], [.str [67, 111, 110, 115], k1, k2]]]]), .d (.lst []), .d (.lst []), .d (.lst [[.str [108, 101, 110], .str [76, 105, 115, 116], .str [73, 110, 116], lc, .int .i64 13, .str [], .int .i64 0, b2]]), .d (.lst []), .d (.lst [])]), (2, [.full [], .full [], .full []]), (3, [.own 1 3 [[.str [108, 101, 110], .lst [[.str [76, 105, 115, 116]]], .str [73, 110, 116]]], .full [], .full []]), (7, [.d (.str [108, 101, 110]), .d (.str [76, 105, 115, 116]), .d (.str [73, 110, 116]), .d lc, .d (.int .i64 13), .d (.str []), .d (.int .i64 0), .d b2]), (8, [.d (.str [76, 105, 115, 116]), .d (.lst []), .d (.lst []), .d (.lst [[.str [78, 105, 108], .lst [], .lst []], [.str [67, 111, 110, 115], k1, k2]])])], [(1, true)]⟩) ?_ ?_
 ·exact Ent_own [(1, 1)] (by simp only [go_sem, List.contains_nil, List.contains_cons, Nat.reduceBEq, Option.isSome_some, w1, w2])
 simp only [fn_measure_Obligations_L1, go_sem, List.length_nil, List.length_cons, Int.natCast_zero, Int.reduceBEq, Int.reduceBNe, Int.cast_ofNat_Int, Nat.reducePow, ge_iff_le, Int.reduceLE, Int.reduceGE, Int.reduceLT, decide_false, decide_true, Nat.reduceBEq, Bool.not_true, Bool.not_false, beq_self_eq_true, bne_self_eq_false, List.mem_singleton, forall_eq, List.mem_cons, List.not_mem_nil, or_false, forall_eq_or_imp, w1, w2]
 refine call_by hc1 ?_
 simp only [go_sem, List.length_nil, List.length_cons, Int.natCast_zero, Int.reduceBEq, Int.reduceBNe, Int.cast_ofNat_Int, Nat.reducePow, ge_iff_le, Int.reduceLE, Int.reduceGE, Int.reduceLT, decide_false, decide_true, Nat.reduceBEq, Bool.not_true, Bool.not_false, beq_self_eq_true, bne_self_eq_false, List.mem_singleton, forall_eq, List.mem_cons, List.not_mem_nil, or_false, forall_eq_or_imp, w1, w2]
 refine call_by h1 ?_
 simp only [go_sem, List.length_nil, List.length_cons, Int.natCast_zero, Int.reduceBEq, Int.reduceBNe, Int.cast_ofNat_Int, Nat.reducePow, ge_iff_le, Int.reduceLE, Int.reduceGE, Int.reduceLT, decide_false, decide_true, Nat.reduceBEq, Bool.not_true, Bool.not_false, beq_self_eq_true, bne_self_eq_false, List.mem_singleton, forall_eq, List.mem_cons, List.not_mem_nil, or_false, forall_eq_or_imp, w1, w2]
 refine awp_round (s1 := ⟨[(61, .d (.int .i64 1)), (60, .d (.int .i64 2)), (59, .d (.lst [[.str [78, 105, 108], .lst [], .lst []], [.str [67, 111, 110, 115], k1, k2]])), (7, .ptr 7 0), (8, .ptr 8 0), (39, .d (.int .i64 0)), (38, .d (.int .i64 1)), (37, .d (.lst [[.str [108, 101, 110], .str [76, 105, 115, 116], .str [73, 110, 116], lc, .int .i64 13, .str [], .int .i64 0, b2]])), (1, .ptr 1 0), (2, .ptr 2 0), (3, .ptr 3 0)], [(1, [.d (.lst [[.str [76, 105, 115, 116], .lst [], .lst [], .lst [[.str [78, 105, 108], .lst [], .lst []], [.str [67, 111, 110, 115], k1, k2]]]]), .d (.lst []), .d (.lst []), .d (.lst [[.str [108, 101, 110], .str [76, 105, 115, 116], .str [73, 110, 116], lc, .int .i64 13, .str [], .int .i64 0, b2]]), .d (.lst []), .d (.lst [])]), (2, [.full [], .full [], .full []]), (3, [.own 1 3 [[.str [108, 101, 110], .lst [[.str [76, 105, 115, 116]]], .str [73, 110, 116]]], .full [], .own 2 7 [[.lst [], .lst [], .int .i64 13, .str [], .int .i64 0, q1, .int .i64 0]]]), (7, [.d (.str [108, 101, 110]), .d (.str [76, 105, 115, 116]), .d (.str [73, 110, 116]), .d lc, .d (.int .i64 13), .d (.str []), .d (.int .i64 0), .d b2]), (8, [.d (.str [76, 105, 115, 116]), .d (.lst []), .d (.lst []), .d (.lst [[.str [78, 105, 108], .lst [], .lst []], [.str [67, 111, 110, 115], k1, k2]])])], [(1, true), (2, true)]⟩) ?_ ?_
 ·exact Ent_own [(1, 1), (2, 87)] (by simp only [go_sem, List.contains_nil, List.contains_cons, Nat.reduceBEq, Option.isSome_some, w1, w2])
 simp only [fn_measure_Obligations_L1, go_sem, List.length_nil, List.length_cons, Int.natCast_zero, Int.reduceBEq, Int.reduceBNe, Int.cast_ofNat_Int, Nat.reducePow, ge_iff_le, Int.reduceLE, Int.reduceGE, Int.reduceLT, decide_false, decide_true, Nat.reduceBEq, Bool.not_true, Bool.not_false, beq_self_eq_true, bne_self_eq_false, List.mem_singleton, forall_eq, List.mem_cons, List.not_mem_nil, or_false, forall_eq_or_imp, w1, w2]
 refine call_by hc2 ?_
 simp only [go_sem, List.length_nil, List.length_cons, Int.natCast_zero, Int.reduceBEq, Int.reduceBNe, Int.cast_ofNat_Int, Nat.reducePow, ge_iff_le, Int.reduceLE, Int.reduceGE, Int.reduceLT, decide_false, decide_true, Nat.reduceBEq, Bool.not_true, Bool.not_false, beq_self_eq_true, bne_self_eq_false, List.mem_singleton, forall_eq, List.mem_cons, List.not_mem_nil, or_false, forall_eq_or_imp, w1, w2]
 refine call_by h2 ?_
 simp only [go_sem, List.length_nil, List.length_cons, Int.natCast_zero, Int.reduceBEq, Int.reduceBNe, Int.cast_ofNat_Int, Nat.reducePow, ge_iff_le, Int.reduceLE, Int.reduceGE, Int.reduceLT, decide_false, decide_true, Nat.reduceBEq, Bool.not_true, Bool.not_false, beq_self_eq_true, bne_self_eq_false, List.mem_singleton, forall_eq, List.mem_cons, List.not_mem_nil, or_false, forall_eq_or_imp, w1, w2]
 refine awp_round (s1 := ⟨[(61, .d (.int .i64 2)), (60, .d (.int .i64 2)), (59, .d (.lst [[.str [78, 105, 108], .lst [], .lst []], [.str [67, 111, 110, 115], k1, k2]])), (7, .ptr 7 0), (8, .ptr 8 0), (39, .d (.int .i64 0)), (38, .d (.int .i64 1)), (37, .d (.lst [[.str [108, 101, 110], .str [76, 105, 115, 116], .str [73, 110, 116], lc, .int .i64 13, .str [], .int .i64 0, b2]])), (1, .ptr 1 0), (2, .ptr 2 0), (3, .ptr 3 0)], [(1, [.d (.lst [[.str [76, 105, 115, 116], .lst [], .lst [], .lst [[.str [78, 105, 108], .lst [], .lst []], [.str [67, 111, 110, 115], k1, k2]]]]), .d (.lst []), .d (.lst []), .d (.lst [[.str [108, 101, 110], .str [76, 105, 115, 116], .str [73, 110, 116], lc, .int .i64 13, .str [], .int .i64 0, b2]]), .d (.lst []), .d (.lst [])]), (2, [.full [], .full [], .full []]), (3, [.own 1 3 [[.str [108, 101, 110], .lst [[.str [76, 105, 115, 116]]], .str [73, 110, 116]]], .full [], .own 2 7 [[.lst [], .lst [], .int .i64 13, .str [], .int .i64 0, q1, .int .i64 0], [.lst [[.str [120], .str [73, 110, 116]], [.str [114, 101, 115, 116], .str [76, 105, 115, 116]]], hyp, .int .i64 13, .str [], .int .i64 0, q2, .int .i64 1]]]), (7, [.d (.str [108, 101, 110]), .d (.str [76, 105, 115, 116]), .d (.str [73, 110, 116]), .d lc, .d (.int .i64 13), .d (.str []), .d (.int .i64 0), .d b2]), (8, [.d (.str [76, 105, 115, 116]), .d (.lst []), .d (.lst []), .d (.lst [[.str [78, 105, 108], .lst [], .lst []], [.str [67, 111, 110, 115], k1, k2]])])], [(1, true), (2, true)]⟩) ?_ ?_
 ·exact Ent_own [(1, 1), (2, 87)] (by simp only [go_sem, List.contains_nil, List.contains_cons, Nat.reduceBEq, Option.isSome_some, w1, w2])
 simp only [fn_measure_Obligations_L1, go_sem, List.length_nil, List.length_cons, Int.natCast_zero, Int.reduceBEq, Int.reduceBNe, Int.cast_ofNat_Int, Nat.reducePow, ge_iff_le, Int.reduceLE, Int.reduceGE, Int.reduceLT, decide_false, decide_true, Nat.reduceBEq, Bool.not_true, Bool.not_false, beq_self_eq_true, bne_self_eq_false, List.mem_singleton, forall_eq, List.mem_cons, List.not_mem_nil, or_false, forall_eq_or_imp, w1, w2]
 refine awp_round (s1 := ⟨[(39, .d (.int .i64 1)), (38, .d (.int .i64 1)), (37, .d (.lst [[.str [108, 101, 110], .str [76, 105, 115, 116], .str [73, 110, 116], lc, .int .i64 13, .str [], .int .i64 0, b2]])), (1, .ptr 1 0), (2, .ptr 2 0), (3, .ptr 3 0)], [(1, [.d (.lst [[.str [76, 105, 115, 116], .lst [], .lst [], .lst [[.str [78, 105, 108], .lst [], .lst []], [.str [67, 111, 110, 115], k1, k2]]]]), .d (.lst []), .d (.lst []), .d (.lst [[.str [108, 101, 110], .str [76, 105, 115, 116], .str [73, 110, 116], lc, .int .i64 13, .str [], .int .i64 0, b2]]), .d (.lst []), .d (.lst [])]), (2, [.full [], .full [], .full []]), (3, [.own 1 3 [[.str [108, 101, 110], .lst [[.str [76, 105, 115, 116]]], .str [73, 110, 116]]], .full [], .own 2 7 [[.lst [], .lst [], .int .i64 13, .str [], .int .i64 0, q1, .int .i64 0], [.lst [[.str [120], .str [73, 110, 116]], [.str [114, 101, 115, 116], .str [76, 105, 115, 116]]], hyp, .int .i64 13, .str [], .int .i64 0, q2, .int .i64 1]]])], [(1, true), (2, true)]⟩) ?_ ?_
 ·exact Ent_own [(1, 1), (2, 2)] (by simp only [go_sem, List.contains_nil, List.contains_cons, Nat.reduceBEq, Option.isSome_some, w1, w2])
 simp only [fn_measure_Obligations_L2, go_sem, List.length_nil, List.length_cons, Int.natCast_zero, Int.reduceBEq, Int.reduceBNe, Int.cast_ofNat_Int, Nat.reducePow, ge_iff_le, Int.reduceLE, Int.reduceGE, Int.reduceLT, decide_false, decide_true, Nat.reduceBEq, Bool.not_true, Bool.not_false, beq_self_eq_true, bne_self_eq_false, List.mem_singleton, forall_eq, List.mem_cons, List.not_mem_nil, or_false, forall_eq_or_imp, w1, w2]
end Go.Abs
end
section
namespace Go.Abs
theorem inv_len (l : List Meas) (value : Pred) : (l.filterMap (inv1 value)).length ≤ l.length := List.length_filterMap_le _ _
variable {E : AEnv} (Z : Sys E)
include Z
set_option maxHeartbeats 4000000 in
theorem measure_Invariants_ev (m : Mod) (hm : MBig m) (value : Pred) (s : Str) (hv : Tame value) : E.C measure_Invariants [.agg m.cells, .agg value.cells, .one (.str s)] (.agg (invS m value s).cells) := by
 have hml := hm.len
 have hdat := syntax_Data_ev Z m s
 have h0 := pred_And_ev Z [] (by simp)
 have htag := measure_app_ev Z sTag value
 have happ := fun s => measure_app_ev Z s value
 have hnum := fun n => measure_number_ev Z n
 have hop := fun o a b => measure_op_ev Z o a b
 have hsame := fun p => pred_Same_ev Z p zeroP
 have hsub : ∀ x ∈ m.meas, E.C pred_Subst [.agg x.inv.cells, .one (.str sV), .agg (papp x.name [value]).cells] (.agg (subAll [sV] [papp x.name [value]] x.inv).cells) := fun x hx => pred_Subst_ev Z sV (papp x.name [value]) x.inv (tame_papp hv) (hm.tinv hx)
 have hand : ∀ dn k, E.C pred_And [.one (.lst ((invL (ofData m dn) value k).map Pred.cells))] (.agg (andP (invL (ofData m dn) value k)).cells) := fun dn k => pred_And_ev Z _ (fun p hp _ => inv_tame hm hv (fun x hx => ofData_mem hx) k p hp)
 refine Z.measure_Invariants _ _ ⟨Nat.le_of_ble_eq_true rfl, ?_⟩
 generalize hR : invS m value s = R
 unfold invS at hR
 simp only [fn_measure_Invariants, Mod.cells, go_sem]
 have hpl : ∀ p : Pred, p.cells.length = 4 := Pred.cells_length
 obtain ⟨v0, v1, v2, v3, hvc⟩ := cells4 (Pred.cells_length value)
 simp only [hvc] at htag happ ⊢
 simp only [go_sem]
 refine call_by hdat ?_
 generalize dataS s m.datas = C at *
 obtain ⟨⟨dn, dv, dp, dc⟩, known⟩ := C
 simp only [go_sem, DataT.cells] at hR ⊢
 cases known with
 | false =>
  simp only [Bool.false_eq_true, if_false] at hR
  simp only [go_sem]
  refine call_by h0 ?_
  simp only [go_sem, hpl, List.length_map, hR]
 | true =>
 simp only [if_true] at hR
 simp only [go_sem]
 intro hml2
 refine loop_list m.meas (fun _ => True) (fun done rest => ⟨[(25, .d (.int .i64 done.length)), (24, .d (.int .i64 m.meas.length)), (23, .d (.lst (m.meas.map Meas.cells))), (9, .own 9 4 (((done.filter fun x => x.data == dn).filterMap (inv1 value)).map Pred.cells)), (7, .ptr 7 0), (4, .ptr 4 0), (6, .ptr 6 0)], [(4, [.d v0, .d v1, .d v2, .d v3]), (7, [.d (.str dn), .d dv, .d dp, .d (.lst (dc.map ConT.cells))]), (6, [.d (.int .i64 0), .d (.str []), .d (.int .i64 0), .full []])], [(9, true)]⟩) ?_ trivial ?_ ?_
 ·refine Ent_conv 9 9 4 [] [(9, 9)] (by simp only [go_sem]) (by simp) (by simp only [go_sem]) ?_
  simp only [Ent0, go_sem, List.contains_nil, Option.isSome_some, List.filter_nil, List.filterMap_nil, List.map_nil]
 ·intro done x r hl _
  have hlt := lt_mid hl
  have hgk := getD_at (f := Meas.cells) (d := []) hl
  have hxm : x ∈ m.meas := mem_at' hl
  have hdl : done.length ≤ m.meas.length := by rw [hl]; simp
  have hel := inv_len (done.filter fun x => x.data == dn) value
  have hfl : (done.filter fun x => x.data == dn).length ≤ done.length := List.length_filter_le _ _
  have hw : IntKind.i64.wrap ((done.length : Int) + 1) = ((done.length + 1 : Nat) : Int) := wrap_succ (by omega)
  have o1 : (((done.filter fun x => x.data == dn).filterMap (inv1 value)).length + 1) * 56 ≤ 2 ^ 46 := by omega
  have o2 : ((done.filter fun x => x.data == dn).filterMap (inv1 value)).length ≤ 9223372036854775806 := by omega
  have hsub := hsub x hxm
  have hsame := hsame x.inv
  have hsn : ((done ++ [x]).filter fun x => x.data == dn).filterMap (inv1 value) = (done.filter fun x => x.data == dn).filterMap (inv1 value) ++ (if x.data == dn then (inv1 value x).toList else []) := by
   rw [filter_snoc]
   split
   ·rw [fm_snoc]
   ·simp
  have hi1 : inv1 value x = if x.inv.same zeroP = true then none else some (subAll [sV] [papp x.name [value]] x.inv) := rfl
  rw [hsn, hi1]
  clear hsn hi1
  generalize (done.filter fun x => x.data == dn).filterMap (inv1 value) = A at *
  obtain ⟨xa, xb, xc, xl, xinv⟩ := x
  simp only at hsub hsame
  have hxc : Meas.cells ⟨xa, xb, xc, xl, xinv⟩ = .str xa :: .str xb :: .str xc :: .lst (xl.map Cas.cells) :: xinv.cells := rfl
  obtain ⟨i0, i1, i2, i3, hic⟩ := cells4 (Pred.cells_length xinv)
  rw [hxc, hic] at hgk
  rw [hic] at hsub hsame
  rw [zeroP_cells4] at hsame
  simp only
  generalize xinv.same zeroP = e at *
  generalize subAll [sV] [papp xa [value]] xinv = sp at *
  simp only [fn_measure_Invariants_L1, go_sem, hgk, hlt, List.length_map, Meas.lens]
  refine call_g hsame ?_
  simp only [go_sem]
  generalize (xb == dn) = b at *
  by_cases hc : (b && !e) = true
  ·have hc2 := hc
   rw [Bool.and_eq_true, Bool.not_eq_true'] at hc2
   obtain ⟨rfl, rfl⟩ := hc2
   simp only [go_sem]
   refine call_by (happ xa) ?_
   simp only [go_sem]
   refine call_by hsub ?_
   simp only [go_sem, hpl, o1, o2, hw, List.length_append, List.length_map, List.mem_singleton, forall_eq, cells_map_len]
   exact Ent_own [(9, 50)] (by simp only [go_sem, List.contains_nil, Option.isSome_some, if_true, Bool.false_eq_true, if_false, Option.toList_some, List.map_append, List.map_cons, List.map_nil])
  ·have hc : (b && !e) = false := by simpa only [Bool.not_eq_true] using hc
   have hnil : (if b = true then (if e = true then none else some sp).toList else []) = [] := by cases b <;> cases e <;> first | rfl | cases hc
   simp only [hc, go_sem, hw, List.length_append, hnil, List.append_nil]
   exact Ent_own [(9, 9)] (by simp only [go_sem, List.contains_nil, Option.isSome_some])
 ·intro _
  have hof : m.meas.filter (fun x => x.data == dn) = ofData m dn := rfl
  have hol := ofData_len m dn
  have hil := inv_len (ofData m dn) value
  have hand := hand dn dc.length
  unfold invL at hand hR
  rw [hof]
  generalize (ofData m dn).filterMap (inv1 value) = A at *
  have o1 : (A.length + 2) * 56 ≤ 2 ^ 46 := by omega
  have o2 : A.length ≤ 9223372036854775805 := by omega
  have htc : (papp sTag [value]).cells.length = 4 := hpl _
  generalize papp sTag [value] = tp at *
  simp only [fn_measure_Invariants_L1, ↓reduceIte, go_sem, List.length_map]
  refine call_by htag ?_
  simp only [go_sem, htc, List.length_map]
  refine call_by (hnum 0) ?_
  simp only [go_sem, htc, List.length_map]
  refine call_by (hop 13 (pn 0) tp) ?_
  simp only [go_sem, htc, List.length_map]
  refine call_by (hnum (IntKind.i64.wrap ((dc.length : Int) - 1))) ?_
  simp only [go_sem, htc, List.length_map]
  refine call_by (hop 13 tp (pn (IntKind.i64.wrap ((dc.length : Int) - 1)))) ?_
  simp only [go_sem, hpl, o1, o2, List.length_map, List.mem_cons, List.not_mem_nil, or_false, forall_eq_or_imp, forall_eq, cells_map_len, List.length_cons, List.length_nil]
  rw [List.map_append, List.map_cons, List.map_cons, List.map_nil] at hand
  refine call_by hand ?_
  simp only [go_sem, hpl, List.length_map, hR]
end Go.Abs
end
section
namespace Go.Abs
def appsI : Pred → Int
 | .mk o _ _ ks => go ks (if o == 4 then 1 else 0)
where
 go : List Pred → Int → Int
 | [], a => a
 | k :: ks, a => go ks (IntKind.i64.wrap (a + appsI k))
theorem appsI_go : ∀ (ks : List Pred) (a : Int), appsI.go ks a = ks.foldl (fun a k => IntKind.i64.wrap (a + appsI k)) a
 | [], _ => by rw [appsI.go]; rfl
 | k :: ks, a => by rw [appsI.go, appsI_go ks]; rfl
theorem appsI_mk (o : Int) (s : Str) (n : Int) (ks : List Pred) : appsI (.mk o s n ks) = ks.foldl (fun a k => IntKind.i64.wrap (a + appsI k)) (if o == 4 then 1 else 0) := by rw [appsI, appsI_go]
def lightC (c : Cas) : Bool := !(decide (c.body.nodes > 40) || decide (appsI c.body > 3))
def lightX (x : Meas) : Bool := !(decide ((x.cases.length : Int) > 8) || decide (x.inv.nodes > 40)) && x.cases.all lightC
def light34 (m : Mod) : Bool := !(decide ((m.datas.length : Int) > 8) || decide ((m.meas.length : Int) > 8)) && (m.datas.all (fun d => !decide ((d.cons.length : Int) > 8)) && m.meas.all lightX)
def maxI4 (a b : Int) : Int := if b > a then b else a
mutual
def szA : Va → Int × Int
 | .mk _ _ _ ks _ _ _ => ((szAs ks (1, 0)).1, IntKind.i64.wrap ((szAs ks (1, 0)).2 + 1))
def szAs : List Va → Int × Int → Int × Int
 | [], a => a
 | k :: ks, a => szAs ks (IntKind.i64.wrap (a.1 + (szA k).1), maxI4 a.2 (szA k).2)
end
def szAStep (a : Int × Int) (k : Va) : Int × Int := (IntKind.i64.wrap (a.1 + (szA k).1), maxI4 a.2 (szA k).2)
theorem szAs_eq : ∀ (ks : List Va) (a : Int × Int), szAs ks a = ks.foldl szAStep a
 | [], _ => by rw [szAs]; rfl
 | k :: ks, a => by rw [szAs, szAs_eq ks]; rfl
theorem szA_mk (o n : Int) (s : Str) (ks : List Va) (ps : List Str) (bd : List ExV) (bs : List BndV) : szA (.mk o n s ks ps bd bs) = ((ks.foldl szAStep (1, 0)).1, IntKind.i64.wrap ((ks.foldl szAStep (1, 0)).2 + 1)) := by rw [szA, szAs_eq]
def few34 (v : Va) : Bool := decide ((szA v).1 ≤ 30) && decide ((szA v).2 ≤ 7)
theorem allE_mid {α : Type} {l a r : List α} {x : α} {f : α → Bool} (h : l = a ++ x :: r) (hI : ∀ y ∈ a, f y = true) : l.all f = (f x && r.all f) := by
 rw [h, List.all_append, List.all_eq_true.2 hI, List.all_cons]; rfl
variable {E : AEnv} (Z : Sys E)
include Z
theorem l34_apps_ev (p : Pred) : E.C l34_apps [.agg p.cells] (.one (.int .i64 (appsI p))) := by
 induction p using Pred.ind with
 | h o s n ks ih =>
 refine Z.l34_apps _ _ ⟨Nat.le_of_ble_eq_true rfl, ?_⟩
 generalize hR : appsI (.mk o s n ks) = R
 rw [appsI_mk] at hR
 rw [Pred.cells_eq]
 simp only [fn_l34_apps, Pred.op, Pred.name, Pred.n, Pred.kids]
 refine seq3_named fun N hN => ?_
 have tail : ∀ (st : St) (k0 : Int), getS st.slots 3 = .d (.int .i64 k0) → getS st.slots 1 = .ptr 1 0 → st.mem = [(1, [.d (.int .i64 o), .d (.str s), .d (.int .i64 n), .d (.lst (ks.map Pred.cells))])] → ks.foldl (fun a k => IntKind.i64.wrap (a + appsI k)) k0 = R → N st := by
  intro st k0 h3 h1 hm hk
  obtain ⟨sl, mm, tk⟩ := st
  simp only at h3 h1 hm
  subst hm
  rw [hN]
  simp only [go_sem]
  refine loop_list ks (fun _ => True) (fun done rest => ⟨[(4, .d (.int .i64 done.length)), (3, .d (.int .i64 (done.foldl (fun a k => IntKind.i64.wrap (a + appsI k)) k0))), (1, .ptr 1 0)], [(1, [.d (.int .i64 o), .d (.str s), .d (.int .i64 n), .d (.lst (ks.map Pred.cells))])], []⟩) ?_ trivial ?_ ?_
  ·exact Ent_plain (by simp only [go_sem, Option.isSome_some, List.foldl_nil, h3, h1])
  ·intro done k r hl _
   have hlt := lt_mid hl
   have hgk := getD_midP hl
   have hk' := ih k (mem_at' hl)
   have hw : (ks.length : Int) ≤ 9223372036854775807 → IntKind.i64.wrap ((done.length : Int) + 1) = ((done.length + 1 : Nat) : Int) := fun h => wrap_succ (by omega)
   have hst : (done ++ [k]).foldl (fun a k => IntKind.i64.wrap (a + appsI k)) k0 = IntKind.i64.wrap (done.foldl (fun a k => IntKind.i64.wrap (a + appsI k)) k0 + appsI k) := by rw [List.foldl_append]; rfl
   rw [hst]
   generalize done.foldl (fun a k => IntKind.i64.wrap (a + appsI k)) k0 = A at *
   obtain ⟨i0, i1, i2, i3, hic⟩ := cells4 (Pred.cells_length k)
   rw [hic] at hgk hk'
   simp only [fn_l34_apps_L1, go_sem, hgk, hlt, List.length_map, cells_map_len]
   intro hml
   refine call_by hk' ?_
   simp only [go_sem, hw hml, List.length_append]
   exact Ent_plain (by simp only [go_sem, Option.isSome_some])
  ·intro _
   simp only [fn_l34_apps_L1, ↓reduceIte, go_sem, List.length_map, hk, implies_true]
 clear hN
 simp only [go_sem]
 cases c1 : (o == 4) with
 | true =>
  rw [c1, if_pos rfl] at hR
  simp only [go_sem]
  refine tail _ 1 ?_ ?_ ?_ hR <;> simp only [go_sem]
 | false =>
  rw [c1, if_neg (by simp)] at hR
  simp only [go_sem]
  refine tail _ 0 ?_ ?_ ?_ hR <;> simp only [go_sem]
theorem l34_size_ev (v : Va) : E.C l34_size [.agg v.cells] (.tup [.one (.int .i64 (szA v).1), .one (.int .i64 (szA v).2)]) := by
 induction v using Va.ind with
 | h o n s ks ps bd bs ih _ =>
 refine Z.l34_size _ _ ⟨Nat.le_of_ble_eq_true rfl, ?_⟩
 rw [szA_mk, Va.cells_mk]
 generalize D.lst (ps.map fun k => [D.str k]) = c4 at *
 generalize D.lst (bd.map ExV.cells) = c5 at *
 generalize D.lst (bs.map BndV.cells) = c6 at *
 simp only [fn_l34_size, go_sem, List.length_map]
 refine loop_list ks (fun _ => True) (fun done rest => ⟨[(6, .d (.int .i64 done.length)), (4, .d (.int .i64 (done.foldl szAStep (1, 0)).1)), (5, .d (.int .i64 (done.foldl szAStep (1, 0)).2)), (1, .ptr 1 0)], [(1, [.d (.int .i64 o), .d (.int .i64 n), .d (.str s), .d (.lst (ks.map Va.cells)), .d c4, .d c5, .d c6])], []⟩) ?_ trivial ?_ ?_
 ·exact Ent_plain (by simp only [go_sem, Option.isSome_some, List.foldl_nil])
 ·intro done k r hl _
  have hlt := lt_mid hl
  have hga := getD_at (f := Va.cells) (d := []) hl
  have hk := ih k (mem_at' hl)
  have hw : ∀ h : (ks.length : Int) ≤ 9223372036854775807, IntKind.i64.wrap ((done.length : Int) + 1) = ((done.length + 1 : Nat) : Int) := fun h => wrap_succ (by omega)
  have hst : (done ++ [k]).foldl szAStep (1, 0) = szAStep (done.foldl szAStep (1, 0)) k := by rw [List.foldl_append]; rfl
  obtain ⟨a0, b0, c0, d0, e0, f0, g0, hcx⟩ := cells7 (Va.cells_length k)
  rw [hcx] at hga hk
  simp only [fn_l34_size_L1, go_sem, hga, hlt, List.length_map, Va.lens]
  intro hlen
  refine call_by hk ?_
  simp only [go_sem, hga, hlt, List.length_map, hw hlen, List.length_append]
  exact Ent_plain (by simp only [go_sem, Option.isSome_some, hst, szAStep, maxI4, List.length_append])
 ·intro _
  simp only [fn_l34_size_L1, ↓reduceIte, go_sem, List.length_map, implies_true]
theorem l34_few_ev (v : Va) : E.C l34_few [.agg v.cells] (.one (.bool (few34 v))) := by
 have h := l34_size_ev Z v
 refine Z.l34_few _ _ ⟨Nat.le_of_ble_eq_true rfl, ?_⟩
 obtain ⟨a0, b0, c0, d0, e0, f0, g0, hcx⟩ := cells7 (Va.cells_length v)
 rw [hcx] at h ⊢
 unfold few34
 simp only [fn_l34_few, go_sem]
 refine call_by h ?_
 simp only [go_sem]
set_option maxHeartbeats 4000000 in
theorem l34_light_ev (m : Mod) : E.C l34_light [.agg m.cells] (.one (.bool (light34 m))) := by
 have hn := r07_Nodes_ev Z
 have hap := l34_apps_ev Z
 refine Z.l34_light _ _ ⟨Nat.le_of_ble_eq_true rfl, ?_⟩
 generalize hR : light34 m = R
 unfold light34 at hR
 obtain ⟨ds, cls, ins, ms, qs, dfs⟩ := m
 simp only [Mod.cells] at *
 simp only [fn_l34_light, go_sem, List.length_map]
 intro _ _
 cases c1 : (decide ((ds.length : Int) > 8) || decide ((ms.length : Int) > 8)) with
 | true =>
  rw [c1] at hR
  simp only [Bool.not_true, Bool.false_and] at hR
  subst hR
  simp only [go_sem]
 | false =>
 rw [c1] at hR
 simp only [Bool.not_false, Bool.true_and] at hR
 simp only [go_sem]
 refine loop_named fun K hK => ?_
 refine loop_list ds (fun done => ∀ y ∈ done, (!decide ((y.cons.length : Int) > 8)) = true) (fun done rest => ⟨[(3, .d (.int .i64 done.length)), (1, .ptr 1 0)], [(1, [.d (.lst (ds.map DataT.cells)), .d cls, .d ins, .d (.lst (ms.map Meas.cells)), .d qs, .d dfs])], []⟩) ?_ (by simp) ?_ ?_
 ·exact Ent_plain (by simp only [go_sem, Option.isSome_some])
 ·intro done d r hl hI
  have hlt := lt_mid hl
  have hga := getD_at (f := DataT.cells) (d := []) hl
  have hw : ∀ h : (ds.length : Int) ≤ 9223372036854775807, IntKind.i64.wrap ((done.length : Int) + 1) = ((done.length + 1 : Nat) : Int) := fun h => wrap_succ (by omega)
  rw [allE_mid hl hI] at hR
  simp only [DataT.cells] at hga
  simp only [fn_l34_light_L3, go_sem, hga, hlt, List.length_map, DataT.lens]
  intro hlen _
  cases c2 : decide ((d.cons.length : Int) > 8) with
  | true =>
   rw [c2] at hR
   simp only [Bool.not_true, Bool.false_and] at hR
   subst hR
   simp only [go_sem, hK]
  | false =>
   simp only [go_sem, hw hlen, List.length_append]
   exact ⟨Ent_plain (by simp only [go_sem, Option.isSome_some, List.length_append]), app_all hI (by rw [c2]; rfl)⟩
 intro hI0
 rw [List.all_eq_true.2 hI0, Bool.true_and] at hR
 simp only [fn_l34_light_L3, ↓reduceIte, go_sem, List.length_map, hK]
 intro _
 clear hK hI0
 refine loop_list ms (fun done => ∀ y ∈ done, lightX y = true) (fun done rest => ⟨[(4, .d (.int .i64 done.length)), (1, .ptr 1 0)], [(1, [.d (.lst (ds.map DataT.cells)), .d cls, .d ins, .d (.lst (ms.map Meas.cells)), .d qs, .d dfs])], []⟩) ?_ (by simp) ?_ ?_
 ·exact Ent_plain (by simp only [go_sem, Option.isSome_some])
 ·intro done x r hl hI
  have hlt := lt_mid hl
  have hga := getD_at (f := Meas.cells) (d := []) hl
  rw [allE_mid hl hI] at hR
  have hw : ∀ h : (ms.length : Int) ≤ 9223372036854775807, IntKind.i64.wrap ((done.length : Int) + 1) = ((done.length + 1 : Nat) : Int) := fun h => wrap_succ (by omega)
  have hfx : lightX x = (!(decide ((x.cases.length : Int) > 8) || decide (x.inv.nodes > 40)) && x.cases.all lightC) := rfl
  rw [hfx] at hR
  have hfx : (!(decide ((x.cases.length : Int) > 8) || decide (x.inv.nodes > 40)) && x.cases.all lightC) = true → lightX x = true := fun h => h
  have hni := hn x.inv
  obtain ⟨xn, xd, xr, xc, xi⟩ := x
  have hxc : Meas.cells ⟨xn, xd, xr, xc, xi⟩ = .str xn :: .str xd :: .str xr :: .lst (xc.map Cas.cells) :: xi.cells := rfl
  obtain ⟨i0, i1, i2, i3, hic⟩ := cells4 (Pred.cells_length xi)
  rw [hxc, hic] at hga
  simp only at *
  rw [hic] at hni
  simp only [fn_l34_light_L2, go_sem, hga, hlt, List.length_map, Meas.lens]
  intro hlen _
  refine call_g hni ?_
  simp only [go_sem]
  cases c3 : (decide ((xc.length : Int) > 8) || decide (xi.nodes > 40)) with
  | true =>
   rw [c3] at hR
   simp only [Bool.not_true, Bool.false_and] at hR
   subst hR
   simp only [go_sem]
  | false =>
  rw [c3] at hR hfx
  simp only [Bool.not_false, Bool.true_and] at hR hfx
  simp only [go_sem]
  refine loop_list xc (fun done => ∀ y ∈ done, lightC y = true) (fun done' rest => ⟨[(5, .d (.int .i64 done'.length)), (4, .d (.int .i64 done.length)), (1, .ptr 1 0)], [(1, [.d (.lst (ds.map DataT.cells)), .d cls, .d ins, .d (.lst (ms.map Meas.cells)), .d qs, .d dfs])], []⟩) ?_ (by simp) ?_ ?_
  ·exact Ent_plain (by simp only [go_sem, Option.isSome_some])
  ·intro done' c r' hl' hI'
   have hlt' := lt_mid hl'
   have hga' := getD_at (f := Cas.cells) (d := []) hl'
   rw [allE_mid hl' hI'] at hR
   have hw' : ∀ h : (xc.length : Int) ≤ 9223372036854775807, IntKind.i64.wrap ((done'.length : Int) + 1) = ((done'.length + 1 : Nat) : Int) := fun h => wrap_succ (by omega)
   have hfc : lightC c = !(decide (c.body.nodes > 40) || decide (appsI c.body > 3)) := rfl
   rw [hfc] at hR
   have hn := hn c.body
   have hap := hap c.body
   obtain ⟨cc, cn, cb⟩ := c
   have hcc : Cas.cells ⟨cc, cn, cb⟩ = .str cc :: .lst (cn.map fun k => [.str k]) :: cb.cells := rfl
   obtain ⟨b0, b1, b2, b3, hbc⟩ := cells4 (Pred.cells_length cb)
   rw [hcc, hbc] at hga'
   simp only at *
   rw [hbc] at hn hap
   simp only [fn_l34_light_L1, go_sem, hga, hga', hlt, hlt', List.length_map, Meas.lens, Cas.lens]
   intro hlen'
   refine call_by hn ?_
   simp only [go_sem, hga, hga', hlt, hlt', List.length_map, Meas.lens, Cas.lens]
   refine call_g hap ?_
   simp only [go_sem, List.length_map]
   cases hb : (decide (cb.nodes > 40) || decide (appsI cb > 3)) with
   | true =>
    rw [hb] at hR
    simp only [Bool.not_true, Bool.false_and] at hR
    subst hR
    simp only [go_sem]
   | false =>
    simp only [go_sem, hw' hlen', List.length_append]
    exact ⟨Ent_plain (by simp only [go_sem, Option.isSome_some, List.length_append]), app_all hI' (by show (!(_ || _)) = true; rw [hb]; rfl)⟩
  ·intro hI'
   simp only [fn_l34_light_L1, ↓reduceIte, go_sem, hga, hlt, List.length_map, Meas.lens, hw hlen]
   intro _
   exact ⟨Ent_plain (by simp only [go_sem, Option.isSome_some, List.length_append]), app_all hI (hfx (List.all_eq_true.2 hI'))⟩
 ·intro hI
  rw [List.all_eq_true.2 hI] at hR
  subst hR
  simp only [fn_l34_light_L2, ↓reduceIte, go_sem, List.length_map, implies_true]
end Go.Abs
end
section
namespace Go.Abs
structure Law34 (E : AEnv) : Prop where
 Z : Sys E
 hG : E.G 0 = some (kws.map .str)
 hIt : ∀ p, E.It pred_before_1 [.ref (Pred.cells p)] (yields p.pre)
 hU : UnionOwn E
 hI : ItoaLaw E
def noneV : Va := .mk 3 0 [78, 105, 108] [] [] [] []
def consV (k : Int) (v : Va) : Va := .mk 3 0 [67, 111, 110, 115] [.mk 1 k [] [] [] [] [], v] [] [] []
def cellV : Va := .mk 4 7 [] [] [] [] []
theorem noneV_cells : noneV.cells = [.int .i64 3, .int .i64 0, .str [78, 105, 108], .lst [], .lst [], .lst [], .lst []] := by unfold noneV; rw [Va.cells_mk]; rfl
theorem cellV_cells : cellV.cells = [.int .i64 4, .int .i64 7, .str [], .lst [], .lst [], .lst [], .lst []] := by unfold cellV; rw [Va.cells_mk]; rfl
theorem consV_cells (k : Int) (v : Va) : (consV k v).cells = [.int .i64 3, .int .i64 0, .str [67, 111, 110, 115], .lst [[.int .i64 1, .int .i64 k, .str [], .lst [], .lst [], .lst [], .lst []], v.cells], .lst [], .lst [], .lst []] := by
 unfold consV
 rw [Va.cells_mk, List.map_cons, List.map_cons, Va.cells_mk]
 rfl
theorem parts_cons : (consV 5 noneV).parts [] = [consV 5 noneV, noneV] := by
 have hne : eqB (consV 5 noneV) noneV = false := eqB_ne fun e => by
  have := congrArg Va.name e
  simp [consV, noneV, Va.name] at this
 have h1 : addV (consV 5 noneV) [] = [consV 5 noneV] := by simp [addV, memV, consV, Va.op]
 have h2 : ∀ l, Va.parts (.mk 1 5 [] [] [] [] []) l = l := fun l => by
  rw [Va.parts_mk]
  simp [addV, Va.op]
 have h3 : Va.parts noneV [consV 5 noneV] = [consV 5 noneV, noneV] := by
  have : noneV = .mk 3 0 [78, 105, 108] [] [] [] [] := rfl
  rw [this, Va.parts_mk, ← this]
  simp [addV, memV, hne]
  rfl
 have hc : consV 5 noneV = .mk 3 0 [67, 111, 110, 115] [.mk 1 5 [] [] [] [] [], noneV] [] [] [] := rfl
 rw [hc, Va.parts_mk, ← hc, h1, List.foldl_cons, List.foldl_cons, List.foldl_nil, h2, h3]
def f0 : Fact := ⟨[116, 97, 103], [0], 1⟩
def f1 : Fact := ⟨[108, 101, 110], [0], 1⟩
def f2 : Fact := ⟨[116, 97, 103], [1], 0⟩
def f3 : Fact := ⟨[108, 101, 110], [1], 0⟩
theorem syms_cons : symS listsM (consV 5 noneV) [] = [f0, f1, f2, f3] := by
 unfold symS
 rw [parts_cons]
 kernel_rfl
theorem syms_len : symS listsM (consV 5 noneV) [108, 101, 110] = [f1, f3] := by
 unfold symS
 rw [parts_cons]
 kernel_rfl
theorem val_len : (consV 5 noneV).val.value listsM [108, 101, 110] = (1, true) := by kernel_rfl
theorem val_tag : (consV 5 noneV).val.value listsM [116, 97, 103] = (1, true) := by kernel_rfl
theorem val_val : cellV.val.value listsM [118, 97, 108] = (7, true) := by kernel_rfl
theorem val_sum : noneV.val.value listsM [115, 117, 109] = (0, false) := by kernel_rfl
def want34 : Pred := p2 15 (p2 10 (papp [116, 97, 103] [pv [108]]) (pn 1)) (p2 10 (papp [108, 101, 110] [pv [108]]) (p2 6 (pn 1) (papp [108, 101, 110] [pv [98]])))
theorem eqns_want : eqnsS listsM [67, 111, 110, 115] [pv [97], pv [98]] (pv [108]) = want34 := by kernel_rfl
theorem inv_split : (splitP (invS listsM (pv [108]) [76, 105, 115, 116])).length = 3 := by kernel_rfl
theorem inv_cnt2 : (invS listsM (pv [108]) [76, 105, 115, 116]).cnt ≤ 1048576 := Nat.le_of_ble_eq_true (by kernel_rfl)
theorem cons_cnt : (consV 5 noneV).cnt ≤ 1048576 := Nat.le_of_ble_eq_true (by kernel_rfl)
theorem tame2 {a b : Pred} (ha : Tame a) (hb : Tame b) : ∀ t ∈ [a, b], Tame t := fun t ht => by
 rcases List.mem_cons.1 ht with rfl | ht
 ·exact ha
 ·rw [List.mem_singleton.1 ht]; exact hb
theorem Law34.value {E : AEnv} (L : Law34 E) (x : Val) (s : Str) (m : Mod) (hm : MOk m) : E.C measure_Value [.agg m.cells, .one (.str s), .agg x.cells] (res2 (x.value m s)) := measure_Value_ev L.Z L.hG L.hIt L.hU L.hI m hm x s
theorem l34_cons_ev {E : AEnv} (Z : Sys E) (k : Int) (v : Va) : E.C l34_cons [.one (.int .i64 k), .agg v.cells] (.agg (consV k v).cells) := by
 refine Z.l34_cons _ _ ⟨Nat.le_of_ble_eq_true rfl, ?_⟩
 rw [consV_cells]
 obtain ⟨a0, b0, c0, d0, e0, f0, g0, hcx⟩ := cells7 (Va.cells_length v)
 rw [hcx]
 simp only [fn_l34_cons, go_sem]
set_option maxHeartbeats 8000000 in
theorem l34_awake_ev {E : AEnv} (L : Law34 E) : E.C l34_awake [] (.one (.bool true)) := by
 have Z := L.Z
 have hE := fun m hm value s hv => measure_Invariants_ev Z m hm value s hv
 have hls := l34_lists_ev Z
 have hcs := l34_cons_ev Z 5 noneV
 have v1 := L.value (consV 5 noneV).val [108, 101, 110] listsM lists_big.ok
 have v2 := L.value (consV 5 noneV).val [116, 97, 103] listsM lists_big.ok
 have v3 := L.value cellV.val [118, 97, 108] listsM lists_big.ok
 have v4 := L.value noneV.val [115, 117, 109] listsM lists_big.ok
 rw [val_len] at v1
 rw [val_tag] at v2
 rw [val_val] at v3
 rw [val_sum] at v4
 unfold res2 at v1 v2 v3 v4
 have hs1 := measure_Symbols_ev Z L.value listsM lists_big (consV 5 noneV) cons_cnt []
 have hs2 := measure_Symbols_ev Z L.value listsM lists_big (consV 5 noneV) cons_cnt [108, 101, 110]
 rw [syms_cons] at hs1
 rw [syms_len] at hs2
 have he := measure_Equations_ev Z listsM lists_big [67, 111, 110, 115] [pv [97], pv [98]] (pv [108]) (tame2 (tame_pvX _) (tame_pvX _)) (tame_pvX _)
 rw [eqns_want] at he
 have hw := r07_Same_ev Z want34 want34
 rw [(Pred.same_iff _ _).2 rfl] at hw
 have ho := measure_Obligations_lists Z hE
 have hi := hE listsM lists_big (pv [108]) [76, 105, 115, 116] (tame_pvX _)
 have hsp := r07_Split_ev Z (invS listsM (pv [108]) [76, 105, 115, 116]) (Nat.le_trans inv_cnt2 (by omega))
 have hsl := inv_split
 have hil : (invS listsM (pv [108]) [76, 105, 115, 116]).cells.length = 4 := Pred.cells_length _
 generalize invS listsM (pv [108]) [76, 105, 115, 116] = iv at *
 have va := l34_v_ev Z [97]
 have vb := l34_v_ev Z [98]
 have vl := l34_v_ev Z [108]
 have n1 := l34_n_ev Z 1
 have a1 := l34_app_ev Z [116, 97, 103] (pv [108])
 have a2 := l34_app_ev Z [108, 101, 110] (pv [108])
 have a3 := l34_app_ev Z [108, 101, 110] (pv [98])
 have t1 := l34_two_ev Z 10 (papp [116, 97, 103] [pv [108]]) (pn 1)
 have t2 := l34_two_ev Z 6 (pn 1) (papp [108, 101, 110] [pv [98]])
 have t3 := l34_two_ev Z 10 (papp [108, 101, 110] [pv [108]]) (p2 6 (pn 1) (papp [108, 101, 110] [pv [98]]))
 have t4 := l34_two_ev Z 15 (p2 10 (papp [116, 97, 103] [pv [108]]) (pn 1)) (p2 10 (papp [108, 101, 110] [pv [108]]) (p2 6 (pn 1) (papp [108, 101, 110] [pv [98]])))
 rw [show p2 15 (p2 10 (papp [116, 97, 103] [pv [108]]) (pn 1)) (p2 10 (papp [108, 101, 110] [pv [108]]) (p2 6 (pn 1) (papp [108, 101, 110] [pv [98]]))) = want34 from rfl] at t4
 have hpl : ∀ p : Pred, p.cells.length = 4 := Pred.cells_length
 have hhl := hyps_len
 have hml : listsM.cells.length = 6 := rfl
 obtain ⟨m0, m1, m2, m3, m4, m5, hmc⟩ := cells6 (l := listsM.cells) rfl
 have hcc : (consV 5 noneV).val.cells = (consV 5 noneV).cells := rfl
 have hcn : noneV.val.cells = noneV.cells := rfl
 have hc4 : cellV.val.cells = cellV.cells := rfl
 rw [hcc] at v1 v2
 rw [hcn] at v4
 rw [hc4] at v3
 obtain ⟨x0, x1, x2, x3, x4, x5, x6, hxc⟩ := cells7 (Va.cells_length (consV 5 noneV))
 simp only [hmc, hxc, noneV_cells, cellV_cells] at hls hcs v1 v2 v3 v4 hs1 hs2 he ho hi
 unfold hornC oblN at ho
 simp only [List.map_cons, List.map_nil, f0, f1, f2, f3, Fact.cells, icell] at hs1 hs2 he
 generalize hypsL = HL at *
 generalize splitP iv = SP at *
 clear hmc hxc hcc hcn hc4 hml hE
 refine Z.l34_awake _ _ ⟨Nat.le_of_ble_eq_true rfl, ?_⟩
 simp only [fn_l34_awake, go_sem]
 repeat
  first
   | refine call_by hls ?_
   | refine call_by hcs ?_
   | refine call_by v1 ?_
   | refine call_by v2 ?_
   | refine call_by v3 ?_
   | refine call_by v4 ?_
   | refine call_by hs1 ?_
   | refine call_by hs2 ?_
   | refine call_by he ?_
   | refine call_by va ?_
   | refine call_by vb ?_
   | refine call_by vl ?_
   | refine call_by n1 ?_
   | refine call_by a1 ?_
   | refine call_by a2 ?_
   | refine call_by a3 ?_
   | refine call_by t1 ?_
   | refine call_by t2 ?_
   | refine call_by t3 ?_
   | refine call_by t4 ?_
   | refine call_by ho ?_
   | refine call_by hw ?_
   | refine call_by hi ?_
   | refine call_by hsp ?_
  try simp only [go_sem, hpl, hhl, hsl, hil, List.length_map, beq_self_eq_true, bne_self_eq_false, List.mem_cons, List.not_mem_nil, or_false, forall_eq_or_imp, forall_eq, List.length_cons, List.length_nil, Nat.reduceAdd, Nat.reduceMul, Int.reduceBEq, Int.reduceBNe, Int.cast_ofNat_Int, true_and, and_self, implies_true]
end Go.Abs
end
section
namespace Go.Abs
mutual
def Va.subs : Va → List Va
 | .mk o n s ks ps bd bs => .mk o n s ks ps bd bs :: Va.subss ks
def Va.subss : List Va → List Va
 | [] => []
 | k :: ks => Va.subs k ++ Va.subss ks
end
theorem mem_subss {z : Va} : ∀ {ks : List Va}, z ∈ Va.subss ks ↔ ∃ k ∈ ks, z ∈ k.subs
 | [] => by simp [Va.subss]
 | k :: ks => by
  rw [Va.subss, List.mem_append, mem_subss (ks := ks)]
  simp
theorem mem_subs {z : Va} {o n : Int} {s : Str} {ks : List Va} {ps : List Str} {bd : List ExV} {bs : List BndV} : z ∈ (Va.mk o n s ks ps bd bs).subs ↔ z = .mk o n s ks ps bd bs ∨ ∃ k ∈ ks, z ∈ k.subs := by
 rw [Va.subs, List.mem_cons, mem_subss]
theorem memV_iff {l : List Va} {v : Va} : memV l v = true ↔ v ∈ l := by
 unfold memV
 rw [List.any_eq_true]
 constructor
 ·rintro ⟨x, hx, e⟩; rw [← eqB_iff.1 e]; exact hx
 ·exact fun h => ⟨v, h, eqB_self v⟩
theorem mem_addV {z v : Va} {l : List Va} : z ∈ addV v l ↔ z ∈ l ∨ (v.op = 3 ∧ z = v) := by
 unfold addV
 by_cases ho : v.op = 3
 ·by_cases hm : v ∈ l
  ·have : memV l v = true := memV_iff.2 hm
   rw [this]
   simp only [Bool.not_true, Bool.and_false, Bool.false_eq_true, if_false]
   exact ⟨fun h => .inl h, fun h => h.elim id fun h => h.2 ▸ hm⟩
  ·have : memV l v = false := by rw [Bool.eq_false_iff]; exact fun h => hm (memV_iff.1 h)
   rw [this, ho]
   simp
 ·have : (v.op == 3) = false := by simpa using ho
  rw [this]
  simp [ho]
theorem mem_parts {z : Va} (v : Va) : ∀ {l : List Va}, z ∈ v.parts l ↔ z ∈ l ∨ (z ∈ v.subs ∧ z.op = 3) := by
 induction v using Va.ind with
 | h o n s ks ps bd bs ih _ =>
 intro l
 rw [Va.parts_mk]
 have key : ∀ (qs : List Va) (L : List Va), (∀ k ∈ qs, k ∈ ks) → (z ∈ qs.foldl (fun l k => Va.parts k l) L ↔ z ∈ L ∨ ∃ k ∈ qs, z ∈ k.subs ∧ z.op = 3) := by
  intro qs
  induction qs with
  | nil => intro L _; simp
  | cons k qs ihq =>
   intro L hq
   rw [List.foldl_cons, ihq _ fun k hk => hq k (by simp [hk]), ih k (hq k (by simp))]
   constructor
   ·rintro ((h | h) | ⟨q, hq, h⟩)
    ·exact .inl h
    ·exact .inr ⟨k, by simp, h⟩
    ·exact .inr ⟨q, by simp [hq], h⟩
   ·rintro (h | ⟨q, hq, h⟩)
    ·exact .inl (.inl h)
    ·rcases List.mem_cons.1 hq with rfl | hq
     ·exact .inl (.inr h)
     ·exact .inr ⟨q, hq, h⟩
 rw [key ks _ fun _ h => h, mem_addV, mem_subs]
 constructor
 ·rintro ((h | ⟨h1, h2⟩) | ⟨k, hk, h1, h2⟩)
  ·exact .inl h
  ·exact .inr ⟨.inl h2, by rw [h2]; exact h1⟩
  ·exact .inr ⟨.inr ⟨k, hk, h1⟩, h2⟩
 ·rintro (h | ⟨h1 | ⟨k, hk, h1⟩, h2⟩)
  ·exact .inl (.inl h)
  ·exact .inl (.inr ⟨by rw [h1] at h2; exact h2, h1⟩)
  ·exact .inr ⟨k, hk, h1, h2⟩
theorem mem_symsL {m : Mod} {x : Va} {i : Int} {name : Str} {f : Fact} : f ∈ symsL m x i name ↔ ∃ fn ∈ symNames m x.name, (name == [] || name == fn) = true ∧ (x.val.value m fn).2 = true ∧ f = ⟨fn, [i], (x.val.value m fn).1⟩ := by
 unfold symsL
 rw [List.mem_filterMap]
 constructor
 ·rintro ⟨fn, h1, h2⟩
  split at h2
  ·rename_i hc
   unfold fact1 at h2
   split at h2
   ·rename_i hv; cases h2; exact ⟨fn, h1, hc, hv, rfl⟩
   ·cases h2
  ·cases h2
 ·rintro ⟨fn, h1, hc, hv, rfl⟩
  refine ⟨fn, h1, ?_⟩
  rw [if_pos hc]
  unfold fact1
  rw [if_pos hv]
theorem mem_symsAll {m : Mod} {name : Str} {f : Fact} : ∀ {l : List Va} {i : Nat}, f ∈ symsAll m name l i ↔ ∃ (j : Nat) (y : Va), l[j]? = some y ∧ f ∈ symsL m y ((i + j : Nat) : Int) name
 | [], i => by simp [symsAll]
 | x :: l, i => by
  rw [symsAll, List.mem_append, mem_symsAll (l := l)]
  constructor
  ·rintro (h | ⟨j, y, h1, h2⟩)
   ·exact ⟨0, x, rfl, h⟩
   ·exact ⟨j + 1, y, h1, by rw [show i + (j + 1) = i + 1 + j by omega]; exact h2⟩
  ·rintro ⟨j, y, h1, h2⟩
   cases j with
   | zero =>
    simp only [List.getElem?_cons_zero, Option.some.injEq] at h1
    subst h1
    exact .inl h2
   | succ j =>
    refine .inr ⟨j, y, by simpa using h1, ?_⟩
    rw [show i + 1 + j = i + (j + 1) by omega]; exact h2
theorem sym_arg {m : Mod} {v : Va} {name : Str} {f : Fact} (h : f ∈ symS m v name) : ∃ (j : Nat) (y : Va), (v.parts [])[j]? = some y ∧ f.args = [(j : Int)] ∧ f.name ∈ symNames m y.name ∧ (name == [] || name == f.name) = true ∧ (y.val.value m f.name).2 = true ∧ f.res = (y.val.value m f.name).1 := by
 obtain ⟨j, y, h1, h2⟩ := mem_symsAll.1 h
 rw [Nat.zero_add] at h2
 obtain ⟨fn, g1, g2, g3, rfl⟩ := mem_symsL.1 h2
 exact ⟨j, y, h1, rfl, g1, g2, g3, rfl⟩
end Go.Abs
end
section
namespace Go.Abs
def wholeS : Str := [119, 104, 111, 108, 101]
def fieldS (i : Nat) : Str := [102, 105, 101, 108, 100] ++ [UInt8.ofNat (48 + i)]
noncomputable def kN (k : Va) (l : List Va) : Int := (l.foldl (fun (a : Int × Nat) y => (if k.op == 3 && eqB y k then (a.2 : Int) else a.1, a.2 + 1)) (k.n, 0)).1
theorem kN_len (k : Va) (l : List Va) : ∀ a : Int × Nat, (l.foldl (fun (a : Int × Nat) y => (if k.op == 3 && eqB y k then (a.2 : Int) else a.1, a.2 + 1)) a).2 = a.2 + l.length := by
 induction l with
 | nil => intro a; rfl
 | cons y l ih => intro a; rw [List.foldl_cons, ih, List.length_cons]; simp only; omega
theorem kN_snoc (k : Va) (l : List Va) (y : Va) : kN k (l ++ [y]) = if k.op == 3 && eqB y k then (l.length : Int) else kN k l := by
 unfold kN
 rw [List.foldl_append, List.foldl_cons, List.foldl_nil]
 simp only [kN_len, Nat.zero_add]
theorem kN_leaf {k : Va} (h : k.op ≠ 3) (l : List Va) : kN k l = k.n := by
 induction l using snoc_ind with
 | h0 => rfl
 | h l y ih =>
  rw [kN_snoc, ih]
  have : (k.op == 3) = false := by simpa using h
  rw [this]; rfl
theorem kN_at {k : Va} (h3 : k.op = 3) (l : List Va) (h : k ∈ l) : ∃ j : Nat, l[j]? = some k ∧ kN k l = j := by
 induction l using snoc_ind with
 | h0 => cases h
 | h l y ih =>
  rw [kN_snoc, h3]
  by_cases e : y = k
  ·subst e
   refine ⟨l.length, by simp, ?_⟩
   simp [eqB_self]
  ·rw [eqB_ne e]
   have : k ∈ l := by
    rcases List.mem_append.1 h with h | h
    ·exact h
    ·exact absurd (List.mem_singleton.1 h).symm e
   obtain ⟨j, h1, h2⟩ := ih this
   refine ⟨j, ?_, by simpa using h2⟩
   have := (List.getElem?_eq_some_iff.1 h1).1
   rw [List.getElem?_append_left this]; exact h1
noncomputable def atC (P ks : List Va) : List Coef := ⟨wholeS, 0⟩ :: ks.mapIdx fun i k => ⟨fieldS i, kN k P⟩
def fieldsP (ks : List Va) : List Pred := ks.mapIdx fun i _ => pv (fieldS i)
theorem fieldS_inj {i j : Nat} (hi : i < 8) (hj : j < 8) (h : fieldS i = fieldS j) : i = j := by
 have : ∀ i < 8, ∀ j < 8, fieldS i = fieldS j → i = j := by decide
 exact this i hi j hj h
theorem whole_ne (i : Nat) (hi : i < 8) : wholeS ≠ fieldS i := by
 have : ∀ i < 8, wholeS ≠ fieldS i := by decide
 exact this i hi
theorem findC_get {l : List Coef} {i : Nat} {c : Coef} (h : l[i]? = some c) (hne : ∀ j < i, ∀ d, l[j]? = some d → d.name ≠ c.name) : findC c.name l = (c.n, true) := by
 induction l generalizing i with
 | nil => cases h
 | cons d l ih =>
  rw [findC]
  cases i with
  | zero =>
   simp only [List.getElem?_cons_zero, Option.some.injEq] at h
   subst h
   simp
  | succ i =>
   have h0 := hne 0 (by omega) d rfl
   have : (d.name == c.name) = false := by simpa using h0
   rw [this]
   exact ih (by simpa using h) fun j hj d hd => hne (j + 1) (by omega) d (by simpa using hd)
theorem atC_whole (P ks : List Va) : findC wholeS (atC P ks) = (0, true) := by
 unfold atC; rw [findC]; simp
theorem atC_field {P ks : List Va} (h8 : ks.length ≤ 8) {i : Nat} {k : Va} (h : ks[i]? = some k) : findC (fieldS i) (atC P ks) = (kN k P, true) := by
 have hi := (List.getElem?_eq_some_iff.1 h).1
 have hg : (atC P ks)[i + 1]? = some ⟨fieldS i, kN k P⟩ := by
  unfold atC
  rw [List.getElem?_cons_succ, List.getElem?_mapIdx, h]; rfl
 refine findC_get hg fun j hj d hd => ?_
 cases j with
 | zero =>
  unfold atC at hd
  simp only [List.getElem?_cons_zero, Option.some.injEq] at hd
  subst hd
  exact whole_ne i (by omega)
 | succ j =>
  unfold atC at hd
  rw [List.getElem?_cons_succ, List.getElem?_mapIdx] at hd
  cases hk : ks[j]? with
  | none => rw [hk] at hd; cases hd
  | some k' =>
   rw [hk] at hd
   simp only [Option.map_some, Option.some.injEq] at hd
   subst hd
   exact fun e => by have := fieldS_inj (by omega) (by omega) e; omega
theorem findF_mem {s : Str} {args : List Int} {r : Int} : ∀ {l : List Fact}, findF s args l = some r → ∃ f ∈ l, f.name = s ∧ f.args = args ∧ f.res = r
 | f :: l, h => by
  rw [findF] at h
  split at h
  ·rename_i hc
   simp only [Bool.and_eq_true, beq_iff_eq] at hc
   exact ⟨f, by simp, hc.1, hc.2, Option.some.inj h⟩
  ·obtain ⟨g, h1, h2⟩ := findF_mem h
   exact ⟨g, by simp [h1], h2⟩
theorem fieldE_find {α : Type} {s : Str} : ∀ {names : List Str} {es : List α} (i : Nat) {e : α}, fieldE names es s = some e → ∃ j : Nat, findIx s i names = ((i + j : Nat) : Int) ∧ es[j]? = some e ∧ j < names.length
 | [], _, _, _, h => by simp [fieldE] at h
 | x :: names, [], _, _, h => by simp [fieldE] at h
 | x :: names, a :: es, i, e, h => by
  unfold fieldE at h
  rw [List.zip_cons_cons, List.find?_cons] at h
  by_cases hx : x = s
  ·subst hx
   simp only [beq_self_eq_true, Option.map_some, Option.some.injEq] at h
   exact ⟨0, by rw [findIx, if_pos rfl]; rfl, by simp [h], by simp⟩
  ·have hxb : (x == s) = false := by simpa using hx
   simp only [hxb] at h
   obtain ⟨j, h1, h2, h3⟩ := fieldE_find (i + 1) (show fieldE names es s = some e from h)
   refine ⟨j + 1, ?_, by simpa using h2, by simpa using h3⟩
   rw [findIx, if_neg hx, h1]
   omega
theorem sub_var {names : List Str} {ks : List Va} {s : Str} {j : Nat} {k : Va} (n : Int) (l : List Pred) (h : findIx s 0 names = (j : Int)) (hk : ks[j]? = some k) : subAll names (fieldsP ks) (.mk 3 s n l) = pv (fieldS j) := by
 have hj := (List.getElem?_eq_some_iff.1 hk).1
 have hl : (fieldsP ks).length = ks.length := by unfold fieldsP; rw [List.length_mapIdx]
 rw [subAll_eq, h, hl]
 have h1 : decide ((j : Int) ≥ 0) = true := by simp
 have h2 : decide ((j : Int) < (ks.length : Int)) = true := by simp; exact hj
 rw [h1, h2]
 simp only [beq_self_eq_true, Bool.and_self, if_true, Int.toNat_natCast]
 unfold fieldsP
 rw [List.getD_eq_getElem?_getD, List.getElem?_mapIdx, hk]; rfl
structure Hold34 (m : Mod) (x : Va) : Prop where
 op : x.op = 3
 len : x.kids.length ≤ 8
 uniq : (m.meas.map Meas.name).Nodup
 tag : ∀ y ∈ m.meas, y.name ≠ sTag ∧ y.name ≠ sVal
 con : (conS x.name m.datas).2.2 = true
 cas : ∀ y ∈ ofData m (conS x.name m.datas).1.name, ∃ c, y.cases.find? (fun c => c.con == x.name) = some c ∧ c.names.length = x.kids.length ∧ c.body.checkE = 0
theorem val_sub (m : Mod) (k : Val) (s : Str) (h : (k.value m s).2 = true) (ho : k.op ≠ 3) : s = sVal := by
 obtain ⟨o, n, t, ks, p, b, d⟩ := k
 rw [Val.value_eq] at h
 unfold valStep at h
 by_cases hs : s = sVal
 ·exact hs
 ·have h1 : (s == sVal) = false := by simpa using hs
  have h2 : (o != 3) = true := by have ho : o ≠ 3 := ho; simpa using ho
  rw [h1, h2] at h
  simp at h
theorem Va.val_op (k : Va) : k.val.op = k.op := by obtain ⟨⟩ := k; rw [Va.val_mk]; rfl
theorem Va.val_n (k : Va) : k.val.n = k.n := by obtain ⟨⟩ := k; rw [Va.val_mk]; rfl
theorem sym_ne_val {m : Mod} (ht : ∀ y ∈ m.meas, y.name ≠ sTag ∧ y.name ≠ sVal) (t : Str) : sVal ∉ symNames m t := by
 unfold symNames
 rw [List.mem_cons]
 rintro (h | h)
 ·revert h; decide
 ·split at h
  ·obtain ⟨y, hy, e⟩ := List.mem_map.1 h
   exact (ht y (List.mem_filter.1 hy).1).2 e
  ·cases h
theorem body_at {m : Mod} {x : Va} (H : Hold34 m x) (names : List Str) (p : Pred) (h1 : (valP (atC (x.parts []) x.kids) (symS m x []) (subAll names (fieldsP x.kids) p)).2 = true) (h2 : (bodyR names (x.kids.map fun k => Val.ent m k.val) p).2 = true) :
  (valP (atC (x.parts []) x.kids) (symS m x []) (subAll names (fieldsP x.kids) p)).1 = (bodyR names (x.kids.map fun k => Val.ent m k.val) p).1 := by
 have hkid : ∀ {s : Str} {e : FEnt}, fieldE names (x.kids.map fun k => Val.ent m k.val) s = some e → ∃ (j : Nat) (k : Va), findIx s 0 names = (j : Int) ∧ x.kids[j]? = some k ∧ e = Val.ent m k.val := by
  intro s e h
  obtain ⟨j, g1, g2, _⟩ := fieldE_find 0 h
  rw [List.getElem?_map] at g2
  cases hk : x.kids[j]? with
  | none => rw [hk] at g2; cases g2
  | some k => rw [hk] at g2; exact ⟨j, k, by rw [g1, Nat.zero_add], hk, (Option.some.inj g2).symm⟩
 have hpart : ∀ {j : Nat} {k : Va}, x.kids[j]? = some k → k.op = 3 → k ∈ x.parts [] := by
  intro j k hk h3
  refine (mem_parts x).2 (.inr ⟨?_, h3⟩)
  have hm := List.mem_of_getElem? hk
  obtain ⟨o, n, s, ks, ps, bd, bs⟩ := x
  refine mem_subs.2 (.inr ⟨k, hm, ?_⟩)
  obtain ⟨⟩ := k
  exact mem_subs.2 (.inl rfl)
 induction p using Pred.ind with
 | h o s n ks ih =>
 rw [bodyR_eq] at h2 ⊢
 by_cases h12 : (o == 1 || o == 2) = true
 ·have h3 : (o == 3) = false := by
    simp only [Bool.or_eq_true, beq_iff_eq] at h12
    rcases h12 with rfl | rfl <;> rfl
  rw [subAll_eq, h3] at h1 ⊢
  simp only [Bool.false_and, Bool.false_eq_true, if_false] at h1 ⊢
  rw [valP_eq] at h1 ⊢
  split at h1
  ·rename_i hc
   rw [if_pos hc, if_pos h12]
   unfold topP
   rw [if_pos h12]
  ·cases h1
 simp only [h12, Bool.false_eq_true, if_false] at h2 ⊢
 by_cases h3 : o = 3
 ·subst h3
  simp only [beq_self_eq_true, if_true] at h2 ⊢
  unfold varR at h2 ⊢
  cases he : fieldE names (x.kids.map fun k => Val.ent m k.val) s with
  | none => rw [he] at h2; cases h2
  | some e =>
   obtain ⟨j, k, g1, g2, rfl⟩ := hkid he
   rw [sub_var n ks g1 g2]
   rw [he] at h2
   simp only at h2 ⊢
   split at h2
   ·rename_i hc
    rw [if_pos hc]
    simp only [Bool.and_eq_true] at hc
    have ho : k.op ≠ 3 := by
     intro e
     have := hc.1
     simp only [Val.ent, Va.val_op, e] at this
     cases this
    unfold pv
    rw [valP_eq]
    simp only [List.all_nil, if_true, topP, atC_field H.len g2, kN_leaf ho]
    simp only [Val.ent, Va.val_n]
    rfl
   ·cases h2
 have h3b : (o == 3) = false := by simpa using h3
 simp only [h3b, Bool.false_eq_true, if_false] at h2 ⊢
 rw [subAll_eq, h3b] at h1 ⊢
 simp only [Bool.false_and, Bool.false_eq_true, if_false] at h1 ⊢
 by_cases h4 : o = 4
 ·subst h4
  simp only [beq_self_eq_true, if_true] at h2 ⊢
  cases ha : appVar 4 ks with
  | none => rw [ha] at h2; cases h2
  | some z =>
   rw [ha] at h2
   simp only at h2 ⊢
   obtain ⟨_, n', l', rfl⟩ := appVar_some ha
   unfold appR at h2 ⊢
   cases he : fieldE names (x.kids.map fun k => Val.ent m k.val) z with
   | none => rw [he] at h2; cases h2
   | some e =>
    obtain ⟨j, k, g1, g2, rfl⟩ := hkid he
    rw [he] at h2
    simp only at h2 ⊢
    split at h2
    ·rename_i hc
     rw [if_pos hc]
     simp only [Bool.and_eq_true] at hc
     have hv : (k.val.value m s).2 = true := hc.1
     rw [List.map_cons, List.map_nil, sub_var n' l' g1 g2] at h1 ⊢
     rw [valP_eq] at h1 ⊢
     have hz : valP (atC (x.parts []) x.kids) (symS m x []) (pv (fieldS j)) = (kN k (x.parts []), inRange (kN k (x.parts []))) := by
      unfold pv
      rw [valP_eq]
      simp only [List.all_nil, if_true, topP, atC_field H.len g2, Bool.true_and]
      rfl
     split at h1
     ·rename_i hc2
      rw [if_pos hc2]
      simp only [List.map_cons, List.map_nil, hz] at h1 ⊢
      have ht : ∀ l, topP (atC (x.parts []) x.kids) (symS m x []) 4 s n l = factP (findF s l (symS m x [])) := fun _ => rfl
      rw [ht] at h1 ⊢
      cases hf : findF s [kN k (x.parts [])] (symS m x []) with
      | none => rw [hf] at h1; cases h1
      | some r =>
       obtain ⟨f, hfm, f1, f2, f3⟩ := findF_mem hf
       obtain ⟨j', y, y1, y2, y3, _, y5, y6⟩ := sym_arg hfm
       rw [f2] at y2
       have y2 : kN k (x.parts []) = (j' : Int) := by simpa using y2
       show r = (k.val.value m s).1
       by_cases hk3 : k.op = 3
       ·obtain ⟨j2, z1, z2⟩ := kN_at hk3 _ (hpart g2 hk3)
        have : j2 = j' := by omega
        subst this
        rw [z1] at y1
        obtain rfl := Option.some.inj y1
        rw [← f3, y6, f1]
       ·have := val_sub m k.val s hv (by rw [Va.val_op]; exact hk3)
        subst this
        rw [f1] at y3
        exact absurd y3 (sym_ne_val H.tag _)
     ·cases h1
    ·cases h2
 have h4b : (o == 4) = false := by simpa using h4
 simp only [h4b, Bool.false_eq_true, if_false] at h2 ⊢
 split at h2
 ·rename_i hc
  rw [if_pos hc]
  simp only [Bool.and_eq_true] at hc
  rw [valP_eq] at h1 ⊢
  split at h1
  ·rename_i hc2
   rw [if_pos hc2]
   have hns : ((ks.map (subAll names (fieldsP x.kids))).map fun k => (valP (atC (x.parts []) x.kids) (symS m x []) k).1) = ks.map fun k => (bodyR names (x.kids.map fun k => Val.ent m k.val) k).1 := by
    rw [List.map_map]
    refine List.map_congr_left fun k hk => ?_
    rw [List.all_map] at hc2
    exact ih k hk (List.all_eq_true.1 hc2 k hk) (List.all_eq_true.1 hc.1 k hk)
   rw [hns]
   generalize (ks.map fun k => (bodyR names (x.kids.map fun k => Val.ent m k.val) k).1) = l at *
   have h12f : (o == 1 || o == 2) = false := by simpa only [Bool.not_eq_true] using h12
   unfold topP opR
   rw [h12f, h3b, h4b]
   simp only [Bool.false_eq_true, if_false]
   by_cases h5 : o = 5
   ·subst h5; cases h2
   ·have : (o == 5) = false := by simpa using h5
    rw [this]
    simp only [Bool.false_eq_true, if_false]
  ·cases h1
 ·cases h2
theorem addV_app (v : Va) (l : List Va) : ∃ t, addV v l = l ++ t := by
 unfold addV
 split
 ·exact ⟨[v], rfl⟩
 ·exact ⟨[], by simp⟩
theorem parts_app (v : Va) : ∀ l : List Va, ∃ t, v.parts l = l ++ t := by
 induction v using Va.ind with
 | h o n s ks ps bd bs ih _ =>
 intro l
 rw [Va.parts_mk]
 have key : ∀ (qs L : List Va), (∀ k ∈ qs, k ∈ ks) → ∃ t, qs.foldl (fun l k => Va.parts k l) L = L ++ t := by
  intro qs
  induction qs with
  | nil => intro L _; exact ⟨[], by simp⟩
  | cons k qs ihq =>
   intro L hq
   obtain ⟨t1, h1⟩ := ih k (hq k (by simp)) L
   obtain ⟨t2, h2⟩ := ihq (L ++ t1) fun z hz => hq z (by simp [hz])
   exact ⟨t1 ++ t2, by rw [List.foldl_cons, h1, h2, List.append_assoc]⟩
 obtain ⟨t1, h1⟩ := addV_app (.mk o n s ks ps bd bs) l
 obtain ⟨t2, h2⟩ := key ks (l ++ t1) fun _ h => h
 exact ⟨t1 ++ t2, by rw [h1, h2, List.append_assoc]⟩
theorem parts_head {x : Va} (h : x.op = 3) : (x.parts [])[0]? = some x := by
 obtain ⟨o, n, s, ks, ps, bd, bs⟩ := x
 have h : o = 3 := h
 subst h
 rw [Va.parts_mk]
 have h1 : addV (.mk 3 n s ks ps bd bs) [] = [.mk 3 n s ks ps bd bs] := by simp [addV, memV, Va.op]
 rw [h1]
 have key : ∀ (qs L : List Va), ∃ t, qs.foldl (fun l k => Va.parts k l) L = L ++ t := by
  intro qs
  induction qs with
  | nil => intro L; exact ⟨[], by simp⟩
  | cons k qs ihq =>
   intro L
   obtain ⟨t1, g1⟩ := parts_app k L
   obtain ⟨t2, g2⟩ := ihq (L ++ t1)
   exact ⟨t1 ++ t2, by rw [List.foldl_cons, g1, g2, List.append_assoc]⟩
 obtain ⟨t, g⟩ := key ks [.mk 3 n s ks ps bd bs]
 rw [g]
 rfl
theorem fact_at {m : Mod} {x : Va} (h3 : x.op = 3) {s : Str} {r : Int} (h : findF s [0] (symS m x []) = some r) : (x.val.value m s).2 = true ∧ r = (x.val.value m s).1 := by
 obtain ⟨f, hf, f1, f2, f3⟩ := findF_mem h
 obtain ⟨j, y, y1, y2, _, _, y5, y6⟩ := sym_arg hf
 rw [f2] at y2
 have y2 : (0 : Int) = (j : Int) := by simpa using y2
 have : j = 0 := by omega
 subst this
 rw [parts_head h3] at y1
 obtain rfl := Option.some.inj y1
 subst f1
 exact ⟨y5, by rw [← f3, y6]⟩
theorem find_nodup : ∀ {l : List Meas} {y : Meas}, (l.map Meas.name).Nodup → y ∈ l → l.find? (fun x => x.name == y.name) = some y
 | a :: l, y, hn, hy => by
  rw [List.map_cons, List.nodup_cons] at hn
  rw [List.find?_cons]
  rcases List.mem_cons.1 hy with rfl | hy
  ·simp
  ·have : (a.name == y.name) = false := by
     rw [Bool.eq_false_iff]
     intro e
     exact hn.1 ((beq_iff_eq.1 e) ▸ List.mem_map_of_mem hy)
   rw [this]
   exact find_nodup hn.2 hy
theorem value_case {m : Mod} {x : Va} (H : Hold34 m x) {y : Meas} (hy : y ∈ ofData m (conS x.name m.datas).1.name) {c : Cas} (hc : y.cases.find? (fun c => c.con == x.name) = some c) (hl : c.names.length = x.kids.length) (hk : c.body.checkE = 0) :
  x.val.value m y.name = bodyR c.names (x.kids.map fun k => Val.ent m k.val) c.body := by
 have hym := (List.mem_filter.1 hy).1
 have hyd := (List.mem_filter.1 hy).2
 have h1 := H.tag y hym
 have h2 := H.con
 have h3 := find_nodup H.uniq hym
 have h4 := H.op
 obtain ⟨o, n, s, ks, ps, bd, bs⟩ := x
 simp only [Va.name, Va.kids, Va.op] at *
 subst h4
 rw [Va.val_mk, Val.value_eq]
 unfold valStep
 have e1 : (y.name == sVal) = false := by simpa using h1.2
 have e2 : (y.name == sTag) = false := by simpa using h1.1
 have e3 : (y.data != (conS s m.datas).1.name) = false := by simpa using hyd
 have e4 : (c.names.length != ((ks.map Va.val).map (Val.ent m)).length) = false := by simp [hl]
 have e5 : (c.body.checkE != 0) = false := by simp [hk]
 rw [e1, h2, e2, h3]
 simp only [Bool.false_eq_true, if_false, bne_self_eq_false, Bool.not_true, Bool.or_self]
 rw [e3, hc]
 simp only [Bool.false_eq_true, if_false]
 rw [e4, e5]
 simp only [Bool.false_eq_true, if_false, Bool.or_self, List.map_map]
 rfl
theorem valP_two {at' : List Coef} {fs : List Fact} {o : Int} {a b : Pred} (h : (valP at' fs (p2 o a b)).2 = true) : (valP at' fs a).2 = true ∧ (valP at' fs b).2 = true ∧ valP at' fs (p2 o a b) = topP at' fs o [] 0 [(valP at' fs a).1, (valP at' fs b).1] := by
 unfold p2 at *
 rw [valP_eq] at h ⊢
 split at h
 ·rename_i hc
  simp only [List.all_cons, List.all_nil, Bool.and_true, Bool.and_eq_true] at hc
  exact ⟨hc.1, hc.2, by simp only [List.all_cons, List.all_nil, hc.1, hc.2, Bool.and_true, if_true, List.map_cons, List.map_nil]⟩
 ·cases h
theorem and_holds {at' : List Coef} {fs : List Fact} (l : List Pred) (h : ∀ p ∈ l, (valP at' fs p).2 = true → (valP at' fs p).1 ≠ 0) : (valP at' fs (andGo l).1).2 = true → (valP at' fs (andGo l).1).1 ≠ 0 := by
 induction l using snoc_ind with
 | h0 =>
  intro _
  show (valP at' fs trueP).1 ≠ 0
  unfold trueP
  rw [valP_eq]
  simp [topP]
 | h l p ih =>
  have ih := ih fun q hq => h q (List.mem_append_left _ hq)
  have hp := h p (by simp)
  rw [andGo_app]
  unfold andStp
  split
  ·exact ih
  ·split
   ·intro hk
    obtain ⟨g1, g2, g3⟩ := valP_two (o := 15) (a := (andGo l).1) (b := p) hk
    show (valP at' fs (p2 15 (andGo l).1 p)).1 ≠ 0
    rw [g3]
    have e : ∀ u v : Int, topP at' fs 15 [] 0 [u, v] = (tru (u != 0 && v != 0), true) := fun u v => rfl
    rw [e]
    have n1 : ((valP at' fs (andGo l).1).1 != 0) = true := by simpa using ih g1
    have n2 : ((valP at' fs p).1 != 0) = true := by simpa using hp g2
    rw [n1, n2]
    show tru true ≠ 0
    decide
   ·exact hp
theorem valP_fact {m : Mod} {x : Va} (s : Str) : valP (atC (x.parts []) x.kids) (symS m x []) (papp s [pv wholeS]) = factP (findF s [0] (symS m x [])) := by
 have hz : valP (atC (x.parts []) x.kids) (symS m x []) (pv wholeS) = (0, true) := by
  unfold pv
  rw [valP_eq]
  simp only [List.all_nil, if_true, topP, atC_whole, Bool.true_and]
  rfl
 unfold papp
 rw [valP_eq]
 simp only [List.all_cons, List.all_nil, hz, Bool.and_true, if_true, List.map_cons, List.map_nil]
 rfl
theorem not_same {o : Int} {a b q : Pred} (h : q.op ≠ o) : (p2 o a b).same q = false := by
 rw [Bool.eq_false_iff]
 intro e
 have := (Pred.same_iff _ _).1 e
 rw [← this] at h
 exact h rfl
theorem eqn_holds {m : Mod} {x : Va} (H : Hold34 m x) {p : Pred} (hp : p ∈ eqnsL (ofData m (conS x.name m.datas).1.name) x.name (fieldsP x.kids) (pv wholeS) (conS x.name m.datas).2.1) :
  isFalse p = false ∧ ((valP (atC (x.parts []) x.kids) (symS m x []) p).2 = true → (valP (atC (x.parts []) x.kids) (symS m x []) p).1 ≠ 0) := by
 have key : ∀ (o : Int) (s : Str) (q : Pred), (o = 10 ∨ o = 18) → (∀ r, findF s [0] (symS m x []) = some r → (valP (atC (x.parts []) x.kids) (symS m x []) q).2 = true → (valP (atC (x.parts []) x.kids) (symS m x []) q).1 = r) →
   isFalse (p2 o (papp s [pv wholeS]) q) = false ∧ ((valP (atC (x.parts []) x.kids) (symS m x []) (p2 o (papp s [pv wholeS]) q)).2 = true → (valP (atC (x.parts []) x.kids) (symS m x []) (p2 o (papp s [pv wholeS]) q)).1 ≠ 0) := by
  intro o s q ho hq
  refine ⟨?_, fun h => ?_⟩
  ·unfold isFalse
   rw [not_same (q := falseP) (by show (2 : Int) ≠ o; rcases ho with rfl | rfl <;> decide), Bool.and_false]
  ·obtain ⟨g1, g2, g3⟩ := valP_two h
   rw [g3]
   rw [valP_fact] at g1 ⊢
   cases hf : findF s [0] (symS m x []) with
   | none => rw [hf] at g1; cases g1
   | some r =>
    have e := hq r hf g2
    show (topP _ _ o [] 0 [r, _]).1 ≠ 0
    rw [e]
    rcases ho with rfl | rfl
    ·show tru (r == r) ≠ 0
     rw [beq_self_eq_true]; decide
    ·show tru ((r != 0) == (r != 0)) ≠ 0
     rw [beq_self_eq_true]; decide
 unfold eqnsL at hp
 rcases List.mem_cons.1 hp with rfl | hp
 ·refine key 10 sTag _ (.inl rfl) fun r hr _ => ?_
  have := (fact_at H.op hr).2
  rw [this]
  have h3 := H.op
  have h2 := H.con
  obtain ⟨o, n, s, ks, ps, bd, bs⟩ := x
  simp only [Va.name, Va.op] at *
  subst h3
  rw [Va.val_mk, Val.value_eq]
  unfold valStep
  rw [h2]
  rfl
 ·obtain ⟨y, hy, e⟩ := List.mem_filterMap.1 hp
  unfold eqn1 at e
  obtain ⟨c, hc, hl, hk⟩ := H.cas y hy
  rw [hc] at e
  simp only [Option.map_some, Option.some.injEq] at e
  subst e
  refine key _ y.name _ (by split <;> simp) fun r hr hv => ?_
  obtain ⟨v1, v2⟩ := fact_at H.op hr
  rw [value_case H hy hc hl hk] at v1 v2
  rw [v2]
  exact body_at H c.names c.body hv v1
theorem holds_law {m : Mod} {x : Va} (H : Hold34 m x) : ((HoldsS (atC (x.parts []) x.kids) (symS m x []) (eqnsS m x.name (fieldsP x.kids) (pv wholeS))).1 || !(HoldsS (atC (x.parts []) x.kids) (symS m x []) (eqnsS m x.name (fieldsP x.kids) (pv wholeS))).2) = true := by
 have he : eqnsS m x.name (fieldsP x.kids) (pv wholeS) = (andGo (eqnsL (ofData m (conS x.name m.datas).1.name) x.name (fieldsP x.kids) (pv wholeS) (conS x.name m.datas).2.1)).1 := by
  unfold eqnsS
  rw [if_pos H.con]
  unfold andP
  rw [any_none fun p hp => (eqn_holds H hp).1]
  simp only [Bool.false_eq_true, if_false]
 rw [he]
 have hv := and_holds (at' := atC (x.parts []) x.kids) (fs := symS m x []) _ fun p hp => (eqn_holds H hp).2
 generalize (andGo (eqnsL (ofData m (conS x.name m.datas).1.name) x.name (fieldsP x.kids) (pv wholeS) (conS x.name m.datas).2.1)).1 = e at *
 unfold HoldsS
 split
 ·rfl
 ·cases hok : (EvalS (atC (x.parts []) x.kids) (symS m x []) e).2 with
  | false => rfl
  | true =>
   unfold EvalS at hok ⊢
   split at hok
   ·cases hok
   ·rename_i hc
    have hc : e.checkE = 0 := by simpa using hc
    rw [if_neg (by simp [hc])]
    have hg := good_of hc
    rw [← val_norm _ _ e hg] at hok ⊢
    rw [norm2_snd] at hok
    have h := hv hok
    unfold norm2
    rw [hok]
    simpa using h
end Go.Abs
end
section
namespace Go.Abs
structure ProperP (m : Mod) (x : Va) : Prop where
 con : (conS x.name m.datas).2.2 = true
 uniq : (m.meas.map Meas.name).Nodup
 tag : ∀ y ∈ m.meas, y.name ≠ sTag ∧ y.name ≠ sVal
 cas : ∀ y ∈ ofData m (conS x.name m.datas).1.name, (findCas y.cases x.name).2 = true ∧ (findCas y.cases x.name).1.names.length = x.kids.length ∧ (findCas y.cases x.name).1.body.checkE = 0 ∧ (findCas y.cases x.name).1.names.Nodup
noncomputable def properS (m : Mod) (x : Va) : Bool := @decide (ProperP m x) (Classical.propDecidable _)
theorem properS_iff {m : Mod} {x : Va} : properS m x = true ↔ ProperP m x := by unfold properS; exact @decide_eq_true_iff _ (Classical.propDecidable _)
theorem properS_not {m : Mod} {x : Va} (h : ¬ ProperP m x) : properS m x = false := by
 rw [Bool.eq_false_iff]; exact fun e => h (properS_iff.1 e)
theorem nodup_snoc {α : Type} {l : List α} {x : α} (h : l.Nodup) (hx : x ∉ l) : (l ++ [x]).Nodup := by
 rw [List.nodup_append]
 refine ⟨h, by simp, fun a ha b hb => ?_⟩
 rw [List.mem_singleton.1 hb]
 exact fun e => hx (e ▸ ha)
theorem not_nodup {α : Type} {l done r : List α} {x : α} (hl : l = done ++ x :: r) (hx : x ∈ done) : ¬ l.Nodup := by
 intro h
 rw [hl, List.nodup_append] at h
 exact h.2.2 x hx x (by simp) rfl
theorem getD_pre {α : Type} {f : α → List D} {l done r a b : List α} {x y : α} (hl : l = done ++ x :: r) (ha : done = a ++ y :: b) : (l.map f).getD a.length [] = f y := by
 subst ha
 rw [hl, List.append_assoc, List.cons_append]
 exact getD_at rfl
theorem lt_pre {α : Type} {l done r a b : List α} {x y : α} (hl : l = done ++ x :: r) (ha : done = a ++ y :: b) : ((a.length : Int) < (l.length : Int)) = True := by
 have h1 : l.length = done.length + (r.length + 1) := by rw [hl]; simp
 have h2 : done.length = a.length + (b.length + 1) := by rw [ha]; simp
 exact eq_true (by omega)
variable {E : AEnv} (Z : Sys E)
include Z
set_option maxHeartbeats 8000000 in
theorem l34_proper_ev (m : Mod) (hm : MBig m) (x : Va) : E.C l34_proper [.agg m.cells, .agg x.cells] (.one (.bool (properS m x))) := by
 have hcon := r20_Con_ev Z m x.name
 have hms := fun dn => r34_Measures_ev Z m hm dn
 have hcase := fun y => r34_Case_ev Z y x.name
 have hcheck := fun c => r07_Check_ev Z c
 have hml := hm.len
 have hPF : ¬ ProperP m x → properS m x = false := properS_not
 have hPT : ProperP m x → properS m x = true := properS_iff.2
 have hP1 : ProperP m x → (conS x.name m.datas).2.2 = true := fun h => h.con
 have hP2 : ProperP m x → (m.meas.map Meas.name).Nodup := fun h => h.uniq
 have hP3 : ProperP m x → ∀ y ∈ m.meas, y.name ≠ sTag ∧ y.name ≠ sVal := fun h => h.tag
 have hP4 : ProperP m x → ∀ y ∈ ofData m (conS x.name m.datas).1.name, (findCas y.cases x.name).2 = true ∧ (findCas y.cases x.name).1.names.length = x.kids.length ∧ (findCas y.cases x.name).1.body.checkE = 0 ∧ (findCas y.cases x.name).1.names.Nodup := fun h => h.cas
 have hP : (conS x.name m.datas).2.2 = true → (m.meas.map Meas.name).Nodup → (∀ y ∈ m.meas, y.name ≠ sTag ∧ y.name ≠ sVal) → (∀ y ∈ ofData m (conS x.name m.datas).1.name, (findCas y.cases x.name).2 = true ∧ (findCas y.cases x.name).1.names.length = x.kids.length ∧ (findCas y.cases x.name).1.body.checkE = 0 ∧ (findCas y.cases x.name).1.names.Nodup) → ProperP m x := fun a b c d => ⟨a, b, c, d⟩
 generalize properS m x = R at *
 generalize ProperP m x = PP at *
 obtain ⟨xo, xn, xs, xk, xp, xb, xd⟩ := x
 simp only [Va.name, Va.kids] at *
 rw [Va.cells_mk]
 generalize conS xs m.datas = C at *
 obtain ⟨⟨dn, dv, dp, dc⟩, ix, known⟩ := C
 simp only at *
 have hms := hms dn
 have hmc : m.cells = [.lst (m.datas.map DataT.cells), m.cls, m.ins, .lst (m.meas.map Meas.cells), m.quals, m.defs] := rfl
 rw [hmc] at hcon hms ⊢
 have hdc : DataT.cells ⟨dn, dv, dp, dc⟩ = [.str dn, dv, dp, .lst (dc.map ConT.cells)] := rfl
 rw [hdc] at hcon
 refine Z.l34_proper _ _ ⟨Nat.le_of_ble_eq_true rfl, ?_⟩
 simp only [fn_l34_proper, go_sem]
 refine call_by hcon ?_
 simp only [go_sem]
 cases known with
 | false =>
  simp only [go_sem]
  rw [hPF fun h => by have := hP1 h; cases this]
 | true =>
 simp only [go_sem]
 refine call_by hms ?_
 generalize hL : ofData m dn = L at *
 have hLl : L.length ≤ 1048576 := by rw [← hL]; exact Nat.le_trans (List.length_filter_le _ _) hml
 simp only [go_sem]
 refine loop_named fun K hK => ?_
 refine loop_list m.meas (fun done => (done.map Meas.name).Nodup ∧ ∀ y ∈ done, y.name ≠ sTag ∧ y.name ≠ sVal) (fun done _ => ⟨[(9, .d (.int .i64 done.length)), (8, .d (.lst (L.map Meas.cells))), (2, .ptr 2 0), (3, .ptr 3 0)], [(2, [.d (.lst (m.datas.map DataT.cells)), .d m.cls, .d m.ins, .d (.lst (m.meas.map Meas.cells)), .d m.quals, .d m.defs]), (3, [.d (.int .i64 xo), .d (.int .i64 xn), .d (.str xs), .d (.lst (xk.map Va.cells)), .d (.lst (xp.map fun k => [.str k])), .d (.lst (xb.map ExV.cells)), .d (.lst (xd.map BndV.cells))])], []⟩) ?_ ⟨by simp, by simp⟩ ?_ ?_
 ·exact Ent_plain (by simp only [go_sem, Option.isSome_some, and_self, List.contains_nil])
 ·intro done y r hl hI
  have hlt := lt_mid hl
  have hgy := getD_at (f := Meas.cells) (d := []) hl
  have hym : y ∈ m.meas := mem_at' hl
  have hdl : done.length ≤ m.meas.length := by rw [hl]; simp
  have hw : IntKind.i64.wrap ((done.length : Int) + 1) = ((done.length + 1 : Nat) : Int) := wrap_succ (by omega)
  have hdup : ∀ z ∈ done, z.name = y.name → R = false := fun z hz e => hPF fun h => by
   refine not_nodup (x := y.name) (l := m.meas.map Meas.name) (done := done.map Meas.name) (r := r.map Meas.name) (by rw [hl, List.map_append, List.map_cons]) ?_ (hP2 h)
   rw [← e]; exact List.mem_map_of_mem hz
  have hbad : y.name = sTag ∨ y.name = sVal → R = false := fun e => hPF fun h => by
   have := hP3 h y hym
   rcases e with e | e
   ·exact this.1 e
   ·exact this.2 e
  have hyl := Meas.cells_length y
  obtain ⟨ya, yb, yc, yl, yo, ys, yn, yk⟩ := y
  simp only [Meas.cells_mk] at hgy hyl
  simp only at hdup hbad
  simp only [fn_l34_proper_L5, go_sem, hlt, List.length_map, Meas.lens]
  intro hml2
  refine loop_named fun K2 hK2 => ?_
  refine loop_list done (fun d => ∀ z ∈ d, z.name ≠ ya) (fun d _ => ⟨[(10, .d (.int .i64 d.length)), (9, .d (.int .i64 done.length)), (8, .d (.lst (L.map Meas.cells))), (2, .ptr 2 0), (3, .ptr 3 0)], [(2, [.d (.lst (m.datas.map DataT.cells)), .d m.cls, .d m.ins, .d (.lst (m.meas.map Meas.cells)), .d m.quals, .d m.defs]), (3, [.d (.int .i64 xo), .d (.int .i64 xn), .d (.str xs), .d (.lst (xk.map Va.cells)), .d (.lst (xp.map fun k => [.str k])), .d (.lst (xb.map ExV.cells)), .d (.lst (xd.map BndV.cells))])], []⟩) ?_ (by simp) ?_ ?_
  ·exact Ent_plain (by simp only [go_sem, Option.isSome_some, and_self, List.contains_nil])
  ·intro d z r' hl' hI'
   have hlt' := lt_mid hl'
   have hgz := getD_pre (f := Meas.cells) hl hl'
   have hltz := lt_pre hl hl'
   have hdl' : d.length ≤ done.length := by rw [hl']; simp
   have hw' : IntKind.i64.wrap ((d.length : Int) + 1) = ((d.length + 1 : Nat) : Int) := wrap_succ (by omega)
   have hdup := hdup z (mem_at' hl')
   obtain ⟨za, zb, zc, zl, zo, zs, zn, zk⟩ := z
   simp only [Meas.cells_mk] at hgz
   simp only at hdup
   simp only [fn_l34_proper_L4, go_sem, hlt, hlt', hltz, hgy, hgz, List.length_map, Meas.lens]
   by_cases e : ya = za
   ·have eb : (ya == za) = true := by simpa using e
    simp only [eb, go_sem]
    rw [hK2]
    clear hK2
    simp only [go_sem]
    rw [hK]
    clear hK
    simp only [go_sem]
    rw [hdup e.symm]
   ·have eb : (ya == za) = false := by simpa using e
    simp only [eb, go_sem]
    refine ⟨Ent_plain (by simp only [go_sem, Option.isSome_some, and_self, List.contains_nil, hw', List.length_append, List.length_cons, List.length_nil, Nat.zero_add]), fun w hw2 => ?_⟩
    rcases List.mem_append.1 hw2 with h | h
    ·exact hI' w h
    ·rw [List.mem_singleton.1 h]; exact fun e2 => e e2.symm
  ·intro hI'
   simp only [fn_l34_proper_L4, ↓reduceIte, go_sem]
   rw [hK2]
   clear hK2
   simp only [go_sem, hlt, hgy, List.length_map, Meas.lens]
   by_cases e : (ya == sTag || ya == sVal) = true
   ·have := e
    unfold sTag sVal at this
    simp only [this, go_sem]
    rw [hK]
    clear hK
    simp only [go_sem]
    rw [hbad (by simpa using e)]
   ·have e : (ya == sTag || ya == sVal) = false := by simpa only [Bool.not_eq_true] using e
    have := e
    unfold sTag sVal at this
    simp only [this, go_sem]
    refine ⟨Ent_plain (by simp only [go_sem, Option.isSome_some, and_self, List.contains_nil, hw, List.length_append, List.length_cons, List.length_nil, Nat.zero_add]), ?_, ?_⟩
    ·rw [List.map_append]
     refine nodup_snoc hI.1 fun h => ?_
     obtain ⟨z, hz, e2⟩ := List.mem_map.1 h
     exact hI' z hz e2
    ·intro z hz
     rcases List.mem_append.1 hz with h | h
     ·exact hI.2 z h
     ·rw [List.mem_singleton.1 h]
      simpa using e
 ·intro hI
  simp only [fn_l34_proper_L5, ↓reduceIte, go_sem, List.length_map]
  rw [hK]
  clear hK
  simp only [go_sem]
  intro _
  refine loop_named fun K hK => ?_
  refine loop_list L (fun done => ∀ y ∈ done, (findCas y.cases xs).2 = true ∧ (findCas y.cases xs).1.names.length = xk.length ∧ (findCas y.cases xs).1.body.checkE = 0 ∧ (findCas y.cases xs).1.names.Nodup) (fun done _ => ⟨[(11, .d (.int .i64 done.length)), (8, .d (.lst (L.map Meas.cells))), (3, .ptr 3 0)], [(3, [.d (.int .i64 xo), .d (.int .i64 xn), .d (.str xs), .d (.lst (xk.map Va.cells)), .d (.lst (xp.map fun k => [.str k])), .d (.lst (xb.map ExV.cells)), .d (.lst (xd.map BndV.cells))])], []⟩) ?_ (by simp) ?_ ?_
  ·exact Ent_plain (by simp only [go_sem, Option.isSome_some, and_self, List.contains_nil])
  ·intro done y r hl hI2
   have hlt := lt_mid hl
   have hgy := getD_at (f := Meas.cells) (d := []) hl
   have hyL : y ∈ L := mem_at' hl
   have hdl : done.length ≤ L.length := by rw [hl]; simp
   have hw : IntKind.i64.wrap ((done.length : Int) + 1) = ((done.length + 1 : Nat) : Int) := wrap_succ (by omega)
   have hcase := hcase y
   have hP4 := fun h => hP4 h y hyL
   have hyl := Meas.cells_length y
   generalize hF : findCas y.cases xs = F at *
   obtain ⟨⟨cc, cn, cb⟩, ok⟩ := F
   simp only at hP4
   have hcheck := hcheck cb
   generalize hce : cb.checkE = ce at *
   obtain ⟨ya, yb, yc, yl, yo, ys, yn, yk⟩ := y
   obtain ⟨bo, bs, bn, bk⟩ := cb
   simp only [Meas.cells_mk] at hgy hyl
   simp only [Meas.cells_mk, Cas.cells_mk] at hcase
   rw [Pred.cells_eq] at hcheck
   simp only [Pred.op, Pred.name, Pred.n, Pred.kids] at hcheck
   simp only [fn_l34_proper_L3, go_sem, hlt, hgy, List.length_map, Meas.lens]
   intro hml2
   refine call_by hcase ?_
   simp only [go_sem]
   intro hcl
   intro _
   refine call_g hcheck ?_
   simp only [go_sem]
   by_cases hc : (!ok || ((cn.length : Int) != (xk.length : Int)) || ce != 0) = true
   ·simp only [hc, go_sem]
    rw [hK]
    clear hK
    simp only [go_sem]
    rw [hPF fun h => by
     obtain ⟨g1, g2, g3, _⟩ := hP4 h
     subst g1
     rw [g2, g3] at hc
     simp at hc]
   ·have hc : (!ok || ((cn.length : Int) != (xk.length : Int)) || ce != 0) = false := by simpa only [Bool.not_eq_true] using hc
    simp only [hc, go_sem]
    have hok : ok = true ∧ cn.length = xk.length ∧ ce = 0 := by
     simp only [Bool.or_eq_false_iff, Bool.not_eq_false', bne_eq_false_iff_eq] at hc
     exact ⟨hc.1.1, by have := hc.1.2; omega, hc.2⟩
    refine loop_named fun K2 hK2 => ?_
    refine loop_list cn (fun d => d.Nodup) (fun d _ => ⟨[(14, .d (.int .i64 d.length)), (12, .ptr 12 0), (11, .d (.int .i64 done.length)), (8, .d (.lst (L.map Meas.cells))), (3, .ptr 3 0)], [(12, [.d (.str cc), .d (.lst (cn.map fun k => [.str k])), .d (.int .i64 bo), .d (.str bs), .d (.int .i64 bn), .d (.lst (bk.map Pred.cells))]), (3, [.d (.int .i64 xo), .d (.int .i64 xn), .d (.str xs), .d (.lst (xk.map Va.cells)), .d (.lst (xp.map fun k => [.str k])), .d (.lst (xb.map ExV.cells)), .d (.lst (xd.map BndV.cells))])], []⟩) ?_ (by simp) ?_ ?_
    ·exact Ent_plain (by simp only [go_sem, Option.isSome_some, and_self, List.contains_nil])
    ·intro d s r' hl' hI'
     have hlt' := lt_mid hl'
     have hgs := getD_at (f := fun k : Str => [D.str k]) (d := []) hl'
     have hdl' : d.length ≤ cn.length := by rw [hl']; simp
     have hw' : (cn.length : Int) ≤ 9223372036854775807 → IntKind.i64.wrap ((d.length : Int) + 1) = ((d.length + 1 : Nat) : Int) := fun h => wrap_succ (by omega)
     have hdup : ∀ z ∈ d, z = s → R = false := fun z hz e => hPF fun h => not_nodup hl' (e ▸ hz) (hP4 h).2.2.2
     simp only [fn_l34_proper_L2, go_sem, hlt', List.length_map]
     intro hml3
     refine loop_named fun K3 hK3 => ?_
     refine loop_list d (fun a => ∀ z ∈ a, z ≠ s) (fun a _ => ⟨[(15, .d (.int .i64 a.length)), (14, .d (.int .i64 d.length)), (12, .ptr 12 0), (11, .d (.int .i64 done.length)), (8, .d (.lst (L.map Meas.cells))), (3, .ptr 3 0)], [(12, [.d (.str cc), .d (.lst (cn.map fun k => [.str k])), .d (.int .i64 bo), .d (.str bs), .d (.int .i64 bn), .d (.lst (bk.map Pred.cells))]), (3, [.d (.int .i64 xo), .d (.int .i64 xn), .d (.str xs), .d (.lst (xk.map Va.cells)), .d (.lst (xp.map fun k => [.str k])), .d (.lst (xb.map ExV.cells)), .d (.lst (xd.map BndV.cells))])], []⟩) ?_ (by simp) ?_ ?_
     ·exact Ent_plain (by simp only [go_sem, Option.isSome_some, and_self, List.contains_nil])
     ·intro a z r2 hl2 hI3
      have hlt2 := lt_mid hl2
      have hgz := getD_pre (f := fun k : Str => [D.str k]) hl' hl2
      have hltz := lt_pre hl' hl2
      have hal : a.length ≤ d.length := by rw [hl2]; simp
      have hw2 : IntKind.i64.wrap ((a.length : Int) + 1) = ((a.length + 1 : Nat) : Int) := wrap_succ (by omega)
      have hdup := hdup z (mem_at' hl2)
      simp only [fn_l34_proper_L1, go_sem, hlt', hlt2, hltz, hgs, hgz, List.length_map, slen1]
      by_cases e : z = s
      ·have eb : (z == s) = true := by simpa using e
       simp only [eb, go_sem]
       rw [hK3]
       clear hK3
       simp only [go_sem]
       rw [hK2]
       clear hK2
       simp only [go_sem]
       rw [hK]
       clear hK
       simp only [go_sem]
       rw [hdup e]
      ·have eb : (z == s) = false := by simpa using e
       simp only [eb, go_sem]
       refine ⟨Ent_plain (by simp only [go_sem, Option.isSome_some, and_self, List.contains_nil, hw2, List.length_append, List.length_cons, List.length_nil, Nat.zero_add]), fun w hw3 => ?_⟩
       rcases List.mem_append.1 hw3 with h | h
       ·exact hI3 w h
       ·rw [List.mem_singleton.1 h]; exact e
     ·intro hI3
      simp only [fn_l34_proper_L1, ↓reduceIte, go_sem]
      rw [hK3]
      clear hK3
      simp only [go_sem]
      refine ⟨Ent_plain (by simp only [go_sem, Option.isSome_some, and_self, List.contains_nil, hw' hml3, List.length_append, List.length_cons, List.length_nil, Nat.zero_add]), nodup_snoc hI' fun h => hI3 s h rfl⟩
    ·intro hI'
     simp only [fn_l34_proper_L2, ↓reduceIte, go_sem, List.length_map]
     intro _
     rw [hK2]
     clear hK2
     simp only [go_sem]
     refine ⟨Ent_plain (by simp only [go_sem, Option.isSome_some, and_self, List.contains_nil, hw, List.length_append, List.length_cons, List.length_nil, Nat.zero_add]), fun z hz => ?_⟩
     rcases List.mem_append.1 hz with h | h
     ·exact hI2 z h
     ·rw [List.mem_singleton.1 h]
      simp only [hF]
      exact ⟨hok.1, hok.2.1, by rw [hce]; exact hok.2.2, hI'⟩
  ·intro hI2
   simp only [fn_l34_proper_L3, ↓reduceIte, go_sem, List.length_map]
   rw [hK]
   clear hK
   simp only [go_sem]
   rw [hPT (hP rfl hI.1 hI.2 hI2)]
   exact fun _ => rfl
end Go.Abs
end
section
namespace Go.Abs
theorem atC_snoc (P ks : List Va) (k : Va) : atC P (ks ++ [k]) = atC P ks ++ [⟨fieldS ks.length, kN k P⟩] := by
 unfold atC; rw [List.mapIdx_append]; simp
theorem fieldsP_snoc (ks : List Va) (k : Va) : fieldsP (ks ++ [k]) = fieldsP ks ++ [pv (fieldS ks.length)] := by
 unfold fieldsP; rw [List.mapIdx_append]; simp
theorem wrap_le {a b : Nat} (h : a < b) (hb : (b : Int) ≤ 9223372036854775807) : IntKind.i64.wrap ((a : Int) + 1) = ((a + 1 : Nat) : Int) := wrap_succ (by omega)
theorem hold_of {m : Mod} {x : Va} (h3 : x.op = 3) (h8 : x.kids.length ≤ 8) (hp : properS m x = true) : Hold34 m x := by
 have h := properS_iff.1 hp
 refine ⟨h3, h8, h.uniq, h.tag, h.con, fun y hy => ?_⟩
 obtain ⟨g1, g2, g3, _⟩ := h.cas y hy
 unfold findCas at g1 g2 g3
 cases hf : y.cases.find? (fun c => c.con == x.name) with
 | none => rw [hf] at g1; cases g1
 | some c => rw [hf] at g2 g3; exact ⟨c, rfl, g2, g3⟩
theorem fieldsP_tame (ks : List Va) : ∀ p ∈ fieldsP ks, Tame p := fun p hp => by
 unfold fieldsP at hp
 rw [List.mem_iff_getElem?] at hp
 obtain ⟨i, hi⟩ := hp
 rw [List.getElem?_mapIdx] at hi
 cases hk : ks[i]? with
 | none => rw [hk] at hi; cases hi
 | some k =>
  rw [hk] at hi
  simp only [Option.map_some, Option.some.injEq] at hi
  subst hi
  exact tame_of_cnt _ (by show 1 ≤ 1048576; omega)
set_option maxHeartbeats 800000 in
theorem MeasureHolds_ev {E : AEnv} (L : Law34 E) (m : Mod) (hm : MBig m) (x : Va) (hx : x.cnt ≤ 1048576) : E.C l34_MeasureHolds [.agg m.cells, .agg x.cells] (.one (.bool true)) := by
 have Z := L.Z
 have hA := l34_awake_ev L
 have hli := l34_light_ev Z m
 have hfe := l34_few_ev Z x
 have h1 := r34_Parts_ev Z x [] (by simp; omega)
 have h2 := measure_Symbols_ev Z L.value m hm x hx []
 have hsame := fun a b => r29_Same_ev Z a b
 have hv := fun s => l34_v_ev Z s
 have hpr := l34_proper_ev Z m hm x
 have heq := measure_Equations_ev Z m hm x.name (fieldsP x.kids) (pv wholeS) (fieldsP_tame _) (tame_of_cnt _ (by show 1 ≤ 1048576; omega))
 have hho := meaning_Holds_ev Z L.hG L.hIt (atC (x.parts []) x.kids) (symS m x []) (eqnsS m x.name (fieldsP x.kids) (pv wholeS))
 have hlaw : x.op = 3 → x.kids.length ≤ 8 → properS m x = true → ((HoldsS (atC (x.parts []) x.kids) (symS m x []) (eqnsS m x.name (fieldsP x.kids) (pv wholeS))).1 || !(HoldsS (atC (x.parts []) x.kids) (symS m x []) (eqnsS m x.name (fieldsP x.kids) (pv wholeS))).2) = true := fun a b c => holds_law (hold_of a b c)
 have hpl := parts_len x []
 generalize HoldsS (atC (x.parts []) x.kids) (symS m x []) (eqnsS m x.name (fieldsP x.kids) (pv wholeS)) = hr at *
 generalize eqnsS m x.name (fieldsP x.kids) (pv wholeS) = eqn at *
 generalize symS m x [] = W at *
 generalize x.parts [] = P at *
 generalize light34 m = lt at *
 generalize few34 x = fw at *
 generalize properS m x = pr at *
 obtain ⟨hr1, hr2⟩ := hr
 obtain ⟨m0, m1, m2, m3, m4, m5, hmc⟩ := cells6 (l := m.cells) rfl
 obtain ⟨xo, xn, xs, ks, xp, xb, xd⟩ := x
 simp only [Va.op, Va.kids, Va.name] at *
 rw [Va.cells_mk] at hfe h1 h2 hpr ⊢
 rw [hmc] at hli h2 hpr heq ⊢
 clear hmc
 refine Z.l34_MeasureHolds _ _ ⟨Nat.le_of_ble_eq_true rfl, ?_⟩
 simp only [fn_l34_MeasureHolds, go_sem]
 refine call_by hli ?_
 simp only [go_sem]
 refine call_g hfe ?_
 simp only [go_sem]
 intro _
 by_cases hc : (!lt || !fw || xo != 3 || decide ((ks.length : Int) > 8)) = true
 ·simp only [hc, go_sem]
  refine call_by hA ?_
  simp only [go_sem]
 have hc : (!lt || !fw || xo != 3 || decide ((ks.length : Int) > 8)) = false := by simpa only [Bool.not_eq_true] using hc
 have hc2 : xo = 3 ∧ ks.length ≤ 8 := by
  simp only [Bool.or_eq_false_iff, bne_eq_false_iff_eq, decide_eq_false_iff_not] at hc
  exact ⟨hc.1.2, by omega⟩
 obtain ⟨h3, h8⟩ := hc2
 have hlaw := hlaw h3 h8
 subst h3
 simp only [hc, go_sem]
 refine call_by h1 ?_
 simp only [go_sem, List.map_nil, List.not_mem_nil, false_implies, implies_true]
 refine loop_named fun K hK => ?_
 refine loop_list ks (fun _ => True) (fun done _ => ⟨[(8, .d (.int .i64 done.length)), (7, .own 7 4 ((fieldsP done).map Pred.cells)), (6, .own 6 2 ((atC P done).map Coef.cells)), (5, .own 5 7 (P.map Va.cells)), (2, .ptr 2 0), (3, .ptr 3 0)], [(2, [.d m0, .d m1, .d m2, .d m3, .d m4, .d m5]), (3, [.d (.int .i64 3), .d (.int .i64 xn), .d (.str xs), .d (.lst (ks.map Va.cells)), .d (.lst (xp.map fun k => [.str k])), .d (.lst (xb.map ExV.cells)), .d (.lst (xd.map BndV.cells))])], [(7, true), (6, true), (5, true)]⟩) ?_ trivial ?_ ?_
 ·refine Ent_conv2 7 7 4 [] 6 6 2 [[.str wholeS, .int .i64 0]] [(7, 7), (6, 6), (5, 36)] (by simp only [go_sem]) (by simp) (by simp only [go_sem]) (by simp only [go_sem]; rfl) (by simp) (by simp only [go_sem]) ?_
  simp only [Ent0, go_sem, List.contains_nil, List.contains_cons, Nat.reduceBEq, Option.isSome_some, List.map_cons, List.map_nil]
  exact ⟨rfl, rfl⟩
 ·intro done k r hl _
  have hlt := lt_mid hl
  have hgk := getD_at (f := Va.cells) (d := []) hl
  have hdl : done.length < ks.length := by rw [hl]; simp
  have hw : (ks.length : Int) ≤ 9223372036854775807 → IntKind.i64.wrap ((done.length : Int) + 1) = ((done.length + 1 : Nat) : Int) := fun h => wrap_succ (by omega)
  have hw0 : IntKind.i64.wrap ((done.length : Int) + 1) = ((done.length + 1 : Nat) : Int) := wrap_succ (by omega)
  have hsame := fun a => hsame a k
  obtain ⟨ko, kn, kname, kk, kp, kb, kd⟩ := k
  rw [Va.cells_mk] at hgk
  simp only [Va.cells_mk ko kn kname kk kp kb kd] at hsame
  simp only [fn_l34_MeasureHolds_L2, go_sem, hgk, hlt, List.length_map, Va.lens, hw0]
  intro hml
  have hdr : ∀ i < 8, List.drop i ((48 : UInt8) :: List.take i [49, 50, 51, 52, 53, 54, 55, 56, 57]) = [UInt8.ofNat (48 + i)] := by decide
  have hdr := hdr done.length (by omega)
  have hfl : (fieldsP done).length = done.length := by unfold fieldsP; rw [List.length_mapIdx]
  have hcl : (atC P done).length = done.length + 1 := by unfold atC; rw [List.length_cons, List.length_mapIdx]
  refine ⟨⟨by omega, by omega⟩, by rw [hdr]; exact Nat.le_of_ble_eq_true rfl, ?_⟩
  rw [hdr, show (102 :: 105 :: 101 :: 108 :: 100 :: [UInt8.ofNat (48 + done.length)] : Str) = fieldS done.length from rfl]
  have hd9 : done.length + 1 + 1 ≤ 9 := by omega
  have hd8 : done.length + 1 ≤ 8 := by omega
  have o0 : done.length ≤ 9223372036854775806 := by omega
  have o5 : done.length ≤ 9223372036854775805 := by omega
  have o3 : (done.length + 1) ≤ 9223372036854775806 := by omega
  have o1 : (done.length + 1) * 56 ≤ 2 ^ 46 := Nat.le_trans (Nat.mul_le_mul_right 56 hd8) (Nat.le_of_ble_eq_true rfl)
  have o2 : (done.length + 1 + 1) * 24 ≤ 2 ^ 46 := Nat.le_trans (Nat.mul_le_mul_right 24 hd9) (Nat.le_of_ble_eq_true rfl)
  have o4 : ∀ (dj rj : List Va) (y : Va), P = dj ++ y :: rj → dj.length < P.length := fun dj rj y h => by rw [h]; simp
  refine call_by (hv _) ?_
  have hgk' := hgk
  simp only [go_sem, List.length_map, hfl, hgk', hlt, o1, List.mem_singleton, forall_eq, Pred.cells_length]
  refine ⟨o0, ?_⟩
  have hat := atC_snoc P done (Va.mk ko kn kname kk kp kb kd)
  have hfs := fieldsP_snoc done (Va.mk ko kn kname kk kp kb kd)
  have hk0 : kN (Va.mk ko kn kname kk kp kb kd) [] = kn := rfl
  have hkS : ∀ (dj : List Va) (y : Va), kN (Va.mk ko kn kname kk kp kb kd) (dj ++ [y]) = if (ko == 3 && eqB y (Va.mk ko kn kname kk kp kb kd)) = true then (dj.length : Int) else kN (Va.mk ko kn kname kk kp kb kd) dj := fun dj y => kN_snoc _ dj y
  generalize kN (Va.mk ko kn kname kk kp kb kd) = kf at *
  refine loop_named fun K2 hK2 => ?_
  refine loop_list P (fun _ => True) (fun dj _ => ⟨[(11, .d (.int .i64 dj.length)), (10, .d (.int .i64 (kf dj))), (9, .d (.str (fieldS done.length))), (8, .d (.int .i64 done.length)), (7, .own 7 4 ((fieldsP (done ++ [Va.mk ko kn kname kk kp kb kd])).map Pred.cells)), (6, .own 6 2 ((atC P done).map Coef.cells)), (5, .own 5 7 (P.map Va.cells)), (2, .ptr 2 0), (3, .ptr 3 0)], [(2, [.d m0, .d m1, .d m2, .d m3, .d m4, .d m5]), (3, [.d (.int .i64 3), .d (.int .i64 xn), .d (.str xs), .d (.lst (ks.map Va.cells)), .d (.lst (xp.map fun k => [.str k])), .d (.lst (xb.map ExV.cells)), .d (.lst (xd.map BndV.cells))])], [(7, true), (6, true), (5, true)]⟩) ?_ trivial ?_ ?_
  ·exact Ent_own [(7, 55), (6, 6), (5, 5)] (by simp only [go_sem, List.contains_nil, List.contains_cons, Nat.reduceBEq, Option.isSome_some, hfs, List.map_append, List.map_cons, List.map_nil, hk0])
  ·intro dj y rj hlj _
   have hltj := lt_mid hlj
   have hgy := getD_at (f := Va.cells) (d := []) hlj
   have hwj : (P.length : Int) ≤ 9223372036854775807 → IntKind.i64.wrap ((dj.length : Int) + 1) = ((dj.length + 1 : Nat) : Int) := fun h => wrap_le (o4 _ _ _ hlj) h
   have hsame := hsame y
   have hkN := hkS dj y
   generalize eqB y (Va.mk ko kn kname kk kp kb kd) = q at *
   obtain ⟨y0, y1, y2, y3, y4, y5, y6, hcy⟩ := cells7 (Va.cells_length y)
   rw [hcy] at hgy hsame
   simp only [fn_l34_MeasureHolds_L1, go_sem, hgk, hgy, hlt, hltj, List.length_map, Va.lens]
   intro hml3
   refine call_g hsame ?_
   simp only [go_sem]
   by_cases hq : (ko == 3 && q) = true
   ·rw [hq] at hkN
    simp only [if_true] at hkN
    simp only [hq, go_sem]
    exact Ent_own [(7, 7), (6, 6), (5, 5)] (by simp only [go_sem, List.contains_nil, List.contains_cons, Nat.reduceBEq, Option.isSome_some, hkN, hwj hml3, List.length_append, List.length_cons, List.length_nil, Nat.zero_add])
   ·have hq : (ko == 3 && q) = false := by simpa only [Bool.not_eq_true] using hq
    rw [hq] at hkN
    simp only [Bool.false_eq_true, if_false] at hkN
    simp only [hq, go_sem]
    exact Ent_own [(7, 7), (6, 6), (5, 5)] (by simp only [go_sem, List.contains_nil, List.contains_cons, Nat.reduceBEq, Option.isSome_some, hkN, hwj hml3, List.length_append, List.length_cons, List.length_nil, Nat.zero_add])
  ·simp only [fn_l34_MeasureHolds_L1, ↓reduceIte, go_sem, List.length_map, Va.lens]
   intro _
   rw [hK2]
   clear hK2
   simp only [go_sem, List.length_map, hcl, o2, o3, List.mem_singleton, forall_eq, hw0]
   refine ⟨o5, ?_⟩
   exact Ent_own [(7, 7), (6, 93), (5, 5)] (by simp only [go_sem, List.contains_nil, List.contains_cons, Nat.reduceBEq, Option.isSome_some, hat, List.map_append, List.map_cons, List.map_nil, Coef.cells, List.length_append, List.length_cons, List.length_nil, Nat.zero_add])
 ·simp only [fn_l34_MeasureHolds_L2, ↓reduceIte, go_sem, List.length_map, Va.lens]
  intro _
  rw [hK]
  clear hK
  simp only [blockK_exit, if_true, seqK_normal]
  simp only [go_sem]
  refine call_by hpr ?_
  cases pr with
  | false =>
   simp only [go_sem]
   refine call_by hA ?_
   simp only [go_sem]
  | true =>
  have hlaw := hlaw rfl
  simp only [go_sem]
  rw [Pred.cells_eq eqn] at heq hho
  refine call_by (hv _) ?_
  simp only [go_sem]
  refine call_by heq ?_
  simp only [go_sem]
  refine call_by h2 ?_
  simp only [go_sem]
  refine call_by hho ?_
  simp only [go_sem]
  refine call_g hA ?_
  simp only [go_sem]
  exact hlaw h8 rfl
end Go.Abs
end
