/-
  CONTRACTS: what the functions answer, as plain Lean functions, each by evaluation at the abstract machine.
-/
import Derived.Test.YtfkkgglknnegnaaDoorCon2
section
set_option linter.unusedSimpArgs false
set_option linter.unusedVariables false
set_option linter.unusedSectionVars false
namespace Go.Abs
/-! ## plain law: replacing a variable is giving it a value -/
theorem AllN.mk {P : Pred → Prop} {o : Int} {s : Str} {n : Int} {ks : List Pred} (h : P (.mk o s n ks)) (hk : ∀ k ∈ ks, AllN P k) : AllN P (.mk o s n ks) := by
  intro q hq
  rw [Pred.pre_eq] at hq
  have hq' := List.mem_cons.1 hq
  clear hq
  rcases hq' with rfl | hq
  · exact h
  · clear h
    revert hq
    induction ks with
    | nil => intro hq; cases hq
    | cons x ks ih =>
      intro hq
      rw [Pred.pre.pres, List.mem_append] at hq
      rcases hq with hq | hq
      · exact hk x (by simp) q hq
      · exact ih (fun k hk' => hk k (by simp [hk'])) hq
theorem Pred.cnt_pos (p : Pred) : 1 ≤ p.cnt := by cases p; rw [Pred.cnt]; omega
theorem Pred.len_cnts (ks : List Pred) : ks.length ≤ Pred.cnts ks := by
  induction ks with
  | nil => simp
  | cons k ks ih => rw [Pred.cnts, List.length_cons]; have := Pred.cnt_pos k; omega
theorem tame_of_cnt (p : Pred) (h : p.cnt ≤ 1048576) : Tame p := by
  induction p using Pred.ind with
  | h o s n ks ih =>
  rw [Pred.cnt] at h
  refine AllN.mk ?_ fun k hk => ih k hk ?_
  · have := Pred.len_cnts ks
    show Small ks.length
    unfold Small; omega
  · have := Pred.cnt_le hk; omega
theorem bnd_range {n : Int} (h : (bnd n).2 = true) : inRange (bnd n).1 = true := by
  unfold bnd at h ⊢
  cases hr : inRange n <;> simp [hr] at h ⊢
theorem addI_range {a b : Int} (h : (addI a b).2 = true) : inRange (addI a b).1 = true := by
  unfold addI at h ⊢
  split at h
  · rename_i hc; rw [if_pos hc]; exact bnd_range h
  · cases h
theorem subI_range {a b : Int} (h : (subI a b).2 = true) : inRange (subI a b).1 = true := by
  unfold subI at h ⊢
  split at h
  · rename_i hc; rw [if_pos hc]; exact bnd_range h
  · cases h
theorem mulI_range {a b : Int} (h : (mulI a b).2 = true) : inRange (mulI a b).1 = true := by
  unfold mulI at h ⊢
  split at h
  · rename_i hc; rw [if_pos hc]; exact bnd_range h
  · cases h
theorem tru_range (b : Bool) : inRange (tru b) = true := by cases b <;> decide
theorem compI_range {o a b : Int} (ho : 6 ≤ o ∧ o ≤ 18) (h : (compI o a b).2 = true) : inRange (compI o a b).1 = true := by
  have hor : o = 6 ∨ o = 7 ∨ o = 8 ∨ o = 9 ∨ o = 10 ∨ o = 11 ∨ o = 12 ∨ o = 13 ∨ o = 14 ∨ o = 15 ∨ o = 16 ∨ o = 17 ∨ o = 18 := by omega
  rcases hor with rfl | rfl | rfl | rfl | rfl | rfl | rfl | rfl | rfl | rfl | rfl | rfl | rfl
  · exact addI_range h
  · exact subI_range h
  · exact mulI_range h
  · exact subI_range h
  all_goals exact tru_range _
theorem Good.num {o : Int} {s : Str} {n : Int} {ks : List Pred} (h : Good (.mk o s n ks)) (ho : o = 1 ∨ o = 2) : inRange n = true := by
  have h := AllN.top h
  change nodeE o s n ks = 0 at h
  unfold nodeE at h
  split at h
  · cases h
  · split at h
    · cases h
    · rename_i h2
      rw [inRange_iff]
      rcases ho with rfl | rfl
      · have : inRange n = true := by simpa using h2
        rw [inRange_iff] at this; omega
      · simp at h2; omega
theorem valR_range (at' : List Coef) (fs : List Fact) (p : Pred) (hp : Good p) (h : (valR at' fs p).2 = true) : inRange (valR at' fs p).1 = true := by
  obtain ⟨o, s, n, ks⟩ := p
  obtain ⟨⟨o1, o2⟩, hk, _, _⟩ := hp.top
  have hn := hp.num
  rw [valR_eq] at h ⊢
  by_cases c1 : (o == 1 || o == 2) = true
  · rw [if_pos c1]; exact hn (by simpa using c1)
  rw [if_neg c1] at h ⊢
  by_cases c3 : (o == 3) = true
  · rw [if_pos c3] at h ⊢
    split at h
    · rename_i hc; rw [if_pos hc]; exact bnd_range h
    · cases h
  rw [if_neg c3] at h ⊢
  by_cases c5 : (o == 5) = true
  · rw [if_pos c5] at h; cases h
  rw [if_neg c5] at h ⊢
  by_cases ha : ks.all (fun k => (valR at' fs k).2) = true
  case neg => rw [if_neg ha] at h; cases h
  rw [if_pos ha] at h ⊢
  unfold topR at h ⊢
  by_cases c4 : (o == 4) = true
  · rw [if_pos c4] at h ⊢
    unfold factR at h ⊢
    split at h
    · exact bnd_range h
    · cases h
  rw [if_neg c4] at h ⊢
  simp at c1 c3 c4 c5
  exact compI_range ⟨by omega, o2⟩ h
theorem EvalS_eq {at' : List Coef} {fs : List Fact} {p : Pred} (h : p.checkE = 0) : EvalS at' fs p = valR at' fs p := by unfold EvalS; rw [h]; rfl
theorem EvalS_check {at' : List Coef} {fs : List Fact} {p : Pred} (h : (EvalS at' fs p).2 = true) : p.checkE = 0 := by
  unfold EvalS at h
  by_cases hc : (p.checkE != 0) = true
  · rw [if_pos hc] at h; cases h
  · simpa using hc
theorem val_subst {at' : List Coef} {fs : List Fact} {name : Str} {by' : Pred} {k : Int} (hby : valR at' fs by' = (k, true)) (hk : inRange k = true) (p : Pred) (hp : Good p) :
    valR (⟨name, k⟩ :: at') fs p = valR at' fs (subAll [name] [by'] p) := by
  induction p using Pred.ind with
  | h o s n ks ih =>
  obtain ⟨⟨o1, o2⟩, hkk, _, _⟩ := hp.top
  rw [subAll_eq]
  by_cases c3 : o = 3
  · subst c3
    obtain rfl := kids_leaf hkk rfl
    by_cases hs : name = s
    · subst hs
      have : findIx name 0 [name] = 0 := by simp [findIx]
      rw [this, if_pos (by rfl)]
      show valR _ fs _ = valR at' fs by'
      rw [hby, valR_eq]
      simp [findC, bnd, hk]
    · have : findIx s 0 [name] = -1 := by simp [findIx, hs]
      rw [this, if_neg (by simp), valR_eq, valR_eq]
      have hf : findC s (⟨name, k⟩ :: at') = findC s at' := by rw [findC, if_neg (by simpa using hs)]
      simp [hf]
  · have e3 : (o == 3) = false := by simpa using c3
    rw [e3, Bool.false_and, if_neg Bool.false_ne_true, valR_eq, valR_eq]
    have hall : (ks.map (subAll [name] [by'])).all (fun k => (valR at' fs k).2) = ks.all (fun x => (valR (⟨name, k⟩ :: at') fs x).2) := by
      have : ∀ l : List Pred, (∀ x ∈ l, x ∈ ks) → (l.map (subAll [name] [by'])).all (fun k => (valR at' fs k).2) = l.all (fun x => (valR (⟨name, k⟩ :: at') fs x).2) := by
        intro l
        induction l with
        | nil => intro _; rfl
        | cons x l ih2 =>
          intro hl
          rw [List.map_cons, List.all_cons, List.all_cons, ih2 (fun y hy => hl y (by simp [hy])), ih x (hl x (by simp)) (hp.kid (hl x (by simp)))]
      exact this ks fun _ h => h
    have hmap : (ks.map (subAll [name] [by'])).map (fun k => (valR at' fs k).1) = ks.map (fun x => (valR (⟨name, k⟩ :: at') fs x).1) := by
      rw [List.map_map]
      refine List.map_congr_left fun x hx => ?_
      rw [ih x hx (hp.kid hx)]; rfl
    rw [hall, hmap]
    simp only [e3, Bool.false_eq_true, if_false]
    rfl
theorem eval_subst {at' : List Coef} {fs : List Fact} (name : Str) {by' p : Pred} (h : (EvalS at' fs by').2 = true) (hp : p.checkE = 0) (hq : (subAll [name] [by'] p).checkE = 0) :
    EvalS (⟨name, (EvalS at' fs by').1⟩ :: at') fs p = EvalS at' fs (subAll [name] [by'] p) := by
  have hc := EvalS_check h
  rw [EvalS_eq hc] at h ⊢
  rw [EvalS_eq hp, EvalS_eq hq]
  exact val_subst (by rw [← h]) (valR_range at' fs by' (good_of hc) h) p (good_of hp)
def nm5 : List Str := [[120], [121], [118], [98], [108]]
set_option maxRecDepth 100000
variable {E : AEnv} (L : Law10 E)
include L
theorem MeaningReplaces_ev (p by' : Pred) (at' : List Coef) (fs : List Fact) (hp : Tame p) : E.C l10_MeaningReplaces [.agg p.cells, .agg by'.cells, .agg [.lst (at'.map Coef.cells), .lst (fs.map Fact.cells)]] (.one (.bool true)) := by
  have hf := l10_few_ev L.sys p at' fs
  have hal := L.alive
  have hn1 := r07_Nodes_ev L.sys p
  have hn2 := r07_Nodes_ev L.sys by'
  have hsub := fun s => r07_Subst_ev L.sys s by' p hp
  have he := L.eval at' fs by'
  have hcp := r07_Check_ev L.sys p
  have hcq := fun s => r07_Check_ev L.sys (subAll [s] [by'] p)
  have hep := fun s n => L.eval (⟨s, n⟩ :: at') fs p
  have heq := fun s => L.eval at' fs (subAll [s] [by'] p)
  have hlaw := fun s => @eval_subst at' fs s by' p
  have hfew := @few_small p at' fs
  simp only [List.map_cons, Coef.cells] at hep
  unfold res2 at *
  refine L.sys.l10_MeaningReplaces _ _ ⟨Nat.le_of_ble_eq_true rfl, ?_⟩
  have hrs : fn_l10_MeaningReplaces.rs = [.t 6] := rfl
  refine seq_named fun N0 h0 => ?_
  simp only [go_sem, Nat.reduceEqDiff, reduceCtorEq, Nat.reduceAdd, Nat.reduceLeDiff, Nat.reduceMul, Nat.reduceLT, Int.reduceToNat, Int.reduceLT, Int.reduceLE, Int.reduceEq, Nat.reduceSub, List.length_map]
  rw [h0]
  refine seq_named fun N1 h1 => ?_
  simp only [go_sem, Nat.reduceEqDiff, reduceCtorEq, Nat.reduceAdd, Nat.reduceLeDiff, Nat.reduceMul, Nat.reduceLT, Int.reduceToNat, Int.reduceLT, Int.reduceLE, Int.reduceEq, Nat.reduceSub, List.length_map]
  refine call_by hf ?_
  simp only [go_sem, Nat.reduceEqDiff, reduceCtorEq, Nat.reduceAdd, Nat.reduceLeDiff, Nat.reduceMul, Nat.reduceLT, Int.reduceToNat, Int.reduceLT, Int.reduceLE, Int.reduceEq, Nat.reduceSub, List.length_map]
  refine call_gi (fun _ => hn1) ?_
  simp only [go_sem, Nat.reduceEqDiff, reduceCtorEq, Nat.reduceAdd, Nat.reduceLeDiff, Nat.reduceMul, Nat.reduceLT, Int.reduceToNat, Int.reduceLT, Int.reduceLE, Int.reduceEq, Nat.reduceSub, List.length_map]
  refine call_gi (fun _ => hn2) ?_
  simp only [go_sem, Nat.reduceEqDiff, reduceCtorEq, Nat.reduceAdd, Nat.reduceLeDiff, Nat.reduceMul, Nat.reduceLT, Int.reduceToNat, Int.reduceLT, Int.reduceLE, Int.reduceEq, Nat.reduceSub]
  cases c0 : (!fewB p at' fs || decide (p.nodes > 100) || decide (by'.nodes > 100)) with
  | true =>
    simp only [go_sem, Nat.reduceEqDiff, reduceCtorEq, Nat.reduceAdd, Nat.reduceLeDiff, Nat.reduceMul, Nat.reduceLT, Int.reduceToNat, Int.reduceLT, Int.reduceLE, Int.reduceEq, Nat.reduceSub]
    refine call_by hal ?_
    simp only [go_sem, Nat.reduceEqDiff, reduceCtorEq, Nat.reduceAdd, Nat.reduceLeDiff, Nat.reduceMul, Nat.reduceLT, Int.reduceToNat, Int.reduceLT, Int.reduceLE, Int.reduceEq, Nat.reduceSub, hrs]
  | false =>
  simp only [go_sem, Nat.reduceEqDiff, reduceCtorEq, Nat.reduceAdd, Nat.reduceLeDiff, Nat.reduceMul, Nat.reduceLT, Int.reduceToNat, Int.reduceLT, Int.reduceLE, Int.reduceEq, Nat.reduceSub]
  have hfb : fewB p at' fs = true := by revert c0; cases fewB p at' fs <;> simp
  have hat : at'.length ≤ 60 := (hfew hfb).2.1
  rw [h1]
  refine seq_named fun N2 h2 => ?_
  simp only [go_sem, Nat.reduceEqDiff, reduceCtorEq, Nat.reduceAdd, Nat.reduceLeDiff, Nat.reduceMul, Nat.reduceLT, Int.reduceToNat, Int.reduceLT, Int.reduceLE, Int.reduceEq, Nat.reduceSub]
  refine loop_named fun K' hK => ?_
  refine loop_list nm5 (fun _ => True) (fun done rest => ⟨[(37, .d (.int .i64 done.length)), (36, .d (.int .i64 5)), (35, .d (.lst (nm5.map fun k => [.str k]))), (3, .ptr 3 0), (4, .ptr 4 0), (5, .ptr 5 0)], [(5, [.d (.lst (at'.map Coef.cells)), .d (.lst (fs.map Fact.cells))]), (4, by'.cells.map .d), (3, p.cells.map .d)], []⟩) ?_ trivial ?_ ?_
  · exact Ent_plain (by simp only [go_sem, Nat.reduceEqDiff, reduceCtorEq, Nat.reduceAdd, Nat.reduceLeDiff, Nat.reduceMul, Nat.reduceLT, Int.reduceToNat, Int.reduceLT, Int.reduceLE, Int.reduceEq, Nat.reduceSub, Option.isSome_some, nm5, List.map_cons, List.map_nil, List.length_nil])
  · intro done s r hl _
    have hlt : (done.length : Int) < 5 := by have := lt_mid hl; rw [show nm5.length = 5 from rfl] at this; exact this
    have hln : (nm5.map fun k => [D.str k]).length = 5 := rfl
    have hw : IntKind.i64.wrap ((done.length : Int) + 1) = ((done.length + 1 : Nat) : Int) := wrap_succ (by omega)
    have hx : (nm5.map fun k => [D.str k]).getD done.length [] = [.str s] := by rw [hl]; exact getD_mid _ _ _ _ _
    have hls : (∀ e ∈ nm5.map fun k => [D.str k], e.length = 1) = True := eq_true (by simp [nm5])
    have hlt' : (done.length : Int) < ((5 : Nat) : Int) := hlt
    simp only [fn_l10_MeaningReplaces_L1, go_sem, Nat.reduceEqDiff, reduceCtorEq, Nat.reduceAdd, Nat.reduceLeDiff, Nat.reduceMul, Nat.reduceLT, Int.reduceToNat, Int.reduceLT, Int.reduceLE, Int.reduceEq, Nat.reduceSub, hlt, hlt', hln, hx, hls, List.length_map]
    refine call_by (hsub s) ?_
    simp only [go_sem, Nat.reduceEqDiff, reduceCtorEq, Nat.reduceAdd, Nat.reduceLeDiff, Nat.reduceMul, Nat.reduceLT, Int.reduceToNat, Int.reduceLT, Int.reduceLE, Int.reduceEq, Nat.reduceSub, List.length_map]
    refine call_by he ?_
    simp only [go_sem, Nat.reduceEqDiff, reduceCtorEq, Nat.reduceAdd, Nat.reduceLeDiff, Nat.reduceMul, Nat.reduceLT, Int.reduceToNat, Int.reduceLT, Int.reduceLE, Int.reduceEq, Nat.reduceSub, List.length_map]
    refine call_gi (fun _ => hcp) ?_
    simp only [go_sem, Nat.reduceEqDiff, reduceCtorEq, Nat.reduceAdd, Nat.reduceLeDiff, Nat.reduceMul, Nat.reduceLT, Int.reduceToNat, Int.reduceLT, Int.reduceLE, Int.reduceEq, Nat.reduceSub, List.length_map]
    refine call_gi (fun _ => hcq s) ?_
    simp only [go_sem, Nat.reduceEqDiff, reduceCtorEq, Nat.reduceAdd, Nat.reduceLeDiff, Nat.reduceMul, Nat.reduceLT, Int.reduceToNat, Int.reduceLT, Int.reduceLE, Int.reduceEq, Nat.reduceSub]
    have hlaw := hlaw s
    generalize EvalS at' fs by' = R1 at *
    cases c1 : (!R1.2 || p.checkE != 0 || (subAll [s] [by'] p).checkE != 0) with
    | true =>
      simp only [go_sem, Nat.reduceEqDiff, reduceCtorEq, Nat.reduceAdd, Nat.reduceLeDiff, Nat.reduceMul, Nat.reduceLT, Int.reduceToNat, Int.reduceLT, Int.reduceLE, Int.reduceEq, Nat.reduceSub, hw, List.length_append]
      exact Ent_plain (by simp only [go_sem, Nat.reduceEqDiff, reduceCtorEq, Nat.reduceAdd, Nat.reduceLeDiff, Nat.reduceMul, Nat.reduceLT, Int.reduceToNat, Int.reduceLT, Int.reduceLE, Int.reduceEq, Nat.reduceSub, Option.isSome_some])
    | false =>
      simp only [Bool.or_eq_false_iff, Bool.not_eq_false', bne_eq_false_iff_eq] at c1
      have hlaw := hlaw c1.1.1 c1.1.2 c1.2
      have o1 : (1 + at'.length) * 24 ≤ 2 ^ 46 := by omega
      have o2 : 1 + at'.length ≤ 9223372036854775807 := by omega
      have hi : (∀ e ∈ [[D.str s, D.int .i64 R1.1]], e.length = 2) = True := eq_true (by simp)
      simp only [go_sem, Nat.reduceEqDiff, reduceCtorEq, Nat.reduceAdd, Nat.reduceLeDiff, Nat.reduceMul, Nat.reduceLT, Int.reduceToNat, Int.reduceLT, Int.reduceLE, Int.reduceEq, Nat.reduceSub, hi, List.length_map, o1, o2]
      refine call_by (hep s R1.1) ?_
      simp only [go_sem, Nat.reduceEqDiff, reduceCtorEq, Nat.reduceAdd, Nat.reduceLeDiff, Nat.reduceMul, Nat.reduceLT, Int.reduceToNat, Int.reduceLT, Int.reduceLE, Int.reduceEq, Nat.reduceSub, List.length_map]
      refine call_by (heq s) ?_
      rw [hlaw]
      simp only [go_sem, Nat.reduceEqDiff, reduceCtorEq, Nat.reduceAdd, Nat.reduceLeDiff, Nat.reduceMul, Nat.reduceLT, Int.reduceToNat, Int.reduceLT, Int.reduceLE, Int.reduceEq, Nat.reduceSub, bne_self_eq_false, beq_self_eq_true, hw, List.length_append]
      exact Ent_plain (by simp only [go_sem, Nat.reduceEqDiff, reduceCtorEq, Nat.reduceAdd, Nat.reduceLeDiff, Nat.reduceMul, Nat.reduceLT, Int.reduceToNat, Int.reduceLT, Int.reduceLE, Int.reduceEq, Nat.reduceSub, Option.isSome_some])
  · intro _
    have hln : (nm5.length : Int) = 5 := rfl
    simp only [fn_l10_MeaningReplaces_L1, go_sem, Nat.reduceEqDiff, reduceCtorEq, Nat.reduceAdd, Nat.reduceLeDiff, Nat.reduceMul, Nat.reduceLT, Int.reduceToNat, Int.reduceLT, Int.reduceLE, Int.reduceEq, Nat.reduceSub, hln, hK, h2]
    refine call_by hal ?_
    simp only [go_sem, Nat.reduceEqDiff, reduceCtorEq, Nat.reduceAdd, Nat.reduceLeDiff, Nat.reduceMul, Nat.reduceLT, Int.reduceToNat, Int.reduceLT, Int.reduceLE, Int.reduceEq, Nat.reduceSub, hrs]
end Go.Abs
end
section
set_option linter.unusedSimpArgs false
set_option linter.unusedVariables false
set_option linter.unusedSectionVars false
namespace Go.Abs
/-! ## plain law: negations and conjunctions -/
theorem check_zero : Pred.checkE zeroP = 1 := by decide +kernel
theorem check_true : Pred.checkE trueP = 0 := by decide +kernel
theorem check_false : Pred.checkE falseP = 0 := by decide +kernel
theorem not_zero {p : Pred} (h : p.checkE = 0) : p.same zeroP = false := by
  cases hs : p.same zeroP with
  | false => rfl
  | true => rw [(Pred.same_iff _ _).1 hs, check_zero] at h; cases h
theorem holds_val {at' : List Coef} {fs : List Fact} {p : Pred} {n : Int} (h : p.checkE = 0) (hv : valR at' fs p = (n, true)) : HoldsS at' fs p = (n != 0, true) := by
  unfold HoldsS
  rw [not_zero h, if_neg Bool.false_ne_true, EvalS_eq h, hv]; rfl
theorem holds_get {at' : List Coef} {fs : List Fact} {p : Pred} (hz : p.same zeroP = false) (h : (HoldsS at' fs p).2 = true) : p.checkE = 0 ∧ ∃ n, valR at' fs p = (n, true) ∧ HoldsS at' fs p = (n != 0, true) := by
  have h' := h
  unfold HoldsS at h'
  rw [hz, if_neg Bool.false_ne_true] at h'
  have hc := EvalS_check h'
  have hv : valR at' fs p = ((valR at' fs p).1, true) := by
    rw [EvalS_eq hc] at h'
    simp only at h'
    rw [← h']
  exact ⟨hc, _, hv, holds_val hc hv⟩
theorem holds_true (at' : List Coef) (fs : List Fact) : HoldsS at' fs trueP = (true, true) := holds_val (n := 1) check_true rfl
theorem holds_false (at' : List Coef) (fs : List Fact) : HoldsS at' fs falseP = (false, true) := holds_val (n := 0) check_false rfl
theorem holds_zero (at' : List Coef) (fs : List Fact) : HoldsS at' fs zeroP = (true, true) := by unfold HoldsS; rw [Pred.same_refl]; rfl
theorem holds_void {at' : List Coef} {fs : List Fact} {p : Pred} (h : voidP p = true) : HoldsS at' fs p = (true, true) := by
  unfold voidP at h
  rcases Bool.or_eq_true_iff.1 h with h | h
  · rw [(Pred.same_iff _ _).1 h]; exact holds_zero _ _
  · rw [(Pred.same_iff _ _).1 h]; exact holds_true _ _
theorem void_not_zero {p : Pred} (h : voidP p = false) : p.same zeroP = false := by
  unfold voidP at h
  exact (Bool.or_eq_false_iff.1 h).1
theorem tru_ne (b : Bool) : (tru b != 0) = b := by cases b <;> rfl
theorem check_small {p : Pred} (h1 : p.cnt ≤ 400) (h2 : p.dep ≤ 40) (h3 : p.formE = 0) : p.checkE = 0 :=
  Pred.checkE_of (by rw [Pred.nodes_cnt _ (by omega)]; omega) (by rw [Pred.depth_dep _ (by omega)]; omega) h3
theorem val_not {at' : List Coef} {fs : List Fact} {s : Str} {m : Int} (p : Pred) {n : Int} (h : valR at' fs p = (n, true)) : valR at' fs (.mk 14 s m [p]) = (tru (n == 0), true) := by
  rw [valR_eq]
  simp [h, topR, compI]
theorem val_and {at' : List Coef} {fs : List Fact} (p q : Pred) {n m : Int} (h : valR at' fs p = (n, true)) (h2 : valR at' fs q = (m, true)) : valR at' fs (.mk 15 [] 0 [p, q]) = (tru (n != 0 && m != 0), true) := by
  rw [valR_eq]
  simp [h, h2, topR, compI]
theorem form_not {p : Pred} (h : p.formE = 0) : Pred.formE (.mk 14 [] 0 [p]) = 0 := by
  rw [Pred.formE_eq]
  have : nodeE 14 [] 0 [p] = 0 := by simp [nodeE, isOpNamed, kidsOk, calledOk]
  rw [this, if_neg (by decide), Pred.formE.formEs, h]; rfl
theorem form_and {p q : Pred} (h : p.formE = 0) (h2 : q.formE = 0) : Pred.formE (.mk 15 [] 0 [p, q]) = 0 := by
  rw [Pred.formE_eq]
  have : nodeE 15 [] 0 [p, q] = 0 := by simp [nodeE, isOpNamed, kidsOk, calledOk]
  rw [this, if_neg (by decide), Pred.formE.formEs, h, if_neg (by decide), Pred.formE.formEs, h2]; rfl
theorem small_parts {p : Pred} (hc : p.cnt < 2 ^ 62) {a b : Nat} (hn : p.nodes ≤ a) (hd : p.depth ≤ b) : p.cnt ≤ a ∧ p.dep ≤ b := by
  have h1 := Pred.dep_cnt p
  rw [Pred.nodes_cnt _ hc] at hn
  rw [Pred.depth_dep _ (by omega)] at hd
  omega
theorem holds_not {at' : List Coef} {fs : List Fact} {p : Pred} (hc : p.cnt < 2 ^ 62) (hn : p.nodes ≤ 60) (hd : p.depth ≤ 30) (h : (HoldsS at' fs p).2 = true) :
    HoldsS at' fs (notP p) = (!(HoldsS at' fs p).1, true) := by
  obtain ⟨hcn, hdp⟩ := small_parts hc (a := 60) (b := 30) (by omega) (by omega)
  unfold notP
  by_cases c1 : (p.op == 14 && (p.kids.length : Int) == 1) = true
  · rw [if_pos c1]
    obtain ⟨o, s, n, ks⟩ := p
    simp only [Pred.op, Pred.kids, Bool.and_eq_true, beq_iff_eq] at c1 ⊢
    obtain ⟨rfl, hl⟩ := c1
    obtain ⟨k, rfl⟩ := one_split (by omega : ks.length = 1)
    obtain ⟨hch, m, hv, hh⟩ := holds_get (at' := at') (fs := fs) (p := .mk 14 s n [k]) (by rw [show zeroP = .mk 0 [] 0 [] from rfl, Pred.same_eq]; rfl) h
    have hck := Pred.checkE_kid hc hch (k := k) (by simp)
    have hk2 : (valR at' fs k).2 = true := by
      cases hk : (valR at' fs k).2 with
      | true => rfl
      | false => rw [valR_eq] at hv; simp [hk] at hv
    have hvk : valR at' fs k = ((valR at' fs k).1, true) := by rw [← hk2]
    rw [val_not k hvk] at hv
    have hm : m = tru ((valR at' fs k).1 == 0) := by simpa using (congrArg Prod.fst hv).symm
    rw [hh, hm, tru_ne]
    show HoldsS at' fs k = _
    rw [holds_val hck hvk]
    simp [bne]
  rw [if_neg c1]
  by_cases c2 : voidP p = true
  · rw [if_pos c2, holds_void c2, holds_false]; rfl
  rw [if_neg c2]
  by_cases c3 : p.same falseP = true
  · rw [if_pos c3, (Pred.same_iff _ _).1 c3, holds_true, holds_false]; rfl
  rw [if_neg c3]
  obtain ⟨hch, m, hv, hh⟩ := holds_get (void_not_zero (by simpa using c2)) h
  have hf := formE_of_check hch
  have hc2 : Pred.checkE (.mk 14 [] 0 [p]) = 0 := check_small (by rw [Pred.cnt, Pred.cnts, Pred.cnts]; omega) (by rw [Pred.dep, Pred.deps, Pred.deps]; omega) (form_not hf)
  rw [holds_val hc2 (val_not p hv), hh, tru_ne]
  simp [bne]
def tv (at' : List Coef) (fs : List Fact) (p : Pred) : Bool := (HoldsS at' fs p).1
structure AndInv (at' : List Coef) (fs : List Fact) (done : List Pred) (x : Pred × Bool) : Prop where
  no : x.2 = false → x.1 = trueP ∧ done.all (tv at' fs) = true
  yes : x.2 = true → 1 ≤ done.length ∧ x.1.formE = 0 ∧ x.1.cnt ≤ 61 * done.length ∧ x.1.dep ≤ 29 + done.length ∧ ∃ m, valR at' fs x.1 = (m, true) ∧ (m != 0) = done.all (tv at' fs)
theorem and_step {at' : List Coef} {fs : List Fact} {done : List Pred} {x : Pred × Bool} {k : Pred} (hx : AndInv at' fs done x) (hc : k.cnt < 2 ^ 62) (hn : k.nodes ≤ 60) (hd : k.depth ≤ 30) (h : (HoldsS at' fs k).2 = true) : AndInv at' fs (done ++ [k]) (andStp x k) := by
  obtain ⟨hcn, hdp⟩ := small_parts hc (a := 60) (b := 30) (by omega) (by omega)
  have hall : (done ++ [k]).all (tv at' fs) = (done.all (tv at' fs) && tv at' fs k) := by rw [List.all_append]; simp
  unfold andStp
  by_cases c2 : voidP k = true
  · rw [if_pos c2]
    have ht : tv at' fs k = true := by unfold tv; rw [holds_void c2]
    refine ⟨fun hx2 => ?_, fun hx2 => ?_⟩
    · rw [hall, ht, Bool.and_true]; exact hx.no hx2
    · obtain ⟨a1, a2, a3, a4, m, a5, a6⟩ := hx.yes hx2
      rw [hall, ht, Bool.and_true]
      exact ⟨by simp, a2, by simp; omega, by simp; omega, m, a5, a6⟩
  rw [if_neg c2]
  obtain ⟨hch, n, hv, hh⟩ := holds_get (void_not_zero (by simpa using c2)) h
  have hf := formE_of_check hch
  have ht : tv at' fs k = (n != 0) := by unfold tv; rw [hh]
  by_cases c3 : x.2 = true
  · rw [if_pos c3]
    obtain ⟨a1, a2, a3, a4, m, a5, a6⟩ := hx.yes c3
    refine ⟨fun e => (by cases e), fun _ => ⟨by simp, form_and a2 hf, ?_, ?_, _, val_and _ _ a5 hv, ?_⟩⟩
    · rw [Pred.cnt, Pred.cnts, Pred.cnts, Pred.cnts]; simp; omega
    · rw [Pred.dep, Pred.deps, Pred.deps, Pred.deps]; simp; omega
    · rw [tru_ne, hall, a6, ht]
  · rw [if_neg c3]
    obtain ⟨_, a2⟩ := hx.no (by simpa using c3)
    refine ⟨fun e => (by cases e), fun _ => ⟨by simp, hf, by simp; omega, by simp; omega, n, hv, ?_⟩⟩
    rw [hall, a2, ht, Bool.true_and]
theorem holds_and {at' : List Coef} {fs : List Fact} {l : List Pred} (hl : l.length ≤ 5) (hc : ∀ p ∈ l, p.cnt < 2 ^ 62) (hn : ∀ p ∈ l, p.nodes ≤ 60 ∧ p.depth ≤ 30 ∧ (HoldsS at' fs p).2 = true) :
    HoldsS at' fs (andP l) = (l.all (tv at' fs), true) := by
  unfold andP
  by_cases hf : l.any isFalse = true
  · rw [if_pos hf, holds_false]
    obtain ⟨p, hp, h2⟩ := List.any_eq_true.1 hf
    rw [isFalse_eq] at h2
    have : tv at' fs p = false := by unfold tv; rw [(Pred.same_iff _ _).1 h2, holds_false]
    have : l.all (tv at' fs) = false := by rw [List.all_eq_false]; exact ⟨p, hp, by rw [this]; simp⟩
    rw [this]
  · rw [if_neg hf]
    have key : ∀ (r done : List Pred), l = done ++ r → AndInv at' fs done (andGo done) → AndInv at' fs l (andGo l) := by
      intro r
      induction r with
      | nil => intro done e h; rw [List.append_nil] at e; subst e; exact h
      | cons k r ih =>
        intro done e h
        have hk : k ∈ l := by rw [e]; simp
        obtain ⟨k1, k2, k3⟩ := hn k hk
        refine ih (done ++ [k]) (by rw [e]; simp) ?_
        rw [andGo_app]
        exact and_step h (hc k hk) k1 k2 k3
    have hx := key l [] rfl ⟨fun _ => ⟨rfl, rfl⟩, fun e => (by cases e)⟩
    by_cases c3 : (andGo l).2 = true
    · obtain ⟨a1, a2, a3, a4, m, a5, a6⟩ := hx.yes c3
      rw [holds_val (check_small (by omega) (by omega) a2) a5, a6]
    · obtain ⟨a1, a2⟩ := hx.no (by simpa using c3)
      rw [a1, a2, holds_true]
set_option maxRecDepth 100000
variable {E : AEnv} (L : Law10 E)
include L
theorem MeaningJoins_ev (l : List Pred) (at' : List Coef) (fs : List Fact) (hc : ∀ p ∈ l, p.cnt < 2 ^ 62) : E.C l10_MeaningJoins [.one (.lst (l.map Pred.cells)), .agg [.lst (at'.map Coef.cells), .lst (fs.map Fact.cells)]] (.one (.bool true)) := by
  have hf := l10_few_ev L.sys zeroP at' fs
  have hal := L.alive
  have hn1 := r07_Nodes_ev L.sys
  have hn2 := r07_Depth_ev L.sys
  have hh := fun p => L.holds at' fs p
  have hno := r07_Not_ev L.sys
  have hand := r07_And_ev L.sys l
  rw [zeroP_cells] at hf
  refine L.sys.l10_MeaningJoins _ _ ⟨Nat.le_of_ble_eq_true rfl, ?_⟩
  have hrs : fn_l10_MeaningJoins.rs = [.t 4] := rfl
  refine seq_named fun N0 h0 => ?_
  simp only [go_sem, Nat.reduceEqDiff, reduceCtorEq, Nat.reduceAdd, Nat.reduceLeDiff, Nat.reduceMul, Nat.reduceLT, Int.reduceToNat, Int.reduceLT, Int.reduceLE, Int.reduceEq, Nat.reduceSub]
  rw [h0]
  refine seq_named fun N1 h1 => ?_
  simp only [go_sem, Nat.reduceEqDiff, reduceCtorEq, Nat.reduceAdd, Nat.reduceLeDiff, Nat.reduceMul, Nat.reduceLT, Int.reduceToNat, Int.reduceLT, Int.reduceLE, Int.reduceEq, Nat.reduceSub]
  refine call_by hf ?_
  simp only [go_sem, Nat.reduceEqDiff, reduceCtorEq, Nat.reduceAdd, Nat.reduceLeDiff, Nat.reduceMul, Nat.reduceLT, Int.reduceToNat, Int.reduceLT, Int.reduceLE, Int.reduceEq, Nat.reduceSub]
  intro hlen
  cases c0 : (!fewB zeroP at' fs || decide ((l.length : Int) > 5)) with
  | true =>
    simp only [go_sem, Nat.reduceEqDiff, reduceCtorEq, Nat.reduceAdd, Nat.reduceLeDiff, Nat.reduceMul, Nat.reduceLT, Int.reduceToNat, Int.reduceLT, Int.reduceLE, Int.reduceEq, Nat.reduceSub]
    refine call_by hal ?_
    simp only [go_sem, Nat.reduceEqDiff, reduceCtorEq, Nat.reduceAdd, Nat.reduceLeDiff, Nat.reduceMul, Nat.reduceLT, Int.reduceToNat, Int.reduceLT, Int.reduceLE, Int.reduceEq, Nat.reduceSub, hrs]
  | false =>
  have hl5 : l.length ≤ 5 := by
    simp only [Bool.or_eq_false_iff, decide_eq_false_iff_not] at c0; omega
  simp only [go_sem, Nat.reduceEqDiff, reduceCtorEq, Nat.reduceAdd, Nat.reduceLeDiff, Nat.reduceMul, Nat.reduceLT, Int.reduceToNat, Int.reduceLT, Int.reduceLE, Int.reduceEq, Nat.reduceSub]
  rw [h1]
  refine seq_named fun N2 h2 => ?_
  simp only [go_sem, Nat.reduceEqDiff, reduceCtorEq, Nat.reduceAdd, Nat.reduceLeDiff, Nat.reduceMul, Nat.reduceLT, Int.reduceToNat, Int.reduceLT, Int.reduceLE, Int.reduceEq, Nat.reduceSub]
  rw [h2]
  refine seq_named fun N3 h3 => ?_
  simp only [go_sem, Nat.reduceEqDiff, reduceCtorEq, Nat.reduceAdd, Nat.reduceLeDiff, Nat.reduceMul, Nat.reduceLT, Int.reduceToNat, Int.reduceLT, Int.reduceLE, Int.reduceEq, Nat.reduceSub]
  intro _
  refine loop_named fun K' hK => ?_
  refine loop_list l (fun done => ∀ y ∈ done, y.nodes ≤ 60 ∧ y.depth ≤ 30 ∧ (HoldsS at' fs y).2 = true) (fun done rest => ⟨[(29, .d (.int .i64 done.length)), (28, .d (.int .i64 l.length)), (27, .d (.lst (l.map Pred.cells))), (0, .d (.lst (l.map Pred.cells))), (5, .d (.bool (done.all (tv at' fs)))), (3, .ptr 3 0)], [(3, [.d (.lst (at'.map Coef.cells)), .d (.lst (fs.map Fact.cells))])], []⟩) ?_ (by simp) ?_ ?_
  · exact Ent_plain (by simp only [go_sem, Nat.reduceEqDiff, reduceCtorEq, Nat.reduceAdd, Nat.reduceLeDiff, Nat.reduceMul, Nat.reduceLT, Int.reduceToNat, Int.reduceLT, Int.reduceLE, Int.reduceEq, Nat.reduceSub, Option.isSome_some, List.all_nil])
  · intro done p r hl hI
    have hlt := lt_mid hl
    have hw : IntKind.i64.wrap ((done.length : Int) + 1) = ((done.length + 1 : Nat) : Int) := wrap_succ (by omega)
    simp only [fn_l10_MeaningJoins_L1, go_sem, Nat.reduceEqDiff, reduceCtorEq, Nat.reduceAdd, Nat.reduceLeDiff, Nat.reduceMul, Nat.reduceLT, Int.reduceToNat, Int.reduceLT, Int.reduceLE, Int.reduceEq, Nat.reduceSub, hlt, getD_midP hl, List.length_map]
    refine call_by (hn1 p) ?_
    simp only [go_sem, Nat.reduceEqDiff, reduceCtorEq, Nat.reduceAdd, Nat.reduceLeDiff, Nat.reduceMul, Nat.reduceLT, Int.reduceToNat, Int.reduceLT, Int.reduceLE, Int.reduceEq, Nat.reduceSub, List.length_map]
    refine call_gi (fun _ => hn2 p) ?_
    simp only [go_sem, Nat.reduceEqDiff, reduceCtorEq, Nat.reduceAdd, Nat.reduceLeDiff, Nat.reduceMul, Nat.reduceLT, Int.reduceToNat, Int.reduceLT, Int.reduceLE, Int.reduceEq, Nat.reduceSub]
    cases c1 : (decide (p.nodes > 60) || decide (p.depth > 30)) with
    | true =>
      simp only [go_sem, Nat.reduceEqDiff, reduceCtorEq, Nat.reduceAdd, Nat.reduceLeDiff, Nat.reduceMul, Nat.reduceLT, Int.reduceToNat, Int.reduceLT, Int.reduceLE, Int.reduceEq, Nat.reduceSub]
      refine call_by hal ?_
      simp only [go_sem, Nat.reduceEqDiff, reduceCtorEq, Nat.reduceAdd, Nat.reduceLeDiff, Nat.reduceMul, Nat.reduceLT, Int.reduceToNat, Int.reduceLT, Int.reduceLE, Int.reduceEq, Nat.reduceSub, hK, hrs]
    | false =>
    simp only [Bool.or_eq_false_iff, decide_eq_false_iff_not] at c1
    simp only [go_sem, Nat.reduceEqDiff, reduceCtorEq, Nat.reduceAdd, Nat.reduceLeDiff, Nat.reduceMul, Nat.reduceLT, Int.reduceToNat, Int.reduceLT, Int.reduceLE, Int.reduceEq, Nat.reduceSub, List.length_map]
    refine call_by (hh p) ?_
    cases c2 : (HoldsS at' fs p).2 with
    | false =>
      simp only [go_sem, Nat.reduceEqDiff, reduceCtorEq, Nat.reduceAdd, Nat.reduceLeDiff, Nat.reduceMul, Nat.reduceLT, Int.reduceToNat, Int.reduceLT, Int.reduceLE, Int.reduceEq, Nat.reduceSub, c2]
      refine call_by hal ?_
      simp only [go_sem, Nat.reduceEqDiff, reduceCtorEq, Nat.reduceAdd, Nat.reduceLeDiff, Nat.reduceMul, Nat.reduceLT, Int.reduceToNat, Int.reduceLT, Int.reduceLE, Int.reduceEq, Nat.reduceSub, hK, hrs]
    | true =>
    have hpar := holds_not (at' := at') (fs := fs) (hc p (by rw [hl]; simp)) (by omega : p.nodes ≤ 60) (by omega) c2
    have hno' := hh (notP p)
    rw [hpar] at hno'
    have hall : (done ++ [p]).all (tv at' fs) = (done.all (tv at' fs) && (HoldsS at' fs p).1) := by rw [List.all_append]; simp [tv]
    have hbe : ((HoldsS at' fs p).1 == !(HoldsS at' fs p).1) = false := by cases (HoldsS at' fs p).1 <;> rfl
    simp only [go_sem, Nat.reduceEqDiff, reduceCtorEq, Nat.reduceAdd, Nat.reduceLeDiff, Nat.reduceMul, Nat.reduceLT, Int.reduceToNat, Int.reduceLT, Int.reduceLE, Int.reduceEq, Nat.reduceSub, c2, List.length_map]
    refine call_by (hno p) ?_
    simp only [go_sem, Nat.reduceEqDiff, reduceCtorEq, Nat.reduceAdd, Nat.reduceLeDiff, Nat.reduceMul, Nat.reduceLT, Int.reduceToNat, Int.reduceLT, Int.reduceLE, Int.reduceEq, Nat.reduceSub, List.length_map]
    refine call_by hno' ?_
    simp only [go_sem, Nat.reduceEqDiff, reduceCtorEq, Nat.reduceAdd, Nat.reduceLeDiff, Nat.reduceMul, Nat.reduceLT, Int.reduceToNat, Int.reduceLT, Int.reduceLE, Int.reduceEq, Nat.reduceSub, hbe, hw, List.length_append, hall]
    exact ⟨Ent_plain (by simp only [go_sem, Nat.reduceEqDiff, reduceCtorEq, Nat.reduceAdd, Nat.reduceLeDiff, Nat.reduceMul, Nat.reduceLT, Int.reduceToNat, Int.reduceLT, Int.reduceLE, Int.reduceEq, Nat.reduceSub, Option.isSome_some]), app_all hI ⟨by omega, by omega, c2⟩⟩
  · intro hI
    have hfin := hh (andP l)
    rw [holds_and hl5 hc hI] at hfin
    simp only [fn_l10_MeaningJoins_L1, go_sem, Nat.reduceEqDiff, reduceCtorEq, Nat.reduceAdd, Nat.reduceLeDiff, Nat.reduceMul, Nat.reduceLT, Int.reduceToNat, Int.reduceLT, Int.reduceLE, Int.reduceEq, Nat.reduceSub, hK, h3, List.length_map]
    refine call_by hand ?_
    simp only [go_sem, Nat.reduceEqDiff, reduceCtorEq, Nat.reduceAdd, Nat.reduceLeDiff, Nat.reduceMul, Nat.reduceLT, Int.reduceToNat, Int.reduceLT, Int.reduceLE, Int.reduceEq, Nat.reduceSub, List.length_map]
    refine call_by hfin ?_
    simp only [go_sem, Nat.reduceEqDiff, reduceCtorEq, Nat.reduceAdd, Nat.reduceLeDiff, Nat.reduceMul, Nat.reduceLT, Int.reduceToNat, Int.reduceLT, Int.reduceLE, Int.reduceEq, Nat.reduceSub, beq_self_eq_true]
    refine call_by hal ?_
    simp only [go_sem, Nat.reduceEqDiff, reduceCtorEq, Nat.reduceAdd, Nat.reduceLeDiff, Nat.reduceMul, Nat.reduceLT, Int.reduceToNat, Int.reduceLT, Int.reduceLE, Int.reduceEq, Nat.reduceSub, hrs]
end Go.Abs
end
section
set_option linter.unusedSimpArgs false
set_option linter.unusedVariables false
set_option linter.unusedSectionVars false
namespace Go.Abs
/-! ## the free variables: the reference -/
def putS (l : List Str) (s : Str) : List Str := l.takeWhile (fun x => Op.bytesLess x s) ++ s :: (match l.dropWhile (fun x => Op.bytesLess x s) with | x :: r => if x == s then r else x :: r | [] => [])
theorem tw_mid {α : Type} {f : α → Bool} {done r : List α} {x : α} (h : ∀ y ∈ done, f y = true) (hx : f x = false) : (done ++ x :: r).takeWhile f = done ∧ (done ++ x :: r).dropWhile f = x :: r := by
  induction done with
  | nil => simp [hx]
  | cons y done ih =>
    obtain ⟨h1, h2⟩ := ih fun z hz => h z (by simp [hz])
    have hy := h y (by simp)
    simp only [List.cons_append, List.takeWhile_cons, List.dropWhile_cons, hy, if_true, h1, h2, and_self]
theorem tw_end {α : Type} {f : α → Bool} {done : List α} (h : ∀ y ∈ done, f y = true) : done.takeWhile f = done ∧ done.dropWhile f = [] := by
  induction done with
  | nil => simp
  | cons y done ih =>
    obtain ⟨h1, h2⟩ := ih fun z hz => h z (by simp [hz])
    have hy := h y (by simp)
    simp only [List.takeWhile_cons, List.dropWhile_cons, hy, if_true, h1, h2, and_self]
theorem putS_mid {done r : List Str} {x s : Str} (h : ∀ y ∈ done, Op.bytesLess y s = true) (hx : Op.bytesLess x s = false) : putS (done ++ x :: r) s = done ++ s :: (if x == s then r else x :: r) := by
  obtain ⟨h1, h2⟩ := tw_mid (f := fun y => Op.bytesLess y s) (r := r) h hx
  unfold putS; rw [h1, h2]
theorem putS_end {done : List Str} {s : Str} (h : ∀ y ∈ done, Op.bytesLess y s = true) : putS done s = done ++ [s] := by
  obtain ⟨h1, h2⟩ := tw_end (f := fun y => Op.bytesLess y s) h
  unfold putS; rw [h1, h2]
theorem putS_len (l : List Str) (s : Str) : (putS l s).length ≤ l.length + 1 := by
  have h := congrArg List.length (List.takeWhile_append_dropWhile (p := fun x => Op.bytesLess x s) (l := l))
  rw [List.length_append] at h
  unfold putS
  rw [List.length_append, List.length_cons]
  split
  · rename_i x r hr
    rw [hr, List.length_cons] at h
    split <;> simp <;> omega
  · rename_i hr
    rw [hr] at h
    simp at h ⊢; omega
theorem mem_putS (l : List Str) (s x : Str) : x ∈ putS l s ↔ x = s ∨ x ∈ l := by
  have h := List.takeWhile_append_dropWhile (p := fun x => Op.bytesLess x s) (l := l)
  unfold putS
  generalize l.takeWhile (fun x => Op.bytesLess x s) = t at *
  generalize l.dropWhile (fun x => Op.bytesLess x s) = d at *
  subst h
  cases d with
  | nil => simp [or_comm]
  | cons y r =>
    simp only
    by_cases hy : (y == s) = true
    · rw [if_pos hy]
      have : y = s := by simpa using hy
      subst this
      simp only [List.mem_append, List.mem_cons]
      by_cases hx : x = y <;> simp [hx]
    · rw [if_neg hy]
      simp only [List.mem_append, List.mem_cons]
      by_cases hx : x = s <;> simp [hx]
def uniS (a b : List Str) : List Str := b.foldl putS (a.foldl putS [])
theorem fold_len (a acc : List Str) : (a.foldl putS acc).length ≤ acc.length + a.length := by
  induction a generalizing acc with
  | nil => simp
  | cons x a ih =>
    rw [List.foldl_cons, List.length_cons]
    have := ih (putS acc x)
    have := putS_len acc x
    omega
theorem uniS_len (a b : List Str) : (uniS a b).length ≤ a.length + b.length := by
  unfold uniS
  have := fold_len b (a.foldl putS [])
  have := fold_len a []
  simp at this; omega
theorem mem_fold (a acc : List Str) (x : Str) : x ∈ a.foldl putS acc ↔ x ∈ a ∨ x ∈ acc := by
  induction a generalizing acc with
  | nil => simp
  | cons y a ih => rw [List.foldl_cons, ih, mem_putS, List.mem_cons]; by_cases h1 : x = y <;> simp [h1]
theorem mem_uniS (a b : List Str) (x : Str) : x ∈ uniS a b ↔ x ∈ a ∨ x ∈ b := by unfold uniS; rw [mem_fold, mem_fold]; simp [or_comm]
/-- the free variables -/
def freeR : Pred → List Str
  | .mk o s _ ks => frees (if o == 3 then [s] else []) ks
where
  frees (acc : List Str) : List Pred → List Str
  | [] => acc
  | k :: ks => frees (uniS acc (freeR k)) ks
theorem freeR_eq (o : Int) (s : Str) (n : Int) (ks : List Pred) : freeR (.mk o s n ks) = ks.foldl (fun acc k => uniS acc (freeR k)) (if o == 3 then [s] else []) := by
  rw [freeR]
  generalize (if o == 3 then [s] else []) = acc
  induction ks generalizing acc with
  | nil => rw [freeR.frees]; rfl
  | cons k ks ih => rw [freeR.frees, List.foldl_cons, ih]
theorem freeR_len (p : Pred) : (freeR p).length ≤ p.cnt := by
  induction p using Pred.ind with
  | h o s n ks ih =>
  rw [freeR_eq, Pred.cnt]
  have key : ∀ (l : List Pred) (acc : List Str), (∀ k ∈ l, (freeR k).length ≤ k.cnt) → (l.foldl (fun acc k => uniS acc (freeR k)) acc).length ≤ acc.length + Pred.cnts l := by
    intro l
    induction l with
    | nil => intro acc _; simp
    | cons k l ih2 =>
      intro acc hk
      rw [List.foldl_cons, Pred.cnts]
      have h1 := ih2 (uniS acc (freeR k)) fun y hy => hk y (by simp [hy])
      have h2 := uniS_len acc (freeR k)
      have h3 := hk k (by simp)
      omega
  have h1 := key ks (if o == 3 then [s] else []) ih
  have h2 : (if o == 3 then [s] else []).length ≤ 1 := by split <;> simp
  omega
theorem mem_free_acc (ks : List Pred) (acc : List Str) (x : Str) : x ∈ ks.foldl (fun acc k => uniS acc (freeR k)) acc ↔ x ∈ acc ∨ ∃ k ∈ ks, x ∈ freeR k := by
  induction ks generalizing acc with
  | nil => simp
  | cons k ks ih =>
    rw [List.foldl_cons, ih, mem_uniS]
    simp only [List.mem_cons, exists_eq_or_imp, or_assoc]
theorem findIx_in {s : Str} : ∀ {l : List Str} {i : Nat}, s ∈ l → 0 ≤ findIx s i l
  | x :: l, i, h => by
    rw [findIx]
    split
    · omega
    · rcases List.mem_cons.1 h with rfl | h
      · rename_i hne; exact absurd rfl hne
      · exact findIx_in h
theorem findIx_ge {s : Str} {l : List Str} : (findIx s 0 l ≥ 0) ↔ s ∈ l := by
  constructor
  · intro h
    by_cases hm : s ∈ l
    · exact hm
    · rw [findIx_none s l 0 hm] at h; omega
  · exact findIx_in
/-- only the values of free variables matter -/
theorem val_free {at1 at2 : List Coef} {fs : List Fact} (p : Pred) (hp : Good p) (h : ∀ s ∈ freeR p, findC s at1 = findC s at2) : valR at1 fs p = valR at2 fs p := by
  induction p using Pred.ind with
  | h o s n ks ih =>
  rw [freeR_eq] at h
  have hkid : ∀ k ∈ ks, valR at1 fs k = valR at2 fs k := fun k hk => ih k hk (hp.kid hk) fun t ht => h t ((mem_free_acc _ _ _).2 (.inr ⟨k, hk, ht⟩))
  rw [valR_eq, valR_eq]
  have hall : ks.all (fun k => (valR at1 fs k).2) = ks.all (fun k => (valR at2 fs k).2) := by
    rw [Bool.eq_iff_iff, List.all_eq_true, List.all_eq_true]
    exact ⟨fun hh k hk => by rw [← hkid k hk]; exact hh k hk, fun hh k hk => by rw [hkid k hk]; exact hh k hk⟩
  have hmap : ks.map (fun k => (valR at1 fs k).1) = ks.map (fun k => (valR at2 fs k).1) := List.map_congr_left fun k hk => by rw [hkid k hk]
  rw [hall, hmap]
  by_cases c3 : (o == 3) = true
  · have := h s ((mem_free_acc _ _ _).2 (.inl (by rw [if_pos c3]; simp)))
    rw [this]
    rfl
  · simp only [Bool.not_eq_true] at c3
    simp only [c3, Bool.false_eq_true, if_false]
    rfl
def otherAt (fr : List Str) (k : Int) (at' : List Coef) : List Coef := (at'.filter fun c => decide (findIx c.name 0 fr < 0)).map fun c => ⟨c.name, k⟩
def freeAt (fr : List Str) (at' : List Coef) : List Coef := at'.filter fun c => decide (findIx c.name 0 fr ≥ 0)
theorem findC_other {fr : List Str} {k : Int} {at' : List Coef} {s : Str} (hs : s ∈ fr) : findC s (otherAt fr k at' ++ freeAt fr at') = findC s at' := by
  have h1 : ∀ (l : List Coef), (∀ c ∈ l, c.name ∉ fr) → ∀ r, findC s (l ++ r) = findC s r := by
    intro l
    induction l with
    | nil => intro _ r; rfl
    | cons c l ih =>
      intro hl r
      rw [List.cons_append, findC]
      have : (c.name == s) = false := by
        simp only [beq_eq_false_iff_ne]; intro e; exact hl c (by simp) (e ▸ hs)
      rw [this]
      exact ih (fun y hy => hl y (by simp [hy])) r
  rw [h1]
  · unfold freeAt
    induction at' with
    | nil => rfl
    | cons c l ih =>
      rw [List.filter_cons]
      by_cases hc : c.name ∈ fr
      · have : decide (findIx c.name 0 fr ≥ 0) = true := by simpa using findIx_ge.2 hc
        rw [if_pos this, findC, findC, ih]
      · have h2 : ¬ (decide (findIx c.name 0 fr ≥ 0) = true) := by simpa using fun e => hc (findIx_ge.1 e)
        rw [if_neg h2, ih, findC]
        have : (c.name == s) = false := by
          simp only [beq_eq_false_iff_ne]; intro e; exact hc (e ▸ hs)
        rw [this]; rfl
  · intro c hc
    unfold otherAt at hc
    obtain ⟨d, hd, rfl⟩ := List.mem_map.1 hc
    have := (List.mem_filter.1 hd).2
    simp only [decide_eq_true_eq] at this
    intro hm
    have h2 : findIx d.name 0 fr ≥ 0 := findIx_ge.2 hm
    omega
theorem eval_free {at' : List Coef} {fs : List Fact} {k : Int} (p : Pred) : EvalS at' fs p = EvalS (otherAt (freeR p) k at' ++ freeAt (freeR p) at') fs p := by
  by_cases h : p.checkE = 0
  · rw [EvalS_eq h, EvalS_eq h]
    exact val_free p (good_of h) fun s hs => (findC_other hs).symm
  · unfold EvalS
    rw [if_pos (by simpa using h), if_pos (by simpa using h)]
theorem tc_lens (l : List Str) : (∀ e ∈ l.map (fun k => [D.str k]), e.length = 1) = True := lens_map (f := fun k => [D.str k]) (fun _ => rfl) l
set_option maxRecDepth 100000
variable {E : AEnv} (Z : Sys E)
include Z
theorem r04_put_ev (l : List Str) (s : Str) (hl : l.length ≤ 1073741824) : E.C r04_put [.one (.lst (l.map fun k => [.str k])), .one (.str s)] (.one (.lst ((putS l s).map fun k => [.str k]))) := by
  refine Z.r04_put _ _ ⟨Nat.le_of_ble_eq_true rfl, ?_⟩
  have hrs : fn_r04_put.rs = [.t 4] := rfl
  refine seq_named fun N0 h0 => ?_
  simp only [go_sem, Nat.reduceEqDiff, reduceCtorEq, Nat.reduceAdd, Nat.reduceLeDiff, Nat.reduceMul, Nat.reduceLT, Int.reduceToNat, Int.reduceLT, Int.reduceLE, Int.reduceEq, Nat.reduceSub]
  rw [h0]
  refine seq_named fun N1 h1 => ?_
  simp only [go_sem, Nat.reduceEqDiff, reduceCtorEq, Nat.reduceAdd, Nat.reduceLeDiff, Nat.reduceMul, Nat.reduceLT, Int.reduceToNat, Int.reduceLT, Int.reduceLE, Int.reduceEq, Nat.reduceSub]
  rw [h1]
  refine seq_named fun N2 h2 => ?_
  simp only [go_sem, Nat.reduceEqDiff, reduceCtorEq, Nat.reduceAdd, Nat.reduceLeDiff, Nat.reduceMul, Nat.reduceLT, Int.reduceToNat, Int.reduceLT, Int.reduceLE, Int.reduceEq, Nat.reduceSub]
  rw [h2]
  refine seq_named fun N3 h3 => ?_
  have hls := tc_lens l
  have tail : ∀ (done rest : List Str) (st : St), l = done ++ rest → (∀ y ∈ done, Op.bytesLess y s = true) → (∀ x r, rest = x :: r → Op.bytesLess x s = false) → getS st.slots 5 = .own 5 1 (done.map fun k => [D.str k]) → getS st.slots 6 = .d (.int .i64 done.length) → getS st.slots 0 = .d (.lst (l.map fun k => [D.str k])) → getS st.slots 1 = .d (.str s) → st.mem = [] → st.tk = [(5, true)] → N3 st := by
    intro done rest st hd hI hr e5 e6 e0 e1 em et
    obtain ⟨sl, mm, tk⟩ := st
    simp only at e5 e6 e0 e1 em et
    subst em; subst et
    have hdl : done.length ≤ l.length := by rw [hd]; simp
    have i1 : (∀ e ∈ [[D.str s]], e.length = 1) = True := eq_true (by simp)
    have o1 : (done.length + 1) * 16 ≤ 2 ^ 46 := by omega
    have o2 : done.length + 1 ≤ 9223372036854775807 := by omega
    have hdd : (l.map fun k => [D.str k]).drop done.length = rest.map fun k => [D.str k] := by rw [← List.map_drop, hd, List.drop_left' rfl]
    rw [h3]
    simp only [go_sem, Nat.reduceEqDiff, reduceCtorEq, Nat.reduceAdd, Nat.reduceLeDiff, Nat.reduceMul, Nat.reduceLT, Int.reduceToNat, Int.reduceLT, Int.reduceLE, Int.reduceEq, Nat.reduceSub, e5, e6, e0, e1, i1, o1, o2, List.length_map]
    intro hlen
    cases rest with
    | nil =>
      rw [List.append_nil] at hd
      subst hd
      have hlt : ¬ ((l.length : Int) < l.length) := by omega
      have i2 : (∀ e ∈ ([] : List (List D)), e.length = 1) = True := eq_true (by simp)
      have o3 : (l.length + 1) * 16 ≤ 2 ^ 46 := by omega
      have hg0 : (l.map fun k => [D.str k]).getD l.length [] = [] := by simp
      have o2' : l.length ≤ 9223372036854775806 := by omega
      simp only [go_sem, Nat.reduceEqDiff, reduceCtorEq, Nat.reduceAdd, Nat.reduceLeDiff, Nat.reduceMul, Nat.reduceLT, Int.reduceToNat, Int.reduceLT, Int.reduceLE, Int.reduceEq, Nat.reduceSub, List.map_nil, hlt, hdd, hls, i2, hg0, o2', List.length_append, List.length_map, o3, o2, hrs, putS_end hI, List.map_append, List.map_cons]
    | cons x r =>
      have hx := hr x r rfl
      have hlt := lt_mid hd
      have hww : IntKind.i64.wrap ((done.length : Int) + 1) = ((done.length + 1 : Nat) : Int) := wrap_succ (by omega)
      have hg : (l.map fun k => [D.str k]).getD done.length [] = [.str x] := by rw [hd]; exact getD_mid _ _ _ _ _
      have hll : l.length = done.length + (r.length + 1) := by rw [hd]; simp
      have hd1 : (l.map fun k => [D.str k]).drop (done.length + 1) = r.map fun k => [D.str k] := by
        rw [← List.map_drop, hd, show done ++ x :: r = (done ++ [x]) ++ r by simp, List.drop_left' (by simp)]
      cases hxs : (x == s) with
      | true =>
        have o3 : (done.length + 1 + r.length) * 16 ≤ 2 ^ 46 := by omega
        have o4 : done.length + 1 + r.length ≤ 9223372036854775807 := by omega
        have o5 : ((done.length + 1 : Nat) : Int) ≤ l.length := by omega
        have hpm : putS l s = done ++ s :: r := by rw [hd, putS_mid hI hx, hxs]; rfl
        simp only [go_sem, Nat.reduceEqDiff, reduceCtorEq, Nat.reduceAdd, Nat.reduceLeDiff, Nat.reduceMul, Nat.reduceLT, Int.reduceToNat, Int.reduceLT, Int.reduceLE, Int.reduceEq, Nat.reduceSub, hlt, hg, hxs, hww, hls, hd1, Int.toNat_natCast, tc_lens, List.length_append, List.length_map, o3, o4, o5, hrs, hpm, List.map_append, List.map_cons, List.append_assoc]
      | false =>
        have o3 : (done.length + 1 + (r.length + 1)) * 16 ≤ 2 ^ 46 := by omega
        have o4 : done.length + 1 + (r.length + 1) ≤ 9223372036854775807 := by omega
        have o5 : ((done.length : Nat) : Int) ≤ l.length := by omega
        have hpm : putS l s = done ++ s :: x :: r := by rw [hd, putS_mid hI hx, hxs]; rfl
        have i3 : (∀ e ∈ [D.str x] :: r.map (fun k => [D.str k]), e.length = 1) = True := eq_true (by simp)
        simp only [go_sem, Nat.reduceEqDiff, reduceCtorEq, Nat.reduceAdd, Nat.reduceLeDiff, Nat.reduceMul, Nat.reduceLT, Int.reduceToNat, Int.reduceLT, Int.reduceLE, Int.reduceEq, Nat.reduceSub, hlt, hg, hxs, hls, hdd, i3, Int.toNat_natCast, tc_lens, List.length_append, List.length_map, o3, o4, o5, hrs, hpm, List.map_append, List.map_cons, List.append_assoc]
  simp only [go_sem, Nat.reduceEqDiff, reduceCtorEq, Nat.reduceAdd, Nat.reduceLeDiff, Nat.reduceMul, Nat.reduceLT, Int.reduceToNat, Int.reduceLT, Int.reduceLE, Int.reduceEq, Nat.reduceSub]
  refine loop_named fun K' hK => ?_
  refine loop_list l (fun done => ∀ y ∈ done, Op.bytesLess y s = true) (fun done rest => ⟨[(6, .d (.int .i64 done.length)), (5, .own 5 1 (done.map fun k => [.str k])), (0, .d (.lst (l.map fun k => [.str k]))), (1, .d (.str s))], [], [(5, true)]⟩) ?_ (by simp) ?_ ?_
  · exact Ent_conv 5 5 1 [] [(5, 5)] rfl (by simp) rfl (by simp only [Ent0, go_sem, Nat.reduceEqDiff, reduceCtorEq, Nat.reduceAdd, Nat.reduceLeDiff, Nat.reduceMul, Nat.reduceLT, Int.reduceToNat, Int.reduceLT, Int.reduceLE, Int.reduceEq, Nat.reduceSub, List.contains_nil])
  · intro done x r hd hI
    have hlt := lt_mid hd
    have hll : l.length = done.length + (r.length + 1) := by rw [hd]; simp
    have hww : IntKind.i64.wrap ((done.length : Int) + 1) = ((done.length + 1 : Nat) : Int) := wrap_succ (by omega)
    have hg : (l.map fun k => [D.str k]).getD done.length [] = [.str x] := by rw [hd]; exact getD_mid _ _ _ _ _
    have i1 : (∀ e ∈ [[D.str x]], e.length = 1) = True := eq_true (by simp)
    have o1 : (done.length + 1) * 16 ≤ 2 ^ 46 := by omega
    have o2 : done.length + 1 ≤ 9223372036854775807 := by omega
    simp only [fn_r04_put_L1, go_sem, Nat.reduceEqDiff, reduceCtorEq, Nat.reduceAdd, Nat.reduceLeDiff, Nat.reduceMul, Nat.reduceLT, Int.reduceToNat, Int.reduceLT, Int.reduceLE, Int.reduceEq, Nat.reduceSub, List.length_map]
    intro _
    simp only [go_sem, Nat.reduceEqDiff, reduceCtorEq, Nat.reduceAdd, Nat.reduceLeDiff, Nat.reduceMul, Nat.reduceLT, Int.reduceToNat, Int.reduceLT, Int.reduceLE, Int.reduceEq, Nat.reduceSub, hlt, hg, hls]
    cases hb : Op.bytesLess x s with
    | true =>
      simp only [go_sem, Nat.reduceEqDiff, reduceCtorEq, Nat.reduceAdd, Nat.reduceLeDiff, Nat.reduceMul, Nat.reduceLT, Int.reduceToNat, Int.reduceLT, Int.reduceLE, Int.reduceEq, Nat.reduceSub, hlt, hg, hls, i1, o1, o2, hww, List.length_map, List.length_append, List.map_append, List.map_cons, List.map_nil]
      exact ⟨by omega, Ent_own [(5, 25)] (by simp only [go_sem, Nat.reduceEqDiff, reduceCtorEq, Nat.reduceAdd, Nat.reduceLeDiff, Nat.reduceMul, Nat.reduceLT, Int.reduceToNat, Int.reduceLT, Int.reduceLE, Int.reduceEq, Nat.reduceSub, List.contains_nil]), app_all hI hb⟩
    | false =>
      simp only [go_sem, Nat.reduceEqDiff, reduceCtorEq, Nat.reduceAdd, Nat.reduceLeDiff, Nat.reduceMul, Nat.reduceLT, Int.reduceToNat, Int.reduceLT, Int.reduceLE, Int.reduceEq, Nat.reduceSub, hK]
      exact tail done (x :: r) _ hd hI (fun x' r' e => by cases e; exact hb) rfl rfl rfl rfl rfl rfl
  · intro hI
    have hlt : ¬ ((l.length : Int) < l.length) := by omega
    simp only [fn_r04_put_L1, go_sem, Nat.reduceEqDiff, reduceCtorEq, Nat.reduceAdd, Nat.reduceLeDiff, Nat.reduceMul, Nat.reduceLT, Int.reduceToNat, Int.reduceLT, Int.reduceLE, Int.reduceEq, Nat.reduceSub, List.length_map]
    intro _
    have hg0 : (l.map fun k => [D.str k]).getD l.length [] = [] := by simp
    simp only [go_sem, Nat.reduceEqDiff, reduceCtorEq, Nat.reduceAdd, Nat.reduceLeDiff, Nat.reduceMul, Nat.reduceLT, Int.reduceToNat, Int.reduceLT, Int.reduceLE, Int.reduceEq, Nat.reduceSub, hlt, hg0, hK]
    exact tail l [] _ (by simp) hI (fun x' r' e => by cases e) rfl rfl rfl rfl rfl rfl
theorem r04_Union_ev (a b : List Str) (hl : a.length + b.length ≤ 1073741824) : E.C r04_Union [.one (.lst (a.map fun k => [.str k])), .one (.lst (b.map fun k => [.str k]))] (.one (.lst ((uniS a b).map fun k => [.str k]))) := by
  have hput := r04_put_ev Z
  refine Z.r04_Union _ _ ⟨Nat.le_of_ble_eq_true rfl, ?_⟩
  generalize hR : uniS a b = R
  unfold uniS at hR
  have hrs : fn_r04_Union.rs = [.t 4] := rfl
  have la := tc_lens a
  have lb := tc_lens b
  refine seq_named fun N0 h0 => ?_
  simp only [go_sem, Nat.reduceEqDiff, reduceCtorEq, Nat.reduceAdd, Nat.reduceLeDiff, Nat.reduceMul, Nat.reduceLT, Int.reduceToNat, Int.reduceLT, Int.reduceLE, Int.reduceEq, Nat.reduceSub]
  rw [h0]
  refine seq_named fun N1 h1 => ?_
  simp only [go_sem, Nat.reduceEqDiff, reduceCtorEq, Nat.reduceAdd, Nat.reduceLeDiff, Nat.reduceMul, Nat.reduceLT, Int.reduceToNat, Int.reduceLT, Int.reduceLE, Int.reduceEq, Nat.reduceSub]
  rw [h1]
  refine seq_named fun N2 h2 => ?_
  simp only [go_sem, Nat.reduceEqDiff, reduceCtorEq, Nat.reduceAdd, Nat.reduceLeDiff, Nat.reduceMul, Nat.reduceLT, Int.reduceToNat, Int.reduceLT, Int.reduceLE, Int.reduceEq, Nat.reduceSub, List.length_map]
  intro _
  refine loop_named fun K' hK => ?_
  refine loop_list a (fun _ => True) (fun done rest => ⟨[(10, .d (.int .i64 done.length)), (9, .d (.int .i64 a.length)), (0, .d (.lst (a.map fun k => [.str k]))), (1, .d (.lst (b.map fun k => [.str k]))), (5, .d (.lst ((done.foldl putS []).map fun k => [.str k])))], [], []⟩) ?_ trivial ?_ ?_
  · exact Ent_plain (by simp only [go_sem, Nat.reduceEqDiff, reduceCtorEq, Nat.reduceAdd, Nat.reduceLeDiff, Nat.reduceMul, Nat.reduceLT, Int.reduceToNat, Int.reduceLT, Int.reduceLE, Int.reduceEq, Nat.reduceSub, List.foldl_nil])
  · intro done x r hd _
    have hlt := lt_mid hd
    have hll : a.length = done.length + (r.length + 1) := by rw [hd]; simp
    have hww : IntKind.i64.wrap ((done.length : Int) + 1) = ((done.length + 1 : Nat) : Int) := wrap_succ (by omega)
    have hg : (a.map fun k => [D.str k]).getD done.length [] = [.str x] := by rw [hd]; exact getD_mid _ _ _ _ _
    have hfl := fold_len done []
    simp only [List.length_nil, Nat.zero_add] at hfl
    simp only [fn_r04_Union_L2, go_sem, Nat.reduceEqDiff, reduceCtorEq, Nat.reduceAdd, Nat.reduceLeDiff, Nat.reduceMul, Nat.reduceLT, Int.reduceToNat, Int.reduceLT, Int.reduceLE, Int.reduceEq, Nat.reduceSub, hlt, hg, la, List.length_map]
    refine call_by (hput _ x (by omega)) ?_
    simp only [go_sem, Nat.reduceEqDiff, reduceCtorEq, Nat.reduceAdd, Nat.reduceLeDiff, Nat.reduceMul, Nat.reduceLT, Int.reduceToNat, Int.reduceLT, Int.reduceLE, Int.reduceEq, Nat.reduceSub, hww, List.length_append, List.foldl_append, List.foldl_cons, List.foldl_nil]
    exact Ent_plain (by simp only [go_sem, Nat.reduceEqDiff, reduceCtorEq, Nat.reduceAdd, Nat.reduceLeDiff, Nat.reduceMul, Nat.reduceLT, Int.reduceToNat, Int.reduceLT, Int.reduceLE, Int.reduceEq, Nat.reduceSub])
  · intro _
    have hfa := fold_len a []
    simp only [List.length_nil, Nat.zero_add] at hfa
    generalize hA : a.foldl putS [] = A at *
    simp only [fn_r04_Union_L2, go_sem, Nat.reduceEqDiff, reduceCtorEq, Nat.reduceAdd, Nat.reduceLeDiff, Nat.reduceMul, Nat.reduceLT, Int.reduceToNat, Int.reduceLT, Int.reduceLE, Int.reduceEq, Nat.reduceSub, hK]
    rw [h2]
    refine seq_named fun N3 h3 => ?_
    simp only [go_sem, Nat.reduceEqDiff, reduceCtorEq, Nat.reduceAdd, Nat.reduceLeDiff, Nat.reduceMul, Nat.reduceLT, Int.reduceToNat, Int.reduceLT, Int.reduceLE, Int.reduceEq, Nat.reduceSub, List.length_map]
    intro _
    refine loop_named fun K2 hK2 => ?_
    refine loop_list b (fun _ => True) (fun done rest => ⟨[(22, .d (.int .i64 done.length)), (21, .d (.int .i64 b.length)), (1, .d (.lst (b.map fun k => [.str k]))), (5, .d (.lst ((done.foldl putS A).map fun k => [.str k])))], [], []⟩) ?_ trivial ?_ ?_
    · exact Ent_plain (by simp only [go_sem, Nat.reduceEqDiff, reduceCtorEq, Nat.reduceAdd, Nat.reduceLeDiff, Nat.reduceMul, Nat.reduceLT, Int.reduceToNat, Int.reduceLT, Int.reduceLE, Int.reduceEq, Nat.reduceSub, List.foldl_nil])
    · intro done x r hd _
      have hlt := lt_mid hd
      have hll : b.length = done.length + (r.length + 1) := by rw [hd]; simp
      have hww : IntKind.i64.wrap ((done.length : Int) + 1) = ((done.length + 1 : Nat) : Int) := wrap_succ (by omega)
      have hg : (b.map fun k => [D.str k]).getD done.length [] = [.str x] := by rw [hd]; exact getD_mid _ _ _ _ _
      have hfl := fold_len done A
      simp only [fn_r04_Union_L1, go_sem, Nat.reduceEqDiff, reduceCtorEq, Nat.reduceAdd, Nat.reduceLeDiff, Nat.reduceMul, Nat.reduceLT, Int.reduceToNat, Int.reduceLT, Int.reduceLE, Int.reduceEq, Nat.reduceSub, hlt, hg, lb, List.length_map]
      refine call_by (hput _ x (by omega)) ?_
      simp only [go_sem, Nat.reduceEqDiff, reduceCtorEq, Nat.reduceAdd, Nat.reduceLeDiff, Nat.reduceMul, Nat.reduceLT, Int.reduceToNat, Int.reduceLT, Int.reduceLE, Int.reduceEq, Nat.reduceSub, hww, List.length_append, List.foldl_append, List.foldl_cons, List.foldl_nil]
      exact Ent_plain (by simp only [go_sem, Nat.reduceEqDiff, reduceCtorEq, Nat.reduceAdd, Nat.reduceLeDiff, Nat.reduceMul, Nat.reduceLT, Int.reduceToNat, Int.reduceLT, Int.reduceLE, Int.reduceEq, Nat.reduceSub])
    · intro _
      simp only [fn_r04_Union_L1, go_sem, Nat.reduceEqDiff, reduceCtorEq, Nat.reduceAdd, Nat.reduceLeDiff, Nat.reduceMul, Nat.reduceLT, Int.reduceToNat, Int.reduceLT, Int.reduceLE, Int.reduceEq, Nat.reduceSub, hK2, h3, hrs, hR]
theorem r07_Free_ev (p : Pred) (hp : p.cnt ≤ 1048576) : E.C r07_Free [.agg p.cells] (.one (.lst ((freeR p).map fun k => [.str k]))) := by
  induction p using Pred.ind with
  | h o s n ks ih =>
  have hu := r04_Union_ev Z
  have hc : Pred.cnts ks + 1 ≤ 1048576 := hp
  refine Z.r07_Free _ _ ⟨Nat.le_of_ble_eq_true rfl, ?_⟩
  generalize hR : freeR (.mk o s n ks) = R
  rw [freeR_eq] at hR
  generalize hA : (if o == 3 then [s] else []) = A at *
  have hAl : A.length ≤ 1 := by rw [← hA]; split <;> simp
  rw [Pred.cells_eq]
  have hrs : fn_r07_Free.rs = [.t 2] := rfl
  refine seq_named fun N0 h0 => ?_
  simp only [go_sem, Nat.reduceEqDiff, reduceCtorEq, Nat.reduceAdd, Nat.reduceLeDiff, Nat.reduceMul, Nat.reduceLT, Int.reduceToNat, Int.reduceLT, Int.reduceLE, Int.reduceEq, Nat.reduceSub, Pred.op, Pred.name, Pred.n, Pred.kids]
  rw [h0]
  refine seq_named fun N1 h1 => ?_
  simp only [go_sem, Nat.reduceEqDiff, reduceCtorEq, Nat.reduceAdd, Nat.reduceLeDiff, Nat.reduceMul, Nat.reduceLT, Int.reduceToNat, Int.reduceLT, Int.reduceLE, Int.reduceEq, Nat.reduceSub]
  rw [h1]
  refine seq_named fun N2 h2 => ?_
  have key : ∀ (done : List Pred), (∀ k ∈ done, k ∈ ks) → (done.foldl (fun acc k => uniS acc (freeR k)) A).length ≤ 1 + Pred.cnts done := by
    have key2 : ∀ (l : List Pred) (acc : List Str), (l.foldl (fun acc k => uniS acc (freeR k)) acc).length ≤ acc.length + Pred.cnts l := by
      intro l
      induction l with
      | nil => intro acc; simp
      | cons k l ih2 =>
        intro acc
        rw [List.foldl_cons, Pred.cnts]
        have h1 := ih2 (uniS acc (freeR k))
        have h2 := uniS_len acc (freeR k)
        have h3 := freeR_len k
        omega
    intro done _
    have := key2 done A
    omega
  have cnts_app : ∀ a b : List Pred, Pred.cnts (a ++ b) = Pred.cnts a + Pred.cnts b := by
    intro a b
    induction a with
    | nil => simp [Pred.cnts]
    | cons x a ih3 => rw [List.cons_append, Pred.cnts, Pred.cnts, ih3]; omega
  have tail : ∀ st : St, getS st.slots 1 = .ptr 1 0 → (getS st.slots 3).elems = some (A.map fun k => [D.str k]) → (∃ es, getS st.slots 3 = .full es) → st.mem = [(1, [.d (.int .i64 o), .d (.str s), .d (.int .i64 n), .d (.lst (ks.map Pred.cells))])] → st.tk = [] → N2 st := by
    intro st e1 e3 e3' em et
    obtain ⟨es, e3'⟩ := e3'
    rw [e3'] at e3
    simp only [AV.elems, Option.some.injEq] at e3
    subst e3
    obtain ⟨sl, mm, tk⟩ := st
    simp only at e1 e3' em et
    subst em; subst et
    rw [h2]
    refine seq_named fun N3 h3 => ?_
    simp only [go_sem, Nat.reduceEqDiff, reduceCtorEq, Nat.reduceAdd, Nat.reduceLeDiff, Nat.reduceMul, Nat.reduceLT, Int.reduceToNat, Int.reduceLT, Int.reduceLE, Int.reduceEq, Nat.reduceSub, e1, e3']
    intro _
    refine loop_named fun K' hK => ?_
    refine loop_list ks (fun _ => True) (fun done rest => ⟨[(15, .d (.int .i64 done.length)), (14, .d (.int .i64 ks.length)), (13, .d (.lst (ks.map Pred.cells))), (3, .d (.lst ((done.foldl (fun acc k => uniS acc (freeR k)) A).map fun k => [.str k])))], [], []⟩) ?_ trivial ?_ ?_
    · exact Ent_plain (by simp only [go_sem, Nat.reduceEqDiff, reduceCtorEq, Nat.reduceAdd, Nat.reduceLeDiff, Nat.reduceMul, Nat.reduceLT, Int.reduceToNat, Int.reduceLT, Int.reduceLE, Int.reduceEq, Nat.reduceSub, e3', List.foldl_nil])
    · intro done k r hd _
      have hlt := lt_mid hd
      have hww : IntKind.i64.wrap ((done.length : Int) + 1) = ((done.length + 1 : Nat) : Int) := wrap_succ (by omega)
      have hkc : k.cnt ≤ Pred.cnts ks := Pred.cnt_le (by rw [hd]; simp)
      have hk := ih k (by rw [hd]; simp) (by omega)
      have h4 := key done (fun y hy => by rw [hd]; simp [hy])
      have h5 := freeR_len k
      have h6 : Pred.cnts done ≤ Pred.cnts ks := by rw [hd, cnts_app]; omega
      simp only [fn_r07_Free_L1, go_sem, Nat.reduceEqDiff, reduceCtorEq, Nat.reduceAdd, Nat.reduceLeDiff, Nat.reduceMul, Nat.reduceLT, Int.reduceToNat, Int.reduceLT, Int.reduceLE, Int.reduceEq, Nat.reduceSub, hlt, getD_midP hd]
      refine call_by hk ?_
      simp only [go_sem, Nat.reduceEqDiff, reduceCtorEq, Nat.reduceAdd, Nat.reduceLeDiff, Nat.reduceMul, Nat.reduceLT, Int.reduceToNat, Int.reduceLT, Int.reduceLE, Int.reduceEq, Nat.reduceSub]
      refine call_by (hu _ (freeR k) (by omega)) ?_
      simp only [go_sem, Nat.reduceEqDiff, reduceCtorEq, Nat.reduceAdd, Nat.reduceLeDiff, Nat.reduceMul, Nat.reduceLT, Int.reduceToNat, Int.reduceLT, Int.reduceLE, Int.reduceEq, Nat.reduceSub, hww, List.length_append, List.foldl_append, List.foldl_cons, List.foldl_nil]
      exact Ent_plain (by simp only [go_sem, Nat.reduceEqDiff, reduceCtorEq, Nat.reduceAdd, Nat.reduceLeDiff, Nat.reduceMul, Nat.reduceLT, Int.reduceToNat, Int.reduceLT, Int.reduceLE, Int.reduceEq, Nat.reduceSub])
    · intro _
      simp only [fn_r07_Free_L1, go_sem, Nat.reduceEqDiff, reduceCtorEq, Nat.reduceAdd, Nat.reduceLeDiff, Nat.reduceMul, Nat.reduceLT, Int.reduceToNat, Int.reduceLT, Int.reduceLE, Int.reduceEq, Nat.reduceSub, hK, h3, hrs, hR]
  cases c3 : (o == 3) with
  | true =>
    rw [c3] at hA
    simp only [go_sem, Nat.reduceEqDiff, reduceCtorEq, Nat.reduceAdd, Nat.reduceLeDiff, Nat.reduceMul, Nat.reduceLT, Int.reduceToNat, Int.reduceLT, Int.reduceLE, Int.reduceEq, Nat.reduceSub, c3]
    refine tail _ rfl ?_ ⟨_, rfl⟩ rfl rfl
    rw [← hA]; rfl
  | false =>
    rw [c3] at hA
    simp only [go_sem, Nat.reduceEqDiff, reduceCtorEq, Nat.reduceAdd, Nat.reduceLeDiff, Nat.reduceMul, Nat.reduceLT, Int.reduceToNat, Int.reduceLT, Int.reduceLE, Int.reduceEq, Nat.reduceSub, c3]
    refine tail _ rfl ?_ ⟨_, rfl⟩ rfl rfl
    rw [← hA]; rfl
end Go.Abs
end
section
set_option linter.unusedSimpArgs false
set_option linter.unusedVariables false
set_option linter.unusedSectionVars false
namespace Go.Abs
theorem otherAt_len (fr : List Str) (k : Int) (l : List Coef) : (otherAt fr k l).length ≤ l.length := by
  unfold otherAt; rw [List.length_map]; exact List.length_filter_le _ _
theorem freeAt_len (fr : List Str) (l : List Coef) : (freeAt fr l).length ≤ l.length := by
  unfold freeAt; exact List.length_filter_le _ _
theorem otherAt_snoc (fr : List Str) (k : Int) (l : List Coef) (c : Coef) : otherAt fr k (l ++ [c]) = otherAt fr k l ++ (if decide (findIx c.name 0 fr < 0) then [⟨c.name, k⟩] else []) := by
  unfold otherAt
  rw [List.filter_append, List.map_append, List.filter_cons]
  split <;> rfl
theorem freeAt_snoc (fr : List Str) (l : List Coef) (c : Coef) : freeAt fr (l ++ [c]) = freeAt fr l ++ (if decide (findIx c.name 0 fr ≥ 0) then [c] else []) := by
  unfold freeAt
  rw [List.filter_append, List.filter_cons]
  split <;> rfl
set_option maxRecDepth 100000
variable {E : AEnv} (L : Law10 E)
include L
theorem MeaningFree_ev (p : Pred) (at' : List Coef) (fs : List Fact) (k : Int) (hp : p.cnt ≤ 1048576) : E.C l10_MeaningFree [.agg p.cells, .agg [.lst (at'.map Coef.cells), .lst (fs.map Fact.cells)], .one (.int .i64 k)] (.one (.bool true)) := by
  have hf := l10_few_ev L.sys p at' fs
  have hal := L.alive
  have hfr := r07_Free_ev L.sys p hp
  have hfind := fun s => r04_Find_ev L.sys (freeR p) s
  have he1 := L.eval at' fs p
  have he2 := L.eval (otherAt (freeR p) k at' ++ freeAt (freeR p) at') fs p
  rw [← eval_free (k := k) (at' := at') (fs := fs) p] at he2
  have hfew := @few_small p at' fs
  generalize EvalS at' fs p = R1 at *
  unfold res2 at *
  refine L.sys.l10_MeaningFree _ _ ⟨Nat.le_of_ble_eq_true rfl, ?_⟩
  have hrs : fn_l10_MeaningFree.rs = [.t 6] := rfl
  refine seq_named fun N0 h0 => ?_
  simp only [go_sem, Nat.reduceEqDiff, reduceCtorEq, Nat.reduceAdd, Nat.reduceLeDiff, Nat.reduceMul, Nat.reduceLT, Int.reduceToNat, Int.reduceLT, Int.reduceLE, Int.reduceEq, Nat.reduceSub, List.length_map]
  rw [h0]
  refine seq_named fun N1 h1 => ?_
  simp only [go_sem, Nat.reduceEqDiff, reduceCtorEq, Nat.reduceAdd, Nat.reduceLeDiff, Nat.reduceMul, Nat.reduceLT, Int.reduceToNat, Int.reduceLT, Int.reduceLE, Int.reduceEq, Nat.reduceSub, List.length_map]
  refine call_by hf ?_
  cases c0 : fewB p at' fs with
  | false =>
    simp only [go_sem, Nat.reduceEqDiff, reduceCtorEq, Nat.reduceAdd, Nat.reduceLeDiff, Nat.reduceMul, Nat.reduceLT, Int.reduceToNat, Int.reduceLT, Int.reduceLE, Int.reduceEq, Nat.reduceSub]
    refine call_by hal ?_
    simp only [go_sem, Nat.reduceEqDiff, reduceCtorEq, Nat.reduceAdd, Nat.reduceLeDiff, Nat.reduceMul, Nat.reduceLT, Int.reduceToNat, Int.reduceLT, Int.reduceLE, Int.reduceEq, Nat.reduceSub, hrs]
  | true =>
  have hat : at'.length ≤ 60 := (hfew c0).2.1
  simp only [go_sem, Nat.reduceEqDiff, reduceCtorEq, Nat.reduceAdd, Nat.reduceLeDiff, Nat.reduceMul, Nat.reduceLT, Int.reduceToNat, Int.reduceLT, Int.reduceLE, Int.reduceEq, Nat.reduceSub]
  rw [h1]
  refine seq_named fun N2 h2 => ?_
  simp only [go_sem, Nat.reduceEqDiff, reduceCtorEq, Nat.reduceAdd, Nat.reduceLeDiff, Nat.reduceMul, Nat.reduceLT, Int.reduceToNat, Int.reduceLT, Int.reduceLE, Int.reduceEq, Nat.reduceSub, List.length_map]
  refine call_by hfr ?_
  simp only [go_sem, Nat.reduceEqDiff, reduceCtorEq, Nat.reduceAdd, Nat.reduceLeDiff, Nat.reduceMul, Nat.reduceLT, Int.reduceToNat, Int.reduceLT, Int.reduceLE, Int.reduceEq, Nat.reduceSub]
  rw [h2]
  refine seq_named fun N3 h3 => ?_
  simp only [go_sem, Nat.reduceEqDiff, reduceCtorEq, Nat.reduceAdd, Nat.reduceLeDiff, Nat.reduceMul, Nat.reduceLT, Int.reduceToNat, Int.reduceLT, Int.reduceLE, Int.reduceEq, Nat.reduceSub]
  rw [h3]
  refine seq_named fun N4 h4 => ?_
  simp only [go_sem, Nat.reduceEqDiff, reduceCtorEq, Nat.reduceAdd, Nat.reduceLeDiff, Nat.reduceMul, Nat.reduceLT, Int.reduceToNat, Int.reduceLT, Int.reduceLE, Int.reduceEq, Nat.reduceSub, List.length_map]
  intro _
  refine loop_named fun K' hK => ?_
  refine loop_list at' (fun _ => True) (fun done rest => ⟨[(30, .d (.int .i64 done.length)), (29, .d (.int .i64 at'.length)), (28, .d (.lst (at'.map Coef.cells))), (7, .d (.lst ((freeR p).map fun k => [.str k]))), (2, .d (.int .i64 k)), (8, .own 8 2 ((otherAt (freeR p) k done).map Coef.cells)), (3, .ptr 3 0), (4, .ptr 4 0)], [(4, [.d (.lst (at'.map Coef.cells)), .d (.lst (fs.map Fact.cells))]), (3, p.cells.map .d)], [(8, true)]⟩) ?_ trivial ?_ ?_
  · exact Ent_conv 8 8 2 [] [(8, 8)] rfl (by simp) rfl (by simp only [Ent0, go_sem, Nat.reduceEqDiff, reduceCtorEq, Nat.reduceAdd, Nat.reduceLeDiff, Nat.reduceMul, Nat.reduceLT, Int.reduceToNat, Int.reduceLT, Int.reduceLE, Int.reduceEq, Nat.reduceSub, List.contains_nil, Option.isSome_some, otherAt, List.filter_nil])
  · intro done c r hl _
    have hlt := lt_mid hl
    have hll : at'.length = done.length + (r.length + 1) := by rw [hl]; simp
    have hw : IntKind.i64.wrap ((done.length : Int) + 1) = ((done.length + 1 : Nat) : Int) := wrap_succ (by omega)
    have hol := otherAt_len (freeR p) k done
    have o1 : ((otherAt (freeR p) k done).length + 1) * 24 ≤ 2 ^ 46 := by omega
    have hi : (∀ e ∈ [[D.str c.name, D.int .i64 k]], e.length = 2) = True := eq_true (by simp)
    simp only [fn_l10_MeaningFree_L2, go_sem, Nat.reduceEqDiff, reduceCtorEq, Nat.reduceAdd, Nat.reduceLeDiff, Nat.reduceMul, Nat.reduceLT, Int.reduceToNat, Int.reduceLT, Int.reduceLE, Int.reduceEq, Nat.reduceSub, getD_at hl, hlt, Coef.cells]
    refine call_by (hfind c.name) ?_
    cases hc : decide (findIx c.name 0 (freeR p) < 0) with
    | true =>
      simp only [go_sem, Nat.reduceEqDiff, reduceCtorEq, Nat.reduceAdd, Nat.reduceLeDiff, Nat.reduceMul, Nat.reduceLT, Int.reduceToNat, Int.reduceLT, Int.reduceLE, Int.reduceEq, Nat.reduceSub, hc, hi, o1, hw, List.length_append, List.length_map, otherAt_snoc, List.map_append]
      refine ⟨by omega, Ent_own [(8, 45)] ?_⟩
      simp only [go_sem, Nat.reduceEqDiff, reduceCtorEq, Nat.reduceAdd, Nat.reduceLeDiff, Nat.reduceMul, Nat.reduceLT, Int.reduceToNat, Int.reduceLT, Int.reduceLE, Int.reduceEq, Nat.reduceSub, List.contains_nil, Option.isSome_some, Coef.cells]
    | false =>
      simp only [go_sem, Nat.reduceEqDiff, reduceCtorEq, Nat.reduceAdd, Nat.reduceLeDiff, Nat.reduceMul, Nat.reduceLT, Int.reduceToNat, Int.reduceLT, Int.reduceLE, Int.reduceEq, Nat.reduceSub, hc, hw, List.length_append, otherAt_snoc]
      exact Ent_own [(8, 8)] (by simp only [go_sem, Nat.reduceEqDiff, reduceCtorEq, Nat.reduceAdd, Nat.reduceLeDiff, Nat.reduceMul, Nat.reduceLT, Int.reduceToNat, Int.reduceLT, Int.reduceLE, Int.reduceEq, Nat.reduceSub, List.contains_nil, Option.isSome_some])
  · intro _
    simp only [fn_l10_MeaningFree_L2, go_sem, Nat.reduceEqDiff, reduceCtorEq, Nat.reduceAdd, Nat.reduceLeDiff, Nat.reduceMul, Nat.reduceLT, Int.reduceToNat, Int.reduceLT, Int.reduceLE, Int.reduceEq, Nat.reduceSub, hK]
    rw [h4]
    refine seq_named fun N5 h5 => ?_
    simp only [go_sem, Nat.reduceEqDiff, reduceCtorEq, Nat.reduceAdd, Nat.reduceLeDiff, Nat.reduceMul, Nat.reduceLT, Int.reduceToNat, Int.reduceLT, Int.reduceLE, Int.reduceEq, Nat.reduceSub, List.length_map]
    intro _
    refine loop_named fun K2 hK2 => ?_
    refine loop_list at' (fun _ => True) (fun done rest => ⟨[(50, .d (.int .i64 done.length)), (49, .d (.int .i64 at'.length)), (48, .d (.lst (at'.map Coef.cells))), (7, .d (.lst ((freeR p).map fun k => [.str k]))), (8, .own 8 2 ((otherAt (freeR p) k at' ++ freeAt (freeR p) done).map Coef.cells)), (3, .ptr 3 0), (4, .ptr 4 0)], [(4, [.d (.lst (at'.map Coef.cells)), .d (.lst (fs.map Fact.cells))]), (3, p.cells.map .d)], [(8, true)]⟩) ?_ trivial ?_ ?_
    · exact Ent_own [(8, 8)] (by simp only [go_sem, Nat.reduceEqDiff, reduceCtorEq, Nat.reduceAdd, Nat.reduceLeDiff, Nat.reduceMul, Nat.reduceLT, Int.reduceToNat, Int.reduceLT, Int.reduceLE, Int.reduceEq, Nat.reduceSub, List.contains_nil, Option.isSome_some, freeAt, List.filter_nil])
    · intro done c r hl _
      have hlt := lt_mid hl
      have hll : at'.length = done.length + (r.length + 1) := by rw [hl]; simp
      have hw : IntKind.i64.wrap ((done.length : Int) + 1) = ((done.length + 1 : Nat) : Int) := wrap_succ (by omega)
      have hol := otherAt_len (freeR p) k at'
      have hfl := freeAt_len (freeR p) done
      have o1 : ((otherAt (freeR p) k at').length + (freeAt (freeR p) done).length + 1) * 24 ≤ 2 ^ 46 := by omega
      have hi : (∀ e ∈ [[D.str c.name, D.int .i64 c.n]], e.length = 2) = True := eq_true (by simp)
      simp only [fn_l10_MeaningFree_L1, go_sem, Nat.reduceEqDiff, reduceCtorEq, Nat.reduceAdd, Nat.reduceLeDiff, Nat.reduceMul, Nat.reduceLT, Int.reduceToNat, Int.reduceLT, Int.reduceLE, Int.reduceEq, Nat.reduceSub, getD_at hl, hlt, Coef.cells]
      refine call_by (hfind c.name) ?_
      cases hc : decide (findIx c.name 0 (freeR p) ≥ 0) with
      | true =>
        simp only [go_sem, Nat.reduceEqDiff, reduceCtorEq, Nat.reduceAdd, Nat.reduceLeDiff, Nat.reduceMul, Nat.reduceLT, Int.reduceToNat, Int.reduceLT, Int.reduceLE, Int.reduceEq, Nat.reduceSub, hc, hi, o1, hw, List.length_append, List.length_map, freeAt_snoc, List.map_append]
        refine ⟨by omega, Ent_own [(8, 62)] ?_⟩
        simp only [go_sem, Nat.reduceEqDiff, reduceCtorEq, Nat.reduceAdd, Nat.reduceLeDiff, Nat.reduceMul, Nat.reduceLT, Int.reduceToNat, Int.reduceLT, Int.reduceLE, Int.reduceEq, Nat.reduceSub, List.contains_nil, Option.isSome_some, Coef.cells, List.append_assoc]
      | false =>
        simp only [go_sem, Nat.reduceEqDiff, reduceCtorEq, Nat.reduceAdd, Nat.reduceLeDiff, Nat.reduceMul, Nat.reduceLT, Int.reduceToNat, Int.reduceLT, Int.reduceLE, Int.reduceEq, Nat.reduceSub, hc, hw, List.length_append, freeAt_snoc]
        exact Ent_own [(8, 8)] (by simp only [go_sem, Nat.reduceEqDiff, reduceCtorEq, Nat.reduceAdd, Nat.reduceLeDiff, Nat.reduceMul, Nat.reduceLT, Int.reduceToNat, Int.reduceLT, Int.reduceLE, Int.reduceEq, Nat.reduceSub, List.contains_nil, Option.isSome_some])
    · intro _
      simp only [fn_l10_MeaningFree_L1, go_sem, Nat.reduceEqDiff, reduceCtorEq, Nat.reduceAdd, Nat.reduceLeDiff, Nat.reduceMul, Nat.reduceLT, Int.reduceToNat, Int.reduceLT, Int.reduceLE, Int.reduceEq, Nat.reduceSub, hK2, h5, List.length_map]
      refine call_by he1 ?_
      simp only [go_sem, Nat.reduceEqDiff, reduceCtorEq, Nat.reduceAdd, Nat.reduceLeDiff, Nat.reduceMul, Nat.reduceLT, Int.reduceToNat, Int.reduceLT, Int.reduceLE, Int.reduceEq, Nat.reduceSub, List.length_map]
      refine call_by he2 ?_
      simp only [go_sem, Nat.reduceEqDiff, reduceCtorEq, Nat.reduceAdd, Nat.reduceLeDiff, Nat.reduceMul, Nat.reduceLT, Int.reduceToNat, Int.reduceLT, Int.reduceLE, Int.reduceEq, Nat.reduceSub, beq_self_eq_true]
      refine call_by hal ?_
      simp only [go_sem, Nat.reduceEqDiff, reduceCtorEq, Nat.reduceAdd, Nat.reduceLeDiff, Nat.reduceMul, Nat.reduceLT, Int.reduceToNat, Int.reduceLT, Int.reduceLE, Int.reduceEq, Nat.reduceSub, hrs]
end Go.Abs
end
section
set_option linter.unusedSimpArgs false
set_option linter.unusedVariables false
set_option linter.unusedSectionVars false
namespace Go.Abs
open Go.RowKit
variable {T : Nat → Option Ty} {P : Program} {G : Nat → Option (List D)}
variable {l : Nat} {J : List (List CV) → World → Safe → Prop} {Jx : World → Safe → Prop}

theorem fn_parts {fn : Func} {fa : FnA} (h : trFn T fn = some fa) : (fn.name == "runtime.NumGoroutine") = false ∧ ∃ cd, fn.body = some cd ∧ tr T fn.ntmps cd = some fa.ac ∧ fn.results.toList.mapM (trRes T) = some fa.rs ∧ fn.ntmps = fa.n := by
  simp only [trFn] at h
  split at h
  · cases h
  · rename_i hname
    simp only [Option.bind_eq_bind, Option.pure_def, Option.bind_eq_some_iff, Option.some.injEq] at h
    obtain ⟨cd, hcd, ac, hac, rs, hrs, rfl⟩ := h
    exact ⟨by simpa using hname, cd, hcd, hac, hrs, rfl⟩

/-- the tail of a text where yield has said no: slot k is set to false, and the function returns -/
theorem stop_tail (hT : ∀ t ty, T t = some ty → chkTy P t ty = true) {fn : Func} {N k : Nat} {cd : Code} {W1 : World} {S1 : Safe} {st : St} {tmps : Array Value} {w : World} {S : Safe} {ρ : Rho} (hrs : fn.results.toList.mapM (trRes T) = some [.t k]) (h : tr T N cd = some (.seq (.reg [(none, .mv k (.c (.d (.bool false))))]) .ret))
    (hs : Sim (baseC P W1 S1 N (fun _ => none)) st tmps w S ρ) (hm : st.mem = []) {R : Ending → World → Prop} (hR : ∀ w' S', Grows W1 S1 w' S' → R (.returned (.bool false)) w') {Q : Exit → Act → World → Prop} (hQ : ∀ a w, LeavesInM Fence.wide 0 P fn a.tmps R a.defers .returning w → Q .ret a w) {m : Nat} :
    cd.wpIn (FR none) m P Q ⟨tmps, []⟩ w := by
  obtain ⟨x, y, rfl, hx, hy⟩ := tr_seq h
  obtain rfl := tr_ret hy
  refine wpIn_seq (reg_step (K := fun s => getS s.slots k = .d (.bool false) ∧ s.mem = []) hT hx hs ?_ ?_)
  · simp only [go_sem, Nat.reduceEqDiff, reduceCtorEq, Nat.reduceAdd, Nat.reduceLeDiff, Nat.reduceMul, Nat.reduceLT, Int.reduceToNat, Int.reduceLT, Int.reduceLE, Int.reduceEq, Nat.reduceSub, hm]
  · rintro st' tm w' S' ρ' hs' ⟨h1, h2⟩
    refine wpIn_ret (hQ _ _ ⟨_, ret_bool hT hrs hs' h2 h1, hR _ _ hs'.grows⟩)

/-- the loop over the kids -/
theorem visit_loop (hT : ∀ t ty, T t = some ty → chkTy P t ty = true) {L : List Pred} (hY : YCtx P G l (yields L) J Jx) {fn : Func} (hrs : fn.results.toList.mapM (trRes T) = some [.t 4]) (hN : fn.ntmps = 23) {ks : List Pred} (hlen : (ks.length : Int) ≤ 9223372036854775807)
    (ih : ∀ k ∈ ks, EvY P (yields L) J Jx pred_visit [CV.agg k.cells, CV.one (D.yl l)] (yields k.pre)) {body : Code} (hbody : tr T fn.ntmps body = some fn_pred_visit_L1) {a b : List (List CV)} (hxs : yields L = a ++ yields (Pred.pre.pres ks) ++ b) {W0 : World} {S0 : Safe}
    {RR : Ending → World → Prop} (hRR : ∀ w' S', Jx w' S' → RR (.returned (.bool false)) w') {R : Exit → Act → World → Prop} (hstop : ∀ a w, LeavesInM Fence.wide 0 P fn a.tmps RR a.defers .returning w → R .ret a w)
    (hexit : ∀ W' S3 st tm w S' ρ, J (a ++ yields (Pred.pre.pres ks)) W' S3 → Keeps W0 S0 W' S3 → Sim (baseC P W' S3 fn.ntmps G) st tm w S' ρ → st.mem = [] → R (.exit 0) ⟨tm, []⟩ w) :
    ∀ (rest done : List Pred), ks = done ++ rest → ∀ (W' : World) (S3 : Safe) (tm : Array Value) (w : World) (S' : Safe) (ρ : Rho), J (a ++ yields (Pred.pre.pres done)) W' S3 → Keeps W0 S0 W' S3 →
      Sim (baseC P W' S3 fn.ntmps G) (pureSt [(14, .int .i64 done.length), (13, .int .i64 ks.length), (12, .lst (ks.map Pred.cells)), (1, .yl l)]) tm w S' ρ →
      Inside (FR none) 0 P body R ⟨tm, []⟩ w := by
  unfold fn_pred_visit_L1 at hbody
  obtain ⟨z0, z1, rfl, k0, k1⟩ := tr_seq hbody
  obtain ⟨z2, z3, rfl, k2, k3⟩ := tr_seq k1
  obtain ⟨z4, z5, rfl, k4, k5⟩ := tr_seq k3
  obtain ⟨zg, zy, zz, rfl, kg, ky, kz⟩ := tr_cond k2
  obtain rfl := tr_skip ky
  obtain rfl := tr_exit kz
  obtain ⟨z6, rfl, k6⟩ := tr_block k4
  obtain ⟨z7, z8, rfl, k7, k8⟩ := tr_seq k6
  obtain ⟨z9, z10, rfl, k9, k10⟩ := tr_seq k8
  obtain ⟨vg, vy, vz, rfl, vk, vky, vkz⟩ := tr_cond k10
  obtain rfl := tr_skip vkz
  have hd : ∀ d, d < 23 → d < fn.ntmps := fun d hd => by rw [hN]; exact hd
  intro rest
  induction rest with
  | nil =>
    intro done hdone W' S3 tm w S' ρ hJ' hk' hs
    have hdone : ks = done := by simpa using hdone
    subst hdone
    refine inside_round (wpIn_seq (reg_step (K := fun z => getS z.slots 15 = .d (.bool false) ∧ z.mem = []) hT k0 hs ?_ ?_))
    · simp only [go_sem, Nat.reduceEqDiff, reduceCtorEq, Nat.reduceAdd, Nat.reduceLeDiff, Nat.reduceMul, Nat.reduceLT, Int.reduceToNat, Int.reduceLT, Int.reduceLE, Int.reduceEq, Nat.reduceSub, pureSt]
    rintro st1 tm1 w1 S1 ρ1 hs1 ⟨h15, hm⟩
    refine wpIn_seq (cond_step kg hs1 (b := false) (by simp [ev, ev0, h15, AV.strip]) (by simp [gd, ev0, h15, AV.grd]) (fun h => by cases h) (fun _ => wpIn_exit ?_))
    exact hexit _ _ _ _ _ _ _ hJ' hk' hs1 hm
  | cons k rest ihr =>
    intro done hdone W' S3 tm w S' ρ hJ' hk' hs
    have hlt := lt_mid hdone
    have hw : IntKind.i64.wrap ((done.length : Int) + 1) = ((done.length + 1 : Nat) : Int) := wrap_succ (by omega)
    refine inside_round (wpIn_seq (reg_step (K := fun z => z = ⟨[(15, .d (.bool true)), (14, .d (.int .i64 done.length)), (13, .d (.int .i64 ks.length)), (12, .d (.lst (ks.map Pred.cells))), (1, .d (.yl l))], [], []⟩) hT k0 hs ?_ ?_))
    · simp only [go_sem, Nat.reduceEqDiff, reduceCtorEq, Nat.reduceAdd, Nat.reduceLeDiff, Nat.reduceMul, Nat.reduceLT, Int.reduceToNat, Int.reduceLT, Int.reduceLE, Int.reduceEq, Nat.reduceSub, pureSt, hlt]
    rintro _ tm1 w1 S1 ρ1 hs1 rfl
    refine wpIn_seq (cond_step kg hs1 (b := true) rfl rfl (fun _ => wpIn_skip ?_) (fun h => by cases h))
    refine wpIn_seq (wpIn_block (wpIn_seq (reg_step (K := fun z => ∃ sl mm, z = ⟨(6, .ptr 6 0) :: sl, (6, (Pred.cells k).map .d) :: mm, []⟩ ∧ getS sl 14 = .d (.int .i64 done.length) ∧ getS sl 13 = .d (.int .i64 ks.length) ∧ getS sl 12 = .d (.lst (ks.map Pred.cells)) ∧ getS sl 1 = .d (.yl l)) hT k7 hs1 ?_ ?_)))
    · simp only [go_sem, Nat.reduceEqDiff, reduceCtorEq, Nat.reduceAdd, Nat.reduceLeDiff, Nat.reduceMul, Nat.reduceLT, Int.reduceToNat, Int.reduceLT, Int.reduceLE, Int.reduceEq, Nat.reduceSub, hlt, getD_midP hdone]
      exact ⟨_, _, rfl, rfl, rfl, rfl, rfl⟩
    rintro _ tm2 w2 S2 ρ2 hs2 ⟨sl, mm, rfl, h14, h13, h12, h1⟩
    refine wpIn_seq ?_
    obtain ⟨id, ops, rfl, hops, hok⟩ := tr_reg k9
    obtain ⟨hlen', hget⟩ := trOps_get hops
    have hsz : ops.size = 4 := by simpa using hlen'.symm
    refine wpIn_region ?_
    have hr : List.range ops.size = List.range' 0 2 ++ [2, 3] := by rw [hsz]; rfl
    rw [hr]
    refine ops_pre (c := baseC P W' S3 fn.ntmps G) (E := quietE G) rfl (fun _ _ _ h => h.elim) hT hops (fun o ho d hd => ⟨okDst_D hok ho hd, rfl⟩) (FR.fw none) 0 _
      (K := fun z => z = ⟨(19, .d (.yl l)) :: (18, .agg ((Pred.cells k).map .d)) :: (6, .ptr 6 0) :: sl, (6, (Pred.cells k).map .d) :: mm, []⟩) [2, 3] 2 0 (by omega) ?_ hs2 ?_
    case refine_2 =>
      rw [Pred.cells_eq]
      simp only [go_sem, Nat.reduceEqDiff, reduceCtorEq, Nat.reduceAdd, Nat.reduceLeDiff, Nat.reduceMul, Nat.reduceLT, Int.reduceToNat, Int.reduceLT, Int.reduceLE, Int.reduceEq, Nat.reduceSub, h1]
    rintro ⟨tm3, ds3⟩ w3 ⟨hds, st3, S4, ρ3, hs3, rfl⟩
    simp only at hds
    subst hds
    obtain ⟨gi2, i2, hl2, htg2, hti2⟩ := hget 2 ops[2] (by simp [hsz])
    obtain ⟨gi3, i3, hl3, htg3, hti3⟩ := hget 3 ops[3] (by simp [hsz])
    simp only [go_sem, Nat.reduceEqDiff, reduceCtorEq, Nat.reduceAdd, Nat.reduceLeDiff, Nat.reduceMul, Nat.reduceLT, Int.reduceToNat, Int.reduceLT, Int.reduceLE, Int.reduceEq, Nat.reduceSub, Prod.mk.injEq] at hl2 hl3
    obtain ⟨rfl, rfl⟩ := hl2
    rw [wpOpsIn_cons]
    have h4 : 3 + 1 ≤ ops.size := by omega
    have hkm : k ∈ ks := by rw [hdone]; simp
    have hys : yields (Pred.pre.pres ks) = yields (Pred.pre.pres done) ++ (yields k.pre ++ yields (Pred.pre.pres rest)) := by
      rw [hdone, Pred.pres_app, Pred.pre.pres]; simp [yields]
    refine wpOpIn_plain (ops := ops) (k := 2) (o := ops[2]) (by simp [hsz]) htg2 (evy_op hY (a := a ++ yields (Pred.pre.pres done)) (ys := yields k.pre) (b := yields (Pred.pre.pres rest) ++ b) (by rw [hxs, hys]; simp) hJ' hs3 hti2 (hd _ (by omega)) rfl rfl rfl
      (cvs := [.agg (Pred.cells k), .one (.yl l)]) ?_ (ih k hkm) [(14, .int .i64 done.length), (13, .int .i64 ks.length), (12, .lst (ks.map Pred.cells)), (1, .yl l)] ?_ ?_ ?_)
    · simp only [go_sem, Nat.reduceEqDiff, reduceCtorEq, Nat.reduceAdd, Nat.reduceLeDiff, Nat.reduceMul, Nat.reduceLT, Int.reduceToNat, Int.reduceLT, Int.reduceLE, Int.reduceEq, Nat.reduceSub]
    · intro q hq
      simp only [List.mem_cons, List.not_mem_nil, or_false] at hq
      rcases hq with rfl | rfl | rfl | rfl <;> simp only [go_sem, Nat.reduceEqDiff, reduceCtorEq, Nat.reduceAdd, Nat.reduceLeDiff, Nat.reduceMul, Nat.reduceLT, Int.reduceToNat, Int.reduceLT, Int.reduceLE, Int.reduceEq, Nat.reduceSub, h14, h13, h12, h1]
    rotate_left
    · -- it has said no
      intro W8 S8 ρ8 hx8 hs8
      refine ops_pre (c := baseC P W8 S8 fn.ntmps fun _ => none) (E := quietE fun _ => none) rfl (fun _ _ _ h => h.elim) hT hops (fun o ho d hd => ⟨okDst_D hok ho hd, rfl⟩) (FR.fw none) 0 _
        (K := fun z => getS z.slots 21 = .d (.bool true) ∧ z.mem = []) [] 1 3 h4 ?_ hs8 ?_
      case refine_2 => simp only [go_sem, Nat.reduceEqDiff, reduceCtorEq, Nat.reduceAdd, Nat.reduceLeDiff, Nat.reduceMul, Nat.reduceLT, Int.reduceToNat, Int.reduceLT, Int.reduceLE, Int.reduceEq, Nat.reduceSub, pureSt]
      rintro ⟨tm4, ds4⟩ w4 ⟨hds, st4, S4, ρ4, hs4, h10, hm⟩
      simp only at hds
      subst hds
      refine cond_step vk hs4 (b := true) (by simp [ev, ev0, h10, AV.strip]) (by simp [gd, ev0, h10, AV.grd]) (fun _ => ?_) (fun h => by cases h)
      refine stop_tail hT hrs vky hs4 hm (fun w' S' hg => hRR _ _ (hY.growx _ _ _ _ hx8 hg)) (fun a w h => ?_)
      exact hstop a w h
    -- it goes on
    intro W8 S8 ρ8 hJ8 hk8 hs8
    refine ops_pre (c := baseC P W8 S8 fn.ntmps G) (E := quietE G) rfl (fun _ _ _ h => h.elim) hT hops (fun o ho d hd => ⟨okDst_D hok ho hd, rfl⟩) (FR.fw none) 0 _
        (K := fun z => z = ⟨(21, .d (.bool false)) :: (20, .d (.bool true)) :: (pureSt [(14, .int .i64 done.length), (13, .int .i64 ks.length), (12, .lst (ks.map Pred.cells)), (1, .yl l)]).slots, [], []⟩) [] 1 3 h4 ?_ hs8 ?_
    case refine_2 => simp only [go_sem, Nat.reduceEqDiff, reduceCtorEq, Nat.reduceAdd, Nat.reduceLeDiff, Nat.reduceMul, Nat.reduceLT, Int.reduceToNat, Int.reduceLT, Int.reduceLE, Int.reduceEq, Nat.reduceSub, pureSt]
    rintro ⟨tm4, ds4⟩ w4 ⟨hds, st4, S4, ρ4, hs4, rfl⟩
    simp only at hds
    subst hds
    refine cond_step vk hs4 (b := false) rfl rfl (fun h => by cases h) (fun _ => wpIn_skip ?_)
    refine reg_step (K := fun z => ∃ sl, z = ⟨(14, .d (.int .i64 (done.length + 1 : Nat))) :: sl, [], []⟩ ∧ getS sl 13 = .d (.int .i64 ks.length) ∧ getS sl 12 = .d (.lst (ks.map Pred.cells)) ∧ getS sl 1 = .d (.yl l)) hT k5 hs4 ?_ ?_
    · simp only [go_sem, Nat.reduceEqDiff, reduceCtorEq, Nat.reduceAdd, Nat.reduceLeDiff, Nat.reduceMul, Nat.reduceLT, Int.reduceToNat, Int.reduceLT, Int.reduceLE, Int.reduceEq, Nat.reduceSub, pureSt, hw]
      exact ⟨_, rfl, rfl, rfl, rfl⟩
    rintro _ tm5 w5 S5 ρ5 hs5 ⟨sl5, rfl, g13, g12, g1⟩
    obtain ⟨ρ6, hs6⟩ := Ent.sound hs5 (st1 := pureSt [(14, .int .i64 (done ++ [k]).length), (13, .int .i64 ks.length), (12, .lst (ks.map Pred.cells)), (1, .yl l)]) (Ent_plain (by simp only [go_sem, Nat.reduceEqDiff, reduceCtorEq, Nat.reduceAdd, Nat.reduceLeDiff, Nat.reduceMul, Nat.reduceLT, Int.reduceToNat, Int.reduceLT, Int.reduceLE, Int.reduceEq, Nat.reduceSub, pureSt, g13, g12, g1, List.length_append]))
    have hkk : Keeps W' S3 w3 _ := hs3.grows.keeps (hY.live _ _ _ hJ')
    exact ihr (done ++ [k]) (by simp [hdone]) W8 S8 tm5 w5 S5 ρ6 (by rw [Pred.pres_app, Pred.pre.pres, Pred.pre.pres]; simpa [yields] using hJ8) ((hk'.trans hkk).trans hk8) hs6

theorem visit_ok (hT : ∀ t ty, T t = some ty → chkTy P t ty = true) {L : List Pred} (hY : YCtx P G l (yields L) J Jx) {fn : Func} (hf : P.funcs[pred_visit]? = some fn) (htr : trFn T fn = some fn_pred_visit) (p : Pred) :
    EvY P (yields L) J Jx pred_visit [.agg (Pred.cells p), .one (.yl l)] (yields p.pre) := by
  induction p using Pred.ind with
  | h o s n ks ih =>
  obtain ⟨hname, cd, hcd, hac, hrs, hN⟩ := fn_parts htr
  refine ⟨⟨fn, hf, hname, by simp [hcd]⟩, ?_⟩
  intro a b W S cargs hxs hJ hargs
  refine callsIn_wide.1 (callsIn_of_wp_marks (n := 0) hf hcd trivial ?_)
  have hs0 := init_sim (P := P) (G := G) (fn := fn) (by rw [hN]; exact Nat.le_of_ble_eq_true rfl) (hY.live _ _ _ hJ) (hY.glob _ _ _ hJ) hargs
  change Sim (baseC P W S fn.ntmps G) _ _ _ _ _ at hs0
  obtain ⟨x0, y0, rfl, h0, hac⟩ := tr_seq hac
  obtain ⟨x1, y1, rfl, h1, hac⟩ := tr_seq hac
  obtain ⟨x2, y2, rfl, h2, h3⟩ := tr_seq hac
  obtain ⟨x1a, x1b, rfl, h1a, h1b⟩ := tr_seq h1
  obtain ⟨x2a, x2b, rfl, h2a, h2b⟩ := tr_seq h2
  obtain ⟨x3a, x3b, rfl, h3a, h3b⟩ := tr_seq h3
  obtain rfl := tr_ret h3b
  obtain ⟨cg, cy, cz, rfl, hcg, hcy, hcz⟩ := tr_cond h1b
  obtain rfl := tr_skip hcz
  have hd : ∀ d, d < 23 → d < fn.ntmps := fun d hd => by rw [hN]; exact hd
  rw [Pred.cells_eq] at hargs hs0
  simp only [Pred.op, Pred.name, Pred.n, Pred.kids] at hargs hs0
  generalize hcs : ([D.int .i64 o, D.str s, D.int .i64 n, D.lst (ks.map Pred.cells)] : List D) = pc at hargs hs0
  -- the predicate is boxed
  refine wpIn_seq (reg_step (K := fun z => z = ⟨[(4, .d (.bool false)), (2, .ptr 2 0), (0, .agg (pc.map .d)), (1, .d (.yl l))], [(2, pc.map .d)], []⟩) hT h0 hs0 ?_ ?_)
  · subst hcs; simp only [go_sem, Nat.reduceEqDiff, reduceCtorEq, Nat.reduceAdd, Nat.reduceLeDiff, Nat.reduceMul, Nat.reduceLT, Int.reduceToNat, Int.reduceLT, Int.reduceLE, Int.reduceEq, Nat.reduceSub]
  rintro _ tm1 w1 S1 ρ1 hs1 rfl
  -- it is yielded
  refine wpIn_seq ?_
  refine wpIn_seq ?_
  obtain ⟨id, ops, rfl, hops, hok⟩ := tr_reg h1a
  obtain ⟨hlen, hget⟩ := trOps_get hops
  have hsz : ops.size = 4 := by simpa using hlen.symm
  refine wpIn_region ?_
  have hr : List.range ops.size = List.range' 0 2 ++ [2, 3] := by rw [hsz]; rfl
  rw [hr]
  refine ops_pre (c := baseC P W S fn.ntmps G) (E := quietE G) rfl (fun _ _ _ h => h.elim) hT hops (fun o ho d hd => ⟨okDst_D hok ho hd, rfl⟩) (FR.fw none) 0 _
    (K := fun z => z = ⟨[(8, .agg (pc.map .d)), (7, .d (.yl l)), (4, .d (.bool false)), (2, .ptr 2 0), (0, .agg (pc.map .d)), (1, .d (.yl l))], [(2, pc.map .d)], []⟩) [2, 3] 2 0 (by omega) ?_ hs1 ?_
  case refine_2 =>
    subst hcs
    simp only [go_sem, Nat.reduceEqDiff, reduceCtorEq, Nat.reduceAdd, Nat.reduceLeDiff, Nat.reduceMul, Nat.reduceLT, Int.reduceToNat, Int.reduceLT, Int.reduceLE, Int.reduceEq, Nat.reduceSub]
  rintro ⟨tm2, ds2⟩ w2 ⟨hds, st2, S2, ρ2, hs2, rfl⟩
  simp only at hds
  subst hds
  obtain ⟨gi2, i2, hl2, htg2, hti2⟩ := hget 2 ops[2] (by simp [hsz])
  obtain ⟨gi3, i3, hl3, htg3, hti3⟩ := hget 3 ops[3] (by simp [hsz])
  simp only [go_sem, Nat.reduceEqDiff, reduceCtorEq, Nat.reduceAdd, Nat.reduceLeDiff, Nat.reduceMul, Nat.reduceLT, Int.reduceToNat, Int.reduceLT, Int.reduceLE, Int.reduceEq, Nat.reduceSub, Prod.mk.injEq] at hl2 hl3
  obtain ⟨rfl, rfl⟩ := hl2
  rw [wpOpsIn_cons]
  have hpre : yields (Pred.mk o s n ks).pre = [.agg pc] :: yields (Pred.pre.pres ks) := by
    rw [Pred.pre_eq, yields, List.map_cons, Pred.cells_eq]
    simp only [Pred.op, Pred.name, Pred.n, Pred.kids, hcs]; rfl
  rw [hpre] at hxs
  have h4 : 3 + 1 ≤ ops.size := by omega
  refine wpOpIn_plain (ops := ops) (k := 2) (o := ops[2]) (by simp [hsz]) htg2 (yield_op hY (x := [.agg pc]) (b := yields (Pred.pre.pres ks) ++ b) (by simpa using hxs) hJ hs2 hti2 (hd _ (by omega)) rfl rfl rfl ?_ [(2, .ref pc), (1, .yl l), (4, .bool false)] ?_ ?_ ?_)
  · simp only [go_sem, Nat.reduceEqDiff, reduceCtorEq, Nat.reduceAdd, Nat.reduceLeDiff, Nat.reduceMul, Nat.reduceLT, Int.reduceToNat, Int.reduceLT, Int.reduceLE, Int.reduceEq, Nat.reduceSub]
  · subst hcs
    intro q hq
    simp only [List.mem_cons, List.not_mem_nil, or_false] at hq
    rcases hq with rfl | rfl | rfl
    · simp only [go_sem, Nat.reduceEqDiff, reduceCtorEq, Nat.reduceAdd, Nat.reduceLeDiff, Nat.reduceMul, Nat.reduceLT, Int.reduceToNat, Int.reduceLT, Int.reduceLE, Int.reduceEq, Nat.reduceSub, List.mapM_cons, List.mapM_nil, Option.bind_eq_bind, Option.bind_some, Option.pure_def]
    · rfl
    · rfl
  rotate_left
  · -- it has said no
    intro W' S3 ρ3 hx3 hs3
    refine ops_pre (c := baseC P W' S3 fn.ntmps fun _ => none) (E := quietE fun _ => none) rfl (fun _ _ _ h => h.elim) hT hops (fun o ho d hd => ⟨okDst_D hok ho hd, rfl⟩) (FR.fw none) 0 _
      (K := fun z => getS z.slots 10 = .d (.bool true) ∧ z.mem = []) [] 1 3 h4 ?_ hs3 ?_
    case refine_2 => simp only [go_sem, Nat.reduceEqDiff, reduceCtorEq, Nat.reduceAdd, Nat.reduceLeDiff, Nat.reduceMul, Nat.reduceLT, Int.reduceToNat, Int.reduceLT, Int.reduceLE, Int.reduceEq, Nat.reduceSub, pureSt]
    rintro ⟨tm4, ds4⟩ w4 ⟨hds, st4, S4, ρ4, hs4, h10, hm⟩
    simp only at hds
    subst hds
    refine cond_step hcg hs4 (b := true) (by simp [ev, ev0, h10, AV.strip]) (by simp [gd, ev0, h10, AV.grd]) (fun _ => ?_) (fun h => by cases h)
    refine stop_tail hT hrs hcy hs4 hm (fun w' S' hg => .inr ⟨rfl, S', hY.growx _ _ _ _ hx3 hg⟩) (fun _ _ h => h)
  -- it goes on
  intro W' S3 ρ3 hJ3 hk3 hs3
  refine ops_pre (c := baseC P W' S3 fn.ntmps G) (E := quietE G) rfl (fun _ _ _ h => h.elim) hT hops (fun o ho d hd => ⟨okDst_D hok ho hd, rfl⟩) (FR.fw none) 0 _
      (K := fun z => z = ⟨[(10, .d (.bool false)), (9, .d (.bool true)), (2, .d (.ref pc)), (1, .d (.yl l)), (4, .d (.bool false))], [], []⟩) [] 1 3 h4 ?_ hs3 ?_
  case refine_2 => simp only [go_sem, Nat.reduceEqDiff, reduceCtorEq, Nat.reduceAdd, Nat.reduceLeDiff, Nat.reduceMul, Nat.reduceLT, Int.reduceToNat, Int.reduceLT, Int.reduceLE, Int.reduceEq, Nat.reduceSub, pureSt]
  rintro ⟨tm4, ds4⟩ w4 ⟨hds, st4, S4, ρ4, hs4, rfl⟩
  simp only at hds
  subst hds
  refine cond_step hcg hs4 (b := false) rfl rfl (fun h => by cases h) (fun _ => wpIn_skip ?_)
  refine wpIn_seq ?_
  refine wpIn_seq ?_
  refine reg_step (K := fun z => (ks.length : Int) ≤ 9223372036854775807 ∧ ∃ sl, z = ⟨(14, .d (.int .i64 0)) :: (13, .d (.int .i64 ks.length)) :: (12, .d (.lst (ks.map Pred.cells))) :: sl, [], []⟩ ∧ getS sl 1 = .d (.yl l)) hT h2a hs4 ?_ ?_
  · subst hcs
    simp only [go_sem, Nat.reduceEqDiff, reduceCtorEq, Nat.reduceAdd, Nat.reduceLeDiff, Nat.reduceMul, Nat.reduceLT, Int.reduceToNat, Int.reduceLT, Int.reduceLE, Int.reduceEq, Nat.reduceSub]
    intro hlen
    exact ⟨hlen, _, rfl, rfl⟩
  rintro _ tm5 w5 S5 ρ5 hs5 ⟨hlen, sl5, rfl, hsl5⟩
  obtain ⟨xl0, rfl, h2c⟩ := tr_block h2b
  obtain ⟨xl, rfl, h2d⟩ := tr_loop h2c
  refine wpIn_block (wp_loop_inside ?_)
  obtain ⟨ρ6, hs6⟩ := Ent.sound hs5 (st1 := pureSt [(14, .int .i64 (0 : Nat)), (13, .int .i64 ks.length), (12, .lst (ks.map Pred.cells)), (1, .yl l)]) (Ent_plain (by simp only [go_sem, Nat.reduceEqDiff, reduceCtorEq, Nat.reduceAdd, Nat.reduceLeDiff, Nat.reduceMul, Nat.reduceLT, Int.reduceToNat, Int.reduceLT, Int.reduceLE, Int.reduceEq, Nat.reduceSub, pureSt, hsl5]))
  refine visit_loop hT hY hrs hN hlen ih h2d (a := a ++ [[.agg pc]]) (b := b) (by rw [hxs]; simp) (W0 := W) (S0 := S) (RR := _) (fun w' S' hx => .inr ⟨rfl, S', hx⟩) (fun a w h => h) ?_ ks [] rfl W' S3 tm5 w5 S5 ρ6 (by simpa [Pred.pre.pres, yields] using hJ3) ((hs2.grows.keeps (hY.live _ _ _ hJ)).trans hk3) hs6
  intro W7 S7 st7 tm7 w7 S7' ρ7 hJ7 hk7 hs7 hm7
  refine wpIn_seq (reg_step (K := fun z => getS z.slots 4 = .d (.bool true) ∧ z.mem = []) hT h3a hs7 ?_ ?_)
  · simp only [go_sem, Nat.reduceEqDiff, reduceCtorEq, Nat.reduceAdd, Nat.reduceLeDiff, Nat.reduceMul, Nat.reduceLT, Int.reduceToNat, Int.reduceLT, Int.reduceLE, Int.reduceEq, Nat.reduceSub, hm7]
  rintro st8 tm8 w8 S8 ρ8 hs8 ⟨h8, hm8⟩
  refine wpIn_ret ⟨_, ret_bool hT hrs hs8 hm8 h8, .inl ⟨rfl, S8, ?_, hk7.trans (hs8.grows.keeps (hY.live _ _ _ hJ7))⟩⟩
  rw [hpre]
  exact hY.grow _ W7 S7 w8 S8 (by simpa using hJ7) hs8.grows
theorem before_1_ok (hT : ∀ t ty, T t = some ty → chkTy P t ty = true) {fv : Func} (hfv : P.funcs[pred_visit]? = some fv) (htrv : trFn T fv = some fn_pred_visit) {fn : Func} (hf : P.funcs[pred_before_1]? = some fn) (htr : trFn T fn = some fn_pred_before_1) (p : Pred) :
    ItOk P G pred_before_1 [.ref (Pred.cells p)] (yields p.pre) := by
  obtain ⟨hname, cd, hcd, hac, hrs, hN⟩ := fn_parts htr
  refine ⟨⟨fn, hf, hname, by simp [hcd]⟩, ?_⟩
  intro l w S cs J Jx hlive hglob hcs hgrow hgrowx hlk hlx hyield hJ0
  have hY : YCtx P G l (yields p.pre) J Jx := ⟨hgrow, hgrowx, fun _ _ _ h => (hlk _ _ _ h).1, hlx, fun _ _ _ h => ⟨fun g c hg => RepCs.keep (hlk _ _ _ h).2.1 _ _ _ (hglob.1 g c hg), (hlk _ _ _ h).2.2⟩, hyield⟩
  refine callsIn_wide.1 (callsIn_of_wp_marks (n := 0) hf hcd trivial ?_)
  have hargs : RepCL w S [.one (.yl l), .one (.ref (Pred.cells p))] ((#[.func (.yield l) #[] #[]] : Array Value) ++ cs.toArray).toList := by
    obtain ⟨v, r, h1, h2, h3⟩ := hcs
    simp only [RepL] at h3
    subst h3
    subst h1
    exact ⟨_, _, rfl, rfl, _, _, rfl, h2, rfl⟩
  have hs0 := init_sim (P := P) (G := G) (fn := fn) (by rw [hN]; exact Nat.le_of_ble_eq_true rfl) hlive hglob hargs
  change Sim (baseC P w S fn.ntmps G) _ _ _ _ _ at hs0
  obtain ⟨id, ops, rfl, hops, hok⟩ := tr_reg hac
  obtain ⟨hlen', hget⟩ := trOps_get hops
  have hsz : ops.size = 3 := by simpa using hlen'.symm
  refine wpIn_region ?_
  have hr : List.range ops.size = List.range' 0 2 ++ [2] := by rw [hsz]; rfl
  rw [hr]
  refine ops_pre (c := baseC P w S fn.ntmps G) (E := quietE G) rfl (fun _ _ _ h => h.elim) hT hops (fun o ho d hd => ⟨okDst_D hok ho hd, rfl⟩) (FR.fw none) 0 _
      (K := fun z => z = ⟨[(4, .d (.yl l)), (3, .agg ((Pred.cells p).map .d)), (0, .d (.yl l)), (1, .d (.ref (Pred.cells p)))], [], []⟩) [2] 2 0 (by omega) ?_ hs0 ?_
  case refine_2 =>
    rw [Pred.cells_eq]
    simp only [go_sem, Nat.reduceEqDiff, reduceCtorEq, Nat.reduceAdd, Nat.reduceLeDiff, Nat.reduceMul, Nat.reduceLT, Int.reduceToNat, Int.reduceLT, Int.reduceLE, Int.reduceEq, Nat.reduceSub]
  rintro ⟨tm3, ds3⟩ w3 ⟨hds, st3, S4, ρ3, hs3, rfl⟩
  simp only at hds
  subst hds
  obtain ⟨gi2, i2, hl2, htg2, hti2⟩ := hget 2 ops[2] (by simp [hsz])
  simp only [fn_pred_before_1, go_sem, Nat.reduceEqDiff, reduceCtorEq, Nat.reduceAdd, Nat.reduceLeDiff, Nat.reduceMul, Nat.reduceLT, Int.reduceToNat, Int.reduceLT, Int.reduceLE, Int.reduceEq, Nat.reduceSub, Prod.mk.injEq] at hl2
  obtain ⟨rfl, rfl⟩ := hl2
  rw [wpOpsIn_cons]
  have hres : ∀ tm w, (results fn tm).run P w = .ok (.tuple #[]) w := by
    intro tm w
    have : fn.results = #[] := by
      have hrs' : fn.results.toList.mapM (trRes T) = some [] := hrs
      cases hc : fn.results.toList with
      | nil => exact Array.toList_eq_nil_iff.1 hc
      | cons x xs =>
        rw [hc] at hrs'
        simp only [List.mapM_cons, Option.bind_eq_bind, Option.bind_eq_some_iff, Option.pure_def, Option.some.injEq] at hrs'
        obtain ⟨_, _, _, _, h⟩ := hrs'
        cases h
    rw [results_eq, this]
    simp
  refine wpOpIn_plain (ops := ops) (k := 2) (o := ops[2]) (by simp [hsz]) htg2 (evy_op hY (a := []) (ys := yields p.pre) (b := []) (by simp) hJ0 hs3 hti2 (by rw [hN]; exact Nat.le_of_ble_eq_true rfl) rfl rfl rfl
      (cvs := [.agg (Pred.cells p), .one (.yl l)]) ?_ (visit_ok hT hY hfv htrv p) [] (fun q hq => by cases hq) ?_ ?_)
  · rw [Pred.cells_eq]; simp only [go_sem, Nat.reduceEqDiff, reduceCtorEq, Nat.reduceAdd, Nat.reduceLeDiff, Nat.reduceMul, Nat.reduceLT, Int.reduceToNat, Int.reduceLT, Int.reduceLE, Int.reduceEq, Nat.reduceSub]
  · intro W8 S8 ρ8 hJ8 hk8 hs8
    exact ⟨_, hres _ _, _, rfl, .inl ⟨S8, by simpa using hJ8⟩⟩
  · intro W8 S8 ρ8 hx8 hs8
    exact ⟨_, hres _ _, _, rfl, .inr ⟨S8, hx8⟩⟩
end Go.Abs
end
