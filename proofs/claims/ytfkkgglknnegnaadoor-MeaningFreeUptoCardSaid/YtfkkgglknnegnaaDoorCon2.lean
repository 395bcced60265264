/-
  CONTRACTS: what the functions answer, as plain Lean functions, each by evaluation at the abstract machine.
-/
import Derived.KernelRfl
import Derived.Lib.ItoaLen
import Derived.Test.YtfkkgglknnegnaaDoorCon1
section
set_option linter.unusedSimpArgs false
set_option linter.unusedVariables false
set_option linter.unusedSectionVars false
namespace Go.Abs
/-- what a family of environments (by what the globals hold) gives -/
structure Fam (X : (Nat → Option (List D)) → AEnv) : Prop where
  sys : ∀ G, Sys (X G)
  G : ∀ G, (X G).G = G
  it : ∀ G p, (X G).It pred_before_1 [.ref (Pred.cells p)] (yields p.pre)
def OfS (v : SEnv) (p : Pred) : Str × Int := if p.checkE != 0 then ([], p.checkE) else ofS v p
theorem formE_of_check {p : Pred} (h : p.checkE = 0) : p.formE = 0 := by
  unfold Pred.checkE at h
  by_cases h1 : decide (p.nodes > 400) = true
  · rw [if_pos h1] at h; cases h
  · rw [if_neg h1] at h
    by_cases h2 : decide (p.depth > 40) = true
    · rw [if_pos h2] at h; cases h
    · rw [if_neg h2] at h; exact h
theorem sorting_Of_ev {X : (Nat → Option (List D)) → AEnv} (F : Fam X) (ZF : ∀ G bs dep args r, BodyF X bs dep G fn_sorting_Of args r → (X G).C sorting_Of args r) {G : Nat → Option (List D)} (hG : G 0 = some (kws.map .str)) (v : SEnv) (hv : v.Ok) (p : Pred) :
    (X G).C sorting_Of [.agg v.cells, .agg p.cells] (two (OfS v p)) := by
  have hc := pred_Check_ev (F.sys G) (by rw [F.G]; exact hG) (F.it G) p
  refine ZF G [2, 7] 4 _ _ ⟨Nat.le_of_ble_eq_true rfl, ?_⟩
  generalize hR : OfS v p = R
  unfold OfS at hR
  unfold two at *
  have hvc : v.cells = [.lst (v.vars.map SVar.cells), .lst (v.syms.map SSym.cells), .lst (v.holes.map SHole.cells)] := rfl
  have key : p.checkE = 0 → ∀ G' b7 b2, G' b7 = some [.clo sorting_Of_1 [.gp b7 0, .gp b2 0]] → G' b2 = some v.cells → (X G').C sorting_Of_1 [.agg p.cells, .one (.gp b7 0), .one (.gp b2 0)] (two (ofS v p)) := fun h0 G' b7 b2 h7 h2 =>
    sorting_Of_1_ev (F.sys G') v hv (by rw [F.G]; exact h7) (by rw [F.G]; exact h2) p (arity_of (formE_of_check h0))
  rw [hvc] at *
  obtain ⟨o, s, n, ks⟩ := p
  rw [Pred.cells_eq] at *
  simp only [fn_sorting_Of, awpF, go_sem, Nat.reduceEqDiff, reduceCtorEq, Nat.reduceAdd, Nat.reduceLeDiff, Nat.reduceMul, Nat.reduceLT, Int.reduceToNat, Int.reduceLT, Int.reduceLE, Int.reduceEq, Nat.reduceSub, Pred.op, Pred.name, Pred.n, Pred.kids] at hc key ⊢
  refine call_by hc ?_
  simp only [go_sem, Nat.reduceEqDiff, reduceCtorEq, Nat.reduceAdd, Nat.reduceLeDiff, Nat.reduceMul, Nat.reduceLT, Int.reduceToNat, Int.reduceLT, Int.reduceLE, Int.reduceEq, Nat.reduceSub]
  cases h1 : ((Pred.mk o s n ks).checkE != 0) with
  | true => simp only [h1, go_sem, Nat.reduceEqDiff, reduceCtorEq, Nat.reduceAdd, Nat.reduceLeDiff, Nat.reduceMul, Nat.reduceLT, Int.reduceToNat, Int.reduceLT, Int.reduceLE, Int.reduceEq, Nat.reduceSub] at hR ⊢; simp only [go_sem, Nat.reduceEqDiff, reduceCtorEq, Nat.reduceAdd, Nat.reduceLeDiff, Nat.reduceMul, Nat.reduceLT, Int.reduceToNat, Int.reduceLT, Int.reduceLE, Int.reduceEq, Nat.reduceSub, ← hR]
  | false =>
  simp only [h1, go_sem, Nat.reduceEqDiff, reduceCtorEq, Nat.reduceAdd, Nat.reduceLeDiff, Nat.reduceMul, Nat.reduceLT, Int.reduceToNat, Int.reduceLT, Int.reduceLE, Int.reduceEq, Nat.reduceSub] at hR
  simp only [awpF, go_sem, Nat.reduceEqDiff, reduceCtorEq, Nat.reduceAdd, Nat.reduceLeDiff, Nat.reduceMul, Nat.reduceLT, Int.reduceToNat, Int.reduceLT, Int.reduceLE, Int.reduceEq, Nat.reduceSub]
  intro b2 hb2
  refine ⟨_, _, rfl, rfl, ?_⟩
  simp only [awpF, St.frz, frzSlots, frzMem, AV.frz, AV.frzs, go_sem, Nat.reduceEqDiff, reduceCtorEq, Nat.reduceAdd, Nat.reduceLeDiff, Nat.reduceMul, Nat.reduceLT, Int.reduceToNat, Int.reduceLT, Int.reduceLE, Int.reduceEq, Nat.reduceSub]
  intro b7 hb7
  have hne : b2 ≠ b7 := by
    rintro rfl
    have := hb7 [.lst (v.vars.map SVar.cells), .lst (v.syms.map SSym.cells), .lst (v.holes.map SHole.cells)] (by simp [Go.Abs.ext])
    cases this
  refine ⟨_, [.clo sorting_Of_1 [.gp b7 0, .gp b2 0]], rfl, rfl, ?_⟩
  have k7 : (ext (ext G b2 [.lst (v.vars.map SVar.cells), .lst (v.syms.map SSym.cells), .lst (v.holes.map SHole.cells)]) b7 [.clo sorting_Of_1 [.gp b7 0, .gp b2 0]]) b7 = some [.clo sorting_Of_1 [.gp b7 0, .gp b2 0]] := by simp [Go.Abs.ext]
  have k2 : (ext (ext G b2 [.lst (v.vars.map SVar.cells), .lst (v.syms.map SSym.cells), .lst (v.holes.map SHole.cells)]) b7 [.clo sorting_Of_1 [.gp b7 0, .gp b2 0]]) b2 = some [.lst (v.vars.map SVar.cells), .lst (v.syms.map SSym.cells), .lst (v.holes.map SHole.cells)] := by simp [Go.Abs.ext, hne]
  have hk := key (by simpa using h1) _ b7 b2 k7 k2
  simp only [F.G, k7, go_sem, Nat.reduceEqDiff, reduceCtorEq, Nat.reduceAdd, Nat.reduceLeDiff, Nat.reduceMul, Nat.reduceLT, Int.reduceToNat, Int.reduceLT, Int.reduceLE, Int.reduceEq, Nat.reduceSub]
  unfold two at hk
  refine call_by hk ?_
  simp only [go_sem, Nat.reduceEqDiff, reduceCtorEq, Nat.reduceAdd, Nat.reduceLeDiff, Nat.reduceMul, Nat.reduceLT, Int.reduceToNat, Int.reduceLT, Int.reduceLE, Int.reduceEq, Nat.reduceSub, hR]
end Go.Abs
end
section
set_option linter.unusedSimpArgs false
set_option linter.unusedVariables false
set_option linter.unusedSectionVars false
namespace Go.Abs
namespace Pred
def same : Pred → Pred → Bool
  | .mk o s n ks, .mk o' s' n' ks' => o == o' && s == s' && n == n' && sames ks ks'
where sames : List Pred → List Pred → Bool
  | [], [] => true
  | k :: ks, k' :: ks' => same k k' && sames ks ks'
  | _, _ => false
theorem same_eq (o : Int) (s : Str) (n : Int) (ks : List Pred) (o' : Int) (s' : Str) (n' : Int) (ks' : List Pred) : same (.mk o s n ks) (.mk o' s' n' ks') = (o == o' && s == s' && n == n' && same.sames ks ks') := by rw [same]
theorem same_iff : ∀ (a b : Pred), same a b = true ↔ a = b := by
  intro a
  induction a using Pred.ind with
  | h o s n ks ih =>
  intro b
  obtain ⟨o', s', n', ks'⟩ := b
  have hk : ∀ l', same.sames ks l' = true ↔ ks = l' := by
    induction ks with
    | nil => intro l'; cases l' <;> simp [same.sames]
    | cons k ks ih2 =>
      intro l'
      cases l' with
      | nil => simp [same.sames]
      | cons k' l' => simp only [same.sames, Bool.and_eq_true, List.cons.injEq, ih k (by simp) k', ih2 (fun x hx => ih x (by simp [hx])) l']
  rw [same_eq]
  simp only [Bool.and_eq_true, beq_iff_eq, hk, Pred.mk.injEq, and_assoc]
theorem sames_iff : ∀ (a b : List Pred), same.sames a b = true ↔ a = b
  | [], [] => by simp [same.sames]
  | [], _ :: _ => by simp [same.sames]
  | _ :: _, [] => by simp [same.sames]
  | x :: a, y :: b => by simp only [same.sames, Bool.and_eq_true, List.cons.injEq, same_iff, sames_iff a b]
theorem same_refl (a : Pred) : same a a = true := (same_iff a a).2 rfl
theorem sames_refl (a : List Pred) : same.sames a a = true := (sames_iff a a).2 rfl
theorem sames_app : ∀ {a b l l' : List Pred}, a.length = b.length → same.sames (a ++ l) (b ++ l') = (same.sames a b && same.sames l l')
  | [], [], l, l', _ => by simp [same.sames]
  | x :: a, y :: b, l, l', h => by simp only [List.cons_append, same.sames, sames_app (a := a) (b := b) (by simpa using h), Bool.and_assoc]
  | [], _ :: _, _, _, h => by simp at h
  | _ :: _, [], _, _, h => by simp at h
theorem sames_len : ∀ {a b : List Pred}, a.length ≠ b.length → same.sames a b = false := by
  intro a b h
  rw [Bool.eq_false_iff]
  intro e
  exact h (by rw [(sames_iff a b).1 e])
end Pred
theorem at_split {α : Type} {b : List α} {n : Nat} (h : n < b.length) : ∃ bd y r, b = bd ++ y :: r ∧ bd.length = n := by
  have := List.take_append_drop n b
  rw [List.drop_eq_getElem_cons h] at this
  exact ⟨_, _, _, this.symm, by simp; omega⟩
theorem getD_atP {b bd r : List Pred} {y : Pred} {n : Nat} (hb : b = bd ++ y :: r) (hn : bd.length = n) : (b.map Pred.cells).getD n [] = Pred.cells y := by subst hn; exact getD_midP hb
def zeroP : Pred := .mk 0 [] 0 []
def trueP : Pred := .mk 2 [] 1 []
def falseP : Pred := .mk 2 [] 0 []
theorem same_zero (o : Int) (s : Str) (n : Int) (ks : List Pred) : (Pred.mk o s n ks).same zeroP = (o == 0 && s == [] && n == 0 && (ks.length : Int) == 0) := by
  unfold zeroP
  rw [Pred.same_eq]
  congr 1
  cases ks with
  | nil => rfl
  | cons k ks => simp [Pred.same.sames]; omega
variable {E : AEnv} (Z : Sys E)
include Z
theorem pred_equal_ev (a b : List Pred) (h : ∀ x ∈ a, ∀ y, E.C pred_Same [.agg (Pred.cells x), .agg (Pred.cells y)] (.one (.bool (x.same y)))) :
    E.C pred_equal_api_Pred [.one (.lst (a.map Pred.cells)), .one (.lst (b.map Pred.cells)), .one (.clo pred_Same [])] (.one (.bool (Pred.same.sames a b))) := by
  refine Z.pred_equal_api_Pred _ _ ⟨Nat.le_of_ble_eq_true rfl, ?_⟩
  generalize hR : Pred.same.sames a b = R
  simp only [fn_pred_equal_api_Pred, go_sem, Nat.reduceEqDiff, reduceCtorEq, Nat.reduceAdd, Nat.reduceLeDiff, Nat.reduceMul, Nat.reduceLT, Int.reduceToNat, Int.reduceLT, Int.reduceLE, Int.reduceEq, Nat.reduceSub]
  intro hl1 hl2
  by_cases hlen : a.length = b.length
  · have h1 : ((a.length : Int) != (b.length : Int)) = false := by simp [hlen]
    simp only [h1, go_sem, Nat.reduceEqDiff, reduceCtorEq, Nat.reduceAdd, Nat.reduceLeDiff, Nat.reduceMul, Nat.reduceLT, Int.reduceToNat, Int.reduceLT, Int.reduceLE, Int.reduceEq, Nat.reduceSub]
    intro _
    refine loop_list a (fun done => Pred.same.sames done (b.take done.length) = true) (fun done rest => ⟨[(15, .d (.int .i64 done.length)), (14, .d (.int .i64 a.length)), (2, .d (.clo pred_Same [])), (0, .d (.lst (a.map Pred.cells))), (1, .d (.lst (b.map Pred.cells)))], [], []⟩) ?_ (by simp [Pred.same.sames]) ?_ ?_
    · exact Ent_plain (by simp only [go_sem, Nat.reduceEqDiff, reduceCtorEq, Nat.reduceAdd, Nat.reduceLeDiff, Nat.reduceMul, Nat.reduceLT, Int.reduceToNat, Int.reduceLT, Int.reduceLE, Int.reduceEq, Nat.reduceSub])
    · intro done x r hl hI
      obtain ⟨bd, y, r', hb, hbl⟩ := at_split (b := b) (n := done.length) (by rw [← hlen, hl]; simp)
      have htk : b.take done.length = bd := by rw [hb]; exact List.take_left' hbl
      have hlt := lt_mid hl
      have hlt2 := lt_mid hb
      rw [hbl] at hlt2
      have hw : IntKind.i64.wrap ((done.length : Int) + 1) = ((done.length + 1 : Nat) : Int) := wrap_succ (by omega)
      rw [htk] at hI
      rw [hl, hb, Pred.sames_app hbl.symm, hI, Pred.same.sames, Bool.true_and] at hR
      simp only [fn_pred_equal_api_Pred_L1, go_sem, Nat.reduceEqDiff, reduceCtorEq, Nat.reduceAdd, Nat.reduceLeDiff, Nat.reduceMul, Nat.reduceLT, Int.reduceToNat, Int.reduceLT, Int.reduceLE, Int.reduceEq, Nat.reduceSub, getD_midP hl, getD_atP hb hbl, hlt, hlt2]
      refine call_by (h x (by rw [hl]; simp) y) ?_
      cases h2 : x.same y with
      | true =>
        simp only [go_sem, Nat.reduceEqDiff, reduceCtorEq, Nat.reduceAdd, Nat.reduceLeDiff, Nat.reduceMul, Nat.reduceLT, Int.reduceToNat, Int.reduceLT, Int.reduceLE, Int.reduceEq, Nat.reduceSub, hw, List.length_append]
        refine ⟨Ent_plain (by simp only [go_sem, Nat.reduceEqDiff, reduceCtorEq, Nat.reduceAdd, Nat.reduceLeDiff, Nat.reduceMul, Nat.reduceLT, Int.reduceToNat, Int.reduceLT, Int.reduceLE, Int.reduceEq, Nat.reduceSub]), ?_⟩
        have ht2 : b.take (done.length + 1) = bd ++ [y] := by rw [hb, show bd ++ y :: r' = (bd ++ [y]) ++ r' by simp]; exact List.take_left' (by simp [hbl])
        rw [ht2, Pred.sames_app hbl.symm, hI]
        simp [Pred.same.sames, h2]
      | false => simp only [h2, go_sem, Nat.reduceEqDiff, reduceCtorEq, Nat.reduceAdd, Nat.reduceLeDiff, Nat.reduceMul, Nat.reduceLT, Int.reduceToNat, Int.reduceLT, Int.reduceLE, Int.reduceEq, Nat.reduceSub] at hR ⊢; exact hR
    · intro hI
      rw [hlen, List.take_length] at hI
      rw [hI] at hR
      subst hR
      simp only [fn_pred_equal_api_Pred_L1, go_sem, Nat.reduceEqDiff, reduceCtorEq, Nat.reduceAdd, Nat.reduceLeDiff, Nat.reduceMul, Nat.reduceLT, Int.reduceToNat, Int.reduceLT, Int.reduceLE, Int.reduceEq, Nat.reduceSub]
  · have h1 : ((a.length : Int) != (b.length : Int)) = true := by simp; omega
    rw [Pred.sames_len hlen] at hR
    simp only [h1, go_sem, Nat.reduceEqDiff, reduceCtorEq, Nat.reduceAdd, Nat.reduceLeDiff, Nat.reduceMul, Nat.reduceLT, Int.reduceToNat, Int.reduceLT, Int.reduceLE, Int.reduceEq, Nat.reduceSub, hR]
theorem pred_Same_ev (a : Pred) : ∀ b, E.C pred_Same [.agg (Pred.cells a), .agg (Pred.cells b)] (.one (.bool (a.same b))) := by
  induction a using Pred.ind with
  | h o s n ks ih =>
  intro b
  obtain ⟨o', s', n', ks'⟩ := b
  have he := pred_equal_ev Z ks ks' ih
  refine Z.pred_Same _ _ ⟨Nat.le_of_ble_eq_true rfl, ?_⟩
  rw [Pred.cells_eq, Pred.cells_eq, Pred.same_eq]
  simp only [fn_pred_Same, go_sem, Nat.reduceEqDiff, reduceCtorEq, Nat.reduceAdd, Nat.reduceLeDiff, Nat.reduceMul, Nat.reduceLT, Int.reduceToNat, Int.reduceLT, Int.reduceLE, Int.reduceEq, Nat.reduceSub, Pred.op, Pred.name, Pred.n, Pred.kids]
  refine call_g he ?_
  simp only [go_sem, Nat.reduceEqDiff, reduceCtorEq, Nat.reduceAdd, Nat.reduceLeDiff, Nat.reduceMul, Nat.reduceLT, Int.reduceToNat, Int.reduceLT, Int.reduceLE, Int.reduceEq, Nat.reduceSub]
theorem r07_Same_ev (a : Pred) : ∀ b, E.C r07_Same [.agg (Pred.cells a), .agg (Pred.cells b)] (.one (.bool (a.same b))) := by
  induction a using Pred.ind with
  | h o s n a ih =>
  intro b
  obtain ⟨o', s', n', b⟩ := b
  refine Z.r07_Same _ _ ⟨Nat.le_of_ble_eq_true rfl, ?_⟩
  generalize hR : Pred.same (.mk o s n a) (.mk o' s' n' b) = R
  rw [Pred.same_eq] at hR
  rw [Pred.cells_eq, Pred.cells_eq]
  simp only [fn_r07_Same, go_sem, Nat.reduceEqDiff, reduceCtorEq, Nat.reduceAdd, Nat.reduceLeDiff, Nat.reduceMul, Nat.reduceLT, Int.reduceToNat, Int.reduceLT, Int.reduceLE, Int.reduceEq, Nat.reduceSub, Pred.op, Pred.name, Pred.n, Pred.kids]
  intro hl1 hl2
  cases h0 : (o != o' || !s == s' || n != n') with
  | true =>
    have : (o == o' && s == s' && n == n') = false := by
      rw [Bool.eq_false_iff]; intro e; simp only [Bool.and_eq_true, beq_iff_eq] at e; simp [e.1.1, e.1.2, e.2] at h0
    rw [this] at hR
    simp only [go_sem, Nat.reduceEqDiff, reduceCtorEq, Nat.reduceAdd, Nat.reduceLeDiff, Nat.reduceMul, Nat.reduceLT, Int.reduceToNat, Int.reduceLT, Int.reduceLE, Int.reduceEq, Nat.reduceSub] at hR
    simp only [go_sem, Nat.reduceEqDiff, reduceCtorEq, Nat.reduceAdd, Nat.reduceLeDiff, Nat.reduceMul, Nat.reduceLT, Int.reduceToNat, Int.reduceLT, Int.reduceLE, Int.reduceEq, Nat.reduceSub, hR]
  | false =>
  have : (o == o' && s == s' && n == n') = true := by
    simp at h0; simp [h0.1.1, h0.1.2, h0.2]
  rw [this, Bool.true_and] at hR
  by_cases hlen : a.length = b.length
  · have h1 : ((a.length : Int) != (b.length : Int)) = false := by simp [hlen]
    simp only [h1, go_sem, Nat.reduceEqDiff, reduceCtorEq, Nat.reduceAdd, Nat.reduceLeDiff, Nat.reduceMul, Nat.reduceLT, Int.reduceToNat, Int.reduceLT, Int.reduceLE, Int.reduceEq, Nat.reduceSub]
    intro _
    refine loop_list a (fun done => Pred.same.sames done (b.take done.length) = true) (fun done rest => ⟨[(37, .d (.int .i64 done.length)), (36, .d (.int .i64 a.length)), (2, .ptr 2 0), (3, .ptr 3 0)],
      [(2, [.d (.int .i64 o), .d (.str s), .d (.int .i64 n), .d (.lst (a.map Pred.cells))]), (3, [.d (.int .i64 o'), .d (.str s'), .d (.int .i64 n'), .d (.lst (b.map Pred.cells))])], []⟩) ?_ (by simp [Pred.same.sames]) ?_ ?_
    · exact Ent_plain (by simp only [go_sem, Nat.reduceEqDiff, reduceCtorEq, Nat.reduceAdd, Nat.reduceLeDiff, Nat.reduceMul, Nat.reduceLT, Int.reduceToNat, Int.reduceLT, Int.reduceLE, Int.reduceEq, Nat.reduceSub, Option.isSome_some])
    · intro done x r hl hI
      obtain ⟨bd, y, r', hb, hbl⟩ := at_split (b := b) (n := done.length) (by rw [← hlen, hl]; simp)
      have htk : b.take done.length = bd := by rw [hb]; exact List.take_left' hbl
      have hlt := lt_mid hl
      have hlt2 := lt_mid hb
      rw [hbl] at hlt2
      have hw : IntKind.i64.wrap ((done.length : Int) + 1) = ((done.length + 1 : Nat) : Int) := wrap_succ (by omega)
      rw [htk] at hI
      rw [hl, hb, Pred.sames_app hbl.symm, hI, Pred.same.sames, Bool.true_and] at hR
      simp only [fn_r07_Same_L1, go_sem, Nat.reduceEqDiff, reduceCtorEq, Nat.reduceAdd, Nat.reduceLeDiff, Nat.reduceMul, Nat.reduceLT, Int.reduceToNat, Int.reduceLT, Int.reduceLE, Int.reduceEq, Nat.reduceSub, getD_midP hl, getD_atP hb hbl, hlt, hlt2]
      refine call_by (ih x (by rw [hl]; simp) y) ?_
      cases h2 : x.same y with
      | true =>
        simp only [go_sem, Nat.reduceEqDiff, reduceCtorEq, Nat.reduceAdd, Nat.reduceLeDiff, Nat.reduceMul, Nat.reduceLT, Int.reduceToNat, Int.reduceLT, Int.reduceLE, Int.reduceEq, Nat.reduceSub, hw, List.length_append]
        refine ⟨Ent_plain (by simp only [go_sem, Nat.reduceEqDiff, reduceCtorEq, Nat.reduceAdd, Nat.reduceLeDiff, Nat.reduceMul, Nat.reduceLT, Int.reduceToNat, Int.reduceLT, Int.reduceLE, Int.reduceEq, Nat.reduceSub, Option.isSome_some]), ?_⟩
        have ht2 : b.take (done.length + 1) = bd ++ [y] := by rw [hb, show bd ++ y :: r' = (bd ++ [y]) ++ r' by simp]; exact List.take_left' (by simp [hbl])
        rw [ht2, Pred.sames_app hbl.symm, hI]
        simp [Pred.same.sames, h2]
      | false => simp only [h2, go_sem, Nat.reduceEqDiff, reduceCtorEq, Nat.reduceAdd, Nat.reduceLeDiff, Nat.reduceMul, Nat.reduceLT, Int.reduceToNat, Int.reduceLT, Int.reduceLE, Int.reduceEq, Nat.reduceSub] at hR ⊢; exact hR
    · intro hI
      rw [hlen, List.take_length] at hI
      rw [hI] at hR
      subst hR
      simp only [fn_r07_Same_L1, go_sem, Nat.reduceEqDiff, reduceCtorEq, Nat.reduceAdd, Nat.reduceLeDiff, Nat.reduceMul, Nat.reduceLT, Int.reduceToNat, Int.reduceLT, Int.reduceLE, Int.reduceEq, Nat.reduceSub]
  · have h1 : ((a.length : Int) != (b.length : Int)) = true := by simp; omega
    rw [Pred.sames_len hlen] at hR
    simp only [h1, go_sem, Nat.reduceEqDiff, reduceCtorEq, Nat.reduceAdd, Nat.reduceLeDiff, Nat.reduceMul, Nat.reduceLT, Int.reduceToNat, Int.reduceLT, Int.reduceLE, Int.reduceEq, Nat.reduceSub, hR]
theorem r09_Same_ev (a b : List Pred) : E.C r09_Same [.one (.lst (a.map Pred.cells)), .one (.lst (b.map Pred.cells))] (.one (.bool (Pred.same.sames a b))) := by
  have h := r07_Same_ev Z
  refine Z.r09_Same _ _ ⟨Nat.le_of_ble_eq_true rfl, ?_⟩
  generalize hR : Pred.same.sames a b = R
  simp only [fn_r09_Same, go_sem, Nat.reduceEqDiff, reduceCtorEq, Nat.reduceAdd, Nat.reduceLeDiff, Nat.reduceMul, Nat.reduceLT, Int.reduceToNat, Int.reduceLT, Int.reduceLE, Int.reduceEq, Nat.reduceSub]
  intro hl1 hl2
  by_cases hlen : a.length = b.length
  · have h1 : ((a.length : Int) != (b.length : Int)) = false := by simp [hlen]
    simp only [h1, go_sem, Nat.reduceEqDiff, reduceCtorEq, Nat.reduceAdd, Nat.reduceLeDiff, Nat.reduceMul, Nat.reduceLT, Int.reduceToNat, Int.reduceLT, Int.reduceLE, Int.reduceEq, Nat.reduceSub]
    refine loop_list a (fun done => Pred.same.sames done (b.take done.length) = true) (fun done rest => ⟨[(5, .d (.int .i64 done.length)), (0, .d (.lst (a.map Pred.cells))), (1, .d (.lst (b.map Pred.cells)))], [], []⟩) ?_ (by simp [Pred.same.sames]) ?_ ?_
    · exact Ent_plain (by simp only [go_sem, Nat.reduceEqDiff, reduceCtorEq, Nat.reduceAdd, Nat.reduceLeDiff, Nat.reduceMul, Nat.reduceLT, Int.reduceToNat, Int.reduceLT, Int.reduceLE, Int.reduceEq, Nat.reduceSub])
    · intro done x r hl hI
      obtain ⟨bd, y, r', hb, hbl⟩ := at_split (b := b) (n := done.length) (by rw [← hlen, hl]; simp)
      have htk : b.take done.length = bd := by rw [hb]; exact List.take_left' hbl
      have hlt := lt_mid hl
      have hlt2 := lt_mid hb
      rw [hbl] at hlt2
      have hw : IntKind.i64.wrap ((done.length : Int) + 1) = ((done.length + 1 : Nat) : Int) := wrap_succ (by omega)
      rw [htk] at hI
      rw [hl, hb, Pred.sames_app hbl.symm, hI, Pred.same.sames, Bool.true_and] at hR
      simp only [fn_r09_Same_L1, go_sem, Nat.reduceEqDiff, reduceCtorEq, Nat.reduceAdd, Nat.reduceLeDiff, Nat.reduceMul, Nat.reduceLT, Int.reduceToNat, Int.reduceLT, Int.reduceLE, Int.reduceEq, Nat.reduceSub, getD_midP hl, getD_atP hb hbl, hlt, hlt2]
      intro _
      refine call_by (h x y) ?_
      cases h2 : x.same y with
      | true =>
        simp only [go_sem, Nat.reduceEqDiff, reduceCtorEq, Nat.reduceAdd, Nat.reduceLeDiff, Nat.reduceMul, Nat.reduceLT, Int.reduceToNat, Int.reduceLT, Int.reduceLE, Int.reduceEq, Nat.reduceSub, hw, List.length_append]
        refine ⟨Ent_plain (by simp only [go_sem, Nat.reduceEqDiff, reduceCtorEq, Nat.reduceAdd, Nat.reduceLeDiff, Nat.reduceMul, Nat.reduceLT, Int.reduceToNat, Int.reduceLT, Int.reduceLE, Int.reduceEq, Nat.reduceSub]), ?_⟩
        have ht2 : b.take (done.length + 1) = bd ++ [y] := by rw [hb, show bd ++ y :: r' = (bd ++ [y]) ++ r' by simp]; exact List.take_left' (by simp [hbl])
        rw [ht2, Pred.sames_app hbl.symm, hI]
        simp [Pred.same.sames, h2]
      | false => simp only [h2, go_sem, Nat.reduceEqDiff, reduceCtorEq, Nat.reduceAdd, Nat.reduceLeDiff, Nat.reduceMul, Nat.reduceLT, Int.reduceToNat, Int.reduceLT, Int.reduceLE, Int.reduceEq, Nat.reduceSub] at hR ⊢; exact hR
    · intro hI
      rw [hlen, List.take_length] at hI
      rw [hI] at hR
      subst hR
      simp only [fn_r09_Same_L1, go_sem, Nat.reduceEqDiff, reduceCtorEq, Nat.reduceAdd, Nat.reduceLeDiff, Nat.reduceMul, Nat.reduceLT, Int.reduceToNat, Int.reduceLT, Int.reduceLE, Int.reduceEq, Nat.reduceSub, implies_true]
  · have h1 : ((a.length : Int) != (b.length : Int)) = true := by simp; omega
    rw [Pred.sames_len hlen] at hR
    simp only [h1, go_sem, Nat.reduceEqDiff, reduceCtorEq, Nat.reduceAdd, Nat.reduceLeDiff, Nat.reduceMul, Nat.reduceLT, Int.reduceToNat, Int.reduceLT, Int.reduceLE, Int.reduceEq, Nat.reduceSub, hR]
theorem r09_Zero_ev (p : Pred) : E.C r09_Zero [.agg (Pred.cells p)] (.one (.bool (p.same zeroP))) := by
  refine Z.r09_Zero _ _ ⟨Nat.le_of_ble_eq_true rfl, ?_⟩
  obtain ⟨o, s, n, ks⟩ := p
  rw [same_zero, Pred.cells_eq]
  simp only [fn_r09_Zero, go_sem, Nat.reduceEqDiff, reduceCtorEq, Nat.reduceAdd, Nat.reduceLeDiff, Nat.reduceMul, Nat.reduceLT, Int.reduceToNat, Int.reduceLT, Int.reduceLE, Int.reduceEq, Nat.reduceSub, Pred.op, Pred.name, Pred.n, Pred.kids, implies_true]
end Go.Abs
end
section
set_option linter.unusedSimpArgs false
set_option linter.unusedVariables false
set_option linter.unusedSectionVars false
namespace Go.Abs
/-- a full slice in cell i of box s gets token t, ahead of the loop -/
theorem Ent_convm {st st1 : St} (s i t sz : Nat) (cs : List AV) (es : List (List D)) (mp : TMap) (h0 : getM st.mem s = some cs) (h1 : cs[i]? = some (.full es)) (h2 : ∀ e ∈ es, e.length = sz) (h3 : getT st.tk t = none)
    (h : Ent0 mp { st with mem := (s, cs.set i (.own t sz es)) :: st.mem, tk := (t, true) :: st.tk } st1) : Ent st st1 := ⟨[(.m s i, t, sz)], mp, _, ⟨_, ⟨cs, es, h0, h1, h2, h3, rfl⟩, rfl⟩, h⟩
def AllN (P : Pred → Prop) (p : Pred) : Prop := ∀ q ∈ p.pre, P q
theorem AllN.kid {P : Pred → Prop} {o : Int} {s : Str} {n : Int} {ks : List Pred} (h : AllN P (.mk o s n ks)) {k : Pred} (hk : k ∈ ks) : AllN P k := by
  intro q hq
  refine h q ?_
  rw [Pred.pre_eq]
  refine List.mem_cons_of_mem _ ?_
  clear h
  induction ks with
  | nil => cases hk
  | cons x ks ih =>
    rw [Pred.pre.pres, List.mem_append]
    rcases List.mem_cons.1 hk with rfl | hk
    · exact .inl hq
    · exact .inr (ih hk)
theorem AllN.top {P : Pred → Prop} {o : Int} {s : Str} {n : Int} {ks : List Pred} (h : AllN P (.mk o s n ks)) : P (.mk o s n ks) := h _ (by rw [Pred.pre_eq]; simp)
/-- no node has more kids than may be copied -/
def Tame : Pred → Prop := AllN fun q => Small q.kids.length
theorem one_split {α : Type} {l : List α} (h : l.length = 1) : ∃ a, l = [a] := by
  match l, h with
  | [a], _ => exact ⟨a, rfl⟩
set_option maxRecDepth 100000
variable {E : AEnv} (Z : Sys E)
include Z
theorem pred_copied_ev (p : Pred) (hp : Tame p) : E.C pred_copied [.agg (Pred.cells p)] (.agg (Pred.cells p)) := by
  induction p using Pred.ind with
  | h o s n ks ih =>
  refine Z.pred_copied _ _ ⟨Nat.le_of_ble_eq_true rfl, ?_⟩
  rw [Pred.cells_eq]
  have hk : Small ks.length := hp.top
  unfold Small at hk
  simp only [fn_pred_copied, go_sem, Nat.reduceEqDiff, reduceCtorEq, Nat.reduceAdd, Nat.reduceLeDiff, Nat.reduceMul, Nat.reduceLT, Int.reduceToNat, Int.reduceLT, Int.reduceLE, Int.reduceEq, Nat.reduceSub, Pred.op, Pred.name, Pred.n, Pred.kids]
  intro hlen
  refine loop_list ks (fun _ => True) (fun done rest => ⟨[(16, .d (.int .i64 done.length)), (15, .d (.int .i64 ks.length)), (14, .d (.lst (ks.map Pred.cells))), (3, .ptr 3 0), (2, .ptr 2 0)], [(3, [.d (.int .i64 o), .d (.str s), .d (.int .i64 n), .own 3 4 (done.map Pred.cells)]), (2, [.d (.int .i64 0), .d (.str []), .d (.int .i64 0), .full []])], [(3, true)]⟩) ?_ trivial ?_ ?_
  · exact Ent_convm 3 3 3 4 _ [] [(3, 3)] rfl rfl (by simp) rfl (by simp only [Ent0, go_sem, Nat.reduceEqDiff, reduceCtorEq, Nat.reduceAdd, Nat.reduceLeDiff, Nat.reduceMul, Nat.reduceLT, Int.reduceToNat, Int.reduceLT, Int.reduceLE, Int.reduceEq, Nat.reduceSub, List.contains_nil, Option.isSome_some])
  · intro done k r hl _
    have hk' := ih k (by rw [hl]; simp) (hp.kid (by rw [hl]; simp))
    have hlt := lt_mid hl
    have hw : IntKind.i64.wrap ((done.length : Int) + 1) = ((done.length + 1 : Nat) : Int) := wrap_succ (by omega)
    have hd : done.length < ks.length := by omega
    have ha1 : (done.length + 1) * 56 ≤ 2 ^ 46 := by omega
    simp only [fn_pred_copied_L1, go_sem, Nat.reduceEqDiff, reduceCtorEq, Nat.reduceAdd, Nat.reduceLeDiff, Nat.reduceMul, Nat.reduceLT, Int.reduceToNat, Int.reduceLT, Int.reduceLE, Int.reduceEq, Nat.reduceSub, hlt, getD_midP hl]
    refine call_by hk' ?_
    simp only [go_sem, Nat.reduceEqDiff, reduceCtorEq, Nat.reduceAdd, Nat.reduceLeDiff, Nat.reduceMul, Nat.reduceLT, Int.reduceToNat, Int.reduceLT, Int.reduceLE, Int.reduceEq, Nat.reduceSub, hw, List.length_append, List.length_map, List.map_append, Pred.lens_true]
    refine ⟨⟨by simp [Pred.cells_length], ha1, by omega⟩, Ent_own [(3, 25)] ?_⟩
    simp only [go_sem, Nat.reduceEqDiff, reduceCtorEq, Nat.reduceAdd, Nat.reduceLeDiff, Nat.reduceMul, Nat.reduceLT, Int.reduceToNat, Int.reduceLT, Int.reduceLE, Int.reduceEq, Nat.reduceSub, List.contains_nil, Option.isSome_some]
  · intro _
    simp only [fn_pred_copied_L1, go_sem, Nat.reduceEqDiff, reduceCtorEq, Nat.reduceAdd, Nat.reduceLeDiff, Nat.reduceMul, Nat.reduceLT, Int.reduceToNat, Int.reduceLT, Int.reduceLE, Int.reduceEq, Nat.reduceSub]
theorem sorting_copied_ev (p : Pred) (hp : Tame p) : E.C sorting_copied [.agg (Pred.cells p)] (.agg (Pred.cells p)) := by
  induction p using Pred.ind with
  | h o s n ks ih =>
  refine Z.sorting_copied _ _ ⟨Nat.le_of_ble_eq_true rfl, ?_⟩
  rw [Pred.cells_eq]
  have hk : Small ks.length := hp.top
  unfold Small at hk
  simp only [fn_sorting_copied, go_sem, Nat.reduceEqDiff, reduceCtorEq, Nat.reduceAdd, Nat.reduceLeDiff, Nat.reduceMul, Nat.reduceLT, Int.reduceToNat, Int.reduceLT, Int.reduceLE, Int.reduceEq, Nat.reduceSub, Pred.op, Pred.name, Pred.n, Pred.kids]
  intro hlen
  refine loop_list ks (fun _ => True) (fun done rest => ⟨[(16, .d (.int .i64 done.length)), (15, .d (.int .i64 ks.length)), (14, .d (.lst (ks.map Pred.cells))), (3, .ptr 3 0), (2, .ptr 2 0)], [(3, [.d (.int .i64 o), .d (.str s), .d (.int .i64 n), .own 3 4 (done.map Pred.cells)]), (2, [.d (.int .i64 0), .d (.str []), .d (.int .i64 0), .full []])], [(3, true)]⟩) ?_ trivial ?_ ?_
  · exact Ent_convm 3 3 3 4 _ [] [(3, 3)] rfl rfl (by simp) rfl (by simp only [Ent0, go_sem, Nat.reduceEqDiff, reduceCtorEq, Nat.reduceAdd, Nat.reduceLeDiff, Nat.reduceMul, Nat.reduceLT, Int.reduceToNat, Int.reduceLT, Int.reduceLE, Int.reduceEq, Nat.reduceSub, List.contains_nil, Option.isSome_some])
  · intro done k r hl _
    have hk' := ih k (by rw [hl]; simp) (hp.kid (by rw [hl]; simp))
    have hlt := lt_mid hl
    have hw : IntKind.i64.wrap ((done.length : Int) + 1) = ((done.length + 1 : Nat) : Int) := wrap_succ (by omega)
    have hd : done.length < ks.length := by omega
    have ha1 : (done.length + 1) * 56 ≤ 2 ^ 46 := by omega
    simp only [fn_sorting_copied_L1, go_sem, Nat.reduceEqDiff, reduceCtorEq, Nat.reduceAdd, Nat.reduceLeDiff, Nat.reduceMul, Nat.reduceLT, Int.reduceToNat, Int.reduceLT, Int.reduceLE, Int.reduceEq, Nat.reduceSub, hlt, getD_midP hl]
    refine call_by hk' ?_
    simp only [go_sem, Nat.reduceEqDiff, reduceCtorEq, Nat.reduceAdd, Nat.reduceLeDiff, Nat.reduceMul, Nat.reduceLT, Int.reduceToNat, Int.reduceLT, Int.reduceLE, Int.reduceEq, Nat.reduceSub, hw, List.length_append, List.length_map, List.map_append, Pred.lens_true]
    refine ⟨⟨by simp [Pred.cells_length], ha1, by omega⟩, Ent_own [(3, 25)] ?_⟩
    simp only [go_sem, Nat.reduceEqDiff, reduceCtorEq, Nat.reduceAdd, Nat.reduceLeDiff, Nat.reduceMul, Nat.reduceLT, Int.reduceToNat, Int.reduceLT, Int.reduceLE, Int.reduceEq, Nat.reduceSub, List.contains_nil, Option.isSome_some]
  · intro _
    simp only [fn_sorting_copied_L1, go_sem, Nat.reduceEqDiff, reduceCtorEq, Nat.reduceAdd, Nat.reduceLeDiff, Nat.reduceMul, Nat.reduceLT, Int.reduceToNat, Int.reduceLT, Int.reduceLE, Int.reduceEq, Nat.reduceSub]
theorem pred_constant_ev (b : Bool) : E.C pred_constant [.one (.bool b)] (.agg (Pred.cells (if b then trueP else falseP))) := by
  refine Z.pred_constant _ _ ⟨Nat.le_of_ble_eq_true rfl, ?_⟩
  cases b <;> simp only [fn_pred_constant, go_sem, Nat.reduceEqDiff, reduceCtorEq, Nat.reduceAdd, Nat.reduceLeDiff, Nat.reduceMul, Nat.reduceLT, Int.reduceToNat, Int.reduceLT, Int.reduceLE, Int.reduceEq, Nat.reduceSub, trueP, falseP, Pred.cells_eq, Pred.op, Pred.name, Pred.n, Pred.kids]
def voidP (p : Pred) : Bool := p.same zeroP || p.same trueP
theorem pred_void_ev (p : Pred) : E.C pred_void [.agg (Pred.cells p)] (.one (.bool (voidP p))) := by
  have h0 := pred_Same_ev Z p zeroP
  have h1 := pred_Same_ev Z p trueP
  have h2 := pred_constant_ev Z true
  refine Z.pred_void _ _ ⟨Nat.le_of_ble_eq_true rfl, ?_⟩
  unfold voidP
  simp only [if_true] at h2
  rw [Pred.cells_eq p] at *
  have e0 : Pred.cells zeroP = [.int .i64 0, .str [], .int .i64 0, .lst []] := by rw [Pred.cells_eq]; rfl
  have e1 : Pred.cells trueP = [.int .i64 2, .str [], .int .i64 1, .lst []] := by rw [Pred.cells_eq]; rfl
  rw [e0] at h0
  rw [e1] at h1 h2
  simp only [fn_pred_void, go_sem, Nat.reduceEqDiff, reduceCtorEq, Nat.reduceAdd, Nat.reduceLeDiff, Nat.reduceMul, Nat.reduceLT, Int.reduceToNat, Int.reduceLT, Int.reduceLE, Int.reduceEq, Nat.reduceSub]
  refine call_by h0 ?_
  simp only [go_sem, Nat.reduceEqDiff, reduceCtorEq, Nat.reduceAdd, Nat.reduceLeDiff, Nat.reduceMul, Nat.reduceLT, Int.reduceToNat, Int.reduceLT, Int.reduceLE, Int.reduceEq, Nat.reduceSub]
  refine call_g h2 ?_
  simp only [go_sem, Nat.reduceEqDiff, reduceCtorEq, Nat.reduceAdd, Nat.reduceLeDiff, Nat.reduceMul, Nat.reduceLT, Int.reduceToNat, Int.reduceLT, Int.reduceLE, Int.reduceEq, Nat.reduceSub]
  refine call_g h1 ?_
  simp only [go_sem, Nat.reduceEqDiff, reduceCtorEq, Nat.reduceAdd, Nat.reduceLeDiff, Nat.reduceMul, Nat.reduceLT, Int.reduceToNat, Int.reduceLT, Int.reduceLE, Int.reduceEq, Nat.reduceSub]
/-- the negation of a predicate -/
def notP (p : Pred) : Pred := if p.op == 14 && (p.kids.length : Int) == 1 then p.kids.getD 0 zeroP else if voidP p then falseP else if p.same falseP then trueP else .mk 14 [] 0 [p]
theorem pred_Not_ev (p : Pred) (hp : Tame p) : E.C pred_Not [.agg (Pred.cells p)] (.agg (Pred.cells (notP p))) := by
  have h0 := pred_void_ev Z p
  have h1 := pred_constant_ev Z true
  have h2 := pred_constant_ev Z false
  have h3 := pred_Same_ev Z p falseP
  have h4 := pred_copied_ev Z p hp
  have h5 := fun q hq => pred_copied_ev Z q hq
  refine Z.pred_Not _ _ ⟨Nat.le_of_ble_eq_true rfl, ?_⟩
  generalize hR : notP p = R
  unfold notP at hR
  obtain ⟨o, s, n, ks⟩ := p
  simp only [if_true, Bool.false_eq_true, if_false] at h1 h2
  have e0 : Pred.cells falseP = [.int .i64 2, .str [], .int .i64 0, .lst []] := by rw [Pred.cells_eq]; rfl
  have e1 : Pred.cells trueP = [.int .i64 2, .str [], .int .i64 1, .lst []] := by rw [Pred.cells_eq]; rfl
  rw [Pred.cells_eq (.mk o s n ks)] at *
  rw [e1] at h1
  rw [e0] at h2 h3
  simp only [fn_pred_Not, go_sem, Nat.reduceEqDiff, reduceCtorEq, Nat.reduceAdd, Nat.reduceLeDiff, Nat.reduceMul, Nat.reduceLT, Int.reduceToNat, Int.reduceLT, Int.reduceLE, Int.reduceEq, Nat.reduceSub, Pred.op, Pred.name, Pred.n, Pred.kids] at hR h0 h3 h4 ⊢
  intro hlen
  cases c1 : (o == 14 && (ks.length : Int) == 1) with
  | true =>
    simp only [c1, go_sem, Nat.reduceEqDiff, reduceCtorEq, Nat.reduceAdd, Nat.reduceLeDiff, Nat.reduceMul, Nat.reduceLT, Int.reduceToNat, Int.reduceLT, Int.reduceLE, Int.reduceEq, Nat.reduceSub] at hR ⊢
    obtain ⟨k, rfl⟩ : ∃ k, ks = [k] := one_split (by simp at c1; omega)
    have := h5 k (hp.kid (by simp))
    rw [Pred.cells_eq k] at this
    simp only [go_sem, Nat.reduceEqDiff, reduceCtorEq, Nat.reduceAdd, Nat.reduceLeDiff, Nat.reduceMul, Nat.reduceLT, Int.reduceToNat, Int.reduceLT, Int.reduceLE, Int.reduceEq, Nat.reduceSub, Pred.cells_eq k] at hR ⊢
    refine call_by this ?_
    subst hR
    simp only [go_sem, Nat.reduceEqDiff, reduceCtorEq, Nat.reduceAdd, Nat.reduceLeDiff, Nat.reduceMul, Nat.reduceLT, Int.reduceToNat, Int.reduceLT, Int.reduceLE, Int.reduceEq, Nat.reduceSub, Pred.cells_eq k]
  | false =>
  simp only [c1, go_sem, Nat.reduceEqDiff, reduceCtorEq, Nat.reduceAdd, Nat.reduceLeDiff, Nat.reduceMul, Nat.reduceLT, Int.reduceToNat, Int.reduceLT, Int.reduceLE, Int.reduceEq, Nat.reduceSub] at hR ⊢
  refine call_by h0 ?_
  cases c2 : voidP (.mk o s n ks) with
  | true =>
    simp only [c2, go_sem, Nat.reduceEqDiff, reduceCtorEq, Nat.reduceAdd, Nat.reduceLeDiff, Nat.reduceMul, Nat.reduceLT, Int.reduceToNat, Int.reduceLT, Int.reduceLE, Int.reduceEq, Nat.reduceSub] at hR ⊢
    refine call_by h2 ?_
    subst hR
    simp only [go_sem, Nat.reduceEqDiff, reduceCtorEq, Nat.reduceAdd, Nat.reduceLeDiff, Nat.reduceMul, Nat.reduceLT, Int.reduceToNat, Int.reduceLT, Int.reduceLE, Int.reduceEq, Nat.reduceSub, e0]
  | false =>
  simp only [c2, go_sem, Nat.reduceEqDiff, reduceCtorEq, Nat.reduceAdd, Nat.reduceLeDiff, Nat.reduceMul, Nat.reduceLT, Int.reduceToNat, Int.reduceLT, Int.reduceLE, Int.reduceEq, Nat.reduceSub] at hR ⊢
  refine call_by h2 ?_
  simp only [go_sem, Nat.reduceEqDiff, reduceCtorEq, Nat.reduceAdd, Nat.reduceLeDiff, Nat.reduceMul, Nat.reduceLT, Int.reduceToNat, Int.reduceLT, Int.reduceLE, Int.reduceEq, Nat.reduceSub]
  refine call_by h3 ?_
  cases c3 : (Pred.mk o s n ks).same falseP with
  | true =>
    simp only [c3, go_sem, Nat.reduceEqDiff, reduceCtorEq, Nat.reduceAdd, Nat.reduceLeDiff, Nat.reduceMul, Nat.reduceLT, Int.reduceToNat, Int.reduceLT, Int.reduceLE, Int.reduceEq, Nat.reduceSub] at hR ⊢
    refine call_by h1 ?_
    subst hR
    simp only [go_sem, Nat.reduceEqDiff, reduceCtorEq, Nat.reduceAdd, Nat.reduceLeDiff, Nat.reduceMul, Nat.reduceLT, Int.reduceToNat, Int.reduceLT, Int.reduceLE, Int.reduceEq, Nat.reduceSub, e1]
  | false =>
    simp only [c3, go_sem, Nat.reduceEqDiff, reduceCtorEq, Nat.reduceAdd, Nat.reduceLeDiff, Nat.reduceMul, Nat.reduceLT, Int.reduceToNat, Int.reduceLT, Int.reduceLE, Int.reduceEq, Nat.reduceSub] at hR ⊢
    refine call_by h4 ?_
    subst hR
    simp only [go_sem, Nat.reduceEqDiff, reduceCtorEq, Nat.reduceAdd, Nat.reduceLeDiff, Nat.reduceMul, Nat.reduceLT, Int.reduceToNat, Int.reduceLT, Int.reduceLE, Int.reduceEq, Nat.reduceSub, Pred.cells_eq (.mk 14 [] 0 [.mk o s n ks]), Pred.op, Pred.name, Pred.n, Pred.kids, Pred.cells_eq (.mk o s n ks)]
end Go.Abs
end
section
set_option linter.unusedSimpArgs false
set_option linter.unusedVariables false
set_option linter.unusedSectionVars false
namespace Go.Abs
/-! ## helpers -/
theorem allB_mid {α : Type} {f : α → Bool} {l a r : List α} {x : α} (hl : l = a ++ x :: r) (ha : ∀ y ∈ a, f y = true) : l.all f = (f x && r.all f) := by
  rw [hl, List.all_append, List.all_cons, List.all_eq_true.2 ha, Bool.true_and]
def pv (s : Str) : Pred := .mk 3 s 0 []
def papp (s : Str) (l : List Pred) : Pred := .mk 4 s 0 l
def p2 (o : Int) (a b : Pred) : Pred := .mk o [] 0 [a, b]
theorem pair_split {α : Type} {l : List α} (h : l.length = 2) : ∃ a b, l = [a, b] := by
  match l, h with
  | [a, b], _ => exact ⟨a, b, rfl⟩
theorem loop_named {E : AEnv} {c : AC} {K : AX → St → Prop} {F : St} (h : ∀ K', K' = K → awp E (.loop c) K' F) : awp E (.loop c) K F := h K rfl
def andStp (x : Pred × Bool) (p : Pred) : Pred × Bool := if voidP p then x else if x.2 then (.mk 15 [] 0 [x.1, p], true) else (p, true)
def andGo (l : List Pred) : Pred × Bool := l.foldl andStp (trueP, false)
def isFalse (p : Pred) : Bool := !voidP p && p.same falseP
/-- the conjunction of predicates -/
def andP (l : List Pred) : Pred := if l.any isFalse then falseP else (andGo l).1
theorem andGo_app (a : List Pred) (k : Pred) : andGo (a ++ [k]) = andStp (andGo a) k := by unfold andGo; rw [List.foldl_append]; rfl
theorem any_mid {α : Type} {f : α → Bool} {l a r : List α} {x : α} (hl : l = a ++ x :: r) (ha : ∀ y ∈ a, f y = false) : l.any f = (f x || r.any f) := by
  rw [hl, List.any_append, List.any_cons]
  have : a.any f = false := by rw [List.any_eq_false]; intro y hy; rw [ha y hy]; exact Bool.false_ne_true
  rw [this, Bool.false_or]
theorem any_none {α : Type} {f : α → Bool} {l : List α} (ha : ∀ y ∈ l, f y = false) : l.any f = false := by rw [List.any_eq_false]; intro y hy; rw [ha y hy]; exact Bool.false_ne_true
theorem seq_named {E : AEnv} {a b : AC} {Q : AX → St → Prop} {st : St} (h : ∀ N, N = awp E b Q → awp E a (seqK N Q) st) : awp E (.seq a b) Q st := h _ rfl
end Go.Abs
end
section
set_option linter.unusedSimpArgs false
set_option linter.unusedVariables false
set_option linter.unusedSectionVars false
namespace Go.Abs
/-! ## bounded integers -/
def res2 (r : Int × Bool) : CV := .tup [.one (.int .i64 r.1), .one (.bool r.2)]
def bnd (n : Int) : Int × Bool := if inRange n then (n, true) else (0, false)
def addI (a b : Int) : Int × Bool := if inRange a && inRange b then bnd (a + b) else (0, false)
def subI (a b : Int) : Int × Bool := if inRange a && inRange b then bnd (a - b) else (0, false)
def mulI (a b : Int) : Int × Bool := if inRange a && inRange b then bnd (a * b) else (0, false)
theorem inRange_iff (n : Int) : inRange n = true ↔ -1000000000000 ≤ n ∧ n ≤ 1000000000000 := by simp [inRange]
theorem wrap_add {a b : Int} (ha : inRange a = true) (hb : inRange b = true) : IntKind.i64.wrap (a + b) = a + b := by
  rw [inRange_iff] at ha hb; exact i64_in _ (by omega)
theorem wrap_sub {a b : Int} (ha : inRange a = true) (hb : inRange b = true) : IntKind.i64.wrap (a - b) = a - b := by
  rw [inRange_iff] at ha hb; exact i64_in _ (by omega)
def absI (n : Int) : Int := if n ≥ 0 then n else -n
theorem absI_nonneg (n : Int) : 0 ≤ absI n := by unfold absI; split <;> omega
theorem absI_pos {n : Int} (h : n ≠ 0) : 0 < absI n := by unfold absI; split <;> omega
theorem absI_mul (a b : Int) : absI (a * b) = absI a * absI b := by
  have : ∀ n : Int, absI n = n.natAbs := fun n => by unfold absI; split <;> omega
  simp only [this, Int.natAbs_mul, Int.natCast_mul]
theorem inRange_abs (n : Int) : inRange n = true ↔ absI n ≤ 1000000000000 := by
  rw [inRange_iff]; unfold absI; split <;> omega
/-- whether a product is in bounds, by a quotient -/
theorem quo_abs {a b : Int} (ha : a ≠ 0) : decide (absI b > (1000000000000 : Int).tdiv (absI a)) = !inRange (a * b) := by
  have hp := absI_pos ha
  have hq : (1000000000000 : Int).tdiv (absI a) = 1000000000000 / absI a := Int.tdiv_eq_ediv_of_nonneg (by omega)
  rw [hq]
  have h1 : (1000000000000 / absI a < absI b) ↔ 1000000000000 < absI b * absI a := Int.ediv_lt_iff_lt_mul hp
  have h2 : inRange (a * b) = true ↔ ¬ (1000000000000 < absI b * absI a) := by
    rw [inRange_abs, absI_mul, Int.mul_comm]; omega
  cases h : inRange (a * b) with
  | true => rw [h] at h2; simp only [true_iff] at h2; simp; rw [← Int.not_lt, h1]; exact h2
  | false => rw [h] at h2; simp at h2; simp; rw [h1]; exact h2
set_option maxRecDepth 100000
variable {E : AEnv} (Z : Sys E)
include Z
theorem num_checked_ev (n : Int) (ok : Bool) : E.C num_checked [.one (.int .i64 n), .one (.bool ok)] (res2 (if ok then bnd n else (0, false))) := by
  refine Z.num_checked _ _ ⟨Nat.le_of_ble_eq_true rfl, ?_⟩
  unfold res2 bnd
  simp only [fn_num_checked, go_sem, Nat.reduceEqDiff, reduceCtorEq, Nat.reduceAdd, Nat.reduceLeDiff, Nat.reduceMul, Nat.reduceLT, Int.reduceToNat, Int.reduceLT, Int.reduceLE, Int.reduceEq, Nat.reduceSub]
  refine call_gi (fun _ => num_In_ev Z n) ?_
  cases ok <;> cases h : inRange n <;> simp only [h, go_sem, Nat.reduceEqDiff, reduceCtorEq, Nat.reduceAdd, Nat.reduceLeDiff, Nat.reduceMul, Nat.reduceLT, Int.reduceToNat, Int.reduceLT, Int.reduceLE, Int.reduceEq, Nat.reduceSub]
theorem r01_result_ev (n : Int) (ok : Bool) : E.C r01_result [.one (.int .i64 n), .one (.bool ok)] (res2 (if ok then bnd n else (0, false))) := by
  refine Z.r01_result _ _ ⟨Nat.le_of_ble_eq_true rfl, ?_⟩
  unfold res2 bnd
  simp only [fn_r01_result, go_sem, Nat.reduceEqDiff, reduceCtorEq, Nat.reduceAdd, Nat.reduceLeDiff, Nat.reduceMul, Nat.reduceLT, Int.reduceToNat, Int.reduceLT, Int.reduceLE, Int.reduceEq, Nat.reduceSub]
  refine call_gi (fun _ => r01_In_ev Z n) ?_
  cases ok <;> cases h : inRange n <;> simp only [h, go_sem, Nat.reduceEqDiff, reduceCtorEq, Nat.reduceAdd, Nat.reduceLeDiff, Nat.reduceMul, Nat.reduceLT, Int.reduceToNat, Int.reduceLT, Int.reduceLE, Int.reduceEq, Nat.reduceSub]
theorem num_Add_ev (a b : Int) : E.C num_Add [.one (.int .i64 a), .one (.int .i64 b)] (res2 (addI a b)) := by
  have h1 := num_checked_ev Z (IntKind.i64.wrap (a + b)) true
  refine Z.num_Add _ _ ⟨Nat.le_of_ble_eq_true rfl, ?_⟩
  unfold addI
  simp only [res2] at h1 ⊢
  simp only [fn_num_Add, go_sem, Nat.reduceEqDiff, reduceCtorEq, Nat.reduceAdd, Nat.reduceLeDiff, Nat.reduceMul, Nat.reduceLT, Int.reduceToNat, Int.reduceLT, Int.reduceLE, Int.reduceEq, Nat.reduceSub]
  refine call_by (num_In_ev Z a) ?_
  simp only [go_sem, Nat.reduceEqDiff, reduceCtorEq, Nat.reduceAdd, Nat.reduceLeDiff, Nat.reduceMul, Nat.reduceLT, Int.reduceToNat, Int.reduceLT, Int.reduceLE, Int.reduceEq, Nat.reduceSub]
  refine call_gi (fun _ => num_In_ev Z b) ?_
  cases ha : inRange a <;> cases hb : inRange b <;> simp only [ha, hb, go_sem, Nat.reduceEqDiff, reduceCtorEq, Nat.reduceAdd, Nat.reduceLeDiff, Nat.reduceMul, Nat.reduceLT, Int.reduceToNat, Int.reduceLT, Int.reduceLE, Int.reduceEq, Nat.reduceSub]
  refine call_by h1 ?_
  simp only [go_sem, Nat.reduceEqDiff, reduceCtorEq, Nat.reduceAdd, Nat.reduceLeDiff, Nat.reduceMul, Nat.reduceLT, Int.reduceToNat, Int.reduceLT, Int.reduceLE, Int.reduceEq, Nat.reduceSub, wrap_add ha hb]
theorem num_Sub_ev (a b : Int) : E.C num_Sub [.one (.int .i64 a), .one (.int .i64 b)] (res2 (subI a b)) := by
  have h1 := num_checked_ev Z (IntKind.i64.wrap (a - b)) true
  refine Z.num_Sub _ _ ⟨Nat.le_of_ble_eq_true rfl, ?_⟩
  unfold subI
  simp only [res2] at h1 ⊢
  simp only [fn_num_Sub, go_sem, Nat.reduceEqDiff, reduceCtorEq, Nat.reduceAdd, Nat.reduceLeDiff, Nat.reduceMul, Nat.reduceLT, Int.reduceToNat, Int.reduceLT, Int.reduceLE, Int.reduceEq, Nat.reduceSub]
  refine call_by (num_In_ev Z a) ?_
  simp only [go_sem, Nat.reduceEqDiff, reduceCtorEq, Nat.reduceAdd, Nat.reduceLeDiff, Nat.reduceMul, Nat.reduceLT, Int.reduceToNat, Int.reduceLT, Int.reduceLE, Int.reduceEq, Nat.reduceSub]
  refine call_gi (fun _ => num_In_ev Z b) ?_
  cases ha : inRange a <;> cases hb : inRange b <;> simp only [ha, hb, go_sem, Nat.reduceEqDiff, reduceCtorEq, Nat.reduceAdd, Nat.reduceLeDiff, Nat.reduceMul, Nat.reduceLT, Int.reduceToNat, Int.reduceLT, Int.reduceLE, Int.reduceEq, Nat.reduceSub]
  refine call_by h1 ?_
  simp only [go_sem, Nat.reduceEqDiff, reduceCtorEq, Nat.reduceAdd, Nat.reduceLeDiff, Nat.reduceMul, Nat.reduceLT, Int.reduceToNat, Int.reduceLT, Int.reduceLE, Int.reduceEq, Nat.reduceSub, wrap_sub ha hb]
theorem r01_Add_ev (a b : Int) : E.C r01_Add [.one (.int .i64 a), .one (.int .i64 b)] (res2 (addI a b)) := by
  have h1 := r01_result_ev Z (IntKind.i64.wrap (a + b)) (inRange a && inRange b)
  refine Z.r01_Add _ _ ⟨Nat.le_of_ble_eq_true rfl, ?_⟩
  unfold addI
  simp only [res2] at h1 ⊢
  simp only [fn_r01_Add, go_sem, Nat.reduceEqDiff, reduceCtorEq, Nat.reduceAdd, Nat.reduceLeDiff, Nat.reduceMul, Nat.reduceLT, Int.reduceToNat, Int.reduceLT, Int.reduceLE, Int.reduceEq, Nat.reduceSub]
  refine call_by (r01_In_ev Z a) ?_
  simp only [go_sem, Nat.reduceEqDiff, reduceCtorEq, Nat.reduceAdd, Nat.reduceLeDiff, Nat.reduceMul, Nat.reduceLT, Int.reduceToNat, Int.reduceLT, Int.reduceLE, Int.reduceEq, Nat.reduceSub]
  refine call_g (r01_In_ev Z b) ?_
  cases ha : inRange a <;> cases hb : inRange b <;> simp only [ha, hb, go_sem, Nat.reduceEqDiff, reduceCtorEq, Nat.reduceAdd, Nat.reduceLeDiff, Nat.reduceMul, Nat.reduceLT, Int.reduceToNat, Int.reduceLT, Int.reduceLE, Int.reduceEq, Nat.reduceSub] at h1 ⊢ <;> refine call_by h1 ?_ <;> simp only [go_sem, Nat.reduceEqDiff, reduceCtorEq, Nat.reduceAdd, Nat.reduceLeDiff, Nat.reduceMul, Nat.reduceLT, Int.reduceToNat, Int.reduceLT, Int.reduceLE, Int.reduceEq, Nat.reduceSub]
  simp only [wrap_add ha hb, and_self]
theorem r01_Sub_ev (a b : Int) : E.C r01_Sub [.one (.int .i64 a), .one (.int .i64 b)] (res2 (subI a b)) := by
  have h1 := r01_result_ev Z (IntKind.i64.wrap (a - b)) (inRange a && inRange b)
  refine Z.r01_Sub _ _ ⟨Nat.le_of_ble_eq_true rfl, ?_⟩
  unfold subI
  simp only [res2] at h1 ⊢
  simp only [fn_r01_Sub, go_sem, Nat.reduceEqDiff, reduceCtorEq, Nat.reduceAdd, Nat.reduceLeDiff, Nat.reduceMul, Nat.reduceLT, Int.reduceToNat, Int.reduceLT, Int.reduceLE, Int.reduceEq, Nat.reduceSub]
  refine call_by (r01_In_ev Z a) ?_
  simp only [go_sem, Nat.reduceEqDiff, reduceCtorEq, Nat.reduceAdd, Nat.reduceLeDiff, Nat.reduceMul, Nat.reduceLT, Int.reduceToNat, Int.reduceLT, Int.reduceLE, Int.reduceEq, Nat.reduceSub]
  refine call_g (r01_In_ev Z b) ?_
  cases ha : inRange a <;> cases hb : inRange b <;> simp only [ha, hb, go_sem, Nat.reduceEqDiff, reduceCtorEq, Nat.reduceAdd, Nat.reduceLeDiff, Nat.reduceMul, Nat.reduceLT, Int.reduceToNat, Int.reduceLT, Int.reduceLE, Int.reduceEq, Nat.reduceSub] at h1 ⊢ <;> refine call_by h1 ?_ <;> simp only [go_sem, Nat.reduceEqDiff, reduceCtorEq, Nat.reduceAdd, Nat.reduceLeDiff, Nat.reduceMul, Nat.reduceLT, Int.reduceToNat, Int.reduceLT, Int.reduceLE, Int.reduceEq, Nat.reduceSub]
  simp only [wrap_sub ha hb, and_self]
theorem num_abs_ev {n : Int} (h : inRange n = true) : E.C num_abs [.one (.int .i64 n)] (.one (.int .i64 (absI n))) := by
  refine Z.num_abs _ _ ⟨Nat.le_of_ble_eq_true rfl, ?_⟩
  rw [inRange_iff] at h
  have hw : IntKind.i64.wrap (0 - n) = -n := by rw [i64_in _ (by omega)]; omega
  unfold absI
  simp only [fn_num_abs, go_sem, Nat.reduceEqDiff, reduceCtorEq, Nat.reduceAdd, Nat.reduceLeDiff, Nat.reduceMul, Nat.reduceLT, Int.reduceToNat, Int.reduceLT, Int.reduceLE, Int.reduceEq, Nat.reduceSub, hw]
  by_cases h0 : n ≥ 0
  · simp only [h0, go_sem, Nat.reduceEqDiff, reduceCtorEq, Nat.reduceAdd, Nat.reduceLeDiff, Nat.reduceMul, Nat.reduceLT, Int.reduceToNat, Int.reduceLT, Int.reduceLE, Int.reduceEq, Nat.reduceSub]
  · have h2 : ¬ (-n < 0) := by omega
    simp only [h0, h2, go_sem, Nat.reduceEqDiff, reduceCtorEq, Nat.reduceAdd, Nat.reduceLeDiff, Nat.reduceMul, Nat.reduceLT, Int.reduceToNat, Int.reduceLT, Int.reduceLE, Int.reduceEq, Nat.reduceSub]
theorem num_Mul_ev (a b : Int) : E.C num_Mul [.one (.int .i64 a), .one (.int .i64 b)] (res2 (mulI a b)) := by
  have h1 := num_checked_ev Z (IntKind.i64.wrap (a * b)) true
  refine Z.num_Mul _ _ ⟨Nat.le_of_ble_eq_true rfl, ?_⟩
  unfold mulI
  simp only [res2] at h1 ⊢
  simp only [fn_num_Mul, go_sem, Nat.reduceEqDiff, reduceCtorEq, Nat.reduceAdd, Nat.reduceLeDiff, Nat.reduceMul, Nat.reduceLT, Int.reduceToNat, Int.reduceLT, Int.reduceLE, Int.reduceEq, Nat.reduceSub]
  refine call_by (num_In_ev Z a) ?_
  simp only [go_sem, Nat.reduceEqDiff, reduceCtorEq, Nat.reduceAdd, Nat.reduceLeDiff, Nat.reduceMul, Nat.reduceLT, Int.reduceToNat, Int.reduceLT, Int.reduceLE, Int.reduceEq, Nat.reduceSub]
  refine call_gi (fun _ => num_In_ev Z b) ?_
  cases ha : inRange a <;> cases hb : inRange b <;> simp only [ha, hb, go_sem, Nat.reduceEqDiff, reduceCtorEq, Nat.reduceAdd, Nat.reduceLeDiff, Nat.reduceMul, Nat.reduceLT, Int.reduceToNat, Int.reduceLT, Int.reduceLE, Int.reduceEq, Nat.reduceSub]
  by_cases ha0 : a = 0
  · subst ha0; simp only [go_sem, Nat.reduceEqDiff, reduceCtorEq, Nat.reduceAdd, Nat.reduceLeDiff, Nat.reduceMul, Nat.reduceLT, Int.reduceToNat, Int.reduceLT, Int.reduceLE, Int.reduceEq, Nat.reduceSub, beq_self_eq_true, Int.zero_mul]; simp [bnd, inRange]
  have ea : (a == 0) = false := by simpa using ha0
  by_cases hb0 : b = 0
  · subst hb0; simp only [go_sem, Nat.reduceEqDiff, reduceCtorEq, Nat.reduceAdd, Nat.reduceLeDiff, Nat.reduceMul, Nat.reduceLT, Int.reduceToNat, Int.reduceLT, Int.reduceLE, Int.reduceEq, Nat.reduceSub, beq_self_eq_true, ea, Int.mul_zero]; simp [bnd, inRange]
  have eb : (b == 0) = false := by simpa using hb0
  simp only [ea, eb, go_sem, Nat.reduceEqDiff, reduceCtorEq, Nat.reduceAdd, Nat.reduceLeDiff, Nat.reduceMul, Nat.reduceLT, Int.reduceToNat, Int.reduceLT, Int.reduceLE, Int.reduceEq, Nat.reduceSub]
  refine call_by (num_abs_ev Z hb) ?_
  simp only [go_sem, Nat.reduceEqDiff, reduceCtorEq, Nat.reduceAdd, Nat.reduceLeDiff, Nat.reduceMul, Nat.reduceLT, Int.reduceToNat, Int.reduceLT, Int.reduceLE, Int.reduceEq, Nat.reduceSub]
  refine call_by (num_abs_ev Z ha) ?_
  have hne : absI a ≠ 0 := by have := absI_pos ha0; omega
  have hw : IntKind.i64.wrap ((1000000000000 : Int).tdiv (absI a)) = (1000000000000 : Int).tdiv (absI a) := by
    rw [Int.tdiv_eq_ediv_of_nonneg (by omega)]
    have hp := absI_pos ha0
    have h0 : 0 ≤ (1000000000000 : Int) / absI a := Int.ediv_nonneg (by omega) (by omega)
    have h2 : (1000000000000 : Int) / absI a ≤ 1000000000000 := Int.ediv_le_self _ (by omega)
    exact i64_in _ (by omega)
  simp only [go_sem, Nat.reduceEqDiff, reduceCtorEq, Nat.reduceAdd, Nat.reduceLeDiff, Nat.reduceMul, Nat.reduceLT, Int.reduceToNat, Int.reduceLT, Int.reduceLE, Int.reduceEq, Nat.reduceSub, hw, quo_abs ha0]
  refine ⟨hne, ?_⟩
  cases hr : inRange (a * b) with
  | false => simp only [go_sem, Nat.reduceEqDiff, reduceCtorEq, Nat.reduceAdd, Nat.reduceLeDiff, Nat.reduceMul, Nat.reduceLT, Int.reduceToNat, Int.reduceLT, Int.reduceLE, Int.reduceEq, Nat.reduceSub, bnd, hr]
  | true =>
    have hwm : IntKind.i64.wrap (a * b) = a * b := i64_in _ (by rw [inRange_iff] at hr; omega)
    rw [hwm] at h1 ⊢
    simp only [go_sem, Nat.reduceEqDiff, reduceCtorEq, Nat.reduceAdd, Nat.reduceLeDiff, Nat.reduceMul, Nat.reduceLT, Int.reduceToNat, Int.reduceLT, Int.reduceLE, Int.reduceEq, Nat.reduceSub, hr]
    refine call_by h1 ?_
    simp only [go_sem, Nat.reduceEqDiff, reduceCtorEq, Nat.reduceAdd, Nat.reduceLeDiff, Nat.reduceMul, Nat.reduceLT, Int.reduceToNat, Int.reduceLT, Int.reduceLE, Int.reduceEq, Nat.reduceSub, bnd, hr]
theorem r01_Mul_ev (a b : Int) : E.C r01_Mul [.one (.int .i64 a), .one (.int .i64 b)] (res2 (mulI a b)) := by
  refine Z.r01_Mul _ _ ⟨Nat.le_of_ble_eq_true rfl, ?_⟩
  unfold mulI
  simp only [res2]
  simp only [fn_r01_Mul, go_sem, Nat.reduceEqDiff, reduceCtorEq, Nat.reduceAdd, Nat.reduceLeDiff, Nat.reduceMul, Nat.reduceLT, Int.reduceToNat, Int.reduceLT, Int.reduceLE, Int.reduceEq, Nat.reduceSub]
  refine call_by (r01_In_ev Z a) ?_
  simp only [go_sem, Nat.reduceEqDiff, reduceCtorEq, Nat.reduceAdd, Nat.reduceLeDiff, Nat.reduceMul, Nat.reduceLT, Int.reduceToNat, Int.reduceLT, Int.reduceLE, Int.reduceEq, Nat.reduceSub]
  refine call_gi (fun _ => r01_In_ev Z b) ?_
  cases ha : inRange a <;> cases hb : inRange b <;> simp only [ha, hb, go_sem, Nat.reduceEqDiff, reduceCtorEq, Nat.reduceAdd, Nat.reduceLeDiff, Nat.reduceMul, Nat.reduceLT, Int.reduceToNat, Int.reduceLT, Int.reduceLE, Int.reduceEq, Nat.reduceSub]
  by_cases ha0 : a = 0
  · subst ha0; simp only [go_sem, Nat.reduceEqDiff, reduceCtorEq, Nat.reduceAdd, Nat.reduceLeDiff, Nat.reduceMul, Nat.reduceLT, Int.reduceToNat, Int.reduceLT, Int.reduceLE, Int.reduceEq, Nat.reduceSub, beq_self_eq_true, Int.zero_mul]; simp [bnd, inRange]
  have ea : (a == 0) = false := by simpa using ha0
  by_cases hb0 : b = 0
  · subst hb0; simp only [go_sem, Nat.reduceEqDiff, reduceCtorEq, Nat.reduceAdd, Nat.reduceLeDiff, Nat.reduceMul, Nat.reduceLT, Int.reduceToNat, Int.reduceLT, Int.reduceLE, Int.reduceEq, Nat.reduceSub, beq_self_eq_true, ea, Int.mul_zero]; simp [bnd, inRange]
  have eb : (b == 0) = false := by simpa using hb0
  have hq := quo_abs (b := a) hb0
  rw [Int.mul_comm b a] at hq
  have hneg : ∀ {n : Int}, inRange n = true → IntKind.i64.wrap (0 - n) = -n := fun h => by rw [inRange_iff] at h; rw [i64_in _ (by omega)]; omega
  have hw : IntKind.i64.wrap ((1000000000000 : Int).tdiv (absI b)) = (1000000000000 : Int).tdiv (absI b) := by
    rw [Int.tdiv_eq_ediv_of_nonneg (by omega)]
    have hp := absI_pos hb0
    have h0 : 0 ≤ (1000000000000 : Int) / absI b := Int.ediv_nonneg (by omega) (by omega)
    have h2 : (1000000000000 : Int) / absI b ≤ 1000000000000 := Int.ediv_le_self _ (by omega)
    exact i64_in _ (by omega)
  have hne : absI b ≠ 0 := by have := absI_pos hb0; omega
  have ea2 : absI a = if a < 0 then -a else a := by unfold absI; split <;> split <;> omega
  have eb2 : absI b = if b < 0 then -b else b := by unfold absI; split <;> split <;> omega
  simp only [ea, eb, go_sem, Nat.reduceEqDiff, reduceCtorEq, Nat.reduceAdd, Nat.reduceLeDiff, Nat.reduceMul, Nat.reduceLT, Int.reduceToNat, Int.reduceLT, Int.reduceLE, Int.reduceEq, Nat.reduceSub, hneg ha, hneg hb]
  have hfin : ∀ x y : Int, absI a = x → absI b = y → (decide (x > IntKind.i64.wrap ((1000000000000 : Int).tdiv y)) = !inRange (a * b)) ∧ y ≠ 0 := by
    rintro x y rfl rfl; rw [hw]; exact ⟨hq, hne⟩
  cases hr : inRange (a * b) with
  | false =>
    by_cases c1 : a < 0 <;> by_cases c2 : b < 0 <;> simp only [c1, c2, if_true, if_false] at ea2 eb2 <;> obtain ⟨f1, f2⟩ := hfin _ _ ea2 eb2 <;> rw [hr] at f1 <;> simp only [c1, c2, go_sem, Nat.reduceEqDiff, reduceCtorEq, Nat.reduceAdd, Nat.reduceLeDiff, Nat.reduceMul, Nat.reduceLT, Int.reduceToNat, Int.reduceLT, Int.reduceLE, Int.reduceEq, Nat.reduceSub, f1, bnd, hr] <;> exact f2
  | true =>
    have hwm : IntKind.i64.wrap (a * b) = a * b := i64_in _ (by rw [inRange_iff] at hr; omega)
    by_cases c1 : a < 0 <;> by_cases c2 : b < 0 <;> simp only [c1, c2, if_true, if_false] at ea2 eb2 <;> obtain ⟨f1, f2⟩ := hfin _ _ ea2 eb2 <;> rw [hr] at f1 <;> simp only [c1, c2, go_sem, Nat.reduceEqDiff, reduceCtorEq, Nat.reduceAdd, Nat.reduceLeDiff, Nat.reduceMul, Nat.reduceLT, Int.reduceToNat, Int.reduceLT, Int.reduceLE, Int.reduceEq, Nat.reduceSub, f1, bnd, hr, hwm] <;> exact f2
end Go.Abs
end
section
set_option linter.unusedSimpArgs false
set_option linter.unusedVariables false
set_option linter.unusedSectionVars false
namespace Go.Abs
/-! ## points and facts as data -/
structure Coef where
  name : Str
  n : Int
def Coef.cells (v : Coef) : List D := [.str v.name, .int .i64 v.n]
def icell (n : Int) : List D := [.int .i64 n]
structure Fact where
  name : Str
  args : List Int
  res : Int
def Fact.cells (v : Fact) : List D := [.str v.name, .lst (v.args.map icell), .int .i64 v.res]
theorem Coef.lens (l : List Coef) : (∀ e ∈ l.map Coef.cells, e.length = 2) = True := lens_map (f := Coef.cells) (fun _ => rfl) l
theorem Fact.lens (l : List Fact) : (∀ e ∈ l.map Fact.cells, e.length = 3) = True := lens_map (f := Fact.cells) (fun _ => rfl) l
theorem icell_lens (l : List Int) : (∀ e ∈ l.map icell, e.length = 1) = True := lens_map (f := icell) (fun _ => rfl) l
attribute [go_sem] Coef.lens Fact.lens icell_lens
/-- the number of a name at a point -/
def findC (s : Str) : List Coef → Int × Bool
  | [] => (0, false)
  | c :: l => if c.name == s then (c.n, true) else findC s l
theorem findC_mid {s : Str} {a r : List Coef} {x : Coef} (ha : ∀ y ∈ a, (y.name == s) = false) : findC s (a ++ x :: r) = if x.name == s then (x.n, true) else findC s r := by
  induction a with
  | nil => rfl
  | cons y a ih => rw [List.cons_append, findC, ha y (by simp)]; exact ih fun z hz => ha z (by simp [hz])
theorem findC_all {s : Str} {a : List Coef} (ha : ∀ y ∈ a, (y.name == s) = false) : findC s a = (0, false) := by
  induction a with
  | nil => rfl
  | cons y a ih => rw [findC, ha y (by simp)]; exact ih fun z hz => ha z (by simp [hz])
/-- the fact of a symbol for arguments -/
def findF (s : Str) (args : List Int) : List Fact → Option Int
  | [] => none
  | f :: l => if f.name == s && f.args == args then some f.res else findF s args l
theorem findF_mid {s : Str} {args : List Int} {a r : List Fact} {x : Fact} (ha : ∀ y ∈ a, (y.name == s && y.args == args) = false) : findF s args (a ++ x :: r) = if x.name == s && x.args == args then some x.res else findF s args r := by
  induction a with
  | nil => rfl
  | cons y a ih => rw [List.cons_append, findF, ha y (by simp)]; exact ih fun z hz => ha z (by simp [hz])
theorem findF_all {s : Str} {args : List Int} {a : List Fact} (ha : ∀ y ∈ a, (y.name == s && y.args == args) = false) : findF s args a = none := by
  induction a with
  | nil => rfl
  | cons y a ih => rw [findF, ha y (by simp)]; exact ih fun z hz => ha z (by simp [hz])
def factP (r : Option Int) : Int × Bool := match r with
  | some n => (n, inRange n)
  | none => (0, false)
def factR (r : Option Int) : Int × Bool := match r with
  | some n => bnd n
  | none => (0, false)
def tru (b : Bool) : Int := if b then 1 else 0
def opI (o a b : Int) : Int × Bool :=
  if o == 6 then addI a b else if o == 7 then subI a b else if o == 8 then mulI a b
  else if o == 10 then (tru (a == b), true) else if o == 11 then (tru (a != b), true) else if o == 12 then (tru (decide (a < b)), true) else if o == 13 then (tru (decide (a ≤ b)), true)
  else if o == 15 then (tru (a != 0 && b != 0), true) else if o == 16 then (tru (a != 0 || b != 0), true) else if o == 17 then (tru (a == 0 || b != 0), true) else if o == 18 then (tru ((a != 0) == (b != 0)), true) else (0, false)
def compI (o a b : Int) : Int × Bool :=
  if o == 6 then addI a b else if o == 7 then subI a b else if o == 8 then mulI a b else if o == 9 then subI 0 a
  else if o == 10 then (tru (a == b), true) else if o == 11 then (tru (a != b), true) else if o == 12 then (tru (decide (a < b)), true) else if o == 13 then (tru (decide (a ≤ b)), true) else if o == 14 then (tru (a == 0), true)
  else if o == 15 then (tru (a != 0 && b != 0), true) else if o == 16 then (tru (a != 0 || b != 0), true) else if o == 17 then (tru (a == 0 || b != 0), true) else (tru ((a != 0) == (b != 0)), true)
theorem eql_list {a b ad bd r r' : List Int} {x y : Int} (ha : a = ad ++ x :: r) (hb : b = bd ++ y :: r') (h : ad = bd) : (a == b) = (x == y && r == r') := by
  subst ha hb h
  rw [Bool.eq_iff_iff]; simp
set_option maxRecDepth 100000
variable {E : AEnv} (Z : Sys E)
include Z
theorem slices_Equal_int_ev (a b : List Int) : E.C slices_Equal_int_int [.one (.lst (a.map icell)), .one (.lst (b.map icell))] (.one (.bool (a == b))) := by
  refine Z.slices_Equal_int_int _ _ ⟨Nat.le_of_ble_eq_true rfl, ?_⟩
  generalize hR : (a == b) = R
  simp only [fn_slices_Equal_int_int, go_sem, Nat.reduceEqDiff, reduceCtorEq, Nat.reduceAdd, Nat.reduceLeDiff, Nat.reduceMul, Nat.reduceLT, Int.reduceToNat, Int.reduceLT, Int.reduceLE, Int.reduceEq, Nat.reduceSub]
  intro hl1 hl2
  by_cases hlen : a.length = b.length
  · have h1 : ((a.length : Int) != (b.length : Int)) = false := by simp [hlen]
    simp only [h1, go_sem, Nat.reduceEqDiff, reduceCtorEq, Nat.reduceAdd, Nat.reduceLeDiff, Nat.reduceMul, Nat.reduceLT, Int.reduceToNat, Int.reduceLT, Int.reduceLE, Int.reduceEq, Nat.reduceSub]
    intro _
    refine loop_list a (fun done => done = b.take done.length) (fun done rest => ⟨[(13, .d (.int .i64 done.length)), (12, .d (.int .i64 a.length)), (0, .d (.lst (a.map icell))), (1, .d (.lst (b.map icell)))], [], []⟩) ?_ (by simp) ?_ ?_
    · exact Ent_plain (by simp only [go_sem, Nat.reduceEqDiff, reduceCtorEq, Nat.reduceAdd, Nat.reduceLeDiff, Nat.reduceMul, Nat.reduceLT, Int.reduceToNat, Int.reduceLT, Int.reduceLE, Int.reduceEq, Nat.reduceSub])
    · intro done x r hl hI
      obtain ⟨bd, y, r', hb, hbl⟩ := at_split (b := b) (n := done.length) (by rw [← hlen, hl]; simp)
      have htk : b.take done.length = bd := by rw [hb]; exact List.take_left' hbl
      have hlt := lt_mid hl
      have hlt2 := lt_mid hb
      rw [hbl] at hlt2
      have hw : IntKind.i64.wrap ((done.length : Int) + 1) = ((done.length + 1 : Nat) : Int) := wrap_succ (by omega)
      rw [htk] at hI
      rw [eql_list hl hb hI] at hR
      have hy : (b.map icell).getD done.length [] = icell y := by rw [← hbl]; exact getD_at hb
      simp only [fn_slices_Equal_int_int_L1, go_sem, Nat.reduceEqDiff, reduceCtorEq, Nat.reduceAdd, Nat.reduceLeDiff, Nat.reduceMul, Nat.reduceLT, Int.reduceToNat, Int.reduceLT, Int.reduceLE, Int.reduceEq, Nat.reduceSub, getD_at hl, hy, hlt, hlt2, icell]
      by_cases h2 : x = y
      · subst h2
        simp only [go_sem, Nat.reduceEqDiff, reduceCtorEq, Nat.reduceAdd, Nat.reduceLeDiff, Nat.reduceMul, Nat.reduceLT, Int.reduceToNat, Int.reduceLT, Int.reduceLE, Int.reduceEq, Nat.reduceSub, hw, List.length_append, bne_self_eq_false]
        refine ⟨Ent_plain (by simp only [go_sem, Nat.reduceEqDiff, reduceCtorEq, Nat.reduceAdd, Nat.reduceLeDiff, Nat.reduceMul, Nat.reduceLT, Int.reduceToNat, Int.reduceLT, Int.reduceLE, Int.reduceEq, Nat.reduceSub]), ?_⟩
        have ht2 : b.take (done.length + 1) = bd ++ [x] := by rw [hb, show bd ++ x :: r' = (bd ++ [x]) ++ r' by simp]; exact List.take_left' (by simp [hbl])
        rw [ht2, ← hI]
      · have h3 : (x == y) = false := by simpa using h2
        simp only [h3, bne, go_sem, Nat.reduceEqDiff, reduceCtorEq, Nat.reduceAdd, Nat.reduceLeDiff, Nat.reduceMul, Nat.reduceLT, Int.reduceToNat, Int.reduceLT, Int.reduceLE, Int.reduceEq, Nat.reduceSub] at hR ⊢
        exact hR
    · intro hI
      rw [hlen, List.take_length] at hI
      subst hI
      simp only [beq_self_eq_true] at hR
      subst hR
      simp only [fn_slices_Equal_int_int_L1, go_sem, Nat.reduceEqDiff, reduceCtorEq, Nat.reduceAdd, Nat.reduceLeDiff, Nat.reduceMul, Nat.reduceLT, Int.reduceToNat, Int.reduceLT, Int.reduceLE, Int.reduceEq, Nat.reduceSub]
  · have h1 : ((a.length : Int) != (b.length : Int)) = true := by simp; omega
    have h2 : (a == b) = false := by simp; rintro rfl; exact hlen rfl
    rw [h2] at hR
    simp only [h1, go_sem, Nat.reduceEqDiff, reduceCtorEq, Nat.reduceAdd, Nat.reduceLeDiff, Nat.reduceMul, Nat.reduceLT, Int.reduceToNat, Int.reduceLT, Int.reduceLE, Int.reduceEq, Nat.reduceSub, hR]
theorem r10_same_ev (a b : List Int) : E.C r10_same [.one (.lst (a.map icell)), .one (.lst (b.map icell))] (.one (.bool (a == b))) := by
  refine Z.r10_same _ _ ⟨Nat.le_of_ble_eq_true rfl, ?_⟩
  generalize hR : (a == b) = R
  simp only [fn_r10_same, go_sem, Nat.reduceEqDiff, reduceCtorEq, Nat.reduceAdd, Nat.reduceLeDiff, Nat.reduceMul, Nat.reduceLT, Int.reduceToNat, Int.reduceLT, Int.reduceLE, Int.reduceEq, Nat.reduceSub]
  intro hl1 hl2
  by_cases hlen : a.length = b.length
  · have h1 : ((a.length : Int) != (b.length : Int)) = false := by simp [hlen]
    simp only [h1, go_sem, Nat.reduceEqDiff, reduceCtorEq, Nat.reduceAdd, Nat.reduceLeDiff, Nat.reduceMul, Nat.reduceLT, Int.reduceToNat, Int.reduceLT, Int.reduceLE, Int.reduceEq, Nat.reduceSub]
    intro _
    refine loop_list a (fun done => done = b.take done.length) (fun done rest => ⟨[(13, .d (.int .i64 done.length)), (12, .d (.int .i64 a.length)), (0, .d (.lst (a.map icell))), (1, .d (.lst (b.map icell)))], [], []⟩) ?_ (by simp) ?_ ?_
    · exact Ent_plain (by simp only [go_sem, Nat.reduceEqDiff, reduceCtorEq, Nat.reduceAdd, Nat.reduceLeDiff, Nat.reduceMul, Nat.reduceLT, Int.reduceToNat, Int.reduceLT, Int.reduceLE, Int.reduceEq, Nat.reduceSub])
    · intro done x r hl hI
      obtain ⟨bd, y, r', hb, hbl⟩ := at_split (b := b) (n := done.length) (by rw [← hlen, hl]; simp)
      have htk : b.take done.length = bd := by rw [hb]; exact List.take_left' hbl
      have hlt := lt_mid hl
      have hlt2 := lt_mid hb
      rw [hbl] at hlt2
      have hw : IntKind.i64.wrap ((done.length : Int) + 1) = ((done.length + 1 : Nat) : Int) := wrap_succ (by omega)
      rw [htk] at hI
      rw [eql_list hl hb hI] at hR
      have hy : (b.map icell).getD done.length [] = icell y := by rw [← hbl]; exact getD_at hb
      simp only [fn_r10_same_L1, go_sem, Nat.reduceEqDiff, reduceCtorEq, Nat.reduceAdd, Nat.reduceLeDiff, Nat.reduceMul, Nat.reduceLT, Int.reduceToNat, Int.reduceLT, Int.reduceLE, Int.reduceEq, Nat.reduceSub, getD_at hl, hy, hlt, hlt2, icell]
      by_cases h2 : x = y
      · subst h2
        simp only [go_sem, Nat.reduceEqDiff, reduceCtorEq, Nat.reduceAdd, Nat.reduceLeDiff, Nat.reduceMul, Nat.reduceLT, Int.reduceToNat, Int.reduceLT, Int.reduceLE, Int.reduceEq, Nat.reduceSub, hw, List.length_append, bne_self_eq_false]
        refine ⟨Ent_plain (by simp only [go_sem, Nat.reduceEqDiff, reduceCtorEq, Nat.reduceAdd, Nat.reduceLeDiff, Nat.reduceMul, Nat.reduceLT, Int.reduceToNat, Int.reduceLT, Int.reduceLE, Int.reduceEq, Nat.reduceSub]), ?_⟩
        have ht2 : b.take (done.length + 1) = bd ++ [x] := by rw [hb, show bd ++ x :: r' = (bd ++ [x]) ++ r' by simp]; exact List.take_left' (by simp [hbl])
        rw [ht2, ← hI]
      · have h3 : (x == y) = false := by simpa using h2
        simp only [h3, bne, go_sem, Nat.reduceEqDiff, reduceCtorEq, Nat.reduceAdd, Nat.reduceLeDiff, Nat.reduceMul, Nat.reduceLT, Int.reduceToNat, Int.reduceLT, Int.reduceLE, Int.reduceEq, Nat.reduceSub] at hR ⊢
        exact hR
    · intro hI
      rw [hlen, List.take_length] at hI
      subst hI
      simp only [beq_self_eq_true] at hR
      subst hR
      simp only [fn_r10_same_L1, go_sem, Nat.reduceEqDiff, reduceCtorEq, Nat.reduceAdd, Nat.reduceLeDiff, Nat.reduceMul, Nat.reduceLT, Int.reduceToNat, Int.reduceLT, Int.reduceLE, Int.reduceEq, Nat.reduceSub]
  · have h1 : ((a.length : Int) != (b.length : Int)) = true := by simp; omega
    have h2 : (a == b) = false := by simp; rintro rfl; exact hlen rfl
    rw [h2] at hR
    simp only [h1, go_sem, Nat.reduceEqDiff, reduceCtorEq, Nat.reduceAdd, Nat.reduceLeDiff, Nat.reduceMul, Nat.reduceLT, Int.reduceToNat, Int.reduceLT, Int.reduceLE, Int.reduceEq, Nat.reduceSub, hR]
theorem meaning_Find_ev (l : List Coef) (s : Str) : E.C meaning_Find [.one (.lst (l.map Coef.cells)), .one (.str s)] (res2 (findC s l)) := by
  refine Z.meaning_Find _ _ ⟨Nat.le_of_ble_eq_true rfl, ?_⟩
  generalize hR : findC s l = R
  unfold res2
  simp only [fn_meaning_Find, go_sem, Nat.reduceEqDiff, reduceCtorEq, Nat.reduceAdd, Nat.reduceLeDiff, Nat.reduceMul, Nat.reduceLT, Int.reduceToNat, Int.reduceLT, Int.reduceLE, Int.reduceEq, Nat.reduceSub]
  intro hlen
  refine loop_list l (fun done => ∀ y ∈ done, (y.name == s) = false) (fun done rest => ⟨[(10, .d (.int .i64 done.length)), (9, .d (.int .i64 l.length)), (8, .d (.lst (l.map Coef.cells))), (1, .d (.str s))], [], []⟩) ?_ (by simp) ?_ ?_
  · exact Ent_plain (by simp only [go_sem, Nat.reduceEqDiff, reduceCtorEq, Nat.reduceAdd, Nat.reduceLeDiff, Nat.reduceMul, Nat.reduceLT, Int.reduceToNat, Int.reduceLT, Int.reduceLE, Int.reduceEq, Nat.reduceSub])
  · intro done x r hl hI
    have hlt := lt_mid hl
    have hw : IntKind.i64.wrap ((done.length : Int) + 1) = ((done.length + 1 : Nat) : Int) := wrap_succ (by omega)
    rw [hl, findC_mid hI] at hR
    simp only [fn_meaning_Find_L1, go_sem, Nat.reduceEqDiff, reduceCtorEq, Nat.reduceAdd, Nat.reduceLeDiff, Nat.reduceMul, Nat.reduceLT, Int.reduceToNat, Int.reduceLT, Int.reduceLE, Int.reduceEq, Nat.reduceSub, getD_at hl, hlt, Coef.cells]
    cases h1 : (x.name == s) with
    | true => simp only [h1, go_sem, Nat.reduceEqDiff, reduceCtorEq, Nat.reduceAdd, Nat.reduceLeDiff, Nat.reduceMul, Nat.reduceLT, Int.reduceToNat, Int.reduceLT, Int.reduceLE, Int.reduceEq, Nat.reduceSub] at hR ⊢; simp only [← hR, and_self]
    | false =>
      simp only [go_sem, Nat.reduceEqDiff, reduceCtorEq, Nat.reduceAdd, Nat.reduceLeDiff, Nat.reduceMul, Nat.reduceLT, Int.reduceToNat, Int.reduceLT, Int.reduceLE, Int.reduceEq, Nat.reduceSub, hw, List.length_append]
      exact ⟨Ent_plain (by simp only [go_sem, Nat.reduceEqDiff, reduceCtorEq, Nat.reduceAdd, Nat.reduceLeDiff, Nat.reduceMul, Nat.reduceLT, Int.reduceToNat, Int.reduceLT, Int.reduceLE, Int.reduceEq, Nat.reduceSub]), app_all hI h1⟩
  · intro hI
    rw [findC_all hI] at hR
    simp only [fn_meaning_Find_L1, go_sem, Nat.reduceEqDiff, reduceCtorEq, Nat.reduceAdd, Nat.reduceLeDiff, Nat.reduceMul, Nat.reduceLT, Int.reduceToNat, Int.reduceLT, Int.reduceLE, Int.reduceEq, Nat.reduceSub, ← hR]
theorem r10_Find_ev (l : List Coef) (s : Str) : E.C r10_Find [.one (.lst (l.map Coef.cells)), .one (.str s)] (res2 (findC s l)) := by
  refine Z.r10_Find _ _ ⟨Nat.le_of_ble_eq_true rfl, ?_⟩
  generalize hR : findC s l = R
  unfold res2
  simp only [fn_r10_Find, go_sem, Nat.reduceEqDiff, reduceCtorEq, Nat.reduceAdd, Nat.reduceLeDiff, Nat.reduceMul, Nat.reduceLT, Int.reduceToNat, Int.reduceLT, Int.reduceLE, Int.reduceEq, Nat.reduceSub]
  intro hlen
  refine loop_list l (fun done => ∀ y ∈ done, (y.name == s) = false) (fun done rest => ⟨[(10, .d (.int .i64 done.length)), (9, .d (.int .i64 l.length)), (8, .d (.lst (l.map Coef.cells))), (1, .d (.str s))], [], []⟩) ?_ (by simp) ?_ ?_
  · exact Ent_plain (by simp only [go_sem, Nat.reduceEqDiff, reduceCtorEq, Nat.reduceAdd, Nat.reduceLeDiff, Nat.reduceMul, Nat.reduceLT, Int.reduceToNat, Int.reduceLT, Int.reduceLE, Int.reduceEq, Nat.reduceSub])
  · intro done x r hl hI
    have hlt := lt_mid hl
    have hw : IntKind.i64.wrap ((done.length : Int) + 1) = ((done.length + 1 : Nat) : Int) := wrap_succ (by omega)
    rw [hl, findC_mid hI] at hR
    simp only [fn_r10_Find_L1, go_sem, Nat.reduceEqDiff, reduceCtorEq, Nat.reduceAdd, Nat.reduceLeDiff, Nat.reduceMul, Nat.reduceLT, Int.reduceToNat, Int.reduceLT, Int.reduceLE, Int.reduceEq, Nat.reduceSub, getD_at hl, hlt, Coef.cells]
    cases h1 : (x.name == s) with
    | true => simp only [h1, go_sem, Nat.reduceEqDiff, reduceCtorEq, Nat.reduceAdd, Nat.reduceLeDiff, Nat.reduceMul, Nat.reduceLT, Int.reduceToNat, Int.reduceLT, Int.reduceLE, Int.reduceEq, Nat.reduceSub] at hR ⊢; simp only [← hR, and_self]
    | false =>
      simp only [go_sem, Nat.reduceEqDiff, reduceCtorEq, Nat.reduceAdd, Nat.reduceLeDiff, Nat.reduceMul, Nat.reduceLT, Int.reduceToNat, Int.reduceLT, Int.reduceLE, Int.reduceEq, Nat.reduceSub, hw, List.length_append]
      exact ⟨Ent_plain (by simp only [go_sem, Nat.reduceEqDiff, reduceCtorEq, Nat.reduceAdd, Nat.reduceLeDiff, Nat.reduceMul, Nat.reduceLT, Int.reduceToNat, Int.reduceLT, Int.reduceLE, Int.reduceEq, Nat.reduceSub]), app_all hI h1⟩
  · intro hI
    rw [findC_all hI] at hR
    simp only [fn_r10_Find_L1, go_sem, Nat.reduceEqDiff, reduceCtorEq, Nat.reduceAdd, Nat.reduceLeDiff, Nat.reduceMul, Nat.reduceLT, Int.reduceToNat, Int.reduceLT, Int.reduceLE, Int.reduceEq, Nat.reduceSub, ← hR]
theorem meaning_fact_ev (at' : List Coef) (l : List Fact) (s : Str) (args : List Int) : E.C meaning_evaluator_fact [.agg [.lst (at'.map Coef.cells), .lst (l.map Fact.cells)], .one (.str s), .one (.lst (args.map icell))] (res2 (factP (findF s args l))) := by
  have he := fun a => slices_Equal_int_ev Z a args
  refine Z.meaning_evaluator_fact _ _ ⟨Nat.le_of_ble_eq_true rfl, ?_⟩
  generalize hR : factP (findF s args l) = R
  unfold res2
  simp only [fn_meaning_evaluator_fact, go_sem, Nat.reduceEqDiff, reduceCtorEq, Nat.reduceAdd, Nat.reduceLeDiff, Nat.reduceMul, Nat.reduceLT, Int.reduceToNat, Int.reduceLT, Int.reduceLE, Int.reduceEq, Nat.reduceSub]
  intro hlen
  refine loop_list l (fun done => ∀ y ∈ done, (y.name == s && y.args == args) = false) (fun done rest => ⟨[(13, .d (.int .i64 done.length)), (12, .d (.int .i64 l.length)), (11, .d (.lst (l.map Fact.cells))), (1, .d (.str s)), (2, .d (.lst (args.map icell)))], [], []⟩) ?_ (by simp) ?_ ?_
  · exact Ent_plain (by simp only [go_sem, Nat.reduceEqDiff, reduceCtorEq, Nat.reduceAdd, Nat.reduceLeDiff, Nat.reduceMul, Nat.reduceLT, Int.reduceToNat, Int.reduceLT, Int.reduceLE, Int.reduceEq, Nat.reduceSub])
  · intro done x r hl hI
    have hlt := lt_mid hl
    have hw : IntKind.i64.wrap ((done.length : Int) + 1) = ((done.length + 1 : Nat) : Int) := wrap_succ (by omega)
    rw [hl, findF_mid hI] at hR
    simp only [fn_meaning_evaluator_fact_L1, go_sem, Nat.reduceEqDiff, reduceCtorEq, Nat.reduceAdd, Nat.reduceLeDiff, Nat.reduceMul, Nat.reduceLT, Int.reduceToNat, Int.reduceLT, Int.reduceLE, Int.reduceEq, Nat.reduceSub, getD_at hl, hlt, Fact.cells]
    refine call_g (he x.args) ?_
    simp only [go_sem, Nat.reduceEqDiff, reduceCtorEq, Nat.reduceAdd, Nat.reduceLeDiff, Nat.reduceMul, Nat.reduceLT, Int.reduceToNat, Int.reduceLT, Int.reduceLE, Int.reduceEq, Nat.reduceSub]
    cases h1 : (x.name == s && x.args == args) with
    | true =>
      simp only [h1, go_sem, Nat.reduceEqDiff, reduceCtorEq, Nat.reduceAdd, Nat.reduceLeDiff, Nat.reduceMul, Nat.reduceLT, Int.reduceToNat, Int.reduceLT, Int.reduceLE, Int.reduceEq, Nat.reduceSub, factP] at hR ⊢
      refine call_by (num_In_ev Z x.res) ?_
      simp only [go_sem, Nat.reduceEqDiff, reduceCtorEq, Nat.reduceAdd, Nat.reduceLeDiff, Nat.reduceMul, Nat.reduceLT, Int.reduceToNat, Int.reduceLT, Int.reduceLE, Int.reduceEq, Nat.reduceSub, ← hR, and_self]
    | false =>
      simp only [go_sem, Nat.reduceEqDiff, reduceCtorEq, Nat.reduceAdd, Nat.reduceLeDiff, Nat.reduceMul, Nat.reduceLT, Int.reduceToNat, Int.reduceLT, Int.reduceLE, Int.reduceEq, Nat.reduceSub, hw, List.length_append]
      exact ⟨Ent_plain (by simp only [go_sem, Nat.reduceEqDiff, reduceCtorEq, Nat.reduceAdd, Nat.reduceLeDiff, Nat.reduceMul, Nat.reduceLT, Int.reduceToNat, Int.reduceLT, Int.reduceLE, Int.reduceEq, Nat.reduceSub]), app_all hI h1⟩
  · intro hI
    rw [findF_all hI] at hR
    simp only [fn_meaning_evaluator_fact_L1, go_sem, Nat.reduceEqDiff, reduceCtorEq, Nat.reduceAdd, Nat.reduceLeDiff, Nat.reduceMul, Nat.reduceLT, Int.reduceToNat, Int.reduceLT, Int.reduceLE, Int.reduceEq, Nat.reduceSub, ← hR, factP]
theorem r10_bounded_ev (n : Int) (ok : Bool) : E.C r10_bounded [.one (.int .i64 n), .one (.bool ok)] (res2 (if ok then bnd n else (0, false))) := by
  refine Z.r10_bounded _ _ ⟨Nat.le_of_ble_eq_true rfl, ?_⟩
  unfold res2 bnd
  simp only [fn_r10_bounded, go_sem, Nat.reduceEqDiff, reduceCtorEq, Nat.reduceAdd, Nat.reduceLeDiff, Nat.reduceMul, Nat.reduceLT, Int.reduceToNat, Int.reduceLT, Int.reduceLE, Int.reduceEq, Nat.reduceSub]
  refine call_gi (fun _ => r01_In_ev Z n) ?_
  cases ok <;> cases h : inRange n <;> simp only [h, go_sem, Nat.reduceEqDiff, reduceCtorEq, Nat.reduceAdd, Nat.reduceLeDiff, Nat.reduceMul, Nat.reduceLT, Int.reduceToNat, Int.reduceLT, Int.reduceLE, Int.reduceEq, Nat.reduceSub]
theorem r10_fact_ev (l : List Fact) (s : Str) (args : List Int) : E.C r10_fact [.one (.str s), .one (.lst (args.map icell)), .one (.lst (l.map Fact.cells))] (res2 (factR (findF s args l))) := by
  have he := fun a => r10_same_ev Z a args
  refine Z.r10_fact _ _ ⟨Nat.le_of_ble_eq_true rfl, ?_⟩
  generalize hR : factR (findF s args l) = R
  have hb := fun n => r10_bounded_ev Z n true
  unfold res2 at *
  simp only [fn_r10_fact, go_sem, Nat.reduceEqDiff, reduceCtorEq, Nat.reduceAdd, Nat.reduceLeDiff, Nat.reduceMul, Nat.reduceLT, Int.reduceToNat, Int.reduceLT, Int.reduceLE, Int.reduceEq, Nat.reduceSub] at hb ⊢
  intro hlen
  refine loop_list l (fun done => ∀ y ∈ done, (y.name == s && y.args == args) = false) (fun done rest => ⟨[(12, .d (.int .i64 done.length)), (11, .d (.int .i64 l.length)), (10, .d (.lst (l.map Fact.cells))), (0, .d (.str s)), (1, .d (.lst (args.map icell)))], [], []⟩) ?_ (by simp) ?_ ?_
  · exact Ent_plain (by simp only [go_sem, Nat.reduceEqDiff, reduceCtorEq, Nat.reduceAdd, Nat.reduceLeDiff, Nat.reduceMul, Nat.reduceLT, Int.reduceToNat, Int.reduceLT, Int.reduceLE, Int.reduceEq, Nat.reduceSub])
  · intro done x r hl hI
    have hlt := lt_mid hl
    have hw : IntKind.i64.wrap ((done.length : Int) + 1) = ((done.length + 1 : Nat) : Int) := wrap_succ (by omega)
    rw [hl, findF_mid hI] at hR
    simp only [fn_r10_fact_L1, go_sem, Nat.reduceEqDiff, reduceCtorEq, Nat.reduceAdd, Nat.reduceLeDiff, Nat.reduceMul, Nat.reduceLT, Int.reduceToNat, Int.reduceLT, Int.reduceLE, Int.reduceEq, Nat.reduceSub, getD_at hl, hlt, Fact.cells]
    refine call_g (he x.args) ?_
    simp only [go_sem, Nat.reduceEqDiff, reduceCtorEq, Nat.reduceAdd, Nat.reduceLeDiff, Nat.reduceMul, Nat.reduceLT, Int.reduceToNat, Int.reduceLT, Int.reduceLE, Int.reduceEq, Nat.reduceSub]
    cases h1 : (x.name == s && x.args == args) with
    | true =>
      simp only [h1, go_sem, Nat.reduceEqDiff, reduceCtorEq, Nat.reduceAdd, Nat.reduceLeDiff, Nat.reduceMul, Nat.reduceLT, Int.reduceToNat, Int.reduceLT, Int.reduceLE, Int.reduceEq, Nat.reduceSub, factR] at hR ⊢
      refine call_by (hb x.res) ?_
      simp only [go_sem, Nat.reduceEqDiff, reduceCtorEq, Nat.reduceAdd, Nat.reduceLeDiff, Nat.reduceMul, Nat.reduceLT, Int.reduceToNat, Int.reduceLT, Int.reduceLE, Int.reduceEq, Nat.reduceSub, ← hR, and_self]
    | false =>
      simp only [go_sem, Nat.reduceEqDiff, reduceCtorEq, Nat.reduceAdd, Nat.reduceLeDiff, Nat.reduceMul, Nat.reduceLT, Int.reduceToNat, Int.reduceLT, Int.reduceLE, Int.reduceEq, Nat.reduceSub, hw, List.length_append]
      exact ⟨Ent_plain (by simp only [go_sem, Nat.reduceEqDiff, reduceCtorEq, Nat.reduceAdd, Nat.reduceLeDiff, Nat.reduceMul, Nat.reduceLT, Int.reduceToNat, Int.reduceLT, Int.reduceLE, Int.reduceEq, Nat.reduceSub]), app_all hI h1⟩
  · intro hI
    rw [findF_all hI] at hR
    simp only [fn_r10_fact_L1, go_sem, Nat.reduceEqDiff, reduceCtorEq, Nat.reduceAdd, Nat.reduceLeDiff, Nat.reduceMul, Nat.reduceLT, Int.reduceToNat, Int.reduceLT, Int.reduceLE, Int.reduceEq, Nat.reduceSub, ← hR, factR]
theorem meaning_truth_ev (b : Bool) : E.C meaning_truth [.one (.bool b)] (.one (.int .i64 (tru b))) := by
  refine Z.meaning_truth _ _ ⟨Nat.le_of_ble_eq_true rfl, ?_⟩
  cases b <;> simp only [fn_meaning_truth, go_sem, Nat.reduceEqDiff, reduceCtorEq, Nat.reduceAdd, Nat.reduceLeDiff, Nat.reduceMul, Nat.reduceLT, Int.reduceToNat, Int.reduceLT, Int.reduceLE, Int.reduceEq, Nat.reduceSub, tru]
theorem r10_truth_ev (b : Bool) : E.C r10_truth [.one (.bool b)] (res2 (tru b, true)) := by
  refine Z.r10_truth _ _ ⟨Nat.le_of_ble_eq_true rfl, ?_⟩
  cases b <;> simp only [fn_r10_truth, go_sem, Nat.reduceEqDiff, reduceCtorEq, Nat.reduceAdd, Nat.reduceLeDiff, Nat.reduceMul, Nat.reduceLT, Int.reduceToNat, Int.reduceLT, Int.reduceLE, Int.reduceEq, Nat.reduceSub, tru, res2]
theorem meaning_operation_ev (o a b : Int) : E.C meaning_operation [.one (.int .i64 o), .one (.int .i64 a), .one (.int .i64 b)] (res2 (opI o a b)) := by
  have h1 := num_Add_ev Z a b
  have h2 := num_Sub_ev Z a b
  have h3 := num_Mul_ev Z a b
  have ht := meaning_truth_ev Z
  refine Z.meaning_operation _ _ ⟨Nat.le_of_ble_eq_true rfl, ?_⟩
  unfold res2 at *
  generalize hR : opI o a b = R
  unfold opI at hR
  cases c6 : (o == 6) with
  | true => simp only [fn_meaning_operation, ↓reduceIte, go_sem, Nat.reduceEqDiff, reduceCtorEq, Nat.reduceAdd, Nat.reduceLeDiff, Nat.reduceMul, Nat.reduceLT, Int.reduceToNat, Int.reduceLT, Int.reduceLE, Int.reduceEq, Nat.reduceSub, c6] at hR ⊢; refine call_by h1 ?_; simp only [go_sem, Nat.reduceEqDiff, reduceCtorEq, Nat.reduceAdd, Nat.reduceLeDiff, Nat.reduceMul, Nat.reduceLT, Int.reduceToNat, Int.reduceLT, Int.reduceLE, Int.reduceEq, Nat.reduceSub, hR]
  | false =>
  cases c7 : (o == 7) with
  | true => simp only [fn_meaning_operation, ↓reduceIte, go_sem, Nat.reduceEqDiff, reduceCtorEq, Nat.reduceAdd, Nat.reduceLeDiff, Nat.reduceMul, Nat.reduceLT, Int.reduceToNat, Int.reduceLT, Int.reduceLE, Int.reduceEq, Nat.reduceSub, c6, c7] at hR ⊢; refine call_by h2 ?_; simp only [go_sem, Nat.reduceEqDiff, reduceCtorEq, Nat.reduceAdd, Nat.reduceLeDiff, Nat.reduceMul, Nat.reduceLT, Int.reduceToNat, Int.reduceLT, Int.reduceLE, Int.reduceEq, Nat.reduceSub, hR]
  | false =>
  cases c8 : (o == 8) with
  | true => simp only [fn_meaning_operation, ↓reduceIte, go_sem, Nat.reduceEqDiff, reduceCtorEq, Nat.reduceAdd, Nat.reduceLeDiff, Nat.reduceMul, Nat.reduceLT, Int.reduceToNat, Int.reduceLT, Int.reduceLE, Int.reduceEq, Nat.reduceSub, c6, c7, c8] at hR ⊢; refine call_by h3 ?_; simp only [go_sem, Nat.reduceEqDiff, reduceCtorEq, Nat.reduceAdd, Nat.reduceLeDiff, Nat.reduceMul, Nat.reduceLT, Int.reduceToNat, Int.reduceLT, Int.reduceLE, Int.reduceEq, Nat.reduceSub, hR]
  | false =>
  cases c10 : (o == 10) with
  | true => simp only [fn_meaning_operation, ↓reduceIte, go_sem, Nat.reduceEqDiff, reduceCtorEq, Nat.reduceAdd, Nat.reduceLeDiff, Nat.reduceMul, Nat.reduceLT, Int.reduceToNat, Int.reduceLT, Int.reduceLE, Int.reduceEq, Nat.reduceSub, c6, c7, c8, c10] at hR ⊢; refine call_by (ht _) ?_; simp only [go_sem, Nat.reduceEqDiff, reduceCtorEq, Nat.reduceAdd, Nat.reduceLeDiff, Nat.reduceMul, Nat.reduceLT, Int.reduceToNat, Int.reduceLT, Int.reduceLE, Int.reduceEq, Nat.reduceSub, ← hR]
  | false =>
  cases c11 : (o == 11) with
  | true => simp only [fn_meaning_operation, ↓reduceIte, go_sem, Nat.reduceEqDiff, reduceCtorEq, Nat.reduceAdd, Nat.reduceLeDiff, Nat.reduceMul, Nat.reduceLT, Int.reduceToNat, Int.reduceLT, Int.reduceLE, Int.reduceEq, Nat.reduceSub, c6, c7, c8, c10, c11] at hR ⊢; refine call_by (ht _) ?_; simp only [go_sem, Nat.reduceEqDiff, reduceCtorEq, Nat.reduceAdd, Nat.reduceLeDiff, Nat.reduceMul, Nat.reduceLT, Int.reduceToNat, Int.reduceLT, Int.reduceLE, Int.reduceEq, Nat.reduceSub, ← hR]
  | false =>
  cases c12 : (o == 12) with
  | true => simp only [fn_meaning_operation, ↓reduceIte, go_sem, Nat.reduceEqDiff, reduceCtorEq, Nat.reduceAdd, Nat.reduceLeDiff, Nat.reduceMul, Nat.reduceLT, Int.reduceToNat, Int.reduceLT, Int.reduceLE, Int.reduceEq, Nat.reduceSub, c6, c7, c8, c10, c11, c12] at hR ⊢; refine call_by (ht _) ?_; simp only [go_sem, Nat.reduceEqDiff, reduceCtorEq, Nat.reduceAdd, Nat.reduceLeDiff, Nat.reduceMul, Nat.reduceLT, Int.reduceToNat, Int.reduceLT, Int.reduceLE, Int.reduceEq, Nat.reduceSub, ← hR]
  | false =>
  cases c13 : (o == 13) with
  | true => simp only [fn_meaning_operation, ↓reduceIte, go_sem, Nat.reduceEqDiff, reduceCtorEq, Nat.reduceAdd, Nat.reduceLeDiff, Nat.reduceMul, Nat.reduceLT, Int.reduceToNat, Int.reduceLT, Int.reduceLE, Int.reduceEq, Nat.reduceSub, c6, c7, c8, c10, c11, c12, c13] at hR ⊢; refine call_by (ht _) ?_; simp only [go_sem, Nat.reduceEqDiff, reduceCtorEq, Nat.reduceAdd, Nat.reduceLeDiff, Nat.reduceMul, Nat.reduceLT, Int.reduceToNat, Int.reduceLT, Int.reduceLE, Int.reduceEq, Nat.reduceSub, ← hR]
  | false =>
  cases c15 : (o == 15) with
  | true => simp only [fn_meaning_operation, ↓reduceIte, go_sem, Nat.reduceEqDiff, reduceCtorEq, Nat.reduceAdd, Nat.reduceLeDiff, Nat.reduceMul, Nat.reduceLT, Int.reduceToNat, Int.reduceLT, Int.reduceLE, Int.reduceEq, Nat.reduceSub, c6, c7, c8, c10, c11, c12, c13, c15] at hR ⊢; refine call_by (ht _) ?_; simp only [go_sem, Nat.reduceEqDiff, reduceCtorEq, Nat.reduceAdd, Nat.reduceLeDiff, Nat.reduceMul, Nat.reduceLT, Int.reduceToNat, Int.reduceLT, Int.reduceLE, Int.reduceEq, Nat.reduceSub, ← hR]
  | false =>
  cases c16 : (o == 16) with
  | true => simp only [fn_meaning_operation, ↓reduceIte, go_sem, Nat.reduceEqDiff, reduceCtorEq, Nat.reduceAdd, Nat.reduceLeDiff, Nat.reduceMul, Nat.reduceLT, Int.reduceToNat, Int.reduceLT, Int.reduceLE, Int.reduceEq, Nat.reduceSub, c6, c7, c8, c10, c11, c12, c13, c15, c16] at hR ⊢; refine call_by (ht _) ?_; simp only [go_sem, Nat.reduceEqDiff, reduceCtorEq, Nat.reduceAdd, Nat.reduceLeDiff, Nat.reduceMul, Nat.reduceLT, Int.reduceToNat, Int.reduceLT, Int.reduceLE, Int.reduceEq, Nat.reduceSub, ← hR]
  | false =>
  cases c17 : (o == 17) with
  | true => simp only [fn_meaning_operation, ↓reduceIte, go_sem, Nat.reduceEqDiff, reduceCtorEq, Nat.reduceAdd, Nat.reduceLeDiff, Nat.reduceMul, Nat.reduceLT, Int.reduceToNat, Int.reduceLT, Int.reduceLE, Int.reduceEq, Nat.reduceSub, c6, c7, c8, c10, c11, c12, c13, c15, c16, c17] at hR ⊢; refine call_by (ht _) ?_; simp only [go_sem, Nat.reduceEqDiff, reduceCtorEq, Nat.reduceAdd, Nat.reduceLeDiff, Nat.reduceMul, Nat.reduceLT, Int.reduceToNat, Int.reduceLT, Int.reduceLE, Int.reduceEq, Nat.reduceSub, ← hR]
  | false =>
  cases c18 : (o == 18) with
  | true => simp only [fn_meaning_operation, ↓reduceIte, go_sem, Nat.reduceEqDiff, reduceCtorEq, Nat.reduceAdd, Nat.reduceLeDiff, Nat.reduceMul, Nat.reduceLT, Int.reduceToNat, Int.reduceLT, Int.reduceLE, Int.reduceEq, Nat.reduceSub, c6, c7, c8, c10, c11, c12, c13, c15, c16, c17, c18] at hR ⊢; refine call_by (ht _) ?_; simp only [go_sem, Nat.reduceEqDiff, reduceCtorEq, Nat.reduceAdd, Nat.reduceLeDiff, Nat.reduceMul, Nat.reduceLT, Int.reduceToNat, Int.reduceLT, Int.reduceLE, Int.reduceEq, Nat.reduceSub, ← hR]
  | false => simp only [fn_meaning_operation, ↓reduceIte, go_sem, Nat.reduceEqDiff, reduceCtorEq, Nat.reduceAdd, Nat.reduceLeDiff, Nat.reduceMul, Nat.reduceLT, Int.reduceToNat, Int.reduceLT, Int.reduceLE, Int.reduceEq, Nat.reduceSub, c6, c7, c8, c10, c11, c12, c13, c15, c16, c17, c18] at hR ⊢; simp only [go_sem, Nat.reduceEqDiff, reduceCtorEq, Nat.reduceAdd, Nat.reduceLeDiff, Nat.reduceMul, Nat.reduceLT, Int.reduceToNat, Int.reduceLT, Int.reduceLE, Int.reduceEq, Nat.reduceSub, ← hR]
theorem r10_compute_ev (o a b : Int) : E.C r10_compute [.one (.int .i64 o), .one (.int .i64 a), .one (.int .i64 b)] (res2 (compI o a b)) := by
  have h1 := r01_Add_ev Z a b
  have h2 := r01_Sub_ev Z a b
  have h3 := r01_Mul_ev Z a b
  have h4 := r01_Sub_ev Z 0 a
  have ht := r10_truth_ev Z
  refine Z.r10_compute _ _ ⟨Nat.le_of_ble_eq_true rfl, ?_⟩
  unfold res2 at *
  generalize hR : compI o a b = R
  unfold compI at hR
  cases c6 : (o == 6) with
  | true => simp only [fn_r10_compute, ↓reduceIte, go_sem, Nat.reduceEqDiff, reduceCtorEq, Nat.reduceAdd, Nat.reduceLeDiff, Nat.reduceMul, Nat.reduceLT, Int.reduceToNat, Int.reduceLT, Int.reduceLE, Int.reduceEq, Nat.reduceSub, c6] at hR ⊢; refine call_by h1 ?_; simp only [go_sem, Nat.reduceEqDiff, reduceCtorEq, Nat.reduceAdd, Nat.reduceLeDiff, Nat.reduceMul, Nat.reduceLT, Int.reduceToNat, Int.reduceLT, Int.reduceLE, Int.reduceEq, Nat.reduceSub, hR]
  | false =>
  cases c7 : (o == 7) with
  | true => simp only [fn_r10_compute, ↓reduceIte, go_sem, Nat.reduceEqDiff, reduceCtorEq, Nat.reduceAdd, Nat.reduceLeDiff, Nat.reduceMul, Nat.reduceLT, Int.reduceToNat, Int.reduceLT, Int.reduceLE, Int.reduceEq, Nat.reduceSub, c6, c7] at hR ⊢; refine call_by h2 ?_; simp only [go_sem, Nat.reduceEqDiff, reduceCtorEq, Nat.reduceAdd, Nat.reduceLeDiff, Nat.reduceMul, Nat.reduceLT, Int.reduceToNat, Int.reduceLT, Int.reduceLE, Int.reduceEq, Nat.reduceSub, hR]
  | false =>
  cases c8 : (o == 8) with
  | true => simp only [fn_r10_compute, ↓reduceIte, go_sem, Nat.reduceEqDiff, reduceCtorEq, Nat.reduceAdd, Nat.reduceLeDiff, Nat.reduceMul, Nat.reduceLT, Int.reduceToNat, Int.reduceLT, Int.reduceLE, Int.reduceEq, Nat.reduceSub, c6, c7, c8] at hR ⊢; refine call_by h3 ?_; simp only [go_sem, Nat.reduceEqDiff, reduceCtorEq, Nat.reduceAdd, Nat.reduceLeDiff, Nat.reduceMul, Nat.reduceLT, Int.reduceToNat, Int.reduceLT, Int.reduceLE, Int.reduceEq, Nat.reduceSub, hR]
  | false =>
  cases c9 : (o == 9) with
  | true => simp only [fn_r10_compute, ↓reduceIte, go_sem, Nat.reduceEqDiff, reduceCtorEq, Nat.reduceAdd, Nat.reduceLeDiff, Nat.reduceMul, Nat.reduceLT, Int.reduceToNat, Int.reduceLT, Int.reduceLE, Int.reduceEq, Nat.reduceSub, c6, c7, c8, c9] at hR ⊢; refine call_by h4 ?_; simp only [go_sem, Nat.reduceEqDiff, reduceCtorEq, Nat.reduceAdd, Nat.reduceLeDiff, Nat.reduceMul, Nat.reduceLT, Int.reduceToNat, Int.reduceLT, Int.reduceLE, Int.reduceEq, Nat.reduceSub, hR]
  | false =>
  cases c10 : (o == 10) with
  | true => simp only [fn_r10_compute, ↓reduceIte, go_sem, Nat.reduceEqDiff, reduceCtorEq, Nat.reduceAdd, Nat.reduceLeDiff, Nat.reduceMul, Nat.reduceLT, Int.reduceToNat, Int.reduceLT, Int.reduceLE, Int.reduceEq, Nat.reduceSub, c6, c7, c8, c9, c10] at hR ⊢; refine call_by (ht _) ?_; simp only [go_sem, Nat.reduceEqDiff, reduceCtorEq, Nat.reduceAdd, Nat.reduceLeDiff, Nat.reduceMul, Nat.reduceLT, Int.reduceToNat, Int.reduceLT, Int.reduceLE, Int.reduceEq, Nat.reduceSub, ← hR]
  | false =>
  cases c11 : (o == 11) with
  | true => simp only [fn_r10_compute, ↓reduceIte, go_sem, Nat.reduceEqDiff, reduceCtorEq, Nat.reduceAdd, Nat.reduceLeDiff, Nat.reduceMul, Nat.reduceLT, Int.reduceToNat, Int.reduceLT, Int.reduceLE, Int.reduceEq, Nat.reduceSub, c6, c7, c8, c9, c10, c11] at hR ⊢; refine call_by (ht _) ?_; simp only [go_sem, Nat.reduceEqDiff, reduceCtorEq, Nat.reduceAdd, Nat.reduceLeDiff, Nat.reduceMul, Nat.reduceLT, Int.reduceToNat, Int.reduceLT, Int.reduceLE, Int.reduceEq, Nat.reduceSub, ← hR]
  | false =>
  cases c12 : (o == 12) with
  | true => simp only [fn_r10_compute, ↓reduceIte, go_sem, Nat.reduceEqDiff, reduceCtorEq, Nat.reduceAdd, Nat.reduceLeDiff, Nat.reduceMul, Nat.reduceLT, Int.reduceToNat, Int.reduceLT, Int.reduceLE, Int.reduceEq, Nat.reduceSub, c6, c7, c8, c9, c10, c11, c12] at hR ⊢; refine call_by (ht _) ?_; simp only [go_sem, Nat.reduceEqDiff, reduceCtorEq, Nat.reduceAdd, Nat.reduceLeDiff, Nat.reduceMul, Nat.reduceLT, Int.reduceToNat, Int.reduceLT, Int.reduceLE, Int.reduceEq, Nat.reduceSub, ← hR]
  | false =>
  cases c13 : (o == 13) with
  | true => simp only [fn_r10_compute, ↓reduceIte, go_sem, Nat.reduceEqDiff, reduceCtorEq, Nat.reduceAdd, Nat.reduceLeDiff, Nat.reduceMul, Nat.reduceLT, Int.reduceToNat, Int.reduceLT, Int.reduceLE, Int.reduceEq, Nat.reduceSub, c6, c7, c8, c9, c10, c11, c12, c13] at hR ⊢; refine call_by (ht _) ?_; simp only [go_sem, Nat.reduceEqDiff, reduceCtorEq, Nat.reduceAdd, Nat.reduceLeDiff, Nat.reduceMul, Nat.reduceLT, Int.reduceToNat, Int.reduceLT, Int.reduceLE, Int.reduceEq, Nat.reduceSub, ← hR]
  | false =>
  cases c14 : (o == 14) with
  | true => simp only [fn_r10_compute, ↓reduceIte, go_sem, Nat.reduceEqDiff, reduceCtorEq, Nat.reduceAdd, Nat.reduceLeDiff, Nat.reduceMul, Nat.reduceLT, Int.reduceToNat, Int.reduceLT, Int.reduceLE, Int.reduceEq, Nat.reduceSub, c6, c7, c8, c9, c10, c11, c12, c13, c14] at hR ⊢; refine call_by (ht _) ?_; simp only [go_sem, Nat.reduceEqDiff, reduceCtorEq, Nat.reduceAdd, Nat.reduceLeDiff, Nat.reduceMul, Nat.reduceLT, Int.reduceToNat, Int.reduceLT, Int.reduceLE, Int.reduceEq, Nat.reduceSub, ← hR]
  | false =>
  cases c15 : (o == 15) with
  | true => simp only [fn_r10_compute, ↓reduceIte, go_sem, Nat.reduceEqDiff, reduceCtorEq, Nat.reduceAdd, Nat.reduceLeDiff, Nat.reduceMul, Nat.reduceLT, Int.reduceToNat, Int.reduceLT, Int.reduceLE, Int.reduceEq, Nat.reduceSub, c6, c7, c8, c9, c10, c11, c12, c13, c14, c15] at hR ⊢; refine call_by (ht _) ?_; simp only [go_sem, Nat.reduceEqDiff, reduceCtorEq, Nat.reduceAdd, Nat.reduceLeDiff, Nat.reduceMul, Nat.reduceLT, Int.reduceToNat, Int.reduceLT, Int.reduceLE, Int.reduceEq, Nat.reduceSub, ← hR]
  | false =>
  cases c16 : (o == 16) with
  | true => simp only [fn_r10_compute, ↓reduceIte, go_sem, Nat.reduceEqDiff, reduceCtorEq, Nat.reduceAdd, Nat.reduceLeDiff, Nat.reduceMul, Nat.reduceLT, Int.reduceToNat, Int.reduceLT, Int.reduceLE, Int.reduceEq, Nat.reduceSub, c6, c7, c8, c9, c10, c11, c12, c13, c14, c15, c16] at hR ⊢; refine call_by (ht _) ?_; simp only [go_sem, Nat.reduceEqDiff, reduceCtorEq, Nat.reduceAdd, Nat.reduceLeDiff, Nat.reduceMul, Nat.reduceLT, Int.reduceToNat, Int.reduceLT, Int.reduceLE, Int.reduceEq, Nat.reduceSub, ← hR]
  | false =>
  cases c17 : (o == 17) with
  | true => simp only [fn_r10_compute, ↓reduceIte, go_sem, Nat.reduceEqDiff, reduceCtorEq, Nat.reduceAdd, Nat.reduceLeDiff, Nat.reduceMul, Nat.reduceLT, Int.reduceToNat, Int.reduceLT, Int.reduceLE, Int.reduceEq, Nat.reduceSub, c6, c7, c8, c9, c10, c11, c12, c13, c14, c15, c16, c17] at hR ⊢; refine call_by (ht _) ?_; simp only [go_sem, Nat.reduceEqDiff, reduceCtorEq, Nat.reduceAdd, Nat.reduceLeDiff, Nat.reduceMul, Nat.reduceLT, Int.reduceToNat, Int.reduceLT, Int.reduceLE, Int.reduceEq, Nat.reduceSub, ← hR]
  | false => simp only [fn_r10_compute, ↓reduceIte, go_sem, Nat.reduceEqDiff, reduceCtorEq, Nat.reduceAdd, Nat.reduceLeDiff, Nat.reduceMul, Nat.reduceLT, Int.reduceToNat, Int.reduceLT, Int.reduceLE, Int.reduceEq, Nat.reduceSub, c6, c7, c8, c9, c10, c11, c12, c13, c14, c15, c16, c17] at hR ⊢; refine call_by (ht _) ?_; simp only [go_sem, Nat.reduceEqDiff, reduceCtorEq, Nat.reduceAdd, Nat.reduceLeDiff, Nat.reduceMul, Nat.reduceLT, Int.reduceToNat, Int.reduceLT, Int.reduceLE, Int.reduceEq, Nat.reduceSub, ← hR]
end Go.Abs
end
section
set_option linter.unusedSimpArgs false
set_option linter.unusedVariables false
set_option linter.unusedSectionVars false
namespace Go.Abs
/-! ## values -/
def topP (at' : List Coef) (fs : List Fact) (o : Int) (s : Str) (n : Int) (l : List Int) : Int × Bool :=
  if o == 1 || o == 2 then (n, true) else if o == 3 then ((findC s at').1, (findC s at').2 && inRange (findC s at').1) else if o == 4 then factP (findF s l fs) else if o == 5 then (0, false)
  else if o == 9 then subI 0 (l.getD 0 0) else if o == 14 then (tru (l.getD 0 0 == 0), true) else opI o (l.getD 0 0) (l.getD 1 0)
def topR (at' : List Coef) (fs : List Fact) (o : Int) (s : Str) (l : List Int) : Int × Bool :=
  if o == 4 then factR (findF s l fs) else compI o (l.getD 0 0) (l.getD (l.length - 1) 0)
def valP (at' : List Coef) (fs : List Fact) : Pred → Int × Bool
  | .mk o s n ks => if oks ks then topP at' fs o s n (ns ks) else (0, false)
where
  oks : List Pred → Bool
  | [] => true
  | k :: ks => (valP at' fs k).2 && oks ks
  ns : List Pred → List Int
  | [] => []
  | k :: ks => (valP at' fs k).1 :: ns ks
theorem valP_eq (at' : List Coef) (fs : List Fact) (o : Int) (s : Str) (n : Int) (ks : List Pred) : valP at' fs (.mk o s n ks) = if ks.all (fun k => (valP at' fs k).2) then topP at' fs o s n (ks.map fun k => (valP at' fs k).1) else (0, false) := by
  rw [valP]
  have h1 : valP.oks at' fs ks = ks.all (fun k => (valP at' fs k).2) := by
    induction ks with
    | nil => rfl
    | cons k ks ih => rw [valP.oks, ih]; rfl
  have h2 : valP.ns at' fs ks = ks.map fun k => (valP at' fs k).1 := by
    clear h1
    induction ks with
    | nil => rfl
    | cons k ks ih => rw [valP.ns, ih]; rfl
  rw [h1, h2]
/-- the value that the reference gives -/
def valR (at' : List Coef) (fs : List Fact) : Pred → Int × Bool
  | .mk o s n ks => if o == 1 || o == 2 then (n, true) else if o == 3 then (if (findC s at').2 then bnd (findC s at').1 else (0, false)) else if o == 5 then (0, false)
    else if oks ks then topR at' fs o s (ns ks) else (0, false)
where
  oks : List Pred → Bool
  | [] => true
  | k :: ks => (valR at' fs k).2 && oks ks
  ns : List Pred → List Int
  | [] => []
  | k :: ks => (valR at' fs k).1 :: ns ks
theorem valR_eq (at' : List Coef) (fs : List Fact) (o : Int) (s : Str) (n : Int) (ks : List Pred) : valR at' fs (.mk o s n ks) =
    if o == 1 || o == 2 then (n, true) else if o == 3 then (if (findC s at').2 then bnd (findC s at').1 else (0, false)) else if o == 5 then (0, false)
    else if ks.all (fun k => (valR at' fs k).2) then topR at' fs o s (ks.map fun k => (valR at' fs k).1) else (0, false) := by
  rw [valR]
  have h1 : valR.oks at' fs ks = ks.all (fun k => (valR at' fs k).2) := by
    induction ks with
    | nil => rfl
    | cons k ks ih => rw [valR.oks, ih]; rfl
  have h2 : valR.ns at' fs ks = ks.map fun k => (valR at' fs k).1 := by
    clear h1
    induction ks with
    | nil => rfl
    | cons k ks ih => rw [valR.ns, ih]; rfl
  rw [h1, h2]
def norm2 (r : Int × Bool) : Int × Bool := if r.2 then (r.1, true) else (0, false)
theorem norm2_snd (r : Int × Bool) : (norm2 r).2 = r.2 := by unfold norm2; cases h : r.2 <;> simp
theorem norm2_bnd (n : Int) : norm2 (bnd n) = bnd n := by unfold bnd; cases h : inRange n <;> rfl
theorem norm2_add (a b : Int) : norm2 (addI a b) = addI a b := by unfold addI; split; exact norm2_bnd _; rfl
theorem norm2_sub (a b : Int) : norm2 (subI a b) = subI a b := by unfold subI; split; exact norm2_bnd _; rfl
theorem norm2_mul (a b : Int) : norm2 (mulI a b) = mulI a b := by unfold mulI; split; exact norm2_bnd _; rfl
/-- no node is wrong -/
def Good : Pred → Prop := AllN fun q => Pred.err q = 0
theorem Good.kid {o : Int} {s : Str} {n : Int} {ks : List Pred} (h : Good (.mk o s n ks)) {k : Pred} (hk : k ∈ ks) : Good k := AllN.kid h hk
theorem Good.top {o : Int} {s : Str} {n : Int} {ks : List Pred} (h : Good (.mk o s n ks)) : (1 ≤ o ∧ o ≤ 18) ∧ kidsOk o ks.length = true ∧ (o ≠ 1 → o ≠ 2 → n = 0) ∧ (isOpNamed o = false → s = []) := by
  have h := AllN.top h
  change nodeE o s n ks = 0 at h
  unfold nodeE at h
  by_cases h1 : (decide (o < 1) || decide (o > 18) || !s == [] && !isOpNamed o || n != 0 && !(o == 1 || o == 2) || !kidsOk o ks.length) = true
  · rw [if_pos h1] at h; cases h
  · simp only [Bool.or_eq_true, not_or, decide_eq_true_eq, Bool.and_eq_true, Bool.not_eq_true', bne_iff_ne, ne_eq, Bool.or_eq_false_iff, beq_eq_false_iff_ne, not_and] at h1
    obtain ⟨⟨⟨⟨a1, a2⟩, a3⟩, a4⟩, a5⟩ := h1
    refine ⟨⟨by omega, by omega⟩, by simpa using a5, fun e1 e2 => ?_, fun e => ?_⟩
    · by_cases hn : n = 0
      · exact hn
      · exact absurd e2 (fun e2 => a4 hn e1 e2)
    · by_cases hs : s = []
      · exact hs
      · exact absurd e (a3 (by simpa using hs))
theorem good_of {p : Pred} (h : p.checkE = 0) : Good p := by
  have := formE_of_check h
  rw [Pred.formE_first] at this
  exact fun q hq => first_zero this q hq
theorem kids_leaf {o : Int} {ks : List Pred} (hk : kidsOk o ks.length = true) (h : (o == 1 || o == 2 || o == 3) = true) : ks = [] := by
  unfold kidsOk at hk
  rw [if_pos h] at hk
  simpa using hk
theorem kids_one {o : Int} {ks : List Pred} (hk : kidsOk o ks.length = true) (h : (o == 9 || o == 14) = true) : ∃ a, ks = [a] := by
  refine one_split ?_
  simp at h
  rcases h with rfl | rfl <;> simp [kidsOk] at hk <;> omega
theorem kids_two {o : Int} {ks : List Pred} (hk : kidsOk o ks.length = true) (h1 : o ≠ 1) (h2 : o ≠ 2) (h3 : o ≠ 3) (h4 : o ≠ 4) (h5 : o ≠ 5) (h9 : o ≠ 9) (h14 : o ≠ 14) : ∃ a b, ks = [a, b] := by
  refine pair_split ?_
  simp [kidsOk, h1, h2, h3, h4, h5, h9, h14] at hk
  omega
theorem kids_most {o : Int} {m : Nat} (hk : kidsOk o m = true) : m ≤ 24 := by
  unfold kidsOk at hk
  split at hk
  · simp at hk; omega
  · split at hk
    · simp at hk; omega
    · split at hk <;> (simp at hk; omega)
theorem val_norm (at' : List Coef) (fs : List Fact) (p : Pred) (hp : Good p) : norm2 (valP at' fs p) = valR at' fs p := by
  induction p using Pred.ind with
  | h o s n ks ih =>
  have hall : ks.all (fun k => (valP at' fs k).2) = ks.all (fun k => (valR at' fs k).2) := by
    have : ∀ l : List Pred, (∀ k ∈ l, k ∈ ks) → l.all (fun k => (valP at' fs k).2) = l.all (fun k => (valR at' fs k).2) := by
      intro l
      induction l with
      | nil => intro _; rfl
      | cons k l ih2 =>
        intro hl
        rw [List.all_cons, List.all_cons, ih2 (fun x hx => hl x (by simp [hx])), ← ih k (hl k (by simp)) (hp.kid (hl k (by simp))), norm2_snd]
    exact this ks fun _ h => h
  have hmap : ks.all (fun k => (valP at' fs k).2) = true → (ks.map fun k => (valP at' fs k).1) = ks.map fun k => (valR at' fs k).1 := by
    intro ha
    refine List.map_congr_left fun k hk => ?_
    have h1 := List.all_eq_true.1 ha k hk
    have h2 := ih k hk (hp.kid hk)
    unfold norm2 at h2
    rw [if_pos h1] at h2
    rw [← h2]
  obtain ⟨⟨o1, o2⟩, hk, _, _⟩ := hp.top
  rw [valP_eq, valR_eq, ← hall]
  by_cases c1 : (o == 1 || o == 2) = true
  · obtain rfl := kids_leaf hk (by rw [c1]; rfl)
    simp [topP, c1, norm2]
  by_cases c3 : (o == 3) = true
  · obtain rfl := kids_leaf hk (by rw [c3]; simp)
    simp only [List.all_nil, if_true, topP, c1, c3, Bool.false_eq_true, if_false, norm2, bnd]
    cases (findC s at').2 <;> cases inRange (findC s at').1 <;> simp
  rw [if_neg c1, if_neg c3]
  by_cases ha : ks.all (fun k => (valP at' fs k).2) = true
  case neg =>
    rw [if_neg ha, if_neg ha]
    split <;> rfl
  rw [if_pos ha, if_pos ha, hmap ha]
  unfold topP topR
  rw [if_neg c1, if_neg c3]
  simp only [beq_iff_eq, Bool.or_eq_true, not_or] at c1 c3
  by_cases c4 : o = 4
  · subst c4
    simp only [beq_self_eq_true, if_true]
    rw [if_neg (by decide)]
    unfold factP factR
    split
    · unfold norm2 bnd; rfl
    · rfl
  by_cases c5 : o = 5
  · subst c5; rfl
  have e4 : (o == 4) = false := by simpa using c4
  have e5 : (o == 5) = false := by simpa using c5
  simp only [e4, e5, Bool.false_eq_true, if_false]
  by_cases c9 : o = 9
  · subst c9
    obtain ⟨a, rfl⟩ := kids_one hk rfl
    simp [norm2_sub, compI]
  by_cases c14 : o = 14
  · subst c14
    obtain ⟨a, rfl⟩ := kids_one hk rfl
    simp [norm2, compI]
  rw [if_neg (show ¬ (o == 9) = true by simpa using c9), if_neg (show ¬ (o == 14) = true by simpa using c14)]
  obtain ⟨a, b, rfl⟩ := kids_two hk c1.1 c1.2 c3 c4 c5 c9 c14
  simp only [List.map_cons, List.map_nil, List.getD_cons_zero, List.length_cons, List.length_nil, List.getD_cons_succ]
  generalize (valR at' fs a).1 = x
  generalize (valR at' fs b).1 = y
  show norm2 (opI o x y) = compI o x y
  unfold opI compI
  have e9 : (o == 9) = false := by simpa using c9
  have e14 : (o == 14) = false := by simpa using c14
  have hor : o = 6 ∨ o = 7 ∨ o = 8 ∨ o = 10 ∨ o = 11 ∨ o = 12 ∨ o = 13 ∨ o = 15 ∨ o = 16 ∨ o = 17 ∨ o = 18 := by omega
  rcases hor with rfl | rfl | rfl | rfl | rfl | rfl | rfl | rfl | rfl | rfl | rfl
  · exact norm2_add _ _
  · exact norm2_sub _ _
  · exact norm2_mul _ _
  all_goals rfl
set_option maxRecDepth 100000
variable {E : AEnv} (Z : Sys E)
include Z
theorem meaning_value_ev (at' : List Coef) (fs : List Fact) (p : Pred) (hp : Good p) :
    E.C meaning_evaluator_value [.agg [.lst (at'.map Coef.cells), .lst (fs.map Fact.cells)], .agg p.cells] (res2 (valP at' fs p)) := by
  induction p using Pred.ind with
  | h o s n ks ih =>
  obtain ⟨⟨o1, o2⟩, hk, _, _⟩ := hp.top
  have hmost := kids_most hk
  have hfind := meaning_Find_ev Z at' s
  have hfact := meaning_fact_ev Z at' fs s (ks.map fun k => (valP at' fs k).1)
  have hin := num_In_ev Z (findC s at').1
  have hsub := fun a => num_Sub_ev Z 0 a
  have htr := meaning_truth_ev Z
  have hop := meaning_operation_ev Z o
  refine Z.meaning_evaluator_value _ _ ⟨Nat.le_of_ble_eq_true rfl, ?_⟩
  generalize hR : valP at' fs (.mk o s n ks) = R
  rw [valP_eq] at hR
  rw [Pred.cells_eq]
  unfold res2 at *
  have hrs : fn_meaning_evaluator_value.rs = [.t 4, .t 5] := rfl
  refine seq_named fun N0 h0 => ?_
  simp only [go_sem, Nat.reduceEqDiff, reduceCtorEq, Nat.reduceAdd, Nat.reduceLeDiff, Nat.reduceMul, Nat.reduceLT, Int.reduceToNat, Int.reduceLT, Int.reduceLE, Int.reduceEq, Nat.reduceSub, Pred.op, Pred.name, Pred.n, Pred.kids]
  rw [h0]
  refine seq_named fun N1 h1 => ?_
  simp only [go_sem, Nat.reduceEqDiff, reduceCtorEq, Nat.reduceAdd, Nat.reduceLeDiff, Nat.reduceMul, Nat.reduceLT, Int.reduceToNat, Int.reduceLT, Int.reduceLE, Int.reduceEq, Nat.reduceSub]
  rw [h1]
  refine seq_named fun N2 h2 => ?_
  simp only [go_sem, Nat.reduceEqDiff, reduceCtorEq, Nat.reduceAdd, Nat.reduceLeDiff, Nat.reduceMul, Nat.reduceLT, Int.reduceToNat, Int.reduceLT, Int.reduceLE, Int.reduceEq, Nat.reduceSub]
  intro hlen
  refine loop_named fun K' hK => ?_
  refine loop_list ks (fun done => ∀ y ∈ done, (valP at' fs y).2 = true) (fun done rest => ⟨[(16, .d (.int .i64 done.length)), (15, .d (.int .i64 ks.length)), (14, .d (.lst (ks.map Pred.cells))), (6, .own 6 1 ((done.map fun k => (valP at' fs k).1).map icell)), (3, .ptr 3 0), (2, .ptr 2 0)], [(3, [.d (.int .i64 o), .d (.str s), .d (.int .i64 n), .d (.lst (ks.map Pred.cells))]), (2, [.d (.lst (at'.map Coef.cells)), .d (.lst (fs.map Fact.cells))])], [(6, true)]⟩) ?_ (by simp) ?_ ?_
  · exact Ent_conv 6 6 1 [] [(6, 6)] rfl (by simp) rfl (by simp only [Ent0, go_sem, Nat.reduceEqDiff, reduceCtorEq, Nat.reduceAdd, Nat.reduceLeDiff, Nat.reduceMul, Nat.reduceLT, Int.reduceToNat, Int.reduceLT, Int.reduceLE, Int.reduceEq, Nat.reduceSub, List.contains_nil, Option.isSome_some])
  · intro done k r hl hI
    have hk' := ih k (by rw [hl]; simp) (hp.kid (by rw [hl]; simp))
    have hlt := lt_mid hl
    have hw : IntKind.i64.wrap ((done.length : Int) + 1) = ((done.length + 1 : Nat) : Int) := wrap_succ (by omega)
    have ha1 : (done.length + 1) * 8 ≤ 2 ^ 46 := by omega
    simp only [fn_meaning_evaluator_value_L1, go_sem, Nat.reduceEqDiff, reduceCtorEq, Nat.reduceAdd, Nat.reduceLeDiff, Nat.reduceMul, Nat.reduceLT, Int.reduceToNat, Int.reduceLT, Int.reduceLE, Int.reduceEq, Nat.reduceSub, hlt, getD_midP hl]
    refine call_by hk' ?_
    cases h1 : (valP at' fs k).2 with
    | false =>
      have : ks.all (fun k => (valP at' fs k).2) = false := by
        rw [List.all_eq_false]; exact ⟨k, by rw [hl]; simp, by rw [h1]; simp⟩
      rw [this] at hR
      rw [hK, hrs]
      simp only [go_sem, Nat.reduceEqDiff, reduceCtorEq, Nat.reduceAdd, Nat.reduceLeDiff, Nat.reduceMul, Nat.reduceLT, Int.reduceToNat, Int.reduceLT, Int.reduceLE, Int.reduceEq, Nat.reduceSub, h1, ← hR]
    | true =>
      simp only [go_sem, Nat.reduceEqDiff, reduceCtorEq, Nat.reduceAdd, Nat.reduceLeDiff, Nat.reduceMul, Nat.reduceLT, Int.reduceToNat, Int.reduceLT, Int.reduceLE, Int.reduceEq, Nat.reduceSub, hw, List.length_append, List.length_map, List.map_append, icell_lens, h1]
      have hi1 : (∀ e ∈ [[D.int IntKind.i64 (valP at' fs k).1]], e.length = 1) = True := eq_true (by simp)
      simp only [hi1, go_sem, Nat.reduceEqDiff, reduceCtorEq, Nat.reduceAdd, Nat.reduceLeDiff, Nat.reduceMul, Nat.reduceLT, Int.reduceToNat, Int.reduceLT, Int.reduceLE, Int.reduceEq, Nat.reduceSub]
      refine ⟨⟨ha1, by omega⟩, Ent_own [(6, 31)] ?_, app_all hI h1⟩
      simp only [go_sem, Nat.reduceEqDiff, reduceCtorEq, Nat.reduceAdd, Nat.reduceLeDiff, Nat.reduceMul, Nat.reduceLT, Int.reduceToNat, Int.reduceLT, Int.reduceLE, Int.reduceEq, Nat.reduceSub, List.contains_nil, Option.isSome_some, icell]
  · intro hI
    have hall : ks.all (fun k => (valP at' fs k).2) = true := List.all_eq_true.2 hI
    rw [if_pos hall] at hR
    simp only [fn_meaning_evaluator_value_L1, go_sem, Nat.reduceEqDiff, reduceCtorEq, Nat.reduceAdd, Nat.reduceLeDiff, Nat.reduceMul, Nat.reduceLT, Int.reduceToNat, Int.reduceLT, Int.reduceLE, Int.reduceEq, Nat.reduceSub]
    rw [hK]
    simp only [go_sem, Nat.reduceEqDiff, reduceCtorEq, Nat.reduceAdd, Nat.reduceLeDiff, Nat.reduceMul, Nat.reduceLT, Int.reduceToNat, Int.reduceLT, Int.reduceLE, Int.reduceEq, Nat.reduceSub]
    rw [h2, hrs]
    unfold topP at hR
    by_cases c1 : o = 1
    · subst c1; simp only [beq_self_eq_true, ↓reduceIte, go_sem, Nat.reduceEqDiff, reduceCtorEq, Nat.reduceAdd, Nat.reduceLeDiff, Nat.reduceMul, Nat.reduceLT, Int.reduceToNat, Int.reduceLT, Int.reduceLE, Int.reduceEq, Nat.reduceSub] at hR ⊢; simp only [← hR, and_self]
    have e1 : (o == 1) = false := by simpa using c1
    by_cases c2 : o = 2
    · subst c2; simp only [e1, beq_self_eq_true, ↓reduceIte, go_sem, Nat.reduceEqDiff, reduceCtorEq, Nat.reduceAdd, Nat.reduceLeDiff, Nat.reduceMul, Nat.reduceLT, Int.reduceToNat, Int.reduceLT, Int.reduceLE, Int.reduceEq, Nat.reduceSub] at hR ⊢; simp only [← hR, and_self]
    have e2 : (o == 2) = false := by simpa using c2
    by_cases c3 : o = 3
    · subst c3
      simp only [e1, e2, beq_self_eq_true, ↓reduceIte, go_sem, Nat.reduceEqDiff, reduceCtorEq, Nat.reduceAdd, Nat.reduceLeDiff, Nat.reduceMul, Nat.reduceLT, Int.reduceToNat, Int.reduceLT, Int.reduceLE, Int.reduceEq, Nat.reduceSub] at hR ⊢
      refine call_by hfind ?_
      simp only [go_sem, Nat.reduceEqDiff, reduceCtorEq, Nat.reduceAdd, Nat.reduceLeDiff, Nat.reduceMul, Nat.reduceLT, Int.reduceToNat, Int.reduceLT, Int.reduceLE, Int.reduceEq, Nat.reduceSub]
      refine call_g hin ?_
      simp only [go_sem, Nat.reduceEqDiff, reduceCtorEq, Nat.reduceAdd, Nat.reduceLeDiff, Nat.reduceMul, Nat.reduceLT, Int.reduceToNat, Int.reduceLT, Int.reduceLE, Int.reduceEq, Nat.reduceSub, ← hR]
    have e3 : (o == 3) = false := by simpa using c3
    by_cases c4 : o = 4
    · subst c4
      simp only [e1, e2, e3, beq_self_eq_true, ↓reduceIte, go_sem, Nat.reduceEqDiff, reduceCtorEq, Nat.reduceAdd, Nat.reduceLeDiff, Nat.reduceMul, Nat.reduceLT, Int.reduceToNat, Int.reduceLT, Int.reduceLE, Int.reduceEq, Nat.reduceSub] at hR ⊢
      refine call_by hfact ?_
      simp only [go_sem, Nat.reduceEqDiff, reduceCtorEq, Nat.reduceAdd, Nat.reduceLeDiff, Nat.reduceMul, Nat.reduceLT, Int.reduceToNat, Int.reduceLT, Int.reduceLE, Int.reduceEq, Nat.reduceSub, ← hR]
    have e4 : (o == 4) = false := by simpa using c4
    by_cases c5 : o = 5
    · subst c5; simp only [e1, e2, e3, e4, beq_self_eq_true, ↓reduceIte, go_sem, Nat.reduceEqDiff, reduceCtorEq, Nat.reduceAdd, Nat.reduceLeDiff, Nat.reduceMul, Nat.reduceLT, Int.reduceToNat, Int.reduceLT, Int.reduceLE, Int.reduceEq, Nat.reduceSub] at hR ⊢; simp only [← hR, and_self]
    have e5 : (o == 5) = false := by simpa using c5
    by_cases c9 : o = 9
    · subst c9
      obtain ⟨a, rfl⟩ := kids_one hk rfl
      simp only [e1, e2, e3, e4, e5, beq_self_eq_true, ↓reduceIte, go_sem, Nat.reduceEqDiff, reduceCtorEq, Nat.reduceAdd, Nat.reduceLeDiff, Nat.reduceMul, Nat.reduceLT, Int.reduceToNat, Int.reduceLT, Int.reduceLE, Int.reduceEq, Nat.reduceSub, icell] at hR ⊢
      refine ⟨by simp, ?_⟩
      refine call_by (hsub _) ?_
      simp only [go_sem, Nat.reduceEqDiff, reduceCtorEq, Nat.reduceAdd, Nat.reduceLeDiff, Nat.reduceMul, Nat.reduceLT, Int.reduceToNat, Int.reduceLT, Int.reduceLE, Int.reduceEq, Nat.reduceSub, ← hR]
    have e9 : (o == 9) = false := by simpa using c9
    by_cases c14 : o = 14
    · subst c14
      obtain ⟨a, rfl⟩ := kids_one hk rfl
      simp only [e1, e2, e3, e4, e5, e9, beq_self_eq_true, ↓reduceIte, go_sem, Nat.reduceEqDiff, reduceCtorEq, Nat.reduceAdd, Nat.reduceLeDiff, Nat.reduceMul, Nat.reduceLT, Int.reduceToNat, Int.reduceLT, Int.reduceLE, Int.reduceEq, Nat.reduceSub, icell] at hR ⊢
      refine ⟨by simp, ?_⟩
      refine call_by (htr _) ?_
      simp only [go_sem, Nat.reduceEqDiff, reduceCtorEq, Nat.reduceAdd, Nat.reduceLeDiff, Nat.reduceMul, Nat.reduceLT, Int.reduceToNat, Int.reduceLT, Int.reduceLE, Int.reduceEq, Nat.reduceSub, ← hR]
    have e14 : (o == 14) = false := by simpa using c14
    obtain ⟨a, b, rfl⟩ := kids_two hk c1 c2 c3 c4 c5 c9 c14
    simp only [e1, e2, e3, e4, e5, e9, e14, ↓reduceIte, go_sem, Nat.reduceEqDiff, reduceCtorEq, Nat.reduceAdd, Nat.reduceLeDiff, Nat.reduceMul, Nat.reduceLT, Int.reduceToNat, Int.reduceLT, Int.reduceLE, Int.reduceEq, Nat.reduceSub, icell] at hR ⊢
    refine ⟨by simp, by simp, ?_⟩
    refine call_by (hop _ _) ?_
    simp only [go_sem, Nat.reduceEqDiff, reduceCtorEq, Nat.reduceAdd, Nat.reduceLeDiff, Nat.reduceMul, Nat.reduceLT, Int.reduceToNat, Int.reduceLT, Int.reduceLE, Int.reduceEq, Nat.reduceSub, ← hR]
end Go.Abs
end
section
set_option linter.unusedSimpArgs false
set_option linter.unusedVariables false
set_option linter.unusedSectionVars false
namespace Go.Abs
def EvalS (at' : List Coef) (fs : List Fact) (p : Pred) : Int × Bool := if p.checkE != 0 then (0, false) else valR at' fs p
def HoldsS (at' : List Coef) (fs : List Fact) (p : Pred) : Bool × Bool := if p.same zeroP then (true, true) else ((EvalS at' fs p).2 && (EvalS at' fs p).1 != 0, (EvalS at' fs p).2)
def fewB (p : Pred) (at' : List Coef) (fs : List Fact) : Bool := fs.all (fun f => !decide ((f.args.length : Int) > 60)) && (decide (p.nodes ≤ 600) && decide ((at'.length : Int) ≤ 60) && decide ((fs.length : Int) ≤ 60))
theorem norm2_zero {r : Int × Bool} (h : norm2 r = r) (h2 : r.2 = false) : r.1 = 0 := by
  unfold norm2 at h; rw [h2] at h; rw [← h]; rfl
theorem valR_norm (at' : List Coef) (fs : List Fact) (p : Pred) (hp : Good p) : norm2 (valR at' fs p) = valR at' fs p := by
  rw [← val_norm at' fs p hp]
  unfold norm2
  cases (valP at' fs p).2 <;> rfl
theorem EvalS_zero {at' : List Coef} {fs : List Fact} {p : Pred} (h : (EvalS at' fs p).2 = false) : (EvalS at' fs p).1 = 0 := by
  by_cases hc : p.checkE = 0
  · have e : EvalS at' fs p = valR at' fs p := by unfold EvalS; rw [hc]; rfl
    rw [e] at h ⊢
    exact norm2_zero (valR_norm at' fs p (good_of hc)) h
  · have e : EvalS at' fs p = (0, false) := by unfold EvalS; rw [if_pos (by simpa using hc)]
    rw [e]
theorem beq_zero_check {p : Pred} : (p.checkE != 0) = false → p.checkE = 0 := by intro h; simpa using h
set_option maxRecDepth 100000
variable {E : AEnv} (Z : Sys E)
include Z
theorem r10_value_ev (at' : List Coef) (fs : List Fact) (p : Pred) (hp : Good p) :
    E.C r10_value [.agg p.cells, .one (.lst (at'.map Coef.cells)), .one (.lst (fs.map Fact.cells))] (res2 (valR at' fs p)) := by
  induction p using Pred.ind with
  | h o s n ks ih =>
  obtain ⟨⟨o1, o2⟩, hk, _, _⟩ := hp.top
  have hmost := kids_most hk
  have hfind := r10_Find_ev Z at' s
  have hbnd := r10_bounded_ev Z (findC s at').1 (findC s at').2
  have hfact := r10_fact_ev Z fs s (ks.map fun k => (valR at' fs k).1)
  have hop := r10_compute_ev Z o
  refine Z.r10_value _ _ ⟨Nat.le_of_ble_eq_true rfl, ?_⟩
  generalize hR : valR at' fs (.mk o s n ks) = R
  rw [valR_eq] at hR
  rw [Pred.cells_eq]
  unfold res2 at *
  by_cases c1 : o = 1
  · subst c1; simp only [fn_r10_value, ↓reduceIte, go_sem, Nat.reduceEqDiff, reduceCtorEq, Nat.reduceAdd, Nat.reduceLeDiff, Nat.reduceMul, Nat.reduceLT, Int.reduceToNat, Int.reduceLT, Int.reduceLE, Int.reduceEq, Nat.reduceSub, Pred.op, Pred.name, Pred.n, Pred.kids, beq_self_eq_true] at hR ⊢; simp only [← hR, and_self]
  have e1 : (o == 1) = false := by simpa using c1
  by_cases c2 : o = 2
  · subst c2; simp only [fn_r10_value, ↓reduceIte, go_sem, Nat.reduceEqDiff, reduceCtorEq, Nat.reduceAdd, Nat.reduceLeDiff, Nat.reduceMul, Nat.reduceLT, Int.reduceToNat, Int.reduceLT, Int.reduceLE, Int.reduceEq, Nat.reduceSub, Pred.op, Pred.name, Pred.n, Pred.kids, e1, beq_self_eq_true] at hR ⊢; simp only [← hR, and_self]
  have e2 : (o == 2) = false := by simpa using c2
  by_cases c3 : o = 3
  · subst c3
    simp only [fn_r10_value, ↓reduceIte, go_sem, Nat.reduceEqDiff, reduceCtorEq, Nat.reduceAdd, Nat.reduceLeDiff, Nat.reduceMul, Nat.reduceLT, Int.reduceToNat, Int.reduceLT, Int.reduceLE, Int.reduceEq, Nat.reduceSub, Pred.op, Pred.name, Pred.n, Pred.kids, e1, e2, beq_self_eq_true] at hR ⊢
    refine call_by hfind ?_
    simp only [go_sem, Nat.reduceEqDiff, reduceCtorEq, Nat.reduceAdd, Nat.reduceLeDiff, Nat.reduceMul, Nat.reduceLT, Int.reduceToNat, Int.reduceLT, Int.reduceLE, Int.reduceEq, Nat.reduceSub]
    refine call_by hbnd ?_
    simp only [go_sem, Nat.reduceEqDiff, reduceCtorEq, Nat.reduceAdd, Nat.reduceLeDiff, Nat.reduceMul, Nat.reduceLT, Int.reduceToNat, Int.reduceLT, Int.reduceLE, Int.reduceEq, Nat.reduceSub, ← hR]
  have e3 : (o == 3) = false := by simpa using c3
  by_cases c5 : o = 5
  · subst c5; simp only [fn_r10_value, ↓reduceIte, go_sem, Nat.reduceEqDiff, reduceCtorEq, Nat.reduceAdd, Nat.reduceLeDiff, Nat.reduceMul, Nat.reduceLT, Int.reduceToNat, Int.reduceLT, Int.reduceLE, Int.reduceEq, Nat.reduceSub, Pred.op, Pred.name, Pred.n, Pred.kids, e1, e2, e3, beq_self_eq_true] at hR ⊢; simp only [← hR, and_self]
  have e5 : (o == 5) = false := by simpa using c5
  simp only [fn_r10_value, ↓reduceIte, go_sem, Nat.reduceEqDiff, reduceCtorEq, Nat.reduceAdd, Nat.reduceLeDiff, Nat.reduceMul, Nat.reduceLT, Int.reduceToNat, Int.reduceLT, Int.reduceLE, Int.reduceEq, Nat.reduceSub, Pred.op, Pred.name, Pred.n, Pred.kids, e1, e2, e3, e5] at hR ⊢
  intro hlen
  refine loop_named fun K' hK => ?_
  refine loop_list ks (fun done => ∀ y ∈ done, (valR at' fs y).2 = true) (fun done rest => ⟨[(41, .d (.int .i64 done.length)), (40, .d (.int .i64 ks.length)), (39, .d (.lst (ks.map Pred.cells))), (10, .own 10 1 ((done.map fun k => (valR at' fs k).1).map icell)), (3, .ptr 3 0), (1, .d (.lst (at'.map Coef.cells))), (2, .d (.lst (fs.map Fact.cells)))], [(3, [.d (.int .i64 o), .d (.str s), .d (.int .i64 n), .d (.lst (ks.map Pred.cells))])], [(10, true)]⟩) ?_ (by simp) ?_ ?_
  · exact Ent_conv 10 10 1 [] [(10, 10)] rfl (by simp) rfl (by simp only [Ent0, go_sem, Nat.reduceEqDiff, reduceCtorEq, Nat.reduceAdd, Nat.reduceLeDiff, Nat.reduceMul, Nat.reduceLT, Int.reduceToNat, Int.reduceLT, Int.reduceLE, Int.reduceEq, Nat.reduceSub, List.contains_nil, Option.isSome_some])
  · intro done k r hl hI
    have hk' := ih k (by rw [hl]; simp) (hp.kid (by rw [hl]; simp))
    have hlt := lt_mid hl
    have hw : IntKind.i64.wrap ((done.length : Int) + 1) = ((done.length + 1 : Nat) : Int) := wrap_succ (by omega)
    have ha1 : (done.length + 1) * 8 ≤ 2 ^ 46 := by omega
    simp only [fn_r10_value_L1, go_sem, Nat.reduceEqDiff, reduceCtorEq, Nat.reduceAdd, Nat.reduceLeDiff, Nat.reduceMul, Nat.reduceLT, Int.reduceToNat, Int.reduceLT, Int.reduceLE, Int.reduceEq, Nat.reduceSub, hlt, getD_midP hl]
    refine call_by hk' ?_
    cases h1 : (valR at' fs k).2 with
    | false =>
      have : ks.all (fun k => (valR at' fs k).2) = false := by
        rw [List.all_eq_false]; exact ⟨k, by rw [hl]; simp, by rw [h1]; simp⟩
      rw [this] at hR
      rw [hK]
      simp only [go_sem, Nat.reduceEqDiff, reduceCtorEq, Nat.reduceAdd, Nat.reduceLeDiff, Nat.reduceMul, Nat.reduceLT, Int.reduceToNat, Int.reduceLT, Int.reduceLE, Int.reduceEq, Nat.reduceSub, h1, ← hR]
    | true =>
      simp only [go_sem, Nat.reduceEqDiff, reduceCtorEq, Nat.reduceAdd, Nat.reduceLeDiff, Nat.reduceMul, Nat.reduceLT, Int.reduceToNat, Int.reduceLT, Int.reduceLE, Int.reduceEq, Nat.reduceSub, hw, List.length_append, List.length_map, List.map_append, icell_lens, h1]
      have hi1 : (∀ e ∈ [[D.int IntKind.i64 (valR at' fs k).1]], e.length = 1) = True := eq_true (by simp)
      simp only [hi1, go_sem, Nat.reduceEqDiff, reduceCtorEq, Nat.reduceAdd, Nat.reduceLeDiff, Nat.reduceMul, Nat.reduceLT, Int.reduceToNat, Int.reduceLT, Int.reduceLE, Int.reduceEq, Nat.reduceSub]
      refine ⟨⟨ha1, by omega⟩, Ent_own [(10, 57)] ?_, app_all hI h1⟩
      simp only [go_sem, Nat.reduceEqDiff, reduceCtorEq, Nat.reduceAdd, Nat.reduceLeDiff, Nat.reduceMul, Nat.reduceLT, Int.reduceToNat, Int.reduceLT, Int.reduceLE, Int.reduceEq, Nat.reduceSub, List.contains_nil, Option.isSome_some, icell]
  · intro hI
    have hall : ks.all (fun k => (valR at' fs k).2) = true := List.all_eq_true.2 hI
    simp only [hall, go_sem, Nat.reduceEqDiff, reduceCtorEq, Nat.reduceAdd, Nat.reduceLeDiff, Nat.reduceMul, Nat.reduceLT, Int.reduceToNat, Int.reduceLT, Int.reduceLE, Int.reduceEq, Nat.reduceSub, topR] at hR
    simp only [fn_r10_value_L1, go_sem, Nat.reduceEqDiff, reduceCtorEq, Nat.reduceAdd, Nat.reduceLeDiff, Nat.reduceMul, Nat.reduceLT, Int.reduceToNat, Int.reduceLT, Int.reduceLE, Int.reduceEq, Nat.reduceSub]
    rw [hK]
    by_cases c4 : o = 4
    · subst c4
      simp only [e1, e2, e3, beq_self_eq_true, go_sem, Nat.reduceEqDiff, reduceCtorEq, Nat.reduceAdd, Nat.reduceLeDiff, Nat.reduceMul, Nat.reduceLT, Int.reduceToNat, Int.reduceLT, Int.reduceLE, Int.reduceEq, Nat.reduceSub] at hR ⊢
      refine call_by hfact ?_
      simp only [go_sem, Nat.reduceEqDiff, reduceCtorEq, Nat.reduceAdd, Nat.reduceLeDiff, Nat.reduceMul, Nat.reduceLT, Int.reduceToNat, Int.reduceLT, Int.reduceLE, Int.reduceEq, Nat.reduceSub, ← hR]
    have e4 : (o == 4) = false := by simpa using c4
    by_cases c9 : o = 9
    · subst c9
      obtain ⟨a, rfl⟩ := kids_one hk rfl
      simp only [e4, go_sem, Nat.reduceEqDiff, reduceCtorEq, Nat.reduceAdd, Nat.reduceLeDiff, Nat.reduceMul, Nat.reduceLT, Int.reduceToNat, Int.reduceLT, Int.reduceLE, Int.reduceEq, Nat.reduceSub, icell] at hR ⊢
      have hw1 : IntKind.i64.wrap (1 - 1) = 0 := by decide
      have hi1 : ∀ x : Int, (∀ e ∈ [[D.int IntKind.i64 x]], e.length = 1) = True := fun x => eq_true (by simp)
      simp only [hw1, hi1, go_sem, Nat.reduceEqDiff, reduceCtorEq, Nat.reduceAdd, Nat.reduceLeDiff, Nat.reduceMul, Nat.reduceLT, Int.reduceToNat, Int.reduceLT, Int.reduceLE, Int.reduceEq, Nat.reduceSub]
      refine call_by (hop _ _) ?_
      simp only [go_sem, Nat.reduceEqDiff, reduceCtorEq, Nat.reduceAdd, Nat.reduceLeDiff, Nat.reduceMul, Nat.reduceLT, Int.reduceToNat, Int.reduceLT, Int.reduceLE, Int.reduceEq, Nat.reduceSub, ← hR, Nat.sub_self, List.getD_cons_zero]
    by_cases c14 : o = 14
    · subst c14
      obtain ⟨a, rfl⟩ := kids_one hk rfl
      simp only [e4, go_sem, Nat.reduceEqDiff, reduceCtorEq, Nat.reduceAdd, Nat.reduceLeDiff, Nat.reduceMul, Nat.reduceLT, Int.reduceToNat, Int.reduceLT, Int.reduceLE, Int.reduceEq, Nat.reduceSub, icell] at hR ⊢
      have hw1 : IntKind.i64.wrap (1 - 1) = 0 := by decide
      have hi1 : ∀ x : Int, (∀ e ∈ [[D.int IntKind.i64 x]], e.length = 1) = True := fun x => eq_true (by simp)
      simp only [hw1, hi1, go_sem, Nat.reduceEqDiff, reduceCtorEq, Nat.reduceAdd, Nat.reduceLeDiff, Nat.reduceMul, Nat.reduceLT, Int.reduceToNat, Int.reduceLT, Int.reduceLE, Int.reduceEq, Nat.reduceSub]
      refine call_by (hop _ _) ?_
      simp only [go_sem, Nat.reduceEqDiff, reduceCtorEq, Nat.reduceAdd, Nat.reduceLeDiff, Nat.reduceMul, Nat.reduceLT, Int.reduceToNat, Int.reduceLT, Int.reduceLE, Int.reduceEq, Nat.reduceSub, ← hR, Nat.sub_self, List.getD_cons_zero]
    obtain ⟨a, b, rfl⟩ := kids_two hk c1 c2 c3 c4 c5 c9 c14
    simp only [e4, go_sem, Nat.reduceEqDiff, reduceCtorEq, Nat.reduceAdd, Nat.reduceLeDiff, Nat.reduceMul, Nat.reduceLT, Int.reduceToNat, Int.reduceLT, Int.reduceLE, Int.reduceEq, Nat.reduceSub, icell] at hR ⊢
    have hw1 : IntKind.i64.wrap (2 - 1) = 1 := by decide
    have hi2 : ∀ x y : Int, (∀ e ∈ [[D.int IntKind.i64 x], [D.int IntKind.i64 y]], e.length = 1) = True := fun x y => eq_true (by simp)
    simp only [hw1, hi2, go_sem, Nat.reduceEqDiff, reduceCtorEq, Nat.reduceAdd, Nat.reduceLeDiff, Nat.reduceMul, Nat.reduceLT, Int.reduceToNat, Int.reduceLT, Int.reduceLE, Int.reduceEq, Nat.reduceSub]
    refine call_by (hop _ _) ?_
    simp only [go_sem, Nat.reduceEqDiff, reduceCtorEq, Nat.reduceAdd, Nat.reduceLeDiff, Nat.reduceMul, Nat.reduceLT, Int.reduceToNat, Int.reduceLT, Int.reduceLE, Int.reduceEq, Nat.reduceSub, ← hR]
theorem meaning_Eval_ev (hG : E.G 0 = some (kws.map .str)) (hIt : ∀ p, E.It pred_before_1 [.ref (Pred.cells p)] (yields p.pre)) (at' : List Coef) (fs : List Fact) (p : Pred) :
    E.C meaning_Eval [.agg p.cells, .one (.lst (at'.map Coef.cells)), .one (.lst (fs.map Fact.cells))] (res2 (EvalS at' fs p)) := by
  have hc := pred_Check_ev Z hG hIt p
  have hv := fun h => meaning_value_ev Z at' fs p h
  have hn := fun h => val_norm at' fs p h
  have hgd := fun h => good_of (p := p) h
  refine Z.meaning_Eval _ _ ⟨Nat.le_of_ble_eq_true rfl, ?_⟩
  generalize hR : EvalS at' fs p = R
  unfold EvalS at hR
  unfold res2 at *
  obtain ⟨o, s, n, ks⟩ := p
  rw [Pred.cells_eq] at *
  simp only [fn_meaning_Eval, go_sem, Nat.reduceEqDiff, reduceCtorEq, Nat.reduceAdd, Nat.reduceLeDiff, Nat.reduceMul, Nat.reduceLT, Int.reduceToNat, Int.reduceLT, Int.reduceLE, Int.reduceEq, Nat.reduceSub, Pred.op, Pred.name, Pred.n, Pred.kids] at hc hv ⊢
  refine call_by hc ?_
  cases c0 : (Pred.checkE (.mk o s n ks) != 0) with
  | true => simp only [c0, go_sem, Nat.reduceEqDiff, reduceCtorEq, Nat.reduceAdd, Nat.reduceLeDiff, Nat.reduceMul, Nat.reduceLT, Int.reduceToNat, Int.reduceLT, Int.reduceLE, Int.reduceEq, Nat.reduceSub] at hR ⊢; simp only [← hR, and_self]
  | false =>
    have hg := hgd (beq_zero_check c0)
    have hnn := hn hg
    simp only [c0, go_sem, Nat.reduceEqDiff, reduceCtorEq, Nat.reduceAdd, Nat.reduceLeDiff, Nat.reduceMul, Nat.reduceLT, Int.reduceToNat, Int.reduceLT, Int.reduceLE, Int.reduceEq, Nat.reduceSub] at hR ⊢
    refine call_by (hv hg) ?_
    rw [← hR, ← hnn]
    unfold norm2
    cases c1 : (valP at' fs (.mk o s n ks)).2 <;> simp only [go_sem, Nat.reduceEqDiff, reduceCtorEq, Nat.reduceAdd, Nat.reduceLeDiff, Nat.reduceMul, Nat.reduceLT, Int.reduceToNat, Int.reduceLT, Int.reduceLE, Int.reduceEq, Nat.reduceSub, c1]
theorem r10_Eval_ev (at' : List Coef) (fs : List Fact) (p : Pred) :
    E.C r10_Eval [.agg p.cells, .one (.lst (at'.map Coef.cells)), .one (.lst (fs.map Fact.cells))] (res2 (EvalS at' fs p)) := by
  have hc := r07_Check_ev Z p
  have hv := fun h => r10_value_ev Z at' fs p h
  have hgd := fun h => good_of (p := p) h
  refine Z.r10_Eval _ _ ⟨Nat.le_of_ble_eq_true rfl, ?_⟩
  generalize hR : EvalS at' fs p = R
  unfold EvalS at hR
  unfold res2 at *
  obtain ⟨o, s, n, ks⟩ := p
  rw [Pred.cells_eq] at *
  simp only [fn_r10_Eval, go_sem, Nat.reduceEqDiff, reduceCtorEq, Nat.reduceAdd, Nat.reduceLeDiff, Nat.reduceMul, Nat.reduceLT, Int.reduceToNat, Int.reduceLT, Int.reduceLE, Int.reduceEq, Nat.reduceSub, Pred.op, Pred.name, Pred.n, Pred.kids] at hc hv ⊢
  refine call_by hc ?_
  cases c0 : (Pred.checkE (.mk o s n ks) != 0) with
  | true => simp only [c0, go_sem, Nat.reduceEqDiff, reduceCtorEq, Nat.reduceAdd, Nat.reduceLeDiff, Nat.reduceMul, Nat.reduceLT, Int.reduceToNat, Int.reduceLT, Int.reduceLE, Int.reduceEq, Nat.reduceSub] at hR ⊢; simp only [← hR, and_self]
  | false =>
    have hg := hgd (beq_zero_check c0)
    simp only [c0, go_sem, Nat.reduceEqDiff, reduceCtorEq, Nat.reduceAdd, Nat.reduceLeDiff, Nat.reduceMul, Nat.reduceLT, Int.reduceToNat, Int.reduceLT, Int.reduceLE, Int.reduceEq, Nat.reduceSub] at hR ⊢
    refine call_by (hv hg) ?_
    simp only [go_sem, Nat.reduceEqDiff, reduceCtorEq, Nat.reduceAdd, Nat.reduceLeDiff, Nat.reduceMul, Nat.reduceLT, Int.reduceToNat, Int.reduceLT, Int.reduceLE, Int.reduceEq, Nat.reduceSub, hR]
theorem meaning_Holds_ev (hG : E.G 0 = some (kws.map .str)) (hIt : ∀ p, E.It pred_before_1 [.ref (Pred.cells p)] (yields p.pre)) (at' : List Coef) (fs : List Fact) (p : Pred) :
    E.C meaning_Holds [.agg p.cells, .one (.lst (at'.map Coef.cells)), .one (.lst (fs.map Fact.cells))] (.tup [.one (.bool (HoldsS at' fs p).1), .one (.bool (HoldsS at' fs p).2)]) := by
  have hs := pred_Same_ev Z p zeroP
  have he := meaning_Eval_ev Z hG hIt at' fs p
  have hz := @EvalS_zero at' fs p
  refine Z.meaning_Holds _ _ ⟨Nat.le_of_ble_eq_true rfl, ?_⟩
  generalize hR : HoldsS at' fs p = R
  unfold HoldsS at hR
  unfold res2 at *
  have e0 : Pred.cells zeroP = [.int .i64 0, .str [], .int .i64 0, .lst []] := by rw [Pred.cells_eq]; rfl
  rw [e0] at hs
  obtain ⟨o, s, n, ks⟩ := p
  rw [Pred.cells_eq (.mk o s n ks)] at *
  simp only [fn_meaning_Holds, go_sem, Nat.reduceEqDiff, reduceCtorEq, Nat.reduceAdd, Nat.reduceLeDiff, Nat.reduceMul, Nat.reduceLT, Int.reduceToNat, Int.reduceLT, Int.reduceLE, Int.reduceEq, Nat.reduceSub, Pred.op, Pred.name, Pred.n, Pred.kids] at hs he ⊢
  refine call_by hs ?_
  cases c0 : (Pred.mk o s n ks).same zeroP with
  | true => simp only [c0, go_sem, Nat.reduceEqDiff, reduceCtorEq, Nat.reduceAdd, Nat.reduceLeDiff, Nat.reduceMul, Nat.reduceLT, Int.reduceToNat, Int.reduceLT, Int.reduceLE, Int.reduceEq, Nat.reduceSub] at hR ⊢; simp only [← hR, and_self]
  | false =>
    simp only [c0, go_sem, Nat.reduceEqDiff, reduceCtorEq, Nat.reduceAdd, Nat.reduceLeDiff, Nat.reduceMul, Nat.reduceLT, Int.reduceToNat, Int.reduceLT, Int.reduceLE, Int.reduceEq, Nat.reduceSub] at hR ⊢
    refine call_by he ?_
    simp only [go_sem, Nat.reduceEqDiff, reduceCtorEq, Nat.reduceAdd, Nat.reduceLeDiff, Nat.reduceMul, Nat.reduceLT, Int.reduceToNat, Int.reduceLT, Int.reduceLE, Int.reduceEq, Nat.reduceSub, ← hR]
    cases c1 : (EvalS at' fs (.mk o s n ks)).2 with
    | true => simp only [go_sem, Nat.reduceEqDiff, reduceCtorEq, Nat.reduceAdd, Nat.reduceLeDiff, Nat.reduceMul, Nat.reduceLT, Int.reduceToNat, Int.reduceLT, Int.reduceLE, Int.reduceEq, Nat.reduceSub]
    | false => simp only [go_sem, Nat.reduceEqDiff, reduceCtorEq, Nat.reduceAdd, Nat.reduceLeDiff, Nat.reduceMul, Nat.reduceLT, Int.reduceToNat, Int.reduceLT, Int.reduceLE, Int.reduceEq, Nat.reduceSub, hz c1, bne_self_eq_false]
theorem r10_Holds_ev (at' : List Coef) (fs : List Fact) (p : Pred) :
    E.C r10_Holds [.agg p.cells, .one (.lst (at'.map Coef.cells)), .one (.lst (fs.map Fact.cells))] (.tup [.one (.bool (HoldsS at' fs p).1), .one (.bool (HoldsS at' fs p).2)]) := by
  have hs := r07_Same_ev Z p zeroP
  have he := r10_Eval_ev Z at' fs p
  refine Z.r10_Holds _ _ ⟨Nat.le_of_ble_eq_true rfl, ?_⟩
  generalize hR : HoldsS at' fs p = R
  unfold HoldsS at hR
  unfold res2 at *
  have e0 : Pred.cells zeroP = [.int .i64 0, .str [], .int .i64 0, .lst []] := by rw [Pred.cells_eq]; rfl
  rw [e0] at hs
  obtain ⟨o, s, n, ks⟩ := p
  rw [Pred.cells_eq (.mk o s n ks)] at *
  simp only [fn_r10_Holds, go_sem, Nat.reduceEqDiff, reduceCtorEq, Nat.reduceAdd, Nat.reduceLeDiff, Nat.reduceMul, Nat.reduceLT, Int.reduceToNat, Int.reduceLT, Int.reduceLE, Int.reduceEq, Nat.reduceSub, Pred.op, Pred.name, Pred.n, Pred.kids] at hs he ⊢
  refine call_by hs ?_
  cases c0 : (Pred.mk o s n ks).same zeroP with
  | true => simp only [c0, go_sem, Nat.reduceEqDiff, reduceCtorEq, Nat.reduceAdd, Nat.reduceLeDiff, Nat.reduceMul, Nat.reduceLT, Int.reduceToNat, Int.reduceLT, Int.reduceLE, Int.reduceEq, Nat.reduceSub] at hR ⊢; simp only [← hR, and_self]
  | false =>
    simp only [c0, go_sem, Nat.reduceEqDiff, reduceCtorEq, Nat.reduceAdd, Nat.reduceLeDiff, Nat.reduceMul, Nat.reduceLT, Int.reduceToNat, Int.reduceLT, Int.reduceLE, Int.reduceEq, Nat.reduceSub] at hR ⊢
    refine call_by he ?_
    simp only [go_sem, Nat.reduceEqDiff, reduceCtorEq, Nat.reduceAdd, Nat.reduceLeDiff, Nat.reduceMul, Nat.reduceLT, Int.reduceToNat, Int.reduceLT, Int.reduceLE, Int.reduceEq, Nat.reduceSub, ← hR]
theorem l10_few_ev (p : Pred) (at' : List Coef) (fs : List Fact) : E.C l10_few [.agg p.cells, .one (.lst (at'.map Coef.cells)), .one (.lst (fs.map Fact.cells))] (.one (.bool (fewB p at' fs))) := by
  have hn := r07_Nodes_ev Z p
  refine Z.l10_few _ _ ⟨Nat.le_of_ble_eq_true rfl, ?_⟩
  generalize hR : fewB p at' fs = R
  unfold fewB at hR
  obtain ⟨o, s, n, ks⟩ := p
  rw [Pred.cells_eq] at *
  simp only [fn_l10_few, go_sem, Nat.reduceEqDiff, reduceCtorEq, Nat.reduceAdd, Nat.reduceLeDiff, Nat.reduceMul, Nat.reduceLT, Int.reduceToNat, Int.reduceLT, Int.reduceLE, Int.reduceEq, Nat.reduceSub, Pred.op, Pred.name, Pred.n, Pred.kids] at hn ⊢
  intro hlen
  refine loop_named fun K' hK => ?_
  refine loop_list fs (fun done => ∀ y ∈ done, (!decide ((y.args.length : Int) > 60)) = true) (fun done rest => ⟨[(11, .d (.int .i64 done.length)), (10, .d (.int .i64 fs.length)), (9, .d (.lst (fs.map Fact.cells))), (1, .d (.lst (at'.map Coef.cells))), (2, .d (.lst (fs.map Fact.cells))), (3, .ptr 3 0)], [(3, [.d (.int .i64 o), .d (.str s), .d (.int .i64 n), .d (.lst (ks.map Pred.cells))])], []⟩) ?_ (by simp) ?_ ?_
  · exact Ent_plain (by simp only [go_sem, Nat.reduceEqDiff, reduceCtorEq, Nat.reduceAdd, Nat.reduceLeDiff, Nat.reduceMul, Nat.reduceLT, Int.reduceToNat, Int.reduceLT, Int.reduceLE, Int.reduceEq, Nat.reduceSub, Option.isSome_some])
  · intro done x r hl hI
    have hlt := lt_mid hl
    have hw : IntKind.i64.wrap ((done.length : Int) + 1) = ((done.length + 1 : Nat) : Int) := wrap_succ (by omega)
    rw [allB_mid hl hI] at hR
    simp only [fn_l10_few_L1, go_sem, Nat.reduceEqDiff, reduceCtorEq, Nat.reduceAdd, Nat.reduceLeDiff, Nat.reduceMul, Nat.reduceLT, Int.reduceToNat, Int.reduceLT, Int.reduceLE, Int.reduceEq, Nat.reduceSub, getD_at hl, hlt, Fact.cells]
    intro _
    cases h1 : decide ((x.args.length : Int) > 60) with
    | true => rw [hK]; simp only [h1, go_sem, Nat.reduceEqDiff, reduceCtorEq, Nat.reduceAdd, Nat.reduceLeDiff, Nat.reduceMul, Nat.reduceLT, Int.reduceToNat, Int.reduceLT, Int.reduceLE, Int.reduceEq, Nat.reduceSub] at hR ⊢; exact hR
    | false =>
      simp only [go_sem, Nat.reduceEqDiff, reduceCtorEq, Nat.reduceAdd, Nat.reduceLeDiff, Nat.reduceMul, Nat.reduceLT, Int.reduceToNat, Int.reduceLT, Int.reduceLE, Int.reduceEq, Nat.reduceSub, hw, List.length_append]
      exact ⟨Ent_plain (by simp only [go_sem, Nat.reduceEqDiff, reduceCtorEq, Nat.reduceAdd, Nat.reduceLeDiff, Nat.reduceMul, Nat.reduceLT, Int.reduceToNat, Int.reduceLT, Int.reduceLE, Int.reduceEq, Nat.reduceSub, Option.isSome_some]), app_all hI (by rw [h1]; rfl)⟩
  · intro hI
    have hall : fs.all (fun f => !decide ((f.args.length : Int) > 60)) = true := List.all_eq_true.2 hI
    rw [hall] at hR
    simp only [fn_l10_few_L1, go_sem, Nat.reduceEqDiff, reduceCtorEq, Nat.reduceAdd, Nat.reduceLeDiff, Nat.reduceMul, Nat.reduceLT, Int.reduceToNat, Int.reduceLT, Int.reduceLE, Int.reduceEq, Nat.reduceSub] at hR ⊢
    rw [hK]
    simp only [go_sem, Nat.reduceEqDiff, reduceCtorEq, Nat.reduceAdd, Nat.reduceLeDiff, Nat.reduceMul, Nat.reduceLT, Int.reduceToNat, Int.reduceLT, Int.reduceLE, Int.reduceEq, Nat.reduceSub]
    refine call_by hn ?_
    simp only [go_sem, Nat.reduceEqDiff, reduceCtorEq, Nat.reduceAdd, Nat.reduceLeDiff, Nat.reduceMul, Nat.reduceLT, Int.reduceToNat, Int.reduceLT, Int.reduceLE, Int.reduceEq, Nat.reduceSub]
    intro _ _
    exact hR
end Go.Abs
end
section
set_option linter.unusedSimpArgs false
set_option linter.unusedVariables false
set_option linter.unusedSectionVars false
namespace Go.Abs
/-! ## facts that do not contradict each other -/
theorem digit_toNat {d : Nat} (h : d < 10) : (UInt8.ofNat (48 + d)).toNat = 48 + d := by simp; omega
theorem decDigits_mem : ∀ (u : Nat) (c : UInt8), c ∈ Lib.decDigits u → 48 ≤ c.toNat ∧ c.toNat ≤ 57 := by
  intro u
  induction u using Nat.strongRecOn with
  | ind u ih =>
    intro c hc
    rw [Lib.decDigits] at hc
    split at hc
    · rename_i h
      simp only [List.mem_singleton] at hc
      subst hc
      rw [digit_toNat h]; omega
    · rename_i h
      rcases List.mem_append.1 hc with hc | hc
      · exact ih (u / 10) (by omega) c hc
      · simp only [List.mem_singleton] at hc
        subst hc
        rw [digit_toNat (by omega)]; omega
/-- what digits stand for -/
def ofDigits (l : List UInt8) : Nat := l.foldl (fun a c => a * 10 + (c.toNat - 48)) 0
theorem ofDigits_dec : ∀ u : Nat, ofDigits (Lib.decDigits u) = u := by
  intro u
  induction u using Nat.strongRecOn with
  | ind u ih =>
    rw [Lib.decDigits]
    split
    · rename_i h
      simp only [ofDigits, List.foldl_cons, List.foldl_nil]
      rw [digit_toNat h]; omega
    · rename_i h
      have := ih (u / 10) (by omega)
      unfold ofDigits at this ⊢
      rw [List.foldl_append, this]
      simp only [List.foldl_cons, List.foldl_nil]
      rw [digit_toNat (by omega)]; omega
theorem itoa_inj {a b : Int} (h : Lib.itoa a = Lib.itoa b) : a = b := by
  have hne : ∀ u : Nat, Lib.decDigits u ≠ [] := fun u e => by
    have := Lib.nDigits_pos u
    rw [← Lib.decDigits_length, e] at this; simp at this
  have hm : ∀ u v : Nat, (45 : UInt8) :: Lib.decDigits u ≠ Lib.decDigits v := fun u v e => by
    have := decDigits_mem v 45 (by rw [← e]; simp)
    simp at this
  unfold Lib.itoa at h
  split at h <;> split at h
  · rw [List.cons.injEq] at h
    have := congrArg ofDigits h.2
    rw [ofDigits_dec, ofDigits_dec] at this; omega
  · exact absurd h (hm _ _)
  · exact absurd h.symm (hm _ _)
  · have := congrArg ofDigits h
    rw [ofDigits_dec, ofDigits_dec] at this; omega
theorem itoa_mem (n : Int) : (44 : UInt8) ∉ Lib.itoa n := by
  intro h
  have hd : ∀ u : Nat, (44 : UInt8) ∉ Lib.decDigits u := fun u hu => by
    have := decDigits_mem u 44 hu
    simp at this
  unfold Lib.itoa at h
  split at h
  · rcases List.mem_cons.1 h with h | h
    · cases h
    · exact hd _ h
  · exact hd _ h
def keyT (l : List Int) : Str := l.flatMap fun n => Lib.itoa n ++ [44]
theorem cut_eq {α : Type} {c : α} {a b r r' : List α} (ha : c ∉ a) (hb : c ∉ b) (h : a ++ c :: r = b ++ c :: r') : a = b ∧ r = r' := by
  induction a generalizing b with
  | nil =>
    cases b with
    | nil => simp at h; exact ⟨rfl, h⟩
    | cons y b => simp at h; exact absurd h.1 (fun e => hb (by simp [e]))
  | cons x a ih =>
    cases b with
    | nil => simp at h; exact absurd h.1 (fun e => ha (by simp [e]))
    | cons y b =>
      simp only [List.cons_append, List.cons.injEq] at h
      obtain ⟨h1, h2⟩ := ih (fun hc => ha (by simp [hc])) (fun hc => hb (by simp [hc])) h.2
      exact ⟨by rw [h.1, h1], h2⟩
theorem keyT_inj : ∀ {a b : List Int}, keyT a = keyT b → a = b
  | [], [], _ => rfl
  | [], x :: b, h => by simp [keyT] at h
  | x :: a, [], h => by simp [keyT] at h
  | x :: a, y :: b, h => by
    simp only [keyT, List.flatMap_cons, List.append_assoc, List.singleton_append] at h
    obtain ⟨h1, h2⟩ := cut_eq (itoa_mem x) (itoa_mem y) h
    rw [itoa_inj h1, keyT_inj (a := a) (b := b) h2]
theorem keyT_beq (a b : List Int) : (keyT a == keyT b) = (a == b) := by
  rw [Bool.eq_iff_iff]; simp only [beq_iff_eq]; exact ⟨keyT_inj, fun h => by rw [h]⟩
def I64 (n : Int) : Prop := -9223372036854775808 ≤ n ∧ n ≤ 9223372036854775807
theorem keyT_len {a : List Int} (h : ∀ n ∈ a, I64 n) : (keyT a).length ≤ 22 * a.length := by
  induction a with
  | nil => simp [keyT]
  | cons x a ih =>
    have h1 := Lib.itoa_length_le x (h x (by simp)).1 (h x (by simp)).2
    have h2 := ih fun n hn => h n (by simp [hn])
    simp only [keyT, List.flatMap_cons, List.length_append, List.length_cons, List.length_nil] at h2 ⊢
    omega
theorem keyT_snoc (a : List Int) (n : Int) : keyT (a ++ [n]) = keyT a ++ (Lib.itoa n ++ [44]) := by simp [keyT]
/-- whether two facts go together -/
def okF (f g : Fact) : Bool := !(f.name == g.name && f.args == g.args && f.res != g.res)
theorem okF_comm (f g : Fact) : okF f g = okF g f := by
  unfold okF
  rw [show (f.name == g.name) = (g.name == f.name) from BEq.comm, show (f.args == g.args) = (g.args == f.args) from BEq.comm, bne_comm]
def funB : List Fact → Bool
  | [] => true
  | f :: l => l.all (okF f) && funB l
theorem funB_snoc (a : List Fact) (x : Fact) : funB (a ++ [x]) = (funB a && a.all (fun y => okF x y)) := by
  induction a with
  | nil => rfl
  | cons y a ih =>
    rw [List.cons_append, funB, funB, ih, List.all_append]
    simp only [List.all_cons, List.all_nil, Bool.and_true, okF_comm x y]
    cases okF y x <;> cases a.all (okF y) <;> cases funB a <;> simp
theorem funB_app_false {a b : List Fact} (h : funB a = false) : funB (a ++ b) = false := by
  induction b generalizing a with
  | nil => simpa using h
  | cons x b ih =>
    rw [show a ++ x :: b = (a ++ [x]) ++ b by simp]
    exact ih (by rw [funB_snoc, h, Bool.false_and])
def Fact.Wf (f : Fact) : Prop := (∀ n ∈ f.args, I64 n) ∧ I64 f.res
theorem mapAt_one {a b : Str} {v z : D} : mapAt [(.str a, v)] (.str b) z = if a == b then v else z := by
  unfold mapAt mapGet
  simp only [keyEq]
  by_cases h : (a == b) = true <;> simp [h, mapGet]
theorem mapHas_one {a b : Str} {v : D} : mapHas [(.str a, v)] (.str b) = (a == b) := by
  unfold mapHas mapGet
  simp only [keyEq]
  by_cases h : (a == b) = true
  · have h' := h; simp only [beq_iff_eq] at h'; subst h'; simp
  · have h' : (a == b) = false := by simpa using h
    simp [h', mapGet]
set_option maxRecDepth 100000
variable {E : AEnv} (Z : Sys E)
include Z
theorem meaning_key_ev (hI : ∀ n, I64 n → E.C strconv_Itoa [.one (.int .i64 n)] (.one (.str (Lib.itoa n)))) (l : List Int) (hl : Small l.length) (hw : ∀ n ∈ l, I64 n) :
    E.C meaning_key [.one (.lst (l.map icell))] (.one (.str (keyT l))) := by
  refine Z.meaning_key _ _ ⟨Nat.le_of_ble_eq_true rfl, ?_⟩
  unfold Small at hl
  simp only [fn_meaning_key, go_sem, Nat.reduceEqDiff, reduceCtorEq, Nat.reduceAdd, Nat.reduceLeDiff, Nat.reduceMul, Nat.reduceLT, Int.reduceToNat, Int.reduceLT, Int.reduceLE, Int.reduceEq, Nat.reduceSub]
  intro hlen
  refine loop_list l (fun _ => True) (fun done rest => ⟨[(8, .d (.int .i64 done.length)), (7, .d (.int .i64 l.length)), (6, .d (.lst (l.map icell))), (3, .d (.str (keyT done)))], [], []⟩) ?_ trivial ?_ ?_
  · exact Ent_plain (by simp only [go_sem, Nat.reduceEqDiff, reduceCtorEq, Nat.reduceAdd, Nat.reduceLeDiff, Nat.reduceMul, Nat.reduceLT, Int.reduceToNat, Int.reduceLT, Int.reduceLE, Int.reduceEq, Nat.reduceSub, keyT, List.flatMap_nil])
  · intro done x r hl' _
    have hlt := lt_mid hl'
    have hww : IntKind.i64.wrap ((done.length : Int) + 1) = ((done.length + 1 : Nat) : Int) := wrap_succ (by omega)
    have hx := hw x (by rw [hl']; simp)
    have h1 := Lib.itoa_length_le x hx.1 hx.2
    have h2 := keyT_len (a := done) fun n hn => hw n (by rw [hl']; simp [hn])
    have h3 : done.length ≤ l.length := by rw [hl']; simp
    have o1 : (Lib.itoa x).length + 1 ≤ 9223372036854775807 := by omega
    have o2 : (keyT done).length + ((Lib.itoa x).length + 1) ≤ 9223372036854775807 := by omega
    simp only [fn_meaning_key_L1, go_sem, Nat.reduceEqDiff, reduceCtorEq, Nat.reduceAdd, Nat.reduceLeDiff, Nat.reduceMul, Nat.reduceLT, Int.reduceToNat, Int.reduceLT, Int.reduceLE, Int.reduceEq, Nat.reduceSub, getD_at hl', hlt, icell]
    refine call_by (hI x hx) ?_
    simp only [go_sem, Nat.reduceEqDiff, reduceCtorEq, Nat.reduceAdd, Nat.reduceLeDiff, Nat.reduceMul, Nat.reduceLT, Int.reduceToNat, Int.reduceLT, Int.reduceLE, Int.reduceEq, Nat.reduceSub, hww, List.length_append, List.length_singleton, o1, o2]
    exact Ent_plain (by simp only [go_sem, Nat.reduceEqDiff, reduceCtorEq, Nat.reduceAdd, Nat.reduceLeDiff, Nat.reduceMul, Nat.reduceLT, Int.reduceToNat, Int.reduceLT, Int.reduceLE, Int.reduceEq, Nat.reduceSub, keyT_snoc])
  · intro _
    simp only [fn_meaning_key_L1, go_sem, Nat.reduceEqDiff, reduceCtorEq, Nat.reduceAdd, Nat.reduceLeDiff, Nat.reduceMul, Nat.reduceLT, Int.reduceToNat, Int.reduceLT, Int.reduceLE, Int.reduceEq, Nat.reduceSub]
theorem meaning_Functional_ev (hI : ∀ n, I64 n → E.C strconv_Itoa [.one (.int .i64 n)] (.one (.str (Lib.itoa n)))) (l : List Fact) (hs : ∀ f ∈ l, Small f.args.length) (hw : ∀ f ∈ l, f.Wf) :
    E.C meaning_Functional [.one (.lst (l.map Fact.cells))] (.one (.bool (funB l))) := by
  have hkey := fun (f : Fact) (hf : f ∈ l) => meaning_key_ev Z hI f.args (hs f hf) (hw f hf).1
  refine Z.meaning_Functional _ _ ⟨Nat.le_of_ble_eq_true rfl, ?_⟩
  generalize hR : funB l = R
  simp only [fn_meaning_Functional, go_sem, Nat.reduceEqDiff, reduceCtorEq, Nat.reduceAdd, Nat.reduceLeDiff, Nat.reduceMul, Nat.reduceLT, Int.reduceToNat, Int.reduceLT, Int.reduceLE, Int.reduceEq, Nat.reduceSub]
  intro hlen
  refine loop_named fun K' hK => ?_
  refine loop_list l (fun done => funB l = funB (l.drop done.length)) (fun done rest => ⟨[(13, .d (.int .i64 done.length)), (12, .d (.int .i64 l.length)), (11, .d (.lst (l.map Fact.cells))), (0, .d (.lst (l.map Fact.cells))), (3, .mref 10)], [(10, [.mp ty_str ty_int (match done.getLast? with | some f => [(.str (keyT f.args), .int .i64 f.res)] | none => [])])], []⟩) ?_ rfl ?_ ?_
  · exact Ent_plain (by simp only [go_sem, Nat.reduceEqDiff, reduceCtorEq, Nat.reduceAdd, Nat.reduceLeDiff, Nat.reduceMul, Nat.reduceLT, Int.reduceToNat, Int.reduceLT, Int.reduceLE, Int.reduceEq, Nat.reduceSub, Option.isSome_some, List.getLast?_nil])
  · intro done f r hl hInv
    have hlt := lt_mid hl
    have hww : IntKind.i64.wrap ((done.length : Int) + 1) = ((done.length + 1 : Nat) : Int) := wrap_succ (by omega)
    have hdr : l.drop done.length = f :: r := by rw [hl]; exact List.drop_left' rfl
    have hdr1 : l.drop (done.length + 1) = r := by rw [show done.length + 1 = (done ++ [f]).length by simp, hl, show done ++ f :: r = (done ++ [f]) ++ r by simp]; exact List.drop_left' rfl
    rw [hdr, funB] at hInv
    have hm : f ∈ l := by rw [hl]; simp
    have hn1 : ((done.length + 1 : Nat) : Int) ≤ l.length := by rw [hl]; simp; omega
    have hdm : (l.map Fact.cells).drop (done.length + 1) = r.map Fact.cells := by rw [← List.map_drop, hdr1]
    generalize (match done.getLast? with | some f => [(D.str (keyT f.args), D.int .i64 f.res)] | none => []) = kv0
    simp only [fn_meaning_Functional_L2, go_sem, Nat.reduceEqDiff, reduceCtorEq, Nat.reduceAdd, Nat.reduceLeDiff, Nat.reduceMul, Nat.reduceLT, Int.reduceToNat, Int.reduceLT, Int.reduceLE, Int.reduceEq, Nat.reduceSub, getD_at hl, hlt, Fact.cells]
    refine call_by (hkey f hm) ?_
    have hlen0 : (0 : Nat) < 9223372036854775807 := by omega
    simp only [go_sem, Nat.reduceEqDiff, reduceCtorEq, Nat.reduceAdd, Nat.reduceLeDiff, Nat.reduceMul, Nat.reduceLT, Int.reduceToNat, Int.reduceLT, Int.reduceLE, Int.reduceEq, Nat.reduceSub, hlen0, hww, hn1, hdm, Int.toNat_natCast]
    intro hlr
    refine loop_named fun K2 hK2 => ?_
    refine loop_list r (fun dn => ∀ y ∈ dn, okF f y = true) (fun dn rest => ⟨[(30, .d (.int .i64 dn.length)), (29, .d (.int .i64 r.length)), (28, .d (.lst (r.map Fact.cells))), (13, .d (.int .i64 done.length)), (12, .d (.int .i64 l.length)), (11, .d (.lst (l.map Fact.cells))), (0, .d (.lst (l.map Fact.cells))), (3, .mref 10), (5, .ptr 5 0)], [(10, [.mp ty_str ty_int [(.str (keyT f.args), .int .i64 f.res)]]), (5, [.d (.str f.name), .d (.lst (f.args.map icell)), .d (.int .i64 f.res)])], []⟩) ?_ (by simp) ?_ ?_
    · exact Ent_plain (by simp only [go_sem, Nat.reduceEqDiff, reduceCtorEq, Nat.reduceAdd, Nat.reduceLeDiff, Nat.reduceMul, Nat.reduceLT, Int.reduceToNat, Int.reduceLT, Int.reduceLE, Int.reduceEq, Nat.reduceSub, Option.isSome_some])
    · intro dn g r' hl2 hI2
      have hlt2 := lt_mid hl2
      have hw2 : IntKind.i64.wrap ((dn.length : Int) + 1) = ((dn.length + 1 : Nat) : Int) := wrap_succ (by omega)
      have hg : g ∈ l := by rw [hl, hl2]; simp
      simp only [fn_meaning_Functional_L1, go_sem, Nat.reduceEqDiff, reduceCtorEq, Nat.reduceAdd, Nat.reduceLeDiff, Nat.reduceMul, Nat.reduceLT, Int.reduceToNat, Int.reduceLT, Int.reduceLE, Int.reduceEq, Nat.reduceSub, getD_at hl2, hlt2, Fact.cells]
      refine call_by (hkey g hg) ?_
      simp only [go_sem, Nat.reduceEqDiff, reduceCtorEq, Nat.reduceAdd, Nat.reduceLeDiff, Nat.reduceMul, Nat.reduceLT, Int.reduceToNat, Int.reduceLT, Int.reduceLE, Int.reduceEq, Nat.reduceSub, mapAt_one, mapHas_one, keyT_beq]
      have hcm : (f.args == g.args) = (g.args == f.args) := BEq.comm
      have hcn : (f.name == g.name) = (g.name == f.name) := BEq.comm
      have hok : okF f g = !(g.name == f.name && g.args == f.args && f.res != g.res) := by unfold okF; rw [hcm, hcn]
      rw [hcm]
      cases ha : (g.args == f.args) with
      | false =>
        rw [ha] at hok
        simp only [go_sem, Nat.reduceEqDiff, reduceCtorEq, Nat.reduceAdd, Nat.reduceLeDiff, Nat.reduceMul, Nat.reduceLT, Int.reduceToNat, Int.reduceLT, Int.reduceLE, Int.reduceEq, Nat.reduceSub, hw2, List.length_append]
        exact ⟨Ent_plain (by simp only [go_sem, Nat.reduceEqDiff, reduceCtorEq, Nat.reduceAdd, Nat.reduceLeDiff, Nat.reduceMul, Nat.reduceLT, Int.reduceToNat, Int.reduceLT, Int.reduceLE, Int.reduceEq, Nat.reduceSub, Option.isSome_some]), app_all hI2 (by rw [hok]; simp)⟩
      | true =>
        rw [ha] at hok
        cases hb : (g.name == f.name && f.res != g.res) with
        | true =>
          have : funB l = false := by
            rw [hInv]
            have hf : okF f g = false := by rw [hok]; simp only [Bool.and_true, hb, Bool.not_true]
            have : r.all (okF f) = false := by rw [List.all_eq_false]; exact ⟨g, by rw [hl2]; simp, by rw [hf]; simp⟩
            rw [this, Bool.false_and]
          rw [this] at hR
          simp only [go_sem, Nat.reduceEqDiff, reduceCtorEq, Nat.reduceAdd, Nat.reduceLeDiff, Nat.reduceMul, Nat.reduceLT, Int.reduceToNat, Int.reduceLT, Int.reduceLE, Int.reduceEq, Nat.reduceSub, hb, hK2, hK, ← hR]
        | false =>
          simp only [go_sem, Nat.reduceEqDiff, reduceCtorEq, Nat.reduceAdd, Nat.reduceLeDiff, Nat.reduceMul, Nat.reduceLT, Int.reduceToNat, Int.reduceLT, Int.reduceLE, Int.reduceEq, Nat.reduceSub, hw2, hb, List.length_append]
          exact ⟨Ent_plain (by simp only [go_sem, Nat.reduceEqDiff, reduceCtorEq, Nat.reduceAdd, Nat.reduceLeDiff, Nat.reduceMul, Nat.reduceLT, Int.reduceToNat, Int.reduceLT, Int.reduceLE, Int.reduceEq, Nat.reduceSub, Option.isSome_some]), app_all hI2 (by rw [hok]; simp only [Bool.and_true, hb, Bool.not_false])⟩
    · intro hI2
      have hall : r.all (okF f) = true := List.all_eq_true.2 hI2
      rw [hall, Bool.true_and] at hInv
      simp only [fn_meaning_Functional_L1, go_sem, Nat.reduceEqDiff, reduceCtorEq, Nat.reduceAdd, Nat.reduceLeDiff, Nat.reduceMul, Nat.reduceLT, Int.reduceToNat, Int.reduceLT, Int.reduceLE, Int.reduceEq, Nat.reduceSub, hK2, hww, List.length_append, List.getLast?_append, List.getLast?_singleton, Option.some_or, hdr1]
      exact ⟨Ent_plain (by simp only [go_sem, Nat.reduceEqDiff, reduceCtorEq, Nat.reduceAdd, Nat.reduceLeDiff, Nat.reduceMul, Nat.reduceLT, Int.reduceToNat, Int.reduceLT, Int.reduceLE, Int.reduceEq, Nat.reduceSub, Option.isSome_some]), hInv⟩
  · intro hInv
    rw [List.drop_length, funB] at hInv
    rw [hInv] at hR
    simp only [fn_meaning_Functional_L2, go_sem, Nat.reduceEqDiff, reduceCtorEq, Nat.reduceAdd, Nat.reduceLeDiff, Nat.reduceMul, Nat.reduceLT, Int.reduceToNat, Int.reduceLT, Int.reduceLE, Int.reduceEq, Nat.reduceSub, hK, ← hR]
theorem r10_Functional_ev (l : List Fact) : E.C r10_Functional [.one (.lst (l.map Fact.cells))] (.one (.bool (funB l))) := by
  have hsame := fun (f g : Fact) => r10_same_ev Z f.args g.args
  refine Z.r10_Functional _ _ ⟨Nat.le_of_ble_eq_true rfl, ?_⟩
  generalize hR : funB l = R
  simp only [fn_r10_Functional, go_sem, Nat.reduceEqDiff, reduceCtorEq, Nat.reduceAdd, Nat.reduceLeDiff, Nat.reduceMul, Nat.reduceLT, Int.reduceToNat, Int.reduceLT, Int.reduceLE, Int.reduceEq, Nat.reduceSub]
  intro hlen
  refine loop_named fun K' hK => ?_
  refine loop_list l (fun done => funB done = true) (fun done rest => ⟨[(7, .d (.int .i64 done.length)), (6, .d (.int .i64 l.length)), (0, .d (.lst (l.map Fact.cells)))], [], []⟩) ?_ rfl ?_ ?_
  · exact Ent_plain (by simp only [go_sem, Nat.reduceEqDiff, reduceCtorEq, Nat.reduceAdd, Nat.reduceLeDiff, Nat.reduceMul, Nat.reduceLT, Int.reduceToNat, Int.reduceLT, Int.reduceLE, Int.reduceEq, Nat.reduceSub])
  · intro done f r hl hInv
    have hlt := lt_mid hl
    have hww : IntKind.i64.wrap ((done.length : Int) + 1) = ((done.length + 1 : Nat) : Int) := wrap_succ (by omega)
    simp only [fn_r10_Functional_L2, go_sem, Nat.reduceEqDiff, reduceCtorEq, Nat.reduceAdd, Nat.reduceLeDiff, Nat.reduceMul, Nat.reduceLT, Int.reduceToNat, Int.reduceLT, Int.reduceLE, Int.reduceEq, Nat.reduceSub, hlt]
    refine loop_named fun K2 hK2 => ?_
    refine loop_list done (fun dn => ∀ y ∈ dn, okF f y = true) (fun dn rest => ⟨[(11, .d (.int .i64 dn.length)), (10, .d (.int .i64 done.length)), (7, .d (.int .i64 done.length)), (3, .d (.int .i64 done.length)), (6, .d (.int .i64 l.length)), (0, .d (.lst (l.map Fact.cells)))], [], []⟩) ?_ (by simp) ?_ ?_
    · exact Ent_plain (by simp only [go_sem, Nat.reduceEqDiff, reduceCtorEq, Nat.reduceAdd, Nat.reduceLeDiff, Nat.reduceMul, Nat.reduceLT, Int.reduceToNat, Int.reduceLT, Int.reduceLE, Int.reduceEq, Nat.reduceSub])
    · intro dn g r' hl2 hI2
      have hlt2 := lt_mid hl2
      have hw2 : IntKind.i64.wrap ((dn.length : Int) + 1) = ((dn.length + 1 : Nat) : Int) := wrap_succ (by omega)
      have hlg : l = dn ++ g :: (r' ++ f :: r) := by rw [hl, hl2]; simp
      have hlt3 := lt_mid hlg
      simp only [fn_r10_Functional_L1, go_sem, Nat.reduceEqDiff, reduceCtorEq, Nat.reduceAdd, Nat.reduceLeDiff, Nat.reduceMul, Nat.reduceLT, Int.reduceToNat, Int.reduceLT, Int.reduceLE, Int.reduceEq, Nat.reduceSub, getD_at hl, getD_at hlg, hlt, hlt2, hlt3, Fact.cells]
      refine call_g (hsame f g) ?_
      simp only [go_sem, Nat.reduceEqDiff, reduceCtorEq, Nat.reduceAdd, Nat.reduceLeDiff, Nat.reduceMul, Nat.reduceLT, Int.reduceToNat, Int.reduceLT, Int.reduceLE, Int.reduceEq, Nat.reduceSub, getD_at hl, getD_at hlg, hlt, hlt2, hlt3, Fact.cells]
      cases hb : (f.name == g.name && f.args == g.args && f.res != g.res) with
      | true =>
        have hok : okF f g = false := by unfold okF; rw [hb]; rfl
        have : funB l = false := by
          rw [hl, show done ++ f :: r = (done ++ [f]) ++ r by simp]
          refine funB_app_false ?_
          rw [funB_snoc, hInv, Bool.true_and, List.all_eq_false]
          exact ⟨g, by rw [hl2]; simp, by rw [hok]; simp⟩
        rw [this] at hR
        simp only [go_sem, Nat.reduceEqDiff, reduceCtorEq, Nat.reduceAdd, Nat.reduceLeDiff, Nat.reduceMul, Nat.reduceLT, Int.reduceToNat, Int.reduceLT, Int.reduceLE, Int.reduceEq, Nat.reduceSub, hK2, hK, ← hR]
      | false =>
        simp only [go_sem, Nat.reduceEqDiff, reduceCtorEq, Nat.reduceAdd, Nat.reduceLeDiff, Nat.reduceMul, Nat.reduceLT, Int.reduceToNat, Int.reduceLT, Int.reduceLE, Int.reduceEq, Nat.reduceSub, hw2, List.length_append]
        exact ⟨Ent_plain (by simp only [go_sem, Nat.reduceEqDiff, reduceCtorEq, Nat.reduceAdd, Nat.reduceLeDiff, Nat.reduceMul, Nat.reduceLT, Int.reduceToNat, Int.reduceLT, Int.reduceLE, Int.reduceEq, Nat.reduceSub]), app_all hI2 (by unfold okF; rw [hb]; rfl)⟩
    · intro hI2
      have hall : done.all (okF f) = true := List.all_eq_true.2 hI2
      simp only [fn_r10_Functional_L1, go_sem, Nat.reduceEqDiff, reduceCtorEq, Nat.reduceAdd, Nat.reduceLeDiff, Nat.reduceMul, Nat.reduceLT, Int.reduceToNat, Int.reduceLT, Int.reduceLE, Int.reduceEq, Nat.reduceSub, hK2, hww, List.length_append]
      refine ⟨Ent_plain (by simp only [go_sem, Nat.reduceEqDiff, reduceCtorEq, Nat.reduceAdd, Nat.reduceLeDiff, Nat.reduceMul, Nat.reduceLT, Int.reduceToNat, Int.reduceLT, Int.reduceLE, Int.reduceEq, Nat.reduceSub]), ?_⟩
      rw [funB_snoc, hInv, hall]; rfl
  · intro hInv
    rw [hInv] at hR
    simp only [fn_r10_Functional_L2, go_sem, Nat.reduceEqDiff, reduceCtorEq, Nat.reduceAdd, Nat.reduceLeDiff, Nat.reduceMul, Nat.reduceLT, Int.reduceToNat, Int.reduceLT, Int.reduceLE, Int.reduceEq, Nat.reduceSub, hK, ← hR]
end Go.Abs
end
section
set_option linter.unusedSimpArgs false
set_option linter.unusedVariables false
set_option linter.unusedSectionVars false
namespace Go.Abs
def pn (k : Int) : Pred := .mk 1 [] k []
def pop (o : Int) (l : List Pred) : Pred := .mk o [] 0 l
/-- what the laws of layer 10 need -/
structure Law10 (E : AEnv) : Prop where
  sys : Sys E
  G0 : E.G 0 = some (kws.map .str)
  it : ∀ p, E.It pred_before_1 [.ref (Pred.cells p)] (yields p.pre)
  itoa : ∀ n, I64 n → E.C strconv_Itoa [.one (.int .i64 n)] (.one (.str (Lib.itoa n)))
theorem few_small {p : Pred} {at' : List Coef} {fs : List Fact} (h : fewB p at' fs = true) : (∀ f ∈ fs, f.args.length ≤ 60) ∧ at'.length ≤ 60 ∧ fs.length ≤ 60 ∧ p.nodes ≤ 600 := by
  unfold fewB at h
  simp only [Bool.and_eq_true, List.all_eq_true, Bool.not_eq_true', decide_eq_false_iff_not, decide_eq_true_eq] at h
  obtain ⟨h1, ⟨h2, h3⟩, h4⟩ := h
  exact ⟨fun f hf => by have := h1 f hf; omega, by omega, by omega, h2⟩
theorem papp_cells (s : Str) (l : List Pred) : Pred.cells (papp s l) = [.int .i64 4, .str s, .int .i64 0, .lst (l.map Pred.cells)] := by rw [papp, Pred.cells_eq]; rfl
def exFact : Fact := ⟨[108, 101, 110], [7], 2⟩
def exQ : Pred := pop 10 [papp [108, 101, 110] [pv [108]], pn 2]
set_option maxRecDepth 100000
variable {E : AEnv} (L : Law10 E)
include L
theorem l10_x_ev (s : Str) : E.C l10_x [.one (.str s)] (.agg (pv s).cells) := by
  refine L.sys.l10_x _ _ ⟨Nat.le_of_ble_eq_true rfl, ?_⟩
  simp only [fn_l10_x, go_sem, Nat.reduceEqDiff, reduceCtorEq, Nat.reduceAdd, Nat.reduceLeDiff, Nat.reduceMul, Nat.reduceLT, Int.reduceToNat, Int.reduceLT, Int.reduceLE, Int.reduceEq, Nat.reduceSub, pv, Pred.cells_eq, Pred.op, Pred.name, Pred.n, Pred.kids]
theorem l10_n_ev (k : Int) : E.C l10_n [.one (.int .i64 k)] (.agg (pn k).cells) := by
  refine L.sys.l10_n _ _ ⟨Nat.le_of_ble_eq_true rfl, ?_⟩
  simp only [fn_l10_n, go_sem, Nat.reduceEqDiff, reduceCtorEq, Nat.reduceAdd, Nat.reduceLeDiff, Nat.reduceMul, Nat.reduceLT, Int.reduceToNat, Int.reduceLT, Int.reduceLE, Int.reduceEq, Nat.reduceSub, pn, Pred.cells_eq, Pred.op, Pred.name, Pred.n, Pred.kids]
theorem l10_op_ev (o : Int) (l : List Pred) : E.C l10_op [.one (.int .i64 o), .one (.lst (l.map Pred.cells))] (.agg (pop o l).cells) := by
  refine L.sys.l10_op _ _ ⟨Nat.le_of_ble_eq_true rfl, ?_⟩
  simp only [fn_l10_op, go_sem, Nat.reduceEqDiff, reduceCtorEq, Nat.reduceAdd, Nat.reduceLeDiff, Nat.reduceMul, Nat.reduceLT, Int.reduceToNat, Int.reduceLT, Int.reduceLE, Int.reduceEq, Nat.reduceSub, pop, Pred.cells_eq (.mk o [] 0 l), Pred.op, Pred.name, Pred.n, Pred.kids]
theorem Law10.eval (at' : List Coef) (fs : List Fact) (p : Pred) : E.C meaning_Eval [.agg p.cells, .one (.lst (at'.map Coef.cells)), .one (.lst (fs.map Fact.cells))] (res2 (EvalS at' fs p)) := meaning_Eval_ev L.sys L.G0 L.it at' fs p
theorem Law10.holds (at' : List Coef) (fs : List Fact) (p : Pred) : E.C meaning_Holds [.agg p.cells, .one (.lst (at'.map Coef.cells)), .one (.lst (fs.map Fact.cells))] (.tup [.one (.bool (HoldsS at' fs p).1), .one (.bool (HoldsS at' fs p).2)]) := meaning_Holds_ev L.sys L.G0 L.it at' fs p
theorem Law10.alive : E.C l10_alive [] (.one (.bool true)) := by
  have n2 := l10_n_ev L 2
  have n1 := l10_n_ev L 1
  have vx := l10_x_ev L [120]
  have vl := l10_x_ev L [108]
  have o1 := l10_op_ev L 8 [pn 2, pv [120]]
  have o2 := l10_op_ev L 7 [pop 8 [pn 2, pv [120]], pn 1]
  have o3 := l10_op_ev L 6 [pv [120], pn 1]
  have o4 := l10_op_ev L 10 [papp [108, 101, 110] [pv [108]], pn 2]
  have e1 := L.eval [⟨[120], 3⟩] [] (pop 7 [pop 8 [pn 2, pv [120]], pn 1])
  have e2 := L.eval [⟨[120], 1000000000000⟩] [] (pop 6 [pv [120], pn 1])
  have e3 := L.holds [⟨[108], 7⟩] [exFact] exQ
  have e4 := L.holds [⟨[108], 8⟩] [exFact] exQ
  have e5 := L.holds [] [] zeroP
  have e6 := meaning_Functional_ev L.sys L.itoa [exFact] (by unfold Small exFact; simp) (by
    intro f hf
    simp only [List.mem_singleton] at hf
    subst hf
    refine ⟨?_, by unfold I64 exFact; simp⟩
    intro n hn; simp [exFact] at hn; subst hn; unfold I64; omega)
  rw [show EvalS [⟨[120], 3⟩] [] (pop 7 [pop 8 [pn 2, pv [120]], pn 1]) = (5, true) by kernel_rfl] at e1
  rw [show EvalS [⟨[120], 1000000000000⟩] [] (pop 6 [pv [120], pn 1]) = (0, false) by kernel_rfl] at e2
  rw [show HoldsS [⟨[108], 7⟩] [exFact] exQ = (true, true) by kernel_rfl] at e3
  rw [show HoldsS [⟨[108], 8⟩] [exFact] exQ = (false, false) by kernel_rfl] at e4
  rw [show HoldsS [] [] zeroP = (true, true) by kernel_rfl] at e5
  rw [show funB [exFact] = true by kernel_rfl] at e6
  have e0 : Pred.cells zeroP = [.int .i64 0, .str [], .int .i64 0, .lst []] := by rw [Pred.cells_eq]; rfl
  rw [e0] at e5
  unfold exQ at e3 e4
  simp only [List.map_cons, List.map_nil, papp_cells] at o1 o2 o3 o4
  simp only [List.map_cons, List.map_nil, Coef.cells, Fact.cells, exFact, icell, res2] at e1 e2 e3 e4 e5 e6
  refine L.sys.l10_alive _ _ ⟨Nat.le_of_ble_eq_true rfl, ?_⟩
  simp only [fn_l10_alive, go_sem, Nat.reduceEqDiff, reduceCtorEq, Nat.reduceAdd, Nat.reduceLeDiff, Nat.reduceMul, Nat.reduceLT, Int.reduceToNat, Int.reduceLT, Int.reduceLE, Int.reduceEq, Nat.reduceSub]
  repeat
    first
      | refine call_by n2 ?_
      | refine call_by n1 ?_
      | refine call_by vx ?_
      | refine call_by vl ?_
      | refine call_by o1 ?_
      | refine call_by o2 ?_
      | refine call_by o3 ?_
      | refine call_by o4 ?_
      | refine call_by e1 ?_
      | refine call_by e2 ?_
      | refine call_by e3 ?_
      | refine call_by e4 ?_
      | refine call_by e5 ?_
      | refine call_by e6 ?_
    try simp only [go_sem, Nat.reduceEqDiff, reduceCtorEq, Nat.reduceAdd, Nat.reduceLeDiff, Nat.reduceMul, Nat.reduceLT, Int.reduceToNat, Int.reduceLT, Int.reduceLE, Int.reduceEq, Nat.reduceSub, beq_self_eq_true]
theorem MeaningValues_ev (p : Pred) (at' : List Coef) (fs : List Fact) : E.C l10_MeaningValues [.agg p.cells, .one (.lst (at'.map Coef.cells)), .one (.lst (fs.map Fact.cells))] (.one (.bool true)) := by
  have hf := l10_few_ev L.sys p at' fs
  have hal := L.alive
  have h1 := L.eval at' fs p
  have h2 := r10_Eval_ev L.sys at' fs p
  have h3 := L.holds at' fs p
  have h4 := r10_Holds_ev L.sys at' fs p
  refine L.sys.l10_MeaningValues _ _ ⟨Nat.le_of_ble_eq_true rfl, ?_⟩
  generalize EvalS at' fs p = R1 at *
  generalize HoldsS at' fs p = R2 at *
  obtain ⟨o, s, n, ks⟩ := p
  unfold res2 at *
  rw [Pred.cells_eq] at *
  simp only [fn_l10_MeaningValues, go_sem, Nat.reduceEqDiff, reduceCtorEq, Nat.reduceAdd, Nat.reduceLeDiff, Nat.reduceMul, Nat.reduceLT, Int.reduceToNat, Int.reduceLT, Int.reduceLE, Int.reduceEq, Nat.reduceSub, Pred.op, Pred.name, Pred.n, Pred.kids] at *
  refine call_by hf ?_
  cases c0 : fewB (.mk o s n ks) at' fs with
  | false =>
    simp only [go_sem, Nat.reduceEqDiff, reduceCtorEq, Nat.reduceAdd, Nat.reduceLeDiff, Nat.reduceMul, Nat.reduceLT, Int.reduceToNat, Int.reduceLT, Int.reduceLE, Int.reduceEq, Nat.reduceSub]
    refine call_by hal ?_
    simp only [go_sem, Nat.reduceEqDiff, reduceCtorEq, Nat.reduceAdd, Nat.reduceLeDiff, Nat.reduceMul, Nat.reduceLT, Int.reduceToNat, Int.reduceLT, Int.reduceLE, Int.reduceEq, Nat.reduceSub]
  | true =>
    simp only [go_sem, Nat.reduceEqDiff, reduceCtorEq, Nat.reduceAdd, Nat.reduceLeDiff, Nat.reduceMul, Nat.reduceLT, Int.reduceToNat, Int.reduceLT, Int.reduceLE, Int.reduceEq, Nat.reduceSub]
    refine call_by h1 ?_
    simp only [go_sem, Nat.reduceEqDiff, reduceCtorEq, Nat.reduceAdd, Nat.reduceLeDiff, Nat.reduceMul, Nat.reduceLT, Int.reduceToNat, Int.reduceLT, Int.reduceLE, Int.reduceEq, Nat.reduceSub]
    refine call_by h2 ?_
    simp only [go_sem, Nat.reduceEqDiff, reduceCtorEq, Nat.reduceAdd, Nat.reduceLeDiff, Nat.reduceMul, Nat.reduceLT, Int.reduceToNat, Int.reduceLT, Int.reduceLE, Int.reduceEq, Nat.reduceSub]
    refine call_by h3 ?_
    simp only [go_sem, Nat.reduceEqDiff, reduceCtorEq, Nat.reduceAdd, Nat.reduceLeDiff, Nat.reduceMul, Nat.reduceLT, Int.reduceToNat, Int.reduceLT, Int.reduceLE, Int.reduceEq, Nat.reduceSub]
    refine call_by h4 ?_
    simp only [go_sem, Nat.reduceEqDiff, reduceCtorEq, Nat.reduceAdd, Nat.reduceLeDiff, Nat.reduceMul, Nat.reduceLT, Int.reduceToNat, Int.reduceLT, Int.reduceLE, Int.reduceEq, Nat.reduceSub, beq_self_eq_true]
    refine call_by hal ?_
    simp only [go_sem, Nat.reduceEqDiff, reduceCtorEq, Nat.reduceAdd, Nat.reduceLeDiff, Nat.reduceMul, Nat.reduceLT, Int.reduceToNat, Int.reduceLT, Int.reduceLE, Int.reduceEq, Nat.reduceSub, beq_self_eq_true]
theorem MeaningFinds_ev (at' : List Coef) (s : Str) (fs : List Fact) (hw : ∀ f ∈ fs, f.Wf) : E.C l10_MeaningFinds [.one (.lst (at'.map Coef.cells)), .one (.str s), .one (.lst (fs.map Fact.cells))] (.one (.bool true)) := by
  have hf := l10_few_ev L.sys zeroP at' fs
  have hal := L.alive
  have h1 := meaning_Find_ev L.sys at' s
  have h2 := r10_Find_ev L.sys at' s
  have h3 := fun h => meaning_Functional_ev L.sys L.itoa fs h hw
  have h4 := r10_Functional_ev L.sys fs
  have hsm := @few_small zeroP at' fs
  refine L.sys.l10_MeaningFinds _ _ ⟨Nat.le_of_ble_eq_true rfl, ?_⟩
  generalize findC s at' = R1 at *
  generalize funB fs = R2 at *
  unfold res2 at *
  have e0 : Pred.cells zeroP = [.int .i64 0, .str [], .int .i64 0, .lst []] := by rw [Pred.cells_eq]; rfl
  rw [e0] at hf
  simp only [fn_l10_MeaningFinds, go_sem, Nat.reduceEqDiff, reduceCtorEq, Nat.reduceAdd, Nat.reduceLeDiff, Nat.reduceMul, Nat.reduceLT, Int.reduceToNat, Int.reduceLT, Int.reduceLE, Int.reduceEq, Nat.reduceSub] at *
  refine call_by hf ?_
  cases c0 : fewB zeroP at' fs with
  | false =>
    simp only [go_sem, Nat.reduceEqDiff, reduceCtorEq, Nat.reduceAdd, Nat.reduceLeDiff, Nat.reduceMul, Nat.reduceLT, Int.reduceToNat, Int.reduceLT, Int.reduceLE, Int.reduceEq, Nat.reduceSub]
    refine call_by hal ?_
    simp only [go_sem, Nat.reduceEqDiff, reduceCtorEq, Nat.reduceAdd, Nat.reduceLeDiff, Nat.reduceMul, Nat.reduceLT, Int.reduceToNat, Int.reduceLT, Int.reduceLE, Int.reduceEq, Nat.reduceSub]
  | true =>
    have h3 := h3 fun f hf => by have := (hsm c0).1 f hf; unfold Small; omega
    simp only [go_sem, Nat.reduceEqDiff, reduceCtorEq, Nat.reduceAdd, Nat.reduceLeDiff, Nat.reduceMul, Nat.reduceLT, Int.reduceToNat, Int.reduceLT, Int.reduceLE, Int.reduceEq, Nat.reduceSub]
    refine call_by h1 ?_
    simp only [go_sem, Nat.reduceEqDiff, reduceCtorEq, Nat.reduceAdd, Nat.reduceLeDiff, Nat.reduceMul, Nat.reduceLT, Int.reduceToNat, Int.reduceLT, Int.reduceLE, Int.reduceEq, Nat.reduceSub]
    refine call_by h2 ?_
    simp only [go_sem, Nat.reduceEqDiff, reduceCtorEq, Nat.reduceAdd, Nat.reduceLeDiff, Nat.reduceMul, Nat.reduceLT, Int.reduceToNat, Int.reduceLT, Int.reduceLE, Int.reduceEq, Nat.reduceSub, beq_self_eq_true]
    refine call_by h3 ?_
    simp only [go_sem, Nat.reduceEqDiff, reduceCtorEq, Nat.reduceAdd, Nat.reduceLeDiff, Nat.reduceMul, Nat.reduceLT, Int.reduceToNat, Int.reduceLT, Int.reduceLE, Int.reduceEq, Nat.reduceSub]
    refine call_by h4 ?_
    simp only [go_sem, Nat.reduceEqDiff, reduceCtorEq, Nat.reduceAdd, Nat.reduceLeDiff, Nat.reduceMul, Nat.reduceLT, Int.reduceToNat, Int.reduceLT, Int.reduceLE, Int.reduceEq, Nat.reduceSub, beq_self_eq_true]
    refine call_by hal ?_
    simp only [go_sem, Nat.reduceEqDiff, reduceCtorEq, Nat.reduceAdd, Nat.reduceLeDiff, Nat.reduceMul, Nat.reduceLT, Int.reduceToNat, Int.reduceLT, Int.reduceLE, Int.reduceEq, Nat.reduceSub, beq_self_eq_true]
end Go.Abs
end
section
set_option linter.unusedSimpArgs false
set_option linter.unusedVariables false
set_option linter.unusedSectionVars false
namespace Go.Abs
/-! ## predicates that are put together: the reference -/
theorem falseP_cells : Pred.cells falseP = [.int .i64 2, .str [], .int .i64 0, .lst []] := by rw [Pred.cells_eq]; rfl
theorem trueP_cells : Pred.cells trueP = [.int .i64 2, .str [], .int .i64 1, .lst []] := by rw [Pred.cells_eq]; rfl
theorem zeroP_cells : Pred.cells zeroP = [.int .i64 0, .str [], .int .i64 0, .lst []] := by rw [Pred.cells_eq]; rfl
theorem void_false : voidP falseP = false := by decide +kernel
theorem isFalse_eq (p : Pred) : isFalse p = p.same falseP := by
  unfold isFalse
  cases h : p.same falseP with
  | false => simp
  | true => rw [(Pred.same_iff _ _).1 h, void_false]; rfl
theorem void_and (a b : Pred) : voidP (.mk 15 [] 0 [a, b]) = false := by
  unfold voidP zeroP trueP
  rw [Pred.same_eq, Pred.same_eq]; simp
theorem andGo_void (l : List Pred) : voidP (andGo l).1 = !(andGo l).2 := by
  have key : ∀ (l : List Pred) (x : Pred × Bool), voidP x.1 = !x.2 → voidP (l.foldl andStp x).1 = !(l.foldl andStp x).2 := by
    intro l
    induction l with
    | nil => intro x h; exact h
    | cons p l ih =>
      intro x h
      rw [List.foldl_cons]
      refine ih _ ?_
      unfold andStp
      split
      · exact h
      · rename_i hv
        split
        · exact void_and _ _
        · simpa using hv
  exact key l (trueP, false) (by decide +kernel)
/-- variables replaced at once -/
def subAll (names : List Str) (by' : List Pred) : Pred → Pred
  | .mk o s n ks => if o == 3 && (decide (findIx s 0 names ≥ 0) && decide (findIx s 0 names < by'.length)) then by'.getD (findIx s 0 names).toNat zeroP else .mk o s n (subs ks)
where
  subs : List Pred → List Pred
  | [] => []
  | k :: ks => subAll names by' k :: subs ks
theorem subAll_eq (names : List Str) (by' : List Pred) (o : Int) (s : Str) (n : Int) (ks : List Pred) : subAll names by' (.mk o s n ks) =
    if o == 3 && (decide (findIx s 0 names ≥ 0) && decide (findIx s 0 names < by'.length)) then by'.getD (findIx s 0 names).toNat zeroP else .mk o s n (ks.map (subAll names by')) := by
  rw [subAll]
  have : subAll.subs names by' ks = ks.map (subAll names by') := by
    induction ks with
    | nil => rfl
    | cons k ks ih => rw [subAll.subs, ih]; rfl
  rw [this]
def tcell (s : Str) : List D := [.str s]
theorem getD_mapP (l : List Pred) (i : Nat) (h : i < l.length) : (l.map Pred.cells).getD i [] = Pred.cells (l.getD i zeroP) := by
  simp [List.getD_eq_getElem?_getD, h]
theorem drop_cells (p : Pred) : List.drop 4 (p.cells.map AV.d) = [] := List.drop_eq_nil_of_le (by simp [Pred.cells_length])
set_option maxRecDepth 100000
variable {E : AEnv} (Z : Sys E)
include Z
theorem r07_True_ev : E.C r07_True [] (.agg (Pred.cells trueP)) := by
  refine Z.r07_True _ _ ⟨Nat.le_of_ble_eq_true rfl, ?_⟩
  rw [trueP_cells]
  simp only [fn_r07_True, go_sem, Nat.reduceEqDiff, reduceCtorEq, Nat.reduceAdd, Nat.reduceLeDiff, Nat.reduceMul, Nat.reduceLT, Int.reduceToNat, Int.reduceLT, Int.reduceLE, Int.reduceEq, Nat.reduceSub]
theorem r07_False_ev : E.C r07_False [] (.agg (Pred.cells falseP)) := by
  refine Z.r07_False _ _ ⟨Nat.le_of_ble_eq_true rfl, ?_⟩
  rw [falseP_cells]
  simp only [fn_r07_False, go_sem, Nat.reduceEqDiff, reduceCtorEq, Nat.reduceAdd, Nat.reduceLeDiff, Nat.reduceMul, Nat.reduceLT, Int.reduceToNat, Int.reduceLT, Int.reduceLE, Int.reduceEq, Nat.reduceSub]
theorem r07_Void_ev (p : Pred) : E.C r07_Void [.agg (Pred.cells p)] (.one (.bool (voidP p))) := by
  have h0 := r07_Same_ev Z p zeroP
  have h1 := r07_Same_ev Z p trueP
  have h2 := r07_True_ev Z
  refine Z.r07_Void _ _ ⟨Nat.le_of_ble_eq_true rfl, ?_⟩
  generalize hR : voidP p = R
  unfold voidP at hR
  rw [Bool.or_comm] at hR
  rw [zeroP_cells] at h0
  rw [trueP_cells] at h1 h2
  rw [Pred.cells_eq p] at *
  simp only [fn_r07_Void, go_sem, Nat.reduceEqDiff, reduceCtorEq, Nat.reduceAdd, Nat.reduceLeDiff, Nat.reduceMul, Nat.reduceLT, Int.reduceToNat, Int.reduceLT, Int.reduceLE, Int.reduceEq, Nat.reduceSub]
  refine call_by h2 ?_
  simp only [go_sem, Nat.reduceEqDiff, reduceCtorEq, Nat.reduceAdd, Nat.reduceLeDiff, Nat.reduceMul, Nat.reduceLT, Int.reduceToNat, Int.reduceLT, Int.reduceLE, Int.reduceEq, Nat.reduceSub]
  refine call_by h1 ?_
  simp only [go_sem, Nat.reduceEqDiff, reduceCtorEq, Nat.reduceAdd, Nat.reduceLeDiff, Nat.reduceMul, Nat.reduceLT, Int.reduceToNat, Int.reduceLT, Int.reduceLE, Int.reduceEq, Nat.reduceSub]
  refine call_gi (fun _ => h0) ?_
  simp only [go_sem, Nat.reduceEqDiff, reduceCtorEq, Nat.reduceAdd, Nat.reduceLeDiff, Nat.reduceMul, Nat.reduceLT, Int.reduceToNat, Int.reduceLT, Int.reduceLE, Int.reduceEq, Nat.reduceSub, hR]
theorem r07_Not_ev (p : Pred) : E.C r07_Not [.agg (Pred.cells p)] (.agg (Pred.cells (notP p))) := by
  have h0 := r07_Void_ev Z p
  have h1 := r07_True_ev Z
  have h2 := r07_False_ev Z
  have h3 := r07_Same_ev Z p falseP
  refine Z.r07_Not _ _ ⟨Nat.le_of_ble_eq_true rfl, ?_⟩
  generalize hR : notP p = R
  unfold notP at hR
  obtain ⟨o, s, n, ks⟩ := p
  rw [Pred.cells_eq (.mk o s n ks)] at *
  rw [trueP_cells] at h1
  rw [falseP_cells] at h2 h3
  simp only [fn_r07_Not, go_sem, Nat.reduceEqDiff, reduceCtorEq, Nat.reduceAdd, Nat.reduceLeDiff, Nat.reduceMul, Nat.reduceLT, Int.reduceToNat, Int.reduceLT, Int.reduceLE, Int.reduceEq, Nat.reduceSub, Pred.op, Pred.name, Pred.n, Pred.kids] at hR h0 h3 ⊢
  intro hlen
  cases c1 : (o == 14 && (ks.length : Int) == 1) with
  | true =>
    simp only [c1, go_sem, Nat.reduceEqDiff, reduceCtorEq, Nat.reduceAdd, Nat.reduceLeDiff, Nat.reduceMul, Nat.reduceLT, Int.reduceToNat, Int.reduceLT, Int.reduceLE, Int.reduceEq, Nat.reduceSub] at hR ⊢
    obtain ⟨k, rfl⟩ : ∃ k, ks = [k] := one_split (by simp at c1; omega)
    subst hR
    simp only [go_sem, Nat.reduceEqDiff, reduceCtorEq, Nat.reduceAdd, Nat.reduceLeDiff, Nat.reduceMul, Nat.reduceLT, Int.reduceToNat, Int.reduceLT, Int.reduceLE, Int.reduceEq, Nat.reduceSub, Pred.cells_eq k]
  | false =>
  simp only [c1, go_sem, Nat.reduceEqDiff, reduceCtorEq, Nat.reduceAdd, Nat.reduceLeDiff, Nat.reduceMul, Nat.reduceLT, Int.reduceToNat, Int.reduceLT, Int.reduceLE, Int.reduceEq, Nat.reduceSub] at hR ⊢
  refine call_by h0 ?_
  cases c2 : voidP (.mk o s n ks) with
  | true =>
    simp only [c2, go_sem, Nat.reduceEqDiff, reduceCtorEq, Nat.reduceAdd, Nat.reduceLeDiff, Nat.reduceMul, Nat.reduceLT, Int.reduceToNat, Int.reduceLT, Int.reduceLE, Int.reduceEq, Nat.reduceSub] at hR ⊢
    refine call_by h2 ?_
    subst hR
    simp only [go_sem, Nat.reduceEqDiff, reduceCtorEq, Nat.reduceAdd, Nat.reduceLeDiff, Nat.reduceMul, Nat.reduceLT, Int.reduceToNat, Int.reduceLT, Int.reduceLE, Int.reduceEq, Nat.reduceSub, falseP_cells]
  | false =>
  simp only [c2, go_sem, Nat.reduceEqDiff, reduceCtorEq, Nat.reduceAdd, Nat.reduceLeDiff, Nat.reduceMul, Nat.reduceLT, Int.reduceToNat, Int.reduceLT, Int.reduceLE, Int.reduceEq, Nat.reduceSub] at hR ⊢
  refine call_by h2 ?_
  simp only [go_sem, Nat.reduceEqDiff, reduceCtorEq, Nat.reduceAdd, Nat.reduceLeDiff, Nat.reduceMul, Nat.reduceLT, Int.reduceToNat, Int.reduceLT, Int.reduceLE, Int.reduceEq, Nat.reduceSub]
  refine call_by h3 ?_
  cases c3 : (Pred.mk o s n ks).same falseP with
  | true =>
    simp only [c3, go_sem, Nat.reduceEqDiff, reduceCtorEq, Nat.reduceAdd, Nat.reduceLeDiff, Nat.reduceMul, Nat.reduceLT, Int.reduceToNat, Int.reduceLT, Int.reduceLE, Int.reduceEq, Nat.reduceSub] at hR ⊢
    refine call_by h1 ?_
    subst hR
    simp only [go_sem, Nat.reduceEqDiff, reduceCtorEq, Nat.reduceAdd, Nat.reduceLeDiff, Nat.reduceMul, Nat.reduceLT, Int.reduceToNat, Int.reduceLT, Int.reduceLE, Int.reduceEq, Nat.reduceSub, trueP_cells]
  | false =>
    simp only [c3, go_sem, Nat.reduceEqDiff, reduceCtorEq, Nat.reduceAdd, Nat.reduceLeDiff, Nat.reduceMul, Nat.reduceLT, Int.reduceToNat, Int.reduceLT, Int.reduceLE, Int.reduceEq, Nat.reduceSub] at hR ⊢
    subst hR
    rw [Pred.cells_eq (.mk 14 [] 0 [.mk o s n ks])]
    simp only [go_sem, Nat.reduceEqDiff, reduceCtorEq, Nat.reduceAdd, Nat.reduceLeDiff, Nat.reduceMul, Nat.reduceLT, Int.reduceToNat, Int.reduceLT, Int.reduceLE, Int.reduceEq, Nat.reduceSub, Pred.op, Pred.name, Pred.n, Pred.kids, Pred.cells_eq (.mk o s n ks)]
theorem r07_And_ev (l : List Pred) : E.C r07_And [.one (.lst (l.map Pred.cells))] (.agg (andP l).cells) := by
  have hv := r07_Void_ev Z
  have hs := r07_Same_ev Z
  have ht := r07_True_ev Z
  have hf := r07_False_ev Z
  refine Z.r07_And _ _ ⟨Nat.le_of_ble_eq_true rfl, ?_⟩
  generalize hR : andP l = R
  unfold andP at hR
  simp only [fn_r07_And, go_sem, Nat.reduceEqDiff, reduceCtorEq, Nat.reduceAdd, Nat.reduceLeDiff, Nat.reduceMul, Nat.reduceLT, Int.reduceToNat, Int.reduceLT, Int.reduceLE, Int.reduceEq, Nat.reduceSub]
  refine call_by ht ?_
  simp only [go_sem, Nat.reduceEqDiff, reduceCtorEq, Nat.reduceAdd, Nat.reduceLeDiff, Nat.reduceMul, Nat.reduceLT, Int.reduceToNat, Int.reduceLT, Int.reduceLE, Int.reduceEq, Nat.reduceSub]
  intro hlen
  refine loop_named fun K' hK => ?_
  refine loop_list l (fun done => ∀ y ∈ done, isFalse y = false) (fun done rest => ⟨[(9, .d (.int .i64 done.length)), (8, .d (.int .i64 l.length)), (7, .d (.lst (l.map Pred.cells))), (3, .ptr 3 0), (2, .ptr 2 0)], [(3, (Pred.cells (andGo done).1).map .d), (2, [.d (.int .i64 0), .d (.str []), .d (.int .i64 0), .full []])], []⟩) ?_ (by simp) ?_ ?_
  · exact Ent_plain (by simp only [go_sem, Nat.reduceEqDiff, reduceCtorEq, Nat.reduceAdd, Nat.reduceLeDiff, Nat.reduceMul, Nat.reduceLT, Int.reduceToNat, Int.reduceLT, Int.reduceLE, Int.reduceEq, Nat.reduceSub, Option.isSome_some, andGo, List.foldl_nil])
  · intro done k r hl hI
    have hlt := lt_mid hl
    have hw : IntKind.i64.wrap ((done.length : Int) + 1) = ((done.length + 1 : Nat) : Int) := wrap_succ (by omega)
    rw [any_mid hl hI] at hR
    have hgv := andGo_void done
    have hgs : andGo (done ++ [k]) = andStp (andGo done) k := andGo_app done k
    simp only [fn_r07_And_L1, go_sem, Nat.reduceEqDiff, reduceCtorEq, Nat.reduceAdd, Nat.reduceLeDiff, Nat.reduceMul, Nat.reduceLT, Int.reduceToNat, Int.reduceLT, Int.reduceLE, Int.reduceEq, Nat.reduceSub, hlt, getD_midP hl]
    refine call_by hf ?_
    simp only [go_sem, Nat.reduceEqDiff, reduceCtorEq, Nat.reduceAdd, Nat.reduceLeDiff, Nat.reduceMul, Nat.reduceLT, Int.reduceToNat, Int.reduceLT, Int.reduceLE, Int.reduceEq, Nat.reduceSub]
    refine call_by (hs k falseP) ?_
    cases c0 : k.same falseP with
    | true =>
      simp only [isFalse_eq, c0, go_sem, Nat.reduceEqDiff, reduceCtorEq, Nat.reduceAdd, Nat.reduceLeDiff, Nat.reduceMul, Nat.reduceLT, Int.reduceToNat, Int.reduceLT, Int.reduceLE, Int.reduceEq, Nat.reduceSub] at hR ⊢
      refine call_by hf ?_
      simp only [go_sem, Nat.reduceEqDiff, reduceCtorEq, Nat.reduceAdd, Nat.reduceLeDiff, Nat.reduceMul, Nat.reduceLT, Int.reduceToNat, Int.reduceLT, Int.reduceLE, Int.reduceEq, Nat.reduceSub, hK, ← hR]
    | false =>
    have hIk : isFalse k = false := by rw [isFalse_eq]; exact c0
    simp only [go_sem, Nat.reduceEqDiff, reduceCtorEq, Nat.reduceAdd, Nat.reduceLeDiff, Nat.reduceMul, Nat.reduceLT, Int.reduceToNat, Int.reduceLT, Int.reduceLE, Int.reduceEq, Nat.reduceSub]
    refine call_by (hv k) ?_
    cases c1 : voidP k with
    | true =>
      have he : andGo (done ++ [k]) = andGo done := by rw [hgs, andStp, c1]; rfl
      simp only [go_sem, Nat.reduceEqDiff, reduceCtorEq, Nat.reduceAdd, Nat.reduceLeDiff, Nat.reduceMul, Nat.reduceLT, Int.reduceToNat, Int.reduceLT, Int.reduceLE, Int.reduceEq, Nat.reduceSub, hw, List.length_append, he]
      exact ⟨Ent_plain (by simp only [go_sem, Nat.reduceEqDiff, reduceCtorEq, Nat.reduceAdd, Nat.reduceLeDiff, Nat.reduceMul, Nat.reduceLT, Int.reduceToNat, Int.reduceLT, Int.reduceLE, Int.reduceEq, Nat.reduceSub, Option.isSome_some]), app_all hI hIk⟩
    | false =>
    simp only [go_sem, Nat.reduceEqDiff, reduceCtorEq, Nat.reduceAdd, Nat.reduceLeDiff, Nat.reduceMul, Nat.reduceLT, Int.reduceToNat, Int.reduceLT, Int.reduceLE, Int.reduceEq, Nat.reduceSub]
    refine call_by (hv (andGo done).1) ?_
    rw [hgv]
    cases c2 : (andGo done).2 with
    | false =>
      have he : andGo (done ++ [k]) = (k, true) := by rw [hgs, andStp, c1, c2]; rfl
      simp only [go_sem, Nat.reduceEqDiff, reduceCtorEq, Nat.reduceAdd, Nat.reduceLeDiff, Nat.reduceMul, Nat.reduceLT, Int.reduceToNat, Int.reduceLT, Int.reduceLE, Int.reduceEq, Nat.reduceSub, hw, List.length_append, he, List.length_map, drop_cells]
      exact ⟨Ent_plain (by simp only [go_sem, Nat.reduceEqDiff, reduceCtorEq, Nat.reduceAdd, Nat.reduceLeDiff, Nat.reduceMul, Nat.reduceLT, Int.reduceToNat, Int.reduceLT, Int.reduceLE, Int.reduceEq, Nat.reduceSub, Option.isSome_some]), app_all hI hIk⟩
    | true =>
      have he : andGo (done ++ [k]) = (.mk 15 [] 0 [(andGo done).1, k], true) := by rw [hgs, andStp, c1, c2]; rfl
      simp only [go_sem, Nat.reduceEqDiff, reduceCtorEq, Nat.reduceAdd, Nat.reduceLeDiff, Nat.reduceMul, Nat.reduceLT, Int.reduceToNat, Int.reduceLT, Int.reduceLE, Int.reduceEq, Nat.reduceSub, hw, List.length_append, he, drop_cells]
      exact ⟨Ent_plain (by simp only [go_sem, Nat.reduceEqDiff, reduceCtorEq, Nat.reduceAdd, Nat.reduceLeDiff, Nat.reduceMul, Nat.reduceLT, Int.reduceToNat, Int.reduceLT, Int.reduceLE, Int.reduceEq, Nat.reduceSub, Option.isSome_some, Pred.cells_eq (.mk 15 [] 0 [(andGo done).1, k]), Pred.op, Pred.name, Pred.n, Pred.kids]), app_all hI hIk⟩
  · intro hI
    rw [any_none hI] at hR
    simp only [fn_r07_And_L1, go_sem, Nat.reduceEqDiff, reduceCtorEq, Nat.reduceAdd, Nat.reduceLeDiff, Nat.reduceMul, Nat.reduceLT, Int.reduceToNat, Int.reduceLT, Int.reduceLE, Int.reduceEq, Nat.reduceSub, hK] at hR ⊢
    simp only [hR]
theorem r07_with_ev (o : Int) (s : Str) (n : Int) (ks l : List Pred) : E.C r07_with [.agg (Pred.cells (.mk o s n ks)), .one (.lst (l.map Pred.cells))] (.agg (Pred.cells (.mk o s n l))) := by
  refine Z.r07_with _ _ ⟨Nat.le_of_ble_eq_true rfl, ?_⟩
  rw [Pred.cells_eq, Pred.cells_eq]
  simp only [fn_r07_with, go_sem, Nat.reduceEqDiff, reduceCtorEq, Nat.reduceAdd, Nat.reduceLeDiff, Nat.reduceMul, Nat.reduceLT, Int.reduceToNat, Int.reduceLT, Int.reduceLE, Int.reduceEq, Nat.reduceSub, Pred.op, Pred.name, Pred.n, Pred.kids]
theorem r07_SubstAll_ev (names : List Str) (by' : List Pred) (p : Pred) (hp : Tame p) : E.C r07_SubstAll [.agg p.cells, .one (.lst (names.map fun k => [.str k])), .one (.lst (by'.map Pred.cells))] (.agg (subAll names by' p).cells) := by
  induction p using Pred.ind with
  | h o s n ks ih =>
  have hk : Small ks.length := hp.top
  unfold Small at hk
  have hfind := r04_Find_ev Z names s
  have hwith := r07_with_ev Z o s n ks (ks.map (subAll names by'))
  refine Z.r07_SubstAll _ _ ⟨Nat.le_of_ble_eq_true rfl, ?_⟩
  generalize hR : subAll names by' (.mk o s n ks) = R
  rw [subAll_eq] at hR
  generalize findIx s 0 names = ix at *
  rw [Pred.cells_eq (.mk o s n ks)] at *
  have hrs : fn_r07_SubstAll.rs = [.c 6 true 4] := rfl
  have tail : ∀ (st : St), (o == 3 && (decide (ix ≥ 0) && decide (ix < by'.length))) = false → getS st.slots 3 = .ptr 3 0 → getS st.slots 6 = .ptr 6 0 → getS st.slots 1 = .d (.lst (names.map fun k => [.str k])) → getS st.slots 2 = .d (.lst (by'.map Pred.cells)) → st.mem = [(6, [.d (.int .i64 0), .d (.str []), .d (.int .i64 0), .full []]), (3, [.d (.int .i64 o), .d (.str s), .d (.int .i64 n), .d (.lst (ks.map Pred.cells))])] → st.tk = [] →
      ∀ N, N = awp E (.seq (.reg [(none, .mv 8 (.c (.full [])))]) (.seq (.seq (.reg [(none, .fa 30 3 (.t 3)), (none, .ld 31 false 1 (.t 30)), (none, .len 32 false (.t 31)), (none, .mv 33 (.c (.d (.int .i64 0))))]) (.block 0 (.loop fn_r07_SubstAll_L1))) (.seq (.reg [(none, .ld 45 true 4 (.t 3)), (none, .mv 46 (.t 8)), (none, .call (some 47) (.c (.d (.clo r07_with []))) [.t 45, .t 46]), (none, .st 4 (.t 6) (.t 47))]) (.ret)))) (retK fn_r07_SubstAll.rs (.agg (Pred.cells R))) → N st := by
    intro st hc e3 e6 e1 e2 em et N hN
    rw [hc] at hR
    obtain ⟨sl, mm, tk⟩ := st
    simp only at e3 e6 e1 e2 em et
    subst em; subst et
    rw [hN]
    simp only [go_sem, Nat.reduceEqDiff, reduceCtorEq, Nat.reduceAdd, Nat.reduceLeDiff, Nat.reduceMul, Nat.reduceLT, Int.reduceToNat, Int.reduceLT, Int.reduceLE, Int.reduceEq, Nat.reduceSub, e3, e6, e1, e2]
    intro hlen
    refine loop_named fun K' hK => ?_
    refine loop_list ks (fun _ => True) (fun done rest => ⟨[(33, .d (.int .i64 done.length)), (32, .d (.int .i64 ks.length)), (31, .d (.lst (ks.map Pred.cells))), (8, .own 8 4 ((done.map (subAll names by')).map Pred.cells)), (1, .d (.lst (names.map fun k => [.str k]))), (2, .d (.lst (by'.map Pred.cells))), (3, .ptr 3 0), (6, .ptr 6 0)], [(6, [.d (.int .i64 0), .d (.str []), .d (.int .i64 0), .full []]), (3, [.d (.int .i64 o), .d (.str s), .d (.int .i64 n), .d (.lst (ks.map Pred.cells))])], [(8, true)]⟩) ?_ trivial ?_ ?_
    · exact Ent_conv 8 8 4 [] [(8, 8)] rfl (by simp) rfl (by simp only [Ent0, go_sem, Nat.reduceEqDiff, reduceCtorEq, Nat.reduceAdd, Nat.reduceLeDiff, Nat.reduceMul, Nat.reduceLT, Int.reduceToNat, Int.reduceLT, Int.reduceLE, Int.reduceEq, Nat.reduceSub, List.contains_nil, Option.isSome_some, e3, e6, e1, e2])
    · intro done k r hl _
      have hk' := ih k (by rw [hl]; simp) (hp.kid (by rw [hl]; simp))
      have hlt := lt_mid hl
      have hw : IntKind.i64.wrap ((done.length : Int) + 1) = ((done.length + 1 : Nat) : Int) := wrap_succ (by omega)
      have ha1 : (done.length + 1) * 56 ≤ 2 ^ 46 := by omega
      simp only [fn_r07_SubstAll_L1, go_sem, Nat.reduceEqDiff, reduceCtorEq, Nat.reduceAdd, Nat.reduceLeDiff, Nat.reduceMul, Nat.reduceLT, Int.reduceToNat, Int.reduceLT, Int.reduceLE, Int.reduceEq, Nat.reduceSub, hlt, getD_midP hl]
      refine call_by hk' ?_
      simp only [go_sem, Nat.reduceEqDiff, reduceCtorEq, Nat.reduceAdd, Nat.reduceLeDiff, Nat.reduceMul, Nat.reduceLT, Int.reduceToNat, Int.reduceLT, Int.reduceLE, Int.reduceEq, Nat.reduceSub, hw, List.length_append, List.length_map, List.map_append, Pred.lens_true]
      refine ⟨⟨by simp [Pred.cells_length], ha1, by omega⟩, Ent_own [(8, 43)] ?_⟩
      simp only [go_sem, Nat.reduceEqDiff, reduceCtorEq, Nat.reduceAdd, Nat.reduceLeDiff, Nat.reduceMul, Nat.reduceLT, Int.reduceToNat, Int.reduceLT, Int.reduceLE, Int.reduceEq, Nat.reduceSub, List.contains_nil, Option.isSome_some]
    · intro _
      simp only [fn_r07_SubstAll_L1, go_sem, Nat.reduceEqDiff, reduceCtorEq, Nat.reduceAdd, Nat.reduceLeDiff, Nat.reduceMul, Nat.reduceLT, Int.reduceToNat, Int.reduceLT, Int.reduceLE, Int.reduceEq, Nat.reduceSub, hK, Pred.op, Pred.name, Pred.n, Pred.kids] at hwith hR ⊢
      refine call_by hwith ?_
      simp only [go_sem, Nat.reduceEqDiff, reduceCtorEq, Nat.reduceAdd, Nat.reduceLeDiff, Nat.reduceMul, Nat.reduceLT, Int.reduceToNat, Int.reduceLT, Int.reduceLE, Int.reduceEq, Nat.reduceSub, hrs, ← hR]
  refine seq_named fun N0 h0 => ?_
  simp only [go_sem, Nat.reduceEqDiff, reduceCtorEq, Nat.reduceAdd, Nat.reduceLeDiff, Nat.reduceMul, Nat.reduceLT, Int.reduceToNat, Int.reduceLT, Int.reduceLE, Int.reduceEq, Nat.reduceSub, Pred.op, Pred.name, Pred.n, Pred.kids]
  rw [h0]
  refine seq_named fun N1 h1 => ?_
  cases c3 : (o == 3) with
  | false =>
    simp only [go_sem, Nat.reduceEqDiff, reduceCtorEq, Nat.reduceAdd, Nat.reduceLeDiff, Nat.reduceMul, Nat.reduceLT, Int.reduceToNat, Int.reduceLT, Int.reduceLE, Int.reduceEq, Nat.reduceSub, c3]
    exact tail _ (by rw [c3]; rfl) rfl rfl rfl rfl rfl rfl N1 h1
  | true =>
    simp only [go_sem, Nat.reduceEqDiff, reduceCtorEq, Nat.reduceAdd, Nat.reduceLeDiff, Nat.reduceMul, Nat.reduceLT, Int.reduceToNat, Int.reduceLT, Int.reduceLE, Int.reduceEq, Nat.reduceSub, c3]
    refine call_by hfind ?_
    simp only [go_sem, Nat.reduceEqDiff, reduceCtorEq, Nat.reduceAdd, Nat.reduceLeDiff, Nat.reduceMul, Nat.reduceLT, Int.reduceToNat, Int.reduceLT, Int.reduceLE, Int.reduceEq, Nat.reduceSub]
    intro _
    cases c4 : (decide (ix ≥ 0) && decide (ix < by'.length)) with
    | false =>
      simp only [go_sem, Nat.reduceEqDiff, reduceCtorEq, Nat.reduceAdd, Nat.reduceLeDiff, Nat.reduceMul, Nat.reduceLT, Int.reduceToNat, Int.reduceLT, Int.reduceLE, Int.reduceEq, Nat.reduceSub]
      exact tail _ (by rw [c3, c4]; rfl) rfl rfl rfl rfl rfl rfl N1 h1
    | true =>
      simp only [c3, c4, go_sem, Nat.reduceEqDiff, reduceCtorEq, Nat.reduceAdd, Nat.reduceLeDiff, Nat.reduceMul, Nat.reduceLT, Int.reduceToNat, Int.reduceLT, Int.reduceLE, Int.reduceEq, Nat.reduceSub] at hR ⊢
      simp only [Bool.and_eq_true, decide_eq_true_eq] at c4
      have hlt : ix.toNat < by'.length := by omega
      have hge : (0 ≤ ix) = True := eq_true (by omega)
      have hlt' : (ix < (by'.length : Int)) = True := eq_true c4.2
      simp only [hge, hlt', getD_mapP _ _ hlt, go_sem, Nat.reduceEqDiff, reduceCtorEq, Nat.reduceAdd, Nat.reduceLeDiff, Nat.reduceMul, Nat.reduceLT, Int.reduceToNat, Int.reduceLT, Int.reduceLE, Int.reduceEq, Nat.reduceSub, hrs, hR]
theorem r07_Subst_ev (s : Str) (by' p : Pred) (hp : Tame p) : E.C r07_Subst [.agg p.cells, .one (.str s), .agg by'.cells] (.agg (subAll [s] [by'] p).cells) := by
  have h := r07_SubstAll_ev Z [s] [by'] p hp
  refine Z.r07_Subst _ _ ⟨Nat.le_of_ble_eq_true rfl, ?_⟩
  generalize subAll [s] [by'] p = R at *
  rw [Pred.cells_eq p, Pred.cells_eq by', Pred.cells_eq R] at *
  simp only [List.map_cons, List.map_nil, Pred.cells_eq by'] at h
  simp only [fn_r07_Subst, go_sem, Nat.reduceEqDiff, reduceCtorEq, Nat.reduceAdd, Nat.reduceLeDiff, Nat.reduceMul, Nat.reduceLT, Int.reduceToNat, Int.reduceLT, Int.reduceLE, Int.reduceEq, Nat.reduceSub]
  refine call_by h ?_
  simp only [go_sem, Nat.reduceEqDiff, reduceCtorEq, Nat.reduceAdd, Nat.reduceLeDiff, Nat.reduceMul, Nat.reduceLT, Int.reduceToNat, Int.reduceLT, Int.reduceLE, Int.reduceEq, Nat.reduceSub]
end Go.Abs
end
section
set_option linter.unusedSimpArgs false
set_option linter.unusedVariables false
set_option linter.unusedSectionVars false
namespace Go.Abs

mutual
def Pred.sz : Pred → Nat
  | .mk _ s _ ks => 1 + ((s.length + 1) + (1 + ((Pred.szs ks + 1) + 0))) + 1
def Pred.szs : List Pred → Nat
  | [] => 0
  | k :: ks => Pred.sz k + Pred.szs ks
end
theorem Pred.szs_eq (ks : List Pred) : Pred.szs ks = (ks.map Pred.sz).sum := by
  induction ks with
  | nil => simp [Pred.szs]
  | cons k ks ih => simp [Pred.szs, ih]
/-! ## plain law: what a predicate's parts are, where nothing wraps round -/
namespace Pred
mutual
def cnt : Pred → Nat
  | .mk _ _ _ ks => cnts ks + 1
def cnts : List Pred → Nat
  | [] => 0
  | k :: ks => cnt k + cnts ks
end
mutual
def dep : Pred → Nat
  | .mk _ _ _ ks => deps ks + 1
def deps : List Pred → Nat
  | [] => 0
  | k :: ks => max (dep k) (deps ks)
end
theorem cnt_le {ks : List Pred} {k : Pred} (h : k ∈ ks) : cnt k ≤ cnts ks := by
  induction ks with
  | nil => cases h
  | cons x ks ih =>
    rw [cnts]
    rcases List.mem_cons.1 h with rfl | h
    · omega
    · have := ih h; omega
theorem dep_le {ks : List Pred} {k : Pred} (h : k ∈ ks) : dep k ≤ deps ks := by
  induction ks with
  | nil => cases h
  | cons x ks ih =>
    rw [deps]
    rcases List.mem_cons.1 h with rfl | h
    · omega
    · have := ih h; omega
theorem dep_cnt (p : Pred) : dep p ≤ cnt p := by
  induction p using Pred.ind with
  | h o s n ks ih =>
  have : ∀ l : List Pred, (∀ k ∈ l, dep k ≤ cnt k) → deps l ≤ cnts l := by
    intro l
    induction l with
    | nil => intro _; exact Nat.le_refl _
    | cons x l ih2 =>
      intro h
      have h1 := h x (by simp)
      have h2 := ih2 fun k hk => h k (by simp [hk])
      rw [deps, cnts]; omega
  rw [dep, cnt]
  have := this ks ih
  omega
theorem cnt_sz (p : Pred) : cnt p ≤ sz p := by
  induction p using Pred.ind with
  | h o s n ks ih =>
  have : ∀ l : List Pred, (∀ k ∈ l, cnt k ≤ sz k) → cnts l ≤ szs l := by
    intro l
    induction l with
    | nil => intro _; exact Nat.le_refl _
    | cons x l ih2 =>
      intro h
      have h1 := h x (by simp)
      have h2 := ih2 fun k hk => h k (by simp [hk])
      rw [szs, cnts]; omega
  rw [sz, cnt]
  have := this ks ih
  omega
theorem nodes_cnt (p : Pred) (h : cnt p < 2 ^ 62) : nodes p = cnt p := by
  induction p using Pred.ind with
  | h o s n ks ih =>
  have key : ∀ (l : List Pred) (a : Nat), (∀ k ∈ l, cnt k < 2 ^ 62 → nodes k = cnt k) → a + cnts l < 2 ^ 62 → nodess (a : Int) l = ((a + cnts l : Nat) : Int) := by
    intro l
    induction l with
    | nil => intro a _ _; rw [nodess, cnts]; rfl
    | cons x l ih2 =>
      intro a hk hl
      rw [cnts] at hl
      rw [nodess, hk x (by simp) (by omega), i64_in _ (by omega), cnts]
      have := ih2 (a + cnt x) (fun k hk' => hk k (by simp [hk'])) (by omega)
      rw [← Int.natCast_add, this]
      congr 1; omega
  rw [cnt] at h ⊢
  rw [nodes]
  have := key ks 1 ih (by omega)
  rw [show ((1 : Nat) : Int) = 1 from rfl] at this
  rw [this]
  congr 1; omega
theorem depth_dep (p : Pred) (h : dep p < 2 ^ 62) : depth p = dep p := by
  induction p using Pred.ind with
  | h o s n ks ih =>
  have key : ∀ (l : List Pred) (a : Nat), (∀ k ∈ l, dep k < 2 ^ 62 → depth k = dep k) → deps l < 2 ^ 62 → depths (a : Int) l = ((max a (deps l) : Nat) : Int) := by
    intro l
    induction l with
    | nil => intro a _ _; rw [depths, deps]; simp
    | cons x l ih2 =>
      intro a hk hl
      rw [deps] at hl
      rw [depths, hk x (by simp) (by omega), deps]
      have h2 := fun a => ih2 a (fun k hk' => hk k (by simp [hk'])) (by omega)
      by_cases hc : (dep x : Int) > a
      · rw [if_pos hc, h2]; congr 1; omega
      · rw [if_neg hc, h2]; congr 1; omega
  rw [dep] at h ⊢
  rw [depth]
  have := key ks 0 ih (by omega)
  rw [show ((0 : Nat) : Int) = 0 from rfl] at this
  rw [this, i64_in _ (by omega)]
  omega
theorem formEs_zero {ks : List Pred} (h : formE.formEs ks = 0) : ∀ k ∈ ks, formE k = 0 := by
  induction ks with
  | nil => intro k hk; cases hk
  | cons x ks ih =>
    rw [formE.formEs] at h
    intro k hk
    by_cases h1 : (formE x != 0) = true
    · rw [if_pos h1] at h; rw [h] at h1; cases h1
    · rw [if_neg h1] at h
      rcases List.mem_cons.1 hk with rfl | hk
      · simpa using h1
      · exact ih h k hk
theorem formE_node {o : Int} {s : List UInt8} {n : Int} {ks : List Pred} (h : formE (.mk o s n ks) = 0) : nodeE o s n ks = 0 ∧ ∀ k ∈ ks, formE k = 0 := by
  rw [formE_eq] at h
  by_cases h1 : (nodeE o s n ks != 0) = true
  · rw [if_pos h1] at h; rw [h] at h1; cases h1
  · rw [if_neg h1] at h
    exact ⟨by simpa using h1, formEs_zero h⟩
theorem checkE_parts {p : Pred} (h : checkE p = 0) : nodes p ≤ 400 ∧ depth p ≤ 40 ∧ formE p = 0 := by
  unfold checkE at h
  by_cases h1 : decide (nodes p > 400) = true
  · rw [if_pos h1] at h; cases h
  · rw [if_neg h1] at h
    by_cases h2 : decide (depth p > 40) = true
    · rw [if_pos h2] at h; cases h
    · rw [if_neg h2] at h
      simp at h1 h2
      exact ⟨by omega, by omega, h⟩
theorem checkE_of {p : Pred} (h : nodes p ≤ 400) (h2 : depth p ≤ 40) (h3 : formE p = 0) : checkE p = 0 := by
  unfold checkE
  rw [if_neg (by simp; omega), if_neg (by simp; omega)]
  exact h3
theorem checkE_kid {o : Int} {s : List UInt8} {n : Int} {ks : List Pred} {k : Pred} (hc : cnt (.mk o s n ks) < 2 ^ 62) (h : checkE (.mk o s n ks) = 0) (hk : k ∈ ks) : checkE k = 0 := by
  obtain ⟨h1, h2, h3⟩ := checkE_parts h
  have hd := dep_cnt (.mk o s n ks)
  rw [nodes_cnt _ hc] at h1
  rw [depth_dep _ (by omega)] at h2
  rw [cnt] at h1 hc hd
  rw [dep] at h2 hd
  have k1 := cnt_le hk
  have k2 := dep_le hk
  have k3 := dep_cnt k
  refine checkE_of ?_ ?_ ((formE_node h3).2 k hk)
  · rw [nodes_cnt _ (by omega)]; omega
  · rw [depth_dep _ (by omega)]; omega
theorem nodeE_kids {o : Int} {s : List UInt8} {n : Int} {ks : List Pred} (h : nodeE o s n ks = 0) : kidsOk o ks.length = true := by
  unfold nodeE at h
  by_cases h1 : (decide (o < 1) || decide (o > 18) || !s == [] && !isOpNamed o || n != 0 && !(o == 1 || o == 2) || !kidsOk o ks.length) = true
  · rw [if_pos h1] at h; cases h
  · simp only [Bool.or_eq_true, not_or] at h1
    simpa using h1.2
end Pred
theorem errs_zero {v : SEnv} {ks : List Pred} (h : ofS.errs v ks = 0) : ∀ k ∈ ks, (ofS v k).2 = 0 := by
  induction ks with
  | nil => intro k hk; cases hk
  | cons x ks ih =>
    rw [ofS.errs] at h
    intro k hk
    by_cases h1 : ((ofS v x).2 != 0) = true
    · rw [if_pos h1] at h; rw [h] at h1; cases h1
    · rw [if_neg h1] at h
      rcases List.mem_cons.1 hk with rfl | hk
      · simpa using h1
      · exact ih h k hk
/-- an error has no sort -/
def Bare (r : Str × Int) : Prop := (r.2 != 0) = true → r.1 = []
theorem nodeS_bare (v : SEnv) (o : Int) (s : Str) (l : List Str) : Bare (nodeS v o s l) := by
  unfold nodeS appS holeS opS Bare
  repeat' split
  all_goals simp
theorem ofS_bare (v : SEnv) (p : Pred) : Bare (ofS v p) := by
  obtain ⟨o, s, n, ks⟩ := p
  rw [ofS_eq]
  split
  · intro _; rfl
  · exact nodeS_bare _ _ _ _
theorem OfS_bare (v : SEnv) (p : Pred) : Bare (OfS v p) := by
  unfold OfS
  split
  · intro _; rfl
  · exact ofS_bare _ _
/-- the parts of what has a sort have sorts -/
theorem OfS_kids {v : SEnv} {o : Int} {s : Str} {n : Int} {ks : List Pred} (hc : Pred.cnt (.mk o s n ks) < 2 ^ 62) (h : (OfS v (.mk o s n ks)).2 = 0) :
    (∀ k ∈ ks, OfS v k = ofS v k ∧ (ofS v k).2 = 0) ∧ OfS v (.mk o s n ks) = nodeS v o s (ks.map fun k => (ofS v k).1) ∧ kidsOk o ks.length = true := by
  have hce : Pred.checkE (.mk o s n ks) = 0 := by
    unfold OfS at h
    by_cases h1 : (Pred.checkE (.mk o s n ks) != 0) = true
    · rw [if_pos h1] at h; exact h
    · simpa using h1
  have hO : OfS v (.mk o s n ks) = ofS v (.mk o s n ks) := by unfold OfS; rw [hce]; rfl
  rw [hO] at h ⊢
  rw [ofS_eq] at h ⊢
  by_cases h1 : (ofS.errs v ks != 0) = true
  · rw [if_pos h1] at h; simp only at h; rw [h] at h1; cases h1
  · rw [if_neg h1]
    refine ⟨fun k hk => ⟨?_, errs_zero (by simpa using h1) k hk⟩, rfl, Pred.nodeE_kids (Pred.formE_node (Pred.checkE_parts hce).2.2).1⟩
    unfold OfS
    rw [Pred.checkE_kid hc hce hk]; rfl
end Go.Abs
end
