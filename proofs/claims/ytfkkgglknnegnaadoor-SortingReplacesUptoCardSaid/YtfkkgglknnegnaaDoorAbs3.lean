/-
  A LIBRARY OF THE PROOF: an abstract machine over the texts of the translated functions, whose values are plain data, proved sound with regard to the kit's law of calls.
-/
import Derived.Test.YtfkkgglknnegnaaDoorAbs2
section
set_option linter.unusedSimpArgs false
set_option linter.unusedVariables false
set_option linter.unusedSectionVars false
namespace Go.Abs
open Go.RowKit
variable {c : Ctx} {st : St} {tmps : Array Value} {w : World} {S : Safe} {ρ : Rho} {E : AEnv} {T : Nat → Option Ty} {P : Program} {G : Nat → Option (List D)} {N : Nat}
variable {l : Nat} {xs : List (List CV)} {J : List (List CV) → World → Safe → Prop} {Jx : World → Safe → Prop}

theorem ops_pre (hG : E.G = c.G) (hC : ∀ f args r, E.C f args r → Ev c.P c.G f args r) (hT : ∀ t ty, T t = some ty → chkTy c.P t ty = true) {ops : Array Oper} {l : List (Option (Nat × Bool) × I)} (htr : trOps T ops.toList = some l)
    (hdst : ∀ o ∈ ops.toList, ∀ d, o.dst = some d → c.D d) {F : Fence} (hF : FW F) (m : Nat) (Q : Exit → Act → World → Prop) {K : St → Prop} (rest : List Nat) :
    ∀ (n k : Nat) {st : St} {tmps : Array Value} {w : World} {S : Safe} {ρ : Rho}, k + n ≤ ops.size → (∀ a w, Goes c K a w → wpOpsIn F m c.P ops Q rest a w) → Sim c st tmps w S ρ → aops E ((l.drop k).take n) K st → wpOpsIn F m c.P ops Q (List.range' k n ++ rest) ⟨tmps, c.ds⟩ w := by
  obtain ⟨hlen, hget⟩ := trOps_get htr
  simp only [Array.length_toList] at hlen
  intro n
  induction n with
  | zero =>
    intro k st tmps w S ρ hk hQ h hK
    simp only [List.take_zero, aops] at hK
    exact hQ _ _ ⟨rfl, _, _, _, h, hK⟩
  | succ n ih =>
    intro k st tmps w S ρ hk hQ h hK
    have hlt : k < ops.size := by omega
    obtain ⟨gi, i, hl, htg, hti⟩ := hget k ops[k] (by simp [hlt])
    have hdrop : l.drop k = (gi, i) :: l.drop (k + 1) := by
      have hkl : k < l.length := by omega
      rw [List.drop_eq_getElem_cons hkl]
      congr 1
      have := List.getElem?_eq_getElem hkl
      rw [this] at hl
      exact Option.some.inj hl
    rw [hdrop, List.take_succ_cons] at hK
    simp only [aops] at hK
    rw [List.range'_succ, List.cons_append, wpOpsIn_cons]
    refine wpOp_sound hG hC hT h (Array.getElem?_eq_getElem hlt) htg hti (hdst _ (by simp)) hK ?_ Q hF m
    rintro ⟨tmps', ds'⟩ w' ⟨hds, st', S', ρ', h', hK'⟩
    simp only at hds
    subst hds
    exact ih (k + 1) (by omega) hQ h' hK'

/-- the environment with no calls -/
def quietE (G : Nat → Option (List D)) : AEnv := ⟨G, fun _ _ _ => False, fun _ _ _ => False⟩
theorem reg_step (hT : ∀ t ty, T t = some ty → chkTy P t ty = true) {W1 : World} {S1 : Safe} {cd : Code} {l : List (Option (Nat × Bool) × I)} (h : tr T N cd = some (.reg l)) (hs : Sim (baseC P W1 S1 N G) st tmps w S ρ) {K : St → Prop} (hK : aops (quietE G) l K st)
    {Q : Exit → Act → World → Prop} {m : Nat} (hQ : ∀ st' tmps' w' S' ρ', Sim (baseC P W1 S1 N G) st' tmps' w' S' ρ' → K st' → Q .normal ⟨tmps', []⟩ w') : cd.wpIn (FR none) m P Q ⟨tmps, []⟩ w := by
  obtain ⟨id, ops, rfl, hops, hok⟩ := tr_reg h
  refine wpIn_region ?_
  rw [List.range_eq_range']
  refine ops_sound (c := baseC P W1 S1 N G) (E := quietE G) rfl (fun _ _ _ h => h.elim) hT hops (fun o ho d hd => ⟨okDst_D hok ho hd, rfl⟩) (FR.fw none) m Q (K := K) ?_ ops.size 0 (by omega) hs hK
  rintro ⟨tm, ds⟩ w' ⟨hd, st', S', ρ', h', hk'⟩
  simp only at hd
  subst hd
  exact hQ _ _ _ _ _ h' hk'
theorem cond_step {W1 : World} {S1 : Safe} {x : Operand} {y z : Code} {g : X} (hx : trX x = some g) (hs : Sim (baseC P W1 S1 N G) st tmps w S ρ) {b : Bool} (hg : ev st g = .d (.bool b)) (hgd : gd st g = true) {Q : Exit → Act → World → Prop} {m : Nat}
    (ht : b = true → y.wpIn (FR none) m P Q ⟨tmps, []⟩ w) (hf : b = false → z.wpIn (FR none) m P Q ⟨tmps, []⟩ w) : (Code.cond x y z).wpIn (FR none) m P Q ⟨tmps, []⟩ w := by
  have hev := hs.ev (ds := []) hx hgd
  rw [hg] at hev
  simp only [RepA, Rep] at hev
  exact wpIn_cond_split hev ht hf

theorem wpOpIn_plain {ops : Array Oper} {k : Nat} {o : Oper} (ho : ops[k]? = some o) (hg : trGuard ops.toList o.guard = some none) {F : Fence} {m : Nat} {K : Act → World → Prop} {Q : Exit → Act → World → Prop} {a : Act} (h : o.wpIn F m P a w K Q) : wpOpIn F m P ops Q k K a w := by
  have hgn : o.guard = none := by
    cases hgu : o.guard with
    | none => rfl
    | some jw =>
      rw [hgu] at hg
      simp only [trGuard, Option.bind_eq_bind, Option.pure_def, Option.bind_eq_some_iff, Option.some.injEq] at hg
      obtain ⟨_, _, _, _, hg⟩ := hg
      cases hg
  unfold wpOpIn
  simp only [ho]
  rw [if_pos (by unfold Region.wanted; rw [hgn])]
  exact h

theorem round_any {l : Nat} {f : FuncId} {tm : Array Value} {as bd : Code} {R : Ending → World → Prop} {m : Nat} (h : RoundIn Fence.wide 0 P l f tm as bd w R) : RoundIn (FR none) m P l f tm as bd w R :=
  ⟨trivial, fun c cs _ => h.2 c cs (room_wide _)⟩
theorem yield_op (hY : YCtx P G l xs J Jx) {W1 : World} {S1 : Safe} {a b : List (List CV)} {x : List CV} (hxs : xs = a ++ x :: b) (hJ : J a W1 S1) (h : Sim (baseC P W1 S1 N G) st tmps w S ρ) {o : Oper} {d : Nat} {f' : X} {args' : List X} (htr : trOp T o.dst o.op = some (.call (some d) f' args')) (hd : d < N)
    (hf : ev st f' = .d (.yl l)) (hgf : gd st f' = true) (hga : gds st args' = true) (hx : toCVs [] 1 (evs st args') = some x) (sl : List (Nat × D)) (hsl : ∀ p ∈ sl, AV.toD st.mem 4 (getS st.slots p.1) = some p.2) {m : Nat} {K : Act → World → Prop} {Q : Exit → Act → World → Prop}
    (hT : ∀ W' S2 ρ', J (a ++ [x]) W' S2 → Keeps w S W' S2 → Sim (baseC P W' S2 N G) ((pureSt sl).put none d (.d (.bool true))) (tmps.setIfInBounds d (.bool true)) W' S2 ρ' → K ⟨tmps.setIfInBounds d (.bool true), []⟩ W')
    (hF : ∀ W' S2 ρ', Jx W' S2 → Sim (baseC P W' S2 N (fun _ => none)) ((pureSt []).put none d (.d (.bool false))) (tmps.setIfInBounds d (.bool false)) W' S2 ρ' → K ⟨tmps.setIfInBounds d (.bool false), []⟩ W') :
    o.wpIn (FR none) m P ⟨tmps, []⟩ w K Q := by
  obtain ⟨f, args, argTypes, hdst, hop, hfx, hax⟩ := opd_op htr
  have e1 := h.ev (ds := []) hfx hgf
  rw [hf] at e1
  simp only [RepA, Rep] at e1
  obtain ⟨S', hg, hk, hup, hreps⟩ := h.purify sl hsl
  have hJw := hY.grow _ _ _ _ _ hJ hg
  have e2 := toCVs_rep (through_nil (w := w) (S := S') (ρ := ρ)) 1 (RepAs.keep hk ρ.le_refl _ _ (h.evs (ds := []) hax hga)) hx
  obtain ⟨fn, tm, as, bd, hrun, hR⟩ := hY.yield a x b w S' _ hxs hJw e2
  have hrun' : (execOp (Act.eval ⟨tmps, []⟩) o).run P w = .ok (.round l fn tm as bd) w := by
    unfold execOp
    simp only [hop]
    have : (args.toList.map (Act.eval ⟨tmps, []⟩)).toArray = args.map (Act.eval ⟨tmps, []⟩) := by rw [← Array.toList_map]
    rw [this] at hrun
    simp [resolve, Deferred.ofValue, e1, invoke, hrun]
  refine ⟨fun _ _ => trivial, ?_⟩
  rw [Oper.semAt_eq _ _ _ (fun c hc => by rw [hop] at hc; cases hc), hrun', Oper.uponIn_round]
  refine ⟨(by intro hd; cases hd), (round_any hR).mono ?_⟩
  rintro e W' (⟨rfl, S2, hJ2, hk2⟩ | ⟨rfl, S2, hx2⟩)
  · simp only [Act.put, hdst]
    have hs := Sim.fresh (P := P) (G := G) (N := N) h.size (hY.live _ _ _ hJ2) (hY.glob _ _ _ hJ2) sl (fun p hp => Rep.keep hk2 _ _ (hreps p hp))
    exact hT W' S2 _ hJ2 (hk.trans hk2) (hs.put (d := d) ⟨hd, rfl⟩ (a := .d (.bool true)) (v := .bool true) rfl none (fun b hb => by cases hb))
  · simp only [Act.put, hdst]
    have hs := Sim.fresh (P := P) (G := fun _ => none) (N := N) h.size (hY.livex _ _ hx2).1 ⟨fun g cs hg => (by cases hg), (hY.livex _ _ hx2).2, fun g cs _ hg => (by cases hg)⟩ [] (fun p hp => by cases hp)
    exact hF W' S2 _ hx2 (hs.put (d := d) ⟨hd, rfl⟩ (a := .d (.bool false)) (v := .bool false) rfl none (fun b hb => by cases hb))

theorem evy_op (hY : YCtx P G l xs J Jx) {W1 : World} {S1 : Safe} {a b ys : List (List CV)} (hxs : xs = a ++ ys ++ b) (hJ : J a W1 S1) (h : Sim (baseC P W1 S1 N G) st tmps w S ρ) {o : Oper} {d : Nat} {f' : X} {args' : List X} (htr : trOp T o.dst o.op = some (.call (some d) f' args')) (hd : d < N) {fid : FuncId} {cvs : List CV}
    (hf : ev st f' = .d (.clo fid [])) (hgf : gd st f' = true) (hga : gds st args' = true) (hx : toCVs [] 1 (evs st args') = some cvs) (hV : EvY P xs J Jx fid cvs ys) (sl : List (Nat × D)) (hsl : ∀ p ∈ sl, AV.toD st.mem 4 (getS st.slots p.1) = some p.2) {m : Nat} {K : Act → World → Prop} {Q : Exit → Act → World → Prop}
    (hT : ∀ W' S2 ρ', J (a ++ ys) W' S2 → Keeps w S W' S2 → Sim (baseC P W' S2 N G) ((pureSt sl).put none d (.d (.bool true))) (tmps.setIfInBounds d (.bool true)) W' S2 ρ' → K ⟨tmps.setIfInBounds d (.bool true), []⟩ W')
    (hF : ∀ W' S2 ρ', Jx W' S2 → Sim (baseC P W' S2 N (fun _ => none)) ((pureSt []).put none d (.d (.bool false))) (tmps.setIfInBounds d (.bool false)) W' S2 ρ' → K ⟨tmps.setIfInBounds d (.bool false), []⟩ W') :
    o.wpIn (FR none) m P ⟨tmps, []⟩ w K Q := by
  obtain ⟨f, args, argTypes, hdst, hop, hfx, hax⟩ := opd_op htr
  have e1 := h.ev (ds := []) hfx hgf
  rw [hf] at e1
  obtain ⟨cs, hv, hcaps⟩ := e1
  simp only [RepL] at hcaps
  have hcs : cs = #[] := by cases cs; simp_all
  subst hcs
  obtain ⟨S', hg, hk, hup, hreps⟩ := h.purify sl hsl
  have hJw := hY.grow _ _ _ _ _ hJ hg
  have e2 := toCVs_rep (through_nil (w := w) (S := S') (ρ := ρ)) 1 (RepAs.keep hk ρ.le_refl _ _ (h.evs (ds := []) hax hga)) hx
  obtain ⟨⟨fn, hfn, hname, hbody⟩, hcalls⟩ := hV
  have hrun' : (execOp (Act.eval ⟨tmps, []⟩) o).run P w = .ok (.enter fid (args.map (Act.eval ⟨tmps, []⟩))) w := by
    unfold execOp
    simp only [hop]
    have hname' : ¬ fn.name = "runtime.NumGoroutine" := by simpa using hname
    have hbody' : ¬ fn.body = none := by intro e; simp [e] at hbody
    simp [resolve, invoke, callFunc, Deferred.ofValue, hv, hfn, hname', hbody']
  refine ⟨fun _ _ => trivial, ?_⟩
  rw [Oper.semAt_eq _ _ _ (fun c hc => by rw [hop] at hc; cases hc), hrun', Oper.uponIn_enter]
  refine ⟨(by intro hd; cases hd), callsIn_fw (FR.fw none) ((hcalls a b w S' _ hxs hJw (by simpa using e2)).mono ?_)⟩
  rintro e W' (⟨rfl, S2, hJ2, hk2⟩ | ⟨rfl, S2, hx2⟩)
  · simp only [Act.put, hdst]
    have hs := Sim.fresh (P := P) (G := G) (N := N) h.size (hY.live _ _ _ hJ2) (hY.glob _ _ _ hJ2) sl (fun p hp => Rep.keep hk2 _ _ (hreps p hp))
    exact hT W' S2 _ hJ2 (hk.trans hk2) (hs.put (d := d) ⟨hd, rfl⟩ (a := .d (.bool true)) (v := .bool true) rfl none (fun b hb => by cases hb))
  · simp only [Act.put, hdst]
    have hs := Sim.fresh (P := P) (G := fun _ => none) (N := N) h.size (hY.livex _ _ hx2).1 ⟨fun g cs hg => (by cases hg), (hY.livex _ _ hx2).2, fun g cs _ hg => (by cases hg)⟩ [] (fun p hp => by cases hp)
    exact hF W' S2 _ hx2 (hs.put (d := d) ⟨hd, rfl⟩ (a := .d (.bool false)) (v := .bool false) rfl none (fun b hb => by cases hb))

theorem ret_bool (hT : ∀ t ty, T t = some ty → chkTy P t ty = true) {W1 : World} {S1 : Safe} {fn : Func} {k : Nat} (hrs : fn.results.toList.mapM (trRes T) = some [.t k]) (h : Sim (baseC P W1 S1 N G) st tmps w S ρ) (hm : st.mem = []) {b : Bool} (hk : getS st.slots k = .d (.bool b)) : (results fn tmps).run P w = .ok (.bool b) w := by
  obtain ⟨vs, hrun, hrep⟩ := results_sound (c := baseC P W1 S1 N G) h hT (fun _ _ h => h) (by rw [hm]; exact through_nil) hrs (l := [.one (.bool b)]) (by simp [resCVs, resCV, resAV, hk, AV.toCV, AV.toD])
  obtain ⟨v, r', q1, q2, q3⟩ := hrep
  simp only [RepCL] at q3
  subst q3
  subst q1
  simp only [RepC, Rep] at q2
  subst q2
  rw [results_eq, Array.mapM_eq_mapM_toList]
  have hrunP : (fn.results.toList.mapM (rvRun tmps)).run P w = .ok [.bool b] w := hrun
  simp only [Sem.run_bind, Sem.run_map, hrunP]
  simp
end Go.Abs
end
