/-
  A LIBRARY OF THE PROOF: an abstract machine over the texts of the translated functions, whose values are plain data, proved sound with regard to the kit's law of calls.
-/
import Derived.Test.YtfkkgglknnegnaaDoorAbs2
section
set_option linter.unusedSimpArgs false
set_option linter.unusedVariables false
set_option linter.unusedSectionVars false
namespace Go.Abs
open Go.RowKit
variable {c : Ctx} {st : St} {tmps : Array Value} {w : World} {S : Safe} {ρ : Rho} {E : AEnv} {T : Nat → Option Ty} {P : Program} {G : Nat → Option (List D)} {N : Nat}
/-! ## an iterator's own text: it calls yield -/
/-! ### what a text is, of which the translation is known -/
theorem tr_seq {cd : Code} {a b : AC} (h : tr T N cd = some (.seq a b)) : ∃ x y, cd = .seq x y ∧ tr T N x = some a ∧ tr T N y = some b := by
  cases cd <;> simp only [tr, Option.bind_eq_bind, Option.pure_def, reduceCtorEq, Option.bind_eq_some_iff, Option.some.injEq] at h
  case seq x y => obtain ⟨a1, e1, a2, e2, h⟩ := h; cases h; exact ⟨x, y, rfl, e1, e2⟩
  all_goals (exfalso; revert h; (try (repeat' split)) <;> intro h <;> simp at h)
theorem tr_cond {cd : Code} {g : X} {a b : AC} (h : tr T N cd = some (.cond g a b)) : ∃ x y z, cd = .cond x y z ∧ trX x = some g ∧ tr T N y = some a ∧ tr T N z = some b := by
  cases cd <;> simp only [tr, Option.bind_eq_bind, Option.pure_def, reduceCtorEq, Option.bind_eq_some_iff, Option.some.injEq] at h
  case cond x y z => obtain ⟨x', e0, a1, e1, a2, e2, h⟩ := h; cases h; exact ⟨x, y, z, rfl, e0, e1, e2⟩
  all_goals (exfalso; revert h; (try (repeat' split)) <;> intro h <;> simp at h)
theorem tr_block {cd : Code} {i : Nat} {a : AC} (h : tr T N cd = some (.block i a)) : ∃ x, cd = .block i x ∧ tr T N x = some a := by
  cases cd <;> simp only [tr, Option.bind_eq_bind, Option.pure_def, reduceCtorEq, Option.bind_eq_some_iff, Option.some.injEq] at h
  case block j x => obtain ⟨a1, e1, h⟩ := h; cases h; exact ⟨x, rfl, e1⟩
  all_goals (exfalso; revert h; (try (repeat' split)) <;> intro h <;> simp at h)
theorem tr_loop {cd : Code} {a : AC} (h : tr T N cd = some (.loop a)) : ∃ x, cd = .loop x ∧ tr T N x = some a := by
  cases cd <;> simp only [tr, Option.bind_eq_bind, Option.pure_def, reduceCtorEq, Option.bind_eq_some_iff, Option.some.injEq] at h
  case loop x => obtain ⟨a1, e1, h⟩ := h; cases h; exact ⟨x, rfl, e1⟩
  all_goals (exfalso; revert h; (try (repeat' split)) <;> intro h <;> simp at h)
theorem tr_ret {cd : Code} (h : tr T N cd = some .ret) : cd = .ret := by
  cases cd <;> simp only [tr, Option.bind_eq_bind, Option.pure_def, reduceCtorEq, Option.bind_eq_some_iff, Option.some.injEq] at h
  all_goals first | rfl | (exfalso; revert h; (try (repeat' split)) <;> intro h <;> simp at h)
theorem tr_skip {cd : Code} (h : tr T N cd = some .skip) : cd = .skip := by
  cases cd <;> simp only [tr, Option.bind_eq_bind, Option.pure_def, reduceCtorEq, Option.bind_eq_some_iff, Option.some.injEq] at h
  all_goals first | rfl | (exfalso; revert h; (try (repeat' split)) <;> intro h <;> simp at h)
theorem tr_exit {cd : Code} {i : Nat} (h : tr T N cd = some (.exit i)) : cd = .exit i := by
  cases cd <;> simp only [tr, Option.bind_eq_bind, Option.pure_def, reduceCtorEq, Option.bind_eq_some_iff, Option.some.injEq] at h
  case exit j => cases h; rfl
  all_goals (exfalso; revert h; (try (repeat' split)) <;> intro h <;> simp at h)
theorem tr_reg {cd : Code} {l : List (Option (Nat × Bool) × I)} (h : tr T N cd = some (.reg l)) : ∃ id ops, cd = .region id ops false ∧ trOps T ops.toList = some l ∧ okDst N ops.toList = true := by
  cases cd <;> simp only [tr, Option.bind_eq_bind, Option.pure_def, reduceCtorEq, Option.bind_eq_some_iff, Option.some.injEq] at h
  case region id ops draw =>
    obtain ⟨l', hl, h⟩ := h
    split at h
    · rename_i hok
      split at h
      · split at h <;> cases h
      · rename_i hd
        cases h
        have : draw = false := by simpa using hd
        subst this
        exact ⟨id, ops, rfl, hl, hok⟩
    · cases h
  all_goals (exfalso; revert h; (try (repeat' split)) <;> intro h <;> simp at h)
theorem okDst_D {ops : List Oper} (h : okDst N ops = true) {o : Oper} (ho : o ∈ ops) {d : Nat} (hd : o.dst = some d) : d < N := by
  simp only [okDst, List.all_eq_true] at h
  have := h o ho
  simpa [hd] using this

/-! ### contexts between two yields -/
theorem Sim.grows (h : Sim c st tmps w S ρ) : Grows c.w0 c.S0 w S := ⟨h.below, h.old, h.new, h.live⟩
theorem Grows.keeps {w w' : World} {S S' : Safe} (h : Grows w S w' S') (hl : Live w S) : Keeps w S w' S' := fun b o hs => by
  obtain ⟨v, hv⟩ := hl b o hs
  exact ⟨h.2.1 b o hs, h.1.cell (p := ⟨b, o, none⟩) (cell_lt hv)⟩
/-- slots that are handed over a yield: data -/
theorem Sim.purify (h : Sim c st tmps w S ρ) (sl : List (Nat × D)) (hp : ∀ p ∈ sl, AV.toD st.mem 4 (getS st.slots p.1) = some p.2) :
    ∃ S', Grows c.w0 c.S0 w S' ∧ Keeps w S w S' ∧ (∀ a v, RepA w S ρ a v → RepA w S' ρ a v) ∧ ∀ p ∈ sl, Rep w S' p.2 (tmps.getD p.1 undef) := by
  obtain ⟨S', e1, e2, e3, e4, e5⟩ := h.close
  refine ⟨S', ⟨h.below, fun b o hs => e1 b o (h.old b o hs), fun b o hs => ?_, e3⟩, fun b o hs => ⟨e1 b o hs, rfl⟩, e4, fun p hpp => toD_rep e5 4 _ _ _ (e4 _ _ (h.slots p.1)) (hp p hpp)⟩
  rcases e2 b o hs with h1 | h1
  · exact h.new b o h1
  · exact .inr h1
def pureSt (sl : List (Nat × D)) : St := ⟨sl.map fun p => (p.1, .d p.2), [], []⟩
theorem getS_pure (sl : List (Nat × D)) (k : Nat) : getS (pureSt sl).slots k = .undef ∨ ∃ p ∈ sl, p.1 = k ∧ getS (pureSt sl).slots k = .d p.2 := by
  induction sl with
  | nil => exact .inl rfl
  | cons p sl ih =>
    simp only [pureSt, List.map_cons, getS]
    by_cases hk : p.1 = k
    · right; exact ⟨p, by simp, hk, by rw [if_pos hk]⟩
    · rw [if_neg hk]
      rcases ih with h | ⟨q, hq, e1, e2⟩
      · exact .inl h
      · exact .inr ⟨q, by simp [hq], e1, e2⟩
theorem Sim.fresh (hsz : tmps.size = N) (hl : Live w S) (hg : GlobOk P G w S) (sl : List (Nat × D)) (hr : ∀ p ∈ sl, Rep w S p.2 (tmps.getD p.1 undef)) : Sim (baseC P w S N G) (pureSt sl) tmps w S ⟨fun _ => none, fun _ => none, fun _ => none⟩ := by
  refine { size := hsz, slots := fun k => ?_, mem := fun s cs hs => (by simp [pureSt, getM] at hs), inj := fun s s' b hs => (by cases hs), boxNew := fun _ _ => rfl, mps := { at' := fun s k e kvs hs => (by simp [pureSt, getM] at hs), inj := fun s s' b hs => (by cases hs), new := fun _ _ => rfl, lt := fun s b hs => (by cases hs), apart := fun s b hs => (by cases hs) }, tok := fun t ht => (by simp [pureSt, getT] at ht), tokNew := fun _ _ => rfl,
           below := Below.refl _ _, old := fun _ _ hs => hs, new := fun _ _ hs => .inl hs, live := hl, glob := hg.1, ex := hg.2, fx := fun k hk => (by cases hk), obs := fun p hp => (by cases hp), keeps := fun p hp => (by cases hp) }
  rcases getS_pure sl k with h | ⟨p, hp, rfl, h⟩
  · rw [h]; trivial
  · rw [h]; exact hr p hp

structure YCtx (P : Program) (G : Nat → Option (List D)) (l : Nat) (xs : List (List CV)) (J : List (List CV) → World → Safe → Prop) (Jx : World → Safe → Prop) : Prop where
  grow : ∀ pre W S1 W' S2, J pre W S1 → Grows W S1 W' S2 → J pre W' S2
  growx : ∀ W S1 W' S2, Jx W S1 → Grows W S1 W' S2 → Jx W' S2
  live : ∀ pre W S1, J pre W S1 → Live W S1
  livex : ∀ W S1, Jx W S1 → Live W S1 ∧ P.globals.size ≤ W.heap.size
  glob : ∀ pre W S1, J pre W S1 → GlobOk P G W S1
  yield : ∀ pre x rest W S1 vs, xs = pre ++ x :: rest → J pre W S1 → RepCL W S1 x vs → YieldAt Fence.wide 0 P l vs.toArray W fun e W' =>
      (e = .returned (.bool true) ∧ ∃ S2, J (pre ++ [x]) W' S2 ∧ Keeps W S1 W' S2) ∨ (e = .returned (.bool false) ∧ ∃ S2, Jx W' S2)
variable {l : Nat} {xs : List (List CV)} {J : List (List CV) → World → Safe → Prop} {Jx : World → Safe → Prop}
/-- The function f, called with these data (yield among them) when a has been yielded: it yields ys and returns true; or returns false where it was told to end. -/
def EvY (P : Program) (xs : List (List CV)) (J : List (List CV) → World → Safe → Prop) (Jx : World → Safe → Prop) (f : FuncId) (args : List CV) (ys : List (List CV)) : Prop :=
  Enters P f ∧ ∀ (a b : List (List CV)) (W : World) (S : Safe) (cargs : Array Value), xs = a ++ ys ++ b → J a W S → RepCL W S args cargs.toList →
    Calls P f cargs W fun e W' => (e = .returned (.bool true) ∧ ∃ S2, J (a ++ ys) W' S2 ∧ Keeps W S W' S2) ∨ (e = .returned (.bool false) ∧ ∃ S2, Jx W' S2)

def noE : AEnv := ⟨fun _ => none, fun _ _ _ => False, fun _ _ _ => False⟩
theorem opd_op {o : Oper} {d : Option Nat} {f' : X} {args' : List X} (h : trOp T o.dst o.op = some (.call d f' args')) : ∃ f args argTypes, o.dst = d ∧ o.op = .call { callee := .value f, args := args, argTypes := argTypes } ∧ trX f = some f' ∧ trXs args.toList = some args' := by
  have hd := trOp_dst h
  simp only [DstIs] at hd
  generalize o.op = op at h
  cases op <;> simp only [trOp] at h
  case call cl =>
    obtain ⟨callee, args, argTypes⟩ := cl
    cases callee <;> simp only [trCall, Option.bind_eq_bind, Option.pure_def, reduceCtorEq] at h
    case value f =>
      obtain ⟨f1, hf, h⟩ := opd_some h
      obtain ⟨xs1, hxs, h⟩ := opd_some h
      cases h
      exact ⟨f, args, argTypes, hd, rfl, hf, hxs⟩
    case builtin b =>
      exfalso
      by_cases hbc : b = .clear
      · subst hbc
        simp only at h
        unfold trClear at h
        repeat' (first | (cases h; done) | (obtain ⟨_, _, h⟩ := opd_some h) | split at h)
      replace h : (o.dst >>= fun d => trBuiltin T d b args.toList argTypes.toList) = some (.call d f' args') := by cases b <;> first | exact h | exact absurd rfl hbc
      obtain ⟨_, _, h⟩ := opd_some h
      unfold trBuiltin at h
      repeat' (first | (cases h; done) | (obtain ⟨_, _, h⟩ := opd_some h) | split at h)
  case binOp op t x y t' =>
    exfalso
    unfold trBin at h
    repeat' (first | (cases h; done) | (obtain ⟨_, _, h⟩ := opd_some h) | split at h)
  case unOp u t x =>
    exfalso
    unfold trUn at h
    repeat' (first | (cases h; done) | (obtain ⟨_, _, h⟩ := opd_some h) | split at h)
  case makeMap t rs =>
    exfalso
    cases rs with
    | some _ => cases h
    | none => repeat' (first | (cases h; done) | (obtain ⟨_, _, h⟩ := opd_some h) | split at h)
  case pick x y z =>
    exfalso
    obtain ⟨_, _, h⟩ := opd_some h
    unfold trPick at h
    repeat' (first | (cases h; done) | (obtain ⟨_, _, h⟩ := opd_some h) | split at h)
  case slice t x lo hi mx =>
    exfalso
    cases mx with
    | some _ => cases h
    | none =>
    obtain ⟨_, _, h⟩ := opd_some h
    cases lo <;> cases hi
    all_goals
      repeat' (first | (cases h; done) | (obtain ⟨_, _, h⟩ := opd_some h) | split at h)
  all_goals
    exfalso
    repeat' (first | (cases h; done) | (obtain ⟨_, _, h⟩ := opd_some h) | split at h)
end Go.Abs
end
section
set_option linter.unusedSimpArgs false
set_option linter.unusedVariables false
set_option linter.unusedSectionVars false
namespace Go.Abs
open Go.RowKit
variable {c : Ctx} {st : St} {tmps : Array Value} {w : World} {S : Safe} {ρ : Rho} {E : AEnv} {T : Nat → Option Ty} {P : Program} {G : Nat → Option (List D)} {N : Nat}
variable {l : Nat} {xs : List (List CV)} {J : List (List CV) → World → Safe → Prop} {Jx : World → Safe → Prop}

theorem ops_pre (hG : E.G = c.G) (hC : ∀ f args r, E.C f args r → Ev c.P c.G f args r) (hT : ∀ t ty, T t = some ty → chkTy c.P t ty = true) {ops : Array Oper} {l : List (Option (Nat × Bool) × I)} (htr : trOps T ops.toList = some l)
    (hdst : ∀ o ∈ ops.toList, ∀ d, o.dst = some d → c.D d) {F : Fence} (hF : FW F) (m : Nat) (Q : Exit → Act → World → Prop) {K : St → Prop} (rest : List Nat) :
    ∀ (n k : Nat) {st : St} {tmps : Array Value} {w : World} {S : Safe} {ρ : Rho}, k + n ≤ ops.size → (∀ a w, Goes c K a w → wpOpsIn F m c.P ops Q rest a w) → Sim c st tmps w S ρ → aops E ((l.drop k).take n) K st → wpOpsIn F m c.P ops Q (List.range' k n ++ rest) ⟨tmps, c.ds⟩ w := by
  obtain ⟨hlen, hget⟩ := trOps_get htr
  simp only [Array.length_toList] at hlen
  intro n
  induction n with
  | zero =>
    intro k st tmps w S ρ hk hQ h hK
    simp only [List.take_zero, aops] at hK
    exact hQ _ _ ⟨rfl, _, _, _, h, hK⟩
  | succ n ih =>
    intro k st tmps w S ρ hk hQ h hK
    have hlt : k < ops.size := by omega
    obtain ⟨gi, i, hl, htg, hti⟩ := hget k ops[k] (by simp [hlt])
    have hdrop : l.drop k = (gi, i) :: l.drop (k + 1) := by
      have hkl : k < l.length := by omega
      rw [List.drop_eq_getElem_cons hkl]
      congr 1
      have := List.getElem?_eq_getElem hkl
      rw [this] at hl
      exact Option.some.inj hl
    rw [hdrop, List.take_succ_cons] at hK
    simp only [aops] at hK
    rw [List.range'_succ, List.cons_append, wpOpsIn_cons]
    refine wpOp_sound hG hC hT h (Array.getElem?_eq_getElem hlt) htg hti (hdst _ (by simp)) hK ?_ Q hF m
    rintro ⟨tmps', ds'⟩ w' ⟨hds, st', S', ρ', h', hK'⟩
    simp only at hds
    subst hds
    exact ih (k + 1) (by omega) hQ h' hK'

/-- the environment with no calls -/
def quietE (G : Nat → Option (List D)) : AEnv := ⟨G, fun _ _ _ => False, fun _ _ _ => False⟩
theorem reg_step (hT : ∀ t ty, T t = some ty → chkTy P t ty = true) {W1 : World} {S1 : Safe} {cd : Code} {l : List (Option (Nat × Bool) × I)} (h : tr T N cd = some (.reg l)) (hs : Sim (baseC P W1 S1 N G) st tmps w S ρ) {K : St → Prop} (hK : aops (quietE G) l K st)
    {Q : Exit → Act → World → Prop} {m : Nat} (hQ : ∀ st' tmps' w' S' ρ', Sim (baseC P W1 S1 N G) st' tmps' w' S' ρ' → K st' → Q .normal ⟨tmps', []⟩ w') : cd.wpIn (FR none) m P Q ⟨tmps, []⟩ w := by
  obtain ⟨id, ops, rfl, hops, hok⟩ := tr_reg h
  refine wpIn_region ?_
  rw [List.range_eq_range']
  refine ops_sound (c := baseC P W1 S1 N G) (E := quietE G) rfl (fun _ _ _ h => h.elim) hT hops (fun o ho d hd => ⟨okDst_D hok ho hd, rfl⟩) (FR.fw none) m Q (K := K) ?_ ops.size 0 (by omega) hs hK
  rintro ⟨tm, ds⟩ w' ⟨hd, st', S', ρ', h', hk'⟩
  simp only at hd
  subst hd
  exact hQ _ _ _ _ _ h' hk'
theorem cond_step {W1 : World} {S1 : Safe} {x : Operand} {y z : Code} {g : X} (hx : trX x = some g) (hs : Sim (baseC P W1 S1 N G) st tmps w S ρ) {b : Bool} (hg : ev st g = .d (.bool b)) (hgd : gd st g = true) {Q : Exit → Act → World → Prop} {m : Nat}
    (ht : b = true → y.wpIn (FR none) m P Q ⟨tmps, []⟩ w) (hf : b = false → z.wpIn (FR none) m P Q ⟨tmps, []⟩ w) : (Code.cond x y z).wpIn (FR none) m P Q ⟨tmps, []⟩ w := by
  have hev := hs.ev (ds := []) hx hgd
  rw [hg] at hev
  simp only [RepA, Rep] at hev
  exact wpIn_cond_split hev ht hf

theorem wpOpIn_plain {ops : Array Oper} {k : Nat} {o : Oper} (ho : ops[k]? = some o) (hg : trGuard ops.toList o.guard = some none) {F : Fence} {m : Nat} {K : Act → World → Prop} {Q : Exit → Act → World → Prop} {a : Act} (h : o.wpIn F m P a w K Q) : wpOpIn F m P ops Q k K a w := by
  have hgn : o.guard = none := by
    cases hgu : o.guard with
    | none => rfl
    | some jw =>
      rw [hgu] at hg
      simp only [trGuard, Option.bind_eq_bind, Option.pure_def, Option.bind_eq_some_iff, Option.some.injEq] at hg
      obtain ⟨_, _, _, _, hg⟩ := hg
      cases hg
  unfold wpOpIn
  simp only [ho]
  rw [if_pos (by unfold Region.wanted; rw [hgn])]
  exact h

theorem round_any {l : Nat} {f : FuncId} {tm : Array Value} {as bd : Code} {R : Ending → World → Prop} {m : Nat} (h : RoundIn Fence.wide 0 P l f tm as bd w R) : RoundIn (FR none) m P l f tm as bd w R :=
  ⟨trivial, fun c cs _ => h.2 c cs (room_wide _)⟩
theorem yield_op (hY : YCtx P G l xs J Jx) {W1 : World} {S1 : Safe} {a b : List (List CV)} {x : List CV} (hxs : xs = a ++ x :: b) (hJ : J a W1 S1) (h : Sim (baseC P W1 S1 N G) st tmps w S ρ) {o : Oper} {d : Nat} {f' : X} {args' : List X} (htr : trOp T o.dst o.op = some (.call (some d) f' args')) (hd : d < N)
    (hf : ev st f' = .d (.yl l)) (hgf : gd st f' = true) (hga : gds st args' = true) (hx : toCVs [] 1 (evs st args') = some x) (sl : List (Nat × D)) (hsl : ∀ p ∈ sl, AV.toD st.mem 4 (getS st.slots p.1) = some p.2) {m : Nat} {K : Act → World → Prop} {Q : Exit → Act → World → Prop}
    (hT : ∀ W' S2 ρ', J (a ++ [x]) W' S2 → Keeps w S W' S2 → Sim (baseC P W' S2 N G) ((pureSt sl).put none d (.d (.bool true))) (tmps.setIfInBounds d (.bool true)) W' S2 ρ' → K ⟨tmps.setIfInBounds d (.bool true), []⟩ W')
    (hF : ∀ W' S2 ρ', Jx W' S2 → Sim (baseC P W' S2 N (fun _ => none)) ((pureSt []).put none d (.d (.bool false))) (tmps.setIfInBounds d (.bool false)) W' S2 ρ' → K ⟨tmps.setIfInBounds d (.bool false), []⟩ W') :
    o.wpIn (FR none) m P ⟨tmps, []⟩ w K Q := by
  obtain ⟨f, args, argTypes, hdst, hop, hfx, hax⟩ := opd_op htr
  have e1 := h.ev (ds := []) hfx hgf
  rw [hf] at e1
  simp only [RepA, Rep] at e1
  obtain ⟨S', hg, hk, hup, hreps⟩ := h.purify sl hsl
  have hJw := hY.grow _ _ _ _ _ hJ hg
  have e2 := toCVs_rep (through_nil (w := w) (S := S') (ρ := ρ)) 1 (RepAs.keep hk ρ.le_refl _ _ (h.evs (ds := []) hax hga)) hx
  obtain ⟨fn, tm, as, bd, hrun, hR⟩ := hY.yield a x b w S' _ hxs hJw e2
  have hrun' : (execOp (Act.eval ⟨tmps, []⟩) o).run P w = .ok (.round l fn tm as bd) w := by
    unfold execOp
    simp only [hop]
    have : (args.toList.map (Act.eval ⟨tmps, []⟩)).toArray = args.map (Act.eval ⟨tmps, []⟩) := by rw [← Array.toList_map]
    rw [this] at hrun
    simp [resolve, Deferred.ofValue, e1, invoke, hrun]
  refine ⟨fun _ _ => trivial, ?_⟩
  rw [Oper.semAt_eq _ _ _ (fun c hc => by rw [hop] at hc; cases hc), hrun', Oper.uponIn_round]
  refine ⟨(by intro hd; cases hd), (round_any hR).mono ?_⟩
  rintro e W' (⟨rfl, S2, hJ2, hk2⟩ | ⟨rfl, S2, hx2⟩)
  · simp only [Act.put, hdst]
    have hs := Sim.fresh (P := P) (G := G) (N := N) h.size (hY.live _ _ _ hJ2) (hY.glob _ _ _ hJ2) sl (fun p hp => Rep.keep hk2 _ _ (hreps p hp))
    exact hT W' S2 _ hJ2 (hk.trans hk2) (hs.put (d := d) ⟨hd, rfl⟩ (a := .d (.bool true)) (v := .bool true) rfl none (fun b hb => by cases hb))
  · simp only [Act.put, hdst]
    have hs := Sim.fresh (P := P) (G := fun _ => none) (N := N) h.size (hY.livex _ _ hx2).1 ⟨fun g cs hg => (by cases hg), (hY.livex _ _ hx2).2, fun g cs _ hg => (by cases hg)⟩ [] (fun p hp => by cases hp)
    exact hF W' S2 _ hx2 (hs.put (d := d) ⟨hd, rfl⟩ (a := .d (.bool false)) (v := .bool false) rfl none (fun b hb => by cases hb))

theorem evy_op (hY : YCtx P G l xs J Jx) {W1 : World} {S1 : Safe} {a b ys : List (List CV)} (hxs : xs = a ++ ys ++ b) (hJ : J a W1 S1) (h : Sim (baseC P W1 S1 N G) st tmps w S ρ) {o : Oper} {d : Nat} {f' : X} {args' : List X} (htr : trOp T o.dst o.op = some (.call (some d) f' args')) (hd : d < N) {fid : FuncId} {cvs : List CV}
    (hf : ev st f' = .d (.clo fid [])) (hgf : gd st f' = true) (hga : gds st args' = true) (hx : toCVs [] 1 (evs st args') = some cvs) (hV : EvY P xs J Jx fid cvs ys) (sl : List (Nat × D)) (hsl : ∀ p ∈ sl, AV.toD st.mem 4 (getS st.slots p.1) = some p.2) {m : Nat} {K : Act → World → Prop} {Q : Exit → Act → World → Prop}
    (hT : ∀ W' S2 ρ', J (a ++ ys) W' S2 → Keeps w S W' S2 → Sim (baseC P W' S2 N G) ((pureSt sl).put none d (.d (.bool true))) (tmps.setIfInBounds d (.bool true)) W' S2 ρ' → K ⟨tmps.setIfInBounds d (.bool true), []⟩ W')
    (hF : ∀ W' S2 ρ', Jx W' S2 → Sim (baseC P W' S2 N (fun _ => none)) ((pureSt []).put none d (.d (.bool false))) (tmps.setIfInBounds d (.bool false)) W' S2 ρ' → K ⟨tmps.setIfInBounds d (.bool false), []⟩ W') :
    o.wpIn (FR none) m P ⟨tmps, []⟩ w K Q := by
  obtain ⟨f, args, argTypes, hdst, hop, hfx, hax⟩ := opd_op htr
  have e1 := h.ev (ds := []) hfx hgf
  rw [hf] at e1
  obtain ⟨cs, hv, hcaps⟩ := e1
  simp only [RepL] at hcaps
  have hcs : cs = #[] := by cases cs; simp_all
  subst hcs
  obtain ⟨S', hg, hk, hup, hreps⟩ := h.purify sl hsl
  have hJw := hY.grow _ _ _ _ _ hJ hg
  have e2 := toCVs_rep (through_nil (w := w) (S := S') (ρ := ρ)) 1 (RepAs.keep hk ρ.le_refl _ _ (h.evs (ds := []) hax hga)) hx
  obtain ⟨⟨fn, hfn, hname, hbody⟩, hcalls⟩ := hV
  have hrun' : (execOp (Act.eval ⟨tmps, []⟩) o).run P w = .ok (.enter fid (args.map (Act.eval ⟨tmps, []⟩))) w := by
    unfold execOp
    simp only [hop]
    have hname' : ¬ fn.name = "runtime.NumGoroutine" := by simpa using hname
    have hbody' : ¬ fn.body = none := by intro e; simp [e] at hbody
    simp [resolve, invoke, callFunc, Deferred.ofValue, hv, hfn, hname', hbody']
  refine ⟨fun _ _ => trivial, ?_⟩
  rw [Oper.semAt_eq _ _ _ (fun c hc => by rw [hop] at hc; cases hc), hrun', Oper.uponIn_enter]
  refine ⟨(by intro hd; cases hd), callsIn_fw (FR.fw none) ((hcalls a b w S' _ hxs hJw (by simpa using e2)).mono ?_)⟩
  rintro e W' (⟨rfl, S2, hJ2, hk2⟩ | ⟨rfl, S2, hx2⟩)
  · simp only [Act.put, hdst]
    have hs := Sim.fresh (P := P) (G := G) (N := N) h.size (hY.live _ _ _ hJ2) (hY.glob _ _ _ hJ2) sl (fun p hp => Rep.keep hk2 _ _ (hreps p hp))
    exact hT W' S2 _ hJ2 (hk.trans hk2) (hs.put (d := d) ⟨hd, rfl⟩ (a := .d (.bool true)) (v := .bool true) rfl none (fun b hb => by cases hb))
  · simp only [Act.put, hdst]
    have hs := Sim.fresh (P := P) (G := fun _ => none) (N := N) h.size (hY.livex _ _ hx2).1 ⟨fun g cs hg => (by cases hg), (hY.livex _ _ hx2).2, fun g cs _ hg => (by cases hg)⟩ [] (fun p hp => by cases hp)
    exact hF W' S2 _ hx2 (hs.put (d := d) ⟨hd, rfl⟩ (a := .d (.bool false)) (v := .bool false) rfl none (fun b hb => by cases hb))

theorem ret_bool (hT : ∀ t ty, T t = some ty → chkTy P t ty = true) {W1 : World} {S1 : Safe} {fn : Func} {k : Nat} (hrs : fn.results.toList.mapM (trRes T) = some [.t k]) (h : Sim (baseC P W1 S1 N G) st tmps w S ρ) (hm : st.mem = []) {b : Bool} (hk : getS st.slots k = .d (.bool b)) : (results fn tmps).run P w = .ok (.bool b) w := by
  obtain ⟨vs, hrun, hrep⟩ := results_sound (c := baseC P W1 S1 N G) h hT (fun _ _ h => h) (by rw [hm]; exact through_nil) hrs (l := [.one (.bool b)]) (by simp [resCVs, resCV, resAV, hk, AV.toCV, AV.toD])
  obtain ⟨v, r', q1, q2, q3⟩ := hrep
  simp only [RepCL] at q3
  subst q3
  subst q1
  simp only [RepC, Rep] at q2
  subst q2
  rw [results_eq, Array.mapM_eq_mapM_toList]
  have hrunP : (fn.results.toList.mapM (rvRun tmps)).run P w = .ok [.bool b] w := hrun
  simp only [Sem.run_bind, Sem.run_map, hrunP]
  simp
end Go.Abs
end
