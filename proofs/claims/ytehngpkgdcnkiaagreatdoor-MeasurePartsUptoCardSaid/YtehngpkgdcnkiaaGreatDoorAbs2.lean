/-
  A LIBRARY OF THE PROOF: an abstract machine over the texts of the translated functions, whose values are plain data, proved sound with regard to the kit's law of calls.
-/
import Derived.Laws.StructEq
import Derived.ChangeKeysEq
import Derived.OrdersIn
import Derived.Test.YtehngpkgdcnkiaaGreatDoorAbs1
set_option linter.unusedSimpArgs false
set_option linter.unusedVariables false
set_option linter.unusedSectionVars false
set_option maxRecDepth 100000
section
namespace Go.Abs
open Go.RowKit
variable {c : Ctx} {st : St} {tmps : Array Value} {w : World} {S : Safe} {ρ : Rho}
theorem mpOk_get {st : St} : ∀ {mp : TMap} {us : List Nat}, mpOk st mp us → (∀ t u, getTM mp t = some u → getT st.tk u = some true ∧ us.contains u = false) ∧ (∀ t t' u, getTM mp t = some u → getTM mp t' = some u → t = t')
 | [], _, _ => ⟨fun t u h => by simp [getTM] at h, fun t t' u h => by simp [getTM] at h⟩
 | (k, u0) :: r, us, h => by
  obtain ⟨⟨h0, h1⟩, h2⟩ := h
  obtain ⟨i1, i2⟩ := mpOk_get h2
  have hno : ∀ t u, getTM r t = some u → u ≠ u0 ∧ us.contains u = false := by
   intro t u ht
   have := (i1 t u ht).2
   simp only [List.contains_cons, Bool.or_eq_false_iff, beq_eq_false_iff_ne] at this
   exact ⟨this.1, this.2⟩
  refine ⟨fun t u ht => ?_, fun t t' u ht ht' => ?_⟩
  ·simp only [getTM] at ht
   split at ht
   ·cases ht; exact ⟨h1, h0⟩
   ·exact ⟨(i1 t u ht).1, (hno t u ht).2⟩
  ·simp only [getTM] at ht ht'
   split at ht <;> split at ht'
   ·simp_all
   ·cases ht; exact absurd rfl (hno t' _ ht').1
   ·cases ht'; exact absurd rfl (hno t _ ht).1
   ·exact i2 t t' u ht ht'
theorem getT_tkOf : ∀ (mp : TMap) (t : Nat), getT (tkOf mp) t = (getTM mp t).map fun _ => true
 | [], t => rfl
 | (k, u) :: r, t => by
  simp only [tkOf, getT, getTM]
  split
  ·rfl
  ·exact getT_tkOf r t
theorem getTM_in : ∀ {σ : TMap} {s u : Nat}, getTM σ s = some u → (s, u) ∈ σ
 | (k, v) :: l, s, u, h => by
  simp only [getTM] at h
  split at h
  ·rename_i hk; subst hk; cases h; exact List.mem_cons_self
  ·exact List.mem_cons_of_mem _ (getTM_in h)
theorem noTwice_mem : ∀ {l : List Nat} {a : Nat}, noTwice (a :: l) = true → a ∉ l ∧ noTwice l = true
 | l, a, h => by
  simp only [noTwice, Bool.and_eq_true, Bool.not_eq_true', List.contains_eq_mem, decide_eq_false_iff_not] at h
  exact h
theorem getTM_mem : ∀ {σ : TMap} {s u : Nat}, noTwice (σ.map (·.1)) = true → (s, u) ∈ σ → getTM σ s = some u
 | (k, v) :: l, s, u, hn, h => by
  obtain ⟨h1, h2⟩ := noTwice_mem (by simpa using hn)
  simp only [getTM]
  rcases List.mem_cons.1 h with e | h
  ·cases e; rw [if_pos rfl]
  ·rw [if_neg]
   ·exact getTM_mem h2 h
   ·rintro rfl; exact h1 (List.mem_map.2 ⟨_, h, rfl⟩)
theorem pair_inj : ∀ {σ : TMap} {s s' u : Nat}, noTwice (σ.map (·.2)) = true → (s, u) ∈ σ → (s', u) ∈ σ → s = s'
 | (k, v) :: l, s, s', u, hn, h, h' => by
  obtain ⟨h1, h2⟩ := noTwice_mem (by simpa using hn)
  rcases List.mem_cons.1 h with e | h <;> rcases List.mem_cons.1 h' with e' | h'
  ·cases e; cases e'; rfl
  ·cases e; exact absurd (List.mem_map.2 ⟨_, h', rfl⟩) h1
  ·cases e'; exact absurd (List.mem_map.2 ⟨_, h, rfl⟩) h1
  ·exact pair_inj h2 h h'
def rho0 (ρ : Rho) (σ τ : TMap) : Rho := { box := fun s => (getTM σ s).bind ρ.box, mbox := fun s => (getTM σ s).bind ρ.mbox, tok := fun t => (getTM τ t).bind ρ.tok }
theorem Match1.sound {σ τ : TMap} {a a0 : AV} {v : Value} (h : RepA w S ρ a v) (hm : Match1 σ τ a a0) : RepA w S (rho0 ρ σ τ) a0 v := by
 cases a0 with
 | d x => exact toD_rep (m := []) through_nil 1 a v x h hm
 | own t sz es =>
  simp only [Match1] at hm
  split at hm
  ·rename_i u hu
   subst hm
   obtain ⟨h1, h2, base, n, cap, h3, h4⟩ := h
   exact ⟨h1, h2, base, n, cap, by simp only [rho0, hu, Option.bind_some]; exact h3, h4⟩
  ·exact hm.elim
 | ptr s off =>
  simp only [Match1] at hm
  split at hm
  ·rename_i u hu
   subst hm
   obtain ⟨b, h1, h2⟩ := h
   exact ⟨b, by simp only [rho0, hu, Option.bind_some]; exact h1, h2⟩
  ·exact hm.elim
 | mref s =>
  simp only [Match1] at hm
  split at hm
  ·rename_i u hu
   subst hm
   obtain ⟨b, h1, h2⟩ := h
   exact ⟨b, by simp only [rho0, hu, Option.bind_some]; exact h1, h2⟩
  ·exact hm.elim
 | _ => exact hm.elim
theorem Matches.sound {σ τ : TMap} : ∀ {as bs : List AV} {vs : List Value}, RepAs w S ρ as vs → Matches σ τ as bs → RepAs w S (rho0 ρ σ τ) bs vs
 | [], [], _, h, _ => h
 | a :: as, b :: bs, _, ⟨v, r, e, h1, h2⟩, hm => ⟨v, r, e, Match1.sound h1 hm.1, Matches.sound h2 hm.2⟩
 | [], _ :: _, _, _, hm => hm.elim
 | _ :: _, [], _, _, hm => hm.elim
theorem MatchV.sound {σ τ : TMap} {a a0 : AV} {v : Value} (h : RepA w S ρ a v) (hm : MatchV σ τ a a0) : RepA w S (rho0 ρ σ τ) a0 v := by
 cases a0 with
 | agg cs0 =>
  cases a with
  | agg cs =>
   obtain ⟨vs, h1, h2⟩ := h
   exact ⟨vs, h1, Matches.sound h2 hm⟩
  | _ => exact hm.elim
 | _ => exact Match1.sound h hm
theorem MatchVs.sound {σ τ : TMap} : ∀ {as bs : List AV} {vs : List Value}, RepAs w S ρ as vs → MatchVs σ τ as bs → RepAs w S (rho0 ρ σ τ) bs vs
 | [], [], _, h, _ => h
 | a :: as, b :: bs, _, ⟨v, r, e, h1, h2⟩, hm => ⟨v, r, e, MatchV.sound h1 hm.1, MatchVs.sound h2 hm.2⟩
 | [], _ :: _, _, _, hm => hm.elim
 | _ :: _, [], _, _, hm => hm.elim
theorem Matches.noMp {σ τ : TMap} {cs cs0 : List AV} (h : Matches σ τ cs cs0) : isMp cs = false := by
 cases hm : isMp cs with
 | false => rfl
 | true =>
  obtain ⟨k, e, kvs, rfl⟩ := isMp_iff.1 hm
  cases cs0 with
  | nil => exact h.elim
  | cons a0 r =>
   have h1 := h.1
   cases a0 <;> simp only [Match1, AV.toD, reduceCtorEq] at h1
   all_goals (split at h1 <;> first | exact h1.elim | cases h1)
theorem MatchMem.get {st : St} {τ σ0 : TMap} : ∀ {σ : TMap} {m : Mem}, MatchMem st τ σ0 σ m → (∀ s cs0, getM m s = some cs0 → ∃ s' cs, getTM σ s = some s' ∧ getM st.mem s' = some cs ∧ ((isMp cs0 = true ∧ cs = cs0) ∨ (isMp cs0 = false ∧ isMp cs = false ∧ Matches σ0 τ cs cs0))) ∧
  (∀ s, getM m s = none → getTM σ s = none) ∧ (∀ p ∈ σ, 1000 ≤ p.1 ∧ (getM st.mem p.2).isSome = true)
 | [], [], _ => ⟨fun s cs0 h => by simp [getM] at h, fun s _ => rfl, fun p hp => by cases hp⟩
 | (s, s') :: σ, (s0, cs0) :: m, h => by
  obtain ⟨⟨rfl, hge, hm⟩, hr⟩ := h
  obtain ⟨i1, i2, i3⟩ := MatchMem.get hr
  refine ⟨fun k ck hk => ?_, fun k hk => ?_, fun p hp => ?_⟩
  ·simp only [getM] at hk
   simp only [getTM]
   by_cases hks : s0 = k
   ·subst hks
    rw [if_pos rfl] at hk ⊢
    cases hk
    split at hm
    ·rename_i cs hcs
     refine ⟨s', cs, rfl, hcs, ?_⟩
     split at hm
     ·exact .inl ⟨rfl, hm⟩
     ·rename_i hne
      have h0 : isMp cs0 = false := by
       cases hmp : isMp cs0 with
       | false => rfl
       | true => obtain ⟨k, e, kvs, rfl⟩ := isMp_iff.1 hmp; exact absurd rfl (hne k e kvs)
      exact .inr ⟨h0, hm.noMp, hm⟩
    ·exact hm.elim
   ·rw [if_neg hks] at hk ⊢
    exact i1 k ck hk
  ·simp only [getM] at hk
   simp only [getTM]
   by_cases hks : s0 = k
   ·rw [if_pos hks] at hk; cases hk
   ·rw [if_neg hks] at hk ⊢; exact i2 k hk
  ·rcases List.mem_cons.1 hp with rfl | hp
   ·refine ⟨hge, ?_⟩
    split at hm
    ·rename_i cs hcs; simp [hcs]
    ·exact hm.elim
   ·exact i3 p hp
 | [], _ :: _, h => h.elim
 | _ :: _, [], h => h.elim
def blocksOf (ρ : Rho) (σ τ : TMap) : List Nat := σ.filterMap (fun p => ρ.box p.2) ++ σ.filterMap (fun p => ρ.mbox p.2) ++ τ.filterMap fun p => match ρ.tok p.2 with
 | some (some a, n, cap, _) => if n = cap then none else some a.block
 | _ => none
theorem blocks_box {σ τ : TMap} {s s' b : Nat} (h : getTM σ s = some s') (hb : ρ.box s' = some b) : b ∈ blocksOf ρ σ τ :=
 List.mem_append_left _ (List.mem_append_left _ (List.mem_filterMap.2 ⟨(s, s'), getTM_in h, hb⟩))
theorem blocks_mbox {σ τ : TMap} {s s' b : Nat} (h : getTM σ s = some s') (hb : ρ.mbox s' = some b) : b ∈ blocksOf ρ σ τ :=
 List.mem_append_left _ (List.mem_append_right _ (List.mem_filterMap.2 ⟨(s, s'), getTM_in h, hb⟩))
theorem blocks_tok {σ τ : TMap} {t u b : Nat} {y : Nat × Nat × Nat} (h : getTM τ t = some u) (hb : ρ.tok u = some (some ⟨b, 0, none⟩, y)) (hy : y.1 ≠ y.2.1) : b ∈ blocksOf ρ σ τ := by
 refine List.mem_append_right _ (List.mem_filterMap.2 ⟨(t, u), getTM_in h, ?_⟩)
 obtain ⟨n, cap, sz⟩ := y
 simp only [hb]
 rw [if_neg hy]
theorem blocks_cases {σ τ : TMap} {b : Nat} (hn : noTwice (τ.map (·.1)) = true) (h : b ∈ blocksOf ρ σ τ) : (∃ s s', (s, s') ∈ σ ∧ ρ.box s' = some b) ∨ (∃ s s', (s, s') ∈ σ ∧ ρ.mbox s' = some b) ∨ ∃ t u a n cap sz, getTM τ t = some u ∧ ρ.tok u = some (some a, n, cap, sz) ∧ n ≠ cap ∧ a.block = b := by
 rcases List.mem_append.1 h with h | h
 ·rcases List.mem_append.1 h with h | h
  ·obtain ⟨p, hp, hb⟩ := List.mem_filterMap.1 h; exact .inl ⟨p.1, p.2, hp, hb⟩
  ·obtain ⟨p, hp, hb⟩ := List.mem_filterMap.1 h; exact .inr (.inl ⟨p.1, p.2, hp, hb⟩)
 ·obtain ⟨p, hp, hb⟩ := List.mem_filterMap.1 h
  split at hb
  ·rename_i a n cap sz ht
   split at hb
   ·cases hb
   ·rename_i hne
    cases hb
    exact .inr (.inr ⟨p.1, p.2, a, n, cap, sz, getTM_mem hn hp, ht, hne, rfl⟩)
  ·cases hb
theorem Sim.handB (h : Sim c st tmps w S ρ) {σ τ : TMap} {m0 : Mem} (hm : MatchMem st τ σ σ m0) (ht : mpOk st τ []) (hs1 : noTwice (σ.map (·.1)) = true) (hs2 : noTwice (σ.map (·.2)) = true) :
  Sim (ctxB c.P c.G w S (blocksOf ρ σ τ) (σ.filterMap fun p => (ρ.box p.2).map fun b => (p.1, b)) (σ.filterMap fun p => (ρ.mbox p.2).map fun b => (p.1, b)) none) ⟨[], m0, tkOf τ⟩ #[] w S (rho0 ρ σ τ) := by
 obtain ⟨g1, g2, g3⟩ := hm.get
 obtain ⟨t1, t2⟩ := mpOk_get ht
 have hge : ∀ b, c.Own b → c.P.globals.size ≤ b := fun b hb => by
  rcases hb with hb | ⟨_, hb⟩
  ·exact Nat.le_trans h.ex.1 hb
  ·exact hb
 refine { size := rfl, slots := fun k => trivial, mem := ?_, inj := ?_, boxNew := ?_, mps := ?_, tok := ?_, tokNew := ?_, below := BelowO.refl _, old := fun _ _ hs => hs, new := fun _ _ hs => .inl hs, live := h.live, glob := h.glob, ex := h.exact,
          fx := fun k hk => (by cases hk), obs := fun p hp => (by cases hp), keeps := fun p hp => (by cases hp), pins := ⟨fun p hp => ⟨Nat.zero_le _, fun b hb => ?_⟩, fun p hp => ⟨Nat.zero_le _, fun b hb => ?_⟩⟩ }
 ·intro s cs0 hs hnm
  obtain ⟨s', cs, e1, e2, ⟨e3, _⟩ | ⟨_, e4, e5⟩⟩ := g1 s cs0 hs
  ·rw [hnm] at e3; cases e3
  ·obtain ⟨b, vs, e, k1, k2, k3, k4, k6⟩ := h.mem s' cs e2 e4
   exact ⟨b, vs, e, by simp only [rho0, e1, Option.bind_some]; exact k1, .inr ⟨blocks_box e1 k1, hge b k2⟩, k3, Matches.sound k4 e5, k6⟩
 ·intro s s' b hb hb'
  simp only [rho0, Option.bind_eq_some_iff] at hb hb'
  obtain ⟨u, e1, e2⟩ := hb
  obtain ⟨u', e1', e2'⟩ := hb'
  obtain rfl := h.inj u u' b e2 e2'
  exact pair_inj hs2 (getTM_in e1) (getTM_in e1')
 ·intro s hs
  simp only [rho0, g2 s hs, Option.bind_none]
 ·refine { at' := ?_, inj := ?_, new := ?_, lt := ?_, apart := ?_ }
  ·intro s k e kvs hs
   obtain ⟨s', cs, e1, e2, ⟨_, rfl⟩ | ⟨e3, _⟩⟩ := g1 s _ hs
   ·obtain ⟨b, k1, k2, k3, k4⟩ := h.mps.at' s' k e kvs e2
    exact ⟨b, by simp only [rho0, e1, Option.bind_some]; exact k1, by simp only [rho0, e1, Option.bind_some]; exact k2, .inr ⟨blocks_mbox e1 k1, hge b k3⟩, k4⟩
   ·cases e3
  ·intro s s' b hb hb'
   simp only [rho0, Option.bind_eq_some_iff] at hb hb'
   obtain ⟨u, e1, e2⟩ := hb
   obtain ⟨u', e1', e2'⟩ := hb'
   obtain rfl := h.mps.inj u u' b e2 e2'
   exact pair_inj hs2 (getTM_in e1) (getTM_in e1')
  ·intro s hs
   simp only [rho0, g2 s hs, Option.bind_none]
  ·intro s b hb
   simp only [rho0, Option.bind_eq_some_iff] at hb
   obtain ⟨u, _, e2⟩ := hb
   exact h.mps.lt u b e2
  ·intro s b hb
   simp only [rho0, Option.bind_eq_some_iff] at hb
   obtain ⟨u, e1, e2⟩ := hb
   simp only [rho0, e1, Option.bind_some]
   exact h.mps.apart u b e2
 ·intro t hlive
  simp only at hlive
  rw [getT_tkOf] at hlive
  cases htu : getTM τ t with
  | none => rw [htu] at hlive; cases hlive
  | some u =>
   obtain ⟨x, k1, k2⟩ := h.tok u (t1 t u htu).1
   refine ⟨x, by simp only [rho0, htu, Option.bind_some]; exact k1, ?_⟩
   by_cases hfull : x.2.1 = x.2.2.1
   ·exact .inl hfull
   rcases k2 with k2 | ⟨b, q0, q1, q2, q3, q4, q5, q6, q7⟩
   ·exact .inl k2
   ·refine .inr ⟨b, q0, .inr ⟨blocks_tok htu (by rw [k1, ← q0]) hfull, hge b q1⟩, q2, q3, q4, q5, fun s hsb => ?_, fun t' b' y hne ht' htok hy => ?_⟩
    ·simp only [rho0, Option.bind_eq_some_iff] at hsb
     obtain ⟨s', _, e2⟩ := hsb
     exact q6 s' e2
    ·simp only [rho0, Option.bind_eq_some_iff] at htok
     obtain ⟨u', e1, e2⟩ := htok
     refine q7 u' b' y (fun e => hne ?_) (t1 t' u' e1).1 e2 hy
     subst e
     exact t2 t' t u' e1 htu
 ·intro t hn
  simp only at hn
  rw [getT_tkOf] at hn
  cases htu : getTM τ t with
  | none => simp only [rho0, htu, Option.bind_none]
  | some u => rw [htu] at hn; cases hn
 ·obtain ⟨q, hq, e⟩ := List.mem_filterMap.1 hp
  rw [Option.map_eq_some_iff] at e
  obtain ⟨b0, e1, rfl⟩ := e
  simp only [rho0, getTM_mem hs1 (show (q.1, q.2) ∈ σ from hq), Option.bind_some] at hb
  exact Option.some.inj (hb.symm.trans e1)
 ·obtain ⟨q, hq, e⟩ := List.mem_filterMap.1 hp
  rw [Option.map_eq_some_iff] at e
  obtain ⟨b0, e1, rfl⟩ := e
  simp only [rho0, getTM_mem hs1 (show (q.1, q.2) ∈ σ from hq), Option.bind_some] at hb
  exact Option.some.inj (hb.symm.trans e1)
end Go.Abs
end
section
namespace Go.Abs
open Go.RowKit
variable {c : Ctx} {st : St} {tmps : Array Value} {w : World} {S : Safe} {ρ : Rho}
def invTM : TMap → Nat → Option Nat
 | [], _ => none
 | (t, u) :: l, i => if u = i then some t else invTM l i
theorem invTM_in : ∀ {σ : TMap} {s u : Nat}, invTM σ u = some s → (s, u) ∈ σ
 | (k, v) :: l, s, u, h => by
  simp only [invTM] at h
  split at h
  ·rename_i hk; subst hk; cases h; exact List.mem_cons_self
  ·exact List.mem_cons_of_mem _ (invTM_in h)
theorem invTM_mem : ∀ {σ : TMap} {s u : Nat}, noTwice (σ.map (·.2)) = true → (s, u) ∈ σ → invTM σ u = some s
 | (k, v) :: l, s, u, hn, h => by
  obtain ⟨h1, h2⟩ := noTwice_mem (by simpa using hn)
  simp only [invTM]
  rcases List.mem_cons.1 h with e | h
  ·cases e; rw [if_pos rfl]
  ·rw [if_neg]
   ·exact invTM_mem h2 h
   ·rintro rfl; exact h1 (List.mem_map.2 ⟨_, h, rfl⟩)
theorem invTM_none {σ : TMap} {u : Nat} (h : invTM σ u = none) : ∀ s, (s, u) ∉ σ := by
 induction σ with
 | nil => intro s hs; cases hs
 | cons p l ih =>
  obtain ⟨k, v⟩ := p
  simp only [invTM] at h
  split at h
  ·cases h
  ·rename_i hk
   intro s hs
   rcases List.mem_cons.1 hs with e | hs
   ·cases e; exact hk rfl
   ·exact ih h s hs
theorem fresh_in : ∀ {τ : TMap} {tk : List (Nat × Bool)} {t u : Nat}, fresh1 tk τ → (t, u) ∈ τ → getT tk u = none
 | (k, v) :: l, tk, t, u, h, hm => by
  rcases List.mem_cons.1 hm with e | hm
  ·cases e; exact h.1
  ·exact fresh_in h.2 hm
theorem getT_newAll : ∀ (τ : TMap) (l : List (Nat × Bool)) (u : Nat), getT (newAll τ ++ l) u = if (invTM τ u).isSome then some true else getT l u
 | [], l, u => rfl
 | (k, v) :: r, l, u => by
  by_cases h : v = u
  ·simp [newAll, getT, invTM, h]
  ·simp [newAll, getT, invTM, h, getT_newAll r l u]
theorem getT_killAll : ∀ (τ : TMap) (l : List (Nat × Bool)) (u : Nat), getT (killAll τ ++ l) u = if (invTM τ u).isSome then some false else getT l u
 | [], l, u => rfl
 | (k, v) :: r, l, u => by
  by_cases h : v = u
  ·simp [killAll, getT, invTM, h]
  ·simp [killAll, getT, invTM, h, getT_killAll r l u]
theorem kinds_eq : ∀ {m1 m0 : Mem} (s : Nat), m1.map (·.1) = m0.map (·.1) → m1.map (fun p => isMp p.2) = m0.map (fun p => isMp p.2) → (getM m1 s).map isMp = (getM m0 s).map isMp
 | [], [], s, _, _ => rfl
 | (k, a) :: m1, (k', b) :: m0, s, h, h' => by
  simp only [List.map_cons, List.cons.injEq] at h h'
  obtain ⟨rfl, h⟩ := h
  obtain ⟨e, h'⟩ := h'
  simp only [getM]
  by_cases hk : k = s
  ·rw [if_pos hk, if_pos hk]; simp [e]
  ·rw [if_neg hk, if_neg hk]; exact kinds_eq s h h'
 | [], _ :: _, _, h, _ => by simp at h
 | _ :: _, [], _, h, _ => by simp at h
theorem ren_get {σ τ : TMap} {m : Mem} {s' : Nat} {cs : List AV} : ∀ {m1 : Mem}, (∀ p ∈ m1, ∃ u, getTM σ p.1 = some u) → getM (renMem σ τ m1 ++ m) s' = some cs →
  (∃ s0 cs1, getTM σ s0 = some s' ∧ getM m1 s0 = some cs1 ∧ cs = cs1.map (AV.ren1 σ τ)) ∨ ((∀ s0, getTM σ s0 = some s' → getM m1 s0 = none) ∧ getM m s' = some cs)
 | [], _, h => .inr ⟨fun _ _ => rfl, h⟩
 | (k, ck) :: r, hn, h => by
  obtain ⟨u, hu⟩ := hn (k, ck) (by simp)
  simp only [renMem, List.cons_append, getM] at h
  rw [hu, Option.getD_some] at h
  by_cases he : u = s'
  ·rw [if_pos he] at h
   cases h
   exact .inl ⟨k, ck, he ▸ hu, by simp [getM], rfl⟩
  ·rw [if_neg he] at h
   rcases ren_get (fun p hp => hn p (by simp [hp])) h with ⟨s0, cs1, e1, e2, e3⟩ | ⟨e1, e2⟩
   ·refine .inl ⟨s0, cs1, e1, ?_, e3⟩
    simp only [getM]
    rw [if_neg]
    ·exact e2
    ·intro hk
     rw [hk, e1] at hu
     exact he (Option.some.inj hu).symm
   ·refine .inr ⟨fun s0 hs0 => ?_, e2⟩
    simp only [getM]
    rw [if_neg]
    ·exact e1 s0 hs0
    ·intro hk
     rw [hk, hs0] at hu
     exact he (Option.some.inj hu).symm
theorem ren_none {σ τ : TMap} {m : Mem} {s' : Nat} : ∀ {m1 : Mem}, getM (renMem σ τ m1 ++ m) s' = none → getM m s' = none
 | [], h => h
 | (k, ck) :: r, h => by
  simp only [renMem, List.cons_append, getM] at h
  split at h
  ·cases h
  ·exact ren_none h
theorem RepA.ren {ρ1 ρ2 : Rho} {σ τ1 : TMap} (hb : ∀ s b, ρ1.box s = some b → ∃ s', getTM σ s = some s' ∧ ρ2.box s' = some b) (hm : ∀ s b, ρ1.mbox s = some b → ∃ s', getTM σ s = some s' ∧ ρ2.mbox s' = some b)
  (ht : ∀ t x, ρ1.tok t = some x → ∃ u, getTM τ1 t = some u ∧ ρ2.tok u = some x) {a : AV} {v : Value} (hk : keep1 a = true) (h : RepA w S ρ1 a v) : RepA w S ρ2 (a.ren1 σ τ1) v := by
 cases a with
 | d x => exact h
 | full es => exact h
 | own t sz es =>
  obtain ⟨h1, h2, base, n, cap, h3, h4⟩ := h
  obtain ⟨u, e1, e2⟩ := ht t _ h3
  simp only [AV.ren1, e1, Option.getD_some]
  exact ⟨h1, h2, base, n, cap, e2, h4⟩
 | ptr s off =>
  obtain ⟨b, h1, h2⟩ := h
  obtain ⟨u, e1, e2⟩ := hb s _ h1
  simp only [AV.ren1, e1, Option.getD_some]
  exact ⟨b, e2, h2⟩
 | mref s =>
  obtain ⟨b, h1, h2⟩ := h
  obtain ⟨u, e1, e2⟩ := hm s _ h1
  simp only [AV.ren1, e1, Option.getD_some]
  exact ⟨b, e2, h2⟩
 | mp k e kvs => exact h.elim
 | _ => cases hk
theorem RepAs.ren {ρ1 ρ2 : Rho} {σ τ1 : TMap} (hb : ∀ s b, ρ1.box s = some b → ∃ s', getTM σ s = some s' ∧ ρ2.box s' = some b) (hm : ∀ s b, ρ1.mbox s = some b → ∃ s', getTM σ s = some s' ∧ ρ2.mbox s' = some b)
  (ht : ∀ t x, ρ1.tok t = some x → ∃ u, getTM τ1 t = some u ∧ ρ2.tok u = some x) : ∀ {as : List AV} {vs : List Value}, as.all keep1 = true → RepAs w S ρ1 as vs → RepAs w S ρ2 (as.map (AV.ren1 σ τ1)) vs
 | [], _, _, h => h
 | a :: as, _, hk, ⟨v, r, e, h1, h2⟩ => by
  simp only [List.all_cons, Bool.and_eq_true] at hk
  exact ⟨v, r, e, RepA.ren hb hm ht hk.1 h1, RepAs.ren hb hm ht hk.2 h2⟩
theorem getM_in : ∀ {m : Mem} {s : Nat} {cs : List AV}, getM m s = some cs → (s, cs) ∈ m
 | (k, v) :: l, s, cs, h => by
  simp only [getM] at h
  split at h
  ·rename_i hk; subst hk; cases h; exact List.mem_cons_self
  ·exact List.mem_cons_of_mem _ (getM_in h)
theorem getM_some {m : Mem} {p : Nat × List AV} (h : p ∈ m) : ∃ cs, getM m p.1 = some cs := by
 induction m with
 | nil => cases h
 | cons q m ih =>
  obtain ⟨k, v⟩ := q
  simp only [getM]
  by_cases hk : k = p.1
  ·exact ⟨v, by rw [if_pos hk]⟩
  ·rw [if_neg hk]
   rcases List.mem_cons.1 h with e | h
   ·subst e; exact absurd rfl hk
   ·exact ih h
theorem Sim.gotB (h : Sim c st tmps w S ρ) {σ τ τ1 : TMap} {m0 m1 : Mem} (hm : MatchMem st τ σ σ m0) (ht : mpOk st τ []) (hs1 : noTwice (σ.map (·.1)) = true) (hs2 : noTwice (σ.map (·.2)) = true) (hτ : noTwice (τ.map (·.1)) = true)
  (hn : m1.map (·.1) = m0.map (·.1)) (hkd : m1.map (fun p => isMp p.2) = m0.map (fun p => isMp p.2)) (hkp : ∀ p ∈ m1, p.2.all keep1 = true) (hfr : fresh1 st.tk τ1) (hτ1 : noTwice (τ1.map (·.1)) = true) (hτ2 : noTwice (τ1.map (·.2)) = true)
  {w' : World} {S' : Safe} {ρ1 : Rho} (h1 : Sim (ctxB c.P c.G w S (blocksOf ρ σ τ) (σ.filterMap fun p => (ρ.box p.2).map fun b => (p.1, b)) (σ.filterMap fun p => (ρ.mbox p.2).map fun b => (p.1, b)) (some (w, S))) ⟨[], m1, tkOf τ1⟩ #[] w' S' ρ1) :
  ∃ ρ2, ρ.le ρ2 ∧ Sim c { st with mem := renMem σ τ1 m1 ++ st.mem, tk := newAll τ1 ++ (killAll τ ++ st.tk) } tmps w' S' ρ2 := by
 obtain ⟨g1, g2, g3⟩ := hm.get
 obtain ⟨t1, t2⟩ := mpOk_get ht
 have hkeep : Keeps w S w' S' := h1.keeps (w, S) rfl
 have cellsOf : ∀ s' b, ρ.box s' = some b → ∃ cs vs e, getM st.mem s' = some cs ∧ isMp cs = false ∧ c.Own b ∧ w.heap[b]? = some (.cells vs e (0, 0)) ∧ (∀ o, ¬ S b o) := fun s' b hb => by
  cases hs : getM st.mem s' with
  | none => rw [h.boxNew s' hs] at hb; cases hb
  | some cs =>
   obtain ⟨b', vs, e, k1, k2, k3, _, k6⟩ := h.mem s' cs hs (h.noMp hb hs)
   rw [hb] at k1; cases k1
   exact ⟨cs, vs, e, rfl, h.noMp hb hs, k2, k3, k6⟩
 have mapOf : ∀ s' b, ρ.mbox s' = some b → c.Own b ∧ ∃ es clock, w.heap[b]? = some (.map es clock) := fun s' b hb => by
  cases hs : getM st.mem s' with
  | none => rw [h.mps.new s' hs] at hb; cases hb
  | some cs =>
   cases hmp : isMp cs with
   | false =>
    obtain ⟨b', vs, e, k1, _⟩ := h.mem s' cs hs hmp
    rw [h.mps.apart s' b' k1] at hb; cases hb
   | true =>
    obtain ⟨k, e, kvs, rfl⟩ := isMp_iff.1 hmp
    obtain ⟨b', k1, _, k3, k4⟩ := h.mps.at' s' k e kvs hs
    rw [hb] at k1; cases k1
    exact ⟨k3, k4.obj⟩
 have tokOf : ∀ u a n cap sz, getT st.tk u = some true → ρ.tok u = some (some a, n, cap, sz) → n ≠ cap → a = ⟨a.block, 0, none⟩ ∧ c.Own a.block ∧ (∃ cur e, w.heap[a.block]? = some (.cells cur e (0, 0))) ∧ (∀ s, ρ.box s ≠ some a.block) ∧
   ∀ t' b' y, t' ≠ u → getT st.tk t' = some true → ρ.tok t' = some (some ⟨b', 0, none⟩, y) → y.1 ≠ y.2.1 → b' ≠ a.block := fun u a n cap sz hu hx hne => by
  obtain ⟨x, k1, k2⟩ := h.tok u hu
  rw [hx] at k1; cases k1
  rcases k2 with k2 | ⟨b, q0, q1, ⟨cur, e, q2, _⟩, _, _, _, q6, q7⟩
  ·exact absurd k2 hne
  ·cases q0
   exact ⟨rfl, q1, ⟨cur, e, q2⟩, q6, q7⟩
 have hX : ∀ b ∈ blocksOf ρ σ τ, c.Own b ∧ b < w.heap.size := fun b hb => by
  rcases blocks_cases hτ hb with ⟨s, s', _, e⟩ | ⟨s, s', _, e⟩ | ⟨t, u, a, n, cap, sz, e1, e2, e3, rfl⟩
  ·obtain ⟨cs, vs, _, _, _, k2, k3, _⟩ := cellsOf s' b e
   exact ⟨k2, (Array.getElem?_eq_some_iff.1 k3).1⟩
  ·obtain ⟨k1, es, clock, k3⟩ := mapOf s' b e
   exact ⟨k1, (Array.getElem?_eq_some_iff.1 k3).1⟩
  ·obtain ⟨_, k1, ⟨cur, e, k3⟩, _⟩ := tokOf u a n cap sz (t1 t u e1).1 e2 e3
   exact ⟨k1, (Array.getElem?_eq_some_iff.1 k3).1⟩
 have own1 : ∀ b, (ctxB c.P c.G w S (blocksOf ρ σ τ) (σ.filterMap fun p => (ρ.box p.2).map fun b => (p.1, b)) (σ.filterMap fun p => (ρ.mbox p.2).map fun b => (p.1, b)) (some (w, S))).Own b → c.Own b ∧ (w.heap.size ≤ b ∨ b ∈ blocksOf ρ σ τ) := fun b hb => by
  rcases hb with hb | ⟨hb, _⟩
  ·exact ⟨.inl (Nat.le_trans h.below.size hb), .inl hb⟩
  ·exact ⟨(hX b hb).1, .inr hb⟩
 have nbox : ∀ s' b, ρ.box s' = some b → (∀ s, (s, s') ∉ σ) → b ∉ blocksOf ρ σ τ := fun s' b hb hno hm => by
  obtain ⟨cs, vs, e, _, _, _, k3, _⟩ := cellsOf s' b hb
  rcases blocks_cases hτ hm with ⟨s, s2, hs, e2⟩ | ⟨s, s2, hs, e2⟩ | ⟨t, u, a, n, cap, sz, e1, e2, e3, rfl⟩
  ·obtain rfl := h.inj s' s2 b hb e2
   exact hno s hs
  ·obtain ⟨_, es, clock, k4⟩ := mapOf s2 b e2
   rw [k3] at k4; cases k4
  ·obtain ⟨_, _, _, k4, _⟩ := tokOf u a n cap sz (t1 t u e1).1 e2 e3
   exact k4 s' hb
 have nmap : ∀ s' b, ρ.mbox s' = some b → (∀ s, (s, s') ∉ σ) → b ∉ blocksOf ρ σ τ := fun s' b hb hno hm => by
  obtain ⟨_, es, clock, k3⟩ := mapOf s' b hb
  rcases blocks_cases hτ hm with ⟨s, s2, hs, e2⟩ | ⟨s, s2, hs, e2⟩ | ⟨t, u, a, n, cap, sz, e1, e2, e3, rfl⟩
  ·obtain ⟨cs, vs, e, _, _, _, k4, _⟩ := cellsOf s2 b e2
   rw [k3] at k4; cases k4
  ·obtain rfl := h.mps.inj s' s2 b hb e2
   exact hno s hs
  ·obtain ⟨_, _, ⟨cur, e, k4⟩, _⟩ := tokOf u a n cap sz (t1 t u e1).1 e2 e3
   rw [k3] at k4; cases k4
 have ntok : ∀ u a n cap sz, getT st.tk u = some true → ρ.tok u = some (some a, n, cap, sz) → n ≠ cap → (∀ t, (t, u) ∉ τ) → a.block ∉ blocksOf ρ σ τ := fun u a n cap sz hu hx hne hno hm => by
  obtain ⟨ea, _, ⟨cur, e, k3⟩, k4, k5⟩ := tokOf u a n cap sz hu hx hne
  rcases blocks_cases hτ hm with ⟨s, s2, hs, e2⟩ | ⟨s, s2, hs, e2⟩ | ⟨t, u2, a2, n2, cap2, sz2, e1, e2, e3, e4⟩
  ·exact k4 s2 e2
  ·obtain ⟨_, es, clock, k6⟩ := mapOf s2 _ e2
   rw [k3] at k6; cases k6
  ·obtain ⟨ea2, _⟩ := tokOf u2 a2 n2 cap2 sz2 (t1 t u2 e1).1 e2 e3
   refine k5 u2 a2.block (n2, cap2, sz2) (fun e => hno t ?_) (t1 t u2 e1).1 (by rw [e2, ← ea2]) e3 e4
   rw [← e]; exact getTM_in e1
 have hblk : ∀ b x, w.heap[b]? = some x → b ∉ blocksOf ρ σ τ → w'.heap[b]? = some x := fun b x hx hno => by
  rw [h1.below.block b (fun ho => ?_)]
  ·exact hx
  ·rcases (own1 b ho).2 with h2 | h2
   ·have := (Array.getElem?_eq_some_iff.1 hx).1; omega
   ·exact hno h2
 have hnotS : ∀ b x o, w.heap[b]? = some x → b ∉ blocksOf ρ σ τ → ¬ S b o → ¬ S' b o := fun b x o hx hno hns hs => by
  rcases h1.new b o hs with h2 | h2
  ·exact hns h2
  ·rcases (own1 b h2).2 with h3 | h3
   ·have := (Array.getElem?_eq_some_iff.1 hx).1; omega
   ·exact hno h3
 have hkinds := fun s => kinds_eq (m1 := m1) (m0 := m0) s hn hkd
 have hdom : ∀ s cs1, getM m1 s = some cs1 → ∃ s' cs, getTM σ s = some s' ∧ getM st.mem s' = some cs ∧ isMp cs = isMp cs1 ∧ (isMp cs1 = true → ∃ k e kvs, getM st.mem s' = some [.mp k e kvs]) := fun s cs1 hs => by
  have hk := hkinds s
  rw [hs] at hk
  cases h0 : getM m0 s with
  | none => rw [h0] at hk; simp at hk
  | some cs0 =>
   rw [h0] at hk
   simp only [Option.map_some, Option.some.injEq] at hk
   obtain ⟨s', cs, e1, e2, ⟨e3, rfl⟩ | ⟨e3, e4, _⟩⟩ := g1 s cs0 h0
   ·refine ⟨s', cs, e1, e2, hk.symm, fun _ => ?_⟩
    obtain ⟨k, e, kvs, rfl⟩ := isMp_iff.1 e3
    exact ⟨k, e, kvs, e2⟩
   ·refine ⟨s', cs, e1, e2, by rw [e4, hk, e3], fun hh => ?_⟩
    rw [hk, e3] at hh; cases hh
 have hpinB : ∀ s b, ρ1.box s = some b → ∃ s', getTM σ s = some s' ∧ ρ.box s' = some b := fun s b hb => by
  cases hs : getM m1 s with
  | none => rw [h1.boxNew s hs] at hb; cases hb
  | some cs1 =>
   have hnm : isMp cs1 = false := h1.noMp hb hs
   obtain ⟨s', cs, e1, e2, e3, _⟩ := hdom s cs1 hs
   rw [hnm] at e3
   obtain ⟨b0, vs, e, k1, _⟩ := h.mem s' cs e2 e3
   have hp : (s, b0) ∈ σ.filterMap fun p => (ρ.box p.2).map fun b => (p.1, b) := List.mem_filterMap.2 ⟨(s, s'), getTM_in e1, by simp only [k1, Option.map_some]⟩
   have := (h1.pins.1 (s, b0) hp).2 b hb
   exact ⟨s', e1, by rw [k1, this]⟩
 have hpinM : ∀ s b, ρ1.mbox s = some b → ∃ s', getTM σ s = some s' ∧ ρ.mbox s' = some b := fun s b hb => by
  cases hs : getM m1 s with
  | none => rw [h1.mps.new s hs] at hb; cases hb
  | some cs1 =>
   have hnm : isMp cs1 = true := by
    cases hmp : isMp cs1 with
    | true => rfl
    | false =>
     obtain ⟨b', vs, e, k1, _⟩ := h1.mem s cs1 hs hmp
     rw [h1.mps.apart s b' k1] at hb; cases hb
   obtain ⟨s', cs, e1, e2, e3, e4⟩ := hdom s cs1 hs
   obtain ⟨k, e, kvs, e5⟩ := e4 hnm
   obtain ⟨b0, k1, _⟩ := h.mps.at' s' k e kvs e5
   have hp : (s, b0) ∈ σ.filterMap fun p => (ρ.mbox p.2).map fun b => (p.1, b) := List.mem_filterMap.2 ⟨(s, s'), getTM_in e1, by simp only [k1, Option.map_some]⟩
   have := (h1.pins.2 (s, b0) hp).2 b hb
   exact ⟨s', e1, by rw [k1, this]⟩
 have hfresh : ∀ t u, (t, u) ∈ τ1 → ρ.tok u = none := fun t u hu => h.tokNew u (fresh_in hfr hu)
 let ρ2 : Rho := { ρ with tok := fun u => match invTM τ1 u with | some t => ρ1.tok t | none => ρ.tok u }
 have hle : ρ.le ρ2 := by
  refine ⟨fun _ _ h => h, fun u x hx => ?_, fun _ _ h => h⟩
  show (match invTM τ1 u with | some t => ρ1.tok t | none => ρ.tok u) = some x
  cases hi : invTM τ1 u with
  | none => exact hx
  | some t => rw [hfresh t u (invTM_in hi)] at hx; cases hx
 have hnewTok : ∀ t x, ρ1.tok t = some x → ∃ u, getTM τ1 t = some u ∧ ρ2.tok u = some x := fun t x hx => by
  cases hg : getTM τ1 t with
  | none =>
   have := h1.tokNew t (by simp only; rw [getT_tkOf, hg]; rfl)
   rw [this] at hx; cases hx
  | some u =>
   refine ⟨u, rfl, ?_⟩
   show (match invTM τ1 u with | some t => ρ1.tok t | none => ρ.tok u) = some x
   rw [invTM_mem hτ2 (getTM_in hg)]
   exact hx
 have oldTok : ∀ u, invTM τ1 u = none → ρ2.tok u = ρ.tok u := fun u hu => by
  show (match invTM τ1 u with | some t => ρ1.tok t | none => ρ.tok u) = ρ.tok u
  rw [hu]
 have newTok' : ∀ u t, invTM τ1 u = some t → ρ2.tok u = ρ1.tok t := fun u t hu => by
  show (match invTM τ1 u with | some t => ρ1.tok t | none => ρ.tok u) = ρ1.tok t
  rw [hu]
 have hnames : ∀ p ∈ m1, ∃ u, getTM σ p.1 = some u := fun p hp => by
  obtain ⟨cs, hcs⟩ := getM_some hp
  obtain ⟨s', _, e1, _⟩ := hdom p.1 cs hcs
  exact ⟨s', e1⟩
 have hpassed : ∀ s', (∀ s0, getTM σ s0 = some s' → getM m1 s0 = none) → ∀ s, (s, s') ∉ σ := fun s' hs s hmem => by
  have e1 := getTM_mem hs1 hmem
  have e2 := hs s e1
  have hk := hkinds s
  rw [e2] at hk
  cases h0 : getM m0 s with
  | none => rw [g2 s h0] at e1; cases e1
  | some cs0 => rw [h0] at hk; simp at hk
 refine ⟨ρ2, hle, ?_⟩
 refine { size := h.size, slots := fun k => (h.slots k).keep hkeep hle, mem := ?_, inj := h.inj, boxNew := fun s hs => h.boxNew s (ren_none hs), mps := ?_, tok := ?_, tokNew := ?_, below := ?_, old := fun b o hs => (hkeep b o (h.old b o hs)).1, new := ?_, live := h1.live, glob := fun g cs hg => RepCs.keep hkeep g 0 cs (h.glob g cs hg),
          fx := h.fx, ex := h.ex, obs := fun p hp => ⟨?_, (h.obs p hp).2⟩, keeps := fun p hp => (h.keeps p hp).trans hkeep, pins := h.pins }
 ·intro s' cs hs hnm
  rcases ren_get hnames hs with ⟨s0, cs1, e1, e2, rfl⟩ | ⟨e1, e2⟩
  ·have hnm1 : isMp cs1 = false := by
     cases hmp : isMp cs1 with
     | false => rfl
     | true => obtain ⟨k, e, kvs, rfl⟩ := isMp_iff.1 hmp; cases hnm
   obtain ⟨b, vs, e, k1, k2, k3, k4, k6⟩ := h1.mem s0 cs1 e2 hnm1
   obtain ⟨s2, q1, q2⟩ := hpinB s0 b k1
   rw [e1] at q1; cases q1
   exact ⟨b, vs, e, q2, (own1 b k2).1, k3, RepAs.ren (ρ2 := ρ2) hpinB hpinM hnewTok (hkp _ (getM_in e2)) k4, k6⟩
  ·obtain ⟨b, vs, e, k1, k2, k3, k4, k6⟩ := h.mem s' cs e2 hnm
   have hno := nbox s' b k1 (hpassed s' e1)
   exact ⟨b, vs, e, k1, k2, hblk _ _ k3 hno, RepAs.keep hkeep hle cs _ k4, fun o => hnotS b _ o k3 hno (k6 o)⟩
 ·refine { at' := ?_, inj := h.mps.inj, new := fun s hs => h.mps.new s (ren_none hs), lt := fun s b hb => Nat.lt_of_lt_of_le (h.mps.lt s b hb) h1.below.size, apart := h.mps.apart }
  intro s' k e kvs hs
  rcases ren_get hnames hs with ⟨s0, cs1, e1, e2, e3⟩ | ⟨e1, e2⟩
  ·have hc1 : cs1 = [.mp k e kvs] := by
     cases cs1 with
     | nil => cases e3
     | cons a r =>
      cases r with
      | cons b r => simp at e3
      | nil =>
       simp only [List.map_cons, List.map_nil, List.cons.injEq, and_true] at e3
       cases a <;> simp only [AV.ren1, reduceCtorEq] at e3
       rw [e3]
   subst hc1
   obtain ⟨b, k1, k2, k3, k4⟩ := h1.mps.at' s0 k e kvs e2
   obtain ⟨s2, q1, q2⟩ := hpinM s0 b k1
   rw [e1] at q1; cases q1
   refine ⟨b, q2, ?_, (own1 b k3).1, k4⟩
   show ρ.box s' = none
   cases hbx : ρ.box s' with
   | none => rfl
   | some b' => rw [h.mps.apart s' b' hbx] at q2; cases q2
  ·obtain ⟨b, k1, k2, k3, k4⟩ := h.mps.at' s' k e kvs e2
   have hno := nmap s' b k1 (hpassed s' e1)
   obtain ⟨es, clock, k5⟩ := k4.obj
   exact ⟨b, k1, k2, k3, k4.to hkeep ((hblk b _ k5 hno).trans k5.symm)⟩
 ·intro u hu
  simp only at hu
  rw [getT_newAll] at hu
  cases hi : invTM τ1 u with
  | some t =>
   have htm := getTM_mem hτ1 (invTM_in hi)
   obtain ⟨x, k1, k2⟩ := h1.tok t (by simp only; rw [getT_tkOf, htm]; rfl)
   refine ⟨x, by rw [newTok' u t hi]; exact k1, ?_⟩
   by_cases hfull : x.2.1 = x.2.2.1
   ·exact .inl hfull
   rcases k2 with k2 | ⟨b, q0, q1, q2, q3, q4, q5, q6, q7⟩
   ·exact .inl k2
   ·refine .inr ⟨b, q0, (own1 b q1).1, q2, q3, q4, q5, fun s hsb => ?_, fun u' b' y hne hu' htok hy => ?_⟩
    ·by_cases hp : ∃ s0, (s0, s) ∈ σ
     ·obtain ⟨s0, hs0⟩ := hp
      obtain ⟨cs, vs, e, w1, w2, w3, w4, w5⟩ := cellsOf s b hsb
      have e1 := getTM_mem hs1 hs0
      cases hm1 : getM m1 s0 with
      | none => exact hpassed s (fun s2 hs2' => by
        have : s2 = s0 := pair_inj hs2 (getTM_in hs2') hs0
        rw [this]; exact hm1) s0 hs0
      | some cs1 =>
       obtain ⟨s2, cs2, f1, f2, f3, _⟩ := hdom s0 cs1 hm1
       rw [e1] at f1; cases f1
       rw [w1] at f2; cases f2
       rw [w2] at f3
       obtain ⟨b2, vs2, e2', z1, _⟩ := h1.mem s0 cs1 hm1 f3.symm
       obtain ⟨s3, z2, z3⟩ := hpinB s0 b2 z1
       rw [e1] at z2; cases z2
       rw [hsb] at z3; cases z3
       exact q6 s0 z1
     ·have hno := nbox s b hsb (fun s0 hs0 => hp ⟨s0, hs0⟩)
      have hlt := h.box_lt hsb
      rcases (own1 b q1).2 with h2 | h2
      ·omega
      ·exact hno h2
    ·simp only at hu'
     rw [getT_newAll] at hu'
     cases hi' : invTM τ1 u' with
     | some t' =>
      rw [newTok' u' t' hi'] at htok
      have htm' := getTM_mem hτ1 (invTM_in hi')
      refine q7 t' b' y (fun e => hne ?_) (by simp only; rw [getT_tkOf, htm']; rfl) htok hy
      rw [e, htm] at htm'
      exact (Option.some.inj htm').symm
     | none =>
      rw [hi'] at hu'
      simp only [Option.isSome_none, Bool.false_eq_true, if_false] at hu'
      rw [getT_killAll] at hu'
      cases hk : invTM τ u' with
      | some t' => rw [hk] at hu'; simp at hu'
      | none =>
       rw [hk] at hu'
       simp only [Option.isSome_none, Bool.false_eq_true, if_false] at hu'
       rw [oldTok u' hi'] at htok
       obtain ⟨n, cap, sz⟩ := y
       have hno := ntok u' ⟨b', 0, none⟩ n cap sz hu' htok hy (invTM_none hk)
       have hlt := h.tok_lt hu' htok hy
       intro e
       subst e
       rcases (own1 _ q1).2 with h2 | h2
       ·omega
       ·exact hno h2
  | none =>
   rw [hi] at hu
   simp only [Option.isSome_none, Bool.false_eq_true, if_false] at hu
   rw [getT_killAll] at hu
   cases hk : invTM τ u with
   | some t => rw [hk] at hu; simp at hu
   | none =>
    rw [hk] at hu
    simp only [Option.isSome_none, Bool.false_eq_true, if_false] at hu
    obtain ⟨x, k1, k2⟩ := h.tok u hu
    refine ⟨x, by rw [oldTok u hi]; exact k1, ?_⟩
    by_cases hfull : x.2.1 = x.2.2.1
    ·exact .inl hfull
    rcases k2 with k2 | ⟨b, q0, q1, ⟨cur, e, q2, q2'⟩, q3, q4, q5, q6, q7⟩
    ·exact .inl k2
    ·obtain ⟨base, n, cap, sz⟩ := x
     simp only at q0
     subst q0
     have hno := ntok u ⟨b, 0, none⟩ n cap sz hu k1 hfull (invTM_none hk)
     have hlt := (Array.getElem?_eq_some_iff.1 q2).1
     refine .inr ⟨b, rfl, q1, ⟨cur, e, hblk _ _ q2 hno, q2'⟩, q3, q4, fun o ho => hnotS b _ o q2 hno (q5 o ho), q6, fun u' b' y hne hu' htok hy => ?_⟩
     simp only at hu'
     rw [getT_newAll] at hu'
     cases hi' : invTM τ1 u' with
     | some t' =>
      rw [newTok' u' t' hi'] at htok
      have htm' := getTM_mem hτ1 (invTM_in hi')
      obtain ⟨x', j1, j2⟩ := h1.tok t' (by simp only; rw [getT_tkOf, htm']; rfl)
      rw [htok] at j1
      cases j1
      rcases j2 with j2 | ⟨b2, p0, p1, _⟩
      ·exact absurd j2 hy
      ·cases p0
       intro e
       subst e
       rcases (own1 _ p1).2 with h2 | h2
       ·omega
       ·exact hno h2
     | none =>
      rw [hi'] at hu'
      simp only [Option.isSome_none, Bool.false_eq_true, if_false] at hu'
      rw [getT_killAll] at hu'
      cases hk' : invTM τ u' with
      | some t' => rw [hk'] at hu'; simp at hu'
      | none =>
       rw [hk'] at hu'
       simp only [Option.isSome_none, Bool.false_eq_true, if_false] at hu'
       rw [oldTok u' hi'] at htok
       exact q7 u' b' y hne hu' htok hy
 ·intro u hu
  simp only at hu
  rw [getT_newAll] at hu
  cases hi : invTM τ1 u with
  | some t => rw [hi] at hu; simp at hu
  | none =>
   rw [hi] at hu
   simp only [Option.isSome_none, Bool.false_eq_true, if_false] at hu
   rw [getT_killAll] at hu
   rw [oldTok u hi]
   cases hk : invTM τ u with
   | some t => rw [hk] at hu; simp at hu
   | none =>
    rw [hk] at hu
    simp only [Option.isSome_none, Bool.false_eq_true, if_false] at hu
    exact h.tokNew u hu
 ·refine ⟨h1.below.os.trans h.below.os, h1.below.tape.trans h.below.tape, h1.below.output.trans h.below.output, Nat.le_trans h.below.size h1.below.size, fun k hno => ?_⟩
  exact (h1.below.block k fun ho => hno (own1 k ho).1).trans (h.below.block k hno)
 ·intro b o hs
  rcases h1.new b o hs with h2 | h2
  ·exact h.new b o h2
  ·exact .inr (own1 b h2).1
 ·refine hblk _ _ (h.obs p hp).1 fun hm => ?_
  have h3 := h.obs p hp
  rcases blocks_cases hτ hm with ⟨s, s', _, e⟩ | ⟨s, s', _, e⟩ | ⟨t, u, a, n, cap, sz, e1, e2, e3, e4⟩
  ·obtain ⟨cs, vs, _, _, _, _, k3, _⟩ := cellsOf s' _ e
   rw [k3] at h3
   have h5 := h3.2
   rw [← Option.some.inj h3.1] at h5; cases h5
  ·obtain ⟨_, es, clock, k3⟩ := mapOf s' _ e
   rw [k3] at h3
   have h5 := h3.2
   rw [← Option.some.inj h3.1] at h5; cases h5
  ·obtain ⟨_, _, ⟨cur, e, k3⟩, _⟩ := tokOf u a n cap sz (t1 t u e1).1 e2 e3
   rw [e4] at k3
   rw [k3] at h3
   have h5 := h3.2
   rw [← Option.some.inj h3.1] at h5; cases h5
end Go.Abs
end
section
namespace Go.Abs
open Go.RowKit
variable {c : Ctx} {st : St} {tmps : Array Value} {w : World} {S : Safe} {ρ : Rho}
theorem repA_headD {as : List AV} {l : List Value} (h : RepAs w S ρ as l) (hne : as ≠ []) : ∃ v, l[0]? = some v ∧ RepA w S ρ (as.headD .undef) v := by
 cases as with
 | nil => exact absurd rfl hne
 | cons a as =>
  obtain ⟨v, r, rfl, h1, _⟩ := h
  exact ⟨v, rfl, h1⟩
theorem ok_fld (h : Sim c st tmps w S ρ) {o : Oper} {t : TypeId} {zs : List AV} {fs : List (Nat × Nat × Bool)} (ht : chkTy c.P t (.agg zs fs) = true) {x : Operand} {x' : X} {i : Nat} {fd : Nat × Nat × Bool} {ds : List Deferred}
  (ho : o.op = .field t x i) (hx : trX x = some x') (hfd : fs[i]? = some fd) (hg : gd st x' = true) {cs : List AV} (hs : ev st x' = .agg cs) (hob : fd.1 + fd.2.1 ≤ cs.length) :
  ∃ cv, (execOp (Act.eval ⟨tmps, ds⟩) o).run c.P w = .ok (.value cv) w ∧ RepA w S ρ (asOne fd.2.2 ((cs.drop fd.1).take fd.2.1)) cv := by
 have e1 := h.ev hx hg (ds := ds)
 rw [hs] at e1
 obtain ⟨vs, hv, hr⟩ := e1
 obtain ⟨fields, hu, hfo⟩ := agg_facts ht
 obtain ⟨f, ti, hf, hoff, hti, hsz, hnz, hna, hund⟩ := fieldsOk_get hfo hfd
 have hf' : fields[i]? = some f := by simpa using hf
 have hag := run_isAgg (P := c.P) w hna hund
 have hr2 := (hr.drop fd.1).take fd.2.1
 have hlen := RepAs.length hr
 have hlv : vs.size = cs.length := by simpa using hlen
 cases hb : fd.2.2 with
 | true =>
  rw [hb] at hag
  refine ⟨.agg (vs.extract fd.1 (fd.1 + fd.2.1)), ?_, ⟨_, rfl, ?_⟩⟩
  ·unfold execOp
   simp only [ho, hv]
   simp [Instr.field, run_underlying hu, hf', part, asAgg, hag, run_sizeOf hti, hsz, hoff]
  ·have : (vs.extract fd.1 (fd.1 + fd.2.1)).toList = (vs.toList.drop fd.1).take fd.2.1 := by
     rw [Array.toList_extract]; simp [List.extract]
   rw [this]; exact hr2
 | false =>
  rw [hb] at hag
  have hne : (cs.drop fd.1).take fd.2.1 ≠ [] := by
   intro e
   have := congrArg List.length e
   rw [List.length_take, List.length_drop, List.length_nil] at this
   rw [hsz] at hnz
   omega
  obtain ⟨v, h1, h2⟩ := repA_headD hr2 hne
  have hget : vs[fd.1]? = some v := by
   have : ((vs.toList.drop fd.1).take fd.2.1)[0]? = vs.toList[fd.1]? := by
    rw [List.getElem?_take, if_pos (by rw [hsz] at hnz; omega), List.getElem?_drop]; simp
   rw [this] at h1
   simpa using h1
  refine ⟨v, ?_, h2⟩
  unfold execOp
  simp only [ho, hv]
  simp [Instr.field, run_underlying hu, hf', part, asAgg, hag, hoff, hget]
theorem arr_facts {P : Program} {t : TypeId} {n esz : Nat} {eagg : Bool} {zs : List AV} (ht : chkTy P t (.arr n esz eagg zs) = true) : ∃ e ie, P.underlying t = some (.array n e) ∧ P.info? e = some ie ∧ ie.size = esz := by
 simp only [chkTy, Bool.and_eq_true] at ht
 obtain ⟨_, ht⟩ := ht
 split at ht
 ·rename_i m e i hu hi
  simp only [Bool.and_eq_true, beq_iff_eq] at ht
  obtain ⟨⟨⟨⟨⟨h0, h1⟩, h2⟩, h3⟩, h4⟩, h5⟩ := ht
  cases hie : P.info? e with
  | none => simp [hie] at h3
  | some ie =>
   simp only [hie, beq_iff_eq] at h3
   exact ⟨e, ie, by rw [hu, h0], hie, h3⟩
 ·cases ht
theorem trPartsA {esz : Nat} (h : Sim c st tmps w S ρ) {ds : List Deferred} : ∀ {ps : List (Nat × Operand)} {xs : List (Nat × Nat × X)},
  (ps.mapM fun p => do pure (p.1 * esz, esz, ← trX p.2)) = some xs → gdParts st xs = true →
  PartsOk w S ρ (fun i => some (i * esz, esz)) (evParts st xs) (ps.map fun p => (p.1, Act.eval ⟨tmps, ds⟩ p.2))
 | [], xs, hx, _ => by simp at hx; subst hx; rfl
 | (i, x) :: ps, xs, hx, hg => by
  simp only [List.mapM_cons, Option.bind_eq_bind, Option.bind_eq_some_iff, Option.pure_def, Option.some.injEq] at hx
  obtain ⟨a, ⟨x', hx', rfl⟩, as, has, rfl⟩ := hx
  simp only [gdParts, Bool.and_eq_true] at hg
  exact ⟨i, _, _, rfl, rfl, h.ev hx' hg.1, trPartsA h has hg.2⟩
theorem ok_buildA (h : Sim c st tmps w S ρ) {o : Oper} {t : TypeId} {n esz : Nat} {eagg : Bool} {zs : List AV} (ht : chkTy c.P t (.arr n esz eagg zs) = true) {parts : Array (Nat × Operand)} {xs : List (Nat × Nat × X)} {ds : List Deferred}
  (ho : o.op = .build t parts) (hx : (parts.toList.mapM fun p => do pure (p.1 * esz, esz, ← trX p.2)) = some xs) (hg : gdParts st xs = true) {cs : List AV} (hr : fillA zs (evParts st xs) = some cs) :
  ∃ cv, (execOp (Act.eval ⟨tmps, ds⟩) o).run c.P w = .ok (.value cv) w ∧ RepA w S ρ (.agg cs) cv := by
 obtain ⟨e, ie, hu, hie, hes⟩ := arr_facts ht
 obtain ⟨i, z, hi, hz, hsz, _, _, hzs⟩ := ty_facts ht
 obtain ⟨cells', h1, h2⟩ := fill_rep (trPartsA h (ds := ds) hx hg) (zOks_rep w S ρ hzs) hr
 refine ⟨.agg cells', ?_, ⟨_, rfl, h2⟩⟩
 unfold execOp
 simp only [ho]
 simp only [Instr.build, Sem.run_bind, run_zero hi hz, run_underlying hu, Result.andThen_ok, run_sizeOf hie, hes]
 have hfill : Instr.fill (fun i => some (i * esz, esz)) z.cells (parts.map fun x => (x.1, Act.eval ⟨tmps, ds⟩ x.2)).toList = some cells' := by
  rw [← h1]
  congr 1
  exact Array.toList_map
 simp only [hfill]
 simp
theorem trArr_some {n esz d : Nat} {x : X} {y : Operand} {i : I} (h : trArr n esz d x y = some i) : ∃ kk k, y = .const (.int kk k) ∧ (0 ≤ k ∧ k < (n : Int)) ∧ i = .fa d (k.toNat * esz) x := by
 unfold trArr at h
 split at h
 ·split at h
  ·rename_i hk; cases h; exact ⟨_, _, rfl, hk, rfl⟩
  ·cases h
 ·cases h
theorem ok_ia (h : Sim c st tmps w S ρ) {o : Oper} {t : TypeId} {n esz : Nat} {eagg : Bool} {zs : List AV} (ht : chkTy c.P t (.arr n esz eagg zs) = true) {x : Operand} {x' : X} {kk : IntKind} {k : Int} {ds : List Deferred}
  (ho : o.op = .indexAddr t x (.const (.int kk k))) (hx : trX x = some x') (hk : 0 ≤ k ∧ k < n) (hg : gd st x' = true) {r : AV × Prop × Bool} (hr : opv c.G st (.fa 0 (k.toNat * esz) x') = some r) (hob : r.2.1) :
  ∃ cv, (execOp (Act.eval ⟨tmps, ds⟩) o).run c.P w = .ok (.value cv) w ∧ RepA w S ρ r.1 cv := by
 have e1 := h.ev hx hg (ds := ds)
 obtain ⟨e, ie, hu, hie, hes⟩ := arr_facts ht
 have run : ∀ b off, (Act.eval ⟨tmps, ds⟩ x) = .pointer (some ⟨b, off, none⟩) → (execOp (Act.eval ⟨tmps, ds⟩) o).run c.P w = .ok (.value (.pointer (some ⟨b, off + k.toNat * esz, none⟩))) w := by
  intro b off hv
  unfold execOp
  simp only [ho, hv]
  simp [Instr.indexAt, Act.eval, asIntOf, run_underlying hu, Instr.sureAddr, run_sizeOf hie, hes, addr_add, hk.1, hk.2]
 simp only [opv] at hr
 split at hr
 ·rename_i s off hev
  cases hr
  rw [hev] at e1
  obtain ⟨b, hb, hv⟩ := e1
  exact ⟨_, run b off hv, b, hb, rfl⟩
 ·rename_i cs hev
  cases hr
  rw [hev] at e1
  obtain ⟨b, off, hv, hcs⟩ := e1
  exact ⟨_, run b off hv, b, _, rfl, RepCs.drop _ hcs⟩
 ·rename_i g off hev
  cases hr
  rw [hev] at e1
  exact ⟨_, run g off e1, rfl⟩
 ·cases hr
theorem flat_eq {P : Program} {t : TypeId} {z x y : D} {a b : Value} (d : Nat) (hf : flatU P t z = true) (hx : likeD z x = true) (hy : likeD z y = true) (ha : Rep w S x a) (hb : Rep w S y b) : (Op.equalIn (d + 1) t a b).run P w = .ok (keyEq x y) w := by
 cases z <;> cases x <;> simp only [likeD, Bool.false_eq_true] at hx <;> cases y <;> simp only [likeD, Bool.false_eq_true] at hy
 ·
  simp only [flatU] at hf
  split at hf
  ·rename_i hu
   simp only [Rep] at ha hb
   subst ha hb
   exact run_equalIn_bool w d t _ _ hu
  ·cases hf
 ·simp only [flatU] at hf
  split at hf
  ·rename_i k' hu
   simp only [Rep] at ha hb
   subst ha hb
   have hx := eq_of_beq hx
   have hy := eq_of_beq hy
   subst hx hy
   rw [run_equalIn_int w d t _ k' _ _ hu]
   simp [keyEq]
  ·cases hf
 ·simp only [flatU] at hf
  split at hf
  ·rename_i hu
   obtain ⟨p, rfl, rfl, _⟩ := ha
   obtain ⟨q, rfl, rfl, _⟩ := hb
   rw [run_equalIn_string w d t p q hu, ByteArray.toList_eq, ByteArray.toList_eq]
   rfl
  ·cases hf
theorem flat_notAgg {P : Program} {t : TypeId} {z : D} (hf : flatU P t z = true) : notAgg P t = true ∧ (P.underlying t).isSome = true := by
 cases z <;> simp only [flatU, Bool.false_eq_true] at hf <;> (split at hf <;> simp_all [notAgg])
theorem part_flat {P : Program} {t : TypeId} {z : D} (hf : flatU P t z = true) {vs : Array Value} {k : Nat} {v : Value} (hv : vs[k]? = some v) : (part t vs k).run P w = .ok v w := by
 obtain ⟨h1, h2⟩ := flat_notAgg hf
 have := run_isAgg (P := P) w (ag := false) (by simpa using h1) h2
 simp [part, this, hv]
theorem likeDs_drop : ∀ {zs : List AV} {xs : List D}, likeDs zs xs = true → xs.length = zs.length
 | [], [], _ => rfl
 | [], _ :: _, h => by cases h
 | .d z :: zs, [], h => by cases h
 | .d z :: zs, x :: xs, h => by
  simp only [likeDs, Bool.and_eq_true] at h
  rw [List.length_cons, List.length_cons, likeDs_drop h.2]
theorem fields_eq {P : Program} (d : Nat) (va vb : Array Value) : ∀ (fs : List Field) (zs : List AV) (xs ys : List D) (k : Nat), eqFs P k fs zs = true → likeDs zs xs = true → likeDs zs ys = true → RepL w S xs (va.toList.drop k) → RepL w S ys (vb.toList.drop k) →
  (Op.eqFields (d + 1) va vb fs).run P w = .ok (eqDs xs ys) w
 | [], [], [], [], k, _, _, _, _, _ => by simp [Op.eqFields, eqDs]
 | f :: fs, .d z :: zs, x :: xs, y :: ys, k, hf, hx, hy, ha, hb => by
  simp only [eqFs, Bool.and_eq_true, bne_iff_ne, ne_eq, beq_iff_eq] at hf
  obtain ⟨⟨⟨f1, f2⟩, f3⟩, f4⟩ := hf
  simp only [likeDs, Bool.and_eq_true] at hx hy
  obtain ⟨v, r, e1, a1, a2⟩ := ha
  obtain ⟨u, q, e2, b1, b2⟩ := hb
  have g1 : va[k]? = some v := by
   have := congrArg (fun l : List Value => l[0]?) e1
   simpa [List.getElem?_drop] using this
  have g2 : vb[k]? = some u := by
   have := congrArg (fun l : List Value => l[0]?) e2
   simpa [List.getElem?_drop] using this
  have t1 : va.toList.drop (k + 1) = r := by
   rw [← List.drop_drop, e1]; rfl
  have t2 : vb.toList.drop (k + 1) = q := by
   rw [← List.drop_drop, e2]; rfl
  have ih := fields_eq d va vb fs zs xs ys (k + 1) f4 hx.2 hy.2 (by rw [t1]; exact a2) (by rw [t2]; exact b2)
  simp only [Op.eqFields, f1, ne_eq, not_false_eq_true, if_true, Sem.run_bind, f2, part_flat f3 g1, part_flat f3 g2, Result.andThen_ok, flat_eq d f3 hx.1 hy.1 a1 b1, eqDs]
  cases keyEq x y
  ·simp
  ·simpa using ih
 | [], [], _ :: _, _, _, _, h, _, _, _ => by cases h
 | [], [], [], _ :: _, _, _, _, h, _, _ => by cases h
 | [], _ :: _, _, _, _, h, _, _, _, _ => by cases h
 | _ :: _, [], _, _, _, h, _, _, _, _ => by cases h
 | f :: fs, z :: zs, [], ys, k, hf, hx, _, _, _ => by cases z <;> cases hx
 | f :: fs, z :: zs, x :: xs, [], k, hf, hx, hy, _, _ => by cases z <;> cases hy
theorem items_eq {P : Program} (d : Nat) {e : TypeId} (he : P.cellsOf e = 1) (va vb : Array Value) : ∀ (zs : List AV) (xs ys : List D) (k : Nat), zs.all (flatUA P e) = true → likeDs zs xs = true → likeDs zs ys = true → RepL w S xs (va.toList.drop k) → RepL w S ys (vb.toList.drop k) →
  (Op.eqItems (d + 1) e (P.cellsOf e) va vb (List.range' k zs.length)).run P w = .ok (eqDs xs ys) w
 | [], [], [], k, _, _, _, _, _ => by simp [Op.eqItems, eqDs]
 | .d z :: zs, x :: xs, y :: ys, k, hf, hx, hy, ha, hb => by
  simp only [List.all_cons, Bool.and_eq_true, flatUA] at hf
  obtain ⟨f3, f4⟩ := hf
  simp only [likeDs, Bool.and_eq_true] at hx hy
  obtain ⟨v, r, e1, a1, a2⟩ := ha
  obtain ⟨u, q, e2, b1, b2⟩ := hb
  have g1 : va[k]? = some v := by
   have := congrArg (fun l : List Value => l[0]?) e1
   simpa [List.getElem?_drop] using this
  have g2 : vb[k]? = some u := by
   have := congrArg (fun l : List Value => l[0]?) e2
   simpa [List.getElem?_drop] using this
  have t1 : va.toList.drop (k + 1) = r := by
   rw [← List.drop_drop, e1]; rfl
  have t2 : vb.toList.drop (k + 1) = q := by
   rw [← List.drop_drop, e2]; rfl
  have ih := items_eq d he va vb zs xs ys (k + 1) (by simpa [flatUA] using f4) hx.2 hy.2 (by rw [t1]; exact a2) (by rw [t2]; exact b2)
  rw [he] at ih ⊢
  simp only [List.length_cons, List.range'_succ, Op.eqItems, Sem.run_bind, Nat.mul_one, part_flat f3 g1, part_flat f3 g2, Result.andThen_ok, flat_eq d f3 hx.1 hy.1 a1 b1, eqDs]
  cases keyEq x y
  ·simp
  ·simpa using ih
 | [], _ :: _, _, _, _, h, _, _, _ => by cases h
 | [], [], _ :: _, _, _, _, h, _, _ => by cases h
 | z :: zs, [], ys, k, hf, hx, _, _, _ => by cases z <;> cases hx
 | z :: zs, x :: xs, [], k, hf, hx, hy, _, _ => by cases z <;> cases hy
theorem eq_facts {P : Program} {T : Nat → Option Ty} (hT : ∀ t ty, T t = some ty → chkTy P t ty = true) {t : TypeId} (hf : isFlatT (T t) = true) : eqOk P t (zsT (T t)) = true := by
 unfold isFlatT at hf
 split at hf
 ·rename_i zs fs hty
  have h := hT _ _ hty
  simp only [chkTy, Bool.and_eq_true] at h
  have h1 := h.1
  rw [show isFlatT (some (.agg zs fs)) = true from hf, hty] at *
  simpa [zsT] using h1
 ·rename_i n esz eagg zs hty
  have h := hT _ _ hty
  simp only [chkTy, Bool.and_eq_true] at h
  have h1 := h.1
  rw [show isFlatT (some (.arr n esz eagg zs)) = true from hf, hty] at *
  simpa [zsT] using h1
 ·cases hf
theorem ok_aeq (h : Sim c st tmps w S ρ) {o : Oper} {op : BinOp} {t t' : TypeId} {zs : List AV} (hq : eqOk c.P t zs = true) {x y : Operand} {x' y' : X} {ds : List Deferred} (ho : o.op = .binOp op t x y t') (he : isEq op = true) (hx : trX x = some x') (hy : trX y = some y')
  (hg : gd st x' = true) (hg2 : gd st y' = true) {a b : List AV} {xs ys : List D} (hp : ev st x' = .agg a) (hp2 : ev st y' = .agg b) (ha : toDs [] 1 a = some xs) (hb : toDs [] 1 b = some ys) (hl : likeDs zs xs = true ∧ likeDs zs ys = true) :
  ∃ cv, (execOp (Act.eval ⟨tmps, ds⟩) o).run c.P w = .ok (.value cv) w ∧ RepA w S ρ (.d (.bool (if op == .neq then !eqDs xs ys else eqDs xs ys))) cv := by
 have e1 := h.ev hx hg (ds := ds)
 have e2 := h.ev hy hg2 (ds := ds)
 rw [hp] at e1
 rw [hp2] at e2
 obtain ⟨va, hva, ra⟩ := e1
 obtain ⟨vb, hvb, rb⟩ := e2
 have la : RepL w S xs va.toList := toDs_rep through_nil 1 ra ha
 have lb : RepL w S ys vb.toList := toDs_rep through_nil 1 rb hb
 simp only [eqOk, Bool.and_eq_true] at hq
 obtain ⟨hguard, hq⟩ := hq
 have hguard : c.P.eqGuardType c.P.depth t = false := by simpa using hguard
 have heq : (Op.equalIn 10000 t (.agg va) (.agg vb)).run c.P w = .ok (eqDs xs ys) w := by
  split at hq
  ·rename_i fields hu
   simp only [Bool.and_eq_true] at hq
   have hfo : c.P.fieldsOf t = fields := by unfold Program.fieldsOf; rw [hu]
   rw [show (10000 : Nat) = 9999 + 1 from rfl, run_equalIn_struct w 9999 t va vb (by rw [hfo]; exact hu) (by simpa using hq.1), hfo]
   exact fields_eq 9998 va vb _ _ _ _ 0 hq.2 hl.1 hl.2 (by simpa using la) (by simpa using lb)
  ·rename_i m e hu
   simp only [Bool.and_eq_true] at hq
   obtain ⟨⟨⟨q1, q2⟩, q3⟩, q4⟩ := hq
   obtain ⟨ie, hie⟩ := Option.isSome_iff_exists.1 q3
   have hm : zs.length = m := by simpa using q1
   rw [show (10000 : Nat) = 9999 + 1 from rfl, run_equalIn_array w 9999 va vb hu hie, ← hm, List.range_eq_range']
   cases zs with
   | nil =>
    have h1 := likeDs_drop hl.1
    have h2 := likeDs_drop hl.2
    have : xs = [] := List.eq_nil_of_length_eq_zero h1
    subst this
    have : ys = [] := List.eq_nil_of_length_eq_zero h2
    subst this
    simp [Op.eqItems, eqDs]
   | cons z zs =>
    have he1 : c.P.cellsOf e = 1 := by simpa using q4
    exact items_eq 9998 he1 va vb _ _ _ 0 q2 hl.1 hl.2 (by simpa using la) (by simpa using lb)
  ·cases hq
 refine ⟨_, ?_, rfl⟩
 unfold execOp
 simp only [ho]
 refine run_v (v := _) (w' := w) ?_
 rw [hva, hvb]
 have hgr := run_eqGuard_agg w op t x y va vb hguard
 cases op <;> simp [isEq] at he <;> simp [hgr, run_eql_struct, run_neq_struct, heq]
theorem Sim.close (h : Sim c st tmps w S ρ) : ∃ S', (∀ b o, S b o → S' b o) ∧ (∀ b o, S' b o → S b o ∨ c.Own b) ∧ Live w S' ∧ (∀ (a : AV) (v : Value), RepA w S ρ a v → RepA w S' ρ a v) ∧ Through w S' ρ st.mem := by
 have hk : Keeps w S w (fun b o => S b o ∨ ∃ s cs vs e, getM st.mem s = some cs ∧ ρ.box s = some b ∧ w.heap[b]? = some (.cells vs e (0, 0)) ∧ c.Own b ∧ o < vs.size) := fun b o hs => ⟨.inl hs, rfl⟩
 refine ⟨fun b o => S b o ∨ ∃ s cs vs e, getM st.mem s = some cs ∧ ρ.box s = some b ∧ w.heap[b]? = some (.cells vs e (0, 0)) ∧ c.Own b ∧ o < vs.size, fun b o hs => .inl hs, ?_, ?_, fun a v hr => RepA.keep hk ρ.le_refl a v hr, ?_⟩
 ·rintro b o (hs | ⟨s, cs, vs, e, _, _, _, hb, _⟩)
  ·exact .inl hs
  ·exact .inr hb
 ·rintro b o (hs | ⟨s, cs, vs, e, _, _, hh, _, ho⟩)
  ·exact h.live b o hs
  ·exact ⟨vs[o], by rw [cell_of_cells hh]; simp [ho]⟩
 ·intro s cs hs hnm
  obtain ⟨b, vs, e, g1, g2, g3, g4, g6⟩ := h.mem s cs hs hnm
  refine ⟨b, vs.toList, g1, RepAs.keep hk ρ.le_refl cs _ g4, fun j v hj => ?_⟩
  have hj' : vs[j]? = some v := by simpa using hj
  refine ⟨by rw [cell_of_cells g3]; exact hj', .inr ⟨s, cs, vs, e, hs, g1, g3, g2, (Array.getElem?_eq_some_iff.1 hj').1⟩⟩
theorem flatD_rep {w w' : World} {S S' : Safe} {x : D} {v : Value} (hf : flatD x = true) (h : Rep w S x v) : Rep w' S' x v := by
 cases x <;> simp only [flatD, Bool.false_eq_true] at hf <;> exact h
theorem flatL_rep {w w' : World} {S S' : Safe} : ∀ {xs : List D} {vs : List Value}, xs.all flatD = true → RepL w S xs vs → RepL w' S' xs vs
 | [], _, _, h => h
 | x :: xs, _, hf, ⟨v, r, e, h1, h2⟩ => by
  simp only [List.all_cons, Bool.and_eq_true] at hf
  exact ⟨v, r, e, flatD_rep hf.1 h1, flatL_rep hf.2 h2⟩
mutual
theorem flat_rep {w w' : World} {S S' : Safe} : ∀ {r : CV} {v : Value}, r.flat = true → RepC w S r v → RepC w' S' r v
 | .one x, _, hf, h => flatD_rep (x := x) hf h
 | .agg xs, _, hf, ⟨vs, e, h⟩ => ⟨vs, e, flatL_rep (by simpa only [CV.flat] using hf) h⟩
 | .tup cs, _, hf, ⟨vs, e, h⟩ => ⟨vs, e, flats_rep (by simpa only [CV.flat] using hf) h⟩
 | .own _ _ _, _, hf, _ => by simp [CV.flat] at hf
 | .bx _ _ _ _ _ _, _, hf, _ => by simp [CV.flat] at hf
theorem flats_rep {w w' : World} {S S' : Safe} : ∀ {rs : List CV} {vs : List Value}, CV.flats rs = true → RepCL w S rs vs → RepCL w' S' rs vs
 | [], _, _, h => h
 | r :: rs, _, hf, ⟨v, q, e, h1, h2⟩ => by
  simp only [CV.flats, Bool.and_eq_true] at hf
  exact ⟨v, q, e, flat_rep hf.1 h1, flats_rep hf.2 h2⟩
end
theorem flat_own {r : CV} (h : r.flat = true) : r.isOwn = false := by
 cases r <;> first | rfl | simp [CV.flat] at h
end Go.Abs
end
section
namespace Go.Abs
open Go.RowKit
variable {c : Ctx} {st : St} {tmps : Array Value} {w : World} {S : Safe} {ρ : Rho}
theorem ok_len_slice (h : Sim c st tmps w S ρ) {o : Oper} {t : TypeId} {esz eb : Nat} (ht : chkTy c.P t (.slice esz eb) = true) {x : Operand} {x' : X} {tys : List TypeId} {ds : List Deferred}
  (ho : o.op = .call { callee := .builtin .len, args := #[x], argTypes := (t :: tys).toArray }) (hx : trX x = some x') (hg : gd st x' = true) {n : Nat} (hn : lenOf false (ev st x') = some n) :
  (execOp (Act.eval ⟨tmps, ds⟩) o).run c.P w = .ok (.value (.int .i64 n)) w ∧ (n : Int) ≤ 9223372036854775807 := by
 have e1 := h.ev hx hg (ds := ds)
 obtain ⟨e, ie, z, hu, _⟩ := slice_facts ht
 refine ⟨?_, lenOf_le e1 hn⟩
 have : ∃ base cap, Act.eval ⟨tmps, ds⟩ x = .slice base n cap := by
  unfold lenOf at hn
  split at hn <;> first | (cases hn; done) | skip
  ·rename_i h1 h2; cases h1
  ·rename_i h1 h2; cases hn; rw [h2] at e1; obtain ⟨b, cp, hv, _⟩ := e1; exact ⟨b, cp, hv⟩
  ·rename_i h1 h2; cases hn; rw [h2] at e1; obtain ⟨⟨b, cp, hv, _⟩, _⟩ := e1; exact ⟨b, cp, hv⟩
  ·rename_i h1 h2; cases hn; rw [h2] at e1; obtain ⟨⟨b, cp, hv, _⟩, _⟩ := e1; exact ⟨b, cp, hv⟩
 obtain ⟨base, cap, hv⟩ := this
 unfold execOp
 simp [ho, resolve, invoke, builtin, Builtin.len_, hv, run_underlying hu, goInt]
theorem ok_len_str (h : Sim c st tmps w S ρ) {o : Oper} {t : TypeId} (ht : chkTy c.P t (.cell (.d (.str []))) = true) {x : Operand} {x' : X} {tys : List TypeId} {ds : List Deferred}
  (ho : o.op = .call { callee := .builtin .len, args := #[x], argTypes := (t :: tys).toArray }) (hx : trX x = some x') (hg : gd st x' = true) {n : Nat} (hn : lenOf true (ev st x') = some n) :
  (execOp (Act.eval ⟨tmps, ds⟩) o).run c.P w = .ok (.value (.int .i64 n)) w ∧ (n : Int) ≤ 9223372036854775807 := by
 have e1 := h.ev hx hg (ds := ds)
 have hu : c.P.underlying t = some .string := by
  simp only [chkTy, Bool.and_eq_true, undOk] at ht
  have := ht.1.1
  split at this <;> simp_all
 refine ⟨?_, lenOf_le e1 hn⟩
 have : ∃ s : ByteArray, Act.eval ⟨tmps, ds⟩ x = .string s ∧ s.size = n := by
  unfold lenOf at hn
  split at hn <;> first | (cases hn; done) | skip
  ·rename_i h1 h2; cases hn; rw [h2] at e1; obtain ⟨s, hv, rfl, _⟩ := e1; exact ⟨s, hv, by simp⟩
  ·rename_i h1 h2; cases h1
  ·rename_i h1 h2; cases h1
  ·rename_i h1 h2; cases h1
 obtain ⟨s, hv, hs⟩ := this
 unfold execOp
 simp [ho, resolve, invoke, builtin, Builtin.len_, hv, run_underlying hu, goInt, hs]
theorem ok_isnil (h : Sim c st tmps w S ρ) {o : Oper} {t t' : TypeId} {esz eb : Nat} (ht : chkTy c.P t (.slice esz eb) = true) {x : Operand} {x' : X} {ds : List Deferred}
  (ho : o.op = .binOp .eql t x (.const (.slice none 0 0)) t') (hx : trX x = some x') (hg : gd st x' = true) {es : List (List D)} (he : (ev st x').elems = some es) :
  ∃ b : Bool, (execOp (Act.eval ⟨tmps, ds⟩) o).run c.P w = .ok (.value (.bool b)) w ∧ (b = true → es = []) := by
 have e1 := elems_rep (h.ev hx hg (ds := ds)) he
 obtain ⟨e, ie, z, hu, _⟩ := slice_facts ht
 obtain ⟨base, cap, hv, h1, h2, h3, _⟩ := e1
 refine ⟨base.isNone, ?_, fun hb => ?_⟩
 ·unfold execOp
  simp only [ho]
  refine run_v (v := _) (w' := w) ?_
  rw [hv]
  have hev : Act.eval ⟨tmps, ds⟩ (.const (.slice none 0 0)) = .slice none 0 0 := rfl
  rw [hev]
  have : (Op.equal t (.slice base es.length cap) (.slice none 0 0)).run c.P w = .ok base.isNone w := by
   unfold Op.equal
   have : Op.maxDepth = (Op.maxDepth - 1) + 1 := by decide
   rw [this]
   unfold Op.equalIn
   cases base <;> simp [run_underlying hu]
  simp [eqGuard_at_slice, binOp, this]
 ·have : base = none := by cases base <;> simp_all
  have := h3 this
  exact List.eq_nil_of_length_eq_zero (by omega)
def Goes (c : Ctx) (K : St → Prop) : Act → World → Prop := fun a w => a.defers = c.ds ∧ ∃ st S ρ, Sim c st a.tmps w S ρ ∧ K st
theorem val_done {o : Oper} {cv : Value} {w' : World} {S' : Safe} {ρ' : Rho} (hrun : (execOp (Act.eval ⟨tmps, c.ds⟩) o).run c.P w = .ok (.value cv) w') (hs : Sim c st tmps w' S' ρ') {v : AV} (hv : RepA w' S' ρ' v cv) {d : Nat} (hd : o.dst = some d) (hN : c.D d)
  {g : Option Bool} (hg : g = none ∨ g = some true) {K : St → Prop} (hK : K (st.put g d v)) (Q : Exit → Act → World → Prop) : o.wp c.P ⟨tmps, c.ds⟩ w (Goes c K) Q := by
 unfold Oper.wp
 rw [hrun]
 simp only [Oper.upon_value, Act.put, hd]
 refine ⟨rfl, _, _, _, hs.put hN hv g ?_, hK⟩
 rintro b hb rfl
 rcases hg with hg | hg <;> rw [hg] at hb <;> cases hb
theorem onG_true {g : Option Bool} (hg : g = none ∨ g = some true) {p : Prop} (h : onG g p) : p := by
 rcases hg with rfl | rfl
 ·exact h
 ·exact h rfl
theorem opd_some {α : Type} {x : Option α} {f : α → Option I} {i : I} (h : (x >>= f) = some i) : ∃ a, x = some a ∧ f a = some i := by
 cases x with
 | none => cases h
 | some a => exact ⟨a, rfl, h⟩
variable {E : AEnv} {T : Nat → Option Ty}
theorem op_sound (hG : E.G = c.G) (hC : ∀ f args r, E.C f args r → Ev c.P c.G f args r) (hT : ∀ t ty, T t = some ty → chkTy c.P t ty = true) (h : Sim c st tmps w S ρ) {o : Oper} {i : I}
  (htr : trOp T o.dst o.op = some i) (hdst : ∀ d, o.dst = some d → c.D d) {g : Option Bool} (hg : g = none ∨ g = some true) {K : St → Prop} (hK : aopG E g i st K) (Q : Exit → Act → World → Prop) : o.wp c.P ⟨tmps, c.ds⟩ w (Goes c K) Q := by
 cases hop : o.op <;> rw [hop] at htr <;> simp only [trOp, Option.bind_eq_bind, Option.pure_def, reduceCtorEq] at htr
 case move x =>
  obtain ⟨d, hd, htr⟩ := opd_some htr
  obtain ⟨x', hx, htr⟩ := opd_some htr
  cases htr
  simp only [aopG, opv] at hK
  obtain ⟨hgs, _⟩ := onG_true hg hK.1
  obtain ⟨cv, hrun, hrep⟩ := ok_move h (.inl hop) hx hgs
  exact val_done hrun h hrep hd (hdst d hd) hg hK.2 Q
 case assign x =>
  obtain ⟨d, hd, htr⟩ := opd_some htr
  obtain ⟨x', hx, htr⟩ := opd_some htr
  cases htr
  simp only [aopG, opv] at hK
  obtain ⟨hgs, _⟩ := onG_true hg hK.1
  obtain ⟨cv, hrun, hrep⟩ := ok_move h (.inr hop) hx hgs
  exact val_done hrun h hrep hd (hdst d hd) hg hK.2 Q
 case pick x y z =>
  obtain ⟨d, hd, htr⟩ := opd_some htr
  unfold trPick at htr
  split at htr
  ·obtain ⟨x', hx, htr⟩ := opd_some htr
   obtain ⟨y', hy, htr⟩ := opd_some htr
   cases htr
   simp only [aopG, opv] at hK
   split at hK
   ·rename_i v ob gs hr
    split at hr
    ·rename_i p q hp hq
     cases hr
     obtain ⟨hgs, hob⟩ := onG_true hg hK.1
     obtain ⟨cv, hrun, hrep⟩ := ok_and h hop hx hy hp hq hgs hob
     exact val_done hrun h hrep hd (hdst d hd) hg hK.2 Q
    ·rename_i p hp _
     cases hr
     obtain ⟨hgs, hob⟩ := onG_true hg hK.1
     obtain ⟨cv, hrun, hrep⟩ := ok_and0 h hop hx hp hgs hob
     exact val_done hrun h hrep hd (hdst d hd) hg hK.2 Q
    ·cases hr
   ·exact hK.elim
  ·obtain ⟨x', hx, htr⟩ := opd_some htr
   obtain ⟨y', hy, htr⟩ := opd_some htr
   cases htr
   simp only [aopG, opv] at hK
   split at hK
   ·rename_i v ob gs hr
    split at hr
    ·rename_i p q hp hq
     cases hr
     obtain ⟨hgs, hob⟩ := onG_true hg hK.1
     obtain ⟨cv, hrun, hrep⟩ := ok_or h hop hx hy hp hq hgs hob
     exact val_done hrun h hrep hd (hdst d hd) hg hK.2 Q
    ·rename_i p hp _
     cases hr
     obtain ⟨hgs, hob⟩ := onG_true hg hK.1
     obtain ⟨cv, hrun, hrep⟩ := ok_or0 h hop hx hp hgs hob
     exact val_done hrun h hrep hd (hdst d hd) hg hK.2 Q
    ·cases hr
   ·exact hK.elim
  ·cases htr
 case binOp op t x y t' =>
  unfold trBin at htr
  split at htr
  ·obtain ⟨ty, hty, htr⟩ := opd_some htr
   split at htr
   ·rename_i esz eb
    obtain ⟨d, hd, htr⟩ := opd_some htr
    obtain ⟨x', hx, htr⟩ := opd_some htr
    cases htr
    simp only [aopG] at hK
    split at hK
    ·rename_i es hes
     have hgx := onG_true hg hK.1
     obtain ⟨b, hrun, hb⟩ := ok_isnil h (hT _ _ hty) hop hx hgx hes (ds := c.ds)
     exact val_done (v := .d (.bool b)) hrun h rfl hd (hdst d hd) hg (hK.2 b hb) Q
    ·exact hK.elim
   ·cases htr
  rename_i op y _
  split at htr
  ·rename_i hbb
   simp only [Bool.and_eq_true] at hbb
   obtain ⟨d, hd, htr⟩ := opd_some htr
   obtain ⟨x', hx, htr⟩ := opd_some htr
   obtain ⟨y', hy, htr⟩ := opd_some htr
   cases htr
   have hu : c.P.underlying t = some .bool := by
    have h2 := hbb.2
    unfold isBoolT at h2
    split at h2
    ·rename_i b hty
     have := hT _ _ hty
     simp only [chkTy, Bool.and_eq_true, undOk] at this
     have := this.1.1
     split at this <;> simp_all
    ·cases h2
   simp only [aopG, opv] at hK
   split at hK
   ·rename_i v ob gs hr
    split at hr
    ·rename_i p q hp hq
     cases hr
     obtain ⟨hgs, _⟩ := onG_true hg hK.1
     simp only [Bool.and_eq_true] at hgs
     obtain ⟨cv, hrun, hrep⟩ := ok_beq h hu hop hbb.1 hx hy hgs.1 hgs.2 hp hq
     exact val_done hrun h hrep hd (hdst d hd) hg hK.2 Q
    ·cases hr
   ·exact hK.elim
  split at htr
  ·rename_i _ hff
   simp only [Bool.and_eq_true] at hff
   obtain ⟨d, hd, htr⟩ := opd_some htr
   obtain ⟨x', hx, htr⟩ := opd_some htr
   obtain ⟨y', hy, htr⟩ := opd_some htr
   cases htr
   simp only [aopG, opv] at hK
   split at hK
   ·rename_i v ob gs hr
    split at hr
    ·rename_i a b hp hq
     split at hr
     ·rename_i xs ys ha hb
      cases hr
      obtain ⟨hgs, hob⟩ := onG_true hg hK.1
      simp only [Bool.and_eq_true] at hgs
      obtain ⟨cv, hrun, hrep⟩ := ok_aeq h (eq_facts hT hff.2) hop hff.1 hx hy hgs.1 hgs.2 hp hq ha hb hob
      exact val_done hrun h hrep hd (hdst d hd) hg hK.2 Q
     ·cases hr
    ·cases hr
   ·exact hK.elim
  obtain ⟨d, hd, htr⟩ := opd_some htr
  obtain ⟨x', hx, htr⟩ := opd_some htr
  obtain ⟨y', hy, htr⟩ := opd_some htr
  cases htr
  simp only [aopG, opv] at hK
  split at hK
  ·rename_i v ob gs hr
   split at hr
   ·rename_i r hrr
    cases hr
    obtain ⟨hgs, hob⟩ := onG_true hg hK.1
    simp only [Bool.and_eq_true] at hgs
    obtain ⟨cv, hrun, hrep⟩ := ok_bin h hop hx hy hgs.1 hgs.2 hrr hob
    exact val_done hrun h hrep hd (hdst d hd) hg hK.2 Q
   ·cases hr
  ·exact hK.elim
 case nilCheck x =>
  obtain ⟨d, hd, htr⟩ := opd_some htr
  obtain ⟨x', hx, htr⟩ := opd_some htr
  cases htr
  simp only [aopG, opv] at hK
  split at hK
  ·rename_i v ob gs hr
   split at hr
   ·rename_i s off hb
    cases hr
    obtain ⟨hgs, _⟩ := onG_true hg hK.1
    obtain ⟨cv, hrun, hrep⟩ := ok_nck h hop hx hgs hb
    exact val_done hrun h hrep hd (hdst d hd) hg hK.2 Q
   ·cases hr
  ·exact hK.elim
 case unOp u t x =>
  unfold trUn at htr
  cases u
  case neg =>
   obtain ⟨ty, hty, htr⟩ := opd_some htr
   split at htr
   ·rename_i k
    obtain ⟨d, hd, htr⟩ := opd_some htr
    obtain ⟨x', hx, htr⟩ := opd_some htr
    cases htr
    have hev : ev st (.c (.d (.int k 0))) = .d (.int k 0) := rfl
    simp only [aopG, opv, hev] at hK
    split at hK
    ·rename_i v ob gs hr
     split at hr
     ·rename_i r hrr
      cases hr
      obtain ⟨hgs, hob⟩ := onG_true hg hK.1
      simp only [Bool.and_eq_true] at hgs
      obtain ⟨cv, hrun, hrep⟩ := ok_neg h hop hx hgs.2 hrr hob
      exact val_done hrun h hrep hd (hdst d hd) hg hK.2 Q
     ·cases hr
    ·exact hK.elim
   ·cases htr
  case not =>
   obtain ⟨d, hd, htr⟩ := opd_some htr
   obtain ⟨x', hx, htr⟩ := opd_some htr
   cases htr
   simp only [aopG, opv] at hK
   split at hK
   ·rename_i v ob gs hr
    split at hr
    ·rename_i b hb
     cases hr
     obtain ⟨hgs, _⟩ := onG_true hg hK.1
     obtain ⟨cv, hrun, hrep⟩ := ok_not h hop hx hgs hb
     exact val_done hrun h hrep hd (hdst d hd) hg hK.2 Q
    ·cases hr
   ·exact hK.elim
  all_goals cases htr
 case build t parts =>
  obtain ⟨ty, hty, htr⟩ := opd_some htr
  split at htr
  ·rename_i zs fs
   obtain ⟨d, hd, htr⟩ := opd_some htr
   obtain ⟨xs, hxs, htr⟩ := opd_some htr
   cases htr
   simp only [aopG, opv] at hK
   split at hK
   ·rename_i v ob gs hr
    split at hr
    ·rename_i cs hcs
     cases hr
     obtain ⟨hgs, _⟩ := onG_true hg hK.1
     obtain ⟨cv, hrun, hrep⟩ := ok_build h (hT _ _ hty) hop hxs hgs hcs
     exact val_done hrun h hrep hd (hdst d hd) hg hK.2 Q
    ·cases hr
   ·exact hK.elim
  ·rename_i n esz eagg zs
   obtain ⟨d, hd, htr⟩ := opd_some htr
   obtain ⟨xs, hxs, htr⟩ := opd_some htr
   cases htr
   simp only [aopG, opv] at hK
   split at hK
   ·rename_i v ob gs hr
    split at hr
    ·rename_i cs hcs
     cases hr
     obtain ⟨hgs, _⟩ := onG_true hg hK.1
     obtain ⟨cv, hrun, hrep⟩ := ok_buildA h (hT _ _ hty) hop hxs hgs hcs
     exact val_done hrun h hrep hd (hdst d hd) hg hK.2 Q
    ·cases hr
   ·exact hK.elim
  ·cases htr
 case field t x i =>
  obtain ⟨ty, hty, htr⟩ := opd_some htr
  split at htr
  ·rename_i zs fs
   obtain ⟨fd, hfd, htr⟩ := opd_some htr
   obtain ⟨d, hd, htr⟩ := opd_some htr
   obtain ⟨x', hx, htr⟩ := opd_some htr
   cases htr
   simp only [aopG, opv] at hK
   split at hK
   ·rename_i v ob gs hr
    split at hr
    ·rename_i cs hs
     cases hr
     obtain ⟨hgs, hob⟩ := onG_true hg hK.1
     obtain ⟨cv, hrun, hrep⟩ := ok_fld h (hT _ _ hty) hop hx hfd hgs hs hob
     exact val_done hrun h hrep hd (hdst d hd) hg hK.2 Q
    ·cases hr
   ·exact hK.elim
  ·cases htr
 case buildSlice t n parts =>
  obtain ⟨ty, hty, htr⟩ := opd_some htr
  split at htr
  ·rename_i esz eb
   split at htr
   ·rename_i hcond
    obtain ⟨d, hd, htr⟩ := opd_some htr
    obtain ⟨xs, hxs, htr⟩ := opd_some htr
    cases htr
    simp only [aopG, opv] at hK
    split at hK
    ·rename_i v ob gs hr
     split at hr
     ·rename_i es hes
      cases hr
      obtain ⟨hgs, _⟩ := onG_true hg hK.1
      obtain ⟨cv, w', S', hrun, hs', hrep⟩ := ok_bsl h (hT _ _ hty) hop hcond.1 hxs hgs hes hcond.2
      exact val_done hrun hs' hrep hd (hdst d hd) hg hK.2 Q
     ·cases hr
    ·exact hK.elim
   ·cases htr
  ·cases htr
 case fieldAddr t x i =>
  obtain ⟨ty, hty, htr⟩ := opd_some htr
  split at htr
  ·rename_i zs fs
   obtain ⟨fd, hfd, htr⟩ := opd_some htr
   obtain ⟨d, hd, htr⟩ := opd_some htr
   obtain ⟨x', hx, htr⟩ := opd_some htr
   cases htr
   simp only [aopG] at hK
   split at hK
   ·rename_i v ob gs hr
    obtain ⟨hgs, hob⟩ := onG_true hg hK.1
    have hgd : gd st x' = true := by
     simp only [opv] at hr
     split at hr <;> first | (cases hr; done) | (cases hr; exact hgs)
    have hr' : opv c.G st (.fa 0 fd.1 x') = some (v, ob, gs) := by rw [← hG, ← hr]; simp only [opv]
    obtain ⟨cv, hrun, hrep⟩ := ok_fa h (hT _ _ hty) hop hx hfd hgd hr' hob
    exact val_done hrun h hrep hd (hdst d hd) hg hK.2 Q
   ·exact hK.elim
  ·cases htr
 case load t x =>
  obtain ⟨ty, hty, htr⟩ := opd_some htr
  obtain ⟨d, hd, htr⟩ := opd_some htr
  obtain ⟨x', hx, htr⟩ := opd_some htr
  cases htr
  simp only [aopG] at hK
  split at hK
  ·rename_i v ob gs hr
   obtain ⟨hgs, hob⟩ := onG_true hg hK.1
   have hgd : gd st x' = true := by
    simp only [opv] at hr
    repeat' split at hr
    all_goals first | (cases hr; done) | (cases hr; exact hgs)
   have hr' : opv c.G st (.ld 0 (tyAgg ty) (tySize ty) x') = some (v, ob, gs) := by rw [← hG, ← hr]; simp only [opv]
   obtain ⟨cv, hrun, hrep⟩ := ok_ld h (hT _ _ hty) hop hx hgd hr' hob
   exact val_done hrun h hrep hd (hdst d hd) hg hK.2 Q
  ·exact hK.elim
 case indexAddr t x y =>
  obtain ⟨ty, hty, htr⟩ := opd_some htr
  split at htr
  ·rename_i esz eb
   obtain ⟨d, hd, htr⟩ := opd_some htr
   obtain ⟨x', hx, htr⟩ := opd_some htr
   obtain ⟨y', hy, htr⟩ := opd_some htr
   cases htr
   simp only [aopG, opv] at hK
   split at hK
   ·rename_i v ob gs hr
    split at hr
    ·rename_i es k n hes hn
     cases hr
     obtain ⟨hgs, hob⟩ := onG_true hg hK.1
     simp only [Bool.and_eq_true] at hgs
     obtain ⟨cv, hrun, hrep⟩ := ok_idx h (hT _ _ hty) hop hx hy hgs.1 hgs.2 hes hn hob
     exact val_done hrun h hrep hd (hdst d hd) hg hK.2 Q
    ·cases hr
   ·exact hK.elim
  ·rename_i n esz eagg zs
   obtain ⟨d, hd, htr⟩ := opd_some htr
   obtain ⟨x', hx, htr⟩ := opd_some htr
   obtain ⟨kk, k, rfl, hk, rfl⟩ := trArr_some htr
   simp only [aopG] at hK
   split at hK
   ·rename_i v ob gs hr
    obtain ⟨hgs, hob⟩ := onG_true hg hK.1
    have hgd : gd st x' = true := by
     simp only [opv] at hr
     split at hr <;> first | (cases hr; done) | (cases hr; exact hgs)
    have hr' : opv c.G st (.fa 0 (k.toNat * esz) x') = some (v, ob, gs) := by rw [← hG, ← hr]; simp only [opv]
    obtain ⟨cv, hrun, hrep⟩ := ok_ia h (hT _ _ hty) hop hx hk hgd hr' hob
    exact val_done hrun h hrep hd (hdst d hd) hg hK.2 Q
   ·exact hK.elim
  ·cases htr
 case index t x y =>
  obtain ⟨ty, hty, htr⟩ := opd_some htr
  split at htr
  ·obtain ⟨d, hd, htr⟩ := opd_some htr
   obtain ⟨x', hx, htr⟩ := opd_some htr
   obtain ⟨y', hy, htr⟩ := opd_some htr
   cases htr
   simp only [aopG, opv] at hK
   split at hK
   ·rename_i v ob gs hr
    split at hr
    ·rename_i s k n hs hn
     cases hr
     obtain ⟨hgs, hob⟩ := onG_true hg hK.1
     simp only [Bool.and_eq_true] at hgs
     obtain ⟨cv, hrun, hrep⟩ := ok_sidx h (hT _ _ hty) hop hx hy hgs.1 hgs.2 hs hn hob
     exact val_done hrun h hrep hd (hdst d hd) hg hK.2 Q
    ·cases hr
   ·exact hK.elim
  ·rename_i m zs
   obtain ⟨d, hd, htr⟩ := opd_some htr
   obtain ⟨x', hx, htr⟩ := opd_some htr
   obtain ⟨y', hy, htr⟩ := opd_some htr
   cases htr
   simp only [aopG, opv] at hK
   split at hK
   ·rename_i v ob gs hr
    split at hr
    ·rename_i s k n hs hn
     cases hr
     obtain ⟨hgs, hob⟩ := onG_true hg hK.1
     simp only [Bool.and_eq_true] at hgs
     obtain ⟨cv, hrun, hrep⟩ := ok_aidx h (hT _ _ hty) hop hx hy hgs.1 hgs.2 hs hn hob
     exact val_done hrun h hrep hd (hdst d hd) hg hK.2 Q
    ·cases hr
   ·exact hK.elim
  ·cases htr
 case slice t x lo hi mx =>
  cases mx with
  | some _ => cases htr
  | none =>
  obtain ⟨ty, hty, htr⟩ := opd_some htr
  split at htr
  ·cases lo with
   | none =>
    cases hi with
    | none => cases htr
    | some z =>
     obtain ⟨d, hd, htr⟩ := opd_some htr
     obtain ⟨x', hx, htr⟩ := opd_some htr
     obtain ⟨z', hz, htr⟩ := opd_some htr
     cases htr
     simp only [aopG, opv] at hK
     split at hK
     ·rename_i v ob gs hr
      split at hr
      ·rename_i s k l k' m hs hl hm
       cases hr
       obtain ⟨hgs, hob⟩ := onG_true hg hK.1
       simp only [Bool.and_eq_true] at hgs
       obtain ⟨cv, hrun, hrep⟩ := ok_sto h (hT _ _ hty) hop hx (.inr ⟨rfl, rfl⟩) hz hgs.1 hgs.2.1 hgs.2.2 hs hl hm hob
       exact val_done hrun h hrep hd (hdst d hd) hg hK.2 Q
      ·cases hr
     ·exact hK.elim
   | some y =>
    cases hi with
    | none =>
     obtain ⟨d, hd, htr⟩ := opd_some htr
     obtain ⟨x', hx, htr⟩ := opd_some htr
     obtain ⟨y', hy, htr⟩ := opd_some htr
     cases htr
     simp only [aopG, opv] at hK
     split at hK
     ·rename_i v ob gs hr
      split at hr
      ·rename_i s k n hs hn
       cases hr
       obtain ⟨hgs, hob⟩ := onG_true hg hK.1
       simp only [Bool.and_eq_true] at hgs
       obtain ⟨cv, hrun, hrep⟩ := ok_sfrom h (hT _ _ hty) hop hx hy hgs.1 hgs.2 hs hn hob
       exact val_done hrun h hrep hd (hdst d hd) hg hK.2 Q
      ·cases hr
     ·exact hK.elim
    | some z =>
     obtain ⟨d, hd, htr⟩ := opd_some htr
     obtain ⟨x', hx, htr⟩ := opd_some htr
     obtain ⟨y', hy, htr⟩ := opd_some htr
     obtain ⟨z', hz, htr⟩ := opd_some htr
     cases htr
     simp only [aopG, opv] at hK
     split at hK
     ·rename_i v ob gs hr
      split at hr
      ·rename_i s k l k' m hs hl hm
       cases hr
       obtain ⟨hgs, hob⟩ := onG_true hg hK.1
       simp only [Bool.and_eq_true] at hgs
       obtain ⟨cv, hrun, hrep⟩ := ok_sto h (hT _ _ hty) hop hx (.inl ⟨y, rfl, hy⟩) hz hgs.1 hgs.2.1 hgs.2.2 hs hl hm hob
       exact val_done hrun h hrep hd (hdst d hd) hg hK.2 Q
      ·cases hr
     ·exact hK.elim
  ·cases lo with
   | none =>
    cases hi with
    | none => cases htr
    | some z =>
     obtain ⟨d, hd, htr⟩ := opd_some htr
     obtain ⟨x', hx, htr⟩ := opd_some htr
     obtain ⟨z', hz, htr⟩ := opd_some htr
     cases htr
     simp only [aopG, opv] at hK
     split at hK
     ·rename_i v ob gs hr
      split at hr
      ·rename_i s k l k' m hs hl hm
       cases hr
       obtain ⟨hgs, hob⟩ := onG_true hg hK.1
       simp only [Bool.and_eq_true] at hgs
       obtain ⟨cv, hrun, hrep⟩ := ok_lto h (hT _ _ hty) hop hx (.inr ⟨rfl, rfl⟩) hz hgs.1 hgs.2.1 hgs.2.2 hs hl hm hob
       exact val_done hrun h hrep hd (hdst d hd) hg hK.2 Q
      ·cases hr
     ·exact hK.elim
   | some y =>
    cases hi with
    | none =>
     obtain ⟨d, hd, htr⟩ := opd_some htr
     obtain ⟨x', hx, htr⟩ := opd_some htr
     obtain ⟨y', hy, htr⟩ := opd_some htr
     cases htr
     simp only [aopG, opv] at hK
     split at hK
     ·rename_i v ob gs hr
      split at hr
      ·rename_i s k n hs hn
       cases hr
       obtain ⟨hgs, hob⟩ := onG_true hg hK.1
       simp only [Bool.and_eq_true] at hgs
       obtain ⟨cv, hrun, hrep⟩ := ok_lfrom h (hT _ _ hty) hop hx hy hgs.1 hgs.2 hs hn hob
       exact val_done hrun h hrep hd (hdst d hd) hg hK.2 Q
      ·cases hr
     ·exact hK.elim
    | some z =>
     obtain ⟨d, hd, htr⟩ := opd_some htr
     obtain ⟨x', hx, htr⟩ := opd_some htr
     obtain ⟨y', hy, htr⟩ := opd_some htr
     obtain ⟨z', hz, htr⟩ := opd_some htr
     cases htr
     simp only [aopG, opv] at hK
     split at hK
     ·rename_i v ob gs hr
      split at hr
      ·rename_i s k l k' m hs hl hm
       cases hr
       obtain ⟨hgs, hob⟩ := onG_true hg hK.1
       simp only [Bool.and_eq_true] at hgs
       obtain ⟨cv, hrun, hrep⟩ := ok_lto h (hT _ _ hty) hop hx (.inl ⟨y, rfl, hy⟩) hz hgs.1 hgs.2.1 hgs.2.2 hs hl hm hob
       exact val_done hrun h hrep hd (hdst d hd) hg hK.2 Q
      ·cases hr
     ·exact hK.elim
  ·cases htr
 case extract x i =>
  obtain ⟨d, hd, htr⟩ := opd_some htr
  obtain ⟨x', hx, htr⟩ := opd_some htr
  cases htr
  simp only [aopG, opv] at hK
  split at hK
  ·rename_i v ob gs hr
   split at hr
   ·rename_i vs hvs
    cases hr
    obtain ⟨hgs, hob⟩ := onG_true hg hK.1
    obtain ⟨cv, hrun, hrep⟩ := ok_ext h hop hx hgs hvs hob
    exact val_done hrun h hrep hd (hdst d hd) hg hK.2 Q
   ·cases hr
  ·exact hK.elim
 case makeFunc fn first caps =>
  split at htr
  ·rename_i f
   split at htr
   ·rename_i hfirst
    obtain ⟨d, hd, htr⟩ := opd_some htr
    obtain ⟨xs, hxs, htr⟩ := opd_some htr
    cases htr
    simp only [aopG, opv] at hK
    obtain ⟨hgs, _⟩ := onG_true hg hK.1
    have hf : first = #[] := by simpa using hfirst
    subst hf
    obtain ⟨cv, hrun, hrep⟩ := ok_mkf h hop hxs hgs
    exact val_done hrun h hrep hd (hdst d hd) hg hK.2 Q
   ·cases htr
  ·cases htr
 case alloc t =>
  obtain ⟨d, hd, htr⟩ := opd_some htr
  obtain ⟨ty, hty, htr⟩ := opd_some htr
  cases htr
  simp only [aopG] at hK
  obtain ⟨⟨rfl, hm⟩, hK⟩ := hK
  obtain ⟨ti, z, hi, hz, _, _, _, hzs⟩ := ty_facts (hT _ _ hty)
  obtain ⟨ρ', hle, hb, hs⟩ := h.newBox hm (hdst d hd).1 (zOks_rep w S ρ hzs) t
  have hrun : (execOp (Act.eval ⟨tmps, c.ds⟩) o).run c.P w = .ok (.value (.pointer (some ⟨w.heap.size, 0, none⟩))) (w.alloc (.cells z.cells t)) := by
   unfold execOp
   simp [hop, Instr.alloc, run_zero hi hz, newVar, newRow]
  exact val_done (v := .ptr d 0) hrun hs ⟨_, hb, rfl⟩ hd (hdst d hd) (.inl rfl) hK Q
 case box t x =>
  obtain ⟨d, hd, htr⟩ := opd_some htr
  obtain ⟨x', hx, htr⟩ := opd_some htr
  cases htr
  simp only [aopG] at hK
  obtain ⟨⟨rfl, hgx, hsol, hm⟩, hK⟩ := hK
  have hrep := solid_cells (h.ev (ds := c.ds) hx hgx) hsol
  obtain ⟨ρ', hle, hb, hs⟩ := h.newBox hm (hdst d hd).1 hrep t
  have hrun : (execOp (Act.eval ⟨tmps, c.ds⟩) o).run c.P w = .ok (.value (.pointer (some ⟨w.heap.size, 0, none⟩))) (w.alloc (.cells (Act.eval ⟨tmps, c.ds⟩ x).cells t)) := by
   unfold execOp
   simp [hop, Instr.box, newVar, newRow]
  exact val_done (v := .ptr d 0) hrun hs ⟨_, hb, rfl⟩ hd (hdst d hd) (.inl rfl) hK Q
 case store t x y =>
  split at htr
  ·rename_i hdn
   obtain ⟨ty, hty, htr⟩ := opd_some htr
   obtain ⟨x', hx, htr⟩ := opd_some htr
   obtain ⟨y', hy, htr⟩ := opd_some htr
   cases htr
   simp only [aopG] at hK
   split at hK
   ·rename_i s off hp
    split at hK
    ·rename_i cs hcs
     obtain ⟨⟨rfl, g1, g2, g3, g4, g5, g6⟩, hK⟩ := hK
     obtain ⟨w', hrun, hs⟩ := ok_st h (hT _ _ hty) hop hx hy hp hcs g1 g2 g3 g4 g5 g6
     unfold Oper.wp
     rw [hrun]
     simp only [Oper.upon_skip, Act.put, hdn]
     exact ⟨rfl, _, _, _, hs, hK⟩
    ·exact hK.elim
   ·exact hK.elim
  ·cases htr
 case makeMap t rs =>
  cases rs with
  | some _ => cases htr
  | none =>
  obtain ⟨ty, hty, htr⟩ := opd_some htr
  split at htr
  ·rename_i k e kz ez
   obtain ⟨d, hd, htr⟩ := opd_some htr
   cases htr
   simp only [aopG] at hK
   obtain ⟨⟨rfl, hm⟩, hK⟩ := hK
   obtain ⟨ρ', hrun, hb, hs⟩ := ok_mkm (ds := c.ds) (k := k) (e := e) h hop hm (hdst _ hd).1
   exact val_done (v := .mref d) hrun hs ⟨_, hb, rfl⟩ hd (hdst d hd) (.inl rfl) hK Q
  ·cases htr
 case mapUpdate t x y z =>
  split at htr
  ·rename_i hdn
   obtain ⟨ty, hty, htr⟩ := opd_some htr
   split at htr
   ·obtain ⟨x', hx, htr⟩ := opd_some htr
    obtain ⟨y', hy, htr⟩ := opd_some htr
    obtain ⟨z', hz, htr⟩ := opd_some htr
    cases htr
    simp only [aopG] at hK
    split at hK
    ·rename_i s kd vd ex ey ez'
     split at hK
     ·rename_i k' e' kvs hm
      obtain ⟨⟨rfl, g1, g2, g3, rfl, rfl, g6, g7, g9⟩, hK⟩ := hK
      obtain ⟨w', hrun, hs⟩ := ok_mput h (hT _ _ hty) hop hx hy hz ex ey ez' hm g1 g2 g3 g6 g7 g9
      unfold Oper.wp
      rw [hrun]
      simp only [Oper.upon_skip, Act.put, hdn]
      exact ⟨rfl, _, _, _, hs, hK⟩
     ·exact hK.elim
    ·exact hK.elim
   ·cases htr
  ·cases htr
 case lookup t x y ok =>
  obtain ⟨ty, hty, htr⟩ := opd_some htr
  split at htr
  ·rename_i k e kz ez
   obtain ⟨d, hd, htr⟩ := opd_some htr
   obtain ⟨x', hx, htr⟩ := opd_some htr
   obtain ⟨y', hy, htr⟩ := opd_some htr
   cases htr
   simp only [aopG] at hK
   split at hK
   ·rename_i v ob gs hr
    obtain ⟨hgs, hob⟩ := onG_true hg hK.1
    obtain ⟨cv, hrun, hrep⟩ := ok_mget h (hT _ _ hty) hop hx hy (r := (v, ob, gs)) (by rw [hG] at hr; simpa only [opv] using hr) hob hgs
    exact val_done hrun h hrep hd (hdst d hd) hg hK.2 Q
   ·exact hK.elim
  ·cases htr
 case call cl =>
  obtain ⟨callee, args, argTypes⟩ := cl
  cases callee <;> simp only [trCall, Option.bind_eq_bind, Option.pure_def, reduceCtorEq] at htr
  case value f =>
   split at htr
   ·obtain ⟨f', hf, htr⟩ := opd_some htr
    obtain ⟨xs, hxs, htr⟩ := opd_some htr
    cases htr
    simp only [aopG] at hK
    split at hK
    ·rename_i fid caps hfv
     obtain ⟨x, ⟨_, hgf, hgs, hcp, _, ⟨o1, o2, o3, o4, o5, o6, o7, o8, o9, o10, o11, o12⟩, hCr⟩, hK⟩ := hK
     have hEv : EvB c.P c.G fid x.as0 x.m0 (tkOf x.τ) x.r x.m1 (tkOf x.τ1) := hC _ _ _ hCr
     obtain ⟨fn, hfn, hname, hbody⟩ := hEv.1
     have e1 := h.ev (ds := c.ds) hf hgf
     rw [hfv] at e1
     obtain ⟨cs, hv, hcaps⟩ := e1
     subst hcp
     have hcs : cs = #[] := Array.toList_inj.1 hcaps
     subst hcs
     obtain ⟨_, _, g3⟩ := o2.get
     have hrun : (execOp (Act.eval ⟨tmps, c.ds⟩) o).run c.P w = .ok (.enter fid (args.map (Act.eval ⟨tmps, c.ds⟩) ++ #[])) w := by
      unfold execOp
      simp only [hop]
      have hname' : ¬ fn.name = "runtime.NumGoroutine" := by simpa using hname
      have hbody' : ¬ fn.body = none := by intro e; simp [e] at hbody
      simp [resolve, invoke, callFunc, Deferred.ofValue, hv, hfn, hname', hbody']
     unfold Oper.wp
     rw [hrun, Oper.upon_enter]
     have hpinned : ∀ (r : Nat → Option Nat) (p : Nat × Nat), p ∈ x.σ.filterMap (fun q => (r q.2).map fun b => (q.1, b)) → 1000 ≤ p.1 := fun r p hp => by
      obtain ⟨q, hq, e⟩ := List.mem_filterMap.1 hp
      rw [Option.map_eq_some_iff] at e
      obtain ⟨b0, _, rfl⟩ := e
      exact (g3 q hq).1
     have hlisted : ∀ (r : Nat → Option Nat) (s b : Nat), (getTM x.σ s).bind r = some b → (s, b) ∈ x.σ.filterMap (fun q => (r q.2).map fun b => (q.1, b)) := fun r s b hb => by
      rw [Option.bind_eq_some_iff] at hb
      obtain ⟨u, e1, e2⟩ := hb
      exact List.mem_filterMap.2 ⟨(s, u), getTM_in e1, by simp only [e2, Option.map_some]⟩
     refine (hEv.2 w S (args.map (Act.eval ⟨tmps, c.ds⟩) ++ #[]) _ _ _ _ (h.handB o2 o3 o4 o5) (hpinned ρ.box) (hpinned ρ.mbox) (hlisted ρ.box) (hlisted ρ.mbox) (by
      have := MatchVs.sound (h.evs (ds := c.ds) hxs hgs) o1
      simpa using this)).mono ?_
     rintro e w' ⟨v, S', ρ', rfl, hr, h1⟩
     obtain ⟨ρ2, hle, hs⟩ := h.gotB o2 o3 o4 o5 o6 o7 o8 o9 o10 o11 o12 h1
     simp only [Act.put]
     cases hd : o.dst with
     | none =>
      rw [hd] at hK
      exact ⟨rfl, _, _, _, hs, hK⟩
     | some d =>
      rw [hd] at hK
      exact ⟨rfl, _, _, _, hs.put (hdst d hd) (RepC.toAV hr) none (fun b hb => by cases hb), hK⟩
    ·exact hK.elim
   obtain ⟨f', hf, htr⟩ := opd_some htr
   obtain ⟨xs, hxs, htr⟩ := opd_some htr
   cases htr
   simp only [aopG] at hK
   split at hK
   ·rename_i fid caps hfv
    split at hK
    ·rename_i cvs hcvs
     obtain ⟨r, hpre, hK⟩ := hK
     obtain ⟨hgf, hgs, hCr⟩ := onG_true hg hpre
     have hEv := hC _ _ _ hCr
     obtain ⟨fn, hfn, hname, hbody⟩ := hEv.enters
     have e1 := h.ev (ds := c.ds) hf hgf
     rw [hfv] at e1
     obtain ⟨cs, hv, hcaps⟩ := e1
     have e2 := toCVs_rep (through_nil (w := w) (S := S) (ρ := ρ)) 1 (h.evs (ds := c.ds) hxs hgs) hcvs
     have hrun : (execOp (Act.eval ⟨tmps, c.ds⟩) o).run c.P w = .ok (.enter fid (args.map (Act.eval ⟨tmps, c.ds⟩) ++ cs)) w := by
      unfold execOp
      simp only [hop]
      have hname' : ¬ fn.name = "runtime.NumGoroutine" := by simpa using hname
      have hbody' : ¬ fn.body = none := by intro e; simp [e] at hbody
      simp [resolve, invoke, callFunc, Deferred.ofValue, hv, hfn, hname', hbody']
     unfold Oper.wp
     rw [hrun, Oper.upon_enter]
     have hargs : RepCL w S (cvs ++ caps.map .one) (args.map (Act.eval ⟨tmps, c.ds⟩) ++ cs).toList := by
      simp only [Array.toList_append, Array.toList_map]
      exact RepCL.append e2 (RepL.toCL hcaps)
     cases hro : r.isOwn with
     | true =>
      cases r <;> simp only [CV.isOwn, Bool.false_eq_true] at hro
      case bx => exact hK.elim
      rename_i a sz es
      cases hd : o.dst with
      | none => rw [hd] at hK; exact hK.elim
      | some d =>
      rw [hd] at hK
      obtain ⟨⟨rfl, hdn, hao⟩, hK⟩ := hK
      obtain ⟨X, g1, g2, g3⟩ := h.takes (cl := cs.toList) (caps := caps.map .one) (h.evs (ds := c.ds) hxs hgs) hcvs hao
      refine ((hEv : EvOwn _ _ _ _ _ _ _).2 w S (args.map (Act.eval ⟨tmps, c.ds⟩) ++ cs) X h.live ⟨h.glob, h.exact⟩ hargs (by
       simp only [Array.toList_append, Array.toList_map]; exact g1)).mono ?_
      rintro e w' ⟨v, S', rfl, hv, hlen, hroom, hbel, hkeep, hS', hlive⟩
      obtain ⟨ρ', hs, hrep⟩ := g2.gotOwn g3 hbel hkeep hS' hlive hv hlen hroom (d := d) (getT_use hdn)
      simp only [Act.put, hd]
      exact ⟨rfl, _, _, _, hs.put (hdst d hd) hrep none (fun b hb => by cases hb), hK⟩
     | false =>
     have hcalls := (hEv.data hro).2
     have hK : K (match o.dst with | some d => st.put g d r.toAV0 | none => st) := by
      cases r <;> simp only [CV.isOwn, Bool.true_eq_false] at hro <;> exact hK
     refine (hcalls w S (args.map (Act.eval ⟨tmps, c.ds⟩) ++ cs) h.live ⟨h.glob, h.exact⟩ hargs).mono ?_
     rintro e w' ⟨v, S', rfl, hr, hbel, hS, hS', hlive⟩
     have hs := h.grow hbel hS hS' hlive
     simp only [Act.put]
     cases hd : o.dst with
     | none =>
      rw [hd] at hK
      exact ⟨rfl, _, _, _, hs, hK⟩
     | some d =>
      rw [hd] at hK
      refine ⟨rfl, _, _, _, hs.put (hdst d hd) (RepC.toAV hr) g ?_, hK⟩
      rintro b hb rfl
      rcases hg with hg | hg <;> rw [hg] at hb <;> cases hb
    ·unfold callW at hK
     split at hK
     ·rename_i cvs hcvs
      obtain ⟨r, hpre, hK⟩ := hK
      obtain ⟨hgg, hflat, hCr⟩ := onG_true hg hpre
      simp only [Bool.and_eq_true] at hgg
      obtain ⟨hgf, hgs⟩ := hgg
      have hEv := hC _ _ _ hCr
      obtain ⟨fn, hfn, hname, hbody⟩ := hEv.enters
      obtain ⟨S2, hSS, _, hlive2, _, hthr⟩ := h.close
      have hkeep : Keeps w S w S2 := fun b o hs => ⟨hSS b o hs, rfl⟩
      have e1 := h.ev (ds := c.ds) hf hgf
      rw [hfv] at e1
      obtain ⟨cs, hv, hcaps⟩ := e1
      have e2 := toCVs_rep hthr 3 (RepAs.keep hkeep ρ.le_refl _ _ (h.evs (ds := c.ds) hxs hgs)) hcvs
      have hrun : (execOp (Act.eval ⟨tmps, c.ds⟩) o).run c.P w = .ok (.enter fid (args.map (Act.eval ⟨tmps, c.ds⟩) ++ cs)) w := by
       unfold execOp
       simp only [hop]
       have hname' : ¬ fn.name = "runtime.NumGoroutine" := by simpa using hname
       have hbody' : ¬ fn.body = none := by intro e; simp [e] at hbody
       simp [resolve, invoke, callFunc, Deferred.ofValue, hv, hfn, hname', hbody']
      unfold Oper.wp
      rw [hrun, Oper.upon_enter]
      have hargs : RepCL w S2 (cvs ++ caps.map .one) (args.map (Act.eval ⟨tmps, c.ds⟩) ++ cs).toList := by
       simp only [Array.toList_append, Array.toList_map]
       exact RepCL.append e2 (RepL.toCL (RepL.keep hkeep _ _ hcaps))
      have hro := flat_own hflat
      have hcalls := (hEv.data hro).2
      have hK : K (match o.dst with | some d => st.put g d r.toAV0 | none => st) := by
       cases r <;> simp only [CV.isOwn, Bool.true_eq_false] at hro <;> exact hK
      refine (hcalls w S2 (args.map (Act.eval ⟨tmps, c.ds⟩) ++ cs) hlive2 ⟨fun g cs hg => RepCs.keep hkeep g 0 cs (h.glob g cs hg), h.exact⟩ hargs).mono ?_
      rintro e w' ⟨v, S', rfl, hr, hbel, _, _, _⟩
      have hs := h.grow (S' := S) hbel (fun _ _ h => h) (fun _ _ h => .inl h) (fun b o hso => by
       obtain ⟨u, hu⟩ := h.live b o hso
       exact ⟨u, (hbel.cell (p := ⟨b, o, none⟩) (cell_lt hu)).trans hu⟩)
      have hr : RepC w' S r v := flat_rep hflat hr
      simp only [Act.put]
      cases hd : o.dst with
      | none =>
       rw [hd] at hK
       exact ⟨rfl, _, _, _, hs, hK⟩
      | some d =>
       rw [hd] at hK
       refine ⟨rfl, _, _, _, hs.put (hdst d hd) (RepC.toAV hr) g ?_, hK⟩
       rintro b hb rfl
       rcases hg with hg | hg <;> rw [hg] at hb <;> cases hb
     ·exact hK.elim
   ·exact hK.elim
  case builtin b =>
   by_cases hbc : b = .clear
   ·subst hbc
    simp only at htr
    unfold trClear at htr
    split at htr
    ·rename_i x t tys hdn h1 h2
     have hargs : args = #[x] := Array.toList_inj.1 (by simpa using h1)
     have htys : argTypes = (t :: tys).toArray := Array.toList_inj.1 (by simpa using h2)
     subst hargs htys
     obtain ⟨ty, hty, htr⟩ := opd_some htr
     split at htr
     ·obtain ⟨x', hx, htr⟩ := opd_some htr
      cases htr
      simp only [aopG] at hK
      split at hK
      ·rename_i s ex
       split at hK
       ·rename_i k e kvs hm
        obtain ⟨⟨rfl, g1⟩, hK⟩ := hK
        obtain ⟨w', hrun, hs⟩ := ok_mclr h (hT _ _ hty) (tys := tys) (ds := c.ds) hop hdn hx ex hm g1
        unfold Oper.wp
        rw [hrun]
        simp only [Oper.upon_value, Act.put, hdn]
        exact ⟨rfl, _, _, _, hs, hK⟩
       ·exact hK.elim
      ·exact hK.elim
     ·cases htr
    ·cases htr
   replace htr : (o.dst >>= fun d => trBuiltin T d b args.toList argTypes.toList) = some i := by cases b <;> first | exact htr | exact absurd rfl hbc
   obtain ⟨d, hd, htr'⟩ := opd_some htr
   clear htr
   have htr := htr'
   clear htr'
   unfold trBuiltin at htr
   split at htr
   ·rename_i x t tys h1 h2
    have hargs : args = #[x] := Array.toList_inj.1 (by simpa using h1)
    have htys : argTypes = (t :: tys).toArray := Array.toList_inj.1 (by simpa using h2)
    subst hargs htys
    obtain ⟨ty, hty, htr⟩ := opd_some htr
    split at htr
    ·obtain ⟨x', hx, htr⟩ := opd_some htr
     cases htr
     simp only [aopG] at hK
     split at hK
     ·rename_i n hn
      have hgx := onG_true hg hK.1
      obtain ⟨hrun, hle⟩ := ok_len_slice h (hT _ _ hty) (tys := tys) hop hx hgx hn
      refine val_done (v := .d (.int .i64 n)) hrun h rfl hd (hdst d hd) hg (hK.2 ?_) Q
      rcases hg with rfl | rfl
      ·exact hle
      ·exact fun _ => hle
     ·exact hK.elim
    ·obtain ⟨x', hx, htr⟩ := opd_some htr
     cases htr
     simp only [aopG] at hK
     split at hK
     ·rename_i n hn
      have hgx := onG_true hg hK.1
      obtain ⟨hrun, hle⟩ := ok_len_str h (hT _ _ hty) (tys := tys) hop hx hgx hn
      refine val_done (v := .d (.int .i64 n)) hrun h rfl hd (hdst d hd) hg (hK.2 ?_) Q
      rcases hg with rfl | rfl
      ·exact hle
      ·exact fun _ => hle
     ·exact hK.elim
    ·cases htr
   ·rename_i x y h1
    have hargs : args = #[x, y] := Array.toList_inj.1 (by simpa using h1)
    subst hargs
    obtain ⟨x', hx, htr⟩ := opd_some htr
    obtain ⟨y', hy, htr⟩ := opd_some htr
    cases htr
    simp only [aopG, opv] at hK
    split at hK
    ·rename_i v ob gs hr
     split at hr
     ·rename_i k p k' q hp hq
      cases hr
      obtain ⟨hgs, _⟩ := onG_true hg hK.1
      simp only [Bool.and_eq_true] at hgs
      obtain ⟨cv, hrun, hrep⟩ := ok_max h hop hx hy hgs.1 hgs.2 hp hq
      exact val_done hrun h hrep hd (hdst d hd) hg hK.2 Q
     ·cases hr
    ·exact hK.elim
   ·rename_i x y h1
    have hargs : args = #[x, y] := Array.toList_inj.1 (by simpa using h1)
    subst hargs
    obtain ⟨x', hx, htr⟩ := opd_some htr
    obtain ⟨y', hy, htr⟩ := opd_some htr
    cases htr
    simp only [aopG, opv] at hK
    split at hK
    ·rename_i v ob gs hr
     split at hr
     ·rename_i k p k' q hp hq
      cases hr
      obtain ⟨hgs, _⟩ := onG_true hg hK.1
      simp only [Bool.and_eq_true] at hgs
      obtain ⟨cv, hrun, hrep⟩ := ok_min h hop hx hy hgs.1 hgs.2 hp hq
      exact val_done hrun h hrep hd (hdst d hd) hg hK.2 Q
     ·cases hr
    ·exact hK.elim
   ·rename_i x y t t' h1 h2
    have hargs : args = #[x, y] := Array.toList_inj.1 (by simpa using h1)
    have htys : argTypes = #[t, t'] := Array.toList_inj.1 (by simpa using h2)
    subst hargs htys
    obtain ⟨ty, hty, htr⟩ := opd_some htr
    split at htr
    ·rename_i esz eb
     split at htr
     ·rename_i htt
      obtain ⟨x', hx, htr⟩ := opd_some htr
      obtain ⟨y', hy, htr⟩ := opd_some htr
      cases htr
      subst htt
      simp only [aopG] at hK
      rw [appG_ne (by rcases hg with rfl | rfl <;> simp)] at hK
      split at hK
      ·exact hK.elim
      ·rename_i ys hys
       have fin : ∀ (es : List (List D)) (stk : St) (h' : Sim c stk tmps w S ρ) (hslots : stk.slots = st.slots) (base : Option Addr) (n cap : Nat),
         getT stk.tk d = none → gd st y' = true → Act.eval ⟨tmps, c.ds⟩ x = .slice base n cap → Rep w S (.lst es) (.slice base n cap) → (∀ e ∈ es, e.length = esz) → (∀ e ∈ ys, e.length = esz) → (es.length + ys.length) * eb ≤ 2 ^ 46 → es.length + ys.length ≤ 9223372036854775807 →
         (n = cap ∨ ∃ b, base = some ⟨b, 0, none⟩ ∧ c.Own b ∧ (∃ cur e, w.heap[b]? = some (.cells cur e (0, 0)) ∧ cur.size = cap * esz) ∧
          (∀ o, n * esz ≤ o → ¬ S b o) ∧ (∀ s, ρ.box s ≠ some b) ∧ ∀ t' b' y, getT stk.tk t' = some true → ρ.tok t' = some (some ⟨b', 0, none⟩, y) → y.1 ≠ y.2.1 → b' ≠ b) →
         K { (stk.put none d (.own d esz (es ++ ys))) with tk := (d, true) :: stk.tk } → o.wp c.P ⟨tmps, c.ds⟩ w (Goes c K) Q := by
        intro es stk h' hslots base n cap hdn hgy hxv hrep hes hys' hby h63 hsp hKK
        have e2 := elems_rep (h.ev (ds := c.ds) hy hgy) hys
        have hyv : ∃ b2 m2 c2, Act.eval ⟨tmps, c.ds⟩ y = .slice b2 m2 c2 := by obtain ⟨b2, c2, hv2, _⟩ := e2; exact ⟨b2, _, c2, hv2⟩
        obtain ⟨b2, m2, c2, hyv⟩ := hyv
        rw [hyv] at e2
        obtain ⟨v', w', S', ρ', hrun, hs, hr⟩ := app_core (ty := o.type) h' (hT _ _ hty) hdn hrep e2 hes hys' hby h63 hsp
        have hrun' : (execOp (Act.eval ⟨tmps, c.ds⟩) o).run c.P w = .ok (.value v') w' := by
         unfold execOp
         simp [hop, resolve, invoke, builtin, hxv, hyv, hrun]
        exact val_done hrun' hs hr hd (hdst d hd) (.inl rfl) hKK Q
       split at hK
       ·rename_i es hes
        obtain ⟨⟨hg0, g1, g2, g3, g4, g5, g6, g7⟩, hK⟩ := hK
        have e1 := h.ev (ds := c.ds) hx g2
        rw [hes] at e1
        obtain ⟨hrep, base, n, hv⟩ := e1
        rw [hv] at hrep
        exact fin es st h rfl base n n g1 g3 hv hrep g4 g5 g6 g7 (.inl rfl) hK
       ·rename_i u sz es hes
        obtain ⟨⟨hg0, g1, g1', rfl, g2, g3, g5, g6, g7⟩, hK⟩ := hK
        have e1 := h.ev (ds := c.ds) hx g2
        rw [hes] at e1
        obtain ⟨hrep, hlen, base, n, cap, hρ, hv⟩ := e1
        rw [hv] at hrep
        refine fin es { st with tk := tkKill u st.tk } (h.kill u) rfl base n cap (getT_kill_none.2 g1) g3 hv hrep hlen g5 g6 g7 ?_ hK
        obtain ⟨x, m1, m2⟩ := h.tok u g1'
        obtain rfl := Option.some.inj (hρ.symm.trans m1)
        rcases m2 with m2 | ⟨b, k0, k1, k2, k3, k4, k5, k6, k7⟩
        ·exact .inl m2
        ·exact .inr ⟨b, k0, k1, k2, k5, k6, fun t' b' y a1 a2 a3 => k7 t' b' y (getT_kill_true a1).2 (getT_kill_true a1).1 a2 a3⟩
       ·exact hK.elim
     ·cases htr
    ·cases htr
   ·cases htr
end Go.Abs
end
section
namespace Go.Abs
open Go.RowKit
variable {c : Ctx} {st : St} {tmps : Array Value} {w : World} {S : Safe} {ρ : Rho} {E : AEnv} {T : Nat → Option Ty}
def DstIs (dst : Option Nat) : I → Prop
 | .call d _ _ => dst = d
 | .callB d _ _ => dst = d
 | .st _ _ _ => dst = none
 | .mput _ _ _ _ _ _ => dst = none
 | .mclr _ => dst = none
 | i => dst = some (dstOf i)
theorem trOp_dst {dst : Option Nat} {op : Op} {i : I} (htr : trOp T dst op = some i) : DstIs dst i := by
 cases op <;> simp only [trOp, Option.bind_eq_bind, Option.pure_def, reduceCtorEq] at htr
 case call cl =>
  obtain ⟨callee, args, argTypes⟩ := cl
  cases callee <;> simp only [trCall, Option.bind_eq_bind, Option.pure_def, reduceCtorEq] at htr
  case value f =>
   split at htr
   ·obtain ⟨f', hf, htr⟩ := opd_some htr
    obtain ⟨xs, hxs, htr⟩ := opd_some htr
    cases htr; rfl
   obtain ⟨f', hf, htr⟩ := opd_some htr
   obtain ⟨xs, hxs, htr⟩ := opd_some htr
   cases htr; rfl
  case builtin b =>
   by_cases hbc : b = .clear
   ·subst hbc
    simp only at htr
    unfold trClear at htr
    split at htr
    ·obtain ⟨ty, hty, htr⟩ := opd_some htr
     split at htr
     ·obtain ⟨x', hx, htr⟩ := opd_some htr
      cases htr; rfl
     ·cases htr
    ·cases htr
   replace htr : (dst >>= fun d => trBuiltin T d b args.toList argTypes.toList) = some i := by cases b <;> first | exact htr | exact absurd rfl hbc
   obtain ⟨d, hd, htr⟩ := opd_some htr
   unfold trBuiltin at htr
   repeat' (first | (cases htr; exact hd) | (obtain ⟨_, _, htr⟩ := opd_some htr) | split at htr)
   all_goals cases htr
 case binOp op t x y t' =>
  unfold trBin at htr
  split at htr
  ·obtain ⟨ty, hty, htr⟩ := opd_some htr
   split at htr
   ·obtain ⟨d, hd, htr⟩ := opd_some htr
    obtain ⟨x', hx, htr⟩ := opd_some htr
    cases htr; exact hd
   ·cases htr
  ·split at htr
   ·obtain ⟨d, hd, htr⟩ := opd_some htr
    obtain ⟨x', hx, htr⟩ := opd_some htr
    obtain ⟨y', hy, htr⟩ := opd_some htr
    cases htr; exact hd
   ·split at htr
    ·obtain ⟨d, hd, htr⟩ := opd_some htr
     obtain ⟨x', hx, htr⟩ := opd_some htr
     obtain ⟨y', hy, htr⟩ := opd_some htr
     cases htr; exact hd
    ·obtain ⟨d, hd, htr⟩ := opd_some htr
     obtain ⟨x', hx, htr⟩ := opd_some htr
     obtain ⟨y', hy, htr⟩ := opd_some htr
     cases htr; exact hd
 case indexAddr t x y =>
  obtain ⟨_, _, htr⟩ := opd_some htr
  split at htr
  ·obtain ⟨_, hd, htr⟩ := opd_some htr
   obtain ⟨_, _, htr⟩ := opd_some htr
   obtain ⟨_, _, htr⟩ := opd_some htr
   cases htr; exact hd
  ·obtain ⟨_, hd, htr⟩ := opd_some htr
   obtain ⟨_, _, htr⟩ := opd_some htr
   obtain ⟨_, _, _, _, rfl⟩ := trArr_some htr
   exact hd
  ·cases htr
 case unOp u t x =>
  unfold trUn at htr
  cases u
  case neg =>
   obtain ⟨ty, hty, htr⟩ := opd_some htr
   split at htr
   ·obtain ⟨d, hd, htr⟩ := opd_some htr
    obtain ⟨x', hx, htr⟩ := opd_some htr
    cases htr; exact hd
   ·cases htr
  case not =>
   obtain ⟨d, hd, htr⟩ := opd_some htr
   obtain ⟨x', hx, htr⟩ := opd_some htr
   cases htr; exact hd
  all_goals cases htr
 case pick x y z =>
  obtain ⟨d, hd, htr⟩ := opd_some htr
  unfold trPick at htr
  repeat' (first | (cases htr; exact hd) | (obtain ⟨_, _, htr⟩ := opd_some htr) | split at htr)
  all_goals cases htr
 case makeMap t rs =>
  cases rs with
  | some _ => cases htr
  | none =>
  obtain ⟨_, _, htr⟩ := opd_some htr
  split at htr
  ·obtain ⟨_, _, htr⟩ := opd_some htr
   cases htr; assumption
  ·cases htr
 case mapUpdate =>
  split at htr
  ·obtain ⟨_, _, htr⟩ := opd_some htr
   split at htr
   ·obtain ⟨_, _, htr⟩ := opd_some htr
    obtain ⟨_, _, htr⟩ := opd_some htr
    obtain ⟨_, _, htr⟩ := opd_some htr
    cases htr; rfl
   ·cases htr
  ·cases htr
 case store =>
  split at htr
  ·rename_i hd
   obtain ⟨_, _, htr⟩ := opd_some htr
   obtain ⟨_, _, htr⟩ := opd_some htr
   obtain ⟨_, _, htr⟩ := opd_some htr
   cases htr; rfl
  ·cases htr
 case slice t x lo hi mx =>
  cases mx with
  | some _ => cases htr
  | none =>
  obtain ⟨_, _, htr⟩ := opd_some htr
  cases lo <;> cases hi
  all_goals
   repeat' (first | (cases htr; rfl) | (cases htr; assumption) | (obtain ⟨_, _, htr⟩ := opd_some htr) | split at htr)
  all_goals cases htr
 all_goals
  repeat' (first | (cases htr; rfl) | (cases htr; assumption) | (obtain ⟨_, _, htr⟩ := opd_some htr) | split at htr)
 all_goals cases htr
theorem skip_call {dst d : Option Nat} {K : St → Prop} {as : List AV} {r : CV} (hd : dst = d) (hK : callK (some false) d K st as r) : (∃ d v, dst = some d ∧ K (st.put (some false) d v)) ∨ (dst = none ∧ K st) := by
 cases d with
 | none =>
  cases r with
  | own a sz es => exact hK.elim
  | one x => exact .inr ⟨hd, hK⟩
  | agg x => exact .inr ⟨hd, hK⟩
  | tup x => exact .inr ⟨hd, hK⟩
  | bx => exact hK.elim
 | some d =>
  cases r with
  | own a sz es => exact absurd hK.1.1 (by simp)
  | one x => exact .inl ⟨d, _, hd, hK⟩
  | agg x => exact .inl ⟨d, _, hd, hK⟩
  | tup x => exact .inl ⟨d, _, hd, hK⟩
  | bx => exact hK.elim
theorem skip_sound {o : Oper} {i : I} (htr : trOp T o.dst o.op = some i) {K : St → Prop} (hK : aopG E (some false) i st K) : (∃ d v, o.dst = some d ∧ K (st.put (some false) d v)) ∨ (o.dst = none ∧ K st) := by
 have hd := trOp_dst htr
 cases i <;> simp only [aopG, DstIs, dstOf] at hK hd
 case alloc => exact absurd hK.1.1 (by simp)
 case box => exact absurd hK.1.1 (by simp)
 case st =>
  split at hK
  ·split at hK
   ·exact absurd hK.1.1 (by simp)
   ·exact hK.elim
  ·exact hK.elim
 case app => exact .inl ⟨_, _, hd, hK⟩
 case len d str x =>
  split at hK
  ·exact .inl ⟨_, _, hd, hK.2 (fun h => by cases h)⟩
  ·exact hK.elim
 case call d f args =>
  split at hK
  ·split at hK
   ·obtain ⟨r, _, hK⟩ := hK
    exact skip_call hd hK
   ·unfold callW at hK
    split at hK
    ·obtain ⟨r, _, hK⟩ := hK
     exact skip_call hd hK
    ·exact hK.elim
  ·exact hK.elim
 case callB d f args =>
  split at hK
  ·obtain ⟨x, ⟨hg, _⟩, _⟩ := hK
   cases hg
  ·exact hK.elim
 case isnil d x =>
  split at hK
  ·exact .inl ⟨_, _, hd, hK.2 false (fun h => by cases h)⟩
  ·exact hK.elim
 case mkm => exact absurd hK.1.1 (by simp)
 case mput =>
  split at hK
  ·split at hK
   ·exact absurd hK.1.1 (by simp)
   ·exact hK.elim
  ·exact hK.elim
 case mclr =>
  split at hK
  ·split at hK
   ·exact absurd hK.1.1 (by simp)
   ·exact hK.elim
  ·exact hK.elim
 case mv => exact .inl ⟨_, _, hd, hK.2⟩
 case mkf => exact .inl ⟨_, _, hd, hK.2⟩
 all_goals
  split at hK
  ·exact .inl ⟨_, _, hd, hK.2⟩
  ·exact hK.elim
theorem skip_sound2 {o : Oper} {i : I} (htr : trOp T o.dst o.op = some i) {K : St → Prop} (hK : K (skipK i st)) : (∃ d v, o.dst = some d ∧ K (st.put (some false) d v)) ∨ (o.dst = none ∧ K st) := by
 have hd := trOp_dst htr
 cases i <;> simp only [skipK, wrOf, DstIs, dstOf] at hK hd
 case st => exact .inr ⟨hd, hK⟩
 case mput => exact .inr ⟨hd, hK⟩
 case mclr => exact .inr ⟨hd, hK⟩
 case call d f args =>
  cases d with
  | none => exact .inr ⟨hd, hK⟩
  | some d => exact .inl ⟨d, _, hd, hK⟩
 case callB d f args =>
  cases d with
  | none => exact .inr ⟨hd, hK⟩
  | some d => exact .inl ⟨d, _, hd, hK⟩
 all_goals exact .inl ⟨_, _, hd, hK⟩
theorem guard_sound (h : Sim c st tmps w S ρ) {ops : Array Oper} {o : Oper} {gi : Option (Nat × Bool)} (htg : trGuard ops.toList o.guard = some gi) {g : Option Bool} (hg : guardOf st gi = some g) :
  (Region.wanted o (yielded ops tmps) = true ∧ (g = none ∨ g = some true)) ∨ (Region.wanted o (yielded ops tmps) = false ∧ g = some false) := by
 unfold Region.wanted
 cases hgu : o.guard with
 | none =>
  rw [hgu] at htg
  simp only [trGuard, Option.some.injEq] at htg
  subst htg
  simp only [guardOf, Option.some.injEq] at hg
  exact .inl ⟨rfl, .inl hg.symm⟩
 | some jw =>
  obtain ⟨j, want⟩ := jw
  rw [hgu] at htg
  simp only [trGuard, Option.bind_eq_bind, Option.pure_def, Option.bind_eq_some_iff, Option.some.injEq] at htg
  obtain ⟨oj, hoj, s, hs, rfl⟩ := htg
  have hy : yielded ops tmps j = match tmps[s]? with | some (.bool b) => some b | _ => none := by
   unfold yielded
   have : ops[j]? = some oj := by simpa using hoj
   simp [this, hs]
   rfl
  have hsl := h.slots s
  simp only [guardOf] at hg
  simp only
  rw [hy]
  split at hg
  ·rename_i b hb
   cases hg
   rw [hb] at hsl
   have ht : tmps[s]? = some (.bool b) := by
    simp only [RepA, Rep] at hsl
    cases hh : tmps[s]? with
    | none => rw [Array.getD_eq_getD_getElem?, hh] at hsl; cases hsl
    | some v => rw [Array.getD_eq_getD_getElem?, hh] at hsl; simp at hsl; rw [hsl]
   simp only [ht]
   cases b <;> cases want <;> simp
  ·rename_i g0 b hb
   cases hg
   rw [hb] at hsl
   obtain ⟨h1, h2⟩ := hsl
   cases g0 with
   | true =>
    have hsl := h1 rfl
    have ht : tmps[s]? = some (.bool b) := by
     simp only [RepA, Rep] at hsl
     cases hh : tmps[s]? with
     | none => rw [Array.getD_eq_getD_getElem?, hh] at hsl; cases hsl
     | some v => rw [Array.getD_eq_getD_getElem?, hh] at hsl; simp at hsl; rw [hsl]
    simp only [ht]
    cases b <;> cases want <;> simp
   | false =>
    have hsl := h2 rfl
    have ht : (match tmps[s]? with | some (.bool b) => some b | _ => none : Option Bool) = none := by
     cases hh : tmps[s]? with
     | none => rfl
     | some v => rw [Array.getD_eq_getD_getElem?, hh] at hsl; simp at hsl; rw [hsl]; rfl
    rw [ht]
    simp
  ·cases hg
structure FW (F : Fence) : Prop where
 fn : ∀ f, F.fn f
 depth : F.depth = none
 alive : F.alive = false
theorem FW.wide : FW Fence.wide := ⟨fun _ => trivial, rfl, rfl⟩
theorem fenced_fw {F : Fence} (hF : FW F) (P : Program) (m : Machine) : m.fenced P F := by
 intro g _
 refine ⟨fun h => ?_, Or.inl (hF.fn _), fun _ _ => hF.fn _, fun _ h => ?_⟩
 ·rw [hF.alive] at h; cases h
 ·rw [hF.depth] at h; cases h
theorem stepsIn_fw {F : Fence} (hF : FW F) {P : Program} {m m' : Machine} (h : Steps P m m') : StepsIn (Machine.fenced P F) P m m' := (StepsIn.of_steps h).mono fun m _ => fenced_fw hF P m
theorem comesIn_fw {F : Fence} (hF : FW F) {P : Program} {m m' : Machine} {e : Ending} (h : Comes P m m' e) : ComesIn (Machine.fenced P F) P m m' e := by
 cases e with
 | returned v => exact stepsIn_fw hF h
 | panicked chain => exact stepsIn_fw hF h
 | outgrown => exact h
theorem callsIn_fw {F : Fence} (hF : FW F) {n : Nat} {P : Program} {f : FuncId} {args : Array Value} {w : World} {R : Ending → World → Prop} (h : Calls P f args w R) : CallsIn F n P f args w R :=
 ⟨hF.fn f, fun cs _ => let ⟨e, w', fr, r, s, x⟩ := h cs; ⟨e, w', fr, r, comesIn_fw hF s, x⟩⟩
theorem rowsIn_fw {F : Fence} (hF : FW F) {n : Nat} {P : Program} {row : String} {args : Array Value} {w : World} {R : Value → World → Prop} (h : Rows P row args w R) : RowsIn F n P row args w R :=
 fun c cs _ => let ⟨v, w', r, s⟩ := h c cs; ⟨v, w', r, stepsIn_fw hF s⟩
theorem wpIn_fw {F : Fence} (hF : FW F) {n : Nat} {P : Program} {o : Oper} (hnd : ∀ c, o.op ≠ .defer c) {a : Act} {w : World} {N : Act → World → Prop} {Q : Exit → Act → World → Prop} (h : o.wp P a w N Q) : o.wpIn F n P a w N Q := by
 have hd : F.depth.isSome = true → 1 ≤ n := fun h => by rw [hF.depth] at h; cases h
 unfold Oper.wp at h
 refine ⟨fun f _ => hF.fn f, ?_⟩
 rw [Oper.semAt_eq _ _ _ hnd]
 generalize (execOp a.eval o).run P w = r at *
 cases r with
 | ok x w' => cases x <;> first | exact h | exact ⟨hd, callsIn_fw hF h⟩ | exact ⟨hd, rowsIn_fw hF h⟩ | exact h.elim
 | halt x w' => cases x <;> first | exact h | exact h.elim
theorem wpOp_sound (hG : E.G = c.G) (hC : ∀ f args r, E.C f args r → Ev c.P c.G f args r) (hT : ∀ t ty, T t = some ty → chkTy c.P t ty = true) (h : Sim c st tmps w S ρ) {ops : Array Oper} {k : Nat} {o : Oper} (ho : ops[k]? = some o) {i : I} {gi : Option (Nat × Bool)}
  (htg : trGuard ops.toList o.guard = some gi) (htr : trOp T o.dst o.op = some i) (hdst : ∀ d, o.dst = some d → c.D d) {K : St → Prop} (hK : aop E gi i st K) {N : Act → World → Prop} (hN : ∀ a w, Goes c K a w → N a w) (Q : Exit → Act → World → Prop) {F : Fence} (hF : FW F) (n : Nat) :
  wpOpIn F n c.P ops Q k N ⟨tmps, c.ds⟩ w := by
 have hnd : ∀ c, o.op ≠ .defer c := by intro c hc; rw [hc] at htr; cases htr
 unfold aop at hK
 split at hK
 ·exact hK.elim
 ·rename_i g hg
  unfold wpOpIn
  simp only [ho]
  rcases guard_sound h htg hg with ⟨hw, hgt⟩ | ⟨hw, rfl⟩
  ·rw [if_pos hw]
   have hK := (aopW_iff hK).resolve_right fun hs => by
    have := hs.1
    rcases hgt with rfl | rfl <;> cases this
   exact wpIn_fw hF hnd (Oper.wp_mono hN (op_sound hG hC hT h htr hdst hgt hK Q))
  ·rw [if_neg (by rw [hw]; simp)]
   refine ⟨fun f _ => hF.fn f, hN _ _ ?_⟩
   have hK : (∃ d v, o.dst = some d ∧ K (st.put (some false) d v)) ∨ (o.dst = none ∧ K st) := by
    rcases aopW_iff hK with hK | hK
    ·exact skip_sound htr hK
    ·exact skip_sound2 htr hK.2
   rcases hK with ⟨d, v, hd, hK⟩ | ⟨hd, hK⟩
   ·simp only [Act.put, hd]
    exact ⟨rfl, _, _, _, h.putSkip (hdst d hd) v, hK⟩
   ·simp only [Act.put, hd]
    exact ⟨rfl, _, _, _, h, hK⟩
theorem trOps_get {ops : List Oper} {l : List (Option (Nat × Bool) × I)} (h : trOps T ops = some l) : l.length = ops.length ∧ ∀ (k : Nat) (o : Oper), ops[k]? = some o → ∃ gi i, l[k]? = some (gi, i) ∧ trGuard ops o.guard = some gi ∧ trOp T o.dst o.op = some i := by
 have key : ∀ (all os : List Oper) (l : List (Option (Nat × Bool) × I)), (os.mapM fun (o : Oper) => do pure (← trGuard all o.guard, ← trOp T o.dst o.op)) = some l → l.length = os.length ∧ ∀ (k : Nat) (o : Oper), os[k]? = some o → ∃ gi i, l[k]? = some (gi, i) ∧ trGuard all o.guard = some gi ∧ trOp T o.dst o.op = some i := by
  intro all os
  induction os with
  | nil => intro l hl; simp at hl; subst hl; simp
  | cons o os ih =>
   intro l hl
   simp only [List.mapM_cons, Option.bind_eq_bind, Option.pure_def, Option.bind_eq_some_iff, Option.some.injEq] at hl
   obtain ⟨p, ⟨gi, hgi, i, hi, rfl⟩, l', hl', rfl⟩ := hl
   obtain ⟨h1, h2⟩ := ih l' hl'
   refine ⟨by simp [h1], fun k o' hk => ?_⟩
   cases k with
   | zero => simp at hk; subst hk; exact ⟨gi, i, rfl, hgi, hi⟩
   | succ k => simpa using h2 k o' (by simpa using hk)
 exact key ops ops l h
theorem ops_sound (hG : E.G = c.G) (hC : ∀ f args r, E.C f args r → Ev c.P c.G f args r) (hT : ∀ t ty, T t = some ty → chkTy c.P t ty = true) {ops : Array Oper} {l : List (Option (Nat × Bool) × I)} (htr : trOps T ops.toList = some l)
  (hdst : ∀ o ∈ ops.toList, ∀ d, o.dst = some d → c.D d) {F : Fence} (hF : FW F) (m : Nat) (Q : Exit → Act → World → Prop) {K : St → Prop} (hQ : ∀ a w, Goes c K a w → Q .normal a w) :
  ∀ (n k : Nat) {st : St} {tmps : Array Value} {w : World} {S : Safe} {ρ : Rho}, k + n = ops.size → Sim c st tmps w S ρ → aops E (l.drop k) K st → wpOpsIn F m c.P ops Q (List.range' k n) ⟨tmps, c.ds⟩ w := by
 obtain ⟨hlen, hget⟩ := trOps_get htr
 simp only [Array.length_toList] at hlen
 intro n
 induction n with
 | zero =>
  intro k st tmps w S ρ hk h hK
  rw [List.drop_of_length_le (by omega)] at hK
  exact hQ _ _ ⟨rfl, _, _, _, h, hK⟩
 | succ n ih =>
  intro k st tmps w S ρ hk h hK
  have hlt : k < ops.size := by omega
  obtain ⟨gi, i, hl, htg, hti⟩ := hget k ops[k] (by simp [hlt])
  have hdrop : l.drop k = (gi, i) :: l.drop (k + 1) := by
   have hkl : k < l.length := by omega
   rw [List.drop_eq_getElem_cons hkl]
   congr 1
   have := List.getElem?_eq_getElem hkl
   rw [this] at hl
   exact Option.some.inj hl
  rw [hdrop] at hK
  simp only [aops] at hK
  rw [List.range'_succ, wpOpsIn_cons]
  refine wpOp_sound hG hC hT h (Array.getElem?_eq_getElem hlt) htg hti (hdst _ (by simp)) hK ?_ Q hF m
  rintro ⟨tmps', ds'⟩ w' ⟨hds, st', S', ρ', h', hK'⟩
  simp only at hds
  subst hds
  exact ih (k + 1) (by omega) h' hK'
end Go.Abs
end
section
namespace Go.Abs
open Go.RowKit
variable {c : Ctx} {st : St} {tmps : Array Value} {w : World} {S : Safe} {ρ : Rho} {E : AEnv} {T : Nat → Option Ty}
theorem getT_cons (t : Nat) (b : Bool) (tk : List (Nat × Bool)) (t' : Nat) : getT ((t, b) :: tk) t' = if t' = t then some b else getT tk t' := by
 simp only [getT]
 by_cases h : t = t'
 ·subst h; simp
 ·have : ¬ t' = t := fun e => h e.symm
  simp [h, this]
theorem RepAs.get : ∀ {as : List AV} {l : List Value} {i : Nat} {a : AV}, RepAs w S ρ as l → as[i]? = some a → ∃ v, l[i]? = some v ∧ RepA w S ρ a v
 | [], _, i, a, _, h => by simp at h
 | b :: as, _, 0, a, ⟨v, r, h, h1, h2⟩, hi => by subst h; simp at hi; subst hi; exact ⟨v, rfl, h1⟩
 | b :: as, _, i + 1, a, ⟨v, r, h, h1, h2⟩, hi => by subst h; simpa using RepAs.get h2 (by simpa using hi)
theorem RepAs.set : ∀ {as : List AV} {l : List Value} {i : Nat} {a : AV} {v : Value}, RepAs w S ρ as l → l[i]? = some v → RepA w S ρ a v → RepAs w S ρ (as.set i a) l
 | [], _, i, a, v, h, _, _ => by simpa using h
 | b :: as, _, 0, a, v, ⟨v', r, h, h1, h2⟩, hi, hv => by subst h; simp at hi; subst hi; exact ⟨_, _, rfl, hv, h2⟩
 | b :: as, _, i + 1, a, v, ⟨v', r, h, h1, h2⟩, hi, hv => by subst h; exact ⟨_, _, rfl, h1, RepAs.set h2 (by simpa using hi) hv⟩
theorem conv1_sound (h : Sim c st tmps w S ρ) {p : Place × Nat × Nat} {st' : St} (hc : conv1 st p st') : ∃ ρ', Sim c st' tmps w S ρ' := by
 obtain ⟨pl, t, sz⟩ := p
 have htk : ∀ t', getT ((t, true) :: st.tk) t' = if t' = t then some true else if some t' = (none : Option Nat) then (getT st.tk t').map (fun _ => false) else getT st.tk t' := by
  intro t'; rw [getT_cons]; simp
 cases pl with
 | s k =>
  obtain ⟨es, h1, h2, h3, rfl⟩ := hc
  have hs := h.slots k
  rw [h1] at hs
  obtain ⟨hrep, base, n, hv⟩ := hs
  obtain ⟨ρ', hle, hρ, hs⟩ := h.newTok h3 none htk (base, n, n, sz) (.inl rfl)
  refine ⟨ρ', { hs with slots := fun k' => ?_ }⟩
  simp only [getS]
  by_cases hk : k = k'
  ·subst hk
   rw [if_pos rfl]
   exact ⟨hrep, h2, base, n, n, hρ, hv⟩
  ·rw [if_neg hk]; exact hs.slots k'
 | m s i =>
  obtain ⟨cs, es, h0, h1, h2, h3, rfl⟩ := hc
  have hnm : isMp cs = false := by
   cases hm : isMp cs with
   | false => rfl
   | true =>
    obtain ⟨k, e, kvs, rfl⟩ := isMp_iff.1 hm
    cases i <;> simp at h1
  obtain ⟨b, vs, e, g1, g2, g3, g4, g6⟩ := h.mem s cs h0 hnm
  obtain ⟨v, hvi, hrep, base, n, hv⟩ := RepAs.get g4 h1
  obtain ⟨ρ', hle, hρ, hs⟩ := h.newTok h3 none htk (base, n, n, sz) (.inl rfl)
  refine ⟨ρ', { hs with mem := fun s' cs' hs' hnm' => ?_, boxNew := fun s' hs' => ?_, mps := hs.mps.cons (RepAs.noMp (RepAs.set (RepAs.keep (Keeps.refl w S) hle cs _ g4) hvi ⟨hrep, h2, base, n, n, hρ, hv⟩)) }⟩
  ·simp only [getM] at hs'
   split at hs'
   ·rename_i hss
    subst hss
    cases hs'
    refine ⟨b, vs, e, hle.1 _ _ g1, g2, g3, RepAs.set (RepAs.keep (Keeps.refl w S) hle cs _ g4) hvi ⟨hrep, h2, base, n, n, hρ, hv⟩, g6⟩
   ·exact hs.mem s' cs' hs' hnm'
  ·simp only [getM] at hs'
   split at hs'
   ·cases hs'
   ·exact hs.boxNew s' hs'
theorem convs_sound : ∀ {ps : List (Place × Nat × Nat)} {st st' : St} {ρ : Rho}, Sim c st tmps w S ρ → convs ps st st' → ∃ ρ', Sim c st' tmps w S ρ'
 | [], st, st', ρ, h, hc => by simp only [convs] at hc; subst hc; exact ⟨ρ, h⟩
 | p :: ps, st, st', ρ, h, ⟨s1, h1, h2⟩ => by
  obtain ⟨ρ1, hs⟩ := conv1_sound h h1
  exact convs_sound hs h2
def rhoOf (ρ : Rho) (m1 : Mem) (mp : TMap) : Rho := { box := fun s => if (getM m1 s).isSome then ρ.box s else none, mbox := fun s => if (getM m1 s).isSome then ρ.mbox s else none, tok := fun t => (getTM mp t).bind ρ.tok }
mutual
theorem RepA.plain {m1 : Mem} {mp : TMap} : ∀ (a : AV) (v : Value), a.plain m1 = true → RepA w S ρ a v → RepA w S (rhoOf ρ m1 mp) a v
 | .undef, _, _, _ => trivial
 | .d x, _, _, h => h
 | .agg cs, _, hp, ⟨vs, h1, h2⟩ => ⟨vs, h1, RepAs.plain cs _ (by simpa [AV.plain] using hp) h2⟩
 | .tup cs, _, hp, ⟨vs, h1, h2⟩ => ⟨vs, h1, RepAs.plain cs _ (by simpa [AV.plain] using hp) h2⟩
 | .ptr s _, _, hp, ⟨b, h1, h2⟩ => ⟨b, by simp only [AV.plain] at hp; simp [rhoOf, hp, h1], h2⟩
 | .full _, _, _, h => h
 | .own _ _ _, _, hp, _ => by simp [AV.plain] at hp
 | .mref s, _, hp, ⟨b, h1, h2⟩ => ⟨b, by simp only [AV.plain] at hp; simp [rhoOf, hp, h1], h2⟩
 | .clo _ caps, _, hp, ⟨cs, h1, h2⟩ => ⟨cs, h1, RepAs.plain caps _ (by simpa [AV.plain] using hp) h2⟩
 | .cond _ a, _, hp, ⟨h1, h2⟩ => ⟨fun hg => RepA.plain a _ (by simpa [AV.plain] using hp) (h1 hg), h2⟩
theorem RepAs.plain {m1 : Mem} {mp : TMap} : ∀ (as : List AV) (vs : List Value), AV.plains m1 as = true → RepAs w S ρ as vs → RepAs w S (rhoOf ρ m1 mp) as vs
 | [], _, _, h => h
 | a :: as, _, hp, ⟨v, r, h, h1, h2⟩ => by
  simp only [AV.plains, Bool.and_eq_true] at hp
  exact ⟨v, r, h, RepA.plain a v hp.1 h1, RepAs.plain as r hp.2 h2⟩
end
theorem EntC.sound {m1 : Mem} {mp : TMap} {a a1 : AV} {v : Value} (h : RepA w S ρ a v) (he : EntC m1 mp a a1) : RepA w S (rhoOf ρ m1 mp) a1 v := by
 cases a1 <;> simp only [EntC] at he
 case undef => trivial
 case d x =>
  split at he
  ·subst he; exact h.1
  ·subst he; exact h
 case own t sz es =>
  split at he
  ·rename_i u hu
   subst he
   obtain ⟨h1, h2, base, n, cap, h3, h4⟩ := h
   exact ⟨h1, h2, base, n, cap, by simp [rhoOf, hu, h3], h4⟩
  ·exact he.elim
 all_goals (obtain ⟨rfl, hp⟩ := he; exact RepA.plain _ _ hp h)
theorem EntCs.sound {m1 : Mem} {mp : TMap} : ∀ {as bs : List AV} {l : List Value}, RepAs w S ρ as l → EntCs m1 mp as bs → RepAs w S (rhoOf ρ m1 mp) bs l
 | [], [], _, h, _ => h
 | a :: as, b :: bs, _, ⟨v, r, h, h1, h2⟩, he => ⟨v, r, h, EntC.sound h1 he.1, EntCs.sound h2 he.2⟩
 | [], _ :: _, _, _, he => by simp [EntCs] at he
 | _ :: _, [], _, _, he => by simp [EntCs] at he
theorem EntV.sound {m1 : Mem} {mp : TMap} {a a1 : AV} {v : Value} (h : RepA w S ρ a v) (he : EntV m1 mp a a1) : RepA w S (rhoOf ρ m1 mp) a1 v := by
 unfold EntV at he
 split at he
 ·split at he
  ·obtain ⟨vs, h1, h2⟩ := h
   exact ⟨vs, h1, EntCs.sound h2 he⟩
  ·exact he.elim
 ·exact EntC.sound h he
theorem EntSlots.sound {st : St} {m1 : Mem} {mp : TMap} (h : ∀ k, RepA w S ρ (getS st.slots k) (tmps.getD k undef)) : ∀ {l : List (Nat × AV)}, EntSlots st m1 mp l → ∀ k, RepA w S (rhoOf ρ m1 mp) (getS l k) (tmps.getD k undef)
 | [], _, k => trivial
 | (k', v) :: r, he, k => by
  simp only [getS]
  by_cases hk : k' = k
  ·subst hk; rw [if_pos rfl]; exact EntV.sound (h k') he.1
  ·rw [if_neg hk]; exact EntSlots.sound h he.2 k
theorem EntMem.get {st : St} {m1 : Mem} {mp : TMap} : ∀ {l : Mem}, EntMem st m1 mp l → ∀ s cs1, getM l s = some cs1 → ∃ cs, getM st.mem s = some cs ∧ EntCs m1 mp cs cs1
 | [], _, s, cs1, h => by simp [getM] at h
 | (k, cs') :: r, he, s, cs1, h => by
  simp only [getM] at h
  by_cases hk : k = s
  ·subst hk
   rw [if_pos rfl] at h
   cases h
   have := he.1
   split at this
   ·rename_i cs hcs; exact ⟨cs, hcs, this⟩
   ·exact this.elim
  ·rw [if_neg hk] at h; exact EntMem.get he.2 s cs1 h
theorem EntCs.mp {m1 : Mem} {tm : TMap} {cs : List AV} {k e : Nat} {kvs : List (D × MV)} (h : EntCs m1 tm cs [.mp k e kvs]) : cs = [.mp k e kvs] := by
 cases cs with
 | nil => exact h.elim
 | cons a as =>
  cases as with
  | nil => rw [h.1.1]
  | cons _ _ => exact h.2.elim
theorem EntCs.noMp {m1 : Mem} {tm : TMap} {cs cs1 : List AV} (h : EntCs m1 tm cs cs1) (h1 : isMp cs1 = false) : isMp cs = false := by
 cases hm : isMp cs with
 | false => rfl
 | true =>
  obtain ⟨k, e, kvs, rfl⟩ := isMp_iff.1 hm
  cases cs1 with
  | nil => exact h.elim
  | cons b bs =>
   cases bs with
   | cons _ _ => exact h.2.elim
   | nil =>
    have h0 := h.1
    cases b <;> simp [EntC, AV.isMp] at h0
    ·split at h0 <;> cases h0
    ·simp [isMp, AV.isMp] at h1
theorem Ent0.sound {mp : TMap} {st1 : St} (h : Sim c st tmps w S ρ) (he : Ent0 mp st st1) : Sim c st1 tmps w S (rhoOf ρ st1.mem mp) := by
 obtain ⟨h1, h2, h3, h4⟩ := he
 obtain ⟨m1, m2⟩ := mpOk_get h2
 refine { size := h.size, slots := EntSlots.sound h.slots h3, mem := ?_, inj := ?_, boxNew := ?_, mps := ?_, tok := ?_, tokNew := ?_, below := h.below, old := h.old, new := h.new, live := h.live, glob := h.glob, fx := h.fx, ex := h.ex, obs := h.obs, keeps := h.keeps, pins := h.pins.sub (fun s b e => by
  simp only [rhoOf] at e
  split at e
  ·exact .inr e
  ·cases e) (fun s b e => by
  simp only [rhoOf] at e
  split at e
  ·exact .inr e
  ·cases e) }
 ·intro s cs1 hs hnm
  obtain ⟨cs, hcs, hec⟩ := EntMem.get h4 s cs1 hs
  obtain ⟨b, vs, e, g1, g2, g3, g4, g6⟩ := h.mem s cs hcs (EntCs.noMp hec hnm)
  exact ⟨b, vs, e, by simp [rhoOf, hs, g1], g2, g3, EntCs.sound g4 hec, g6⟩
 ·intro s s' b hs hs'
  simp only [rhoOf] at hs hs'
  split at hs
  ·split at hs'
   ·exact h.inj s s' b hs hs'
   ·cases hs'
  ·cases hs
 ·intro s hs
  simp [rhoOf, hs]
 ·refine { at' := fun s k e kvs hs => ?_, inj := fun s s' b hs hs' => ?_, new := fun s hs => by simp [rhoOf, hs], lt := fun s b hs => ?_, apart := fun s b hs => ?_ }
  ·obtain ⟨cs, hcs, hec⟩ := EntMem.get h4 s _ hs
   have := EntCs.mp hec
   subst this
   obtain ⟨b, g1, g2, g3⟩ := h.mps.at' s k e kvs hcs
   exact ⟨b, by simp [rhoOf, hs, g1], by simp [rhoOf, hs, g2], g3⟩
  ·simp only [rhoOf] at hs hs'
   split at hs
   ·split at hs'
    ·exact h.mps.inj s s' b hs hs'
    ·cases hs'
   ·cases hs
  ·simp only [rhoOf] at hs
   split at hs
   ·exact h.mps.lt s b hs
   ·cases hs
  ·simp only [rhoOf] at hs ⊢
   split at hs
   ·rename_i hi; rw [if_pos hi]; exact h.mps.apart s b hs
   ·cases hs
 ·intro t ht
  rw [h1, getT_tkOf] at ht
  cases hu : getTM mp t with
  | none => simp [hu] at ht
  | some u =>
   obtain ⟨x, g1, g2⟩ := h.tok u (m1 t u hu).1
   refine ⟨x, by simp [rhoOf, hu, g1], ?_⟩
   rcases g2 with g2 | ⟨b, k0, k1, k2, k3, k4, k5, k6, k7⟩
   ·exact .inl g2
   ·refine .inr ⟨b, k0, k1, k2, k3, k4, k5, fun s hs => ?_, fun t' b' y hne ht' htok hy => ?_⟩
    ·simp only [rhoOf] at hs
     split at hs
     ·exact k6 s hs
     ·cases hs
    ·rw [h1, getT_tkOf] at ht'
     cases hu' : getTM mp t' with
     | none => simp [hu'] at ht'
     | some u' =>
      simp only [rhoOf, hu', Option.bind_some] at htok
      exact k7 u' b' y (fun e => hne (m2 t' t u' hu' (e ▸ hu))) (m1 t' u' hu').1 htok hy
 ·intro t ht
  rw [h1, getT_tkOf] at ht
  cases hu : getTM mp t with
  | none => simp [rhoOf, hu]
  | some u => simp [hu] at ht
theorem Ent.sound {st1 : St} (h : Sim c st tmps w S ρ) (he : Ent st st1) : ∃ ρ1, Sim c st1 tmps w S ρ1 := by
 obtain ⟨ps, mp, st', h1, h2⟩ := he
 obtain ⟨ρ1, hs⟩ := convs_sound h h1
 exact ⟨_, Ent0.sound hs h2⟩
end Go.Abs
end
section
namespace Go.Abs
open Go.RowKit
variable {E : AEnv} {st : St}
structure Eff where
 slot : Option (Nat × AV)
 mem : Option (Nat × List AV)
 tk : Option (Nat × Option Nat)
 more : Mem × List (Nat × Bool)
def tkApp (tk : List (Nat × Bool)) : Option (Nat × Option Nat) → List (Nat × Bool)
 | none => tk
 | some (d, none) => (d, true) :: tk
 | some (d, some u) => (d, true) :: tkKill u tk
def Eff.app (e : Eff) (st : St) : St := { slots := e.slot.toList ++ st.slots, mem := e.mem.toList ++ (e.more.1 ++ st.mem), tk := e.more.2 ++ tkApp st.tk e.tk }
def wrapG (g : Option Bool) (v : AV) : AV := match g with
 | none => v
 | some b => .cond b v
theorem argOwn_congr {tk tk1 : List (Nat × Bool)} (h : ∀ t, getT tk t = getT tk1 t) {as : List AV} {sz : Nat} {a : Option Nat} (ho : argOwn tk as sz a) : argOwn tk1 as sz a := by
 cases a with
 | none => trivial
 | some k =>
  simp only [argOwn] at ho ⊢
  split at ho
  ·rename_i u sz' es hk; exact ⟨ho.1, h u ▸ ho.2⟩
  ·exact ho
  ·exact ho.elim
def callE (g : Option Bool) (d : Option Nat) (tk : List (Nat × Bool)) (as : List AV) (e' : Eff) : CV → Prop
 | .own a sz es => ∃ d', d = some d' ∧ (g = none ∧ getT tk d' = none ∧ argOwn tk as sz a) ∧ e' = ⟨some (d', .own d' sz es), none, some (d', ownTok as a), ([], [])⟩
 | .one x => e' = ⟨d.map fun d => (d, wrapG g (.d x)), none, none, ([], [])⟩
 | .agg x => e' = ⟨d.map fun d => (d, wrapG g (.agg (x.map .d))), none, none, ([], [])⟩
 | .bx _ _ _ _ _ _ => False
 | .tup x => e' = ⟨d.map fun d => (d, wrapG g (.tup (CV.toAV0s x))), none, none, ([], [])⟩
theorem callE_congr {g : Option Bool} {d : Option Nat} {tk tk1 : List (Nat × Bool)} (h : ∀ t, getT tk t = getT tk1 t) {as : List AV} {e' : Eff} {r : CV} (he : callE g d tk as e' r) : callE g d tk1 as e' r := by
 cases r with
 | own a sz es =>
  obtain ⟨d', h1, ⟨h2, h3, h4⟩, h5⟩ := he
  exact ⟨d', h1, ⟨h2, h d' ▸ h3, argOwn_congr h h4⟩, h5⟩
 | one x => exact he
 | agg x => exact he
 | tup x => exact he
 | bx => exact he
def ER (E : AEnv) (gi : Option (Nat × Bool)) (o : I) (st : St) (e' : Eff) : Prop := ∃ g, guardOf st gi = some g ∧ match o with
 | .alloc s zs => g = none ∧ getM st.mem s = none ∧ e' = ⟨some (s, .ptr s 0), some (s, zs), none, ([], [])⟩
 | .box s x => (g = none ∧ gd st x = true ∧ (ev st x).solid = true ∧ getM st.mem s = none) ∧ e' = ⟨some (s, .ptr s 0), some (s, (ev st x).cells), none, ([], [])⟩
 | .st n a x => ∃ s off cs, ev st a = .ptr s off ∧ getM st.mem s = some cs ∧ (g = none ∧ gd st a = true ∧ gd st x = true ∧ (ev st x).solid = true ∧ cells1 (ev st x).cells = true ∧ (ev st x).cells.length = n ∧ off + n ≤ cs.length) ∧
   e' = ⟨none, some (s, cs.take off ++ (ev st x).cells ++ cs.drop (off + n)), none, ([], [])⟩
 | .mkm s k e => g = none ∧ getM st.mem s = none ∧ e' = ⟨some (s, .mref s), some (s, [.mp k e []]), none, ([], [])⟩
 | .mput k e kz x key v => ∃ s kd vd k' q' kvs, ev st x = .mref s ∧ ev st key = .d kd ∧ (ev st v).toMV = some vd ∧ getM st.mem s = some [.mp k' q' kvs] ∧ (g = none ∧ gd st x = true ∧ gd st key = true ∧ gd st v = true ∧ k' = k ∧ q' = e ∧ likeD kz kd = true ∧ plainD kd ∧ kvs.length < 9223372036854775807) ∧
   e' = ⟨none, some (s, [.mp k e ((kd, vd) :: kvs)]), none, ([], [])⟩
 | .mclr x => ∃ s k e kvs, ev st x = .mref s ∧ getM st.mem s = some [.mp k e kvs] ∧ (g = none ∧ gd st x = true) ∧ e' = ⟨none, some (s, [.mp k e []]), none, ([], [])⟩
 | .app d esz eb x y => (g = some false ∧ e' = ⟨some (d, wrapG (some false) (.d (.lst []))), none, none, ([], [])⟩) ∨ g ≠ some false ∧ ∃ ys, (ev st y).elems = some ys ∧
   ((∃ es, ev st x = .full es ∧ (onB g = true ∧ getT st.tk d = none ∧ gd st x = true ∧ gd st y = true ∧ (∀ e ∈ es, e.length = esz) ∧ (∀ e ∈ ys, e.length = esz) ∧ (es.length + ys.length) * eb ≤ 2 ^ 46 ∧ es.length + ys.length ≤ 9223372036854775807) ∧
       e' = ⟨some (d, .own d esz (es ++ ys)), none, some (d, none), ([], [])⟩) ∨
    (∃ u sz es, ev st x = .own u sz es ∧ (onB g = true ∧ getT st.tk d = none ∧ getT st.tk u = some true ∧ sz = esz ∧ gd st x = true ∧ gd st y = true ∧ (∀ e ∈ ys, e.length = esz) ∧ (es.length + ys.length) * eb ≤ 2 ^ 46 ∧ es.length + ys.length ≤ 9223372036854775807) ∧
       e' = ⟨some (d, .own d esz (es ++ ys)), none, some (d, some u), ([], [])⟩))
 | .len d str x => ∃ n, lenOf str (ev st x) = some n ∧ onG g (gd st x = true) ∧ e' = ⟨some (d, wrapG g (.d (.int .i64 n))), none, none, ([], [])⟩
 | .call d f' args => ∃ f caps cvs r, ev st f' = .d (.clo f caps) ∧ toCVs [] 1 (evs st args) = some cvs ∧ onG g (gd st f' = true ∧ gds st args = true ∧ E.C f (cvs ++ caps.map .one) r) ∧ callE g d st.tk (evs st args) e' r
 | .callB d f' args => ∃ f caps x, ev st f' = .d (.clo f caps) ∧ (g = none ∧ gd st f' = true ∧ gds st args = true ∧ caps = [] ∧ x.r.isOwn = false ∧ okB st (evs st args) x ∧ E.C f [] (.bx x.as0 x.m0 (tkOf x.τ) x.r x.m1 (tkOf x.τ1))) ∧ e' = ⟨d.map fun d => (d, x.r.toAV0), none, none, (renMem x.σ x.τ1 x.m1, newAll x.τ1 ++ killAll x.τ)⟩
 | o => ∃ v ob gs, opv E.G st o = some (v, ob, gs) ∧ onG g (gs = true ∧ ob) ∧ e' = ⟨some (dstOf o, wrapG g v), none, none, ([], [])⟩
theorem put_app (g : Option Bool) (d : Nat) (v : AV) : st.put g d v = Eff.app ⟨some (d, wrapG g v), none, none, ([], [])⟩ st := by
 cases g <;> rfl
theorem afterB_app (d : Option Nat) (x : BArgs) : afterB st d x = Eff.app ⟨d.map fun d => (d, x.r.toAV0), none, none, (renMem x.σ x.τ1 x.m1, newAll x.τ1 ++ killAll x.τ)⟩ st := by
 cases d <;> simp [afterB, Eff.app, tkApp, List.append_assoc]
theorem MatchMem_congr {st st1 : St} (h : ∀ s, getM st.mem s = getM st1.mem s) {τ σ0 : TMap} : ∀ {σ : TMap} {m : Mem}, MatchMem st τ σ0 σ m → MatchMem st1 τ σ0 σ m
 | [], [], _ => trivial
 | (s, s') :: σ, (s0, cs0) :: m, hm => by
  obtain ⟨⟨h1, h2, h3⟩, h4⟩ := hm
  exact ⟨⟨h1, h2, by rw [← h s']; exact h3⟩, MatchMem_congr h h4⟩
 | [], _ :: _, hm => hm.elim
 | _ :: _, [], hm => hm.elim
theorem mpOk_congr {st st1 : St} (h : ∀ t, getT st.tk t = getT st1.tk t) : ∀ {τ : TMap} {us : List Nat}, mpOk st τ us → mpOk st1 τ us
 | [], _, _ => trivial
 | (_, u) :: r, us, ⟨⟨h1, h2⟩, h3⟩ => ⟨⟨h1, by rw [← h u]; exact h2⟩, mpOk_congr h h3⟩
theorem fresh_congr {tk tk1 : List (Nat × Bool)} (h : ∀ t, getT tk t = getT tk1 t) : ∀ {τ : TMap}, fresh1 tk τ → fresh1 tk1 τ
 | [], _ => trivial
 | (_, u) :: r, ⟨h1, h2⟩ => ⟨by rw [← h u]; exact h1, fresh_congr h h2⟩
theorem okB_congr {st st1 : St} (hm : ∀ s, getM st.mem s = getM st1.mem s) (ht : ∀ t, getT st.tk t = getT st1.tk t) {as : List AV} {x : BArgs} (h : okB st as x) : okB st1 as x := by
 obtain ⟨h1, h2, h3, h4, h5, h6, h7, h8, h9, h10, h11, h12⟩ := h
 exact ⟨h1, MatchMem_congr hm h2, mpOk_congr ht h3, h4, h5, h6, h7, h8, h9, fresh_congr ht h10, h11, h12⟩
theorem callK_iff {g : Option Bool} {d : Option Nat} {K : St → Prop} {as : List AV} {r : CV} : callK g d K st as r ↔ ∃ e, callE g d st.tk as e r ∧ K (e.app st) := by
 cases r with
 | own a sz es =>
  constructor
  ·intro h
   cases d with
   | none => exact h.elim
   | some d =>
    refine ⟨_, ⟨d, rfl, h.1, rfl⟩, ?_⟩
    have h2 := h.2
    cases hu : ownTok as a <;> rw [hu] at h2 <;> exact h2
  ·rintro ⟨e, ⟨d', rfl, h1, rfl⟩, h2⟩
   refine ⟨h1, ?_⟩
   cases hu : ownTok as a <;> rw [hu] at h2 <;> exact h2
 | one x =>
  constructor
  ·intro h
   refine ⟨_, rfl, ?_⟩
   cases d with
   | none => exact h
   | some d => simp only [Option.map_some]; rw [← put_app]; exact h
  ·rintro ⟨e, rfl, h⟩
   cases d with
   | none => exact h
   | some d => simp only [Option.map_some] at h; rw [← put_app] at h; exact h
 | agg x =>
  constructor
  ·intro h
   refine ⟨_, rfl, ?_⟩
   cases d with
   | none => exact h
   | some d => simp only [Option.map_some]; rw [← put_app]; exact h
  ·rintro ⟨e, rfl, h⟩
   cases d with
   | none => exact h
   | some d => simp only [Option.map_some] at h; rw [← put_app] at h; exact h
 | tup x =>
  constructor
  ·intro h
   refine ⟨_, rfl, ?_⟩
   cases d with
   | none => exact h
   | some d => simp only [Option.map_some]; rw [← put_app]; exact h
  ·rintro ⟨e, rfl, h⟩
   cases d with
   | none => exact h
   | some d => simp only [Option.map_some] at h; rw [← put_app] at h; exact h
 | bx => exact ⟨fun h => h.elim, fun ⟨_, h, _⟩ => h.elim⟩
theorem aopN_iff {gi : Option (Nat × Bool)} {o : I} {K : St → Prop} : aopN E gi o st K ↔ ∃ e, ER E gi o st e ∧ K (e.app st) := by
 unfold aopN ER
 constructor
 ·intro h
  split at h
  ·exact h.elim
  ·rename_i g hg
   cases o <;> simp only [aopG] at h
   case alloc => exact ⟨_, ⟨g, hg, h.1.1, h.1.2, rfl⟩, h.2⟩
   case box => exact ⟨_, ⟨g, hg, h.1, rfl⟩, h.2⟩
   case st =>
    split at h <;> try exact h.elim
    split at h <;> try exact h.elim
    exact ⟨_, ⟨g, hg, _, _, _, ‹_›, ‹_›, h.1, rfl⟩, h.2⟩
   case app =>
    by_cases hg0 : g = some false
    ·subst hg0
     exact ⟨_, ⟨_, hg, .inl ⟨rfl, rfl⟩⟩, by rw [← put_app]; exact h⟩
    ·rw [appG_ne hg0] at h
     split at h <;> try exact h.elim
     split at h <;> try exact h.elim
     ·exact ⟨_, ⟨g, hg, .inr ⟨hg0, _, ‹_›, .inl ⟨_, ‹_›, h.1, rfl⟩⟩⟩, h.2⟩
     ·exact ⟨_, ⟨g, hg, .inr ⟨hg0, _, ‹_›, .inr ⟨_, _, _, ‹_›, h.1, rfl⟩⟩⟩, h.2⟩
   case mkm => exact ⟨_, ⟨g, hg, h.1.1, h.1.2, rfl⟩, h.2⟩
   case mput k e kz x key v =>
    split at h <;> try exact h.elim
    split at h <;> try exact h.elim
    exact ⟨_, ⟨g, hg, _, _, _, _, _, _, ‹_›, ‹_›, ‹_›, ‹_›, h.1, rfl⟩, h.2⟩
   case mclr =>
    split at h <;> try exact h.elim
    split at h <;> try exact h.elim
    exact ⟨_, ⟨g, hg, _, _, _, _, ‹_›, ‹_›, h.1, rfl⟩, h.2⟩
   case len =>
    split at h <;> try exact h.elim
    exact ⟨_, ⟨g, hg, _, ‹_›, h.1, rfl⟩, by rw [← put_app]; exact h.2⟩
   case call d f args =>
    split at h <;> try exact h.elim
    split at h <;> try exact h.elim
    obtain ⟨r, h1, h2⟩ := h
    obtain ⟨e, h3, h4⟩ := callK_iff.1 h2
    exact ⟨e, ⟨g, hg, _, _, _, r, ‹_›, ‹_›, h1, h3⟩, h4⟩
   case callB d f args =>
    split at h <;> try exact h.elim
    obtain ⟨x, h1, h2⟩ := h
    exact ⟨_, ⟨g, hg, _, _, x, ‹_›, h1, rfl⟩, by rw [← afterB_app]; exact h2⟩
   case mv => simp only [opv] at h ⊢; exact ⟨_, ⟨g, hg, _, _, _, rfl, h.1, rfl⟩, by rw [← put_app]; exact h.2⟩
   case mkf => simp only [opv] at h ⊢; exact ⟨_, ⟨g, hg, _, _, _, rfl, h.1, rfl⟩, by rw [← put_app]; exact h.2⟩
   all_goals
    split at h
    ·exact ⟨_, ⟨g, hg, _, _, _, ‹_›, h.1, rfl⟩, by rw [← put_app]; exact h.2⟩
    ·exact h.elim
 ·rintro ⟨e, ⟨g, hg, he⟩, hK⟩
  simp only [hg]
  cases o <;> simp only [aopG] at he ⊢
  case alloc => obtain ⟨h1, h2, rfl⟩ := he; exact ⟨⟨h1, h2⟩, hK⟩
  case box => obtain ⟨h1, rfl⟩ := he; exact ⟨h1, hK⟩
  case st => obtain ⟨s, off, cs, h1, h2, h3, rfl⟩ := he; simp only [h1, h2]; exact ⟨h3, hK⟩
  case app =>
   obtain ⟨rfl, rfl⟩ | ⟨hg0, ys, h1, ⟨es, h2, h3, rfl⟩ | ⟨u, sz, es, h2, h3, rfl⟩⟩ := he
   ·show K _; rw [put_app]; exact hK
   ·rw [appG_ne hg0]; simp only [h1, h2]; exact ⟨h3, hK⟩
   ·rw [appG_ne hg0]; simp only [h1, h2]; exact ⟨h3, hK⟩
  case mkm => obtain ⟨h1, h2, rfl⟩ := he; exact ⟨⟨h1, h2⟩, hK⟩
  case mput => obtain ⟨s, kd, vd, k', q', kvs, h1, h2, h3, h4, h5, rfl⟩ := he; simp only [h1, h2, h3, h4]; exact ⟨h5, hK⟩
  case mclr => obtain ⟨s, k, e, kvs, h1, h2, h3, rfl⟩ := he; simp only [h1, h2]; exact ⟨h3, hK⟩
  case len => obtain ⟨n, h1, h2, rfl⟩ := he; simp only [h1]; exact ⟨h2, by rw [put_app]; exact hK⟩
  case call d f args =>
   obtain ⟨f', caps, cvs, r, h1, h2, h3, h4⟩ := he
   simp only [h1, h2]
   exact ⟨r, h3, callK_iff.2 ⟨e, h4, hK⟩⟩
  case callB d f args =>
   obtain ⟨f', caps, x, h1, h2, rfl⟩ := he
   simp only [h1]
   exact ⟨x, h2, by rw [afterB_app]; exact hK⟩
  case mv => obtain ⟨v, ob, gs, h1, h2, rfl⟩ := he; simp only [opv, Option.some.injEq, Prod.mk.injEq] at h1 ⊢; obtain ⟨rfl, rfl, rfl⟩ := h1; exact ⟨h2, by rw [put_app]; exact hK⟩
  case mkf => obtain ⟨v, ob, gs, h1, h2, rfl⟩ := he; simp only [opv, Option.some.injEq, Prod.mk.injEq] at h1 ⊢; obtain ⟨rfl, rfl, rfl⟩ := h1; exact ⟨h2, by rw [put_app]; exact hK⟩
  case isnil d x => obtain ⟨v, ob, gs, h1, h2, rfl⟩ := he; simp only [opv] at h1; cases h1
  all_goals (obtain ⟨v, ob, gs, h1, h2, rfl⟩ := he; simp only [h1]; exact ⟨h2, by rw [put_app]; exact hK⟩)
theorem ev0_congr {st st1 : St} {x : X} (h : ∀ k ∈ x.rds, getS st.slots k = getS st1.slots k) : ev0 st x = ev0 st1 x := by
 cases x with
 | t n => exact h n (by simp [X.rds])
 | c v => rfl
theorem ev_congr {st st1 : St} {x : X} (h : ∀ k ∈ x.rds, getS st.slots k = getS st1.slots k) : ev st x = ev st1 x := by simp [ev, ev0_congr h]
theorem gd_congr {st st1 : St} {x : X} (h : ∀ k ∈ x.rds, getS st.slots k = getS st1.slots k) : gd st x = gd st1 x := by simp [gd, ev0_congr h]
theorem evs_congr {st st1 : St} : ∀ {xs : List X}, (∀ k ∈ xs.flatMap X.rds, getS st.slots k = getS st1.slots k) → evs st xs = evs st1 xs ∧ gds st xs = gds st1 xs
 | [], _ => ⟨rfl, rfl⟩
 | x :: xs, h => by
  have h1 : ∀ k ∈ x.rds, getS st.slots k = getS st1.slots k := fun k hk => h k (by simp [hk])
  obtain ⟨h2, h3⟩ := evs_congr (xs := xs) fun k hk => h k (by simp only [List.flatMap_cons, List.mem_append]; exact .inr hk)
  exact ⟨by simp [evs, ev_congr h1, h2], by simp [gds, gd_congr h1, h3]⟩
theorem evParts_congr {st st1 : St} : ∀ {ps : List (Nat × Nat × X)}, (∀ k ∈ ps.flatMap (fun p => p.2.2.rds), getS st.slots k = getS st1.slots k) → evParts st ps = evParts st1 ps ∧ gdParts st ps = gdParts st1 ps
 | [], _ => ⟨rfl, rfl⟩
 | (a, b, x) :: ps, h => by
  have h1 : ∀ k ∈ x.rds, getS st.slots k = getS st1.slots k := fun k hk => h k (by simp [hk])
  obtain ⟨h2, h3⟩ := evParts_congr (ps := ps) fun k hk => h k (by simp only [List.flatMap_cons, List.mem_append]; exact .inr hk)
  exact ⟨by simp [evParts, ev_congr h1, h2], by simp [gdParts, gd_congr h1, h3]⟩
theorem guardOf_congr {st st1 : St} {gi : Option (Nat × Bool)} (h : ∀ k ∈ gRds gi, getS st.slots k = getS st1.slots k) : guardOf st gi = guardOf st1 gi := by
 cases gi with
 | none => rfl
 | some p => obtain ⟨s, b⟩ := p; simp only [guardOf, h s (by simp [gRds])]
theorem opv_congr {G : Nat → Option (List D)} {st st1 : St} {o : I} (h : ∀ k ∈ rdsOf o, getS st.slots k = getS st1.slots k) (hm : kindOf o = .reads → ∀ s, getM st.mem s = getM st1.mem s) : opv G st o = opv G st1 o := by
 have two : ∀ x y : X, (∀ k ∈ x.rds ++ y.rds, getS st.slots k = getS st1.slots k) → (ev st x = ev st1 x ∧ gd st x = gd st1 x) ∧ (ev st y = ev st1 y ∧ gd st y = gd st1 y) := fun x y hxy =>
  ⟨⟨ev_congr fun k hk => hxy k (by simp [hk]), gd_congr fun k hk => hxy k (by simp [hk])⟩, ⟨ev_congr fun k hk => hxy k (by simp [hk]), gd_congr fun k hk => hxy k (by simp [hk])⟩⟩
 cases o <;> simp only [rdsOf] at h <;> simp only [opv]
 case mv => rw [ev_congr h, gd_congr h]
 case and d x y => obtain ⟨⟨a, b⟩, a', b'⟩ := two _ _ h; rw [a, b, a', b']
 case or d x y => obtain ⟨⟨a, b⟩, a', b'⟩ := two _ _ h; rw [a, b, a', b']
 case bin d op x y => obtain ⟨⟨a, b⟩, a', b'⟩ := two _ _ h; rw [a, b, a', b']
 case not => rw [ev_congr h, gd_congr h]
 case nck => rw [ev_congr h, gd_congr h]
 case build => obtain ⟨a, b⟩ := evParts_congr h; rw [a, b]
 case bsl => obtain ⟨a, b⟩ := evs_congr h; rw [a, b]
 case fa => rw [ev_congr h, gd_congr h]
 case ld =>
  have : ∀ s o n, rdMem st s o n = rdMem st1 s o n := fun s o n => by simp only [rdMem, hm rfl s]
  simp only [ev_congr h, gd_congr h, this]
 case idx d esz x y => obtain ⟨⟨a, b⟩, a', b'⟩ := two _ _ h; rw [a, b, a', b']
 case ext => rw [ev_congr h, gd_congr h]
 case mkf => obtain ⟨a, b⟩ := evs_congr h; rw [a, b]
 case max d x y => obtain ⟨⟨a, b⟩, a', b'⟩ := two _ _ h; rw [a, b, a', b']
 case min d x y => obtain ⟨⟨a, b⟩, a', b'⟩ := two _ _ h; rw [a, b, a', b']
 case beq d ne x y => obtain ⟨⟨a, b⟩, a', b'⟩ := two _ _ h; rw [a, b, a', b']
 case sidx d x y => obtain ⟨⟨a, b⟩, a', b'⟩ := two _ _ h; rw [a, b, a', b']
 case aidx d n x y => obtain ⟨⟨a, b⟩, a', b'⟩ := two _ _ h; rw [a, b, a', b']
 case fld => rw [ev_congr h, gd_congr h]
 case aeq d ne zs x y => obtain ⟨⟨a, b⟩, a', b'⟩ := two _ _ h; rw [a, b, a', b']
 case sfrom d x y => obtain ⟨⟨a, b⟩, a', b'⟩ := two _ _ h; rw [a, b, a', b']
 case lfrom d e x y => obtain ⟨⟨a, b⟩, a', b'⟩ := two _ _ h; rw [a, b, a', b']
 case mget d ok k e kz z x y =>
  obtain ⟨⟨a, b⟩, a', b'⟩ := two _ _ h
  simp only [a, b, a', b', hm rfl]
 case lto d e x y z =>
  obtain ⟨⟨a, b⟩, a', b'⟩ := two x y (fun k hk => h k (by simp only [List.mem_append] at hk ⊢; rcases hk with hk | hk <;> simp [hk]))
  obtain ⟨⟨a2, b2⟩, _⟩ := two z z (fun k hk => h k (by simp only [List.mem_append] at hk ⊢; rcases hk with hk | hk <;> simp [hk]))
  rw [a, b, a', b', a2, b2]
 case sto d x y z =>
  obtain ⟨⟨a, b⟩, a', b'⟩ := two x y (fun k hk => h k (by simp only [List.mem_append] at hk ⊢; rcases hk with hk | hk <;> simp [hk]))
  obtain ⟨⟨a2, b2⟩, _⟩ := two z z (fun k hk => h k (by simp only [List.mem_append] at hk ⊢; rcases hk with hk | hk <;> simp [hk]))
  rw [a, b, a', b', a2, b2]
structure Agree (gi : Option (Nat × Bool)) (o : I) (st st1 : St) : Prop where
 slots : ∀ k ∈ gRds gi ++ rdsOf o, getS st.slots k = getS st1.slots k
 mem : kindOf o = .reads ∨ kindOf o = .writes ∨ kindOf o = .all → ∀ s, getM st.mem s = getM st1.mem s
 tk : kindOf o = .tokens ∨ kindOf o = .all → ∀ t, getT st.tk t = getT st1.tk t
theorem ER_congr {gi : Option (Nat × Bool)} {o : I} {st st1 : St} (h : Agree gi o st st1) {e : Eff} (he : ER E gi o st e) : ER E gi o st1 e := by
 obtain ⟨g, hg, he⟩ := he
 have hr : ∀ k ∈ rdsOf o, getS st.slots k = getS st1.slots k := fun k hk => h.slots k (by simp [hk])
 refine ⟨g, by rw [← guardOf_congr fun k hk => h.slots k (by simp [hk])]; exact hg, ?_⟩
 have two : ∀ x y : X, (∀ k ∈ x.rds ++ y.rds, getS st.slots k = getS st1.slots k) → (ev st x = ev st1 x ∧ gd st x = gd st1 x) ∧ (ev st y = ev st1 y ∧ gd st y = gd st1 y) := fun x y hxy =>
  ⟨⟨ev_congr fun k hk => hxy k (by simp [hk]), gd_congr fun k hk => hxy k (by simp [hk])⟩, ⟨ev_congr fun k hk => hxy k (by simp [hk]), gd_congr fun k hk => hxy k (by simp [hk])⟩⟩
 cases o
 case alloc => simp only [← h.mem (.inr (.inl rfl))] at *; exact he
 case box s x => simp only [rdsOf] at hr; simp only [← h.mem (.inr (.inl rfl)), ← ev_congr hr, ← gd_congr hr] at *; exact he
 case st n a x => simp only [rdsOf] at hr; obtain ⟨⟨a1, b1⟩, a2, b2⟩ := two _ _ hr; simp only [← h.mem (.inr (.inl rfl)), ← a1, ← b1, ← a2, ← b2] at *; exact he
 case mkm => simp only [← h.mem (.inr (.inl rfl))] at *; exact he
 case mclr x => simp only [rdsOf] at hr; simp only [← h.mem (.inr (.inl rfl)), ← ev_congr hr, ← gd_congr hr] at *; exact he
 case mput k e kz x y z =>
  simp only [rdsOf] at hr
  obtain ⟨⟨a1, b1⟩, a2, b2⟩ := two x y (fun k hk => hr k (by simp only [List.mem_append] at hk ⊢; rcases hk with hk | hk <;> simp [hk]))
  obtain ⟨⟨a3, b3⟩, _⟩ := two z z (fun k hk => hr k (by simp only [List.mem_append] at hk ⊢; rcases hk with hk | hk <;> simp [hk]))
  simp only [← h.mem (.inr (.inl rfl)), ← a1, ← b1, ← a2, ← b2, ← a3, ← b3] at *; exact he
 case app d esz eb x y => simp only [rdsOf] at hr; obtain ⟨⟨a1, b1⟩, a2, b2⟩ := two _ _ hr; simp only [← h.tk (.inl rfl), ← a1, ← b1, ← a2, ← b2] at *; exact he
 case len d str x => simp only [rdsOf] at hr; simp only [← ev_congr hr, ← gd_congr hr] at *; exact he
 case call d f args =>
  simp only [rdsOf] at hr
  have h1 : ∀ k ∈ f.rds, getS st.slots k = getS st1.slots k := fun k hk => hr k (by simp [hk])
  obtain ⟨h2, h3⟩ := evs_congr (xs := args) fun k hk => hr k (List.mem_append.2 (.inr hk))
  simp only [← ev_congr h1, ← gd_congr h1, ← h2, ← h3] at *
  obtain ⟨f', caps, cvs, r, k1, k2, k3, k4⟩ := he
  exact ⟨f', caps, cvs, r, k1, k2, k3, callE_congr (h.tk (.inl rfl)) k4⟩
 case callB d f args =>
  simp only [rdsOf] at hr
  have h1 : ∀ k ∈ f.rds, getS st.slots k = getS st1.slots k := fun k hk => hr k (by simp [hk])
  obtain ⟨h2, h3⟩ := evs_congr (xs := args) fun k hk => hr k (List.mem_append.2 (.inr hk))
  simp only [← ev_congr h1, ← gd_congr h1, ← h2, ← h3] at *
  obtain ⟨f', caps, x, k1, ⟨k2, k3, k4, k5, k6, k7, k8⟩, k9⟩ := he
  exact ⟨f', caps, x, k1, ⟨k2, k3, k4, k5, k6, okB_congr (h.mem (.inr (.inr rfl))) (h.tk (.inr rfl)) k7, k8⟩, k9⟩
 all_goals
  simp only at he ⊢
  rw [← opv_congr hr (fun hk => h.mem (.inl hk))]
  exact he
theorem ER_shape {gi : Option (Nat × Bool)} {o : I} {st : St} {e : Eff} (he : ER E gi o st e) : (e.slot.map (·.1) = wrOf o) ∧ (e.mem ≠ none → kindOf o = .writes) ∧ (e.tk ≠ none → kindOf o = .tokens) ∧ (e.more ≠ ([], []) → kindOf o = .all) := by
 obtain ⟨g, hg, he⟩ := he
 cases o <;> simp only [wrOf, kindOf, dstOf] at he ⊢
 case alloc => obtain ⟨_, _, rfl⟩ := he; simp
 case box => obtain ⟨_, rfl⟩ := he; simp
 case st => obtain ⟨_, _, _, _, _, _, rfl⟩ := he; simp
 case mkm => obtain ⟨_, _, rfl⟩ := he; simp
 case mput => obtain ⟨_, _, _, _, _, _, _, _, _, _, _, rfl⟩ := he; simp
 case mclr => obtain ⟨_, _, _, _, _, _, _, rfl⟩ := he; simp
 case app => obtain ⟨_, rfl⟩ | ⟨_, _, _, ⟨_, _, _, rfl⟩ | ⟨_, _, _, _, _, rfl⟩⟩ := he <;> simp
 case len => obtain ⟨_, _, _, rfl⟩ := he; simp
 case call d f args =>
  obtain ⟨_, _, _, r, _, _, _, he⟩ := he
  cases r with
  | own a sz es => obtain ⟨d', rfl, _, rfl⟩ := he; simp
  | one x => cases he; cases d <;> simp
  | agg x => cases he; cases d <;> simp
  | tup x => cases he; cases d <;> simp
  | bx => exact he.elim
 case callB d f args => obtain ⟨_, _, x, _, _, rfl⟩ := he; cases d <;> simp
 all_goals (obtain ⟨_, _, _, _, _, rfl⟩ := he; simp)
structure StEq (s s1 : St) : Prop where
 slots : ∀ k, getS s.slots k = getS s1.slots k
 mem : ∀ k, getM s.mem k = getM s1.mem k
 tk : ∀ k, getT s.tk k = getT s1.tk k
theorem getS_app (o : Option (Nat × AV)) (l : List (Nat × AV)) (k : Nat) : getS (o.toList ++ l) k = match o with | some (d, v) => if d = k then v else getS l k | none => getS l k := by
 cases o with
 | none => rfl
 | some p => rfl
theorem getM_app (o : Option (Nat × List AV)) (l : Mem) (k : Nat) : getM (o.toList ++ l) k = match o with | some (d, v) => if d = k then some v else getM l k | none => getM l k := by
 cases o with
 | none => rfl
 | some p => rfl
theorem getT_tkApp_congr {tk tk1 : List (Nat × Bool)} (h : ∀ k, getT tk k = getT tk1 k) (o : Option (Nat × Option Nat)) (k : Nat) : getT (tkApp tk o) k = getT (tkApp tk1 o) k := by
 cases o with
 | none => exact h k
 | some p =>
  obtain ⟨d, u⟩ := p
  cases u <;> simp only [tkApp, getT_cons, getT_kill, h]
theorem getM_pre (a : Mem) {l l1 : Mem} (h : ∀ k, getM l k = getM l1 k) (k : Nat) : getM (a ++ l) k = getM (a ++ l1) k := by
 induction a with
 | nil => exact h k
 | cons p a ih => obtain ⟨s, cs⟩ := p; simp only [List.cons_append, getM, ih]
theorem getT_pre (a : List (Nat × Bool)) {l l1 : List (Nat × Bool)} (h : ∀ k, getT l k = getT l1 k) (k : Nat) : getT (a ++ l) k = getT (a ++ l1) k := by
 induction a with
 | nil => exact h k
 | cons p a ih => obtain ⟨s, b⟩ := p; simp only [List.cons_append, getT, ih]
theorem StEq.app {s s1 : St} (h : StEq s s1) (e : Eff) : StEq (e.app s) (e.app s1) := by
 refine ⟨fun k => ?_, fun k => ?_, fun k => getT_pre _ (getT_tkApp_congr h.tk e.tk) k⟩
 ·simp only [Eff.app, getS_app, h.slots]
 ·simp only [Eff.app, getM_app, getM_pre e.more.1 h.mem]
theorem StEq.agree {s s1 : St} (h : StEq s s1) (gi : Option (Nat × Bool)) (o : I) : Agree gi o s s1 := ⟨fun k _ => h.slots k, fun _ => h.mem, fun _ => h.tk⟩
def Blind (K : St → Prop) : Prop := ∀ s s1, StEq s s1 → K s → K s1
theorem aopN_blind {gi : Option (Nat × Bool)} {o : I} {K : St → Prop} (hK : Blind K) : Blind (fun s => aopN E gi o s K) := by
 intro s s1 he h
 obtain ⟨e, h1, h2⟩ := aopN_iff.1 h
 exact aopN_iff.2 ⟨e, ER_congr (he.agree gi o) h1, hK _ _ (he.app e) h2⟩
theorem aopsN_blind {K : St → Prop} (hK : Blind K) : ∀ l, Blind (aopsN E l K)
 | [] => hK
 | (g, o) :: os => aopN_blind (aopsN_blind hK os)
theorem Agree.of_app {a b : Option (Nat × Bool) × I} {e : Eff} {s0 : St} (hs : ER E a.1 a.2 s0 e) (hw : slotApart (wrOf a.2) (gRds b.1 ++ rdsOf b.2) = true) (hk : kindsApart (kindOf a.2) (kindOf b.2) = true) (st : St) : Agree b.1 b.2 (e.app st) st := by
 obtain ⟨h1, h2, h3, h4⟩ := ER_shape hs
 have hmore : ∀ k, kindOf b.2 = k → k = .reads ∨ k = .writes ∨ k = .tokens ∨ k = .all → e.more = ([], []) := fun k hkb hkk => by
  by_cases hm : e.more = ([], [])
  ·exact hm
  ·have := h4 hm
   rw [this, hkb] at hk
   rcases hkk with rfl | rfl | rfl | rfl <;> simp [kindsApart] at hk
 refine ⟨fun k hk' => ?_, fun hr s => ?_, fun ht t => ?_⟩
 ·simp only [Eff.app, getS_app]
  cases hsl : e.slot with
  | none => rfl
  | some p =>
   obtain ⟨d, v⟩ := p
   rw [hsl] at h1
   simp only [Option.map_some] at h1
   rw [← h1] at hw
   simp only [slotApart, Bool.not_eq_true', List.contains_eq_mem, decide_eq_false_iff_not] at hw
   simp only
   rw [if_neg]
   rintro rfl
   exact hw hk'
 ·simp only [Eff.app, getM_app, hmore _ rfl (by rcases hr with hr | hr | hr <;> simp [hr]), List.nil_append]
  cases hm : e.mem with
  | none => rfl
  | some p =>
   have := h2 (by simp [hm])
   rw [this] at hk
   rcases hr with hr | hr | hr <;> rw [hr] at hk <;> simp [kindsApart] at hk
 ·simp only [Eff.app, hmore _ rfl (by rcases ht with ht | ht <;> simp [ht]), List.nil_append]
  cases hm : e.tk with
  | none => rfl
  | some p =>
   have := h3 (by simp [hm])
   rw [this] at hk
   rcases ht with ht | ht <;> rw [ht] at hk <;> simp [kindsApart] at hk
theorem kindsApart_symm (a b : Kind) : kindsApart a b = kindsApart b a := by cases a <;> cases b <;> rfl
theorem opv_new {G : Nat → Option (List D)} {st st1 : St} {a b : I} (hr : readsNew a b = true) (h : ∀ k ∈ rdsOf a, getS st.slots k = getS st1.slots k) (hm : ∀ s cs, getM st.mem s = some cs → getM st1.mem s = some cs) {r : AV × Prop × Bool} (hv : opv G st a = some r) : opv G st1 a = some r := by
 have two : ∀ x y : X, (∀ k ∈ x.rds ++ y.rds, getS st.slots k = getS st1.slots k) → (ev st x = ev st1 x ∧ gd st x = gd st1 x) ∧ (ev st y = ev st1 y ∧ gd st y = gd st1 y) := fun x y hxy =>
  ⟨⟨ev_congr fun k hk => hxy k (by simp [hk]), gd_congr fun k hk => hxy k (by simp [hk])⟩, ⟨ev_congr fun k hk => hxy k (by simp [hk]), gd_congr fun k hk => hxy k (by simp [hk])⟩⟩
 cases a <;> simp only [readsNew, Bool.false_eq_true] at hr
 case ld d ag n x =>
  simp only [rdsOf] at h
  simp only [opv] at hv ⊢
  rw [← ev_congr h, ← gd_congr h]
  split at hv
  ·rename_i s o he
   have : ∀ cs, rdMem st s o n = some cs → rdMem st1 s o n = some cs := by
    intro cs hc
    unfold rdMem at hc ⊢
    split at hc
    ·rename_i bx hb; rw [hm s bx hb]; exact hc
    ·cases hc
   split at hv
   ·rename_i cs hc; rw [this cs hc]; exact hv
   ·cases hv
  ·exact hv
  ·exact hv
  ·cases hv
 case mget d ok k e kz z x y =>
  simp only [rdsOf] at h
  obtain ⟨⟨a, b⟩, a', b'⟩ := two _ _ h
  simp only [opv, ← a, ← b, ← a', ← b'] at hv ⊢
  split at hv
  ·split at hv
   ·rename_i hb; rw [hm _ _ hb]; exact hv
   ·cases hv
  ·cases hv
theorem swapN {a b : Option (Nat × Bool) × I} (hab : apart a b = true) {K : St → Prop} (hK : Blind K) {st : St} (h : aopN E a.1 a.2 st fun s => aopN E b.1 b.2 s K) : aopN E b.1 b.2 st fun s => aopN E a.1 a.2 s K := by
 simp only [apart, Bool.and_eq_true] at hab
 obtain ⟨⟨⟨hk, hw⟩, hw'⟩, hww⟩ := hab
 obtain ⟨e1, h1, h2⟩ := aopN_iff.1 h
 obtain ⟨e2, h3, h4⟩ := aopN_iff.1 h2
 by_cases hk' : kindsApart (kindOf a.2) (kindOf b.2) = true
 case neg =>
  have hrn : readsNew a.2 b.2 = true := by
   simp only [Bool.or_eq_true] at hk
   exact hk.resolve_left hk'
  have hka : kindOf a.2 = .reads := by
   obtain ⟨ga, oa⟩ := a
   cases oa <;> simp only [readsNew, Bool.false_eq_true] at hrn <;> rfl
  obtain ⟨s1, m1, t1, q1⟩ := ER_shape h1
  have hq1 : e1.more = ([], []) := by
   by_cases hm : e1.more = ([], [])
   ·exact hm
   ·have := q1 hm; rw [hka] at this; cases this
  have hm1 : e1.mem = none := by
   cases hm : e1.mem with
   | none => rfl
   | some p => have := m1 (by simp [hm]); rw [hka] at this; cases this
  have ht1 : e1.tk = none := by
   cases hm : e1.tk with
   | none => rfl
   | some p => have := t1 (by simp [hm]); rw [hka] at this; cases this
  have hslot : ∀ k ∈ gRds b.1 ++ rdsOf b.2, getS (e1.app st).slots k = getS st.slots k := by
   intro k hk2
   simp only [Eff.app, getS_app]
   cases hsl : e1.slot with
   | none => rfl
   | some p =>
    obtain ⟨d, v⟩ := p
    rw [hsl] at s1
    simp only [Option.map_some] at s1
    rw [← s1] at hw
    simp only [slotApart, Bool.not_eq_true', List.contains_eq_mem, decide_eq_false_iff_not] at hw
    simp only
    rw [if_neg]
    rintro rfl
    exact hw hk2
  have h3' : ER E b.1 b.2 st e2 := ER_congr ⟨hslot, fun _ s => by simp only [Eff.app, hm1, hq1, Option.toList_none, List.nil_append], fun _ t => by simp only [Eff.app, ht1, hq1, tkApp, List.nil_append]⟩ h3
  obtain ⟨s2, m2, t2, q2⟩ := ER_shape h3
  have hq2 : e2.more = ([], []) := by
   by_cases hm : e2.more = ([], [])
   ·exact hm
   ·have := q2 hm
    obtain ⟨gb, ob⟩ := b
    obtain ⟨ga, oa⟩ := a
    cases oa <;> simp only [readsNew, Bool.false_eq_true] at hrn <;> cases ob <;> simp only [Bool.false_eq_true] at hrn <;> cases this
  have ht2 : e2.tk = none := by
   cases hm : e2.tk with
   | none => rfl
   | some p =>
    have := t2 (by simp [hm])
    obtain ⟨gb, ob⟩ := b
    obtain ⟨ga, oa⟩ := a
    cases oa <;> simp only [readsNew, Bool.false_eq_true] at hrn <;> cases ob <;> simp only [Bool.false_eq_true] at hrn <;> cases this
  have hnew : ∀ s cs, getM st.mem s = some cs → getM (e2.app st).mem s = some cs := by
   intro s cs hs
   simp only [Eff.app, getM_app, hq2, List.nil_append]
   cases hm : e2.mem with
   | none => exact hs
   | some p =>
    obtain ⟨s', cs'⟩ := p
    simp only
    have : getM st.mem s' = none := by
     obtain ⟨gb, ob⟩ := b
     obtain ⟨ga, oa⟩ := a
     obtain ⟨g, hg, he⟩ := h3'
     cases oa <;> simp only [readsNew, Bool.false_eq_true] at hrn <;> cases ob <;> simp only [Bool.false_eq_true] at hrn <;> simp only at he
     all_goals first
      | (obtain ⟨_, h5, rfl⟩ := he; simp only [Option.some.injEq, Prod.mk.injEq] at hm; obtain ⟨rfl, _⟩ := hm; exact h5)
      | (obtain ⟨⟨_, _, _, h5⟩, rfl⟩ := he; simp only [Option.some.injEq, Prod.mk.injEq] at hm; obtain ⟨rfl, _⟩ := hm; exact h5)
    rw [if_neg]
    ·exact hs
    ·rintro rfl; rw [this] at hs; cases hs
  have hslot2 : ∀ k ∈ gRds a.1 ++ rdsOf a.2, getS st.slots k = getS (e2.app st).slots k := by
   intro k hk2
   simp only [Eff.app, getS_app]
   cases hsl : e2.slot with
   | none => rfl
   | some p =>
    obtain ⟨d, v⟩ := p
    rw [hsl] at s2
    simp only [Option.map_some] at s2
    rw [← s2] at hw'
    simp only [slotApart, Bool.not_eq_true', List.contains_eq_mem, decide_eq_false_iff_not] at hw'
    simp only
    rw [if_neg]
    rintro rfl
    exact hw' hk2
  have h1' : ER E a.1 a.2 (e2.app st) e1 := by
   obtain ⟨g, hg, he⟩ := h1
   refine ⟨g, by rw [← guardOf_congr fun k hk2 => hslot2 k (by simp [hk2])]; exact hg, ?_⟩
   obtain ⟨ga, oa⟩ := a
   cases oa <;> simp only [readsNew, Bool.false_eq_true] at hrn
   all_goals
    simp only at he ⊢
    obtain ⟨v, ob, gs, he1, he2, he3⟩ := he
    exact ⟨v, ob, gs, opv_new hrn (fun k hk2 => hslot2 k (by simp [hk2])) hnew he1, he2, he3⟩
  refine aopN_iff.2 ⟨e2, h3', aopN_iff.2 ⟨e1, h1', hK _ _ ?_ h4⟩⟩
  refine ⟨fun k => ?_, fun k => ?_, fun k => ?_⟩
  ·simp only [Eff.app, getS_app]
   cases hs1 : e1.slot with
   | none => rfl
   | some p1 =>
    cases hs2 : e2.slot with
    | none => rfl
    | some p2 =>
     obtain ⟨d1, v1⟩ := p1
     obtain ⟨d2, v2⟩ := p2
     rw [hs1] at s1
     rw [hs2] at s2
     simp only [Option.map_some] at s1 s2
     rw [← s1, ← s2] at hww
     simp only [slotApart, Option.toList_some, List.contains_cons, List.contains_nil, Bool.or_false, Bool.not_eq_true', beq_eq_false_iff_ne] at hww
     simp only
     by_cases hd2 : d2 = k
     ·subst hd2; rw [if_pos rfl, if_neg hww, if_pos rfl]
     ·rw [if_neg hd2, if_neg hd2]
  ·simp only [Eff.app, hm1, hq1, hq2, Option.toList_none, List.nil_append]
  ·simp only [Eff.app, ht1, ht2, hq1, hq2, tkApp, List.nil_append]
 replace hk := hk'
 have h3' : ER E b.1 b.2 st e2 := ER_congr (Agree.of_app h1 hw hk st) h3
 have h1' : ER E a.1 a.2 (e2.app st) e1 := by
  have hag := Agree.of_app (a := b) (b := a) h3' hw' (by rw [kindsApart_symm]; exact hk) st
  exact ER_congr ⟨fun k hk => (hag.slots k hk).symm, fun hr s => (hag.mem hr s).symm, fun ht t => (hag.tk ht t).symm⟩ h1
 refine aopN_iff.2 ⟨e2, h3', aopN_iff.2 ⟨e1, h1', hK _ _ ?_ h4⟩⟩
 obtain ⟨s1, m1, t1, q1⟩ := ER_shape h1
 obtain ⟨s2, m2, t2, q2⟩ := ER_shape h3
 have hone : e1.more ≠ ([], []) → e1.mem = none ∧ e1.tk = none ∧ e2.mem = none ∧ e2.tk = none ∧ e2.more = ([], []) := fun hm => by
  have hka := q1 hm
  rw [hka] at hk
  refine ⟨?_, ?_, ?_, ?_, ?_⟩
  ·cases h : e1.mem with
   | none => rfl
   | some p => have := m1 (by simp [h]); rw [hka] at this; cases this
  ·cases h : e1.tk with
   | none => rfl
   | some p => have := t1 (by simp [h]); rw [hka] at this; cases this
  ·cases h : e2.mem with
   | none => rfl
   | some p => have := m2 (by simp [h]); rw [this] at hk; simp [kindsApart] at hk
  ·cases h : e2.tk with
   | none => rfl
   | some p => have := t2 (by simp [h]); rw [this] at hk; simp [kindsApart] at hk
  ·by_cases h : e2.more = ([], [])
   ·exact h
   ·have := q2 h; rw [this] at hk; simp [kindsApart] at hk
 have htwo : e2.more ≠ ([], []) → e1.mem = none ∧ e1.tk = none ∧ e2.mem = none ∧ e2.tk = none ∧ e1.more = ([], []) := fun hm => by
  have hkb := q2 hm
  rw [hkb] at hk
  refine ⟨?_, ?_, ?_, ?_, ?_⟩
  ·cases h : e1.mem with
   | none => rfl
   | some p => have := m1 (by simp [h]); rw [this] at hk; simp [kindsApart] at hk
  ·cases h : e1.tk with
   | none => rfl
   | some p => have := t1 (by simp [h]); rw [this] at hk; simp [kindsApart] at hk
  ·cases h : e2.mem with
   | none => rfl
   | some p => have := m2 (by simp [h]); rw [hkb] at this; cases this
  ·cases h : e2.tk with
   | none => rfl
   | some p => have := t2 (by simp [h]); rw [hkb] at this; cases this
  ·by_cases h : e1.more = ([], [])
   ·exact h
   ·have := q1 h; rw [this] at hk; simp [kindsApart] at hk
 by_cases hb1 : e1.more = ([], [])
 case neg =>
  obtain ⟨z1, z2, z3, z4, z5⟩ := hone hb1
  refine ⟨fun k => ?_, fun k => by simp only [Eff.app, z1, z3, z5, Option.toList_none, List.nil_append], fun k => by simp only [Eff.app, z2, z4, z5, tkApp, List.nil_append]⟩
  simp only [Eff.app, getS_app]
  cases hs1 : e1.slot with
  | none => rfl
  | some p1 =>
   cases hs2 : e2.slot with
   | none => rfl
   | some p2 =>
    obtain ⟨d1, v1⟩ := p1
    obtain ⟨d2, v2⟩ := p2
    rw [hs1] at s1
    rw [hs2] at s2
    simp only [Option.map_some] at s1 s2
    rw [← s1, ← s2] at hww
    simp only [slotApart, Option.toList_some, List.contains_cons, List.contains_nil, Bool.or_false, Bool.not_eq_true', beq_eq_false_iff_ne] at hww
    simp only
    by_cases hd2 : d2 = k
    ·subst hd2; rw [if_pos rfl, if_neg hww, if_pos rfl]
    ·rw [if_neg hd2, if_neg hd2]
 by_cases hb2 : e2.more = ([], [])
 case neg =>
  obtain ⟨z1, z2, z3, z4, z5⟩ := htwo hb2
  refine ⟨fun k => ?_, fun k => by simp only [Eff.app, z1, z3, z5, Option.toList_none, List.nil_append], fun k => by simp only [Eff.app, z2, z4, z5, tkApp, List.nil_append]⟩
  simp only [Eff.app, getS_app]
  cases hs1 : e1.slot with
  | none => rfl
  | some p1 =>
   cases hs2 : e2.slot with
   | none => rfl
   | some p2 =>
    obtain ⟨d1, v1⟩ := p1
    obtain ⟨d2, v2⟩ := p2
    rw [hs1] at s1
    rw [hs2] at s2
    simp only [Option.map_some] at s1 s2
    rw [← s1, ← s2] at hww
    simp only [slotApart, Option.toList_some, List.contains_cons, List.contains_nil, Bool.or_false, Bool.not_eq_true', beq_eq_false_iff_ne] at hww
    simp only
    by_cases hd2 : d2 = k
    ·subst hd2; rw [if_pos rfl, if_neg hww, if_pos rfl]
    ·rw [if_neg hd2, if_neg hd2]
 refine ⟨fun k => ?_, fun k => ?_, fun k => ?_⟩
 ·simp only [Eff.app, getS_app]
  cases hs1 : e1.slot with
  | none => rfl
  | some p1 =>
   cases hs2 : e2.slot with
   | none => rfl
   | some p2 =>
    obtain ⟨d1, v1⟩ := p1
    obtain ⟨d2, v2⟩ := p2
    rw [hs1] at s1
    rw [hs2] at s2
    simp only [Option.map_some] at s1 s2
    rw [← s1, ← s2] at hww
    simp only [slotApart, Option.toList_some, List.contains_cons, List.contains_nil, Bool.or_false, Bool.not_eq_true', beq_eq_false_iff_ne] at hww
    simp only
    by_cases hd2 : d2 = k
    ·subst hd2; rw [if_pos rfl, if_neg hww, if_pos rfl]
    ·rw [if_neg hd2, if_neg hd2]
 ·simp only [Eff.app, getM_app, hb1, hb2, List.nil_append]
  cases hs1 : e1.mem with
  | none => rfl
  | some p1 =>
   cases hs2 : e2.mem with
   | none => rfl
   | some p2 =>
    rw [m1 (by simp [hs1]), m2 (by simp [hs2])] at hk
    simp [kindsApart] at hk
 ·simp only [Eff.app, hb1, hb2, List.nil_append]
  cases hs1 : e1.tk with
  | none => rfl
  | some p1 =>
   cases hs2 : e2.tk with
   | none => rfl
   | some p2 =>
    rw [t1 (by simp [hs1]), t2 (by simp [hs2])] at hk
    simp [kindsApart] at hk
end Go.Abs
end
section
namespace Go.Abs
open Go.RowKit
variable {c : Ctx} {st : St} {tmps : Array Value} {w : World} {S : Safe} {ρ : Rho} {E : AEnv} {T : Nat → Option Ty}
theorem aopN_aop {gi : Option (Nat × Bool)} {o : I} {K : St → Prop} (h : aopN E gi o st K) : aop E gi o st K := by
 unfold aopN at h
 unfold aop
 split at h
 ·exact h.elim
 ·rename_i g hg
  refine aopW_of ?_
  cases o
  case isnil => exact h.elim
  case len =>
   simp only [aopG]
   simp only at h
   split at h
   ·exact ⟨h.1, fun _ => h.2⟩
   ·exact h.elim
  case call d f args =>
   revert h
   unfold aopG
   simp only
   split
   ·split
    ·exact id
    ·exact False.elim
   ·exact False.elim
  all_goals exact h
theorem frontN {α : Type} {f : α → Option (Nat × Bool) × I} {x : α} {post : List (Option (Nat × Bool) × I)} {K : St → Prop} (hK : Blind K) : ∀ {pre : List α} {st : St}, (∀ j ∈ pre, apart (f j) (f x) = true) → aopsN E (pre.map f ++ f x :: post) K st → aopsN E (f x :: (pre.map f ++ post)) K st
 | [], _, _, h => h
 | j :: pre, st, hp, h => by
  simp only [List.map_cons, List.cons_append, aopsN] at h ⊢
  have h' : aopN E (f j).1 (f j).2 st (aopsN E (f x :: (pre.map f ++ post)) K) := aopN_mono (fun s hs => frontN hK (fun k hk => hp k (by simp [hk])) hs) h
  have := swapN (hp j (by simp)) (aopsN_blind hK (pre.map f ++ post)) (by simpa only [aopsN] using h')
  simpa only [aopsN] using this
def EdgesIn (ops : List Oper) (listed : Nat → Bool) (k : Nat) : Prop := ∀ o, ops[k]? = some o → ∀ e ∈ o.after.toList, Region.binds .any e = true → listed e.on = true
def ClosedL (ops : List Oper) (listed : Nat → Bool) : Prop := ∀ k, listed k = true → EdgesIn ops listed k
def PredsOk (ops : List Oper) (k : Nat) (ps : Nat) : Prop := ∀ listed, ClosedL ops listed → EdgesIn ops listed k → ∀ j, ps.testBit j = true → listed j = true
theorem fold_bits {acc : List Nat} {p : Nat → Prop} : ∀ (es : List Edge) (m : Nat), (∀ j, m.testBit j = true → p j) → (∀ e ∈ es, Region.binds .any e = true → p e.on ∧ ∀ j, (acc.getD e.on 0).testBit j = true → p j) →
  ∀ j, (es.foldl (fun m e => if Region.binds .any e then m ||| (2 ^ e.on ||| acc.getD e.on 0) else m) m).testBit j = true → p j
 | [], m, hm, _, j, h => hm j h
 | e :: es, m, hm, he, j, h => by
  rw [List.foldl_cons] at h
  refine fold_bits es _ (fun i hi => ?_) (fun x hx => he x (by simp [hx])) j h
  split at hi
  ·rename_i hb
   obtain ⟨h1, h2⟩ := he e (by simp) hb
   rw [Nat.testBit_or, Nat.testBit_or, Bool.or_eq_true, Bool.or_eq_true, Nat.testBit_two_pow] at hi
   rcases hi with hi | hi | hi
   ·exact hm i hi
   ·have : e.on = i := of_decide_eq_true hi
    exact this ▸ h1
   ·exact h2 i hi
  ·exact hm i hi
theorem predsOf_ok {ops : List Oper} : ∀ (os : List Oper) (acc : List Nat), os = ops.drop acc.length → (∀ k, PredsOk ops k (acc.getD k 0)) → ∀ k, PredsOk ops k ((predsOf ops acc os).getD k 0)
 | [], acc, _, h => h
 | o :: os, acc, ho, h => by
  have hlt : acc.length < ops.length := by
   rcases Nat.lt_or_ge acc.length ops.length with h1 | h1
   ·exact h1
   ·rw [List.drop_of_length_le h1] at ho; cases ho
  rw [List.drop_eq_getElem_cons hlt] at ho
  obtain ⟨ho1, ho2⟩ := List.cons.inj ho
  refine predsOf_ok os _ (by simpa using ho2) fun k => ?_
  generalize hx : o.after.toList.foldl (fun m e => if Region.binds .any e then m ||| (2 ^ e.on ||| acc.getD e.on 0) else m) 0 = x
  by_cases hk : k < acc.length
  ·have : (acc ++ [x]).getD k 0 = acc.getD k 0 := by
     simp [List.getD, List.getElem?_append_left hk]
   rw [this]; exact h k
  ·by_cases hk' : k = acc.length
   ·subst hk'
    have : (acc ++ [x]).getD acc.length 0 = x := by
     simp [List.getD]
    rw [this]
    intro listed hc he j hj
    subst hx
    refine fold_bits (p := fun j => listed j = true) o.after.toList 0 (fun j hj => by simp at hj) (fun e he1 hb => ?_) j hj
    have hl := he o (by rw [List.getElem?_eq_getElem hlt, ho1]) e he1 hb
    exact ⟨hl, h e.on listed hc (hc e.on hl)⟩
   ·have : (acc ++ [x]).getD k 0 = 0 := by
      have : (acc ++ [x]).length ≤ k := by simp; omega
      rw [List.getD_eq_getElem?_getD, List.getElem?_eq_none this]
      rfl
    rw [this]
    intro _ _ _ j hj
    simp at hj
theorem dokRow_get {l : List (Option (Nat × Bool) × I)} {preds : Nat} {b : Option (Nat × Bool) × I} : ∀ {n j : Nat}, dokRow l preds b n = true → j < n → preds.testBit j = true ∨ ∀ a, l[j]? = some a → apart a b = true
 | 0, j, _, h => by omega
 | n + 1, j, hd, h => by
  simp only [dokRow, Bool.and_eq_true, Bool.or_eq_true] at hd
  by_cases hj : j = n
  ·subst hj
   rcases hd.1 with h1 | h1
   ·exact .inl h1
   ·refine .inr fun a ha => ?_
    rw [ha] at h1; exact h1
  ·exact dokRow_get hd.2 (by omega)
theorem dokAll_get {l : List (Option (Nat × Bool) × I)} {preds : List Nat} : ∀ {n k : Nat}, dokAll l preds n = true → k < n → ∀ b, l[k]? = some b → dokRow l (preds.getD k 0) b k = true
 | 0, k, _, h => by omega
 | n + 1, k, hd, h => by
  simp only [dokAll, Bool.and_eq_true] at hd
  by_cases hk : k = n
  ·subst hk
   intro b hb
   have := hd.1
   rw [hb] at this
   exact this
  ·exact dokAll_get hd.2 (by omega)
theorem edgesOk_get : ∀ {os : List Oper} {k i : Nat} {o : Oper}, edgesOk k os = true → os[i]? = some o → ∀ e ∈ o.after.toList, Region.binds .any e = true → e.on < k + i
 | [], _, i, o, _, h => by simp at h
 | o' :: os, k, 0, o, hk, h => by
  simp at h; subst h
  simp only [edgesOk, Bool.and_eq_true, List.all_eq_true, Bool.or_eq_true, Bool.not_eq_true', decide_eq_true_eq] at hk
  intro e he hb
  rcases hk.1 e he with h1 | h1
  ·rw [hb] at h1; cases h1
  ·simpa using h1
 | o' :: os, k, i + 1, o, hk, h => by
  simp only [edgesOk, Bool.and_eq_true] at hk
  have := edgesOk_get (i := i) hk.2 (by simpa using h)
  intro e he hb
  have := this e he hb
  omega
theorem aopsN_append {K : St → Prop} {l2 : List (Option (Nat × Bool) × I)} : ∀ l1 : List (Option (Nat × Bool) × I), aopsN E (l1 ++ l2) K = aopsN E l1 (aopsN E l2 K)
 | [] => rfl
 | (g, o) :: os => by
  funext s
  show aopN E g o s (aopsN E (os ++ l2) K) = aopN E g o s (aopsN E os (aopsN E l2 K))
  rw [aopsN_append os]
theorem regd_inv (hG : E.G = c.G) (hC : ∀ f args r, E.C f args r → Ev c.P c.G f args r) (hT : ∀ t ty, T t = some ty → chkTy c.P t ty = true) {ops : Array Oper} {l : List (Option (Nat × Bool) × I)} (htr : trOps T ops.toList = some l)
  (hdst : ∀ o ∈ ops.toList, ∀ d, o.dst = some d → c.D d) (hedge : edgesOk 0 ops.toList = true) {F : Fence} (hF : FW F) (m : Nat) (Q : Exit → Act → World → Prop) {K : St → Prop} (hQ : ∀ a w, Goes c K a w → Q .normal a w)
  (HH : Array Bool → St → Prop) (h1 : ∀ listed st, listed.size = ops.size → (∀ i, i < ops.size → listed.getD i false = true) → HH listed st → K st)
  (h2 : ∀ listed st i, listed.size = ops.size → i < ops.size → listed.getD i false = false → EdgesIn ops.toList (fun i => listed.getD i false) i → ClosedL ops.toList (fun i => listed.getD i false) → (∀ j, (listed.setIfInBounds i true).getD j false = (decide (j = i) || listed.getD j false)) → HH listed st →
   ∃ rest K', aopsN E (l.getD i default :: rest) K' st ∧ ∀ st', aopsN E rest K' st' → HH (listed.setIfInBounds i true) st') :
  ∀ (fuel : Nat) (listed : Array Bool) {st : St} {tmps : Array Value} {w : World} {S : Safe} {ρ : Rho}, listed.size = ops.size → ((List.range ops.size).filter fun i => !listed.getD i false).length ≤ fuel → ClosedL ops.toList (fun i => listed.getD i false) →
   Sim c st tmps w S ρ → HH listed st → wpAnyIn F m c.P .any ops Q fuel listed ⟨tmps, c.ds⟩ w := by
 obtain ⟨hlen, hget⟩ := trOps_get htr
 simp only [Array.length_toList] at hlen
 have hready : ∀ (listed : Array Bool), listed.size = ops.size → Region.ready .any ops listed = [] → ∀ i, i < ops.size → listed.getD i false = true := by
  intro listed hsz hr i
  induction i using Nat.strongRecOn with
  | ind i ihi =>
   intro hin
   cases hli : listed.getD i false with
   | true => rfl
   | false =>
    exfalso
    have : i ∈ Region.ready .any ops listed := by
     simp only [Region.ready, List.mem_filter, List.mem_range, Bool.and_eq_true, Bool.not_eq_true']
     refine ⟨hin, ?_, ?_⟩
     ·have : listed.getD i true = listed.getD i false := by simp [Array.getD_eq_getD_getElem?, Array.getElem?_eq_getElem (hsz ▸ hin : i < listed.size)]
      rw [this]; exact hli
     ·simp only [Array.getElem?_eq_getElem hin, Option.map_some, Option.getD_some, Array.all_eq_true_iff_forall_mem, Bool.or_eq_true, Bool.not_eq_true']
      intro e he
      cases hb : Region.binds .any e with
      | false => exact .inl rfl
      | true =>
       have hlt := edgesOk_get (i := i) (o := ops[i]) hedge (by simp [hin]) e (by simpa using he) hb
       exact .inr (ihi e.on (by omega) (by omega))
    rw [hr] at this
    cases this
 intro fuel
 induction fuel with
 | zero =>
  intro listed st tmps w S ρ hsz hfu _ h hA
  have hnil : ((List.range ops.size).filter fun i => !listed.getD i false) = [] := List.eq_nil_of_length_eq_zero (by omega)
  have hall : ∀ i, i < ops.size → listed.getD i false = true := by
   intro i hi
   have := List.filter_eq_nil_iff.1 hnil i (List.mem_range.2 hi)
   simpa using this
  refine ⟨?_, hQ _ _ ⟨rfl, _, _, _, h, h1 listed st hsz hall hA⟩⟩
  cases hr : Region.ready .any ops listed with
  | nil => rfl
  | cons i r =>
   exfalso
   have hi : i ∈ Region.ready .any ops listed := by rw [hr]; simp
   simp only [Region.ready, List.mem_filter, List.mem_range, Bool.and_eq_true, Bool.not_eq_true'] at hi
   have : listed.getD i true = listed.getD i false := by simp [Array.getD_eq_getD_getElem?, Array.getElem?_eq_getElem (hsz ▸ hi.1 : i < listed.size)]
   have h3 := hi.2.1
   rw [this, hall i hi.1] at h3
   cases h3
 | succ fuel ih =>
  intro listed st tmps w S ρ hsz hfu hcl h hA
  refine ⟨fun hr => ?_, fun i hi => ?_⟩
  ·exact hQ _ _ ⟨rfl, _, _, _, h, h1 listed st hsz (hready listed hsz hr) hA⟩
  ·simp only [Region.ready, List.mem_filter, List.mem_range, Bool.and_eq_true, Bool.not_eq_true'] at hi
   obtain ⟨hin, hi1, hi2⟩ := hi
   have hgi : listed.getD i true = listed.getD i false := by simp [Array.getD_eq_getD_getElem?, Array.getElem?_eq_getElem (hsz ▸ hin : i < listed.size)]
   rw [hgi] at hi1
   have hed : EdgesIn ops.toList (fun i => listed.getD i false) i := by
    intro o ho e he hb
    have hoi : ops[i]? = some o := by simpa using ho
    simp only [hoi, Option.map_some, Option.getD_some, Array.all_eq_true_iff_forall_mem, Bool.or_eq_true, Bool.not_eq_true'] at hi2
    rcases hi2 e (by simpa using he) with h1 | h1
    ·rw [hb] at h1; cases h1
    ·exact h1
   have hl' : ∀ j, (listed.setIfInBounds i true).getD j false = (decide (j = i) || listed.getD j false) := by
    intro j
    simp only [Array.getD_eq_getD_getElem?, Array.getElem?_setIfInBounds]
    by_cases hj : i = j
    ·subst hj; simp [hsz, hin]
    ·have : ¬ j = i := fun e => hj e.symm
     simp [hj, this]
   obtain ⟨rest, K', hfront, hnext⟩ := h2 listed st i hsz hin hi1 hed hcl hl' hA
   obtain ⟨gi, ii, hgii, htg, hti⟩ := hget i ops[i] (by simp [hin])
   have hld : l.getD i default = (gi, ii) := by simp [List.getD, hgii]
   rw [hld] at hfront
   simp only [aopsN] at hfront
   refine wpOp_sound hG hC hT h (Array.getElem?_eq_getElem hin) htg hti (hdst _ (by simp)) (aopN_aop hfront) ?_ Q hF m
   rintro ⟨tmps', ds'⟩ w' ⟨hds, st', S', ρ', h', hA'⟩
   simp only at hds
   subst hds
   refine ih (listed.setIfInBounds i true) (by simp [hsz]) ?_ ?_ h' (hnext st' hA')
   ·have hmem : i ∈ (List.range ops.size).filter fun i => !listed.getD i false := List.mem_filter.2 ⟨List.mem_range.2 hin, by rw [hi1]; rfl⟩
    have hsub : ((List.range ops.size).filter fun j => !(listed.setIfInBounds i true).getD j false) = (((List.range ops.size).filter fun j => !listed.getD j false).filter fun j => !decide (j = i)) := by
     rw [List.filter_filter]
     congr 1
     funext j
     rw [hl' j]
     cases decide (j = i) <;> simp
    rw [hsub]
    have : (((List.range ops.size).filter fun j => !listed.getD j false).filter fun j => !decide (j = i)).length < ((List.range ops.size).filter fun j => !listed.getD j false).length := by
     refine Nat.lt_of_le_of_ne (List.length_filter_le _ _) fun he => ?_
     have := List.length_filter_eq_length_iff.1 he i hmem
     simp at this
    omega
   ·intro k hk o ho e he hb
    simp only at hk ⊢
    rw [hl'] at hk ⊢
    by_cases hki : k = i
    ·subst hki
     have := hed o ho e he hb
     simp only at this
     rw [this]; simp
    ·simp only [hki, decide_false, Bool.false_or] at hk
     have := hcl k hk o ho e he hb
     simp only at this
     rw [this]; simp
def OrdOk (l : List (Option (Nat × Bool) × I)) (preds : List Nat) (ord : List Nat) : Prop := ord.Pairwise fun i j => okBit l preds i j = true
def Left (n : Nat) (listed : Array Bool) (ord : List Nat) : Prop := (∀ j, j ∈ ord ↔ j < n ∧ listed.getD j false = false) ∧ ord.Nodup
def HH1 (E : AEnv) (l : List (Option (Nat × Bool) × I)) (preds : List Nat) (n : Nat) (K : St → Prop) (listed : Array Bool) (st : St) : Prop :=
 ∃ ord, Left n listed ord ∧ OrdOk l preds ord ∧ aopsN E (ord.map fun i => l.getD i default) K st
def HH2 (E : AEnv) (l : List (Option (Nat × Bool) × I)) (preds : List Nat) (n : Nat) (ia ib : Nat) (rs : List Nat) (K : St → Prop) (listed : Array Bool) (st : St) : Prop :=
 HH1 E l preds n K listed st ∨ ∃ p, Left n listed (p ++ ia :: ib :: rs) ∧ OrdOk l preds (p ++ ia :: rs) ∧ OrdOk l preds (p ++ ib :: rs) ∧
  aopsN E (p.map fun i => l.getD i default) (fun s => aopsN E ((ia :: ib :: rs).map fun i => l.getD i default) K s ∧ aopsN E ((ib :: ia :: rs).map fun i => l.getD i default) K s) st
theorem Left.take {n : Nat} {listed listed' : Array Bool} {pre post : List Nat} {i : Nat} (h : Left n listed (pre ++ i :: post)) (hl : ∀ j, listed'.getD j false = (decide (j = i) || listed.getD j false)) : Left n listed' (pre ++ post) := by
 obtain ⟨h1, h2⟩ := h
 have h3 : (i :: (pre ++ post)).Nodup := (List.perm_middle.nodup_iff).1 h2
 obtain ⟨h4, h5⟩ := List.nodup_cons.1 h3
 refine ⟨fun j => ?_, h5⟩
 rw [hl j]
 have h6 : j ∈ pre ++ i :: post ↔ j = i ∨ j ∈ pre ++ post := by simp; constructor <;> (intro h; rcases h with h | h | h <;> simp [h])
 by_cases hj : j = i
 ·subst hj; simp only [decide_true, Bool.true_or, Bool.true_eq_false, and_false, iff_false]; exact h4
 ·simp only [hj, decide_false, Bool.false_or]
  rw [← h1 j, h6]
  simp [hj]
theorem ord_apart {l : List (Option (Nat × Bool) × I)} {preds : List Nat} {ops : List Oper} (hpreds : ∀ k, PredsOk ops k (preds.getD k 0)) {listed : Nat → Bool} {i : Nat} (hcl : ClosedL ops listed) (hed : EdgesIn ops listed i) {pre : List Nat} (hp : ∀ j ∈ pre, okBit l preds j i = true) (hl : ∀ j ∈ pre, listed j = false) : ∀ j ∈ pre, apart (l.getD j default) (l.getD i default) = true := by
 intro j hj
 have := hp j hj
 simp only [okBit, Bool.or_eq_true] at this
 rcases this with h1 | h1
 ·have := hpreds i _ hcl hed j h1
  rw [hl j hj] at this; cases this
 ·exact h1
theorem HH1_step {l : List (Option (Nat × Bool) × I)} {preds : List Nat} {n : Nat} {K : St → Prop} (hK : Blind K) {ops : List Oper} (hpreds : ∀ k, PredsOk ops k (preds.getD k 0)) {listed listed' : Array Bool} {i : Nat} (hin : i < n) (hi1 : listed.getD i false = false)
  (hed : EdgesIn ops (fun i => listed.getD i false) i) (hcl : ClosedL ops (fun i => listed.getD i false)) (hl' : ∀ j, listed'.getD j false = (decide (j = i) || listed.getD j false)) (h : HH1 E l preds n K listed st) : ∃ rest K', aopsN E (l.getD i default :: rest) K' st ∧ ∀ st', aopsN E rest K' st' → HH1 E l preds n K listed' st' := by
 obtain ⟨ord, hL, hO, hA⟩ := h
 obtain ⟨pre, post, rfl⟩ := List.append_of_mem ((hL.1 i).2 ⟨hin, hi1⟩)
 have hpo := List.pairwise_append.1 hO
 have hap := ord_apart hpreds hcl hed (fun j hj => hpo.2.2 j hj i (by simp)) (fun j hj => ((hL.1 j).1 (by simp [hj])).2)
 rw [List.map_append, List.map_cons] at hA
 refine ⟨_, K, frontN (x := i) hK hap hA, fun st' hs => ⟨pre ++ post, hL.take hl', ?_, by rw [List.map_append]; exact hs⟩⟩
 exact List.pairwise_append.2 ⟨hpo.1, (List.pairwise_cons.1 hpo.2.1).2, fun x hx y hy => hpo.2.2 x hx y (by simp [hy])⟩
theorem blind_and {A B : St → Prop} (ha : Blind A) (hb : Blind B) : Blind (fun s => A s ∧ B s) := fun s s1 he h => ⟨ha s s1 he h.1, hb s s1 he h.2⟩
theorem HH2_step {l : List (Option (Nat × Bool) × I)} {preds : List Nat} {n : Nat} {ia ib : Nat} {rs : List Nat} {K : St → Prop} (hK : Blind K) {ops : List Oper} (hpreds : ∀ k, PredsOk ops k (preds.getD k 0)) (hrs : ∀ k ∈ rs, (preds.getD k 0).testBit ia = true ∨ (preds.getD k 0).testBit ib = true) {listed listed' : Array Bool} {i : Nat} (hin : i < n) (hi1 : listed.getD i false = false)
  (hed : EdgesIn ops (fun i => listed.getD i false) i) (hcl : ClosedL ops (fun i => listed.getD i false)) (hl' : ∀ j, listed'.getD j false = (decide (j = i) || listed.getD j false)) (h : HH2 E l preds n ia ib rs K listed st) : ∃ rest K', aopsN E (l.getD i default :: rest) K' st ∧ ∀ st', aopsN E rest K' st' → HH2 E l preds n ia ib rs K listed' st' := by
 rcases h with h | ⟨p, hL, hO1, hO2, hA⟩
 ·obtain ⟨rest, K', h1, h2⟩ := HH1_step hK hpreds hin hi1 hed hcl hl' h
  exact ⟨rest, K', h1, fun st' hs => .inl (h2 st' hs)⟩
 ·have hmem := (hL.1 i).2 ⟨hin, hi1⟩
  have hun : ∀ j, j ∈ p ++ ia :: ib :: rs → listed.getD j false = false := fun j hj => ((hL.1 j).1 hj).2
  have hp1 := List.pairwise_append.1 hO1
  have hp2 := List.pairwise_append.1 hO2
  rcases List.mem_append.1 hmem with hm | hm
  ·obtain ⟨pre, post, rfl⟩ := List.append_of_mem hm
   have hpo := List.pairwise_append.1 hp1.1
   have hap := ord_apart hpreds hcl hed (fun j hj => hpo.2.2 j hj i (by simp)) (fun j hj => hun j (by simp [hj]))
   rw [List.map_append, List.map_cons] at hA
   refine ⟨_, _, frontN (x := i) (blind_and (aopsN_blind hK _) (aopsN_blind hK _)) hap hA, fun st' hs => .inr ⟨pre ++ post, ?_, ?_, ?_, by rw [List.map_append]; exact hs⟩⟩
   ·have : Left n listed (pre ++ i :: (post ++ ia :: ib :: rs)) := by simpa using hL
    simpa using this.take hl'
   ·have : OrdOk l preds (pre ++ i :: (post ++ ia :: rs)) := by simpa using hO1
    have hq := List.pairwise_append.1 this
    have : OrdOk l preds (pre ++ (post ++ ia :: rs)) := List.pairwise_append.2 ⟨hq.1, (List.pairwise_cons.1 hq.2.1).2, fun x hx y hy => hq.2.2 x hx y (List.mem_cons_of_mem _ hy)⟩
    simpa using this
   ·have : OrdOk l preds (pre ++ i :: (post ++ ib :: rs)) := by simpa using hO2
    have hq := List.pairwise_append.1 this
    have : OrdOk l preds (pre ++ (post ++ ib :: rs)) := List.pairwise_append.2 ⟨hq.1, (List.pairwise_cons.1 hq.2.1).2, fun x hx y hy => hq.2.2 x hx y (List.mem_cons_of_mem _ hy)⟩
    simpa using this
  ·rcases List.mem_cons.1 hm with rfl | hm
   ·have hap := ord_apart hpreds hcl hed (fun j hj => hp1.2.2 j hj i (by simp)) (fun j hj => hun j (by simp [hj]))
    have hA1 := aopsN_mono _ (fun s hs => hs.1) hA
    rw [← aopsN_append, List.map_cons] at hA1
    refine ⟨_, K, frontN (x := i) hK hap hA1, fun st' hs => .inl ⟨p ++ ib :: rs, hL.take hl', hO2, by rw [List.map_append]; exact hs⟩⟩
   ·rcases List.mem_cons.1 hm with rfl | hm
    ·have hap := ord_apart hpreds hcl hed (fun j hj => hp2.2.2 j hj i (by simp)) (fun j hj => hun j (by simp [hj]))
     have hA1 := aopsN_mono _ (fun s hs => hs.2) hA
     rw [← aopsN_append, List.map_cons] at hA1
     refine ⟨_, K, frontN (x := i) hK hap hA1, fun st' hs => .inl ⟨p ++ ia :: rs, ?_, hO1, by rw [List.map_append]; exact hs⟩⟩
     have : Left n listed ((p ++ [ia]) ++ i :: rs) := by simpa using hL
     simpa using this.take hl'
    ·exfalso
     rcases hrs i hm with h1 | h1
     ·have := hpreds i _ hcl hed ia h1
      rw [hun ia (by simp)] at this; cases this
     ·have := hpreds i _ hcl hed ib h1
      rw [hun ib (by simp)] at this; cases this
theorem left_nil {n : Nat} {listed : Array Bool} {ord : List Nat} (h : Left n listed ord) (hall : ∀ i, i < n → listed.getD i false = true) : ord = [] := by
 cases ord with
 | nil => rfl
 | cons i r =>
  obtain ⟨h1, h2⟩ := (h.1 i).1 (by simp)
  rw [hall i h1] at h2; cases h2
theorem pairOk_get {l : List (Option (Nat × Bool) × I)} {preds : List Nat} : ∀ {ord : List Nat}, pairOk l preds ord = true → OrdOk l preds ord
 | [], _ => List.Pairwise.nil
 | i :: r, h => by
  simp only [pairOk, Bool.and_eq_true, List.all_eq_true] at h
  exact List.pairwise_cons.2 ⟨h.1, pairOk_get h.2⟩
theorem dok_ord {ops : List Oper} {l : List (Option (Nat × Bool) × I)} (hlen : l.length = ops.length) (h : dokAll l (predsOf ops [] ops) ops.length = true) : OrdOk l (predsOf ops [] ops) (List.range ops.length) := by
 refine List.Pairwise.imp_of_mem (fun {i j} hi hj hij => ?_) List.pairwise_lt_range
 have hi := List.mem_range.1 hi
 have hj := List.mem_range.1 hj
 have hrow := dokAll_get h hj l[j] (List.getElem?_eq_getElem (by omega))
 simp only [okBit, Bool.or_eq_true]
 rcases dokRow_get hrow hij with h1 | h1
 ·exact .inl h1
 ·refine .inr ?_
  have := h1 l[i] (List.getElem?_eq_getElem (by omega))
  simpa [List.getD, List.getElem?_eq_getElem (show i < l.length by omega), List.getElem?_eq_getElem (show j < l.length by omega)] using this
theorem regd_any (hG : E.G = c.G) (hC : ∀ f args r, E.C f args r → Ev c.P c.G f args r) (hT : ∀ t ty, T t = some ty → chkTy c.P t ty = true) {ops : Array Oper} {l : List (Option (Nat × Bool) × I)} (htr : trOps T ops.toList = some l)
  (hdst : ∀ o ∈ ops.toList, ∀ d, o.dst = some d → c.D d) (hdok : dok ops.toList l = true) {F : Fence} (hF : FW F) (m : Nat) (Q : Exit → Act → World → Prop) {K : St → Prop} (hK : Blind K) (hQ : ∀ a w, Goes c K a w → Q .normal a w)
  (h : Sim c st tmps w S ρ) (hA : aopsN E l K st) : wpAnyIn F m c.P .any ops Q ops.size (Array.replicate ops.size false) ⟨tmps, c.ds⟩ w := by
 obtain ⟨hlen, _⟩ := trOps_get htr
 simp only [dok, Bool.and_eq_true] at hdok
 obtain ⟨hedge, hall⟩ := hdok
 have hpreds := predsOf_ok (ops := ops.toList) ops.toList [] (by simp) (fun k => by intro _ _ _ j hj; simp at hj)
 have hfalse : ∀ i, (Array.replicate ops.size false).getD i false = false := by
  intro i
  simp only [Array.getD_eq_getD_getElem?, Array.getElem?_replicate]
  split <;> rfl
 refine regd_inv hG hC hT htr hdst hedge hF m Q hQ (HH1 E l (predsOf ops.toList [] ops.toList) ops.size K) ?_ ?_ ops.size _ (by simp) ?_ ?_ h ?_
 ·rintro listed st hsz hl ⟨ord, hL, _, hA⟩
  rw [left_nil hL hl] at hA
  exact hA
 ·intro listed st i hsz hin hi1 hed hcl hl' hA
  exact HH1_step hK hpreds hin hi1 hed hcl hl' hA
 ·refine Nat.le_trans (List.length_filter_le _ _) (by simp)
 ·intro k hk
  simp only [hfalse] at hk; cases hk
 ·refine ⟨List.range ops.size, ⟨fun j => ?_, List.nodup_range⟩, ?_, ?_⟩
  ·rw [hfalse]; simp
  ·have := dok_ord hlen hall
   rwa [Array.length_toList] at this
  ·have hmap : (List.range ops.size).map (fun i => l.getD i default) = l := by
     simp only [Array.length_toList] at hlen
     apply List.ext_getElem
     ·simp [hlen]
     ·intro i h1 h2
      simp [List.getD, List.getElem?_eq_getElem h2]
   rw [hmap]; exact hA
theorem regd2_any (hG : E.G = c.G) (hC : ∀ f args r, E.C f args r → Ev c.P c.G f args r) (hT : ∀ t ty, T t = some ty → chkTy c.P t ty = true) {ops : Array Oper} {l : List (Option (Nat × Bool) × I)} (htr : trOps T ops.toList = some l)
  (hdst : ∀ o ∈ ops.toList, ∀ d, o.dst = some d → c.D d) {ps rs : List Nat} {ia ib : Nat} (hdok : dok2 ops.toList l ps ia ib rs = true) (hsp : ∀ k, k ∈ ps ++ ia :: ib :: rs ↔ k < ops.size) (hnd : (ps ++ ia :: ib :: rs).Nodup) (hrs : ∀ k ∈ rs, ((predsOf ops.toList [] ops.toList).getD k 0).testBit ia = true ∨ ((predsOf ops.toList [] ops.toList).getD k 0).testBit ib = true) {F : Fence} (hF : FW F) (m : Nat) (Q : Exit → Act → World → Prop) {K : St → Prop} (hK : Blind K) (hQ : ∀ a w, Goes c K a w → Q .normal a w)
  (h : Sim c st tmps w S ρ) (hA : aopsN E (ps.map fun i => l.getD i default) (fun s => aopsN E ((ia :: ib :: rs).map fun i => l.getD i default) K s ∧ aopsN E ((ib :: ia :: rs).map fun i => l.getD i default) K s) st) : wpAnyIn F m c.P .any ops Q ops.size (Array.replicate ops.size false) ⟨tmps, c.ds⟩ w := by
 simp only [dok2, Bool.and_eq_true] at hdok
 obtain ⟨⟨hedge, ho1⟩, ho2⟩ := hdok
 have hpreds := predsOf_ok (ops := ops.toList) ops.toList [] (by simp) (fun k => by intro _ _ _ j hj; simp at hj)
 have hfalse : ∀ i, (Array.replicate ops.size false).getD i false = false := by
  intro i
  simp only [Array.getD_eq_getD_getElem?, Array.getElem?_replicate]
  split <;> rfl
 refine regd_inv hG hC hT htr hdst hedge hF m Q hQ (HH2 E l (predsOf ops.toList [] ops.toList) ops.size ia ib rs K) ?_ ?_ ops.size _ (by simp) ?_ ?_ h ?_
 ·rintro listed st hsz hl (⟨ord, hL, _, hA⟩ | ⟨p, hL, _⟩)
  ·rw [left_nil hL hl] at hA
   exact hA
  ·have := left_nil hL hl
   simp at this
 ·intro listed st i hsz hin hi1 hed hcl hl' hA
  exact HH2_step hK hpreds hrs hin hi1 hed hcl hl' hA
 ·refine Nat.le_trans (List.length_filter_le _ _) (by simp)
 ·intro k hk
  simp only [hfalse] at hk; cases hk
 ·exact .inr ⟨ps, ⟨fun j => by rw [hfalse, hsp]; simp, hnd⟩, pairOk_get ho1, pairOk_get ho2, hA⟩
end Go.Abs
end
section
namespace Go.Abs
open Go.RowKit
variable {c : Ctx} {st : St} {tmps : Array Value} {w : World} {S : Safe} {ρ : Rho} {E : AEnv} {T : Nat → Option Ty}
theorem chkF_congr {F : List Nat} {st st1 : St} {o : I} (h : ∀ k ∈ rdsOf o, getS st.slots k = getS st1.slots k) (hc : chkF F st o) : chkF F st1 o := by
 cases o <;> simp only [chkF] at hc ⊢ <;> first | trivial | exact hc | skip
 case ld d ag n x => simp only [rdsOf] at h; rw [← ev_congr h]; exact hc
 case st n a x => simp only [rdsOf] at h; rw [← ev_congr fun k hk => h k (by simp [hk])]; exact hc
theorem slot_keep {e : Eff} {o : I} {l : List Nat} (hs : e.slot.map (·.1) = wrOf o) (hw : slotApart (wrOf o) l = true) (st : St) : ∀ k ∈ l, getS (e.app st).slots k = getS st.slots k := by
 intro k hk
 simp only [Eff.app, getS_app]
 cases hsl : e.slot with
 | none => rfl
 | some p =>
  obtain ⟨d, v⟩ := p
  rw [hsl] at hs
  simp only [Option.map_some] at hs
  rw [← hs] at hw
  simp only [slotApart, Bool.not_eq_true', List.contains_eq_mem, decide_eq_false_iff_not] at hw
  simp only
  rw [if_neg]
  rintro rfl
  exact hw hk
theorem ld_congr {gi : Option (Nat × Bool)} {d : Nat} {ag : Bool} {n : Nat} {x : X} {st st1 : St} {e : Eff} (h : ∀ k ∈ gRds gi ++ rdsOf (.ld d ag n x), getS st.slots k = getS st1.slots k) (hm : ∀ s o, ev st x = .ptr s o → getM st.mem s = getM st1.mem s) (he : ER E gi (.ld d ag n x) st e) : ER E gi (.ld d ag n x) st1 e := by
 obtain ⟨g, hg, v, ob, gs, h1, h2, h3⟩ := he
 have hr : ∀ k ∈ x.rds, getS st.slots k = getS st1.slots k := fun k hk => h k (List.mem_append_right _ hk)
 refine ⟨g, by rw [← guardOf_congr fun k hk => h k (by simp [hk])]; exact hg, v, ob, gs, ?_, h2, h3⟩
 simp only [opv] at h1 ⊢
 rw [← ev_congr hr, ← gd_congr hr]
 split at h1
 ·rename_i s o hv
  have : rdMem st1 s o n = rdMem st s o n := by simp only [rdMem, hm s o hv]
  simp only [this]
  exact h1
 ·exact h1
 ·exact h1
 ·cases h1
theorem app_comm {e1 e2 : Eff} (ht1 : e1.tk = none) (ht2 : e2.tk = none) (hq1 : e1.more = ([], [])) (hq2 : e2.more = ([], [])) (hs : ∀ d v d' v', e1.slot = some (d, v) → e2.slot = some (d', v') → d ≠ d') (hm : ∀ d v d' v', e1.mem = some (d, v) → e2.mem = some (d', v') → d ≠ d') (st : St) : StEq (e2.app (e1.app st)) (e1.app (e2.app st)) := by
 refine ⟨fun k => ?_, fun k => ?_, fun k => ?_⟩
 ·simp only [Eff.app, getS_app]
  cases h1 : e1.slot with
  | none => rfl
  | some p =>
   cases h2 : e2.slot with
   | none => rfl
   | some q =>
    have := hs _ _ _ _ h1 h2
    simp only
    by_cases hk : p.1 = k
    ·have : ¬ q.1 = k := fun e => this (hk.trans e.symm)
     rw [if_neg this, if_pos hk]
     rw [if_pos hk]
    ·rw [if_neg hk, if_neg hk]
 ·simp only [Eff.app, getM_app, hq1, hq2, List.nil_append]
  cases h1 : e1.mem with
  | none => rfl
  | some p =>
   cases h2 : e2.mem with
   | none => rfl
   | some q =>
    have := hm _ _ _ _ h1 h2
    simp only
    by_cases hk : p.1 = k
    ·have : ¬ q.1 = k := fun e => this (hk.trans e.symm)
     rw [if_neg this, if_pos hk]
     rw [if_pos hk]
    ·rw [if_neg hk, if_neg hk]
 ·simp only [Eff.app, ht1, ht2, hq1, hq2, tkApp, List.nil_append]
theorem swapNF {F : List Nat} {a b : Option (Nat × Bool) × I} (hab : apartF a b = true) {K : St → Prop} (hK : Blind K) {st : St} (h : chkF F st a.2 ∧ aopN E a.1 a.2 st fun s => chkF F s b.2 ∧ aopN E b.1 b.2 s K) : chkF F st b.2 ∧ aopN E b.1 b.2 st fun s => chkF F s a.2 ∧ aopN E a.1 a.2 s K := by
 obtain ⟨ca, h⟩ := h
 obtain ⟨e1, h1, cb, h2⟩ := aopN_iff.1 h
 obtain ⟨e2, h3, h4⟩ := aopN_iff.1 h2
 obtain ⟨s1, m1, t1, q1⟩ := ER_shape h1
 obtain ⟨s2, m2, t2, q2⟩ := ER_shape h3
 have key : ∀ (hw : slotApart (wrOf a.2) (gRds b.1 ++ rdsOf b.2) = true) (hw' : slotApart (wrOf b.2) (gRds a.1 ++ rdsOf a.2) = true), chkF F st b.2 ∧ chkF F (e2.app st) a.2 := fun hw hw' =>
  ⟨chkF_congr (fun k hk => slot_keep s1 hw st k (by simp [hk])) cb, chkF_congr (fun k hk => (slot_keep s2 hw' st k (by simp [hk])).symm) ca⟩
 simp only [apartF, Bool.or_eq_true] at hab
 rcases hab with hab | hab
 ·have hab' := hab
  simp only [apart, Bool.and_eq_true] at hab'
  obtain ⟨⟨⟨_, hw⟩, hw'⟩, _⟩ := hab'
  obtain ⟨k1, _⟩ := key hw hw'
  have hsw := swapN hab (K := fun s => chkF F st b.2 → K s) (fun s s1 he hs hc => hK s s1 he (hs hc)) (aopN_mono (fun s hs => aopN_mono (fun _ hk _ => hk) hs.2) h)
  obtain ⟨f2, g1, g2⟩ := aopN_iff.1 hsw
  refine ⟨k1, aopN_iff.2 ⟨f2, g1, ?_, aopN_mono (fun s hs => hs k1) g2⟩⟩
  exact chkF_congr (fun k hk => (slot_keep (ER_shape g1).1 hw' st k (by simp [hk])).symm) ca
 ·simp only [Bool.and_eq_true] at hab
  obtain ⟨⟨⟨hp, hw⟩, hw'⟩, hww⟩ := hab
  obtain ⟨k1, k2⟩ := key hw hw'
  have hsd : ∀ d v d' v', e1.slot = some (d, v) → e2.slot = some (d', v') → d ≠ d' := by
   intro d v d' v' x y e
   rw [x] at s1; rw [y] at s2
   simp only [Option.map_some] at s1 s2
   rw [← s1, ← s2] at hww
   subst e
   simp [slotApart] at hww
  obtain ⟨ga, oa⟩ := a
  obtain ⟨gb, ob⟩ := b
  cases oa <;> cases ob <;> simp only [pairF, Bool.false_eq_true] at hp
  case ld.st d ag n x n' a' x' =>
   have ht1 : e1.tk = none := by cases hm : e1.tk with | none => rfl | some p => (have := t1 (by simp [hm]); cases this)
   have ht2 : e2.tk = none := by cases hm : e2.tk with | none => rfl | some p => (have := t2 (by simp [hm]); cases this)
   have hq1 : e1.more = ([], []) := by by_cases hm : e1.more = ([], []); exact hm; (have := q1 hm; cases this)
   have hq2 : e2.more = ([], []) := by by_cases hm : e2.more = ([], []); exact hm; (have := q2 hm; cases this)
   have hm1 : e1.mem = none := by cases hm : e1.mem with | none => rfl | some p => (have := m1 (by simp [hm]); cases this)
   have h3' : ER E gb (.st n' a' x') st e2 := ER_congr ⟨slot_keep s1 hw st, fun _ s => by simp only [Eff.app, hm1, hq1, Option.toList_none, List.nil_append], fun ht => by simp [kindOf] at ht⟩ h3
   refine ⟨k1, aopN_iff.2 ⟨e2, h3', k2, aopN_iff.2 ⟨e1, ?_, hK _ _ (app_comm ht1 ht2 hq1 hq2 hsd (fun d v d' v' x => by rw [hm1] at x; cases x) st) h4⟩⟩⟩
   refine ld_congr (fun k hk => (slot_keep s2 hw' st k hk).symm) ?_ h1
   intro s o he
   obtain ⟨g, hg, s', off, cs, i1, i2, i3, rfl⟩ := h3'
   simp only [chkF, he] at ca
   simp only [chkF, i1] at k1
   simp only [Eff.app, Option.toList_some, List.nil_append, List.cons_append, getM]
   rw [if_neg]
   rintro rfl
   rw [ca] at k1; cases k1
  case st.ld n' a' x' d ag n x =>
   have ht1 : e1.tk = none := by cases hm : e1.tk with | none => rfl | some p => (have := t1 (by simp [hm]); cases this)
   have ht2 : e2.tk = none := by cases hm : e2.tk with | none => rfl | some p => (have := t2 (by simp [hm]); cases this)
   have hq1 : e1.more = ([], []) := by by_cases hm : e1.more = ([], []); exact hm; (have := q1 hm; cases this)
   have hq2 : e2.more = ([], []) := by by_cases hm : e2.more = ([], []); exact hm; (have := q2 hm; cases this)
   have hm2 : e2.mem = none := by cases hm : e2.mem with | none => rfl | some p => (have := m2 (by simp [hm]); cases this)
   have h3' : ER E gb (.ld d ag n x) st e2 := by
    refine ld_congr (slot_keep s1 hw st) ?_ h3
    intro s o he
    obtain ⟨g, hg, s', off, cs, i1, i2, i3, rfl⟩ := h1
    simp only [chkF, he] at cb
    simp only [chkF, i1] at ca
    simp only [Eff.app, Option.toList_some, List.nil_append, List.cons_append, getM]
    rw [if_neg]
    rintro rfl
    rw [cb] at ca; cases ca
   refine ⟨k1, aopN_iff.2 ⟨e2, h3', k2, aopN_iff.2 ⟨e1, ?_, hK _ _ (app_comm ht1 ht2 hq1 hq2 hsd (fun d v d' v' _ x => by rw [hm2] at x; cases x) st) h4⟩⟩⟩
   exact ER_congr ⟨fun k hk => (slot_keep s2 hw' st k hk).symm, fun _ s => by simp only [Eff.app, hm2, hq2, Option.toList_none, List.nil_append], fun ht => by simp [kindOf] at ht⟩ h1
  case alloc.ld s0 zs d ag n x =>
   have ht1 : e1.tk = none := by cases hm : e1.tk with | none => rfl | some p => (have := t1 (by simp [hm]); cases this)
   have ht2 : e2.tk = none := by cases hm : e2.tk with | none => rfl | some p => (have := t2 (by simp [hm]); cases this)
   have hq1 : e1.more = ([], []) := by by_cases hm : e1.more = ([], []); exact hm; (have := q1 hm; cases this)
   have hq2 : e2.more = ([], []) := by by_cases hm : e2.more = ([], []); exact hm; (have := q2 hm; cases this)
   have hm2 : e2.mem = none := by cases hm : e2.mem with | none => rfl | some p => (have := m2 (by simp [hm]); cases this)
   have h3' : ER E gb (.ld d ag n x) st e2 := by
    refine ld_congr (slot_keep s1 hw st) ?_ h3
    intro s o he
    obtain ⟨g, hg, i1, i2, rfl⟩ := h1
    simp only [chkF, he] at cb
    simp only [chkF] at ca
    simp only [Eff.app, Option.toList_some, List.nil_append, List.cons_append, getM]
    rw [if_neg]
    rintro rfl
    rw [cb] at ca; cases ca
   refine ⟨k1, aopN_iff.2 ⟨e2, h3', k2, aopN_iff.2 ⟨e1, ?_, hK _ _ (app_comm ht1 ht2 hq1 hq2 hsd (fun d v d' v' _ x => by rw [hm2] at x; cases x) st) h4⟩⟩⟩
   exact ER_congr ⟨fun k hk => (slot_keep s2 hw' st k hk).symm, fun _ s => by simp only [Eff.app, hm2, hq2, Option.toList_none, List.nil_append], fun ht => by simp [kindOf] at ht⟩ h1
  case alloc.alloc s0 zs s0' zs' =>
   have ht1 : e1.tk = none := by cases hm : e1.tk with | none => rfl | some p => (have := t1 (by simp [hm]); cases this)
   have ht2 : e2.tk = none := by cases hm : e2.tk with | none => rfl | some p => (have := t2 (by simp [hm]); cases this)
   have hq1 : e1.more = ([], []) := by by_cases hm : e1.more = ([], []); exact hm; (have := q1 hm; cases this)
   have hq2 : e2.more = ([], []) := by by_cases hm : e2.more = ([], []); exact hm; (have := q2 hm; cases this)
   obtain ⟨g, hg, i1, i2, r1⟩ := h1
   obtain ⟨g', hg', j1, j2, r2⟩ := h3
   have hne : s0 ≠ s0' := by
    have := hsd s0 (.ptr s0 0) s0' (.ptr s0' 0) (by rw [r1]) (by rw [r2])
    exact this
   have j2' : getM st.mem s0' = none := by
    rw [r1] at j2
    simp only [Eff.app, Option.toList_some, List.nil_append, List.cons_append, getM] at j2
    rwa [if_neg hne] at j2
   have h3' : ER E gb (.alloc s0' zs') st e2 := ⟨g', by rw [← guardOf_congr fun k hk => slot_keep s1 hw st k (by simp [hk])]; exact hg', j1, j2', r2⟩
   refine ⟨k1, aopN_iff.2 ⟨e2, h3', k2, aopN_iff.2 ⟨e1, ⟨g, ?_, i1, ?_, r1⟩, hK _ _ (app_comm ht1 ht2 hq1 hq2 hsd (fun d v d' v' x y => ?_) st) h4⟩⟩⟩
   ·rw [guardOf_congr fun k hk => slot_keep s2 hw' st k (by simp [hk])]; exact hg
   ·rw [r2]
    simp only [Eff.app, Option.toList_some, List.nil_append, List.cons_append, getM]
    rw [if_neg fun e => hne e.symm]; exact i2
   ·rw [r1] at x; rw [r2] at y
    simp only [Option.some.injEq, Prod.mk.injEq] at x y
    rw [← x.1, ← y.1]; exact hne
theorem aopsNF_blind {F : List Nat} {K : St → Prop} (hK : Blind K) : ∀ l, Blind (aopsNF F E l K)
 | [] => hK
 | (g, o) :: os => fun s s1 he h => ⟨chkF_congr (fun k _ => he.slots k) h.1, aopN_blind (aopsNF_blind hK os) s s1 he h.2⟩
theorem frontNF {F : List Nat} {α : Type} {f : α → Option (Nat × Bool) × I} {x : α} {post : List (Option (Nat × Bool) × I)} {K : St → Prop} (hK : Blind K) : ∀ {pre : List α} {st : St}, (∀ j ∈ pre, apartF (f j) (f x) = true) → aopsNF F E (pre.map f ++ f x :: post) K st → aopsNF F E (f x :: (pre.map f ++ post)) K st
 | [], _, _, h => h
 | j :: pre, st, hp, h => by
  simp only [List.map_cons, List.cons_append, aopsNF] at h ⊢
  have h' : aopN E (f j).1 (f j).2 st (aopsNF F E (f x :: (pre.map f ++ post)) K) := aopN_mono (fun s hs => frontNF hK (fun k hk => hp k (by simp [hk])) hs) h.2
  have := swapNF (F := F) (hp j (by simp)) (aopsNF_blind hK (pre.map f ++ post)) ⟨h.1, by simpa only [aopsNF] using h'⟩
  simpa only [aopsNF] using this
def OrdOkF (l : List (Option (Nat × Bool) × I)) (preds : List Nat) (ord : List Nat) : Prop := ord.Pairwise fun i j => okBitF l preds i j = true
theorem pairOkF_get {l : List (Option (Nat × Bool) × I)} {preds : List Nat} : ∀ {ord : List Nat}, pairOkF l preds ord = true → OrdOkF l preds ord
 | [], _ => List.Pairwise.nil
 | i :: r, h => by
  simp only [pairOkF, Bool.and_eq_true, List.all_eq_true] at h
  exact List.pairwise_cons.2 ⟨h.1, pairOkF_get h.2⟩
def HHF (F : List Nat) (E : AEnv) (l : List (Option (Nat × Bool) × I)) (preds : List Nat) (n : Nat) (K : St → Prop) (listed : Array Bool) (st : St) : Prop :=
 ∃ ord, Left n listed ord ∧ OrdOkF l preds ord ∧ aopsNF F E (ord.map fun i => l.getD i default) K st
theorem HHF_step {F : List Nat} {l : List (Option (Nat × Bool) × I)} {preds : List Nat} {n : Nat} {K : St → Prop} (hK : Blind K) {ops : List Oper} (hpreds : ∀ k, PredsOk ops k (preds.getD k 0)) {listed listed' : Array Bool} {i : Nat} (hin : i < n) (hi1 : listed.getD i false = false)
  (hed : EdgesIn ops (fun i => listed.getD i false) i) (hcl : ClosedL ops (fun i => listed.getD i false)) (hl' : ∀ j, listed'.getD j false = (decide (j = i) || listed.getD j false)) (h : HHF F E l preds n K listed st) : ∃ rest K', aopsN E (l.getD i default :: rest) K' st ∧ ∀ st', aopsN E rest K' st' → HHF F E l preds n K listed' st' := by
 obtain ⟨ord, hL, hO, hA⟩ := h
 obtain ⟨pre, post, rfl⟩ := List.append_of_mem ((hL.1 i).2 ⟨hin, hi1⟩)
 have hpo := List.pairwise_append.1 hO
 have hap : ∀ j ∈ pre, apartF (l.getD j default) (l.getD i default) = true := by
  intro j hj
  have := hpo.2.2 j hj i (by simp)
  simp only [okBitF, Bool.or_eq_true] at this
  rcases this with h1 | h1
  ·have := hpreds i _ hcl hed j h1
   rw [((hL.1 j).1 (by simp [hj])).2] at this; cases this
  ·exact h1
 rw [List.map_append, List.map_cons] at hA
 have hfr := frontNF (x := i) hK hap hA
 refine ⟨[], aopsNF F E (pre.map (fun i => l.getD i default) ++ post.map fun i => l.getD i default) K, hfr.2, fun st' hs => ⟨pre ++ post, hL.take hl', ?_, by rw [List.map_append]; exact hs⟩⟩
 exact List.pairwise_append.2 ⟨hpo.1, (List.pairwise_cons.1 hpo.2.1).2, fun x hx y hy => hpo.2.2 x hx y (by simp [hy])⟩
theorem regn_any {F' : List Nat} (hG : E.G = c.G) (hC : ∀ f args r, E.C f args r → Ev c.P c.G f args r) (hT : ∀ t ty, T t = some ty → chkTy c.P t ty = true) {ops : Array Oper} {l : List (Option (Nat × Bool) × I)} (htr : trOps T ops.toList = some l)
  (hdst : ∀ o ∈ ops.toList, ∀ d, o.dst = some d → c.D d) (hedge : edgesOk 0 ops.toList = true) (hall : pairOkF l (predsOf ops.toList [] ops.toList) (List.range ops.toList.length) = true) {F : Fence} (hF : FW F) (m : Nat) (Q : Exit → Act → World → Prop) {K : St → Prop} (hK : Blind K) (hQ : ∀ a w, Goes c K a w → Q .normal a w)
  (h : Sim c st tmps w S ρ) (hA : aopsNF F' E l K st) : wpAnyIn F m c.P .any ops Q ops.size (Array.replicate ops.size false) ⟨tmps, c.ds⟩ w := by
 obtain ⟨hlen, _⟩ := trOps_get htr
 have hpreds := predsOf_ok (ops := ops.toList) ops.toList [] (by simp) (fun k => by intro _ _ _ j hj; simp at hj)
 have hfalse : ∀ i, (Array.replicate ops.size false).getD i false = false := by
  intro i
  simp only [Array.getD_eq_getD_getElem?, Array.getElem?_replicate]
  split <;> rfl
 refine regd_inv hG hC hT htr hdst hedge hF m Q hQ (HHF F' E l (predsOf ops.toList [] ops.toList) ops.size K) ?_ ?_ ops.size _ (by simp) ?_ ?_ h ?_
 ·rintro listed st hsz hl ⟨ord, hL, _, hA⟩
  rw [left_nil hL hl] at hA
  exact hA
 ·intro listed st i hsz hin hi1 hed hcl hl' hA
  exact HHF_step hK hpreds hin hi1 hed hcl hl' hA
 ·refine Nat.le_trans (List.length_filter_le _ _) (by simp)
 ·intro k hk
  simp only [hfalse] at hk; cases hk
 ·refine ⟨List.range ops.size, ⟨fun j => ?_, List.nodup_range⟩, ?_, ?_⟩
  ·rw [hfalse]; simp
  ·have := pairOkF_get hall
   rwa [Array.length_toList] at this
  ·have hmap : (List.range ops.size).map (fun i => l.getD i default) = l := by
     simp only [Array.length_toList] at hlen
     apply List.ext_getElem
     ·simp [hlen]
     ·intro i h1 h2
      simp [List.getD, List.getElem?_eq_getElem h2]
   rw [hmap]; exact hA
end Go.Abs
end
section
namespace Go.Abs
open Go.RowKit
variable {c : Ctx} {st : St} {tmps : Array Value} {w : World} {S : Safe} {ρ : Rho} {E : AEnv} {T : Nat → Option Ty}
theorem Sim.eq {s s0 : St} (he : StEq s0 s) (h : Sim c s tmps w S ρ) : Sim c s0 tmps w S ρ := by
 refine { h with slots := fun k => by rw [he.slots]; exact h.slots k, mem := fun s cs hs => h.mem s cs (by rw [← he.mem]; exact hs), boxNew := fun s hs => h.boxNew s (by rw [← he.mem]; exact hs), mps := { at' := fun s k e kvs hs => h.mps.at' s k e kvs (by rw [← he.mem]; exact hs), inj := h.mps.inj, new := fun s hs => h.mps.new s (by rw [← he.mem]; exact hs), lt := h.mps.lt, apart := h.mps.apart }, tok := fun t ht => ?_, tokNew := fun t ht => h.tokNew t (by rw [← he.tk]; exact ht) }
 obtain ⟨x, g1, g2⟩ := h.tok t (by rw [← he.tk]; exact ht)
 refine ⟨x, g1, ?_⟩
 rcases g2 with g2 | ⟨b, k0, k1, k2, k3, k4, k5, k6, k7⟩
 ·exact .inl g2
 ·exact .inr ⟨b, k0, k1, k2, k3, k4, k5, k6, fun t' b' z hne ht' htok hz => k7 t' b' z hne (by rw [← he.tk]; exact ht') htok hz⟩
abbrev FR (ro : Option Nat) : Fence := { Fence.wide with round := ro }
theorem FR.fw (ro : Option Nat) : FW (FR ro) := ⟨fun _ => trivial, rfl, rfl⟩
theorem regd_sound (hG : E.G = c.G) (hC : ∀ f args r, E.C f args r → Ev c.P c.G f args r) (hT : ∀ t ty, T t = some ty → chkTy c.P t ty = true) (hm : c.P.follows .mixedOrders = true) {ops : Array Oper} {l : List (Option (Nat × Bool) × I)} (htr : trOps T ops.toList = some l)
  (hdst : ∀ o ∈ ops.toList, ∀ d, o.dst = some d → c.D d) (hdok : dok ops.toList l = true) {F : Fence} (hF : FW F) (m : Nat) (Q : Exit → Act → World → Prop) {K : St → Prop} (hQ : ∀ a w, Goes c K a w → Q .normal a w) {id : Nat} (h : Sim c st tmps w S ρ) (hK : aopsN E l K st) : (Code.region id ops true).wpIn F m c.P Q ⟨tmps, c.ds⟩ w := by
 refine wpIn_region_any hm ?_
 have hs : Sim c st tmps w.drew S ρ := h.grow ((Below.refl _ _).drew) (fun _ _ hs => hs) (fun _ _ hs => .inl hs) (fun b o hs => h.live b o hs)
 refine regd_any hG hC hT htr hdst hdok hF m Q (K := fun s => ∃ s0, StEq s0 s ∧ K s0) ?_ ?_ hs ?_
 ·rintro s s1 he ⟨s0, he0, hk⟩
  exact ⟨s0, ⟨fun k => (he0.slots k).trans (he.slots k), fun k => (he0.mem k).trans (he.mem k), fun k => (he0.tk k).trans (he.tk k)⟩, hk⟩
 ·rintro a w' ⟨hd, st', S', ρ', hs', s0, he, hk⟩
  exact hQ a w' ⟨hd, s0, S', ρ', hs'.eq he, hk⟩
 ·exact aopsN_mono l (fun s hs => ⟨s, ⟨fun _ => rfl, fun _ => rfl, fun _ => rfl⟩, hs⟩) hK
theorem reg2_some {ops : List Oper} {l : List (Option (Nat × Bool) × I)} {ac : AC} (h : reg2 ops l = some ac) : ∃ ps ia ib rs, ac = .regd2 (ps.map fun i => l.getD i default) (l.getD ia default) (l.getD ib default) (rs.map fun i => l.getD i default) ∧ dok2 ops l ps ia ib rs = true ∧
  (∀ k, k ∈ ps ++ ia :: ib :: rs ↔ k < ops.length) ∧ (ps ++ ia :: ib :: rs).Nodup ∧ ∀ k ∈ rs, ((predsOf ops [] ops).getD k 0).testBit ia = true ∨ ((predsOf ops [] ops).getD k 0).testBit ib = true := by
 unfold reg2 at h
 split at h
 ·cases h
 ·rename_i ia ib _
  simp only at h
  split at h
  ·rename_i hc
   simp only [Option.some.injEq] at h
   simp only [Bool.and_eq_true, decide_eq_true_eq, bne_iff_ne, ne_eq] at hc
   obtain ⟨⟨⟨ha, hb⟩, hab⟩, hd⟩ := hc
   refine ⟨_, ia, ib, _, h.symm, hd, fun k => ?_, ?_, fun k hk => ?_⟩
   ·simp only [List.mem_append, List.mem_cons, List.mem_filter, List.mem_range, Bool.and_eq_true, bne_iff_ne, ne_eq, Bool.not_eq_true']
    by_cases h1 : k = ia
    ·subst h1; simp [ha]
    ·by_cases h2 : k = ib
     ·subst h2; simp [hb]
     ·simp only [h1, h2, not_false_eq_true, true_and, false_or]
      cases dep2 (predsOf ops [] ops) ia ib k <;> simp
   ·refine List.nodup_append.2 ⟨List.nodup_range.filter _, List.nodup_cons.2 ⟨?_, List.nodup_cons.2 ⟨?_, List.nodup_range.filter _⟩⟩, ?_⟩
    ·simp only [List.mem_cons, List.mem_filter, not_or]
     exact ⟨hab, by simp⟩
    ·simp
    ·intro x hx y hy hxy
     subst hxy
     simp only [List.mem_filter, Bool.and_eq_true, bne_iff_ne, ne_eq, Bool.not_eq_true'] at hx
     simp only [List.mem_cons, List.mem_filter, Bool.and_eq_true] at hy
     rcases hy with hy | hy | hy
     ·exact hx.2.1.1 hy
     ·exact hx.2.1.2 hy
     ·rw [hx.2.2] at hy; cases hy.2.2
   ·simp only [List.mem_filter, Bool.and_eq_true, dep2, Bool.or_eq_true] at hk
    exact hk.2.2
  ·cases h
theorem regd2_sound (hG : E.G = c.G) (hC : ∀ f args r, E.C f args r → Ev c.P c.G f args r) (hT : ∀ t ty, T t = some ty → chkTy c.P t ty = true) (hm : c.P.follows .mixedOrders = true) {ops : Array Oper} {l : List (Option (Nat × Bool) × I)} (htr : trOps T ops.toList = some l)
  (hdst : ∀ o ∈ ops.toList, ∀ d, o.dst = some d → c.D d) {ac : AC} (hdok : reg2 ops.toList l = some ac) {F : Fence} (hF : FW F) (m : Nat) {Q' : AX → St → Prop} (Q : Exit → Act → World → Prop) (hQ : ∀ a w, Goes c (Q' .normal) a w → Q .normal a w) {id : Nat} (h : Sim c st tmps w S ρ) (hK : awp E ac Q' st) : (Code.region id ops true).wpIn F m c.P Q ⟨tmps, c.ds⟩ w := by
 refine wpIn_region_any hm ?_
 obtain ⟨ps, ia, ib, rs, rfl, hd, hsp, hnd, hrs⟩ := reg2_some hdok
 have hs : Sim c st tmps w.drew S ρ := h.grow ((Below.refl _ _).drew) (fun _ _ hs => hs) (fun _ _ hs => .inl hs) (fun b o hs => h.live b o hs)
 refine regd2_any hG hC hT htr hdst hd (by simpa using hsp) hnd hrs hF m Q (K := fun s => ∃ s0, StEq s0 s ∧ Q' .normal s0) ?_ ?_ hs ?_
 ·rintro s s1 he ⟨s0, he0, hk⟩
  exact ⟨s0, ⟨fun k => (he0.slots k).trans (he.slots k), fun k => (he0.mem k).trans (he.mem k), fun k => (he0.tk k).trans (he.tk k)⟩, hk⟩
 ·rintro a w' ⟨hd, st', S', ρ', hs', s0, he, hk⟩
  exact hQ a w' ⟨hd, s0, S', ρ', hs'.eq he, hk⟩
 ·have hw : ∀ s, Q' .normal s → ∃ s0, StEq s0 s ∧ Q' .normal s0 := fun s hs => ⟨s, ⟨fun _ => rfl, fun _ => rfl, fun _ => rfl⟩, hs⟩
  exact aopsN_mono _ (fun s hs => ⟨aopsN_mono _ hw hs.1, aopsN_mono _ hw hs.2⟩) hK
theorem wrs_reg2 {ops : List Oper} {l : List (Option (Nat × Bool) × I)} (hlen : l.length = ops.length) {ac : AC} (hdok : reg2 ops l = some ac) : ∀ d ∈ l.filterMap (fun p => wrOf p.2), d ∈ ac.wrs := by
 obtain ⟨ps, ia, ib, rs, rfl, _, hsp, _⟩ := reg2_some hdok
 intro d hd
 obtain ⟨x, hx, hxd⟩ := List.mem_filterMap.1 hd
 obtain ⟨k, hk, rfl⟩ := List.getElem_of_mem hx
 simp only [AC.wrs]
 refine List.mem_filterMap.2 ⟨_, ?_, hxd⟩
 have := (hsp k).2 (by omega)
 have he : l[k] = l.getD k default := by simp [List.getD, List.getElem?_eq_getElem hk]
 rw [he]
 have h2 : l.getD k default ∈ (ps ++ ia :: ib :: rs).map (fun i => l.getD i default) := List.mem_map_of_mem this
 simpa using h2
theorem reg3_some {ops : List Oper} {l : List (Option (Nat × Bool) × I)} {ac : AC} (h : reg3 ops l = some ac) : (∃ (ps : List Nat) (ia ib : Nat) (rs : List Nat), ac = .regd2 (ps.map fun i => l.getD i default) (l.getD ia default) (l.getD ib default) (rs.map fun i => l.getD i default) ∧ reg2 ops l = some ac) ∨
  (ac = .regn (allocsOf l) l ∧ edgesOk 0 ops = true ∧ pairOkF l (predsOf ops [] ops) (List.range ops.length) = true) := by
 unfold reg3 at h
 split at h
 ·rename_i ac' h2
  cases h
  obtain ⟨ps, ia, ib, rs, h3, _⟩ := reg2_some h2
  exact .inl ⟨ps, ia, ib, rs, h3, h2⟩
 ·unfold regN at h
  split at h
  ·rename_i hc
   simp only [Bool.and_eq_true] at hc
   cases h
   exact .inr ⟨rfl, hc⟩
  ·cases h
theorem regd3_sound (hG : E.G = c.G) (hC : ∀ f args r, E.C f args r → Ev c.P c.G f args r) (hT : ∀ t ty, T t = some ty → chkTy c.P t ty = true) (hm : c.P.follows .mixedOrders = true) {ops : Array Oper} {l : List (Option (Nat × Bool) × I)} (htr : trOps T ops.toList = some l)
  (hdst : ∀ o ∈ ops.toList, ∀ d, o.dst = some d → c.D d) {ac : AC} (hdok : reg3 ops.toList l = some ac) {F : Fence} (hF : FW F) (m : Nat) {Q' : AX → St → Prop} (Q : Exit → Act → World → Prop) (hQ : ∀ a w, Goes c (Q' .normal) a w → Q .normal a w) {id : Nat} (h : Sim c st tmps w S ρ) (hK : awp E ac Q' st) : (Code.region id ops true).wpIn F m c.P Q ⟨tmps, c.ds⟩ w := by
 rcases reg3_some hdok with ⟨_, _, _, _, _, h2⟩ | ⟨rfl, hedge, hall⟩
 ·exact regd2_sound hG hC hT hm htr hdst h2 hF m Q hQ h hK
 ·refine wpIn_region_any hm ?_
  have hs : Sim c st tmps w.drew S ρ := h.grow ((Below.refl _ _).drew) (fun _ _ hs => hs) (fun _ _ hs => .inl hs) (fun b o hs => h.live b o hs)
  refine regn_any (F' := allocsOf l) hG hC hT htr hdst hedge hall hF m Q (K := fun s => ∃ s0, StEq s0 s ∧ Q' .normal s0) ?_ ?_ hs ?_
  ·rintro s s1 he ⟨s0, he0, hk⟩
   exact ⟨s0, ⟨fun k => (he0.slots k).trans (he.slots k), fun k => (he0.mem k).trans (he.mem k), fun k => (he0.tk k).trans (he.tk k)⟩, hk⟩
  ·rintro a w' ⟨hd, st', S', ρ', hs', s0, he, hk⟩
   exact hQ a w' ⟨hd, s0, S', ρ', hs'.eq he, hk⟩
  ·exact aopsNF_mono l (fun s hs => ⟨s, ⟨fun _ => rfl, fun _ => rfl, fun _ => rfl⟩, hs⟩) hK
theorem wrs_reg3 {ops : List Oper} {l : List (Option (Nat × Bool) × I)} (hlen : l.length = ops.length) {ac : AC} (hdok : reg3 ops l = some ac) : ∀ d ∈ l.filterMap (fun p => wrOf p.2), d ∈ ac.wrs := by
 rcases reg3_some hdok with ⟨_, _, _, _, _, h2⟩ | ⟨rfl, _, _⟩
 ·exact wrs_reg2 hlen h2
 ·exact fun d hd => hd
def AX.out : AX → Exit
 | .normal => .normal
 | .exit i => .exit i
 | .ret => .ret
def Inside (F : Fence) (m : Nat) (P : Program) (cd : Code) (R : Exit → Act → World → Prop) (a : Act) (w : World) : Prop :=
 ∀ (b : Frame) (k : List Item) (cs : List Frame), b.roundOf = F.round → F.fn b.fn → F.room (cs.length + 1 + m) →
  ∃ e a' w', R e a' w' ∧ ArrivesIn (Machine.fenced P F) P (lone (b.atR a (.code cd :: .inLoop cd :: k)) cs w) b k cs e a' w'
theorem inside_round {F : Fence} {m : Nat} {P : Program} {cd : Code} {R : Exit → Act → World → Prop} {a : Act} {w : World} (h : cd.wpIn F m P (Exit.then (Inside F m P cd R) R) a w) : Inside F m P cd R a w := by
 intro b k cs hro hb hr
 obtain ⟨e, a₁, w₁, hq, harr⟩ := h b (.inLoop cd :: k) cs hro hb hr
 cases e with
 | normal =>
  obtain ⟨e₂, a₂, w₂, hq₂, harr₂⟩ := hq b k cs hro hb hr
  exact ⟨e₂, a₂, w₂, hq₂, .of_steps (StepsIn.trans harr (.one (fenced_calm hb hr rfl) stepR_inLoop)) harr₂⟩
 | exit id => exact ⟨_, a₁, w₁, hq, .pass (x := .inLoop cd) rfl (fun _ _ => .inl (by simp)) harr⟩
 | goto l => exact ⟨_, a₁, w₁, hq, .pass (x := .inLoop cd) rfl (fun _ _ => .inl (by simp)) harr⟩
 | ret => exact ⟨_, a₁, w₁, hq, .pass (x := .inLoop cd) rfl (fun _ _ => .inl (by simp)) harr⟩
 | panic ch => exact ⟨_, a₁, w₁, hq, .pass (x := .inLoop cd) rfl (fun _ _ => .inl (by simp)) harr⟩
 | outgrown => exact ⟨_, a₁, w₁, hq, .pass (x := .inLoop cd) rfl (fun _ _ => .inl (by simp)) harr⟩
theorem wp_loop_inside {F : Fence} {m : Nat} {P : Program} {cd : Code} {R : Exit → Act → World → Prop} {a : Act} {w : World} (h : Inside F m P cd R a w) : (Code.loop cd).wpIn F m P R a w := by
 intro b k cs hro hb hr
 obtain ⟨e, a', w', hq, harr⟩ := h b k cs hro hb hr
 exact ⟨e, a', w', hq, .of_steps (.one (fenced_calm hb hr rfl) stepR_loop) harr⟩
def Grows (w : World) (S : Safe) (w' : World) (S' : Safe) : Prop :=
 Below w.heap.size w w' ∧ (∀ b o, S b o → S' b o) ∧ (∀ b o, S' b o → S b o ∨ w.heap.size ≤ b) ∧ Live w' S'
def ItOk (P : Program) (G : Nat → Option (List D)) (f : FuncId) (caps : List D) (xs : List (List CV)) : Prop :=
 Enters P f ∧ ∀ (l : Nat) (w : World) (S : Safe) (cs : List Value) (J : List (List CV) → World → Safe → Prop) (Jx : World → Safe → Prop),
  Live w S → GlobOk P G w S → RepL w S caps cs →
  (∀ pre W S1 W' S2, J pre W S1 → Grows W S1 W' S2 → J pre W' S2) →
  (∀ W S1 W' S2, Jx W S1 → Grows W S1 W' S2 → Jx W' S2) →
  (∀ pre W S1, J pre W S1 → Live W S1 ∧ Keeps w S W S1 ∧ Exact P G W) →
  (∀ W S1, Jx W S1 → Live W S1 ∧ P.globals.size ≤ W.heap.size) →
  (∀ pre x rest W S1 vs, xs = pre ++ x :: rest → J pre W S1 → RepCL W S1 x vs → YieldAt Fence.wide 0 P l vs.toArray W fun e W' =>
   (e = .returned (.bool true) ∧ ∃ S2, J (pre ++ [x]) W' S2 ∧ Keeps W S1 W' S2) ∨ (e = .returned (.bool false) ∧ ∃ S2, Jx W' S2)) →
  J [] w S →
  Calls P f (#[.func (.yield l) #[] #[]] ++ cs.toArray) w fun e W' => ∃ v, e = .returned v ∧ ((∃ S2, J xs W' S2) ∨ ∃ S2, Jx W' S2)
def markOf (D : Nat) : Deferred := { target := .collected D, args := #[] }
def Ext (c c' : Ctx) : Prop := ∃ (ob' : List (Nat × Obj)) (Ds : List Nat), c' = { c with ob := ob' ++ c.ob, ds := Ds.map markOf ++ c.ds } ∧ Ds.Nodup ∧ (∀ D ∈ Ds, (D, Obj.deferred (some [])) ∈ ob') ∧
 (∀ p ∈ ob', ∀ q ∈ c.ob, p.1 ≠ q.1) ∧ ∀ p ∈ ob', c.w0.heap.size ≤ p.1
theorem Ext.refl (c : Ctx) : Ext c c := ⟨[], [], by simp, by simp, by simp, by simp, by simp⟩
theorem Ext.trans {a b c : Ctx} (h : Ext a b) (h' : Ext b c) : Ext a c := by
 obtain ⟨o1, d1, rfl, h1, h2, h3, h4⟩ := h
 obtain ⟨o2, d2, rfl, k1, k2, k3, k4⟩ := h'
 simp only at k3 k4
 refine ⟨o2 ++ o1, d2 ++ d1, by simp [List.append_assoc], ?_, ?_, ?_, ?_⟩
 ·refine List.nodup_append.2 ⟨k1, h1, fun x hx y hy hxy => ?_⟩
  subst hxy
  exact k3 _ (k2 x hx) _ (List.mem_append_left _ (h2 x hy)) rfl
 ·intro D hD
  rcases List.mem_append.1 hD with hD | hD
  ·exact List.mem_append_left _ (k2 D hD)
  ·exact List.mem_append_right _ (h2 D hD)
 ·intro p hp q hq
  rcases List.mem_append.1 hp with hp | hp
  ·exact k3 p hp q (List.mem_append_right _ hq)
  ·exact h3 p hp q hq
 ·intro p hp
  rcases List.mem_append.1 hp with hp | hp
  ·exact k4 p hp
  ·exact h4 p hp
end Go.Abs
end
