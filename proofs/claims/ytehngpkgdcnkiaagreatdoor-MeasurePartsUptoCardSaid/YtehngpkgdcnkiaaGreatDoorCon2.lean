/-
  CONTRACTS: what the functions answer, as plain Lean functions, each by evaluation at the abstract machine.
-/
import Derived.Test.YtehngpkgdcnkiaaGreatDoorCon1
set_option linter.unusedSimpArgs false
set_option linter.unusedVariables false
set_option linter.unusedSectionVars false
set_option maxRecDepth 100000
section
namespace Go.Abs
def appVar (o : Int) (ks : List Pred) : Option Str := if o == 4 then (match ks with
 | [.mk o2 x _ _] => if o2 == 3 then some x else none
 | _ => none) else none
theorem appVar_some {o : Int} {ks : List Pred} {x : Str} (h : appVar o ks = some x) : o = 4 ∧ ∃ n l, ks = [.mk 3 x n l] := by
 unfold appVar at h
 split at h
 ·rename_i ho
  refine ⟨by simpa using ho, ?_⟩
  split at h
  ·rename_i o2 y n l
   split at h
   ·rename_i h3
    have h3 : o2 = 3 := by simpa using h3
    cases h
    exact ⟨n, l, by rw [h3]⟩
   ·cases h
  ·cases h
 ·cases h
structure FSt where
 used : List Str
 at' : List Coef
abbrev KFun := Str → Str → Option (Int × Bool)
def sZ : Str := [122]
def FSt.next (K : KFun) (x s : Str) (st : FSt) : FSt := ⟨st.used ++ [freshS st.used sZ], match K x s with
 | some (a, true) => st.at' ++ [⟨freshS st.used sZ, a⟩]
 | _ => st.at'⟩
def flatP (all : Bool) (K : KFun) : Pred → FSt → Pred × FSt
 | .mk o s n ks, st => match appVar o ks with
  | some x => if all || (K x s).isSome then (pv (freshS st.used sZ), st.next K x s) else (.mk o s n (go ks st).1, (go ks st).2)
  | none => (.mk o s n (go ks st).1, (go ks st).2)
where
 go : List Pred → FSt → List Pred × FSt
 | [], st => ([], st)
 | k :: ks, st => ((flatP all K k st).1 :: (go ks (flatP all K k st).2).1, (go ks (flatP all K k st).2).2)
def isCut (all : Bool) (K : KFun) (o : Int) (s : Str) (ks : List Pred) : Option Str := match appVar o ks with
 | some x => if all || (K x s).isSome then some x else none
 | none => none
theorem flatP_cut {all : Bool} {K : KFun} {o : Int} {s : Str} {n : Int} {ks : List Pred} {x : Str} (h : isCut all K o s ks = some x) (st : FSt) : flatP all K (.mk o s n ks) st = (pv (freshS st.used sZ), st.next K x s) := by
 unfold isCut at h
 rw [flatP]
 split at h
 ·rename_i y hy
  split at h
  ·rename_i hc; cases h; rw [if_pos hc]
  ·cases h
 ·cases h
theorem flatP_node {all : Bool} {K : KFun} {o : Int} {s : Str} {n : Int} {ks : List Pred} (h : isCut all K o s ks = none) (st : FSt) : flatP all K (.mk o s n ks) st = (.mk o s n (flatP.go all K ks st).1, (flatP.go all K ks st).2) := by
 unfold isCut at h
 rw [flatP]
 split at h
 ·rename_i y hy
  split at h
  ·cases h
  ·rename_i hc; rw [if_neg hc]
 ·rfl
theorem go_app {all : Bool} {K : KFun} : ∀ (a b : List Pred) (st : FSt), flatP.go all K (a ++ b) st = ((flatP.go all K a st).1 ++ (flatP.go all K b (flatP.go all K a st).2).1, (flatP.go all K b (flatP.go all K a st).2).2)
 | [], b, st => by simp [flatP.go]
 | k :: a, b, st => by simp only [List.cons_append, flatP.go, go_app a b]
theorem go_one {all : Bool} {K : KFun} (k : Pred) (st : FSt) : flatP.go all K [k] st = ([(flatP all K k st).1], (flatP all K k st).2) := by simp only [flatP.go]
theorem go_len {all : Bool} {K : KFun} : ∀ (l : List Pred) (st : FSt), (flatP.go all K l st).1.length = l.length
 | [], _ => rfl
 | k :: l, st => by simp only [flatP.go, List.length_cons, go_len l]
theorem findC_snoc {x z : Str} {a : Int} {l : List Coef} (h : x ≠ z) : findC x (l ++ [⟨z, a⟩]) = findC x l := by
 induction l with
 | nil =>
  have : (z == x) = false := by simpa using fun e => h e.symm
  simp [findC, this]
 | cons c l ih =>
  rw [List.cons_append, findC, findC, ih]
theorem findC_new {z : Str} {a : Int} {l : List Coef} (h : ∀ c ∈ l, c.name ≠ z) : findC z (l ++ [⟨z, a⟩]) = (a, true) := by
 rw [findC_mid fun y hy => by simpa using h y hy]
 simp
theorem findC_not {z : Str} {l : List Coef} (h : ∀ c ∈ l, c.name ≠ z) : findC z l = (0, false) := findC_all fun y hy => by simpa using h y hy
def FSt.Ok (st : FSt) : Prop := ∀ c ∈ st.at', c.name ∈ st.used
def FSt.Sub (st st' : FSt) : Prop := ∀ x ∈ st.used, x ∈ st'.used
def FSt.Keep (st : FSt) (A : List Coef) : Prop := ∀ x ∈ st.used, findC x A = findC x st.at'
theorem FSt.Keep.trans {st st' : FSt} {A : List Coef} (hs : st.Sub st') (hk : st.Keep st'.at') (h : st'.Keep A) : st.Keep A := fun x hx => (h x (hs x hx)).trans (hk x hx)
theorem FSt.next_ok {K : KFun} {x s : Str} {st : FSt} (h : st.Ok) : (st.next K x s).Ok := by
 intro c hc
 have hc : c ∈ st.at' ∨ c.name = freshS st.used sZ := by
  unfold FSt.next at hc
  simp only at hc
  split at hc
  ·rcases List.mem_append.1 hc with hc | hc
   ·exact .inl hc
   ·simp only [List.mem_singleton] at hc; subst hc; exact .inr rfl
  ·exact .inl hc
 show c.name ∈ st.used ++ [freshS st.used sZ]
 rcases hc with hc | hc
 ·exact List.mem_append_left _ (h c hc)
 ·rw [hc]; simp
theorem FSt.next_sub {K : KFun} {x s : Str} {st : FSt} : st.Sub (st.next K x s) := fun y hy => List.mem_append_left _ hy
theorem FSt.next_keep {K : KFun} {x s : Str} {st : FSt} : st.Keep (st.next K x s).at' := by
 intro y hy
 have hne : y ≠ freshS st.used sZ := fun e => freshS_not (e ▸ hy)
 show findC y (match K x s with | some (a, true) => st.at' ++ [⟨freshS st.used sZ, a⟩] | _ => st.at') = _
 split
 ·exact findC_snoc hne
 ·rfl
def kval (K : KFun) (x s : Str) : Int × Bool := match K x s with
 | some (a, true) => (a, inRange a)
 | _ => (0, false)
def evalK (all : Bool) (K : KFun) (at0 : List Coef) : Pred → Int × Bool
 | .mk o s n ks => match isCut all K o s ks with
  | some x => kval K x s
  | none => if oks ks then topP at0 [] o s n (ns ks) else (0, false)
where
 oks : List Pred → Bool
 | [] => true
 | k :: ks => (evalK all K at0 k).2 && oks ks
 ns : List Pred → List Int
 | [] => []
 | k :: ks => (evalK all K at0 k).1 :: ns ks
theorem evalK_eq (all : Bool) (K : KFun) (at0 : List Coef) (o : Int) (s : Str) (n : Int) (ks : List Pred) : evalK all K at0 (.mk o s n ks) = match isCut all K o s ks with
  | some x => kval K x s
  | none => if ks.all (fun k => (evalK all K at0 k).2) then topP at0 [] o s n (ks.map fun k => (evalK all K at0 k).1) else (0, false) := by
 rw [evalK]
 have h1 : evalK.oks all K at0 ks = ks.all (fun k => (evalK all K at0 k).2) := by
  induction ks with
  | nil => rfl
  | cons k ks ih => rw [evalK.oks, ih]; rfl
 have h2 : evalK.ns all K at0 ks = ks.map fun k => (evalK all K at0 k).1 := by
  clear h1
  induction ks with
  | nil => rfl
  | cons k ks ih => rw [evalK.ns, ih]; rfl
 rw [h1, h2]
def HasVar (p : Pred) (x : Str) : Prop := ∃ q ∈ p.pre, q.op = 3 ∧ q.name = x
theorem HasVar.kid {o : Int} {s : Str} {n : Int} {ks : List Pred} {k : Pred} {x : Str} (hk : k ∈ ks) (h : HasVar k x) : HasVar (.mk o s n ks) x := by
 obtain ⟨q, h1, h2⟩ := h
 exact ⟨q, mem_pre.2 (.inr ⟨k, hk, h1⟩), h2⟩
theorem HasVar.top {s : Str} {n : Int} {ks : List Pred} : HasVar (.mk 3 s n ks) s := ⟨_, mem_pre.2 (.inl rfl), rfl, rfl⟩
def FSt.Knows (st : FSt) (at0 : List Coef) (P : Str → Prop) : Prop := ∀ x, P x → x ∈ st.used ∧ findC x st.at' = findC x at0
theorem FSt.Knows.next {st st' : FSt} {at0 : List Coef} {P Q : Str → Prop} (h : st.Knows at0 P) (hs : st.Sub st') (hk : st.Keep st'.at') (hq : ∀ x, Q x → P x) : st'.Knows at0 Q := fun x hx => by
 obtain ⟨a, b⟩ := h x (hq x hx)
 exact ⟨hs x a, (hk x a).trans b⟩
theorem topP_at {A at0 : List Coef} {o : Int} {s : Str} {n : Int} {l : List Int} (h : o = 3 → findC s A = findC s at0) : topP A [] o s n l = topP at0 [] o s n l := by
 unfold topP
 by_cases h3 : o = 3
 ·rw [h h3]
 ·have : (o == 3) = false := by simpa using h3
  simp only [this, Bool.false_eq_true, if_false]
theorem flat_val (all : Bool) (K : KFun) (at0 : List Coef) (p : Pred) : ∀ st : FSt, st.Ok → st.Knows at0 (HasVar p) →
  (flatP all K p st).2.Ok ∧ st.Sub (flatP all K p st).2 ∧ st.Keep (flatP all K p st).2.at' ∧ ∀ A, (flatP all K p st).2.Keep A → valP A [] (flatP all K p st).1 = evalK all K at0 p := by
 induction p using Pred.ind with
 | h o s n ks ih =>
 intro st hok hkn
 cases hc : isCut all K o s ks with
 | some x =>
  rw [flatP_cut hc]
  refine ⟨FSt.next_ok hok, FSt.next_sub, FSt.next_keep, fun A hA => ?_⟩
  have hz := hA (freshS st.used sZ) (by show _ ∈ st.used ++ [_]; simp)
  have hnot : ∀ c ∈ st.at', c.name ≠ freshS st.used sZ := fun c hc e => freshS_not (e ▸ hok c hc)
  rw [evalK_eq, hc]
  show valP A [] (.mk 3 (freshS st.used sZ) 0 []) = kval K x s
  rw [valP_eq]
  simp only [List.all_nil, if_true, List.map_nil]
  unfold topP
  simp only [show ((3 : Int) == 1) = false from rfl, show ((3 : Int) == 2) = false from rfl, show ((3 : Int) == 3) = true from rfl, Bool.or_self, Bool.false_eq_true, if_false, if_true]
  rw [hz]
  unfold kval FSt.next
  simp only
  split
  ·rename_i a ha
   rw [findC_new hnot]
   simp
  ·rw [findC_not hnot]
   rfl
 | none =>
  have key : ∀ (l : List Pred), (∀ k ∈ l, k ∈ ks) → ∀ st : FSt, st.Ok → st.Knows at0 (HasVar (.mk o s n ks)) →
    (flatP.go all K l st).2.Ok ∧ st.Sub (flatP.go all K l st).2 ∧ st.Keep (flatP.go all K l st).2.at' ∧ ∀ A, (flatP.go all K l st).2.Keep A → (flatP.go all K l st).1.map (valP A []) = l.map (evalK all K at0) := by
   intro l
   induction l with
   | nil => intro _ st hok hkn; exact ⟨hok, fun _ h => h, fun _ _ => rfl, fun _ _ => rfl⟩
   | cons k l ihl =>
    intro hin st hok hkn
    obtain ⟨a1, a2, a3, a4⟩ := ih k (hin k (by simp)) st hok (hkn.next (fun _ h => h) (fun _ _ => rfl) fun x hx => hx.kid (hin k (by simp)))
    obtain ⟨b1, b2, b3, b4⟩ := ihl (fun y hy => hin y (by simp [hy])) _ a1 (hkn.next a2 a3 fun _ h => h)
    simp only [flatP.go]
    refine ⟨b1, fun x hx => b2 x (a2 x hx), a3.trans a2 b3 |> fun _ => FSt.Keep.trans a2 a3 b3, fun A hA => ?_⟩
    rw [List.map_cons, List.map_cons, b4 A hA, a4 A (FSt.Keep.trans b2 b3 hA)]
  obtain ⟨a1, a2, a3, a4⟩ := key ks (fun _ h => h) st hok hkn
  rw [flatP_node hc]
  refine ⟨a1, a2, a3, fun A hA => ?_⟩
  have h4 := a4 A hA
  rw [evalK_eq, hc, valP_eq]
  have e1 : (flatP.go all K ks st).1.all (fun k => (valP A [] k).2) = ks.all (fun k => (evalK all K at0 k).2) := by
   have := congrArg (fun l : List (Int × Bool) => l.all (·.2)) h4
   simpa [List.all_map, Function.comp_def] using this
  have e2 : (flatP.go all K ks st).1.map (fun k => (valP A [] k).1) = ks.map (fun k => (evalK all K at0 k).1) := by
   have := congrArg (fun l : List (Int × Bool) => l.map (·.1)) h4
   simpa [List.map_map, Function.comp_def] using this
  rw [e1, e2, topP_at fun h3 => ?_]
  subst h3
  obtain ⟨u1, u2⟩ := hkn s HasVar.top
  rw [← u2]
  exact (FSt.Keep.trans a2 a3 hA) s u1
theorem itoa_digits (n : Nat) : ∀ c ∈ Lib.itoa (n : Int), 48 ≤ c.toNat ∧ c.toNat ≤ 57 := by
 rw [Lib.itoa_nonneg]; exact decDigits_mem n
theorem scan_digits : ∀ (l : List UInt8) (i : Nat), (∀ c ∈ l, 48 ≤ c.toNat ∧ c.toNat ≤ 57) → scan badName i l = true
 | [], _, _ => rfl
 | c :: l, i, h => by
  have hc := h c (by simp)
  rw [scan, scan_digits l (i + 1) fun x hx => h x (by simp [hx])]
  have : isDigit c.toNat = true := by unfold isDigit; simp; omega
  simp [badName, this]
theorem core_z (l : List UInt8) (h : ∀ c ∈ l, 48 ≤ c.toNat ∧ c.toNat ≤ 57) (hl : l.length ≤ 23) : isCore (122 :: l) = true := by
 have hcut : cutAt (122 :: l) = (122 :: l, [], false) := cutAt_no fun c hc => by
  rcases List.mem_cons.1 hc with rfl | hc
  ·decide
  ·have := h c hc; omega
 have hk : kws.contains (122 :: l) = false := by
  rw [← Bool.not_eq_true, List.contains_iff_mem]
  intro hm
  have : ∀ k ∈ kws, k.head? ≠ some 122 := by decide +kernel
  exact this _ hm rfl
 have hn : isName (122 :: l) = true := by
  unfold isName
  rw [hk, List.drop_one, List.tail_cons, scan_digits l 1 h]
  have : isSized (122 :: l) = true := by unfold isSized; simp; omega
  rw [this]
  rfl
 unfold isCore
 rw [hcut]
 simp only [hn, Bool.not_true, Bool.false_and, Bool.not_false, Bool.and_true, Bool.false_eq_true, if_false]
 simp
 omega
theorem fresh_core {used : List Str} (h : used.length < 1099511627776) : isCore (freshS used sZ) = true := by
 rcases freshS_cases (used := used) (base := sZ) with e | ⟨n, h1, h2, e⟩
 ·rw [e]; exact core_z [] (fun _ h => by cases h) (by simp)
 ·rw [e]
  show isCore (122 :: Lib.itoa (n : Int)) = true
  exact core_z _ (itoa_digits n) (Nat.le_trans (Lib.itoa_length_le n (by omega) (by omega)) (by omega))
theorem err_pv {z : Str} (h : isCore z = true) : Pred.err (pv z) = 0 := by
 show nodeE 3 z 0 [] = 0
 unfold nodeE calledOk isOpNamed kidsOk
 simp [h]
theorem good_mk {o : Int} {s : Str} {n : Int} {ks : List Pred} (h : nodeE o s n ks = 0) (hk : ∀ k ∈ ks, Good k) : Good (.mk o s n ks) := by
 intro q hq
 rcases mem_pre.1 hq with rfl | ⟨k, h1, h2⟩
 ·exact h
 ·exact hk k h1 q h2
theorem nodeE_kids_same {o : Int} {s : Str} {n : Int} {ks ks' : List Pred} (hl : ks'.length = ks.length) (h8 : (ks.map Pred.op).getD 0 0 = 1 → (ks'.map Pred.op).getD 0 0 = 1) (h : nodeE o s n ks = 0) : nodeE o s n ks' = 0 := by
 unfold nodeE at h ⊢
 rw [hl]
 split at h
 ·cases h
 ·rename_i c1
  rw [if_neg c1]
  split at h
  ·cases h
  ·rename_i c2
   rw [if_neg c2]
   split at h
   ·cases h
   ·rename_i c3
    rw [if_neg c3]
    split at h
    ·cases h
    ·rename_i c4
     rw [if_neg]
     simp only [Bool.and_eq_true, beq_iff_eq, bne_iff_ne, ne_eq, not_and, Decidable.not_not] at c4 ⊢
     exact fun e => h8 (c4 e)
theorem flat_op1 {all : Bool} {K : KFun} {p : Pred} {st : FSt} (h : p.op = 1) : (flatP all K p st).1.op = 1 := by
 obtain ⟨o, s, n, ks⟩ := p
 have h : o = 1 := h
 subst h
 have : isCut all K 1 s ks = none := rfl
 rw [flatP_node this]
 rfl
theorem flat_used {all : Bool} {K : KFun} (p : Pred) : ∀ st : FSt, (flatP all K p st).2.used.length ≤ st.used.length + p.cnt := by
 induction p using Pred.ind with
 | h o s n ks ih =>
 intro st
 cases hc : isCut all K o s ks with
 | some x =>
  rw [flatP_cut hc]
  show (st.used ++ [_]).length ≤ _
  rw [List.length_append, Pred.cnt]; simp
 | none =>
  have key : ∀ (l : List Pred), (∀ k ∈ l, k ∈ ks) → ∀ st : FSt, (flatP.go all K l st).2.used.length ≤ st.used.length + Pred.cnts l := by
   intro l
   induction l with
   | nil => intro _ st; simp [flatP.go]
   | cons k l ihl =>
    intro hin st
    have h1 := ih k (hin k (by simp)) st
    have h2 := ihl (fun y hy => hin y (by simp [hy])) (flatP all K k st).2
    simp only [flatP.go, Pred.cnts]
    omega
  rw [flatP_node hc]
  have := key ks (fun _ h => h) st
  rw [Pred.cnt]
  show (flatP.go all K ks st).2.used.length ≤ _
  omega
theorem flat_good {all : Bool} {K : KFun} (p : Pred) (hg : Good p) : ∀ st : FSt, st.used.length + p.cnt < 1099511627776 → Good (flatP all K p st).1 := by
 induction p using Pred.ind with
 | h o s n ks ih =>
 intro st hl
 cases hc : isCut all K o s ks with
 | some x =>
  rw [flatP_cut hc]
  intro q hq
  have hq : q = pv (freshS st.used sZ) := by
   rcases mem_pre.1 (show q ∈ Pred.pre (.mk 3 (freshS st.used sZ) 0 []) from hq) with h | ⟨k, hk, _⟩
   ·exact h
   ·cases hk
  rw [hq]
  exact err_pv (fresh_core (by omega))
 | none =>
  rw [Pred.cnt] at hl
  have key : ∀ (l : List Pred), (∀ k ∈ l, k ∈ ks) → ∀ st : FSt, st.used.length + Pred.cnts l < 1099511627776 → ∀ k ∈ (flatP.go all K l st).1, Good k := by
   intro l
   induction l with
   | nil => intro _ st _ k hk; simp [flatP.go] at hk
   | cons k l ihl =>
    intro hin st hlen
    have hu := flat_used (all := all) (K := K) k st
    rw [Pred.cnts] at hlen
    intro q hq
    simp only [flatP.go, List.mem_cons] at hq
    rcases hq with rfl | hq
    ·exact ih k (hin k (by simp)) (hg.kid (hin k (by simp))) st (by omega)
    ·exact ihl (fun y hy => hin y (by simp [hy])) _ (by omega) q hq
  rw [flatP_node hc]
  refine good_mk (nodeE_kids_same (go_len ks st) (fun h1 => ?_) (show nodeE o s n ks = 0 from AllN.top hg)) (key ks (fun _ h => h) st (by omega))
  cases ks with
  | nil => exact h1
  | cons k ks =>
   simp only [flatP.go, List.map_cons, List.getD_cons_zero] at h1 ⊢
   exact flat_op1 h1
theorem flat_size {all : Bool} {K : KFun} (p : Pred) : ∀ st : FSt, (flatP all K p st).1.cnt ≤ p.cnt ∧ (flatP all K p st).1.dep ≤ p.dep := by
 induction p using Pred.ind with
 | h o s n ks ih =>
 intro st
 cases hc : isCut all K o s ks with
 | some x =>
  rw [flatP_cut hc]
  show Pred.cnt (.mk 3 _ 0 []) ≤ _ ∧ Pred.dep (.mk 3 _ 0 []) ≤ _
  rw [Pred.cnt, Pred.cnt, Pred.dep, Pred.dep, Pred.cnts, Pred.deps]
  omega
 | none =>
  have key : ∀ (l : List Pred), (∀ k ∈ l, k ∈ ks) → ∀ st : FSt, Pred.cnts (flatP.go all K l st).1 ≤ Pred.cnts l ∧ Pred.deps (flatP.go all K l st).1 ≤ Pred.deps l := by
   intro l
   induction l with
   | nil => intro _ st; simp [flatP.go]
   | cons k l ihl =>
    intro hin st
    have h1 := ih k (hin k (by simp)) st
    have h2 := ihl (fun y hy => hin y (by simp [hy])) (flatP all K k st).2
    simp only [flatP.go, Pred.cnts, Pred.deps]
    omega
  rw [flatP_node hc]
  have := key ks (fun _ h => h) st
  show Pred.cnt (.mk o s n _) ≤ _ ∧ Pred.dep (.mk o s n _) ≤ _
  rw [Pred.cnt, Pred.cnt, Pred.dep, Pred.dep]
  omega
theorem formE_good {p : Pred} (h : Good p) : p.formE = 0 := by
 rw [Pred.formE_first]; exact Pred.first_all h
theorem check_of_good {p q : Pred} (hp : p.checkE = 0) (hc : p.cnt < 2 ^ 62) (hg : Good q) (h1 : q.cnt ≤ p.cnt) (h2 : q.dep ≤ p.dep) : q.checkE = 0 := by
 obtain ⟨a, b, _⟩ := Pred.checkE_parts hp
 have d := Pred.dep_cnt p
 rw [Pred.nodes_cnt _ hc] at a
 rw [Pred.depth_dep _ (by omega)] at b
 refine Pred.checkE_of ?_ ?_ (formE_good hg)
 ·rw [Pred.nodes_cnt _ (by omega)]; omega
 ·rw [Pred.depth_dep _ (by omega)]; omega
theorem flat_eval {all : Bool} {K : KFun} {at0 : List Coef} {p : Pred} (hc : p.cnt < 1048576) {st : FSt} (hu : st.used.length < 4294967296) (hok : st.Ok) (hk : ∀ x, HasVar p x → x ∈ st.used) (h0 : st.at' = at0) (hp : p.checkE = 0) :
  EvalS (flatP all K p st).2.at' [] (flatP all K p st).1 = norm2 (evalK all K at0 p) := by
 have hg := flat_good (all := all) (K := K) p (good_of hp) st (by omega)
 have hs := flat_size (all := all) (K := K) p st
 have hce := check_of_good hp (by omega) hg hs.1 hs.2
 obtain ⟨_, _, _, h4⟩ := flat_val all K at0 p st hok fun x hx => ⟨hk x hx, by rw [h0]⟩
 unfold EvalS
 rw [hce, ← h4 _ (fun _ _ => rfl), val_norm _ _ _ hg]
 rfl
end Go.Abs
end
section
namespace Go.Abs
structure FEnt where
 op : Int
 n : Int
 f : Str → Int × Bool
def fieldE {α : Type} (names : List Str) (es : List α) (s : Str) : Option α := ((names.zip es).find? fun q => q.1 == s).map (·.2)
def opR (o a b : Int) : Int × Bool := if o == 9 then subI 0 a else if o == 14 then (tru (a == 0), true) else opI o a b
theorem norm2_opR (o a b : Int) : norm2 (opR o a b) = opR o a b := by
 unfold opR
 split
 ·exact norm2_sub _ _
 ·split
  ·rfl
  ·unfold opI
   repeat' split
   all_goals first | exact norm2_add _ _ | exact norm2_sub _ _ | exact norm2_mul _ _ | rfl
def varR (names : List Str) (ents : List FEnt) (s : Str) : Int × Bool := match fieldE names ents s with
 | some e => if (e.op == 1 || e.op == 2) && inRange e.n then (e.n, true) else (0, false)
 | none => (0, false)
def appR (names : List Str) (ents : List FEnt) (x s : Str) : Int × Bool := match fieldE names ents x with
 | some e => if (e.f s).2 && inRange (e.f s).1 then ((e.f s).1, true) else (0, false)
 | none => (0, false)
def bodyR (names : List Str) (ents : List FEnt) : Pred → Int × Bool
 | .mk o s n ks => if o == 1 || o == 2 then (n, true) else if o == 3 then varR names ents s
  else if o == 4 then (match appVar 4 ks with
   | some x => appR names ents x s
   | none => (0, false))
  else if oks ks && !ks.isEmpty then opR o ((ns ks).getD 0 0) ((ns ks).getD 1 0) else (0, false)
where
 oks : List Pred → Bool
 | [] => true
 | k :: ks => (bodyR names ents k).2 && oks ks
 ns : List Pred → List Int
 | [] => []
 | k :: ks => (bodyR names ents k).1 :: ns ks
theorem bodyR_eq (names : List Str) (ents : List FEnt) (o : Int) (s : Str) (n : Int) (ks : List Pred) : bodyR names ents (.mk o s n ks) =
  if o == 1 || o == 2 then (n, true) else if o == 3 then varR names ents s
  else if o == 4 then (match appVar 4 ks with
   | some x => appR names ents x s
   | none => (0, false))
  else if ks.all (fun k => (bodyR names ents k).2) && !ks.isEmpty then opR o ((ks.map fun k => (bodyR names ents k).1).getD 0 0) ((ks.map fun k => (bodyR names ents k).1).getD 1 0) else (0, false) := by
 rw [bodyR]
 have h1 : bodyR.oks names ents ks = ks.all (fun k => (bodyR names ents k).2) := by
  induction ks with
  | nil => rfl
  | cons k ks ih => rw [bodyR.oks, ih]; rfl
 have h2 : bodyR.ns names ents ks = ks.map fun k => (bodyR names ents k).1 := by
  clear h1
  induction ks with
  | nil => rfl
  | cons k ks ih => rw [bodyR.ns, ih]; rfl
 rw [h1, h2]
def kfun (names : List Str) (ents : List FEnt) : KFun := fun x s => (fieldE names ents x).map fun e => e.f s
def PointOf (names : List Str) (ents : List FEnt) (at0 : List Coef) : Prop := ∀ x, findC x at0 = match fieldE names ents x with
 | some e => if e.op == 1 || e.op == 2 then (e.n, true) else (0, false)
 | none => (0, false)
theorem all_eq_of {α : Type} {f g : α → Int × Bool} {l : List α} (h : ∀ k ∈ l, norm2 (f k) = g k) : l.all (fun k => (f k).2) = l.all (fun k => (g k).2) := by
 induction l with
 | nil => rfl
 | cons k l ih =>
  rw [List.all_cons, List.all_cons, ih fun x hx => h x (by simp [hx]), ← h k (by simp), norm2_snd]
theorem map_eq_of {α : Type} {f g : α → Int × Bool} {l : List α} (h : ∀ k ∈ l, norm2 (f k) = g k) (ha : l.all (fun k => (f k).2) = true) : l.map (fun k => (f k).1) = l.map (fun k => (g k).1) := by
 refine List.map_congr_left fun k hk => ?_
 rw [← h k hk]
 have := List.all_eq_true.1 ha k hk
 unfold norm2; rw [this]; rfl
theorem body_eval {names : List Str} {ents : List FEnt} {at0 : List Coef} (h0 : PointOf names ents at0) (p : Pred) (hp : Good p) : norm2 (evalK true (kfun names ents) at0 p) = bodyR names ents p := by
 induction p using Pred.ind with
 | h o s n ks ih =>
 obtain ⟨⟨o1, o2⟩, hk, _, _⟩ := hp.top
 have ih' : ∀ k ∈ ks, norm2 (evalK true (kfun names ents) at0 k) = bodyR names ents k := fun k hk => ih k hk (hp.kid hk)
 have hall := all_eq_of ih'
 have hmap := map_eq_of ih'
 rw [evalK_eq, bodyR_eq]
 cases hc : appVar o ks with
 | some x =>
  obtain ⟨rfl, _⟩ := appVar_some hc
  have hcut : isCut true (kfun names ents) 4 s ks = some x := by unfold isCut; rw [hc]; rfl
  rw [hcut, hc]
  simp only [show ((4 : Int) == 1) = false from rfl, show ((4 : Int) == 2) = false from rfl, show ((4 : Int) == 3) = false from rfl, show ((4 : Int) == 4) = true from rfl, Bool.or_self, Bool.false_eq_true, if_false, if_true]
  unfold kval kfun appR
  cases fieldE names ents x with
  | none => rfl
  | some e =>
   simp only [Option.map_some]
   generalize e.f s = r
   obtain ⟨a, b⟩ := r
   cases b with
   | false => rfl
   | true =>
    simp only [norm2, Bool.true_and]
 | none =>
  have hcut : isCut true (kfun names ents) o s ks = none := by unfold isCut; rw [hc]
  rw [hcut]
  simp only
  by_cases h12 : (o == 1 || o == 2) = true
  ·have hks : ks = [] := kids_leaf hk (by rw [h12]; rfl)
   subst hks
   simp only [List.all_nil, if_true, topP, h12, norm2]
  ·simp only [h12, Bool.false_eq_true, if_false]
   by_cases h3 : (o == 3) = true
   ·have hks : ks = [] := kids_leaf hk (by rw [h3]; simp)
    subst hks
    simp only [List.all_nil, if_true, topP, h12, h3, Bool.false_eq_true, if_false, h0 s]
    unfold varR
    cases fieldE names ents s with
    | none => rfl
    | some e =>
     simp only [norm2]
     cases (e.op == 1 || e.op == 2) with
     | false => rfl
     | true => simp only [if_true, Bool.true_and]
   ·simp only [h3, Bool.false_eq_true, if_false]
    by_cases h4 : (o == 4) = true
    ·have h4' : o = 4 := by simpa using h4
     subst h4'
     rw [hc]
     simp only [h4, if_true, topP, h12, h3, Bool.false_eq_true, if_false, findF, factP]
     split <;> rfl
    ·simp only [h4, Bool.false_eq_true, if_false]
     by_cases h5 : (o == 5) = true
     ·have h5' : o = 5 := by simpa using h5
      subst h5'
      have e1 : ∀ l, topP at0 [] 5 s n l = (0, false) := fun l => rfl
      have e2 : ∀ a b, opR 5 a b = (0, false) := fun a b => rfl
      rw [e1, e2]
      simp only [ite_self]
      rfl
     ·have hne : ks.isEmpty = false := by
        cases ks with
        | nil =>
         exfalso
         unfold kidsOk at hk
         simp only [Bool.not_eq_true] at h12 h3 h4 h5
         simp only [Bool.or_eq_false_iff] at h12
         rw [h12.1, h12.2, h3, h4, h5] at hk
         simp at hk
        | cons => rfl
      rw [hne, ← hall]
      simp only [Bool.not_false, Bool.and_true]
      cases ha : ks.all (fun k => (evalK true (kfun names ents) at0 k).2) with
      | false => rfl
      | true =>
       rw [hmap ha]
       simp only [if_true]
       have e : ∀ l : List Int, topP at0 [] o s n l = opR o (l.getD 0 0) (l.getD 1 0) := fun l => by
        unfold topP opR
        simp only [h12, h3, h4, h5, Bool.false_eq_true, if_false]
       rw [e, norm2_opR]
def valStep (m : Mod) (o n : Int) (s : Str) (ents : List FEnt) (sym : Str) : Int × Bool :=
 if sym == sVal then (if o != 4 then (0, false) else (n, true))
 else if o != 3 || !(conS s m.datas).2.2 then (0, false)
 else if sym == sTag then ((conS s m.datas).2.1, true)
 else match m.meas.find? (fun x => x.name == sym) with
  | none => (0, false)
  | some x => if x.data != (conS s m.datas).1.name then (0, false) else match x.cases.find? (fun c => c.con == s) with
   | none => (0, false)
   | some c => if c.names.length != ents.length || c.body.checkE != 0 then (0, false) else bodyR c.names ents c.body
mutual
def Val.value (m : Mod) : Val → Str → Int × Bool
 | .mk o n s ks _ _ _ => valStep m o n s (Val.ents m ks)
def Val.ents (m : Mod) : List Val → List FEnt
 | [] => []
 | k :: ks => ⟨k.op, k.n, Val.value m k⟩ :: Val.ents m ks
end
def Val.ent (m : Mod) (k : Val) : FEnt := ⟨k.op, k.n, k.value m⟩
theorem Val.ents_eq (m : Mod) (ks : List Val) : Val.ents m ks = ks.map (Val.ent m) := by
 induction ks with
 | nil => simp [Val.ents]
 | cons k ks ih => simp [Val.ents, ih, Val.ent]
theorem Val.value_eq (m : Mod) (o n : Int) (s : Str) (ks : List Val) (p b d : D) : Val.value m (.mk o n s ks p b d) = valStep m o n s (ks.map (Val.ent m)) := by rw [Val.value, Val.ents_eq]
def putF (acc : List (D × MV) × List Coef) (x : Str × Val) : List (D × MV) × List Coef :=
 if mapHas acc.1 (.str x.1) then acc else ((.str x.1, .agg x.2.cells) :: acc.1, if x.2.op == 1 || x.2.op == 2 then acc.2 ++ [⟨x.1, x.2.n⟩] else acc.2)
def putsF (l : List (Str × Val)) : List (D × MV) × List Coef := l.foldl putF ([], [])
theorem putsF_snoc (l : List (Str × Val)) (x : Str × Val) : putsF (l ++ [x]) = putF (putsF l) x := by unfold putsF; rw [List.foldl_append]; rfl
def fieldZ {α : Type} (l : List (Str × α)) (s : Str) : Option α := (l.find? fun q => q.1 == s).map (·.2)
theorem fieldZ_snoc {α : Type} (l : List (Str × α)) (x : Str × α) (s : Str) : fieldZ (l ++ [x]) s = (fieldZ l s).or (if x.1 == s then some x.2 else none) := by
 unfold fieldZ
 rw [List.find?_append]
 cases l.find? fun q => q.1 == s with
 | some y => rfl
 | none =>
  simp only [Option.none_or, Option.map_none, List.find?_cons, List.find?_nil]
  cases x.1 == s <;> rfl
theorem snoc_ind {α : Type} {P : List α → Prop} (h0 : P []) (h : ∀ l x, P l → P (l ++ [x])) (l : List α) : P l := by
 have : ∀ r : List α, P r.reverse := by
  intro r
  induction r with
  | nil => exact h0
  | cons x r ih => rw [List.reverse_cons]; exact h _ _ ih
 simpa using this l.reverse
theorem putsF_get (l : List (Str × Val)) (s : Str) : mapGet (putsF l).1 (.str s) = (fieldZ l s).map fun v => .agg v.cells := by
 induction l using snoc_ind with
 | h0 => rfl
 | h l x ih =>
  rw [putsF_snoc, fieldZ_snoc]
  unfold putF
  split
  ·rename_i hh
   unfold mapHas at hh
   rw [ih]
   by_cases hx : x.1 = s
   ·rw [hx, ih] at hh
    cases hf : fieldZ l s with
    | none => rw [hf] at hh; cases hh
    | some v => rfl
   ·have : (x.1 == s) = false := by simpa using hx
    rw [this]
    cases fieldZ l s <;> rfl
  ·rename_i hh
   rw [mapGet, show keyEq (D.str x.1) (D.str s) = (x.1 == s) from rfl]
   by_cases hx : x.1 = s
   ·subst hx
    simp only [mapHas, Bool.not_eq_true, Option.isSome_eq_false_iff, Option.isNone_iff_eq_none] at hh
    rw [hh] at ih
    have : fieldZ l x.1 = none := by
     cases hf : fieldZ l x.1 with
     | none => rfl
     | some v => rw [hf] at ih; cases ih
    rw [this]
    simp
   ·have : (x.1 == s) = false := by simpa using hx
    rw [this, ih]
    cases fieldZ l s <;> rfl
theorem putsF_at (l : List (Str × Val)) (s : Str) : findC s (putsF l).2 = match fieldZ l s with
  | some v => if v.op == 1 || v.op == 2 then (v.n, true) else (0, false)
  | none => (0, false) := by
 induction l using snoc_ind with
 | h0 => rfl
 | h l x ih =>
  rw [putsF_snoc, fieldZ_snoc]
  have hg := putsF_get l x.1
  unfold putF
  split
  ·rename_i hh
   unfold mapHas at hh
   rw [hg] at hh
   rw [ih]
   by_cases hx : x.1 = s
   ·rw [hx] at hh
    cases hf : fieldZ l s with
    | none => rw [hf] at hh; cases hh
    | some v => rfl
   ·have : (x.1 == s) = false := by simpa using hx
    rw [this]
    cases fieldZ l s <;> rfl
  ·rename_i hh
   simp only [mapHas, Bool.not_eq_true, Option.isSome_eq_false_iff, Option.isNone_iff_eq_none] at hh
   rw [hh] at hg
   by_cases hx : x.1 = s
   ·subst hx
    have hn : fieldZ l x.1 = none := by
     cases hf : fieldZ l x.1 with
     | none => rfl
     | some v => rw [hf] at hg; cases hg
    rw [hn] at ih ⊢
    simp only [Option.none_or, beq_self_eq_true, if_true]
    split
    ·rename_i hv
     have key : ∀ l : List Coef, findC x.1 l = (0, false) → findC x.1 (l ++ [⟨x.1, x.2.n⟩]) = (x.2.n, true) := by
      intro l
      induction l with
      | nil => intro _; simp [findC]
      | cons c l ihl =>
       intro h
       rw [findC] at h
       rw [List.cons_append, findC]
       by_cases hc : (c.name == x.1) = true
       ·rw [if_pos hc] at h; simp at h
       ·rw [if_neg hc] at h ⊢; exact ihl h
     exact key _ ih
    ·exact ih
   ·have : (x.1 == s) = false := by simpa using hx
    rw [this]
    have hne : findC s (if (x.2.op == 1 || x.2.op == 2) = true then (putsF l).2 ++ [⟨x.1, x.2.n⟩] else (putsF l).2) = findC s (putsF l).2 := by
     split
     ·exact findC_snoc fun e => hx e.symm
     ·rfl
    simp only [Bool.false_eq_true, if_false, Option.or_none]
    exact hne.trans ih
theorem putsF_names (l : List (Str × Val)) : ∀ c ∈ (putsF l).2, ∃ x ∈ l, x.1 = c.name := by
 induction l using snoc_ind with
 | h0 => intro c hc; cases hc
 | h l x ih =>
  rw [putsF_snoc]
  unfold putF
  intro c hc
  split at hc
  ·obtain ⟨y, h1, h2⟩ := ih c hc; exact ⟨y, List.mem_append_left _ h1, h2⟩
  ·split at hc
   ·rcases List.mem_append.1 hc with hc | hc
    ·obtain ⟨y, h1, h2⟩ := ih c hc; exact ⟨y, List.mem_append_left _ h1, h2⟩
    ·simp only [List.mem_singleton] at hc; subst hc; exact ⟨x, by simp, rfl⟩
   ·obtain ⟨y, h1, h2⟩ := ih c hc; exact ⟨y, List.mem_append_left _ h1, h2⟩
theorem putsF_len (l : List (Str × Val)) : (putsF l).1.length ≤ l.length ∧ (putsF l).2.length ≤ l.length := by
 induction l using snoc_ind with
 | h0 => exact ⟨Nat.le_refl _, Nat.le_refl _⟩
 | h l x ih =>
  rw [putsF_snoc]
  unfold putF
  rw [List.length_append, List.length_singleton]
  split
  ·omega
  ·simp only [List.length_cons]
   split
   ·rw [List.length_append, List.length_singleton]; omega
   ·omega
theorem fieldE_map {α β : Type} (names : List Str) (es : List α) (f : α → β) (s : Str) : fieldE names (es.map f) s = (fieldE names es s).map f := by
 unfold fieldE
 have : names.zip (es.map f) = (names.zip es).map fun q => (q.1, f q.2) := by rw [List.zip_map_right]; rfl
 rw [this, List.find?_map, Option.map_map, Option.map_map]
 rfl
def tabK (m : Mod) (l : List (Str × Val)) : KFun := fun x s => (fieldZ l x).map fun v => v.value m s
theorem tabK_eq (m : Mod) (names : List Str) (ks : List Val) : tabK m (names.zip ks) = kfun names (ks.map (Val.ent m)) := by
 funext x s
 unfold tabK kfun
 rw [fieldE_map, Option.map_map]
 rfl
theorem puts_point (m : Mod) (names : List Str) (ks : List Val) : PointOf names (ks.map (Val.ent m)) (putsF (names.zip ks)).2 := by
 intro x
 rw [putsF_at, fieldE_map]
 unfold fieldE fieldZ
 cases (names.zip ks).find? fun q => q.1 == x <;> rfl
theorem value_flat {m : Mod} {names : List Str} {ks : List Val} {body : Pred} {used : List Str} (hc : body.cnt < 1048576) (hu : used.length < 4294967296) (h1 : ∀ x ∈ names, x ∈ used) (h2 : ∀ x, HasVar body x → x ∈ used) (hb : body.checkE = 0) :
  EvalS (flatP true (tabK m (names.zip ks)) body ⟨used, (putsF (names.zip ks)).2⟩).2.at' [] (flatP true (tabK m (names.zip ks)) body ⟨used, (putsF (names.zip ks)).2⟩).1 = bodyR names (ks.map (Val.ent m)) body := by
 rw [flat_eval (at0 := (putsF (names.zip ks)).2) hc hu (fun c hc => ?_) h2 rfl hb, tabK_eq, body_eval (puts_point m names ks) body (good_of hb)]
 obtain ⟨x, h3, h4⟩ := putsF_names _ c hc
 rw [← h4]
 exact h1 _ (List.of_mem_zip h3).1
end Go.Abs
end
section
namespace Go.Abs
theorem all_false {α : Type} {f : α → Bool} {l : List α} {k : α} (hk : k ∈ l) (h : f k = false) : l.all f = false := by
 rw [List.all_eq_false]; exact ⟨k, hk, by simp [h]⟩
end Go.Abs
end
section
namespace Go.Abs
def Cmp (p : Pred) : Prop := p.op ≠ 0 ∧ p.op ≠ 2
theorem Cmp.void {p : Pred} (h : Cmp p) : voidP p = false := by
 unfold voidP
 rw [Bool.or_eq_false_iff]
 constructor <;> rw [← Bool.not_eq_true, Pred.same_iff]
 ·rintro rfl; exact h.1 rfl
 ·rintro rfl; exact h.2 rfl
theorem Cmp.false {p : Pred} (h : Cmp p) : isFalse p = false := by
 unfold isFalse
 rw [h.void, Bool.not_false, Bool.true_and, ← Bool.not_eq_true, Pred.same_iff]
 rintro rfl; exact h.2 rfl
end Go.Abs
end
section
namespace Go.Abs
theorem ixF_mid {α : Type} {f : α → Bool} {done r : List α} {x : α} (h : ∀ y ∈ done, f y = false) : (done ++ x :: r).findIdx? f = if f x then some done.length else (r.findIdx? f).map fun i => i + done.length + 1 := by
 induction done with
 | nil =>
  rw [List.nil_append, List.findIdx?_cons]
  split
  ·rfl
  ·simp
 | cons y done ih =>
  rw [List.cons_append, List.findIdx?_cons, h y (by simp), ih fun z hz => h z (by simp [hz])]
  simp only [Bool.false_eq_true, if_false]
  split
  ·simp
  ·rw [Option.map_map]
   congr 1
theorem ixF_none {α : Type} {f : α → Bool} {l : List α} (h : ∀ y ∈ l, f y = false) : l.findIdx? f = none := by
 rw [List.findIdx?_eq_none_iff]; exact h
def ixI {α : Type} (f : α → Bool) (l : List α) : Int := match l.findIdx? f with
 | some i => i
 | none => -1
theorem ixI_cases {α : Type} (f : α → Bool) (l : List α) : (∃ a x r, l = a ++ x :: r ∧ (∀ y ∈ a, f y = false) ∧ f x = true ∧ ixI f l = a.length ∧ l.find? f = some x) ∨ ((∀ y ∈ l, f y = false) ∧ ixI f l = -1 ∧ l.find? f = none) := by
 cases h : l.find? f with
 | none =>
  have hall : ∀ y ∈ l, f y = false := fun y hy => by have := List.find?_eq_none.1 h y hy; simpa using this
  refine .inr ⟨hall, ?_, rfl⟩
  unfold ixI; rw [ixF_none hall]
 | some x =>
  obtain ⟨hx, a, r, rfl, ha⟩ := List.find?_eq_some_iff_append.1 h
  have ha' : ∀ y ∈ a, f y = false := fun y hy => by simpa using ha y hy
  refine .inl ⟨a, x, r, rfl, ha', hx, ?_, rfl⟩
  unfold ixI; rw [ixF_mid ha', if_pos hx]
def findM (l : List Meas) (s : Str) : Meas × Bool := match l.find? (fun x => x.name == s) with
 | some x => (x, true)
 | none => (Meas.zero, false)
def findCas (l : List Cas) (s : Str) : Cas × Bool := match l.find? (fun x => x.con == s) with
 | some x => (x, true)
 | none => (Cas.zero, false)
theorem Meas.cells_mk (a b c : Str) (l : List Cas) (o : Int) (s : Str) (n : Int) (ks : List Pred) : Meas.cells ⟨a, b, c, l, .mk o s n ks⟩ = [.str a, .str b, .str c, .lst (l.map Cas.cells), .int .i64 o, .str s, .int .i64 n, .lst (ks.map Pred.cells)] := by rw [Meas.cells, Pred.cells_eq]; rfl
theorem Cas.cells_mk (a : Str) (l : List Str) (o : Int) (s : Str) (n : Int) (ks : List Pred) : Cas.cells ⟨a, l, .mk o s n ks⟩ = [.str a, .lst (l.map fun k => [.str k]), .int .i64 o, .str s, .int .i64 n, .lst (ks.map Pred.cells)] := by rw [Cas.cells, Pred.cells_eq]; rfl
theorem Meas.cells_zero : Meas.zero.cells = [.str [], .str [], .str [], .lst [], .int .i64 0, .str [], .int .i64 0, .lst []] := Meas.cells_mk _ _ _ _ _ _ _ _
theorem Cas.cells_zero : Cas.zero.cells = [.str [], .lst [], .int .i64 0, .str [], .int .i64 0, .lst []] := Cas.cells_mk _ _ _ _ _ _
theorem DataT.cells_zero : DataT.zero.cells = [.str [], .lst [], .lst [], .lst []] := rfl
theorem getD_atF {α : Type} {f : α → List D} {l a r : List α} {x : α} {n : Nat} (hl : l = a ++ x :: r) (hn : a.length = n) : (l.map f).getD n [] = f x := by subst hn; exact getD_at hl
def Val.zero : Val := .mk 0 0 [] [] (.lst []) (.lst []) (.lst [])
theorem Val.cells_zero : Val.zero.cells = [.int .i64 0, .int .i64 0, .str [], .lst [], .lst [], .lst [], .lst []] := Val.cells_mk _ _ _ _ _ _ _
theorem fieldE_mid {names na nr : List Str} {ks ka kr : List Val} {x s : Str} {k : Val} (h1 : names = na ++ x :: nr) (h2 : ks = ka ++ k :: kr) (hl : na.length = ka.length) (h : ∀ y ∈ na, (y == s) = false) : fieldE names ks s = if x == s then some k else fieldE nr kr s := by
 subst h1 h2
 unfold fieldE
 rw [List.zip_append hl, List.zip_cons_cons]
 have : ∀ q ∈ na.zip ka, (q.1 == s) = false := fun q hq => h q.1 (List.of_mem_zip (show (q.1, q.2) ∈ na.zip ka from hq)).1
 rw [find_mid this]
 simp only
 split <;> rfl
theorem fieldE_none {names : List Str} {ks : List Val} {s : Str} (h : ∀ y ∈ names, (y == s) = false) : fieldE names ks s = none := by
 unfold fieldE
 have : ∀ q ∈ names.zip ks, (q.1 == s) = false := fun q hq => h q.1 (List.of_mem_zip (show (q.1, q.2) ∈ names.zip ks from hq)).1
 rw [find_all this]; rfl
def fieldR (names : List Str) (ks : List Val) (s : Str) : Val × Bool := match fieldE names ks s with
 | some k => (k, true)
 | none => (Val.zero, false)
variable {E : AEnv} (Z : Sys E)
include Z
theorem syntax_Con_ev (m : Mod) (s : Str) : E.C syntax_Con [.agg m.cells, .one (.str s)] (.tup [.agg (conS s m.datas).1.cells, .one (.int .i64 (conS s m.datas).2.1), .one (.bool (conS s m.datas).2.2)]) := by
 refine Z.syntax_Con _ _ ⟨Nat.le_of_ble_eq_true rfl, ?_⟩
 generalize hR : conS s m.datas = R
 simp only [fn_syntax_Con, Mod.cells, go_sem]
 intro hlen
 refine loop_list m.datas (fun done => ∀ y ∈ done, conIx s 0 y.cons = none) (fun done rest => ⟨[(14, .d (.int .i64 done.length)), (13, .d (.int .i64 m.datas.length)), (12, .d (.lst (m.datas.map DataT.cells))), (1, .d (.str s)), (4, .ptr 4 0)], [(4, [.d (.str []), .full [], .full [], .full []])], []⟩) ?_ (by simp) ?_ ?_
 ·exact Ent_plain (by simp only [go_sem, Option.isSome_some])
 ·intro done d r hl hI
  have hx := getD_at (f := DataT.cells) (d := []) hl
  have hlt := lt_mid hl
  have hw : IntKind.i64.wrap ((done.length : Int) + 1) = ((done.length + 1 : Nat) : Int) := wrap_succ (by omega)
  have hR' : conS s m.datas = match conIx s 0 d.cons with
    | some i => (d, (i : Int), true)
    | none => match conOf s r with
     | some (d, i) => (d, (i : Int), true)
     | none => (DataT.zero, 0, false) := by
   unfold conS
   rw [hl, conOf_mid hI]
   cases conIx s 0 d.cons <;> rfl
  rw [hR'] at hR
  simp only [fn_syntax_Con_L2, go_sem, hx, hlt, DataT.cells]
  intro hlen2
  refine loop_named fun K hK => ?_
  refine loop_list d.cons (fun dn => ∀ y ∈ dn, (y.name == s) = false) (fun dn rest => ⟨[(21, .d (.int .i64 dn.length)), (20, .d (.int .i64 d.cons.length)), (19, .d (.lst (d.cons.map ConT.cells))), (14, .d (.int .i64 done.length)), (13, .d (.int .i64 m.datas.length)), (12, .d (.lst (m.datas.map DataT.cells))), (1, .d (.str s)), (4, .ptr 4 0), (8, .ptr 8 0)], [(4, [.d (.str []), .full [], .full [], .full []]), (8, [.d (.str d.name), .d d.vs, .d d.ps, .d (.lst (d.cons.map ConT.cells))])], []⟩) ?_ (by simp) ?_ ?_
  ·exact Ent_plain (by simp only [go_sem, Option.isSome_some])
  ·intro dn c r2 hl2 hI2
   have hx2 := getD_at (f := ConT.cells) (d := []) hl2
   have hlt2 := lt_mid hl2
   have hw2 : IntKind.i64.wrap ((dn.length : Int) + 1) = ((dn.length + 1 : Nat) : Int) := wrap_succ (by omega)
   rw [hl2, conIx_mid 0 hI2] at hR
   simp only [fn_syntax_Con_L1, go_sem, hx2, hlt2, ConT.cells]
   cases h1 : (c.name == s) with
   | true =>
    simp only [h1, go_sem] at hR ⊢
    simp only [hK, go_sem, ← hR, DataT.cells, and_self, hl2, Nat.zero_add]
   | false =>
    simp only [go_sem, hw2, List.length_append]
    exact ⟨Ent_plain (by simp only [go_sem, Option.isSome_some]), app_all hI2 h1⟩
  ·intro hI2
   have hno := conIx_none 0 hI2
   simp only [fn_syntax_Con_L1, go_sem, hK, hw, List.length_append]
   exact ⟨Ent_plain (by simp only [go_sem, Option.isSome_some]), app_all hI hno⟩
 ·intro hI
  have hR' : conS s m.datas = (DataT.zero, 0, false) := by unfold conS; rw [conOf_none hI]
  rw [hR'] at hR
  simp only [fn_syntax_Con_L2, go_sem, ← hR, DataT.cells_zero, and_self]
theorem r20_Con_ev (m : Mod) (s : Str) : E.C r20_Con [.agg m.cells, .one (.str s)] (.tup [.agg (conS s m.datas).1.cells, .one (.int .i64 (conS s m.datas).2.1), .one (.bool (conS s m.datas).2.2)]) := by
 refine Z.r20_Con _ _ ⟨Nat.le_of_ble_eq_true rfl, ?_⟩
 generalize hR : conS s m.datas = R
 simp only [fn_r20_Con, Mod.cells, go_sem]
 refine loop_list m.datas (fun done => ∀ y ∈ done, conIx s 0 y.cons = none) (fun done rest => ⟨[(7, .d (.int .i64 done.length)), (2, .ptr 2 0), (1, .d (.str s)), (4, .ptr 4 0)], [(2, [.d (.lst (m.datas.map DataT.cells)), .d m.cls, .d m.ins, .d (.lst (m.meas.map Meas.cells)), .d m.quals, .d m.defs]), (4, [.d (.str []), .full [], .full [], .full []])], []⟩) ?_ (by simp) ?_ ?_
 ·exact Ent_plain (by simp only [go_sem, Option.isSome_some])
 ·intro done d r hl hI
  have hx := getD_at (f := DataT.cells) (d := []) hl
  have hlt := lt_mid hl
  have hR' : conS s m.datas = match conIx s 0 d.cons with
    | some i => (d, (i : Int), true)
    | none => match conOf s r with
     | some (d, i) => (d, (i : Int), true)
     | none => (DataT.zero, 0, false) := by
   unfold conS
   rw [hl, conOf_mid hI]
   cases conIx s 0 d.cons <;> rfl
  rw [hR'] at hR
  simp only [fn_r20_Con_L2, go_sem, hlt, List.length_map]
  intro hlen
  have hw : IntKind.i64.wrap ((done.length : Int) + 1) = ((done.length + 1 : Nat) : Int) := wrap_succ (by omega)
  refine loop_named fun K hK => ?_
  refine loop_list d.cons (fun dn => ∀ y ∈ dn, (y.name == s) = false) (fun dn rest => ⟨[(8, .d (.int .i64 dn.length)), (7, .d (.int .i64 done.length)), (2, .ptr 2 0), (1, .d (.str s)), (4, .ptr 4 0)], [(2, [.d (.lst (m.datas.map DataT.cells)), .d m.cls, .d m.ins, .d (.lst (m.meas.map Meas.cells)), .d m.quals, .d m.defs]), (4, [.d (.str []), .full [], .full [], .full []])], []⟩) ?_ (by simp) ?_ ?_
  ·exact Ent_plain (by simp only [go_sem, Option.isSome_some])
  ·intro dn c r2 hl2 hI2
   have hx2 := getD_at (f := ConT.cells) (d := []) hl2
   have hlt2 := lt_mid hl2
   rw [hl2, conIx_mid 0 hI2] at hR
   simp only [fn_r20_Con_L1, go_sem, hx, hlt, DataT.cells, List.length_map, hlt2]
   intro hlen2
   have hw2 : IntKind.i64.wrap ((dn.length : Int) + 1) = ((dn.length + 1 : Nat) : Int) := wrap_succ (by omega)
   simp only [go_sem, hx, hlt, DataT.cells, List.length_map, hlt2, hx2, ConT.cells]
   cases h1 : (c.name == s) with
   | true =>
    simp only [h1, go_sem] at hR ⊢
    simp only [hx, hlt, List.length_map, DataT.cells, go_sem, hK, ← hR, and_self, hl2, Nat.zero_add]
   | false =>
    simp only [go_sem, hw2, List.length_append]
    exact ⟨Ent_plain (by simp only [go_sem, Option.isSome_some]), app_all hI2 h1⟩
  ·intro hI2
   have hno := conIx_none 0 hI2
   simp only [fn_r20_Con_L1, go_sem, hx, hlt, DataT.cells, List.length_map]
   intro _
   simp only [go_sem, hK, hw, List.length_append]
   exact ⟨Ent_plain (by simp only [go_sem, Option.isSome_some]), app_all hI hno⟩
 ·intro hI
  have hR' : conS s m.datas = (DataT.zero, 0, false) := by unfold conS; rw [conOf_none hI]
  rw [hR'] at hR
  simp only [fn_r20_Con_L2, go_sem, List.length_map]
  intro _
  simp only [go_sem, ← hR, DataT.cells_zero, and_self]
theorem ixMeas_ev (l : List Meas) (s : Str) : E.C slices_IndexFunc_api_Measure_api_Measure [.one (.lst (l.map Meas.cells)), .one (.clo measure_find_1 [.ref [.str s]])] (.one (.int .i64 (ixI (fun x : Meas => x.name == s) l))) := by
 refine Z.slices_IndexFunc_api_Measure_api_Measure _ _ ⟨Nat.le_of_ble_eq_true rfl, ?_⟩
 have hf : ∀ x : Meas, E.C measure_find_1 [.agg x.cells, .one (.ref [.str s])] (.one (.bool (x.name == s))) := fun x => by
  obtain ⟨a, b, c, cs, o, t, n, ks⟩ := x
  refine Z.measure_find_1 _ _ ⟨Nat.le_of_ble_eq_true rfl, ?_⟩
  simp only [fn_measure_find_1, Meas.cells_mk, go_sem]
 generalize hR : ixI (fun x : Meas => x.name == s) l = R
 simp only [fn_slices_IndexFunc_api_Measure_api_Measure, go_sem]
 intro hlen
 refine loop_list l (fun done => ∀ y ∈ done, (y.name == s) = false) (fun done rest => ⟨[(8, .d (.int .i64 done.length)), (7, .d (.int .i64 l.length)), (0, .d (.lst (l.map Meas.cells))), (1, .d (.clo measure_find_1 [.ref [.str s]]))], [], []⟩) ?_ (by simp) ?_ ?_
 ·exact Ent_plain (by simp only [go_sem])
 ·intro done x r hl hI
  have hx := getD_at (f := Meas.cells) (d := []) hl
  have hlt := lt_mid hl
  have hw : IntKind.i64.wrap ((done.length : Int) + 1) = ((done.length + 1 : Nat) : Int) := wrap_succ (by omega)
  unfold ixI at hR
  rw [hl, ixF_mid hI] at hR
  have hx4 : (Meas.cells x).take 8 = Meas.cells x := List.take_of_length_le (Nat.le_of_eq (Meas.cells_length x))
  simp only [fn_slices_IndexFunc_api_Measure_api_Measure_L1, go_sem, hx, hlt, List.length_map, hx4]
  refine call_by (hf x) ?_
  cases h1 : (x.name == s) with
  | true =>
   simp only [h1, go_sem] at hR ⊢
   exact hR
  | false =>
   simp only [go_sem, hw, List.length_append]
   exact ⟨Ent_plain (by simp only [go_sem]), app_all hI h1⟩
 ·intro hI
  unfold ixI at hR
  rw [ixF_none hI] at hR
  simp only [fn_slices_IndexFunc_api_Measure_api_Measure_L1, go_sem, ← hR]
theorem measure_find_ev (m : Mod) (s : Str) : E.C measure_find [.agg m.cells, .one (.str s)] (.tup [.agg (findM m.meas s).1.cells, .one (.bool (findM m.meas s).2)]) := by
 have hix := ixMeas_ev Z m.meas s
 refine Z.measure_find _ _ ⟨Nat.le_of_ble_eq_true rfl, ?_⟩
 simp only [fn_measure_find, Mod.cells, go_sem]
 refine call_byM (by simp only [CV.flat, flatD]) hix ?_
 rcases ixI_cases (fun x : Meas => x.name == s) m.meas with ⟨a, x, r, hl, ha, hx, h1, h2⟩ | ⟨ha, h1, h2⟩
 ·have hg := getD_at (f := Meas.cells) (d := []) hl
  have hlt := lt_mid hl
  have hneg : ((a.length : Int) < 0) = False := eq_false (by omega)
  have hR : findM m.meas s = (x, true) := by unfold findM; rw [h2]
  rw [h1, hR]
  obtain ⟨b, c, d, cs, o, t, n, ks⟩ := x
  simp only [go_sem, hneg, decide_false, hg, hlt, List.length_map, Meas.cells_mk, and_self]
 ·have hR : findM m.meas s = (Meas.zero, false) := by unfold findM; rw [h2]
  rw [h1, hR]
  simp only [go_sem, Meas.cells_zero, and_self]
theorem ixCas_ev (l : List Cas) (s : Str) : E.C slices_IndexFunc_api_Case_api_Case [.one (.lst (l.map Cas.cells)), .one (.clo measure_caseOf_1 [.ref [.str s]])] (.one (.int .i64 (ixI (fun x : Cas => x.con == s) l))) := by
 refine Z.slices_IndexFunc_api_Case_api_Case _ _ ⟨Nat.le_of_ble_eq_true rfl, ?_⟩
 have hf : ∀ x : Cas, E.C measure_caseOf_1 [.agg x.cells, .one (.ref [.str s])] (.one (.bool (x.con == s))) := fun x => by
  obtain ⟨a, cs, o, t, n, ks⟩ := x
  refine Z.measure_caseOf_1 _ _ ⟨Nat.le_of_ble_eq_true rfl, ?_⟩
  simp only [fn_measure_caseOf_1, Cas.cells_mk, go_sem]
 generalize hR : ixI (fun x : Cas => x.con == s) l = R
 simp only [fn_slices_IndexFunc_api_Case_api_Case, go_sem]
 intro hlen
 refine loop_list l (fun done => ∀ y ∈ done, (y.con == s) = false) (fun done rest => ⟨[(8, .d (.int .i64 done.length)), (7, .d (.int .i64 l.length)), (0, .d (.lst (l.map Cas.cells))), (1, .d (.clo measure_caseOf_1 [.ref [.str s]]))], [], []⟩) ?_ (by simp) ?_ ?_
 ·exact Ent_plain (by simp only [go_sem])
 ·intro done x r hl hI
  have hx := getD_at (f := Cas.cells) (d := []) hl
  have hlt := lt_mid hl
  have hw : IntKind.i64.wrap ((done.length : Int) + 1) = ((done.length + 1 : Nat) : Int) := wrap_succ (by omega)
  unfold ixI at hR
  rw [hl, ixF_mid hI] at hR
  have hx4 : (Cas.cells x).take 6 = Cas.cells x := List.take_of_length_le (Nat.le_of_eq (Cas.cells_length x))
  simp only [fn_slices_IndexFunc_api_Case_api_Case_L1, go_sem, hx, hlt, List.length_map, hx4]
  refine call_by (hf x) ?_
  cases h1 : (x.con == s) with
  | true =>
   simp only [h1, go_sem] at hR ⊢
   exact hR
  | false =>
   simp only [go_sem, hw, List.length_append]
   exact ⟨Ent_plain (by simp only [go_sem]), app_all hI h1⟩
 ·intro hI
  unfold ixI at hR
  rw [ixF_none hI] at hR
  simp only [fn_slices_IndexFunc_api_Case_api_Case_L1, go_sem, ← hR]
theorem measure_caseOf_ev (x : Meas) (s : Str) : E.C measure_caseOf [.agg x.cells, .one (.str s)] (.tup [.agg (findCas x.cases s).1.cells, .one (.bool (findCas x.cases s).2)]) := by
 have hix := ixCas_ev Z x.cases s
 refine Z.measure_caseOf _ _ ⟨Nat.le_of_ble_eq_true rfl, ?_⟩
 obtain ⟨b0, c0, d0, cs0, o0, t0, n0, ks0⟩ := x
 simp only [fn_measure_caseOf, Meas.cells_mk, go_sem] at hix ⊢
 refine call_byM (by simp only [CV.flat, flatD]) hix ?_
 rcases ixI_cases (fun x : Cas => x.con == s) cs0 with ⟨a, x, r, hl, ha, hx, h1, h2⟩ | ⟨ha, h1, h2⟩
 ·have hg := getD_at (f := Cas.cells) (d := []) hl
  have hlt := lt_mid hl
  have hneg : ((a.length : Int) < 0) = False := eq_false (by omega)
  have hR : findCas cs0 s = (x, true) := by unfold findCas; rw [h2]
  rw [h1, hR]
  obtain ⟨b, cs, o, t, n, ks⟩ := x
  simp only [go_sem, hneg, decide_false, hg, hlt, List.length_map, Cas.cells_mk, and_self]
 ·have hR : findCas cs0 s = (Cas.zero, false) := by unfold findCas; rw [h2]
  rw [h1, hR]
  simp only [go_sem, Cas.cells_zero, and_self]
theorem r34_find_ev (m : Mod) (s : Str) : E.C r34_find [.agg m.cells, .one (.str s)] (.tup [.agg (findM m.meas s).1.cells, .one (.bool (findM m.meas s).2)]) := by
 refine Z.r34_find _ _ ⟨Nat.le_of_ble_eq_true rfl, ?_⟩
 generalize hR : findM m.meas s = R
 unfold findM at hR
 simp only [fn_r34_find, Mod.cells, go_sem]
 refine loop_list m.meas (fun done => ∀ y ∈ done, (y.name == s) = false) (fun done rest => ⟨[(6, .d (.int .i64 done.length)), (2, .ptr 2 0), (1, .d (.str s)), (4, .ptr 4 0)], [(2, [.d (.lst (m.datas.map DataT.cells)), .d m.cls, .d m.ins, .d (.lst (m.meas.map Meas.cells)), .d m.quals, .d m.defs]), (4, [.d (.str []), .d (.str []), .d (.str []), .full [], .d (.int .i64 0), .d (.str []), .d (.int .i64 0), .full []])], []⟩) ?_ (by simp) ?_ ?_
 ·exact Ent_plain (by simp only [go_sem, Option.isSome_some])
 ·intro done x r hl hI
  have hx := getD_at (f := Meas.cells) (d := []) hl
  have hlt := lt_mid hl
  rw [hl, find_mid hI] at hR
  obtain ⟨b, c, d, cs, o, t, n, ks⟩ := x
  simp only [fn_r34_find_L1, go_sem, hlt, List.length_map]
  intro hlen
  have hw : IntKind.i64.wrap ((done.length : Int) + 1) = ((done.length + 1 : Nat) : Int) := wrap_succ (by omega)
  simp only [go_sem, hx, hlt, List.length_map, Meas.cells_mk]
  cases h1 : (b == s) with
  | true =>
   simp only [h1, go_sem, hx, hlt, List.length_map, Meas.cells_mk] at hR ⊢
   simp only [← hR, Meas.cells_mk, and_self]
  | false =>
   simp only [go_sem, hw, List.length_append]
   exact ⟨Ent_plain (by simp only [go_sem, Option.isSome_some]), app_all hI h1⟩
 ·intro hI
  rw [find_all hI] at hR
  simp only [fn_r34_find_L1, go_sem, List.length_map]
  intro _
  simp only [go_sem, ← hR, Meas.cells_zero, and_self]
theorem r34_Case_ev (x : Meas) (s : Str) : E.C r34_Case [.agg x.cells, .one (.str s)] (.tup [.agg (findCas x.cases s).1.cells, .one (.bool (findCas x.cases s).2)]) := by
 refine Z.r34_Case _ _ ⟨Nat.le_of_ble_eq_true rfl, ?_⟩
 generalize hR : findCas x.cases s = R
 unfold findCas at hR
 obtain ⟨b0, c0, d0, cs0, o0, t0, n0, ks0⟩ := x
 simp only [fn_r34_Case, Meas.cells_mk, go_sem] at hR ⊢
 refine loop_list cs0 (fun done => ∀ y ∈ done, (y.con == s) = false) (fun done rest => ⟨[(6, .d (.int .i64 done.length)), (2, .ptr 2 0), (1, .d (.str s)), (4, .ptr 4 0)], [(2, [.d (.str b0), .d (.str c0), .d (.str d0), .d (.lst (cs0.map Cas.cells)), .d (.int .i64 o0), .d (.str t0), .d (.int .i64 n0), .d (.lst (ks0.map Pred.cells))]), (4, [.d (.str []), .full [], .d (.int .i64 0), .d (.str []), .d (.int .i64 0), .full []])], []⟩) ?_ (by simp) ?_ ?_
 ·exact Ent_plain (by simp only [go_sem, Option.isSome_some])
 ·intro done x r hl hI
  have hx := getD_at (f := Cas.cells) (d := []) hl
  have hlt := lt_mid hl
  rw [hl, find_mid hI] at hR
  obtain ⟨b, cs, o, t, n, ks⟩ := x
  simp only [fn_r34_Case_L1, go_sem, hlt, List.length_map]
  intro hlen
  have hw : IntKind.i64.wrap ((done.length : Int) + 1) = ((done.length + 1 : Nat) : Int) := wrap_succ (by omega)
  simp only [go_sem, hx, hlt, List.length_map, Cas.cells_mk]
  cases h1 : (b == s) with
  | true =>
   simp only [h1, go_sem, hx, hlt, List.length_map, Cas.cells_mk] at hR ⊢
   simp only [← hR, Cas.cells_mk, and_self]
  | false =>
   simp only [go_sem, hw, List.length_append]
   exact ⟨Ent_plain (by simp only [go_sem, Option.isSome_some]), app_all hI h1⟩
 ·intro hI
  rw [find_all hI] at hR
  simp only [fn_r34_Case_L1, go_sem, List.length_map]
  intro _
  simp only [go_sem, ← hR, Cas.cells_zero, and_self]
theorem r34_field_ev (names : List Str) (ks : List Val) (hlen : names.length = ks.length) (s : Str) : E.C r34_field [.one (.lst (names.map fun k => [.str k])), .one (.lst (ks.map Val.cells)), .one (.str s)] (.tup [.agg (fieldR names ks s).1.cells, .one (.bool (fieldR names ks s).2)]) := by
 refine Z.r34_field _ _ ⟨Nat.le_of_ble_eq_true rfl, ?_⟩
 generalize hR : fieldR names ks s = R
 unfold fieldR at hR
 have l1 : (∀ e ∈ names.map (fun k : Str => [D.str k]), e.length = 1) = True := eq_true (by simp)
 simp only [fn_r34_field, go_sem]
 refine loop_list names (fun done => ∀ y ∈ done, (y == s) = false) (fun done rest => ⟨[(8, .d (.int .i64 done.length)), (0, .d (.lst (names.map fun k => [.str k]))), (1, .d (.lst (ks.map Val.cells))), (2, .d (.str s)), (6, .ptr 6 0)], [(6, [.d (.int .i64 0), .d (.int .i64 0), .d (.str []), .full [], .full [], .full [], .full []])], []⟩) ?_ (by simp) ?_ ?_
 ·exact Ent_plain (by simp only [go_sem, Option.isSome_some])
 ·intro done x r hl hI
  obtain ⟨kd, k, kr, hk, hkl⟩ := at_split (b := ks) (n := done.length) (by rw [← hlen, hl]; simp)
  have hx : (names.map fun k : Str => [D.str k]).getD done.length [] = [.str x] := by rw [hl]; simp
  have hx2 := getD_atF (f := Val.cells) hk hkl
  have hlt := lt_mid hl
  have hlt2 := lt_mid hk
  rw [hkl] at hlt2
  rw [fieldE_mid hl hk hkl.symm hI] at hR
  simp only [fn_r34_field_L1, go_sem, hlt, List.length_map, l1]
  intro hlen
  have hw : IntKind.i64.wrap ((done.length : Int) + 1) = ((done.length + 1 : Nat) : Int) := wrap_succ (by omega)
  obtain ⟨a, b, c, d, e, f, g⟩ := k
  simp only [go_sem, hx, hlt, List.length_map, l1]
  cases h1 : (x == s) with
  | true =>
   simp only [h1, go_sem, hx2, hlt2, List.length_map, Val.cells_mk] at hR ⊢
   simp only [← hR, Val.cells_mk, and_self]
  | false =>
   simp only [go_sem, hw, List.length_append]
   exact ⟨Ent_plain (by simp only [go_sem, Option.isSome_some]), app_all hI h1⟩
 ·intro hI
  rw [fieldE_none hI] at hR
  simp only [fn_r34_field_L1, go_sem, List.length_map]
  intro _
  simp only [go_sem, ← hR, Val.cells_zero, and_self]
theorem r34_is_ev (b : Bool) : E.C r34_is [.one (.bool b)] (.one (.int .i64 (tru b))) := by
 refine Z.r34_is _ _ ⟨Nat.le_of_ble_eq_true rfl, ?_⟩
 cases b <;> simp only [fn_r34_is, go_sem, tru]
end Go.Abs
end
section
namespace Go.Abs
def takenM (l : List Str) : List (D × MV) := l.reverse.map fun s => (.str s, .one (.bool true))
theorem takenM_snoc (l : List Str) (s : Str) : takenM (l ++ [s]) = (.str s, .one (.bool true)) :: takenM l := by simp [takenM]
theorem takenM_len (l : List Str) : (takenM l).length = l.length := by simp [takenM]
theorem takenM_at (l : List Str) (s : Str) : mapAt (takenM l) (.str s) (.one (.bool false)) = .one (.bool (l.contains s)) := by
 induction l using snoc_ind with
 | h0 => rfl
 | h l x ih =>
  rw [takenM_snoc]
  unfold mapAt at ih ⊢
  rw [mapGet, keyEq_str]
  by_cases hx : x = s
  ·subst hx; simp
  ·have h1 : (x == s) = false := by simpa using hx
   have h2 : (l ++ [x]).contains s = l.contains s := by
    rw [Bool.eq_iff_iff, List.contains_iff_mem, List.contains_iff_mem]; simp [Ne.symm hx]
   rw [h1, h2]
   exact ih
def ItoaLaw (E : AEnv) : Prop := ∀ n, I64 n → E.C strconv_Itoa [.one (.int .i64 n)] (.one (.str (Lib.itoa n)))
theorem seq3_named {E : AEnv} {a b c d : AC} {Q : AX → St → Prop} {st : St} (h : ∀ N, N = awp E d Q → awp E a (seqK (awp E b (seqK (awp E c (seqK N Q)) Q)) Q) st) : awp E (.seq a (.seq b (.seq c d))) Q st := h _ rfl
variable {E : AEnv} (Z : Sys E)
include Z
theorem names_Fresh_ev (hI : ItoaLaw E) (used : List Str) (base : Str) (hu : used.length < 4611686018427387904) (hb : base.length < 4611686018427387904) : E.C names_Fresh [.one (.lst (used.map fun k => [.str k])), .one (.str base)] (.one (.str (freshS used base))) := by
 refine Z.names_Fresh _ _ ⟨Nat.le_of_ble_eq_true rfl, ?_⟩
 have l1 : (∀ e ∈ used.map (fun k : Str => [D.str k]), e.length = 1) = True := eq_true (by simp)
 simp only [fn_names_Fresh, go_sem]
 intro hlen
 refine loop_named fun K hK => ?_
 refine loop_list used (fun _ => True) (fun done rest => ⟨[(13, .d (.int .i64 done.length)), (12, .d (.int .i64 used.length)), (11, .d (.lst (used.map fun k => [.str k]))), (1, .d (.str base)), (5, .mref 10)], [(10, [.mp ty_str ty_bool (takenM done)])], []⟩) ?_ trivial ?_ ?_
 ·exact Ent_plain (by simp only [go_sem, Option.isSome_some, takenM, List.reverse_nil])
 ·intro done x r hl _
  have hx : (used.map fun k : Str => [D.str k]).getD done.length [] = [.str x] := by rw [hl]; simp
  have hlt := lt_mid hl
  have hw : IntKind.i64.wrap ((done.length : Int) + 1) = ((done.length + 1 : Nat) : Int) := wrap_succ (by omega)
  have hdl : done.length < 9223372036854775807 := by
   have : done.length ≤ used.length := by rw [hl]; simp
   omega
  simp only [fn_names_Fresh_L2, go_sem, hx, hlt, List.length_map, l1, AV.toMV, takenM_len, hdl]
  simp only [go_sem, hw, List.length_append]
  exact Ent_plain (by simp only [go_sem, Option.isSome_some, takenM_snoc])
 ·intro _
  simp only [fn_names_Fresh_L2, go_sem, hK, takenM_at, MV.av]
  cases hc : used.contains base with
  | false =>
   simp only [go_sem, freshS_base hc]
  | true =>
   simp only [go_sem]
   refine loop_named fun K2 hK2 => ?_
   refine loop_meas (fun n : Nat => ⟨[(8, .d (.int .i64 n)), (1, .d (.str base)), (5, .mref 10)], [(10, [.mp ty_str ty_bool (takenM used)])], []⟩) (fun n => 1 ≤ n ∧ ∀ i, 1 ≤ i → i < n → numd base i ∈ used) (fun n => used.length + 2 - n) 1 ?_ ⟨Nat.le_refl _, fun i a b => by omega⟩ ?_
   ·exact Ent_plain (by simp only [go_sem, Option.isSome_some]; try rfl)
   ·rintro n ⟨h1, h2⟩
    have hn : n - 1 ≤ used.length := taken_le (base := base) fun i a b => h2 i a (by omega)
    have hI64 : I64 (n : Int) := ⟨by omega, by omega⟩
    have hil := Lib.itoa_length_le (n : Int) hI64.1 hI64.2
    have o1 : base.length + (Lib.itoa (n : Int)).length ≤ 9223372036854775807 := by omega
    have hw : IntKind.i64.wrap ((n : Int) + 1) = ((n + 1 : Nat) : Int) := wrap_succ (by omega)
    simp only [fn_names_Fresh_L1, go_sem]
    refine call_by (hI _ hI64) ?_
    simp only [go_sem, o1, takenM_at, MV.av]
    cases hc2 : used.contains (base ++ Lib.itoa (n : Int)) with
    | false =>
     have hno : numd base n ∉ used := fun hm => by
      have := List.contains_iff_mem.2 hm
      rw [show numd base n = base ++ Lib.itoa (n : Int) from rfl, hc2] at this
      cases this
     have hfr := freshS_num hc h1 h2 hno
     simp only [go_sem, hK2, hfr, numd]
    | true =>
     simp only [go_sem, hw]
     refine ⟨n + 1, Ent_plain (by simp only [go_sem, Option.isSome_some]), ⟨by omega, fun i a b => ?_⟩, by omega⟩
     by_cases hi : i = n
     ·subst hi; exact List.contains_iff_mem.1 hc2
     ·exact h2 i a (by omega)
theorem r34_operation_ev (o : Int) (l : List Int) (h0 : l ≠ []) : E.C r34_operation [.one (.int .i64 o), .one (.lst (l.map icell))] (res2 (opR o (l.getD 0 0) (l.getD 1 0))) := by
 have ha := fun a b => r01_Add_ev Z a b
 have hs := fun a b => r01_Sub_ev Z a b
 have hm := fun a b => r01_Mul_ev Z a b
 have hi := fun b => r34_is_ev Z b
 unfold res2 at *
 refine Z.r34_operation _ _ ⟨Nat.le_of_ble_eq_true rfl, ?_⟩
 obtain ⟨a, r, rfl⟩ := List.exists_cons_of_ne_nil h0
 have lpos : ((0 : Int) < ((a :: r).length : Int)) = True := eq_true (by rw [List.length_cons]; omega)
 have l1 := icell_lens (a :: r)
 have hg0 : ((a :: r).map icell).getD 0 [] = [.int .i64 a] := rfl
 generalize hb : (a :: r).getD 1 0 = b
 have hg1 : (1 : Int) < ((a :: r).length : Int) → ((a :: r).map icell).getD 1 [] = [.int .i64 b] := by
  intro h
  cases r with
  | nil => simp at h
  | cons c r => subst hb; rfl
 have hb0 : ¬ (1 : Int) < ((a :: r).length : Int) → b = 0 := by
  intro h
  cases r with
  | nil => subst hb; rfl
  | cons c r => exact absurd (by rw [List.length_cons, List.length_cons]; omega) h
 rw [List.getD_cons_zero]
 have hlm : ((a :: r).map icell).length = (a :: r).length := List.length_map _
 generalize (a :: r).length = m at *
 generalize (a :: r).map icell = L at *
 clear hb h0
 subst hlm
 simp only [fn_r34_operation]
 refine seq3_named fun N hN => ?_
 have tail : ∀ st : St, getS st.slots 0 = .d (.int .i64 o) → getS st.slots 6 = .d (.int .i64 a) → getS st.slots 7 = .d (.int .i64 b) → N st := by
  intro st e0 e6 e7
  subst hN
  clear hg0 hg1 lpos l1 hb0
  generalize hR : opR o a b = R
  unfold opR at hR
  cases c9 : (o == 9) with
  | true =>
   have e9 : o = 9 := by simpa using c9
   subst e9
   change subI 0 a = R at hR
   simp only [↓reduceIte, go_sem, e0, e6, e7] at hR ⊢; refine call_by (hs 0 a) ?_; simp only [go_sem, ← hR, and_self]
  | false =>
  cases c14 : (o == 14) with
  | true =>
   have e14 : o = 14 := by simpa using c14
   subst e14
   change (tru (a == 0), true) = R at hR
   simp only [↓reduceIte, go_sem, e0, e6, e7] at hR ⊢; refine call_by (hi _) ?_; simp only [go_sem, ← hR, and_self]
  | false =>
  unfold opI at hR
  simp only [c9, c14, Bool.false_eq_true, if_false] at hR
  cases c6 : (o == 6) with
  | true => simp only [↓reduceIte, go_sem, e0, e6, e7, c6] at hR ⊢; refine call_by (ha a b) ?_; simp only [go_sem, ← hR, and_self]
  | false =>
  cases c7 : (o == 7) with
  | true => simp only [↓reduceIte, go_sem, e0, e6, e7, c6, c7] at hR ⊢; refine call_by (hs a b) ?_; simp only [go_sem, ← hR, and_self]
  | false =>
  cases c8 : (o == 8) with
  | true => simp only [↓reduceIte, go_sem, e0, e6, e7, c6, c7, c8] at hR ⊢; refine call_by (hm a b) ?_; simp only [go_sem, ← hR, and_self]
  | false =>
  cases c10 : (o == 10) with
  | true => simp only [↓reduceIte, go_sem, e0, e6, e7, c6, c7, c8, c9, c10] at hR ⊢; refine call_by (hi _) ?_; simp only [go_sem, ← hR, and_self]
  | false =>
  cases c11 : (o == 11) with
  | true => simp only [↓reduceIte, go_sem, e0, e6, e7, c6, c7, c8, c9, c10, c11] at hR ⊢; refine call_by (hi _) ?_; simp only [go_sem, ← hR, and_self]
  | false =>
  cases c12 : (o == 12) with
  | true => simp only [↓reduceIte, go_sem, e0, e6, e7, c6, c7, c8, c9, c10, c11, c12] at hR ⊢; refine call_by (hi _) ?_; simp only [go_sem, ← hR, and_self]
  | false =>
  cases c13 : (o == 13) with
  | true => simp only [↓reduceIte, go_sem, e0, e6, e7, c6, c7, c8, c9, c10, c11, c12, c13] at hR ⊢; refine call_by (hi _) ?_; simp only [go_sem, ← hR, and_self]
  | false =>
  cases c15 : (o == 15) with
  | true => simp only [↓reduceIte, go_sem, e0, e6, e7, c6, c7, c8, c9, c10, c11, c12, c13, c14, c15] at hR ⊢; refine call_by (hi _) ?_; simp only [go_sem, ← hR, and_self]
  | false =>
  cases c16 : (o == 16) with
  | true => simp only [↓reduceIte, go_sem, e0, e6, e7, c6, c7, c8, c9, c10, c11, c12, c13, c14, c15, c16] at hR ⊢; refine call_by (hi _) ?_; simp only [go_sem, ← hR, and_self]
  | false =>
  cases c17 : (o == 17) with
  | true => simp only [↓reduceIte, go_sem, e0, e6, e7, c6, c7, c8, c9, c10, c11, c12, c13, c14, c15, c16, c17] at hR ⊢; refine call_by (hi _) ?_; simp only [go_sem, ← hR, and_self]
  | false =>
  cases c18 : (o == 18) with
  | true => simp only [↓reduceIte, go_sem, e0, e6, e7, c6, c7, c8, c9, c10, c11, c12, c13, c14, c15, c16, c17, c18] at hR ⊢; refine call_by (hi _) ?_; simp only [go_sem, ← hR, and_self]
  | false =>
  simp only [↓reduceIte, go_sem, e0, e6, e7, c6, c7, c8, c9, c10, c11, c12, c13, c14, c15, c16, c17, c18] at hR ⊢; simp only [go_sem, ← hR]
 clear hN
 simp only [go_sem, lpos, l1, hg0, Int.toNat_zero]
 intro _
 by_cases h1 : (1 : Int) < (L.length : Int)
 ·simp only [go_sem, h1, hg1 h1, l1, gt_iff_lt, Int.toNat_one, decide_true]
  refine tail _ ?_ ?_ ?_ <;> simp only [go_sem]
 ·simp only [go_sem, h1, gt_iff_lt, decide_false]
  have := hb0 h1
  subst this
  refine tail _ ?_ ?_ ?_ <;> simp only [go_sem]
end Go.Abs
end
section
namespace Go.Abs
theorem fieldR_some {names : List Str} {ks : List Val} {s : Str} {k : Val} (h : fieldE names ks s = some k) : fieldR names ks s = (k, true) := by unfold fieldR; rw [h]
theorem fieldR_none {names : List Str} {ks : List Val} {s : Str} (h : fieldE names ks s = none) : fieldR names ks s = (Val.zero, false) := by unfold fieldR; rw [h]
theorem fieldE_mem {names : List Str} {ks : List Val} {s : Str} {k : Val} (h : fieldE names ks s = some k) : k ∈ ks := by
 unfold fieldE at h
 rw [Option.map_eq_some_iff] at h
 obtain ⟨q, h1, rfl⟩ := h
 exact (List.of_mem_zip (show (q.1, q.2) ∈ names.zip ks from List.mem_of_find?_eq_some h1)).2
theorem seq2_named {E : AEnv} {a b c : AC} {Q : AX → St → Prop} {st : St} (h : ∀ N, N = awp E c Q → awp E a (seqK (awp E b (seqK N Q)) Q) st) : awp E (.seq a (.seq b c)) Q st := h _ rfl
variable {E : AEnv} (Z : Sys E)
include Z
theorem r34_body_ev (m : Mod) (names : List Str) (ks : List Val) (hlen : names.length = ks.length) (hV : ∀ k ∈ ks, ∀ s, E.C r34_Value [.agg m.cells, .one (.str s), .agg k.cells] (res2 (k.value m s))) (p : Pred) (hp : Good p) :
  E.C r34_body [.agg m.cells, .agg p.cells, .one (.lst (names.map fun k => [.str k])), .one (.lst (ks.map Val.cells))] (res2 (bodyR names (ks.map (Val.ent m)) p)) := by
 induction p using Pred.ind with
 | h o s n qs ih =>
 obtain ⟨⟨o1, o2⟩, hk, _, _⟩ := hp.top
 have hmost := kids_most hk
 have hfield := fun s => r34_field_ev Z names ks hlen s
 have hin := fun n => r01_In_ev Z n
 refine Z.r34_body _ _ ⟨Nat.le_of_ble_eq_true rfl, ?_⟩
 rw [bodyR_eq]
 generalize hR : (if o == 1 || o == 2 then _ else _ : Int × Bool) = R
 rw [Pred.cells_eq (.mk o s n qs)]
 simp only [fn_r34_body, Mod.cells, Pred.op, Pred.name, Pred.n, Pred.kids]
 refine seq2_named fun N hN => ?_
 cases c1 : (o == 1) with
 | true => simp only [↓reduceIte, go_sem, c1] at hR ⊢; simp only [← hR, and_self]
 | false =>
 cases c2 : (o == 2) with
 | true => simp only [↓reduceIte, go_sem, c1, c2] at hR ⊢; simp only [← hR, and_self]
 | false =>
 cases c3 : (o == 3) with
 | true =>
  simp only [↓reduceIte, go_sem, c1, c2, c3] at hR ⊢
  refine call_by (hfield s) ?_
  unfold varR at hR
  rw [fieldE_map] at hR
  cases hf : fieldE names ks s with
  | none =>
   rw [hf] at hR
   simp only [Option.map_none] at hR
   simp only [go_sem, fieldR_none hf, Val.cells_zero]
   refine call_skip ?_
   simp only [go_sem, ← hR, and_self]
  | some k =>
   rw [hf] at hR
   obtain ⟨ko, kn, kname, kk, kp, kb, kd⟩ := k
   have hb : (ko != 1 && ko != 2) = !(ko == 1 || ko == 2) := by simp only [bne, Bool.not_or]
   simp only [Option.map_some, Val.ent, Val.op, Val.n] at hR
   simp only [go_sem, fieldR_some hf, Val.cells_mk, hb]
   cases k1 : (ko == 1 || ko == 2) with
   | false =>
    rw [k1] at hR
    simp only [go_sem]
    refine call_skip ?_
    simp only [go_sem] at hR ⊢
    simp only [← hR, and_self]
   | true =>
    rw [k1] at hR
    simp only [go_sem]
    refine call_by (hin kn) ?_
    cases k2 : inRange kn with
    | false =>
     rw [k2] at hR
     simp only [go_sem] at hR ⊢
     simp only [← hR, and_self]
    | true =>
     rw [k2] at hR
     simp only [go_sem] at hR ⊢
     simp only [← hR, and_self]
 | false =>
 cases c4 : (o == 4) with
 | true =>
  have e4 : o = 4 := by simpa using c4
  subst e4
  simp only [c1, c2, c3, c4, Bool.or_self, Bool.false_eq_true, if_false, if_true] at hR
  rcases qs with _ | ⟨⟨q1, q2, q3, q4⟩, _ | ⟨b, r⟩⟩
  ·change (0, false) = R at hR
   simp only [↓reduceIte, go_sem, c1, c2, c3, c4, Int.reduceBEq, Int.reduceBNe]
   simp only [← hR, go_sem, Int.reduceBEq, Int.reduceBNe, false_implies, and_self]
  ·have l1 : (∀ e ∈ [[D.int .i64 q1, D.str q2, D.int .i64 q3, D.lst (List.map Pred.cells q4)]], e.length = 4) = True := eq_true (by simp)
   have e1 : ((1 : Int) != 1) = false := rfl
   cases c5 : (q1 == 3) with
   | false =>
    have c5' : (q1 != 3) = true := by rw [bne, c5]; rfl
    have hav : appVar 4 [Pred.mk q1 q2 q3 q4] = none := by
     unfold appVar
     simp only [c5, Bool.false_eq_true, if_false]
     rfl
    rw [hav] at hR
    simp only [↓reduceIte, go_sem, c1, c2, c3, c4, Pred.cells_eq (.mk q1 q2 q3 q4), Pred.op, Pred.name, Pred.n, Pred.kids, c5', l1, e1, Int.reduceBEq, Int.reduceBNe]
    simp only [← hR, and_self]
   | true =>
    have c5' : (q1 != 3) = false := by rw [bne, c5]; rfl
    have hav : appVar 4 [Pred.mk q1 q2 q3 q4] = some q2 := by
     unfold appVar
     simp only [c5, if_true]
     rfl
    rw [hav] at hR
    simp only at hR
    unfold appR at hR
    rw [fieldE_map] at hR
    simp only [↓reduceIte, go_sem, c1, c2, c3, c4, Pred.cells_eq (.mk q1 q2 q3 q4), Pred.op, Pred.name, Pred.n, Pred.kids, c5', l1, e1, Int.reduceBEq, Int.reduceBNe]
    refine call_by (hfield q2) ?_
    cases hf : fieldE names ks q2 with
    | none =>
     rw [hf] at hR
     simp only [Option.map_none] at hR
     simp only [go_sem, fieldR_none hf, Val.cells_zero, ← hR, and_self]
    | some k =>
     rw [hf] at hR
     simp only [Option.map_some, Val.ent] at hR
     have hv := hV k (fieldE_mem hf) s
     generalize k.value m s = w at *
     obtain ⟨ko, kn, kname, kk, kp, kb, kd⟩ := k
     simp only [go_sem, fieldR_some hf, Val.cells_mk] at hv ⊢
     unfold res2 at hv
     refine call_by hv ?_
     simp only [go_sem]
     cases w2 : w.2 with
     | false =>
      rw [w2] at hR
      simp only [go_sem]
      refine call_skip ?_
      simp only [go_sem] at hR ⊢
      simp only [← hR, and_self]
     | true =>
      rw [w2] at hR
      simp only [go_sem]
      refine call_by (hin w.1) ?_
      cases k2 : inRange w.1 with
      | false =>
       rw [k2] at hR
       simp only [go_sem] at hR ⊢
       simp only [← hR, and_self]
      | true =>
       rw [k2] at hR
       simp only [go_sem] at hR ⊢
       simp only [← hR, and_self]
  ·have e2 : (((r.length + 1 + 1 : Nat) : Int) != 1) = true := by rw [bne_iff_ne]; omega
   have hav : appVar 4 (Pred.mk q1 q2 q3 q4 :: b :: r) = none := rfl
   rw [hav] at hR
   simp only at hR
   simp only [↓reduceIte, go_sem, c1, c2, c3, c4, Int.reduceBEq, Int.reduceBNe, e2, Pred.cells_eq (.mk q1 q2 q3 q4), Pred.op, Pred.name, Pred.n, Pred.kids]
   intro _
   simp only [go_sem, ← hR, and_self]
 | false =>
 have hne : qs.isEmpty = false := by
  cases qs with
  | nil =>
   exfalso
   unfold kidsOk at hk
   rw [c1, c2, c3, c4] at hk
   simp only [Bool.or_self, Bool.false_eq_true, if_false, Bool.false_or] at hk
   split at hk
   ·simp at hk
   ·split at hk <;> simp at hk
  | cons => rfl
 simp only [c1, c2, c3, c4, Bool.or_self, Bool.false_eq_true, if_false, hne, Bool.not_false, Bool.and_true] at hR
 simp only [↓reduceIte, go_sem, c1, c2, c3, c4, hN]
 clear hN
 refine loop_named fun K hK => ?_
 refine loop_list qs (fun done => ∀ y ∈ done, (bodyR names (ks.map (Val.ent m)) y).2 = true) (fun done rest => ⟨[(16, .d (.int .i64 done.length)), (15, .own 15 1 ((done.map fun y => (bodyR names (ks.map (Val.ent m)) y).1).map icell)), (2, .d (.lst (names.map fun k => [.str k]))), (3, .d (.lst (ks.map Val.cells))), (4, .ptr 4 0), (5, .ptr 5 0)], [(4, [.d (.lst (m.datas.map DataT.cells)), .d m.cls, .d m.ins, .d (.lst (m.meas.map Meas.cells)), .d m.quals, .d m.defs]), (5, [.d (.int .i64 o), .d (.str s), .d (.int .i64 n), .d (.lst (qs.map Pred.cells))])], [(15, true)]⟩) ?_ (by simp) ?_ ?_
 ·exact Ent_conv 15 15 1 [] [(15, 15)] rfl (by simp) rfl ⟨rfl, by simp only [go_sem, List.contains_nil], by simp only [go_sem, Option.isSome_some], by simp only [go_sem, Option.isSome_some]⟩
 ·intro done k r hl hI
  have hk' := ih k (by rw [hl]; simp) (hp.kid (by rw [hl]; simp))
  have hlt := lt_mid hl
  have hgk := getD_midP hl
  have hdl : done.length ≤ 24 := by
   have : done.length ≤ qs.length := by rw [hl]; simp
   omega
  have hw : IntKind.i64.wrap ((done.length : Int) + 1) = ((done.length + 1 : Nat) : Int) := wrap_succ (by omega)
  unfold res2 at hk'
  simp only [fn_r34_body_L1, go_sem, hlt, List.length_map]
  intro _
  simp only [go_sem, hgk, hlt, List.length_map]
  refine call_by hk' ?_
  simp only [go_sem]
  cases hb : (bodyR names (ks.map (Val.ent m)) k).2 with
  | false =>
   rw [all_false (f := fun k => (bodyR names (ks.map (Val.ent m)) k).2) (k := k) (by rw [hl]; simp) hb] at hR
   simp only [go_sem] at hR ⊢
   simp only [go_sem, hK, ← hR, and_self]
  | true =>
   have o1 : (done.length + 1) * 8 ≤ 2 ^ 46 := by omega
   have o2 : done.length ≤ 9223372036854775806 := by omega
   simp only [go_sem, hw, List.length_append, List.length_map, o1, o2, List.mem_singleton, forall_eq]
   exact ⟨Ent_own [(15, 123)] (by simp only [go_sem, List.contains_nil, Option.isSome_some, List.map_append, List.map_cons, List.map_nil, icell]), app_all hI hb⟩
 ·intro hI
  rw [List.all_eq_true.2 hI] at hR
  simp only [if_true] at hR
  have hne' : qs.map (fun y => (bodyR names (ks.map (Val.ent m)) y).1) ≠ [] := by
   cases qs with
   | nil => cases hne
   | cons => simp
  have hop := r34_operation_ev Z o _ hne'
  unfold res2 at hop
  have hz : ((qs.length : Int) == 0) = false := by
   cases qs with
   | nil => cases hne
   | cons => simp; omega
  simp only [fn_r34_body_L1, go_sem, List.length_map, hK]
  intro _
  simp only [go_sem, List.length_map, hz]
  intro _
  refine call_by hop ?_
  simp only [go_sem, hR, and_self]
theorem r34_Value_ev (m : Mod) (v : Val) : ∀ s, E.C r34_Value [.agg m.cells, .one (.str s), .agg v.cells] (res2 (v.value m s)) := by
 induction v using Val.ind with
 | h o n nm ks pa bd bs ih =>
 intro s
 have hcon := r20_Con_ev Z m nm
 have hfind := r34_find_ev Z m s
 have hcase := fun x => r34_Case_ev Z x nm
 have hchk := fun p => r07_Check_ev Z p
 refine Z.r34_Value _ _ ⟨Nat.le_of_ble_eq_true rfl, ?_⟩
 rw [Val.value_eq]
 generalize hR : valStep m o n nm (ks.map (Val.ent m)) s = R
 unfold valStep at hR
 simp only [fn_r34_Value, Mod.cells, Val.cells_mk]
 cases c1 : (s == sVal) with
 | true =>
  simp only [c1, if_true] at hR
  have c1' : (s == [118, 97, 108]) = true := c1
  cases c2 : (o != 4) with
  | true =>
   simp only [c2, if_true] at hR
   simp only [↓reduceIte, go_sem, c1', c2, ← hR, and_self]
  | false =>
   simp only [c2, Bool.false_eq_true, if_false] at hR
   simp only [↓reduceIte, go_sem, c1', c2, ← hR, and_self]
 | false =>
 have c1' : (s == [118, 97, 108]) = false := c1
 simp only [c1, Bool.false_eq_true, if_false] at hR
 simp only [↓reduceIte, go_sem, c1']
 refine call_by hcon ?_
 generalize conS nm m.datas = C at *
 obtain ⟨dt, ix, known⟩ := C
 obtain ⟨dn, dv, dp, dc⟩ := dt
 simp only [go_sem, DataT.cells]
 cases c2 : (o != 3 || !known) with
 | true =>
  simp only [c2, if_true] at hR
  simp only [↓reduceIte, go_sem, c2, ← hR, and_self]
 | false =>
 simp only [c2, Bool.false_eq_true, if_false] at hR
 simp only [↓reduceIte, go_sem, c2]
 cases c3 : (s == sTag) with
 | true =>
  have c3' : (s == [116, 97, 103]) = true := c3
  simp only [c3, if_true] at hR
  simp only [↓reduceIte, go_sem, c3', ← hR, and_self]
 | false =>
 have c3' : (s == [116, 97, 103]) = false := c3
 simp only [c3, Bool.false_eq_true, if_false] at hR
 simp only [↓reduceIte, go_sem, c3']
 refine call_by hfind ?_
 unfold findM
 cases hf : m.meas.find? (fun x => x.name == s) with
 | none =>
  rw [hf] at hR
  simp only at hR
  simp only [go_sem, Meas.cells_zero, ← hR, and_self]
 | some x =>
 rw [hf] at hR
 simp only at hR
 have hcase := hcase x
 obtain ⟨xa, xb, xc, xl, xo, xs, xn, xk⟩ := x
 simp only [go_sem, Meas.cells_mk] at hcase ⊢
 rw [show (xb != dn) = !(xb == dn) from rfl] at hR
 cases c4 : (xb == dn) with
 | false =>
  simp only [c4, Bool.not_false, if_true] at hR
  simp only [go_sem, ← hR, and_self]
 | true =>
 simp only [c4, Bool.not_true, Bool.false_eq_true, if_false] at hR
 simp only [go_sem]
 refine call_by hcase ?_
 unfold findCas
 cases hg : xl.find? (fun c => c.con == nm) with
 | none =>
  rw [hg] at hR
  simp only at hR
  simp only [go_sem, Cas.cells_zero]
  refine call_skip ?_
  simp only [go_sem, ← hR, and_self]
 | some c =>
 rw [hg] at hR
 simp only at hR
 have hchk := hchk c.body
 have hbody := fun hl hg => r34_body_ev Z m c.names ks hl (fun k hk s => ih k hk s) c.body hg
 unfold res2 at hbody
 obtain ⟨ca, cl, co, cs, cn, ck⟩ := c
 simp only [Pred.cells_eq (.mk co cs cn ck), Pred.op, Pred.name, Pred.n, Pred.kids] at hchk hbody
 simp only [List.length_map] at hR
 simp only [go_sem, Cas.cells_mk]
 intro _ _
 generalize hQ : (Pred.mk co cs cn ck).checkE = q at *
 by_cases hl : cl.length = ks.length
 ·have hb1 : (cl.length != ks.length) = false := by simp [hl]
  have hb2 : ((cl.length : Int) != (ks.length : Int)) = false := by simp [hl]
  simp only [hb1, Bool.false_or] at hR
  simp only [hb2, go_sem]
  refine call_by hchk ?_
  simp only [go_sem]
  cases c6 : (q != 0) with
  | true =>
   simp only [c6, if_true] at hR
   simp only [go_sem, ← hR, and_self]
  | false =>
   simp only [c6, Bool.false_eq_true, if_false] at hR
   have hq0 : q = 0 := by simpa using c6
   rw [hq0] at hQ
   simp only [go_sem]
   refine call_by (hbody hl (good_of hQ)) ?_
   simp only [go_sem, hR, and_self]
 ·have hb1 : (cl.length != ks.length) = true := by simp [hl]
  have hb2 : ((cl.length : Int) != (ks.length : Int)) = true := by simp; omega
  simp only [hb1, Bool.true_or, if_true] at hR
  simp only [hb2, go_sem]
  refine call_skip ?_
  simp only [go_sem, ← hR, and_self]
end Go.Abs
end
section
namespace Go.Abs
def UnionOwn (E : AEnv) : Prop := ∀ a b : List Str, a.length + b.length < 4398046511104 → E.C names_Union [.one (.lst (a.map fun s => [.str s])), .one (.lst (b.map fun s => [.str s]))] (.own none 1 ((unionS a b).map fun s => [.str s]))
theorem flat_len {all : Bool} {K : KFun} (p : Pred) : ∀ st : FSt, (flatP all K p st).2.used.length + (flatP all K p st).2.at'.length ≤ st.used.length + st.at'.length + 2 * p.cnt := by
 induction p using Pred.ind with
 | h o s n ks ih =>
 intro st
 cases hc : isCut all K o s ks with
 | some x =>
  rw [flatP_cut hc]
  show (st.used ++ [freshS st.used sZ]).length + (match K x s with | some (a, true) => st.at' ++ [(⟨freshS st.used sZ, a⟩ : Coef)] | _ => st.at').length ≤ _
  rw [List.length_append, Pred.cnt, List.length_singleton]
  split
  ·rw [List.length_append, List.length_singleton]; omega
  ·omega
 | none =>
  have key : ∀ (l : List Pred), (∀ k ∈ l, k ∈ ks) → ∀ st : FSt, (flatP.go all K l st).2.used.length + (flatP.go all K l st).2.at'.length ≤ st.used.length + st.at'.length + 2 * Pred.cnts l := by
   intro l
   induction l with
   | nil => intro _ st; simp [flatP.go]
   | cons k l ihl =>
    intro hin st
    have h1 := ih k (hin k (by simp)) st
    have h2 := ihl (fun y hy => hin y (by simp [hy])) (flatP all K k st).2
    simp only [flatP.go, Pred.cnts]
    omega
  rw [flatP_node hc]
  have := key ks (fun _ h => h) st
  rw [Pred.cnt]
  show (flatP.go all K ks st).2.used.length + (flatP.go all K ks st).2.at'.length ≤ _
  omega
theorem go_flat_len {all : Bool} {K : KFun} : ∀ (l : List Pred) (st : FSt), (flatP.go all K l st).2.used.length + (flatP.go all K l st).2.at'.length ≤ st.used.length + st.at'.length + 2 * Pred.cnts l
 | [], st => by simp [flatP.go]
 | k :: l, st => by
  have h1 := flat_len (all := all) (K := K) k st
  have h2 := go_flat_len (all := all) (K := K) l (flatP all K k st).2
  simp only [flatP.go, Pred.cnts]
  omega
theorem Matches_map (σ τ : TMap) (l : List D) : Matches σ τ (l.map .d) (l.map .d) = True := by
 induction l with
 | nil => rfl
 | cons x l ih => simp only [List.map_cons, Matches, Match1, AV.toD, true_and, ih]
theorem map_ren1 (σ τ : TMap) (l : List D) : (l.map AV.d).map (AV.ren1 σ τ) = l.map .d := by rw [List.map_map]; rfl
attribute [go_sem] Matches_map map_ren1
variable {E : AEnv} (Z : Sys E)
include Z
theorem pred_Free_own (hU : UnionOwn E) (hIt : ∀ p, E.It pred_before_1 [.ref (Pred.cells p)] (yields p.pre)) (p : Pred) (hp : p.pre.length ≤ 1048576) : E.C pred_Free [.agg p.cells] (.own none 1 ((freeS p).map fun s => [.str s])) := by
 have h3 := pred_before_ev Z p
 have hit := hIt p
 have hu := hU (freeL p.pre) [] (by have := freeL_len p.pre; simp only [List.length_nil]; omega)
 refine Z.pred_Free _ _ ⟨Nat.le_of_ble_eq_true rfl, ?_⟩
 unfold freeS
 generalize unionS (freeL p.pre) [] = U at *
 rw [Pred.cells_eq] at *
 simp only [fn_pred_Free, go_sem]
 refine call_by h3 ?_
 simp only [go_sem]
 refine rng_by hit (fun a => ∃ l, a = yields l) (fun a => ⟨[(3, .ptr 3 0)], [(3, [.own 3 1 (a.flatMap fv)])], [(3, true)]⟩) ?_ ⟨[], rfl⟩ ?_ ?_
 ·exact Ent_convm 3 0 3 1 _ [] [(3, 3)] rfl rfl (by simp) rfl (by simp only [Ent0, go_sem, List.contains_nil, Option.isSome_some, List.flatMap_nil])
 ·intro a x b hx ⟨l, hl⟩
  obtain ⟨a', q, b', e1, rfl, rfl⟩ := yields_mid hx
  refine ⟨rfl, ?_⟩
  have hlen : (freeL a').length + 1 ≤ 1048576 := by
   have h1 := freeL_len a'
   have h2 := congrArg List.length e1
   simp only [List.length_append, List.length_cons] at h2
   omega
  rw [List.flatMap_append]
  have hones := fv_ones (yields a')
  have hlen2 : ((yields a').flatMap fv).length + 1 ≤ 1048576 := by rw [fv_yields, List.length_map]; exact hlen
  generalize (yields a').flatMap fv = fs at *
  obtain ⟨o, s, n, ks⟩ := q
  have hfv := fv_cells o s n ks
  simp only [List.flatMap_cons, List.flatMap_nil, List.append_nil, hfv]
  have hy : yields a' ++ [[CV.agg (Pred.cells (.mk o s n ks))]] = yields (a' ++ [.mk o s n ks]) := by simp [yields]
  rw [hy, Pred.cells_eq]
  simp only [fn_pred_Free_A1, fn_pred_Free_B1, go_sem, Pred.op, Pred.name, Pred.n, Pred.kids]
  cases h2 : (o == 3) with
  | true =>
   have ha1 : (fs.length + 1) * 16 ≤ 2 ^ 46 := by omega
   simp only [h2, go_sem]
   refine ⟨⟨by simp, ha1, by omega⟩, Ent_own [(3, 15)] ?_, a' ++ [.mk o s n ks], rfl⟩
   simp only [go_sem, List.contains_nil, Option.isSome_some]
  | false =>
   simp only [h2, go_sem]
   exact ⟨Ent_own [(3, 3)] (by simp only [go_sem, List.contains_nil, Option.isSome_some]), a' ++ [.mk o s n ks], rfl⟩
 ·intro _
  rw [fv_yields]
  simp only [go_sem]
  refine call_by hu ?_
  simp only [go_sem]
theorem measure_variable_ev (s : Str) : E.C measure_variable [.one (.str s)] (.agg (pv s).cells) := by
 refine Z.measure_variable _ _ ⟨Nat.le_of_ble_eq_true rfl, ?_⟩
 unfold pv
 rw [Pred.cells_eq]
 simp only [fn_measure_variable, go_sem, Pred.op, Pred.name, Pred.n, Pred.kids, List.map_nil]
end Go.Abs
end
section
namespace Go.Abs
def bxM (m : Mod) (kvs : List (D × MV)) (st : FSt) : Mem := [(1000, [.d (.lst (m.datas.map DataT.cells)), .d m.cls, .d m.ins, .d (.lst (m.meas.map Meas.cells)), .d m.quals, .d m.defs, .mref 1001, .own 2000 1 (st.used.map fun k => [.str k]), .own 2001 2 (st.at'.map Coef.cells)]), (1001, [.mp ty_str ty_agg kvs])]
def bxT : List (Nat × Bool) := [(2000, true), (2001, true)]
attribute [go_sem] MatchVs MatchV Match1 Matches MatchMem noTwice isMp keep1 fresh1 afterB renMem AV.ren1 newAll killAll CV.isOwn retKB retB resCV0 resCVs0 initA
variable {E : AEnv} (Z : Sys E)
include Z
set_option maxHeartbeats 4000000 in
theorem measure_flat_ev (hI : ItoaLaw E) (m : Mod) (l : List (Str × Val)) (hV : ∀ q ∈ l, ∀ s, E.C measure_Value [.agg m.cells, .one (.str s), .agg q.2.cells] (res2 (q.2.value m s))) (p : Pred) :
  ∀ st : FSt, st.used.length + st.at'.length + 2 * p.cnt ≤ 1073741824 → E.C measure_body_flat [] (.bx [.ptr 1000 0, .agg (p.cells.map .d)] (bxM m (putsF l).1 st) bxT (.agg (flatP true (tabK m l) p st).1.cells) (bxM m (putsF l).1 (flatP true (tabK m l) p st).2) bxT) := by
 induction p using Pred.ind with
 | h o s n ks ih =>
 intro st hb
 refine Z.measure_body_flat _ _ ⟨Nat.le_of_ble_eq_true rfl, Nat.le_of_ble_eq_true rfl, rfl, ?_⟩
 rw [Pred.cells_eq (.mk o s n ks)]
 simp only [fn_measure_body_flat, bxM, bxT, Pred.op, Pred.name, Pred.n, Pred.kids]
 refine seq2_named fun N hN => ?_
 have tail : isCut true (tabK m l) o s ks = none → ∀ st' : St, getS st'.slots 0 = .ptr 1000 0 → getS st'.slots 3 = .ptr 3 0 → getS st'.slots 4 = .ptr 4 0 →
   st'.mem = (4, [.d (.int .i64 0), .d (.str []), .d (.int .i64 0), .full []]) :: (3, [.d (.int .i64 o), .d (.str s), .d (.int .i64 n), .d (.lst (ks.map Pred.cells))]) :: bxM m (putsF l).1 st → st'.tk = bxT → N st' := by
  intro hcut st' e0 e3 e4 em et
  rw [flatP_node hcut] at hN
  subst hN
  rw [Pred.cnt] at hb
  simp only [go_sem, e0, e3, e4, em, et, bxM]
  intro hlen
  refine loop_named fun K hK => ?_
  have hst : (⟨st.used, st.at'⟩ : FSt) = st := rfl
  refine loop_list ks (fun _ => True) (fun done rest => ⟨[(90, .d (.int .i64 done.length)), (89, .d (.int .i64 ks.length)), (88, .d (.lst (ks.map Pred.cells))), (0, .ptr 1000 0), (4, .ptr 4 0), (10, .ptr 10 0)],
   (10, [.d (.int .i64 o), .d (.str s), .d (.int .i64 n), .own 10 4 ((flatP.go true (tabK m l) done st).1.map Pred.cells)]) :: (4, [.d (.int .i64 0), .d (.str []), .d (.int .i64 0), .full []]) :: bxM m (putsF l).1 (flatP.go true (tabK m l) done st).2, [(10, true), (2000, true), (2001, true)]⟩) ?_ trivial ?_ ?_
  ·refine Ent_convm 10 3 10 4 _ [] [(10, 10), (2000, 2000), (2001, 2001)] (by simp only [go_sem]; rfl) rfl (by simp) (by simp only [go_sem, et, bxT]) ?_
   simp only [Ent0, go_sem, e0, e4, et, bxT, flatP.go, bxM, List.contains_cons, List.contains_nil, Option.isSome_some, Nat.reduceBEq]
  ·intro done k r hl _
   have hlt := lt_mid hl
   have hw : IntKind.i64.wrap ((done.length : Int) + 1) = ((done.length + 1 : Nat) : Int) := wrap_succ (by omega)
   have hgk := getD_midP hl
   have hcn : Pred.cnts ks = Pred.cnts done + (k.cnt + Pred.cnts r) := by rw [hl, cnts_app, Pred.cnts]
   have hgl := go_flat_len (all := true) (K := tabK m l) done st
   have hdl := go_len (all := true) (K := tabK m l) done st
   have hlc : done.length ≤ Pred.cnts done := by
    have : ∀ a : List Pred, a.length ≤ Pred.cnts a := by
     intro a
     induction a with
     | nil => exact Nat.zero_le _
     | cons x a iha =>
      rw [Pred.cnts, List.length_cons]
      have : 1 ≤ x.cnt := by obtain ⟨_, _, _, _⟩ := x; rw [Pred.cnt]; omega
      omega
    exact this done
   have hgo : flatP.go true (tabK m l) (done ++ [k]) st = ((flatP.go true (tabK m l) done st).1 ++ [(flatP true (tabK m l) k (flatP.go true (tabK m l) done st).2).1], (flatP true (tabK m l) k (flatP.go true (tabK m l) done st).2).2) := by
    rw [go_app, go_one]
   rw [hgo]
   have hk' := ih k (by rw [hl]; simp) (flatP.go true (tabK m l) done st).2 (by omega)
   generalize flatP.go true (tabK m l) done st = Dn at *
   obtain ⟨dp, ds⟩ := Dn
   simp only at hk' hdl hgl ⊢
   generalize flatP true (tabK m l) k ds = Kn at *
   obtain ⟨kp, ks'⟩ := Kn
   simp only at hk' ⊢
   have o1 : (dp.length + 1) * 56 ≤ 2 ^ 46 := by omega
   have o2 : dp.length ≤ 9223372036854775806 := by omega
   have ht2 := Pred.lens_true dp
   simp only [fn_measure_body_flat_L1, go_sem, hgk, hlt, List.length_map, bxM, Pred.cells_length, drop_cells]
   have okX : ∀ sl : List (Nat × AV), ∀ c12 c12', okB ⟨sl, (12, c12) :: (12, c12') :: (10, [.d (.int .i64 o), .d (.str s), .d (.int .i64 n), .own 10 4 (dp.map Pred.cells)]) :: (4, [.d (.int .i64 0), .d (.str []), .d (.int .i64 0), .full []]) :: bxM m (putsF l).1 ds, [(10, true), (2000, true), (2001, true)]⟩ [.ptr 1000 0, .agg (k.cells.map .d)]
     { σ := [(1000, 1000), (1001, 1001)], τ := [(2000, 2000), (2001, 2001)], τ1 := [(2000, 3000), (2001, 3001)], as0 := [.ptr 1000 0, .agg (k.cells.map .d)], m0 := bxM m (putsF l).1 ds, m1 := bxM m (putsF l).1 ks', r := .agg kp.cells } := by
    intro sl c12 c12'
    simp only [okB, go_sem, bxM, List.contains_cons, List.contains_nil, Nat.reduceBEq, List.mem_cons, List.not_mem_nil, or_false, forall_eq_or_imp, forall_eq, List.all_cons, List.all_nil]
   refine ⟨⟨{ σ := [(1000, 1000), (1001, 1001)], τ := [(2000, 2000), (2001, 2001)], τ1 := [(2000, 3000), (2001, 3001)], as0 := [.ptr 1000 0, .agg (k.cells.map .d)], m0 := bxM m (putsF l).1 ds, m1 := bxM m (putsF l).1 ks', r := .agg kp.cells }, ⟨rfl, okX _ _ _, hk'⟩, ?_⟩, ⟨{ σ := [(1000, 1000), (1001, 1001)], τ := [(2000, 2000), (2001, 2001)], τ1 := [(2000, 3000), (2001, 3001)], as0 := [.ptr 1000 0, .agg (k.cells.map .d)], m0 := bxM m (putsF l).1 ds, m1 := bxM m (putsF l).1 ks', r := .agg kp.cells }, ⟨rfl, okX _ _ _, hk'⟩, ?_⟩⟩
   ·simp only [go_sem, bxM, Option.getD_some, Pred.cells_length, List.length_map, o1, o2, ht2, hw, List.length_append, List.mem_singleton, forall_eq]
    exact Ent_own [(10, 100), (2000, 3000), (2001, 3001)] (by simp only [go_sem, List.contains_cons, List.contains_nil, Option.isSome_some, Nat.reduceBEq, List.map_append, List.map_cons, List.map_nil, List.length_append])
   ·simp only [go_sem, bxM, Option.getD_some, Pred.cells_length, List.length_map, o1, o2, ht2, hw, List.length_append, List.mem_singleton, forall_eq]
    exact Ent_own [(10, 100), (2000, 3000), (2001, 3001)] (by simp only [go_sem, List.contains_cons, List.contains_nil, Option.isSome_some, Nat.reduceBEq, List.map_append, List.map_cons, List.map_nil, List.length_append])
  ·intro _
   simp only [fn_measure_body_flat_L1, go_sem, hK, bxM, Pred.cells_length]
   exact ⟨by rw [Pred.cells_eq]; rfl, Ent_own [(2000, 2000), (2001, 2001)] (by simp only [go_sem, List.contains_cons, List.contains_nil, Option.isSome_some, Nat.reduceBEq])⟩
 by_cases h4 : o = 4
 ·subst h4
  rcases ks with _ | ⟨q, _ | ⟨q2, r⟩⟩
  ·clear hN
   simp only [go_sem, Int.reduceBEq, false_implies]
   refine tail rfl _ ?_ ?_ ?_ rfl rfl <;> simp only [go_sem]
  ·obtain ⟨q1, q2, q3, q4⟩ := q
   have l1 : (∀ e ∈ [[D.int .i64 q1, D.str q2, D.int .i64 q3, D.lst (List.map Pred.cells q4)]], e.length = 4) = True := eq_true (by simp)
   have e1 : ((1 : Int) == 1) = true := rfl
   cases c5 : (q1 == 3) with
   | false =>
    have hcut : isCut true (tabK m l) 4 s [Pred.mk q1 q2 q3 q4] = none := by
     unfold isCut appVar
     simp only [c5, Bool.false_eq_true, if_false]
     rfl
    clear hN
    simp only [go_sem, Int.reduceBEq, false_implies, Pred.cells_eq (.mk q1 q2 q3 q4), Pred.op, Pred.name, Pred.n, Pred.kids, l1, c5]
    refine tail hcut _ ?_ ?_ ?_ ?_ rfl <;> simp only [go_sem, Pred.cells_eq (.mk q1 q2 q3 q4), Pred.op, Pred.name, Pred.n, Pred.kids, bxM]
   | true =>
    have c5' : q1 = 3 := by simpa using c5
    subst c5'
    have hcut : isCut true (tabK m l) 4 s [Pred.mk 3 q2 q3 q4] = some q2 := rfl
    clear tail hN
    rw [flatP_cut hcut]
    have hget := putsF_get l q2
    have hfr := names_Fresh_ev Z hI st.used sZ (by omega) (by decide)
    have hvar := measure_variable_ev Z (freshS st.used sZ)
    generalize hz : freshS st.used sZ = z at *
    have ht1 : (∀ e ∈ st.used.map (fun k : Str => [D.str k]), e.length = 1) = True := eq_true (by simp)
    have ht2 := Coef.lens st.at'
    have o1 : (st.used.length + 1) * 16 ≤ 2 ^ 46 := by omega
    have o2 : st.used.length ≤ 9223372036854775806 := by omega
    have o3 : (st.at'.length + 1) * 24 ≤ 2 ^ 46 := by omega
    have o4 : st.at'.length ≤ 9223372036854775806 := by omega
    simp only [sZ] at hfr
    cases hf : fieldZ l q2 with
    | none =>
     rw [hf] at hget
     have hk : tabK m l q2 s = none := by unfold tabK; rw [hf]; rfl
     have hat : ∀ x, mapAt (putsF l).1 (.str q2) x = x := fun x => by unfold mapAt; rw [hget]; rfl
     have hhas : mapHas (putsF l).1 (.str q2) = false := by unfold mapHas; rw [hget]; rfl
     simp only [go_sem, Int.reduceBEq, false_implies, Pred.cells_eq (.mk 3 q2 q3 q4), Pred.op, Pred.name, Pred.n, Pred.kids, l1, hat, hhas, MV.av]
     refine call_by hfr ?_
     simp only [go_sem, ht1, o1, o2, List.length_map, List.mem_singleton, forall_eq]
     refine call_by hvar ?_
     unfold FSt.next
     rw [hk, hz]
     simp only [go_sem, Pred.cells_length]
     refine Ent_own [(2000, 67), (2001, 2001)] ?_
     simp only [go_sem, List.contains_cons, List.contains_nil, Option.isSome_some, List.map_append, List.map_cons, List.map_nil, Nat.reduceBEq]
    | some v =>
     rw [hf] at hget
     have hmem : ∃ q ∈ l, q.2 = v := by
      unfold fieldZ at hf
      rw [Option.map_eq_some_iff] at hf
      obtain ⟨q, h1, rfl⟩ := hf
      exact ⟨q, List.mem_of_find?_eq_some h1, rfl⟩
     obtain ⟨q, hq, rfl⟩ := hmem
     have hv := hV q hq s
     have hk : tabK m l q2 s = some (q.2.value m s) := by unfold tabK; rw [hf]; rfl
     generalize q.2.value m s = w at *
     obtain ⟨w1, w2⟩ := w
     unfold res2 at hv
     have hat : ∀ x, mapAt (putsF l).1 (.str q2) x = .agg q.2.cells := fun x => by unfold mapAt; rw [hget]; rfl
     have hhas : mapHas (putsF l).1 (.str q2) = true := by unfold mapHas; rw [hget]; rfl
     obtain ⟨qn, vo, vn, vs, vk, vp, vb, vd⟩ := q
     simp only [Val.cells_mk] at hv hat
     simp only [go_sem, Int.reduceBEq, false_implies, Pred.cells_eq (.mk 3 q2 q3 q4), Pred.op, Pred.name, Pred.n, Pred.kids, l1, hat, hhas, MV.av]
     refine call_by hv ?_
     simp only [go_sem]
     refine call_by hfr ?_
     simp only [go_sem, ht1, o1, o2, List.length_map, List.mem_singleton, forall_eq]
     unfold FSt.next
     rw [hk, hz]
     cases w2 with
     | false =>
      simp only [go_sem]
      refine call_by hvar ?_
      simp only [go_sem, Pred.cells_length]
      refine Ent_own [(2000, 67), (2001, 2001)] ?_
      simp only [go_sem, List.contains_cons, List.contains_nil, Option.isSome_some, List.map_append, List.map_cons, List.map_nil, Nat.reduceBEq]
     | true =>
      simp only [go_sem, ht2, o3, o4, List.length_map, List.mem_singleton, forall_eq]
      refine call_by hvar ?_
      simp only [go_sem, Pred.cells_length]
      refine Ent_own [(2000, 67), (2001, 80)] ?_
      simp only [go_sem, List.contains_cons, List.contains_nil, Option.isSome_some, List.map_append, List.map_cons, List.map_nil, Coef.cells, Nat.reduceBEq]
  ·obtain ⟨q1, qs, q3, q4⟩ := q
   have e2 : (((r.length + 1 + 1 : Nat) : Int) == 1) = false := by rw [beq_eq_false_iff_ne]; omega
   clear hN
   simp only [go_sem, Int.reduceBEq, false_implies, e2, Pred.cells_eq (.mk q1 qs q3 q4), Pred.op, Pred.name, Pred.n, Pred.kids]
   intro _
   refine tail rfl _ ?_ ?_ ?_ ?_ rfl <;> simp only [go_sem, Pred.cells_eq (.mk q1 qs q3 q4), Pred.op, Pred.name, Pred.n, Pred.kids, bxM]
 ·have h4' : (o == 4) = false := by simpa using h4
  have hcut : isCut true (tabK m l) o s ks = none := by
   unfold isCut appVar
   simp only [h4', Bool.false_eq_true, if_false]
  clear hN
  rcases ks with _ | ⟨⟨q1, qs, q3, q4⟩, r⟩
  ·simp only [go_sem, h4', false_implies]
   refine tail hcut _ ?_ ?_ ?_ rfl rfl <;> simp only [go_sem]
  ·simp only [go_sem, h4', false_implies, Pred.cells_eq (.mk q1 qs q3 q4), Pred.op, Pred.name, Pred.n, Pred.kids]
   refine tail hcut _ ?_ ?_ ?_ ?_ rfl <;> simp only [go_sem, Pred.cells_eq (.mk q1 qs q3 q4), Pred.op, Pred.name, Pred.n, Pred.kids, bxM]
end Go.Abs
end
section
namespace Go.Abs
def MOk (m : Mod) : Prop := ∀ x ∈ m.meas, ∀ c ∈ x.cases, c.body.cnt < 1048576 ∧ c.names.length ≤ 1048576
theorem zip_at {names na nr : List Str} {x : Str} {done : List Val} (h : names = na ++ x :: nr) (hl : na.length = done.length) (k : Val) : names.zip (done ++ [k]) = names.zip done ++ [(x, k)] := by
 subst h
 have h1 : (na ++ x :: nr).zip done = na.zip done := by
  have := List.zip_append (l₁ := na) (l₂ := done) (r₁ := x :: nr) (r₂ := []) hl
  simpa using this
 rw [h1, List.zip_append hl]
 simp
theorem puts_has {l : List (Str × Val)} {x : Str} {k : Val} (h : mapHas (putsF l).1 (.str x) = true) : putsF (l ++ [(x, k)]) = putsF l := by rw [putsF_snoc, putF, if_pos h]
theorem puts_new {l : List (Str × Val)} {x : Str} {k : Val} (h : mapHas (putsF l).1 (.str x) = false) : putsF (l ++ [(x, k)]) = ((.str x, .agg k.cells) :: (putsF l).1, if k.op == 1 || k.op == 2 then (putsF l).2 ++ [⟨x, k.n⟩] else (putsF l).2) := by rw [putsF_snoc, putF, if_neg (by rw [h]; simp)]
theorem pre_le (p : Pred) : p.pre.length ≤ p.cnt := by
 induction p using Pred.ind with
 | h o s n ks ih =>
 rw [Pred.pre_eq, Pred.cnt, List.length_cons]
 have : ∀ l : List Pred, (∀ k ∈ l, k.pre.length ≤ k.cnt) → (Pred.pre.pres l).length ≤ Pred.cnts l := by
  intro l
  induction l with
  | nil => intro _; simp [Pred.pre.pres, Pred.cnts]
  | cons a l ih =>
   intro h
   have h1 := h a (by simp)
   have h2 := ih fun k hk => h k (by simp [hk])
   rw [Pred.pre.pres, Pred.cnts, List.length_append]; omega
 have := this ks ih
 omega
theorem freeS_len (p : Pred) : (freeS p).length ≤ p.cnt := by
 unfold freeS
 have h1 := unionS_len (freeL p.pre) []
 have h2 := freeL_len p.pre
 have h3 := pre_le p
 simp only [List.length_nil] at h1
 omega
variable {E : AEnv} (Z : Sys E)
include Z
set_option maxHeartbeats 4000000 in
theorem measure_Value_ev (hG : E.G 0 = some (kws.map .str)) (hIt : ∀ p, E.It pred_before_1 [.ref (Pred.cells p)] (yields p.pre)) (hU : UnionOwn E) (hI : ItoaLaw E) (m : Mod) (hm : MOk m) (v : Val) : ∀ s, E.C measure_Value [.agg m.cells, .one (.str s), .agg v.cells] (res2 (v.value m s)) := by
 induction v using Val.ind with
 | h o n nm ks pa bd bs ih =>
 intro s
 have hcon := syntax_Con_ev Z m nm
 have hfind := measure_find_ev Z m s
 have hcase := fun x => measure_caseOf_ev Z x nm
 have hchk := fun p => pred_Check_ev Z hG hIt p
 have hfree := fun p hp => pred_Free_own Z hU hIt p hp
 have heval := fun at' p => meaning_Eval_ev Z hG hIt at' [] p
 refine Z.measure_Value _ _ ⟨Nat.le_of_ble_eq_true rfl, ?_⟩
 rw [Val.value_eq]
 generalize hR : valStep m o n nm (ks.map (Val.ent m)) s = R
 unfold valStep at hR
 simp only [fn_measure_Value, Mod.cells, Val.cells_mk]
 cases c1 : (s == sVal) with
 | true =>
  simp only [c1, if_true] at hR
  have c1' : (s == [118, 97, 108]) = true := c1
  cases c2 : (o != 4) with
  | true =>
   simp only [c2, if_true] at hR
   simp only [↓reduceIte, go_sem, c1', c2, ← hR, and_self]
  | false =>
   simp only [c2, Bool.false_eq_true, if_false] at hR
   simp only [↓reduceIte, go_sem, c1', c2, ← hR, and_self]
 | false =>
 have c1' : (s == [118, 97, 108]) = false := c1
 simp only [c1, Bool.false_eq_true, if_false] at hR
 simp only [↓reduceIte, go_sem, c1']
 refine call_by hcon ?_
 generalize conS nm m.datas = C at *
 obtain ⟨dt, ix, known⟩ := C
 obtain ⟨dn, dv, dp, dc⟩ := dt
 simp only [go_sem, DataT.cells]
 cases c2 : (o != 3 || !known) with
 | true =>
  simp only [c2, if_true] at hR
  simp only [↓reduceIte, go_sem, c2, ← hR, and_self]
 | false =>
 simp only [c2, Bool.false_eq_true, if_false] at hR
 simp only [↓reduceIte, go_sem, c2]
 cases c3 : (s == sTag) with
 | true =>
  have c3' : (s == [116, 97, 103]) = true := c3
  simp only [c3, if_true] at hR
  simp only [↓reduceIte, go_sem, c3', ← hR, and_self]
 | false =>
 have c3' : (s == [116, 97, 103]) = false := c3
 simp only [c3, Bool.false_eq_true, if_false] at hR
 simp only [↓reduceIte, go_sem, c3']
 refine call_by hfind ?_
 unfold findM
 cases hf : m.meas.find? (fun x => x.name == s) with
 | none =>
  rw [hf] at hR
  simp only at hR
  simp only [go_sem, Meas.cells_zero, ← hR, and_self]
 | some x =>
 rw [hf] at hR
 simp only at hR
 have hcase := hcase x
 have hmx := hm x (List.mem_of_find?_eq_some hf)
 obtain ⟨xa, xb, xc, xl, xo, xs, xn, xk⟩ := x
 simp only [go_sem, Meas.cells_mk] at hcase ⊢
 rw [show (xb != dn) = !(xb == dn) from rfl] at hR
 cases c4 : (xb == dn) with
 | false =>
  simp only [c4, Bool.not_false, if_true] at hR
  simp only [go_sem, ← hR, and_self]
 | true =>
 simp only [c4, Bool.not_true, Bool.false_eq_true, if_false] at hR
 simp only [go_sem]
 refine call_by hcase ?_
 unfold findCas
 cases hg : xl.find? (fun c => c.con == nm) with
 | none =>
  rw [hg] at hR
  simp only at hR
  simp only [go_sem, Cas.cells_zero]
  refine call_skip ?_
  simp only [go_sem, ← hR, and_self]
 | some c =>
 rw [hg] at hR
 simp only at hR
 obtain ⟨hb1, hb2⟩ := hmx c (List.mem_of_find?_eq_some hg)
 have hchk := hchk c.body
 have hfree := hfree c.body (by have := pre_le c.body; omega)
 have hfl := freeS_len c.body
 have hvf := fun h3 => value_flat (m := m) (names := c.names) (ks := ks) (body := c.body) (used := freeS c.body ++ c.names) hb1 (by rw [List.length_append]; omega) (fun x hx => List.mem_append_right _ hx) (fun x hx => List.mem_append_left _ (mem_freeSi.2 hx)) h3
 have hflat := fun l => measure_flat_ev Z hI m l
 obtain ⟨ca, cl, cb⟩ := c
 simp only at hchk hfree hfl hvf hb1 hb2
 have hcz : Cas.cells ⟨ca, cl, cb⟩ = .str ca :: .lst (cl.map fun k => [.str k]) :: cb.cells := rfl
 have hcb : cb.cells.length = 4 := Pred.cells_length cb
 simp only [List.length_map] at hR
 simp only [go_sem, hcz]
 intro hl1 hl2
 have hlc : cl.length ≤ 1048576 := hb2
 generalize hQ : cb.checkE = q at *
 by_cases hl : cl.length = ks.length
 ·have e1 : (cl.length != ks.length) = false := by simp [hl]
  have e2 : ((cl.length : Int) != (ks.length : Int)) = false := by simp [hl]
  simp only [e1, Bool.false_or] at hR
  simp only [e2, go_sem]
  refine call_by hchk ?_
  simp only [go_sem]
  cases c6 : (q != 0) with
  | true =>
   simp only [c6, if_true] at hR
   simp only [go_sem, ← hR, and_self]
  | false =>
   simp only [c6, Bool.false_eq_true, if_false] at hR
   have hq0 : q = 0 := by simpa using c6
   have hvf := hvf hq0
   generalize freeS cb = U at *
   have hU1 : (∀ e ∈ U.map (fun k : Str => [D.str k]), e.length = 1) = True := eq_true (by simp)
   have hU2 : (∀ e ∈ cl.map (fun k : Str => [D.str k]), e.length = 1) = True := eq_true (by simp)
   have o1 : (U.length + cl.length) * 16 ≤ 2 ^ 46 := by omega
   have o2 : U.length + cl.length ≤ 9223372036854775807 := by omega
   have hcb4 : (cb.cells.map AV.d).length = 4 := by rw [List.length_map]; exact hcb
   simp only [go_sem, hcb4, hcb, List.length_map]
   have hpl := putsF_len (cl.zip ks)
   have hzl : (cl.zip ks).length = ks.length := by rw [List.length_zip, hl, Nat.min_self]
   have hfl := hflat (cl.zip ks) (fun q hq s => ih q.2 (List.of_mem_zip (show (q.1, q.2) ∈ cl.zip ks from hq)).2 s) cb ⟨U ++ cl, (putsF (cl.zip ks)).2⟩ (by simp only [List.length_append]; omega)
   have hlen3 : (flatP true (tabK m (cl.zip ks)) cb ⟨U ++ cl, (putsF (cl.zip ks)).2⟩).1.cells.length = 4 := Pred.cells_length _
   generalize flatP true (tabK m (cl.zip ks)) cb ⟨U ++ cl, (putsF (cl.zip ks)).2⟩ = F at *
   obtain ⟨Fp, Fs⟩ := F
   simp only at hfl hvf hlen3
   have hev := heval Fs.at' Fp
   unfold res2 at hev
   rw [hvf] at hev
   simp only [List.map_nil] at hev
   refine ⟨?_, ?_⟩ <;> (
    refine call_by hfree ?_
    simp only [go_sem, hU1, hU2, o1, o2, List.length_map, hcb4]
    intro _
    refine loop_named fun K hK => ?_
    refine loop_list ks (fun _ => True) (fun done rest => ⟨[(97, .d (.int .i64 done.length)), (96, .d (.int .i64 ks.length)), (95, .d (.lst (ks.map Val.cells))), (14, .ptr 93 0), (13, .ptr 13 0)],
     [(93, [.d (.lst (m.datas.map DataT.cells)), .d m.cls, .d m.ins, .d (.lst (m.meas.map Meas.cells)), .d m.quals, .d m.defs, .mref 85, .own 91 1 ((U ++ cl).map fun k => [.str k]), .own 93 2 ((putsF (cl.zip done)).2.map Coef.cells)]), (85, [.mp ty_str ty_agg (putsF (cl.zip done)).1]), (13, .d (.str ca) :: .d (.lst (cl.map fun k => [.str k])) :: cb.cells.map .d)], [(91, true), (93, true)]⟩) ?_ trivial ?_ ?_
    ·refine Ent_convm 93 8 93 2 _ [] [(91, 91), (93, 93)] (by simp only [go_sem]; rfl) rfl (by simp) (by simp only [go_sem]) ?_
     simp only [Ent0, go_sem, List.zip_nil_right, putsF, List.foldl_nil, List.contains_cons, List.contains_nil, Option.isSome_some, Nat.reduceBEq, List.map_append]
    ·intro done k r hlk _
     obtain ⟨na, x, nr, hcl, hnl⟩ := at_split (b := cl) (n := done.length) (by rw [hl, hlk]; simp)
     have hlt := lt_mid hlk
     have hlt2 : (done.length : Int) < cl.length := by rw [hl]; exact hlt
     have hw : IntKind.i64.wrap ((done.length : Int) + 1) = ((done.length + 1 : Nat) : Int) := wrap_succ (by omega)
     have hgk := getD_at (f := Val.cells) (d := []) hlk
     have hgx : (cl.map fun k : Str => [D.str k]).getD done.length [] = [.str x] := by rw [hcl, ← hnl]; simp
     rw [zip_at hcl hnl k]
     have hpd := putsF_len (cl.zip done)
     have hdz : (cl.zip done).length ≤ done.length := by rw [List.length_zip]; exact Nat.min_le_right _ _
     have hdk : done.length ≤ ks.length := by rw [hlk]; simp
     have hph := @puts_has (cl.zip done) x k
     have hpn := @puts_new (cl.zip done) x k
     have hget := putsF_get (cl.zip done) x
     generalize fieldZ (cl.zip done) x = fz at *
     generalize putsF (cl.zip done ++ [(x, k)]) = P1 at *
     generalize putsF (cl.zip done) = P0 at *
     obtain ⟨kv0, at0⟩ := P0
     obtain ⟨vo, vn, vs, vk, vp, vb, vd⟩ := k
     have hA := Coef.lens at0
     simp only [Val.op, Val.n] at hpn
     simp only [Val.cells_mk] at hgk hpn
     have p1 : kv0.length < 9223372036854775807 := by simp only at hpd; omega
     have p2 : (at0.length + 1) * 24 ≤ 2 ^ 46 := by simp only at hpd; omega
     have p3 : at0.length ≤ 9223372036854775806 := by simp only at hpd; omega
     cases fz with
     | some v' =>
      have hat : ∀ z, mapAt kv0 (.str x) z = .agg v'.cells := fun z => by unfold mapAt; rw [hget]; rfl
      have hhas : mapHas kv0 (.str x) = true := by unfold mapHas; rw [hget]; rfl
      rw [hph hhas]
      obtain ⟨wo, wn, ws, wk, wp, wb, wd⟩ := v'
      simp only [Val.cells_mk] at hat
      simp only [fn_measure_Value_L1, go_sem, hgk, hgx, hlt, hlt2, hU2, List.length_map, hat, hhas, MV.av]
      simp only [go_sem, hw, List.length_append]
      exact Ent_own [(91, 91), (93, 93)] (by simp only [go_sem, List.contains_cons, List.contains_nil, Option.isSome_some, Nat.reduceBEq])
     | none =>
      have hat : ∀ z, mapAt kv0 (.str x) z = z := fun z => by unfold mapAt; rw [hget]; rfl
      have hhas : mapHas kv0 (.str x) = false := by unfold mapHas; rw [hget]; rfl
      rw [hpn hhas]
      simp only [fn_measure_Value_L1, go_sem, hgk, hgx, hlt, hlt2, hU2, List.length_map, hat, hhas, MV.av, AV.toMV, p1]
      by_cases hvo : (vo == 1 || vo == 2) = true
      ·simp only [hvo, go_sem, p2, p3, hw, List.length_append, List.mem_singleton, forall_eq, List.map_append]
       exact Ent_own [(91, 91), (93, 148)] (by simp only [go_sem, List.contains_cons, List.contains_nil, Option.isSome_some, Nat.reduceBEq, List.map_append, List.map_cons, List.map_nil, Coef.cells])
      ·have hvo : (vo == 1 || vo == 2) = false := by simpa using hvo
       simp only [hvo, go_sem, hw, List.length_append, Bool.false_eq_true]
       exact Ent_own [(91, 91), (93, 93)] (by simp only [go_sem, List.contains_cons, List.contains_nil, Option.isSome_some, Nat.reduceBEq, List.map_append, Bool.false_eq_true])
    ·intro _
     simp only [fn_measure_Value_L1, go_sem, hK]
     refine ⟨{ σ := [(1000, 93), (1001, 85)], τ := [(2000, 91), (2001, 93)], τ1 := [(2000, 3000), (2001, 3001)], as0 := [.ptr 1000 0, .agg (cb.cells.map .d)], m0 := bxM m (putsF (cl.zip ks)).1 ⟨U ++ cl, (putsF (cl.zip ks)).2⟩, m1 := bxM m (putsF (cl.zip ks)).1 Fs, r := .agg Fp.cells }, ⟨rfl, ?_, hfl⟩, ?_⟩
     ·simp only [okB, go_sem, bxM, List.contains_cons, List.contains_nil, Nat.reduceBEq, List.mem_cons, List.not_mem_nil, or_false, forall_eq_or_imp, forall_eq, List.all_cons, List.all_nil]
     ·simp only [go_sem, bxM, Option.getD_some, hlen3, List.length_map]
      refine call_by hev ?_
      simp only [go_sem, hR, and_self])
 ·have e1 : (cl.length != ks.length) = true := by simp [hl]
  have e2 : ((cl.length : Int) != (ks.length : Int)) = true := by simp; omega
  simp only [e1, Bool.true_or, if_true] at hR
  simp only [e2, go_sem]
  refine call_skip ?_
  simp only [go_sem, ← hR, and_self]
end Go.Abs
end
section
namespace Go.Abs
noncomputable def eqB {α : Type} (a b : α) : Bool := @decide (a = b) (Classical.propDecidable _)
theorem eqB_iff {α : Type} {a b : α} : eqB a b = true ↔ a = b := by unfold eqB; exact @decide_eq_true_iff _ (Classical.propDecidable _)
theorem eqB_self {α : Type} (a : α) : eqB a a = true := eqB_iff.2 rfl
theorem eqB_ne {α : Type} {a b : α} (h : a ≠ b) : eqB a b = false := by
 rw [Bool.eq_false_iff]; exact fun e => h (eqB_iff.1 e)
theorem eqB_beq {α : Type} [BEq α] [LawfulBEq α] (a b : α) : eqB a b = (a == b) := by
 rw [Bool.eq_iff_iff, eqB_iff, beq_iff_eq]
theorem eqB_same (a b : Pred) : eqB a b = a.same b := by rw [Bool.eq_iff_iff, eqB_iff, Pred.same_iff]
theorem eqB_len {α : Type} {a b : List α} (h : a.length ≠ b.length) : eqB a b = false := eqB_ne fun e => h (by rw [e])
theorem eqB_at {α : Type} {a b done bd r r' : List α} {x y : α} (ha : a = done ++ x :: r) (hb : b = bd ++ y :: r') (hl : bd.length = done.length) (hne : eqB x y = false) : eqB a b = false := by
 refine eqB_ne fun e => ?_
 rw [ha, hb] at e
 have := (List.append_inj e hl.symm).2
 rw [List.cons.injEq] at this
 rw [this.1, eqB_self] at hne
 cases hne
theorem eqB_step {α : Type} {b done bd r' : List α} {x y : α} (hb : b = bd ++ y :: r') (hbl : bd.length = done.length) (hI : b.take done.length = done) (h : eqB x y = true) : b.take (done.length + 1) = done ++ [x] := by
 have hxy := eqB_iff.1 h
 subst hxy
 have h1 : b.take done.length = bd := by rw [hb]; exact List.take_left' hbl
 have h2 : b.take (done.length + 1) = bd ++ [x] := by rw [hb, show bd ++ x :: r' = (bd ++ [x]) ++ r' by simp]; exact List.take_left' (by simp [hbl])
 rw [h2, ← h1, hI]
theorem eqB_done {α : Type} {a b : List α} (hlen : a.length = b.length) (hI : b.take a.length = a) : eqB a b = true := by
 rw [hlen, List.take_length] at hI
 exact eqB_iff.2 hI.symm
theorem cells7 {l : List D} (h : l.length = 7) : ∃ a b c d e f g, l = [a, b, c, d, e, f, g] := by
 match l, h with
 | [a, b, c, d, e, f, g], _ => exact ⟨_, _, _, _, _, _, _, rfl⟩
theorem cells8 {l : List D} (h : l.length = 8) : ∃ a b c d e f g i, l = [a, b, c, d, e, f, g, i] := by
 match l, h with
 | [a, b, c, d, e, f, g, i], _ => exact ⟨_, _, _, _, _, _, _, _, rfl⟩
theorem cells9 {l : List D} (h : l.length = 9) : ∃ a b c d e f g i j, l = [a, b, c, d, e, f, g, i, j] := by
 match l, h with
 | [a, b, c, d, e, f, g, i, j], _ => exact ⟨_, _, _, _, _, _, _, _, _, rfl⟩
theorem cells10 {l : List D} (h : l.length = 10) : ∃ a b c d e f g i j k, l = [a, b, c, d, e, f, g, i, j, k] := by
 match l, h with
 | [a, b, c, d, e, f, g, i, j, k], _ => exact ⟨_, _, _, _, _, _, _, _, _, _, rfl⟩
theorem cells4 {l : List D} (h : l.length = 4) : ∃ a b c d, l = [a, b, c, d] := by
 match l, h with
 | [a, b, c, d], _ => exact ⟨_, _, _, _, rfl⟩
inductive TyV where
 | mk (op : Int) (name : Str) (args : List TyV) (names : List Str) (pred : Pred) (preds : List Pred)
namespace TyV
mutual
def cells : TyV → List D
 | .mk o s az ns p ps => .int .i64 o :: .str s :: .lst (cellss az) :: .lst (ns.map fun k => [.str k]) :: (p.cells ++ [.lst (ps.map Pred.cells)])
def cellss : List TyV → List (List D)
 | [] => []
 | k :: ks => cells k :: cellss ks
end
theorem cellss_eq (ks : List TyV) : cellss ks = ks.map cells := by
 induction ks with
 | nil => simp [cellss]
 | cons k ks ih => simp [cellss, ih]
theorem cells_mk (o : Int) (s : Str) (az : List TyV) (ns : List Str) (p : Pred) (ps : List Pred) : cells (.mk o s az ns p ps) = .int .i64 o :: .str s :: .lst (az.map cells) :: .lst (ns.map fun k => [.str k]) :: (p.cells ++ [.lst (ps.map Pred.cells)]) := by rw [cells, cellss_eq]
theorem cells_length (v : TyV) : (cells v).length = 9 := by cases v; rw [cells_mk]; simp [Pred.cells_length]
theorem lens (l : List TyV) : (∀ e ∈ l.map cells, e.length = 9) = True := lens_map (f := cells) cells_length l
theorem ind {P : TyV → Prop} (h : ∀ o s az ns p ps, (∀ k ∈ az, P k) → P (.mk o s az ns p ps)) : ∀ v, P v :=
 fun v => TyV.rec (motive_1 := P) (motive_2 := fun ks => ∀ k ∈ ks, P k) h (fun k hk => by cases hk) (fun k ks hk hks x hx => by
  rcases List.mem_cons.1 hx with rfl | hx
  ·exact hk
  ·exact hks x hx) v
end TyV
structure ParV where
 name : Str
 ty : TyV
def ParV.cells (p : ParV) : List D := .str p.name :: p.ty.cells
theorem ParV.cells_length (v : ParV) : v.cells.length = 10 := by simp [ParV.cells, TyV.cells_length]
theorem ParV.lens (l : List ParV) : (∀ e ∈ l.map ParV.cells, e.length = 10) = True := lens_map (f := ParV.cells) ParV.cells_length l
mutual
inductive ExV where
 | mk (op : Int) (name : Str) (n : Int) (kids : List ExV) (params : List ParV) (alts : List AltV) (types : List TyV)
inductive AltV where
 | mk (con : Str) (names : List Str) (body : ExV)
end
def AltV.con : AltV → Str | .mk c _ _ => c
def AltV.names : AltV → List Str | .mk _ n _ => n
def AltV.body : AltV → ExV | .mk _ _ b => b
mutual
def ExV.cells : ExV → List D
 | .mk o s n ks ps az ts => [.int .i64 o, .str s, .int .i64 n, .lst (ExV.cellss ks), .lst (ps.map ParV.cells), .lst (AltV.cellss az), .lst (ts.map TyV.cells)]
def ExV.cellss : List ExV → List (List D)
 | [] => []
 | k :: ks => ExV.cells k :: ExV.cellss ks
def AltV.cells : AltV → List D
 | .mk c ns b => .str c :: .lst (ns.map fun k => [.str k]) :: ExV.cells b
def AltV.cellss : List AltV → List (List D)
 | [] => []
 | k :: ks => AltV.cells k :: AltV.cellss ks
end
theorem ExV.cellss_eq (ks : List ExV) : ExV.cellss ks = ks.map ExV.cells := by
 induction ks with
 | nil => simp [ExV.cellss]
 | cons k ks ih => simp [ExV.cellss, ih]
theorem AltV.cellss_eq (ks : List AltV) : AltV.cellss ks = ks.map AltV.cells := by
 induction ks with
 | nil => simp [AltV.cellss]
 | cons k ks ih => simp [AltV.cellss, ih]
theorem ExV.cells_mk (o : Int) (s : Str) (n : Int) (ks : List ExV) (ps : List ParV) (az : List AltV) (ts : List TyV) : ExV.cells (.mk o s n ks ps az ts) = [.int .i64 o, .str s, .int .i64 n, .lst (ks.map ExV.cells), .lst (ps.map ParV.cells), .lst (az.map AltV.cells), .lst (ts.map TyV.cells)] := by rw [ExV.cells, ExV.cellss_eq, AltV.cellss_eq]
theorem ExV.cells_length (v : ExV) : (ExV.cells v).length = 7 := by cases v; rw [ExV.cells_mk]; rfl
theorem AltV.cells_mk (c : Str) (ns : List Str) (b : ExV) : AltV.cells (.mk c ns b) = .str c :: .lst (ns.map fun k => [.str k]) :: ExV.cells b := by rw [AltV.cells]
theorem AltV.cells_length (v : AltV) : (AltV.cells v).length = 9 := by cases v; rw [AltV.cells_mk]; simp [ExV.cells_length]
theorem ExV.lens (l : List ExV) : (∀ e ∈ l.map ExV.cells, e.length = 7) = True := lens_map (f := ExV.cells) ExV.cells_length l
theorem AltV.lens (l : List AltV) : (∀ e ∈ l.map AltV.cells, e.length = 9) = True := lens_map (f := AltV.cells) AltV.cells_length l
theorem ExV.ind {P : ExV → Prop} (h : ∀ o s n ks ps az ts, (∀ k ∈ ks, P k) → (∀ a ∈ az, P a.body) → P (.mk o s n ks ps az ts)) : ∀ v, P v :=
 fun v => ExV.rec (motive_1 := P) (motive_2 := fun a => P a.body) (motive_3 := fun ks => ∀ k ∈ ks, P k) (motive_4 := fun ks => ∀ k ∈ ks, P k.body) h (fun _ _ _ hb => hb) (fun k hk => by cases hk) (fun k ks hk hks x hx => by
  rcases List.mem_cons.1 hx with rfl | hx
  ·exact hk
  ·exact hks x hx) (fun k hk => by cases hk) (fun k ks hk hks x hx => by
  rcases List.mem_cons.1 hx with rfl | hx
  ·exact hk
  ·exact hks x hx) v
mutual
inductive Va where
 | mk (op n : Int) (name : Str) (kids : List Va) (ps : List Str) (bd : List ExV) (bs : List BndV)
inductive BndV where
 | mk (name : Str) (v : Va)
end
def BndV.name : BndV → Str | .mk c _ => c
def BndV.v : BndV → Va | .mk _ b => b
namespace Va
def op : Va → Int | .mk o _ _ _ _ _ _ => o
def n : Va → Int | .mk _ n _ _ _ _ _ => n
def name : Va → Str | .mk _ _ s _ _ _ _ => s
def kids : Va → List Va | .mk _ _ _ k _ _ _ => k
end Va
mutual
def Va.val : Va → Val
 | .mk o n s ks ps bd bs => .mk o n s (Va.vals ks) (.lst (ps.map fun k => [.str k])) (.lst (bd.map ExV.cells)) (.lst (BndV.cellss bs))
def Va.vals : List Va → List Val
 | [] => []
 | k :: ks => Va.val k :: Va.vals ks
def BndV.cells : BndV → List D
 | .mk s v => .str s :: (Va.val v).cells
def BndV.cellss : List BndV → List (List D)
 | [] => []
 | k :: ks => BndV.cells k :: BndV.cellss ks
end
theorem Va.vals_eq (ks : List Va) : Va.vals ks = ks.map Va.val := by
 induction ks with
 | nil => simp [Va.vals]
 | cons k ks ih => simp [Va.vals, ih]
theorem BndV.cellss_eq (ks : List BndV) : BndV.cellss ks = ks.map BndV.cells := by
 induction ks with
 | nil => simp [BndV.cellss]
 | cons k ks ih => simp [BndV.cellss, ih]
def Va.cells (v : Va) : List D := v.val.cells
theorem Va.val_mk (o n : Int) (s : Str) (ks : List Va) (ps : List Str) (bd : List ExV) (bs : List BndV) : Va.val (.mk o n s ks ps bd bs) = .mk o n s (ks.map Va.val) (.lst (ps.map fun k => [.str k])) (.lst (bd.map ExV.cells)) (.lst (bs.map BndV.cells)) := by rw [Va.val, Va.vals_eq, BndV.cellss_eq]
theorem Va.cells_mk (o n : Int) (s : Str) (ks : List Va) (ps : List Str) (bd : List ExV) (bs : List BndV) : Va.cells (.mk o n s ks ps bd bs) = [.int .i64 o, .int .i64 n, .str s, .lst (ks.map Va.cells), .lst (ps.map fun k => [.str k]), .lst (bd.map ExV.cells), .lst (bs.map BndV.cells)] := by
 unfold Va.cells
 rw [Va.val_mk, Val.cells_mk, List.map_map]
 rfl
theorem Va.cells_length (v : Va) : v.cells.length = 7 := Val.cells_length _
theorem BndV.cells_mk (s : Str) (v : Va) : BndV.cells (.mk s v) = .str s :: v.cells := by rw [BndV.cells]; rfl
theorem BndV.cells_length (v : BndV) : (BndV.cells v).length = 8 := by cases v; rw [BndV.cells_mk]; simp [Va.cells_length]
theorem Va.lens (l : List Va) : (∀ e ∈ l.map Va.cells, e.length = 7) = True := lens_map (f := Va.cells) Va.cells_length l
theorem BndV.lens (l : List BndV) : (∀ e ∈ l.map BndV.cells, e.length = 8) = True := lens_map (f := BndV.cells) BndV.cells_length l
theorem Va.ind {P : Va → Prop} (h : ∀ o n s ks ps bd bs, (∀ k ∈ ks, P k) → (∀ a ∈ bs, P a.v) → P (.mk o n s ks ps bd bs)) : ∀ v, P v :=
 fun v => Va.rec (motive_1 := P) (motive_2 := fun a => P a.v) (motive_3 := fun ks => ∀ k ∈ ks, P k) (motive_4 := fun ks => ∀ k ∈ ks, P k.v) h (fun _ _ hb => hb) (fun k hk => by cases hk) (fun k ks hk hks x hx => by
  rcases List.mem_cons.1 hx with rfl | hx
  ·exact hk
  ·exact hks x hx) (fun k hk => by cases hk) (fun k ks hk hks x hx => by
  rcases List.mem_cons.1 hx with rfl | hx
  ·exact hk
  ·exact hks x hx) v
attribute [go_sem] TyV.cells_length ParV.cells_length ExV.cells_length AltV.cells_length Va.cells_length BndV.cells_length TyV.lens ParV.lens ExV.lens AltV.lens Va.lens BndV.lens
theorem eqB_ty (o : Int) (s : Str) (az : List TyV) (ns : List Str) (p : Pred) (ps : List Pred) (o' : Int) (s' : Str) (az' : List TyV) (ns' : List Str) (p' : Pred) (ps' : List Pred) :
  eqB (TyV.mk o s az ns p ps) (TyV.mk o' s' az' ns' p' ps') = (o == o' && s == s' && eqB ns ns' && eqB p p' && eqB ps ps' && eqB az az') := by
 rw [Bool.eq_iff_iff, eqB_iff]
 simp only [TyV.mk.injEq, Bool.and_eq_true, eqB_iff, beq_iff_eq]
 constructor <;> (rintro h; simp_all)
theorem eqB_par (a b : ParV) : eqB a b = (a.name == b.name && eqB a.ty b.ty) := by
 obtain ⟨a1, a2⟩ := a
 obtain ⟨b1, b2⟩ := b
 rw [Bool.eq_iff_iff, eqB_iff]
 simp only [ParV.mk.injEq, Bool.and_eq_true, eqB_iff, beq_iff_eq]
theorem eqB_ex (o : Int) (s : Str) (n : Int) (ks : List ExV) (ps : List ParV) (az : List AltV) (ts : List TyV) (o' : Int) (s' : Str) (n' : Int) (ks' : List ExV) (ps' : List ParV) (az' : List AltV) (ts' : List TyV) :
  eqB (ExV.mk o s n ks ps az ts) (ExV.mk o' s' n' ks' ps' az' ts') = (o == o' && s == s' && n == n' && eqB ks ks' && eqB ts ts' && eqB ps ps' && eqB az az') := by
 rw [Bool.eq_iff_iff, eqB_iff]
 simp only [ExV.mk.injEq, Bool.and_eq_true, eqB_iff, beq_iff_eq]
 constructor <;> (rintro h; simp_all)
theorem eqB_alt (a b : AltV) : eqB a b = (a.con == b.con && eqB a.names b.names && eqB a.body b.body) := by
 obtain ⟨a1, a2, a3⟩ := a
 obtain ⟨b1, b2, b3⟩ := b
 rw [Bool.eq_iff_iff, eqB_iff]
 simp only [AltV.mk.injEq, Bool.and_eq_true, eqB_iff, beq_iff_eq, AltV.con, AltV.names, AltV.body, and_assoc]
theorem eqB_va (o n : Int) (s : Str) (ks : List Va) (ps : List Str) (bd : List ExV) (bs : List BndV) (o' n' : Int) (s' : Str) (ks' : List Va) (ps' : List Str) (bd' : List ExV) (bs' : List BndV) :
  eqB (Va.mk o n s ks ps bd bs) (Va.mk o' n' s' ks' ps' bd' bs') = (o == o' && n == n' && s == s' && eqB ks ks' && eqB ps ps' && eqB bd bd' && eqB bs bs') := by
 rw [Bool.eq_iff_iff, eqB_iff]
 simp only [Va.mk.injEq, Bool.and_eq_true, eqB_iff, beq_iff_eq, and_assoc]
theorem eqB_bnd (a b : BndV) : eqB a b = (a.name == b.name && eqB a.v b.v) := by
 obtain ⟨a1, a2⟩ := a
 obtain ⟨b1, b2⟩ := b
 rw [Bool.eq_iff_iff, eqB_iff]
 simp only [BndV.mk.injEq, Bool.and_eq_true, eqB_iff, beq_iff_eq, BndV.name, BndV.v]
end Go.Abs
end
section
namespace Go.Abs
theorem mem_at' {α : Type} {l a r : List α} {x : α} (h : l = a ++ x :: r) : x ∈ l := by rw [h]; simp
variable {E : AEnv} (Z : Sys E)
include Z
theorem slices_EqualFunc_api_Pred_api_Pred_api_Pred_api_Pred_ev (g : FuncId) (a b : List Pred) (h : ∀ x ∈ a, ∀ y, E.C g [.agg (Pred.cells x), .agg (Pred.cells y)] (.one (.bool (eqB x y)))) : E.C slices_EqualFunc_api_Pred_api_Pred_api_Pred_api_Pred [.one (.lst (a.map Pred.cells)), .one (.lst (b.map Pred.cells)), .one (.clo g [])] (.one (.bool (eqB a b))) := by
 refine Z.slices_EqualFunc_api_Pred_api_Pred_api_Pred_api_Pred _ _ ⟨Nat.le_of_ble_eq_true rfl, ?_⟩
 generalize hR : eqB a b = R
 simp only [fn_slices_EqualFunc_api_Pred_api_Pred_api_Pred_api_Pred, go_sem, List.length_map]
 intro hl1 hl2
 by_cases hlen : a.length = b.length
 ·have h1 : ((a.length : Int) != (b.length : Int)) = false := by simp [hlen]
  simp only [h1, go_sem, List.length_map]
  intro _
  refine loop_list a (fun done => b.take done.length = done) (fun done rest => ⟨[(17, .d (.int .i64 done.length)), (16, .d (.int .i64 a.length)), (2, .d (.clo g [])), (15, .d (.lst (a.map Pred.cells))), (1, .d (.lst (b.map Pred.cells)))], [], []⟩) ?_ (by simp) ?_ ?_
  ·exact Ent_plain (by simp only [go_sem])
  ·intro done x r hl hI
   obtain ⟨bd, y, r', hb, hbl⟩ := at_split (b := b) (n := done.length) (by rw [← hlen, hl]; simp)
   have hlt := lt_mid hl
   have hlt2 : (done.length : Int) < b.length := by rw [← hlen]; exact hlt
   have hga := getD_at (f := Pred.cells) (d := []) hl
   have hgb := getD_atF (f := Pred.cells) hb hbl
   have hxy := h x (mem_at' hl) y
   have hw : IntKind.i64.wrap ((done.length : Int) + 1) = ((done.length + 1 : Nat) : Int) := wrap_succ (by omega)
   have q1 : eqB x y = false → eqB a b = false := eqB_at hl hb hbl
   have q2 : eqB x y = true → b.take (done.length + 1) = done ++ [x] := eqB_step hb hbl hI
   generalize eqB x y = e at *
   obtain ⟨a0, b0, c0, d0, hcx⟩ := cells4 (Pred.cells_length x)
   obtain ⟨a1, b1, c1, d1, hcy⟩ := cells4 (Pred.cells_length y)
   simp only [hcx, hcy] at hga hgb hxy
   simp only [fn_slices_EqualFunc_api_Pred_api_Pred_api_Pred_api_Pred_L1, go_sem, hga, hgb, hlt, hlt2, List.length_map, Pred.lens]
   refine call_by hxy ?_
   cases e with
   | true =>
    simp only [go_sem, hw, List.length_append]
    exact ⟨Ent_plain (by simp only [go_sem, Option.isSome_some, List.length_append]), q2 rfl⟩
   | false =>
    rw [q1 rfl] at hR
    subst hR
    simp only [go_sem]
  ·intro hI
   rw [eqB_done hlen hI] at hR
   subst hR
   simp only [fn_slices_EqualFunc_api_Pred_api_Pred_api_Pred_api_Pred_L1, go_sem, List.length_map]
 ·have h1 : ((a.length : Int) != (b.length : Int)) = true := by simp; omega
  rw [eqB_len hlen] at hR
  simp only [h1, go_sem, hR]
theorem slices_EqualFunc_api_Type_api_Type_api_Type_api_Type_ev (g : FuncId) (a b : List TyV) (h : ∀ x ∈ a, ∀ y, E.C g [.agg (TyV.cells x), .agg (TyV.cells y)] (.one (.bool (eqB x y)))) : E.C slices_EqualFunc_api_Type_api_Type_api_Type_api_Type [.one (.lst (a.map TyV.cells)), .one (.lst (b.map TyV.cells)), .one (.clo g [])] (.one (.bool (eqB a b))) := by
 refine Z.slices_EqualFunc_api_Type_api_Type_api_Type_api_Type _ _ ⟨Nat.le_of_ble_eq_true rfl, ?_⟩
 generalize hR : eqB a b = R
 simp only [fn_slices_EqualFunc_api_Type_api_Type_api_Type_api_Type, go_sem, List.length_map]
 intro hl1 hl2
 by_cases hlen : a.length = b.length
 ·have h1 : ((a.length : Int) != (b.length : Int)) = false := by simp [hlen]
  simp only [h1, go_sem, List.length_map]
  intro _
  refine loop_list a (fun done => b.take done.length = done) (fun done rest => ⟨[(17, .d (.int .i64 done.length)), (16, .d (.int .i64 a.length)), (2, .d (.clo g [])), (15, .d (.lst (a.map TyV.cells))), (1, .d (.lst (b.map TyV.cells)))], [], []⟩) ?_ (by simp) ?_ ?_
  ·exact Ent_plain (by simp only [go_sem])
  ·intro done x r hl hI
   obtain ⟨bd, y, r', hb, hbl⟩ := at_split (b := b) (n := done.length) (by rw [← hlen, hl]; simp)
   have hlt := lt_mid hl
   have hlt2 : (done.length : Int) < b.length := by rw [← hlen]; exact hlt
   have hga := getD_at (f := TyV.cells) (d := []) hl
   have hgb := getD_atF (f := TyV.cells) hb hbl
   have hxy := h x (mem_at' hl) y
   have hw : IntKind.i64.wrap ((done.length : Int) + 1) = ((done.length + 1 : Nat) : Int) := wrap_succ (by omega)
   have q1 : eqB x y = false → eqB a b = false := eqB_at hl hb hbl
   have q2 : eqB x y = true → b.take (done.length + 1) = done ++ [x] := eqB_step hb hbl hI
   generalize eqB x y = e at *
   obtain ⟨a0, b0, c0, d0, e0, f0, g0, i0, j0, hcx⟩ := cells9 (TyV.cells_length x)
   obtain ⟨a1, b1, c1, d1, e1, f1, g1, i1, j1, hcy⟩ := cells9 (TyV.cells_length y)
   simp only [hcx, hcy] at hga hgb hxy
   simp only [fn_slices_EqualFunc_api_Type_api_Type_api_Type_api_Type_L1, go_sem, hga, hgb, hlt, hlt2, List.length_map, TyV.lens]
   refine call_by hxy ?_
   cases e with
   | true =>
    simp only [go_sem, hw, List.length_append]
    exact ⟨Ent_plain (by simp only [go_sem, Option.isSome_some, List.length_append]), q2 rfl⟩
   | false =>
    rw [q1 rfl] at hR
    subst hR
    simp only [go_sem]
  ·intro hI
   rw [eqB_done hlen hI] at hR
   subst hR
   simp only [fn_slices_EqualFunc_api_Type_api_Type_api_Type_api_Type_L1, go_sem, List.length_map]
 ·have h1 : ((a.length : Int) != (b.length : Int)) = true := by simp; omega
  rw [eqB_len hlen] at hR
  simp only [h1, go_sem, hR]
theorem slices_EqualFunc_api_Param_api_Param_api_Param_api_Param_ev (g : FuncId) (a b : List ParV) (h : ∀ x ∈ a, ∀ y, E.C g [.agg (ParV.cells x), .agg (ParV.cells y)] (.one (.bool (eqB x y)))) : E.C slices_EqualFunc_api_Param_api_Param_api_Param_api_Param [.one (.lst (a.map ParV.cells)), .one (.lst (b.map ParV.cells)), .one (.clo g [])] (.one (.bool (eqB a b))) := by
 refine Z.slices_EqualFunc_api_Param_api_Param_api_Param_api_Param _ _ ⟨Nat.le_of_ble_eq_true rfl, ?_⟩
 generalize hR : eqB a b = R
 simp only [fn_slices_EqualFunc_api_Param_api_Param_api_Param_api_Param, go_sem, List.length_map]
 intro hl1 hl2
 by_cases hlen : a.length = b.length
 ·have h1 : ((a.length : Int) != (b.length : Int)) = false := by simp [hlen]
  simp only [h1, go_sem, List.length_map]
  intro _
  refine loop_list a (fun done => b.take done.length = done) (fun done rest => ⟨[(17, .d (.int .i64 done.length)), (16, .d (.int .i64 a.length)), (2, .d (.clo g [])), (15, .d (.lst (a.map ParV.cells))), (1, .d (.lst (b.map ParV.cells)))], [], []⟩) ?_ (by simp) ?_ ?_
  ·exact Ent_plain (by simp only [go_sem])
  ·intro done x r hl hI
   obtain ⟨bd, y, r', hb, hbl⟩ := at_split (b := b) (n := done.length) (by rw [← hlen, hl]; simp)
   have hlt := lt_mid hl
   have hlt2 : (done.length : Int) < b.length := by rw [← hlen]; exact hlt
   have hga := getD_at (f := ParV.cells) (d := []) hl
   have hgb := getD_atF (f := ParV.cells) hb hbl
   have hxy := h x (mem_at' hl) y
   have hw : IntKind.i64.wrap ((done.length : Int) + 1) = ((done.length + 1 : Nat) : Int) := wrap_succ (by omega)
   have q1 : eqB x y = false → eqB a b = false := eqB_at hl hb hbl
   have q2 : eqB x y = true → b.take (done.length + 1) = done ++ [x] := eqB_step hb hbl hI
   generalize eqB x y = e at *
   obtain ⟨a0, b0, c0, d0, e0, f0, g0, i0, j0, k0, hcx⟩ := cells10 (ParV.cells_length x)
   obtain ⟨a1, b1, c1, d1, e1, f1, g1, i1, j1, k1, hcy⟩ := cells10 (ParV.cells_length y)
   simp only [hcx, hcy] at hga hgb hxy
   simp only [fn_slices_EqualFunc_api_Param_api_Param_api_Param_api_Param_L1, go_sem, hga, hgb, hlt, hlt2, List.length_map, ParV.lens]
   refine call_by hxy ?_
   cases e with
   | true =>
    simp only [go_sem, hw, List.length_append]
    exact ⟨Ent_plain (by simp only [go_sem, Option.isSome_some, List.length_append]), q2 rfl⟩
   | false =>
    rw [q1 rfl] at hR
    subst hR
    simp only [go_sem]
  ·intro hI
   rw [eqB_done hlen hI] at hR
   subst hR
   simp only [fn_slices_EqualFunc_api_Param_api_Param_api_Param_api_Param_L1, go_sem, List.length_map]
 ·have h1 : ((a.length : Int) != (b.length : Int)) = true := by simp; omega
  rw [eqB_len hlen] at hR
  simp only [h1, go_sem, hR]
theorem slices_EqualFunc_api_Alt_api_Alt_api_Alt_api_Alt_ev (g : FuncId) (a b : List AltV) (h : ∀ x ∈ a, ∀ y, E.C g [.agg (AltV.cells x), .agg (AltV.cells y)] (.one (.bool (eqB x y)))) : E.C slices_EqualFunc_api_Alt_api_Alt_api_Alt_api_Alt [.one (.lst (a.map AltV.cells)), .one (.lst (b.map AltV.cells)), .one (.clo g [])] (.one (.bool (eqB a b))) := by
 refine Z.slices_EqualFunc_api_Alt_api_Alt_api_Alt_api_Alt _ _ ⟨Nat.le_of_ble_eq_true rfl, ?_⟩
 generalize hR : eqB a b = R
 simp only [fn_slices_EqualFunc_api_Alt_api_Alt_api_Alt_api_Alt, go_sem, List.length_map]
 intro hl1 hl2
 by_cases hlen : a.length = b.length
 ·have h1 : ((a.length : Int) != (b.length : Int)) = false := by simp [hlen]
  simp only [h1, go_sem, List.length_map]
  intro _
  refine loop_list a (fun done => b.take done.length = done) (fun done rest => ⟨[(17, .d (.int .i64 done.length)), (16, .d (.int .i64 a.length)), (2, .d (.clo g [])), (15, .d (.lst (a.map AltV.cells))), (1, .d (.lst (b.map AltV.cells)))], [], []⟩) ?_ (by simp) ?_ ?_
  ·exact Ent_plain (by simp only [go_sem])
  ·intro done x r hl hI
   obtain ⟨bd, y, r', hb, hbl⟩ := at_split (b := b) (n := done.length) (by rw [← hlen, hl]; simp)
   have hlt := lt_mid hl
   have hlt2 : (done.length : Int) < b.length := by rw [← hlen]; exact hlt
   have hga := getD_at (f := AltV.cells) (d := []) hl
   have hgb := getD_atF (f := AltV.cells) hb hbl
   have hxy := h x (mem_at' hl) y
   have hw : IntKind.i64.wrap ((done.length : Int) + 1) = ((done.length + 1 : Nat) : Int) := wrap_succ (by omega)
   have q1 : eqB x y = false → eqB a b = false := eqB_at hl hb hbl
   have q2 : eqB x y = true → b.take (done.length + 1) = done ++ [x] := eqB_step hb hbl hI
   generalize eqB x y = e at *
   obtain ⟨a0, b0, c0, d0, e0, f0, g0, i0, j0, hcx⟩ := cells9 (AltV.cells_length x)
   obtain ⟨a1, b1, c1, d1, e1, f1, g1, i1, j1, hcy⟩ := cells9 (AltV.cells_length y)
   simp only [hcx, hcy] at hga hgb hxy
   simp only [fn_slices_EqualFunc_api_Alt_api_Alt_api_Alt_api_Alt_L1, go_sem, hga, hgb, hlt, hlt2, List.length_map, AltV.lens]
   refine call_by hxy ?_
   cases e with
   | true =>
    simp only [go_sem, hw, List.length_append]
    exact ⟨Ent_plain (by simp only [go_sem, Option.isSome_some, List.length_append]), q2 rfl⟩
   | false =>
    rw [q1 rfl] at hR
    subst hR
    simp only [go_sem]
  ·intro hI
   rw [eqB_done hlen hI] at hR
   subst hR
   simp only [fn_slices_EqualFunc_api_Alt_api_Alt_api_Alt_api_Alt_L1, go_sem, List.length_map]
 ·have h1 : ((a.length : Int) != (b.length : Int)) = true := by simp; omega
  rw [eqB_len hlen] at hR
  simp only [h1, go_sem, hR]
theorem slices_EqualFunc_api_Expr_api_Expr_api_Expr_api_Expr_ev (g : FuncId) (a b : List ExV) (h : ∀ x ∈ a, ∀ y, E.C g [.agg (ExV.cells x), .agg (ExV.cells y)] (.one (.bool (eqB x y)))) : E.C slices_EqualFunc_api_Expr_api_Expr_api_Expr_api_Expr [.one (.lst (a.map ExV.cells)), .one (.lst (b.map ExV.cells)), .one (.clo g [])] (.one (.bool (eqB a b))) := by
 refine Z.slices_EqualFunc_api_Expr_api_Expr_api_Expr_api_Expr _ _ ⟨Nat.le_of_ble_eq_true rfl, ?_⟩
 generalize hR : eqB a b = R
 simp only [fn_slices_EqualFunc_api_Expr_api_Expr_api_Expr_api_Expr, go_sem, List.length_map]
 intro hl1 hl2
 by_cases hlen : a.length = b.length
 ·have h1 : ((a.length : Int) != (b.length : Int)) = false := by simp [hlen]
  simp only [h1, go_sem, List.length_map]
  intro _
  refine loop_list a (fun done => b.take done.length = done) (fun done rest => ⟨[(17, .d (.int .i64 done.length)), (16, .d (.int .i64 a.length)), (2, .d (.clo g [])), (15, .d (.lst (a.map ExV.cells))), (1, .d (.lst (b.map ExV.cells)))], [], []⟩) ?_ (by simp) ?_ ?_
  ·exact Ent_plain (by simp only [go_sem])
  ·intro done x r hl hI
   obtain ⟨bd, y, r', hb, hbl⟩ := at_split (b := b) (n := done.length) (by rw [← hlen, hl]; simp)
   have hlt := lt_mid hl
   have hlt2 : (done.length : Int) < b.length := by rw [← hlen]; exact hlt
   have hga := getD_at (f := ExV.cells) (d := []) hl
   have hgb := getD_atF (f := ExV.cells) hb hbl
   have hxy := h x (mem_at' hl) y
   have hw : IntKind.i64.wrap ((done.length : Int) + 1) = ((done.length + 1 : Nat) : Int) := wrap_succ (by omega)
   have q1 : eqB x y = false → eqB a b = false := eqB_at hl hb hbl
   have q2 : eqB x y = true → b.take (done.length + 1) = done ++ [x] := eqB_step hb hbl hI
   generalize eqB x y = e at *
   obtain ⟨a0, b0, c0, d0, e0, f0, g0, hcx⟩ := cells7 (ExV.cells_length x)
   obtain ⟨a1, b1, c1, d1, e1, f1, g1, hcy⟩ := cells7 (ExV.cells_length y)
   simp only [hcx, hcy] at hga hgb hxy
   simp only [fn_slices_EqualFunc_api_Expr_api_Expr_api_Expr_api_Expr_L1, go_sem, hga, hgb, hlt, hlt2, List.length_map, ExV.lens]
   refine call_by hxy ?_
   cases e with
   | true =>
    simp only [go_sem, hw, List.length_append]
    exact ⟨Ent_plain (by simp only [go_sem, Option.isSome_some, List.length_append]), q2 rfl⟩
   | false =>
    rw [q1 rfl] at hR
    subst hR
    simp only [go_sem]
  ·intro hI
   rw [eqB_done hlen hI] at hR
   subst hR
   simp only [fn_slices_EqualFunc_api_Expr_api_Expr_api_Expr_api_Expr_L1, go_sem, List.length_map]
 ·have h1 : ((a.length : Int) != (b.length : Int)) = true := by simp; omega
  rw [eqB_len hlen] at hR
  simp only [h1, go_sem, hR]
theorem slices_EqualFunc_api_Value_api_Value_api_Value_api_Value_ev (g : FuncId) (a b : List Va) (h : ∀ x ∈ a, ∀ y, E.C g [.agg (Va.cells x), .agg (Va.cells y)] (.one (.bool (eqB x y)))) : E.C slices_EqualFunc_api_Value_api_Value_api_Value_api_Value [.one (.lst (a.map Va.cells)), .one (.lst (b.map Va.cells)), .one (.clo g [])] (.one (.bool (eqB a b))) := by
 refine Z.slices_EqualFunc_api_Value_api_Value_api_Value_api_Value _ _ ⟨Nat.le_of_ble_eq_true rfl, ?_⟩
 generalize hR : eqB a b = R
 simp only [fn_slices_EqualFunc_api_Value_api_Value_api_Value_api_Value, go_sem, List.length_map]
 intro hl1 hl2
 by_cases hlen : a.length = b.length
 ·have h1 : ((a.length : Int) != (b.length : Int)) = false := by simp [hlen]
  simp only [h1, go_sem, List.length_map]
  intro _
  refine loop_list a (fun done => b.take done.length = done) (fun done rest => ⟨[(17, .d (.int .i64 done.length)), (16, .d (.int .i64 a.length)), (2, .d (.clo g [])), (15, .d (.lst (a.map Va.cells))), (1, .d (.lst (b.map Va.cells)))], [], []⟩) ?_ (by simp) ?_ ?_
  ·exact Ent_plain (by simp only [go_sem])
  ·intro done x r hl hI
   obtain ⟨bd, y, r', hb, hbl⟩ := at_split (b := b) (n := done.length) (by rw [← hlen, hl]; simp)
   have hlt := lt_mid hl
   have hlt2 : (done.length : Int) < b.length := by rw [← hlen]; exact hlt
   have hga := getD_at (f := Va.cells) (d := []) hl
   have hgb := getD_atF (f := Va.cells) hb hbl
   have hxy := h x (mem_at' hl) y
   have hw : IntKind.i64.wrap ((done.length : Int) + 1) = ((done.length + 1 : Nat) : Int) := wrap_succ (by omega)
   have q1 : eqB x y = false → eqB a b = false := eqB_at hl hb hbl
   have q2 : eqB x y = true → b.take (done.length + 1) = done ++ [x] := eqB_step hb hbl hI
   generalize eqB x y = e at *
   obtain ⟨a0, b0, c0, d0, e0, f0, g0, hcx⟩ := cells7 (Va.cells_length x)
   obtain ⟨a1, b1, c1, d1, e1, f1, g1, hcy⟩ := cells7 (Va.cells_length y)
   simp only [hcx, hcy] at hga hgb hxy
   simp only [fn_slices_EqualFunc_api_Value_api_Value_api_Value_api_Value_L1, go_sem, hga, hgb, hlt, hlt2, List.length_map, Va.lens]
   refine call_by hxy ?_
   cases e with
   | true =>
    simp only [go_sem, hw, List.length_append]
    exact ⟨Ent_plain (by simp only [go_sem, Option.isSome_some, List.length_append]), q2 rfl⟩
   | false =>
    rw [q1 rfl] at hR
    subst hR
    simp only [go_sem]
  ·intro hI
   rw [eqB_done hlen hI] at hR
   subst hR
   simp only [fn_slices_EqualFunc_api_Value_api_Value_api_Value_api_Value_L1, go_sem, List.length_map]
 ·have h1 : ((a.length : Int) != (b.length : Int)) = true := by simp; omega
  rw [eqB_len hlen] at hR
  simp only [h1, go_sem, hR]
theorem slices_EqualFunc_api_Bind_api_Bind_api_Bind_api_Bind_ev (g : FuncId) (a b : List BndV) (h : ∀ x ∈ a, ∀ y, E.C g [.agg (BndV.cells x), .agg (BndV.cells y)] (.one (.bool (eqB x y)))) : E.C slices_EqualFunc_api_Bind_api_Bind_api_Bind_api_Bind [.one (.lst (a.map BndV.cells)), .one (.lst (b.map BndV.cells)), .one (.clo g [])] (.one (.bool (eqB a b))) := by
 refine Z.slices_EqualFunc_api_Bind_api_Bind_api_Bind_api_Bind _ _ ⟨Nat.le_of_ble_eq_true rfl, ?_⟩
 generalize hR : eqB a b = R
 simp only [fn_slices_EqualFunc_api_Bind_api_Bind_api_Bind_api_Bind, go_sem, List.length_map]
 intro hl1 hl2
 by_cases hlen : a.length = b.length
 ·have h1 : ((a.length : Int) != (b.length : Int)) = false := by simp [hlen]
  simp only [h1, go_sem, List.length_map]
  intro _
  refine loop_list a (fun done => b.take done.length = done) (fun done rest => ⟨[(17, .d (.int .i64 done.length)), (16, .d (.int .i64 a.length)), (2, .d (.clo g [])), (15, .d (.lst (a.map BndV.cells))), (1, .d (.lst (b.map BndV.cells)))], [], []⟩) ?_ (by simp) ?_ ?_
  ·exact Ent_plain (by simp only [go_sem])
  ·intro done x r hl hI
   obtain ⟨bd, y, r', hb, hbl⟩ := at_split (b := b) (n := done.length) (by rw [← hlen, hl]; simp)
   have hlt := lt_mid hl
   have hlt2 : (done.length : Int) < b.length := by rw [← hlen]; exact hlt
   have hga := getD_at (f := BndV.cells) (d := []) hl
   have hgb := getD_atF (f := BndV.cells) hb hbl
   have hxy := h x (mem_at' hl) y
   have hw : IntKind.i64.wrap ((done.length : Int) + 1) = ((done.length + 1 : Nat) : Int) := wrap_succ (by omega)
   have q1 : eqB x y = false → eqB a b = false := eqB_at hl hb hbl
   have q2 : eqB x y = true → b.take (done.length + 1) = done ++ [x] := eqB_step hb hbl hI
   generalize eqB x y = e at *
   obtain ⟨a0, b0, c0, d0, e0, f0, g0, i0, hcx⟩ := cells8 (BndV.cells_length x)
   obtain ⟨a1, b1, c1, d1, e1, f1, g1, i1, hcy⟩ := cells8 (BndV.cells_length y)
   simp only [hcx, hcy] at hga hgb hxy
   simp only [fn_slices_EqualFunc_api_Bind_api_Bind_api_Bind_api_Bind_L1, go_sem, hga, hgb, hlt, hlt2, List.length_map, BndV.lens]
   refine call_by hxy ?_
   cases e with
   | true =>
    simp only [go_sem, hw, List.length_append]
    exact ⟨Ent_plain (by simp only [go_sem, Option.isSome_some, List.length_append]), q2 rfl⟩
   | false =>
    rw [q1 rfl] at hR
    subst hR
    simp only [go_sem]
  ·intro hI
   rw [eqB_done hlen hI] at hR
   subst hR
   simp only [fn_slices_EqualFunc_api_Bind_api_Bind_api_Bind_api_Bind_L1, go_sem, List.length_map]
 ·have h1 : ((a.length : Int) != (b.length : Int)) = true := by simp; omega
  rw [eqB_len hlen] at hR
  simp only [h1, go_sem, hR]
end Go.Abs
end
section
namespace Go.Abs
variable {E : AEnv} (Z : Sys E)
include Z
theorem r20_SameNames_ev (a b : List Str) : E.C r20_SameNames [.one (.lst (a.map fun k => [.str k])), .one (.lst (b.map fun k => [.str k]))] (.one (.bool (eqB a b))) := by
 refine Z.r20_SameNames _ _ ⟨Nat.le_of_ble_eq_true rfl, ?_⟩
 generalize hR : eqB a b = R
 simp only [fn_r20_SameNames, go_sem, List.length_map]
 intro hl1 hl2
 by_cases hlen : a.length = b.length
 ·have h1 : ((a.length : Int) != (b.length : Int)) = false := by simp [hlen]
  simp only [h1, go_sem, List.length_map]
  refine loop_list a (fun done => b.take done.length = done) (fun done rest => ⟨[(5, .d (.int .i64 done.length)), (0, .d (.lst (a.map fun k => [.str k]))), (1, .d (.lst (b.map fun k => [.str k])))], [], []⟩) ?_ (by simp) ?_ ?_
  ·exact Ent_plain (by simp only [go_sem])
  ·intro done x r hl hI
   obtain ⟨bd, y, r', hb, hbl⟩ := at_split (b := b) (n := done.length) (by rw [← hlen, hl]; simp)
   have hlt := lt_mid hl
   have hlt2 : (done.length : Int) < b.length := by rw [← hlen]; exact hlt
   have hga := getD_at (f := fun k : Str => [D.str k]) (d := []) hl
   have hgb := getD_atF (f := fun k : Str => [D.str k]) hb hbl
   have la : (∀ e ∈ a.map (fun k : Str => [D.str k]), e.length = 1) = True := eq_true (by simp)
   have lb : (∀ e ∈ b.map (fun k : Str => [D.str k]), e.length = 1) = True := eq_true (by simp)
   have hw : IntKind.i64.wrap ((done.length : Int) + 1) = ((done.length + 1 : Nat) : Int) := wrap_succ (by omega)
   have q1 : eqB x y = false → eqB a b = false := eqB_at hl hb hbl
   have q2 : eqB x y = true → b.take (done.length + 1) = done ++ [x] := eqB_step hb hbl hI
   rw [eqB_beq] at q1 q2
   simp only [fn_r20_SameNames_L1, go_sem, hga, hgb, hlt, hlt2, List.length_map, la, lb]
   intro _
   generalize (x == y) = e at *
   cases e with
   | true =>
    simp only [go_sem, hw, List.length_append]
    exact ⟨Ent_plain (by simp only [go_sem, Option.isSome_some, List.length_append]), q2 rfl⟩
   | false =>
    rw [q1 rfl] at hR
    subst hR
    simp only [go_sem]
  ·intro hI
   rw [eqB_done hlen hI] at hR
   subst hR
   simp only [fn_r20_SameNames_L1, ↓reduceIte, go_sem, List.length_map, implies_true]
 ·have h1 : ((a.length : Int) != (b.length : Int)) = true := by simp; omega
  rw [eqB_len hlen] at hR
  simp only [h1, go_sem, hR]
theorem slices_Equal_string_string_ev (a b : List Str) : E.C slices_Equal_string_string [.one (.lst (a.map fun k => [.str k])), .one (.lst (b.map fun k => [.str k]))] (.one (.bool (eqB a b))) := by
 refine Z.slices_Equal_string_string _ _ ⟨Nat.le_of_ble_eq_true rfl, ?_⟩
 generalize hR : eqB a b = R
 simp only [fn_slices_Equal_string_string, go_sem, List.length_map]
 intro hl1 hl2
 by_cases hlen : a.length = b.length
 ·have h1 : ((a.length : Int) != (b.length : Int)) = false := by simp [hlen]
  simp only [h1, go_sem, List.length_map]
  intro _
  refine loop_list a (fun done => b.take done.length = done) (fun done rest => ⟨[(13, .d (.int .i64 done.length)), (12, .d (.int .i64 a.length)), (0, .d (.lst (a.map fun k => [.str k]))), (1, .d (.lst (b.map fun k => [.str k])))], [], []⟩) ?_ (by simp) ?_ ?_
  ·exact Ent_plain (by simp only [go_sem])
  ·intro done x r hl hI
   obtain ⟨bd, y, r', hb, hbl⟩ := at_split (b := b) (n := done.length) (by rw [← hlen, hl]; simp)
   have hlt := lt_mid hl
   have hlt2 : (done.length : Int) < b.length := by rw [← hlen]; exact hlt
   have hga := getD_at (f := fun k : Str => [D.str k]) (d := []) hl
   have hgb := getD_atF (f := fun k : Str => [D.str k]) hb hbl
   have la : (∀ e ∈ a.map (fun k : Str => [D.str k]), e.length = 1) = True := eq_true (by simp)
   have lb : (∀ e ∈ b.map (fun k : Str => [D.str k]), e.length = 1) = True := eq_true (by simp)
   have hw : IntKind.i64.wrap ((done.length : Int) + 1) = ((done.length + 1 : Nat) : Int) := wrap_succ (by omega)
   have q1 : eqB x y = false → eqB a b = false := eqB_at hl hb hbl
   have q2 : eqB x y = true → b.take (done.length + 1) = done ++ [x] := eqB_step hb hbl hI
   rw [eqB_beq] at q1 q2
   simp only [fn_slices_Equal_string_string_L1, go_sem, hga, hgb, hlt, hlt2, List.length_map, la, lb]
   generalize (x == y) = e at *
   cases e with
   | true =>
    simp only [go_sem, hw, List.length_append]
    exact ⟨Ent_plain (by simp only [go_sem, Option.isSome_some, List.length_append]), q2 rfl⟩
   | false =>
    rw [q1 rfl] at hR
    subst hR
    simp only [go_sem]
  ·intro hI
   rw [eqB_done hlen hI] at hR
   subst hR
   simp only [fn_slices_Equal_string_string_L1, ↓reduceIte, go_sem, List.length_map, implies_true]
 ·have h1 : ((a.length : Int) != (b.length : Int)) = true := by simp; omega
  rw [eqB_len hlen] at hR
  simp only [h1, go_sem, hR]
theorem r20_SameTypes_ev (a b : List TyV) (h : ∀ x ∈ a, ∀ y, E.C r20_SameType [.agg (TyV.cells x), .agg (TyV.cells y)] (.one (.bool (eqB x y)))) : E.C r20_SameTypes [.one (.lst (a.map TyV.cells)), .one (.lst (b.map TyV.cells))] (.one (.bool (eqB a b))) := by
 refine Z.r20_SameTypes _ _ ⟨Nat.le_of_ble_eq_true rfl, ?_⟩
 generalize hR : eqB a b = R
 simp only [fn_r20_SameTypes, go_sem, List.length_map]
 intro hl1 hl2
 by_cases hlen : a.length = b.length
 ·have h1 : ((a.length : Int) != (b.length : Int)) = false := by simp [hlen]
  simp only [h1, go_sem, List.length_map]
  refine loop_list a (fun done => b.take done.length = done) (fun done rest => ⟨[(5, .d (.int .i64 done.length)), (0, .d (.lst (a.map TyV.cells))), (1, .d (.lst (b.map TyV.cells)))], [], []⟩) ?_ (by simp) ?_ ?_
  ·exact Ent_plain (by simp only [go_sem])
  ·intro done x r hl hI
   obtain ⟨bd, y, r', hb, hbl⟩ := at_split (b := b) (n := done.length) (by rw [← hlen, hl]; simp)
   have hlt := lt_mid hl
   have hlt2 : (done.length : Int) < b.length := by rw [← hlen]; exact hlt
   have hga := getD_at (f := TyV.cells) (d := []) hl
   have hgb := getD_atF (f := TyV.cells) hb hbl
   have hxy := h x (mem_at' hl) y
   have hw : IntKind.i64.wrap ((done.length : Int) + 1) = ((done.length + 1 : Nat) : Int) := wrap_succ (by omega)
   have q1 : eqB x y = false → eqB a b = false := eqB_at hl hb hbl
   have q2 : eqB x y = true → b.take (done.length + 1) = done ++ [x] := eqB_step hb hbl hI
   generalize eqB x y = e at *
   obtain ⟨a0, b0, c0, d0, e0, f0, g0, i0, j0, hcx⟩ := cells9 (TyV.cells_length x)
   obtain ⟨a1, b1, c1, d1, e1, f1, g1, i1, j1, hcy⟩ := cells9 (TyV.cells_length y)
   simp only [hcx, hcy] at hga hgb hxy
   simp only [fn_r20_SameTypes_L1, go_sem, hga, hgb, hlt, hlt2, List.length_map, TyV.lens]
   intro _
   refine call_by hxy ?_
   cases e with
   | true =>
    simp only [go_sem, hw, List.length_append]
    exact ⟨Ent_plain (by simp only [go_sem, Option.isSome_some, List.length_append]), q2 rfl⟩
   | false =>
    rw [q1 rfl] at hR
    subst hR
    simp only [go_sem]
  ·intro hI
   rw [eqB_done hlen hI] at hR
   subst hR
   simp only [fn_r20_SameTypes_L1, ↓reduceIte, go_sem, List.length_map, implies_true]
 ·have h1 : ((a.length : Int) != (b.length : Int)) = true := by simp; omega
  rw [eqB_len hlen] at hR
  simp only [h1, go_sem, hR]
theorem r29_SameBodies_ev (a b : List ExV) (h : ∀ x ∈ a, ∀ y, E.C r20_Same [.agg (ExV.cells x), .agg (ExV.cells y)] (.one (.bool (eqB x y)))) : E.C r29_SameBodies [.one (.lst (a.map ExV.cells)), .one (.lst (b.map ExV.cells))] (.one (.bool (eqB a b))) := by
 refine Z.r29_SameBodies _ _ ⟨Nat.le_of_ble_eq_true rfl, ?_⟩
 generalize hR : eqB a b = R
 simp only [fn_r29_SameBodies, go_sem, List.length_map]
 intro hl1 hl2
 by_cases hlen : a.length = b.length
 ·have h1 : ((a.length : Int) != (b.length : Int)) = false := by simp [hlen]
  simp only [h1, go_sem, List.length_map]
  refine loop_list a (fun done => b.take done.length = done) (fun done rest => ⟨[(5, .d (.int .i64 done.length)), (0, .d (.lst (a.map ExV.cells))), (1, .d (.lst (b.map ExV.cells)))], [], []⟩) ?_ (by simp) ?_ ?_
  ·exact Ent_plain (by simp only [go_sem])
  ·intro done x r hl hI
   obtain ⟨bd, y, r', hb, hbl⟩ := at_split (b := b) (n := done.length) (by rw [← hlen, hl]; simp)
   have hlt := lt_mid hl
   have hlt2 : (done.length : Int) < b.length := by rw [← hlen]; exact hlt
   have hga := getD_at (f := ExV.cells) (d := []) hl
   have hgb := getD_atF (f := ExV.cells) hb hbl
   have hxy := h x (mem_at' hl) y
   have hw : IntKind.i64.wrap ((done.length : Int) + 1) = ((done.length + 1 : Nat) : Int) := wrap_succ (by omega)
   have q1 : eqB x y = false → eqB a b = false := eqB_at hl hb hbl
   have q2 : eqB x y = true → b.take (done.length + 1) = done ++ [x] := eqB_step hb hbl hI
   generalize eqB x y = e at *
   obtain ⟨a0, b0, c0, d0, e0, f0, g0, hcx⟩ := cells7 (ExV.cells_length x)
   obtain ⟨a1, b1, c1, d1, e1, f1, g1, hcy⟩ := cells7 (ExV.cells_length y)
   simp only [hcx, hcy] at hga hgb hxy
   simp only [fn_r29_SameBodies_L1, go_sem, hga, hgb, hlt, hlt2, List.length_map, ExV.lens]
   intro _
   refine call_by hxy ?_
   cases e with
   | true =>
    simp only [go_sem, hw, List.length_append]
    exact ⟨Ent_plain (by simp only [go_sem, Option.isSome_some, List.length_append]), q2 rfl⟩
   | false =>
    rw [q1 rfl] at hR
    subst hR
    simp only [go_sem]
  ·intro hI
   rw [eqB_done hlen hI] at hR
   subst hR
   simp only [fn_r29_SameBodies_L1, ↓reduceIte, go_sem, List.length_map, implies_true]
 ·have h1 : ((a.length : Int) != (b.length : Int)) = true := by simp; omega
  rw [eqB_len hlen] at hR
  simp only [h1, go_sem, hR]
theorem r20_sameParams_ev (a b : List ParV) (h : ∀ x ∈ a, ∀ y, E.C r20_SameType [.agg (ParV.ty x).cells, .agg y.cells] (.one (.bool (eqB (ParV.ty x) y)))) : E.C r20_sameParams [.one (.lst (a.map ParV.cells)), .one (.lst (b.map ParV.cells))] (.one (.bool (eqB a b))) := by
 refine Z.r20_sameParams _ _ ⟨Nat.le_of_ble_eq_true rfl, ?_⟩
 generalize hR : eqB a b = R
 simp only [fn_r20_sameParams, go_sem, List.length_map]
 intro hl1 hl2
 by_cases hlen : a.length = b.length
 ·have h1 : ((a.length : Int) != (b.length : Int)) = false := by simp [hlen]
  simp only [h1, go_sem, List.length_map]
  refine loop_list a (fun done => b.take done.length = done) (fun done rest => ⟨[(5, .d (.int .i64 done.length)), (0, .d (.lst (a.map ParV.cells))), (1, .d (.lst (b.map ParV.cells)))], [], []⟩) ?_ (by simp) ?_ ?_
  ·exact Ent_plain (by simp only [go_sem])
  ·intro done x r hl hI
   obtain ⟨bd, y, r', hb, hbl⟩ := at_split (b := b) (n := done.length) (by rw [← hlen, hl]; simp)
   have hlt := lt_mid hl
   have hlt2 : (done.length : Int) < b.length := by rw [← hlen]; exact hlt
   have hga := getD_at (f := ParV.cells) (d := []) hl
   have hgb := getD_atF (f := ParV.cells) hb hbl
   have hxy := h x (mem_at' hl) (ParV.ty y)
   have hw : IntKind.i64.wrap ((done.length : Int) + 1) = ((done.length + 1 : Nat) : Int) := wrap_succ (by omega)
   have q1 : eqB x y = false → eqB a b = false := eqB_at hl hb hbl
   have q2 : eqB x y = true → b.take (done.length + 1) = done ++ [x] := eqB_step hb hbl hI
   rw [eqB_par] at q1 q2
   obtain ⟨xn, xv⟩ := x
   obtain ⟨yn, yv⟩ := y
   simp only [ParV.cells] at hga hgb hxy q1 q2
   generalize eqB xv yv = e at *
   obtain ⟨a0, b0, c0, d0, e0, f0, g0, i0, j0, hcx⟩ := cells9 (TyV.cells_length xv)
   obtain ⟨a1, b1, c1, d1, e1, f1, g1, i1, j1, hcy⟩ := cells9 (TyV.cells_length yv)
   simp only [hcx, hcy] at hga hgb hxy
   simp only [fn_r20_sameParams_L1, go_sem, hga, hgb, hlt, hlt2, List.length_map, ParV.lens]
   intro _
   refine call_g hxy ?_
   simp only [go_sem]
   generalize (xn == yn) = d at *
   cases d with
   | false =>
    rw [q1 rfl] at hR
    subst hR
    simp only [go_sem]
   | true =>
    cases e with
    | true =>
     simp only [go_sem, hw, List.length_append]
     exact ⟨Ent_plain (by simp only [go_sem, Option.isSome_some, List.length_append]), q2 rfl⟩
    | false =>
     rw [q1 rfl] at hR
     subst hR
     simp only [go_sem]
  ·intro hI
   rw [eqB_done hlen hI] at hR
   subst hR
   simp only [fn_r20_sameParams_L1, ↓reduceIte, go_sem, List.length_map, implies_true]
 ·have h1 : ((a.length : Int) != (b.length : Int)) = true := by simp; omega
  rw [eqB_len hlen] at hR
  simp only [h1, go_sem, hR]
theorem r29_sameBinds_ev (a b : List BndV) (h : ∀ x ∈ a, ∀ y, E.C r29_Same [.agg (BndV.v x).cells, .agg y.cells] (.one (.bool (eqB (BndV.v x) y)))) : E.C r29_sameBinds [.one (.lst (a.map BndV.cells)), .one (.lst (b.map BndV.cells))] (.one (.bool (eqB a b))) := by
 refine Z.r29_sameBinds _ _ ⟨Nat.le_of_ble_eq_true rfl, ?_⟩
 generalize hR : eqB a b = R
 simp only [fn_r29_sameBinds, go_sem, List.length_map]
 intro hl1 hl2
 by_cases hlen : a.length = b.length
 ·have h1 : ((a.length : Int) != (b.length : Int)) = false := by simp [hlen]
  simp only [h1, go_sem, List.length_map]
  refine loop_list a (fun done => b.take done.length = done) (fun done rest => ⟨[(5, .d (.int .i64 done.length)), (0, .d (.lst (a.map BndV.cells))), (1, .d (.lst (b.map BndV.cells)))], [], []⟩) ?_ (by simp) ?_ ?_
  ·exact Ent_plain (by simp only [go_sem])
  ·intro done x r hl hI
   obtain ⟨bd, y, r', hb, hbl⟩ := at_split (b := b) (n := done.length) (by rw [← hlen, hl]; simp)
   have hlt := lt_mid hl
   have hlt2 : (done.length : Int) < b.length := by rw [← hlen]; exact hlt
   have hga := getD_at (f := BndV.cells) (d := []) hl
   have hgb := getD_atF (f := BndV.cells) hb hbl
   have hxy := h x (mem_at' hl) (BndV.v y)
   have hw : IntKind.i64.wrap ((done.length : Int) + 1) = ((done.length + 1 : Nat) : Int) := wrap_succ (by omega)
   have q1 : eqB x y = false → eqB a b = false := eqB_at hl hb hbl
   have q2 : eqB x y = true → b.take (done.length + 1) = done ++ [x] := eqB_step hb hbl hI
   rw [eqB_bnd] at q1 q2
   obtain ⟨xn, xv⟩ := x
   obtain ⟨yn, yv⟩ := y
   simp only [BndV.cells_mk, BndV.name, BndV.v] at hga hgb hxy q1 q2
   generalize eqB xv yv = e at *
   obtain ⟨a0, b0, c0, d0, e0, f0, g0, hcx⟩ := cells7 (Va.cells_length xv)
   obtain ⟨a1, b1, c1, d1, e1, f1, g1, hcy⟩ := cells7 (Va.cells_length yv)
   simp only [hcx, hcy] at hga hgb hxy
   simp only [fn_r29_sameBinds_L1, go_sem, hga, hgb, hlt, hlt2, List.length_map, BndV.lens]
   intro _
   refine call_g hxy ?_
   simp only [go_sem]
   generalize (xn == yn) = d at *
   cases d with
   | false =>
    rw [q1 rfl] at hR
    subst hR
    simp only [go_sem]
   | true =>
    cases e with
    | true =>
     simp only [go_sem, hw, List.length_append]
     exact ⟨Ent_plain (by simp only [go_sem, Option.isSome_some, List.length_append]), q2 rfl⟩
    | false =>
     rw [q1 rfl] at hR
     subst hR
     simp only [go_sem]
  ·intro hI
   rw [eqB_done hlen hI] at hR
   subst hR
   simp only [fn_r29_sameBinds_L1, ↓reduceIte, go_sem, List.length_map, implies_true]
 ·have h1 : ((a.length : Int) != (b.length : Int)) = true := by simp; omega
  rw [eqB_len hlen] at hR
  simp only [h1, go_sem, hR]
end Go.Abs
end
section
namespace Go.Abs
theorem bne_int_eq {a b : Int} (h : (a != b) = false) : a = b := by simpa using h
theorem len_ne {α β : Type} {a : List α} {b : List β} (h : ((a.length : Int) != (b.length : Int)) = false) : a.length = b.length := by
 have : ¬ (a.length : Int) ≠ b.length := by rw [← bne_iff_ne, h]; simp
 omega
theorem len_neB {α : Type} {a b : List α} (h : ((a.length : Int) != (b.length : Int)) = true) : eqB a b = false := eqB_len fun e => by simp [e] at h
variable {E : AEnv} (Z : Sys E)
include Z
theorem pred_eqB (p p' : Pred) : E.C pred_Same [.agg p.cells, .agg p'.cells] (.one (.bool (eqB p p'))) := by rw [eqB_same]; exact pred_Same_ev Z p p'
theorem r07_eqB (p p' : Pred) : E.C r07_Same [.agg p.cells, .agg p'.cells] (.one (.bool (eqB p p'))) := by rw [eqB_same]; exact r07_Same_ev Z p p'
theorem syntax_sameType_ev (a : TyV) : ∀ b, E.C syntax_sameType [.agg a.cells, .agg b.cells] (.one (.bool (eqB a b))) := by
 induction a using TyV.ind with
 | h o s az ns p ps ih =>
 intro b
 obtain ⟨o', s', az', ns', p', ps'⟩ := b
 have h1 := slices_Equal_string_string_ev Z ns ns'
 have h2 := pred_eqB Z p p'
 have h3 := slices_EqualFunc_api_Pred_api_Pred_api_Pred_api_Pred_ev Z pred_Same ps ps' (fun x _ y => pred_eqB Z x y)
 have h4 := slices_EqualFunc_api_Type_api_Type_api_Type_api_Type_ev Z syntax_sameType az az' ih
 rw [eqB_ty]
 generalize eqB ns ns' = e1 at *
 generalize eqB p p' = e2 at *
 generalize eqB ps ps' = e3 at *
 generalize eqB az az' = e4 at *
 obtain ⟨a0, b0, c0, d0, hp⟩ := cells4 (Pred.cells_length p)
 obtain ⟨a1, b1, c1, d1, hp'⟩ := cells4 (Pred.cells_length p')
 simp only [hp, hp'] at h2
 refine Z.syntax_sameType _ _ ⟨Nat.le_of_ble_eq_true rfl, ?_⟩
 simp only [fn_syntax_sameType, go_sem, TyV.cells_mk, hp, hp', List.cons_append, List.nil_append]
 refine call_g h1 ?_
 simp only [go_sem]
 refine call_g h2 ?_
 simp only [go_sem]
 refine call_g h3 ?_
 simp only [go_sem]
 refine call_g h4 ?_
 simp only [go_sem]
theorem syntax_Same_1_ev (x y : ParV) : E.C syntax_Same_1 [.agg x.cells, .agg y.cells] (.one (.bool (eqB x y))) := by
 obtain ⟨xn, xt⟩ := x
 obtain ⟨yn, yt⟩ := y
 have h1 := syntax_sameType_ev Z xt yt
 rw [eqB_par]
 generalize eqB xt yt = e1 at *
 obtain ⟨a0, b0, c0, d0, e0, f0, g0, i0, j0, hx⟩ := cells9 (TyV.cells_length xt)
 obtain ⟨a1, b1, c1, d1, e1', f1, g1, i1, j1, hy⟩ := cells9 (TyV.cells_length yt)
 simp only [hx, hy] at h1
 refine Z.syntax_Same_1 _ _ ⟨Nat.le_of_ble_eq_true rfl, ?_⟩
 simp only [fn_syntax_Same_1, go_sem, ParV.cells, hx, hy]
 refine call_g h1 ?_
 simp only [go_sem]
theorem syntax_Same_2_ev (x y : AltV) (h : E.C syntax_Same [.agg x.body.cells, .agg y.body.cells] (.one (.bool (eqB x.body y.body)))) : E.C syntax_Same_2 [.agg x.cells, .agg y.cells] (.one (.bool (eqB x y))) := by
 obtain ⟨xn, xs, xt⟩ := x
 obtain ⟨yn, ys, yt⟩ := y
 have h1 := slices_Equal_string_string_ev Z xs ys
 rw [eqB_alt]
 simp only [AltV.con, AltV.names, AltV.body] at *
 generalize eqB xs ys = e1 at *
 generalize eqB xt yt = e2 at *
 obtain ⟨a0, b0, c0, d0, e0, f0, g0, hx⟩ := cells7 (ExV.cells_length xt)
 obtain ⟨a1, b1, c1, d1, e1', f1, g1, hy⟩ := cells7 (ExV.cells_length yt)
 simp only [hx, hy] at h
 refine Z.syntax_Same_2 _ _ ⟨Nat.le_of_ble_eq_true rfl, ?_⟩
 simp only [fn_syntax_Same_2, go_sem, AltV.cells_mk, hx, hy]
 refine call_g h1 ?_
 simp only [go_sem]
 refine call_g h ?_
 simp only [go_sem]
theorem syntax_Same_ev (a : ExV) : ∀ b, E.C syntax_Same [.agg a.cells, .agg b.cells] (.one (.bool (eqB a b))) := by
 induction a using ExV.ind with
 | h o s n ks ps az ts ihk iha =>
 intro b
 obtain ⟨o', s', n', ks', ps', az', ts'⟩ := b
 have h1 := slices_EqualFunc_api_Expr_api_Expr_api_Expr_api_Expr_ev Z syntax_Same ks ks' ihk
 have h2 := slices_EqualFunc_api_Type_api_Type_api_Type_api_Type_ev Z syntax_sameType ts ts' (fun x _ y => syntax_sameType_ev Z x y)
 have h3 := slices_EqualFunc_api_Param_api_Param_api_Param_api_Param_ev Z syntax_Same_1 ps ps' (fun x _ y => syntax_Same_1_ev Z x y)
 have h4 := slices_EqualFunc_api_Alt_api_Alt_api_Alt_api_Alt_ev Z syntax_Same_2 az az' (fun x hx y => syntax_Same_2_ev Z x y (iha x hx y.body))
 rw [eqB_ex]
 generalize eqB ks ks' = e1 at *
 generalize eqB ts ts' = e2 at *
 generalize eqB ps ps' = e3 at *
 generalize eqB az az' = e4 at *
 refine Z.syntax_Same _ _ ⟨Nat.le_of_ble_eq_true rfl, ?_⟩
 simp only [fn_syntax_Same, go_sem, ExV.cells_mk]
 refine call_g h1 ?_
 simp only [go_sem]
 refine call_g h2 ?_
 simp only [go_sem]
 refine call_g h3 ?_
 simp only [go_sem]
 refine call_g h4 ?_
 simp only [go_sem]
theorem value_Same_1_ev (x y : BndV) (h : E.C value_Same [.agg x.v.cells, .agg y.v.cells] (.one (.bool (eqB x.v y.v)))) : E.C value_Same_1 [.agg x.cells, .agg y.cells] (.one (.bool (eqB x y))) := by
 obtain ⟨xn, xt⟩ := x
 obtain ⟨yn, yt⟩ := y
 rw [eqB_bnd]
 simp only [BndV.name, BndV.v] at *
 generalize eqB xt yt = e1 at *
 obtain ⟨a0, b0, c0, d0, e0, f0, g0, hx⟩ := cells7 (Va.cells_length xt)
 obtain ⟨a1, b1, c1, d1, e1', f1, g1, hy⟩ := cells7 (Va.cells_length yt)
 simp only [hx, hy] at h
 refine Z.value_Same_1 _ _ ⟨Nat.le_of_ble_eq_true rfl, ?_⟩
 simp only [fn_value_Same_1, go_sem, BndV.cells_mk, hx, hy]
 refine call_g h ?_
 simp only [go_sem]
theorem value_Same_ev (a : Va) : ∀ b, E.C value_Same [.agg a.cells, .agg b.cells] (.one (.bool (eqB a b))) := by
 induction a using Va.ind with
 | h o n s ks ps bd bs ihk ihb =>
 intro b
 obtain ⟨o', n', s', ks', ps', bd', bs'⟩ := b
 have h1 := slices_EqualFunc_api_Value_api_Value_api_Value_api_Value_ev Z value_Same ks ks' ihk
 have h2 := slices_Equal_string_string_ev Z ps ps'
 have h3 := slices_EqualFunc_api_Expr_api_Expr_api_Expr_api_Expr_ev Z syntax_Same bd bd' (fun x _ y => syntax_Same_ev Z x y)
 have h4 := slices_EqualFunc_api_Bind_api_Bind_api_Bind_api_Bind_ev Z value_Same_1 bs bs' (fun x hx y => value_Same_1_ev Z x y (ihb x hx y.v))
 generalize hR : eqB (Va.mk o n s ks ps bd bs) (Va.mk o' n' s' ks' ps' bd' bs') = R
 rw [eqB_va] at hR
 have hl := @len_neB ExV bd bd'
 generalize eqB ks ks' = e1 at *
 generalize eqB ps ps' = e2 at *
 generalize eqB bd bd' = e3 at *
 generalize eqB bs bs' = e4 at *
 refine Z.value_Same _ _ ⟨Nat.le_of_ble_eq_true rfl, ?_⟩
 simp only [fn_value_Same, go_sem, Va.cells_mk, List.length_map]
 intro _ _
 by_cases hc : (o != o' || n != n' || !s == s' || ((bd.length : Int) != (bd'.length : Int))) = true
 ·have : R = false := by
    rw [← hR, Bool.eq_false_iff]
    intro ht
    simp only [Bool.and_eq_true, beq_iff_eq] at ht
    obtain ⟨⟨⟨⟨⟨⟨r1, r2⟩, r3⟩, r4⟩, r5⟩, r6⟩, r7⟩ := ht
    subst r1 r2 r3
    simp only [bne_self_eq_false, beq_self_eq_true, Bool.not_true, Bool.or_self, Bool.false_or] at hc
    rw [hl hc] at r6; cases r6
  subst this
  simp only [hc, go_sem]
 ·have hc : (o != o' || n != n' || !s == s' || ((bd.length : Int) != (bd'.length : Int))) = false := by simpa only [Bool.not_eq_true] using hc
  have hc' := hc
  simp only [Bool.or_eq_false_iff] at hc'
  obtain ⟨⟨⟨r1, r2⟩, r3⟩, r4⟩ := hc'
  have r1 := bne_int_eq r1
  have r2 := bne_int_eq r2
  have r3 : s = s' := by simpa using r3
  simp only [hc, go_sem]
  subst r1 r2 r3
  simp only [beq_self_eq_true, Bool.true_and] at hR
  refine call_by h1 ?_
  simp only [go_sem]
  refine call_g h2 ?_
  simp only [go_sem]
  refine call_g h3 ?_
  simp only [go_sem]
  refine call_g h4 ?_
  simp only [go_sem, hR]
theorem r20_SameType_ev (a : TyV) : ∀ b, E.C r20_SameType [.agg a.cells, .agg b.cells] (.one (.bool (eqB a b))) := by
 induction a using TyV.ind with
 | h o s az ns p ps ih =>
 intro b
 obtain ⟨o', s', az', ns', p', ps'⟩ := b
 have h1 := r20_SameNames_ev Z ns ns'
 have h2 := r07_eqB Z p p'
 have h4 := r20_SameTypes_ev Z az az' ih
 have hel := fun x y => r07_eqB Z x y
 generalize hR : eqB (TyV.mk o s az ns p ps) (TyV.mk o' s' az' ns' p' ps') = R
 rw [eqB_ty] at hR
 have hl := @len_neB Pred ps ps'
 generalize eqB ns ns' = e1 at *
 generalize eqB p p' = e2 at *
 generalize eqB az az' = e4 at *
 obtain ⟨a2, b2, c2, d2, hp⟩ := cells4 (Pred.cells_length p)
 obtain ⟨a3, b3, c3, d3, hp'⟩ := cells4 (Pred.cells_length p')
 simp only [hp, hp'] at h2
 refine Z.r20_SameType _ _ ⟨Nat.le_of_ble_eq_true rfl, ?_⟩
 simp only [fn_r20_SameType, go_sem, TyV.cells_mk, hp, hp', List.cons_append, List.nil_append, List.length_map]
 refine call_g h1 ?_
 simp only [go_sem]
 refine call_g h2 ?_
 simp only [go_sem, List.length_map]
 intro _ _
 by_cases hc : (o != o' || !s == s' || !e1 || !e2 || ((ps.length : Int) != (ps'.length : Int))) = true
 ·have : R = false := by
    rw [← hR, Bool.eq_false_iff]
    intro ht
    simp only [Bool.and_eq_true, beq_iff_eq] at ht
    obtain ⟨⟨⟨⟨⟨r1, r2⟩, r3⟩, r4⟩, r5⟩, r6⟩ := ht
    subst r1 r2 r3 r4
    simp only [bne_self_eq_false, beq_self_eq_true, Bool.not_true, Bool.or_self, Bool.false_or] at hc
    rw [hl hc] at r5; cases r5
  subst this
  simp only [hc, go_sem]
 ·have hc : (o != o' || !s == s' || !e1 || !e2 || ((ps.length : Int) != (ps'.length : Int))) = false := by simpa only [Bool.not_eq_true] using hc
  have hc' := hc
  simp only [Bool.or_eq_false_iff, Bool.not_eq_false'] at hc'
  obtain ⟨⟨⟨⟨r1, r2⟩, r3⟩, r4⟩, r5⟩ := hc'
  have r1 := bne_int_eq r1
  have r2 : s = s' := by simpa using r2
  have hlen := len_ne r5
  simp only [hc, go_sem]
  subst r1 r2 r3 r4
  simp only [beq_self_eq_true, Bool.true_and] at hR
  refine loop_list ps (fun done => ps'.take done.length = done) (fun done rest => ⟨[(5, .d (.int .i64 done.length)), (2, .ptr 2 0), (3, .ptr 3 0)], [(2, [.d (.int .i64 o), .d (.str s), .d (.lst (az.map TyV.cells)), .d (.lst (ns.map fun k => [.str k])), .d a2, .d b2, .d c2, .d d2, .d (.lst (ps.map Pred.cells))]), (3, [.d (.int .i64 o), .d (.str s), .d (.lst (az'.map TyV.cells)), .d (.lst (ns'.map fun k => [.str k])), .d a3, .d b3, .d c3, .d d3, .d (.lst (ps'.map Pred.cells))])], []⟩) ?_ (by simp) ?_ ?_
  ·exact Ent_plain (by simp only [go_sem, Option.isSome_some])
  ·intro done x r hl hI
   obtain ⟨bd0, y, r', hb, hbl⟩ := at_split (b := ps') (n := done.length) (by rw [← hlen, hl]; simp)
   have hlt := lt_mid hl
   have hlt2 : (done.length : Int) < ps'.length := by rw [← hlen]; exact hlt
   have hga := getD_at (f := Pred.cells) (d := []) hl
   have hgb := getD_atF (f := Pred.cells) hb hbl
   have hxy := hel x y
   have hw : (ps.length : Int) ≤ 9223372036854775807 → IntKind.i64.wrap ((done.length : Int) + 1) = ((done.length + 1 : Nat) : Int) := fun h => wrap_succ (by omega)
   have q1 : eqB x y = false → eqB ps ps' = false := eqB_at hl hb hbl
   have q2 : eqB x y = true → ps'.take (done.length + 1) = done ++ [x] := eqB_step hb hbl hI
   generalize eqB x y = e at *
   obtain ⟨a0, b0, c0, d0, hcx⟩ := cells4 (Pred.cells_length x)
   obtain ⟨a1, b1, c1, d1, hcy⟩ := cells4 (Pred.cells_length y)
   simp only [hcx, hcy] at hga hgb hxy
   simp only [fn_r20_SameType_L1, go_sem, hga, hgb, hlt, hlt2, List.length_map, Pred.lens]
   intro hml
   refine call_by hxy ?_
   cases e with
   | true =>
    simp only [go_sem, hw hml, List.length_append]
    exact ⟨Ent_plain (by simp only [go_sem, Option.isSome_some, List.length_append]), q2 rfl⟩
   | false =>
    rw [q1 rfl] at hR
    try simp only [Bool.and_false, Bool.false_and] at hR
    subst hR
    simp only [go_sem]
  ·intro hI
   rw [eqB_done hlen hI] at hR
   simp only [Bool.true_and] at hR
   subst hR
   simp only [fn_r20_SameType_L1, ↓reduceIte, go_sem, List.length_map]
   intro _
   refine call_by h4 ?_
   simp only [go_sem]
theorem r20_Same_ev (a : ExV) : ∀ b, E.C r20_Same [.agg a.cells, .agg b.cells] (.one (.bool (eqB a b))) := by
 induction a using ExV.ind with
 | h o s n ks ps az ts ihk iha =>
 intro b
 obtain ⟨o', s', n', ks', ps', az', ts'⟩ := b
 have h1 := r20_sameParams_ev Z ps ps' (fun x _ y => r20_SameType_ev Z x.ty y)
 have h2 := r20_SameTypes_ev Z ts ts' (fun x _ y => r20_SameType_ev Z x y)
 generalize hR : eqB (ExV.mk o s n ks ps az ts) (ExV.mk o' s' n' ks' ps' az' ts') = R
 rw [eqB_ex] at hR
 have hl1 := @len_neB ExV ks ks'
 have hl2 := @len_neB AltV az az'
 generalize eqB ps ps' = e1 at *
 generalize eqB ts ts' = e2 at *
 refine Z.r20_Same _ _ ⟨Nat.le_of_ble_eq_true rfl, ?_⟩
 simp only [fn_r20_Same, go_sem, ExV.cells_mk]
 refine call_g h1 ?_
 simp only [go_sem]
 refine call_g h2 ?_
 simp only [go_sem]
 by_cases hc : (o != o' || !s == s' || n != n' || !e1 || !e2) = true
 ·have : R = false := by
    rw [← hR, Bool.eq_false_iff]
    intro ht
    simp only [Bool.and_eq_true, beq_iff_eq] at ht
    obtain ⟨⟨⟨⟨⟨⟨r1, r2⟩, r3⟩, r4⟩, r5⟩, r6⟩, r7⟩ := ht
    subst r1 r2 r3 r5 r6
    simp at hc
  subst this
  simp only [hc, go_sem]
 ·have hc : (o != o' || !s == s' || n != n' || !e1 || !e2) = false := by simpa only [Bool.not_eq_true] using hc
  have hc' := hc
  simp only [Bool.or_eq_false_iff, Bool.not_eq_false'] at hc'
  obtain ⟨⟨⟨⟨r1, r2⟩, r3⟩, r4⟩, r5⟩ := hc'
  have r1 := bne_int_eq r1
  have r2 : s = s' := by simpa using r2
  have r3 := bne_int_eq r3
  simp only [hc, go_sem, List.length_map]
  subst r1 r2 r3 r4 r5
  simp only [beq_self_eq_true, Bool.true_and, Bool.and_true] at hR
  intro _ _ _ _
  by_cases hd : ((ks.length : Int) != (ks'.length : Int) || (az.length : Int) != (az'.length : Int)) = true
  ·have : R = false := by
     rw [← hR]
     rcases Bool.or_eq_true_iff.1 hd with h | h
     ·rw [hl1 h]; rfl
     ·rw [hl2 h, Bool.and_false]
   subst this
   simp only [hd, go_sem]
  have hd : ((ks.length : Int) != (ks'.length : Int) || (az.length : Int) != (az'.length : Int)) = false := by simpa only [Bool.not_eq_true] using hd
  have hd' := hd
  simp only [Bool.or_eq_false_iff] at hd'
  have hlen := len_ne hd'.1
  have hlen2 := len_ne hd'.2
  simp only [hd, go_sem]
  refine loop_list ks (fun done => ks'.take done.length = done) (fun done rest => ⟨[(5, .d (.int .i64 done.length)), (2, .ptr 2 0), (3, .ptr 3 0)], [(2, [.d (.int .i64 o), .d (.str s), .d (.int .i64 n), .d (.lst (ks.map ExV.cells)), .d (.lst (ps.map ParV.cells)), .d (.lst (az.map AltV.cells)), .d (.lst (ts.map TyV.cells))]), (3, [.d (.int .i64 o), .d (.str s), .d (.int .i64 n), .d (.lst (ks'.map ExV.cells)), .d (.lst (ps'.map ParV.cells)), .d (.lst (az'.map AltV.cells)), .d (.lst (ts'.map TyV.cells))])], []⟩) ?_ (by simp) ?_ ?_
  ·exact Ent_plain (by simp only [go_sem, Option.isSome_some])
  ·intro done x r hl hI
   obtain ⟨bd0, y, r', hb, hbl⟩ := at_split (b := ks') (n := done.length) (by rw [← hlen, hl]; simp)
   have hlt := lt_mid hl
   have hlt2 : (done.length : Int) < ks'.length := by rw [← hlen]; exact hlt
   have hga := getD_at (f := ExV.cells) (d := []) hl
   have hgb := getD_atF (f := ExV.cells) hb hbl
   have hxy := ihk x (mem_at' hl) y
   have hw : (ks.length : Int) ≤ 9223372036854775807 → IntKind.i64.wrap ((done.length : Int) + 1) = ((done.length + 1 : Nat) : Int) := fun h => wrap_succ (by omega)
   have q1 : eqB x y = false → eqB ks ks' = false := eqB_at hl hb hbl
   have q2 : eqB x y = true → ks'.take (done.length + 1) = done ++ [x] := eqB_step hb hbl hI
   generalize eqB x y = e at *
   obtain ⟨a0, b0, c0, d0, e0, f0, g0, hcx⟩ := cells7 (ExV.cells_length x)
   obtain ⟨a1, b1, c1, d1, e1, f1, g1, hcy⟩ := cells7 (ExV.cells_length y)
   simp only [hcx, hcy] at hga hgb hxy
   simp only [fn_r20_Same_L2, go_sem, hga, hgb, hlt, hlt2, List.length_map, ExV.lens]
   intro hml
   refine call_by hxy ?_
   cases e with
   | true =>
    simp only [go_sem, hw hml, List.length_append]
    exact ⟨Ent_plain (by simp only [go_sem, Option.isSome_some, List.length_append]), q2 rfl⟩
   | false =>
    rw [q1 rfl] at hR
    try simp only [Bool.and_false, Bool.false_and] at hR
    subst hR
    simp only [go_sem]
  ·intro hI
   rw [eqB_done hlen hI] at hR
   have hlen := hlen2
   simp only [Bool.true_and] at hR
   simp only [fn_r20_Same_L2, ↓reduceIte, go_sem, List.length_map]
   intro _
   refine loop_list az (fun done => az'.take done.length = done) (fun done rest => ⟨[(6, .d (.int .i64 done.length)), (2, .ptr 2 0), (3, .ptr 3 0)], [(2, [.d (.int .i64 o), .d (.str s), .d (.int .i64 n), .d (.lst (ks.map ExV.cells)), .d (.lst (ps.map ParV.cells)), .d (.lst (az.map AltV.cells)), .d (.lst (ts.map TyV.cells))]), (3, [.d (.int .i64 o), .d (.str s), .d (.int .i64 n), .d (.lst (ks'.map ExV.cells)), .d (.lst (ps'.map ParV.cells)), .d (.lst (az'.map AltV.cells)), .d (.lst (ts'.map TyV.cells))])], []⟩) ?_ (by simp) ?_ ?_
   ·exact Ent_plain (by simp only [go_sem, Option.isSome_some])
   ·intro done x r hl hI
    obtain ⟨bd0, y, r', hb, hbl⟩ := at_split (b := az') (n := done.length) (by rw [← hlen, hl]; simp)
    have hlt := lt_mid hl
    have hlt2 : (done.length : Int) < az'.length := by rw [← hlen]; exact hlt
    have hga := getD_at (f := AltV.cells) (d := []) hl
    have hgb := getD_atF (f := AltV.cells) hb hbl
    have hxy := iha x (mem_at' hl) y.body
    have hns := r20_SameNames_ev Z x.names y.names
    have hw : (az.length : Int) ≤ 9223372036854775807 → IntKind.i64.wrap ((done.length : Int) + 1) = ((done.length + 1 : Nat) : Int) := fun h => wrap_succ (by omega)
    have q1 : eqB x y = false → eqB az az' = false := eqB_at hl hb hbl
    have q2 : eqB x y = true → az'.take (done.length + 1) = done ++ [x] := eqB_step hb hbl hI
    rw [eqB_alt] at q1 q2
    obtain ⟨xc, xs, xb⟩ := x
    obtain ⟨yc, ys, yb⟩ := y
    simp only [AltV.con, AltV.names, AltV.body] at hxy hns q1 q2
    simp only [AltV.cells_mk] at hga hgb
    generalize eqB xs ys = e1 at *
    generalize eqB xb yb = e2 at *
    obtain ⟨a0, b0, c0, d0, e0, f0, g0, hcx⟩ := cells7 (ExV.cells_length xb)
    obtain ⟨a1, b1, c1, d1, e1', f1, g1, hcy⟩ := cells7 (ExV.cells_length yb)
    simp only [hcx, hcy] at hga hgb hxy
    simp only [fn_r20_Same_L1, go_sem, hga, hgb, hlt, hlt2, List.length_map, AltV.lens, List.contains_cons, List.contains_nil, Nat.reduceBEq]
    intro hml
    refine call_g hns ?_
    simp only [go_sem]
    refine call_g hxy ?_
    simp only [go_sem]
    generalize (xc == yc) = d at *
    by_cases hd : (d && e1 && e2) = true
    ·simp only [Bool.and_eq_true] at hd
     obtain ⟨⟨rfl, rfl⟩, rfl⟩ := hd
     simp only [go_sem, hw hml, List.length_append]
     exact ⟨Ent_plain (by simp only [go_sem, Option.isSome_some, List.length_append]), q2 rfl⟩
    ·have hd : (d && e1 && e2) = false := by simpa only [Bool.not_eq_true] using hd
     rw [q1 hd] at hR
     subst hR
     have hd' : (!d || !e1 || !e2) = true := by cases d <;> cases e1 <;> cases e2 <;> first | rfl | cases hd
     simp only [hd', go_sem]
   ·intro hI
    rw [eqB_done hlen hI] at hR
    subst hR
    simp only [fn_r20_Same_L1, ↓reduceIte, go_sem, List.length_map, implies_true]
theorem r29_Same_ev (a : Va) : ∀ b, E.C r29_Same [.agg a.cells, .agg b.cells] (.one (.bool (eqB a b))) := by
 induction a using Va.ind with
 | h o n s ks ps bd bs ihk ihb =>
 intro b
 obtain ⟨o', n', s', ks', ps', bd', bs'⟩ := b
 have h1 := r20_SameNames_ev Z ps ps'
 have h2 := r29_sameBinds_ev Z bs bs' ihb
 have h3 := r29_SameBodies_ev Z bd bd' (fun x _ y => r20_Same_ev Z x y)
 generalize hR : eqB (Va.mk o n s ks ps bd bs) (Va.mk o' n' s' ks' ps' bd' bs') = R
 rw [eqB_va] at hR
 have hl1 := @len_neB Va ks ks'
 generalize eqB ps ps' = e1 at *
 generalize eqB bs bs' = e2 at *
 generalize eqB bd bd' = e3 at *
 refine Z.r29_Same _ _ ⟨Nat.le_of_ble_eq_true rfl, ?_⟩
 simp only [fn_r29_Same, go_sem, Va.cells_mk, List.length_map]
 intro _ _
 refine call_g h1 ?_
 simp only [go_sem]
 refine call_g h2 ?_
 simp only [go_sem]
 by_cases hc : (o != o' || n != n' || !s == s' || ((ks.length : Int) != (ks'.length : Int)) || !e1 || !e2) = true
 ·have : R = false := by
    rw [← hR, Bool.eq_false_iff]
    intro ht
    simp only [Bool.and_eq_true, beq_iff_eq] at ht
    obtain ⟨⟨⟨⟨⟨⟨r1, r2⟩, r3⟩, r4⟩, r5⟩, r6⟩, r7⟩ := ht
    subst r1 r2 r3 r5 r7
    simp only [bne_self_eq_false, beq_self_eq_true, Bool.not_true, Bool.or_self, Bool.false_or, Bool.or_false] at hc
    rw [hl1 hc] at r4; cases r4
  subst this
  simp only [hc, go_sem]
 ·have hc : (o != o' || n != n' || !s == s' || ((ks.length : Int) != (ks'.length : Int)) || !e1 || !e2) = false := by simpa only [Bool.not_eq_true] using hc
  have hc' := hc
  simp only [Bool.or_eq_false_iff, Bool.not_eq_false'] at hc'
  obtain ⟨⟨⟨⟨⟨r1, r2⟩, r3⟩, r4⟩, r5⟩, r6⟩ := hc'
  have r1 := bne_int_eq r1
  have r2 := bne_int_eq r2
  have r3 : s = s' := by simpa using r3
  have hlen := len_ne r4
  simp only [hc, go_sem]
  subst r1 r2 r3 r5 r6
  simp only [beq_self_eq_true, Bool.true_and, Bool.and_true] at hR
  refine call_by h3 ?_
  simp only [go_sem]
  cases e3 with
  | false =>
   simp only [Bool.and_false] at hR
   subst hR
   simp only [go_sem]
  | true =>
  simp only [Bool.and_true] at hR
  simp only [go_sem]
  refine loop_list ks (fun done => ks'.take done.length = done) (fun done rest => ⟨[(5, .d (.int .i64 done.length)), (2, .ptr 2 0), (3, .ptr 3 0)], [(2, [.d (.int .i64 o), .d (.int .i64 n), .d (.str s), .d (.lst (ks.map Va.cells)), .d (.lst (ps.map fun k => [.str k])), .d (.lst (bd.map ExV.cells)), .d (.lst (bs.map BndV.cells))]), (3, [.d (.int .i64 o), .d (.int .i64 n), .d (.str s), .d (.lst (ks'.map Va.cells)), .d (.lst (ps'.map fun k => [.str k])), .d (.lst (bd'.map ExV.cells)), .d (.lst (bs'.map BndV.cells))])], []⟩) ?_ (by simp) ?_ ?_
  ·exact Ent_plain (by simp only [go_sem, Option.isSome_some])
  ·intro done x r hl hI
   obtain ⟨bd0, y, r', hb, hbl⟩ := at_split (b := ks') (n := done.length) (by rw [← hlen, hl]; simp)
   have hlt := lt_mid hl
   have hlt2 : (done.length : Int) < ks'.length := by rw [← hlen]; exact hlt
   have hga := getD_at (f := Va.cells) (d := []) hl
   have hgb := getD_atF (f := Va.cells) hb hbl
   have hxy := ihk x (mem_at' hl) y
   have hw : (ks.length : Int) ≤ 9223372036854775807 → IntKind.i64.wrap ((done.length : Int) + 1) = ((done.length + 1 : Nat) : Int) := fun h => wrap_succ (by omega)
   have q1 : eqB x y = false → eqB ks ks' = false := eqB_at hl hb hbl
   have q2 : eqB x y = true → ks'.take (done.length + 1) = done ++ [x] := eqB_step hb hbl hI
   generalize eqB x y = e at *
   obtain ⟨a0, b0, c0, d0, e0, f0, g0, hcx⟩ := cells7 (Va.cells_length x)
   obtain ⟨a1, b1, c1, d1, e1, f1, g1, hcy⟩ := cells7 (Va.cells_length y)
   simp only [hcx, hcy] at hga hgb hxy
   simp only [fn_r29_Same_L1, go_sem, hga, hgb, hlt, hlt2, List.length_map, Va.lens]
   intro hml
   refine call_by hxy ?_
   cases e with
   | true =>
    simp only [go_sem, hw hml, List.length_append]
    exact ⟨Ent_plain (by simp only [go_sem, Option.isSome_some, List.length_append]), q2 rfl⟩
   | false =>
    rw [q1 rfl] at hR
    try simp only [Bool.and_false, Bool.false_and] at hR
    subst hR
    simp only [go_sem]
  ·intro hI
   rw [eqB_done hlen hI] at hR
   subst hR
   simp only [fn_r29_Same_L1, ↓reduceIte, go_sem, List.length_map, implies_true]
end Go.Abs
end
section
namespace Go.Abs
def dataS (s : Str) (l : List DataT) : DataT × Bool := match l.find? (fun d => d.name == s) with
 | some d => (d, true)
 | none => (DataT.zero, false)
def ofData (m : Mod) (s : Str) : List Meas := m.meas.filter fun x => x.data == s
def sBool4 : Str := [66, 111, 111, 108]
def eqn1 (con : Str) (fields : List Pred) (value : Pred) (x : Meas) : Option Pred := (x.cases.find? (fun c => c.con == con)).map fun c => p2 (if x.result == sBool4 then 18 else 10) (papp x.name [value]) (subAll c.names fields c.body)
def eqnsL (l : List Meas) (con : Str) (fields : List Pred) (value : Pred) (i : Int) : List Pred := p2 10 (papp sTag [value]) (pn i) :: l.filterMap (eqn1 con fields value)
def eqnsS (m : Mod) (con : Str) (fields : List Pred) (value : Pred) : Pred :=
 if (conS con m.datas).2.2 then andP (eqnsL (ofData m (conS con m.datas).1.name) con fields value (conS con m.datas).2.1) else andP []
def inv1 (value : Pred) (x : Meas) : Option Pred := if x.inv.same zeroP then none else some (subAll [sV] [papp x.name [value]] x.inv)
def invL (l : List Meas) (value : Pred) (k : Nat) : List Pred := l.filterMap (inv1 value) ++ [p2 13 (pn 0) (papp sTag [value]), p2 13 (papp sTag [value]) (pn (IntKind.i64.wrap ((k : Int) - 1)))]
def invS (m : Mod) (value : Pred) (s : Str) : Pred :=
 if (dataS s m.datas).2 then andP (invL (ofData m (dataS s m.datas).1.name) value (dataS s m.datas).1.cons.length) else andP []
structure MBig (m : Mod) : Prop where
 ok : MOk m
 inv : ∀ x ∈ m.meas, x.inv.cnt < 1048576
 len : m.meas.length ≤ 1048576
theorem tame_papp {s : Str} {a : Pred} (ha : Tame a) : Tame (papp s [a]) := AllN.mk (by show Small 1; unfold Small; omega) fun k hk => by
 rw [List.mem_singleton.1 hk]; exact ha
theorem tame_p2' {o : Int} {a b : Pred} (ha : Tame a) (hb : Tame b) : Tame (p2 o a b) := AllN.mk (by show Small 2; unfold Small; omega) fun k hk => by
 rcases List.mem_cons.1 hk with rfl | hk
 ·exact ha
 ·rw [List.mem_singleton.1 hk]; exact hb
theorem tame_pn' (n : Int) : Tame (pn n) := tame_of_cnt _ (by show 1 ≤ 1048576; omega)
theorem MBig.body {m : Mod} (h : MBig m) {x : Meas} (hx : x ∈ m.meas) {c : Cas} (hc : c ∈ x.cases) : Tame c.body := tame_of_cnt _ (Nat.le_of_lt (h.ok x hx c hc).1)
theorem MBig.tinv {m : Mod} (h : MBig m) {x : Meas} (hx : x ∈ m.meas) : Tame x.inv := tame_of_cnt _ (Nat.le_of_lt (h.inv x hx))
theorem eqns_tame {m : Mod} (hm : MBig m) {con : Str} {fields : List Pred} {value : Pred} (hf : ∀ p ∈ fields, Tame p) (hv : Tame value) {l : List Meas} (hl : ∀ x ∈ l, x ∈ m.meas) (i : Int) : ∀ p ∈ eqnsL l con fields value i, Tame p := by
 intro p hp
 rcases List.mem_cons.1 hp with rfl | hp
 ·exact tame_p2' (tame_papp hv) (tame_pn' i)
 ·obtain ⟨x, hx, e⟩ := List.mem_filterMap.1 hp
  unfold eqn1 at e
  rw [Option.map_eq_some_iff] at e
  obtain ⟨c, hc, rfl⟩ := e
  exact tame_p2' (tame_papp hv) (subAll_tame hf _ (hm.body (hl x hx) (List.mem_of_find?_eq_some hc)))
theorem inv_tame {m : Mod} (hm : MBig m) {value : Pred} (hv : Tame value) {l : List Meas} (hl : ∀ x ∈ l, x ∈ m.meas) (k : Nat) : ∀ p ∈ invL l value k, Tame p := by
 intro p hp
 rcases List.mem_append.1 hp with hp | hp
 ·obtain ⟨x, hx, e⟩ := List.mem_filterMap.1 hp
  unfold inv1 at e
  split at e
  ·cases e
  ·cases e
   exact subAll_tame (fun b hb => by rw [List.mem_singleton.1 hb]; exact tame_papp hv) _ (hm.tinv (hl x hx))
 ·rcases List.mem_cons.1 hp with rfl | hp
  ·exact tame_p2' (tame_pn' 0) (tame_papp hv)
  ·rw [List.mem_singleton.1 hp]; exact tame_p2' (tame_papp hv) (tame_pn' _)
theorem ofData_mem {m : Mod} {s : Str} {x : Meas} (h : x ∈ ofData m s) : x ∈ m.meas := (List.mem_filter.1 h).1
theorem ofData_len (m : Mod) (s : Str) : (ofData m s).length ≤ m.meas.length := List.length_filter_le _ _
theorem fm_snoc {α β : Type} (f : α → Option β) (a : List α) (x : α) : (a ++ [x]).filterMap f = a.filterMap f ++ (f x).toList := by
 rw [List.filterMap_append, List.filterMap_cons, List.filterMap_nil]
 cases f x <;> rfl
theorem filter_snoc {α : Type} (f : α → Bool) (a : List α) (x : α) : (a ++ [x]).filter f = a.filter f ++ (if f x then [x] else []) := by
 rw [List.filter_append]
 congr 1
 cases h : f x <;> simp [h]
theorem eqnsL_snoc (l : List Meas) (x : Meas) (con : Str) (fields : List Pred) (value : Pred) (i : Int) : eqnsL (l ++ [x]) con fields value i = eqnsL l con fields value i ++ (eqn1 con fields value x).toList := by
 unfold eqnsL; rw [fm_snoc, List.cons_append]
theorem eqnsL_len (l : List Meas) (con : Str) (fields : List Pred) (value : Pred) (i : Int) : (eqnsL l con fields value i).length ≤ l.length + 1 := by
 unfold eqnsL
 have := List.length_filterMap_le (eqn1 con fields value) l
 rw [List.length_cons]; omega
theorem cells_map_len (l : List Pred) : (∀ e ∈ l.map Pred.cells, e.length = 4) = True := lens_map (f := Pred.cells) Pred.cells_length l
variable {E : AEnv} (Z : Sys E)
include Z
theorem measure_op_ev (o : Int) (a b : Pred) : E.C measure_op [.one (.int .i64 o), .agg a.cells, .agg b.cells] (.agg (p2 o a b).cells) := by
 refine Z.measure_op _ _ ⟨Nat.le_of_ble_eq_true rfl, ?_⟩
 rw [p2, Pred.cells_eq (.mk o [] 0 [a, b])]
 simp only [fn_measure_op, go_sem, Pred.op, Pred.name, Pred.n, Pred.kids]
theorem r34_two_ev (o : Int) (a b : Pred) : E.C r34_two [.one (.int .i64 o), .agg a.cells, .agg b.cells] (.agg (p2 o a b).cells) := by
 refine Z.r34_two _ _ ⟨Nat.le_of_ble_eq_true rfl, ?_⟩
 rw [p2, Pred.cells_eq (.mk o [] 0 [a, b])]
 simp only [fn_r34_two, go_sem, Pred.op, Pred.name, Pred.n, Pred.kids]
theorem measure_app_ev (s : Str) (a : Pred) : E.C measure_app [.one (.str s), .agg a.cells] (.agg (papp s [a]).cells) := by
 refine Z.measure_app _ _ ⟨Nat.le_of_ble_eq_true rfl, ?_⟩
 rw [papp, Pred.cells_eq (.mk 4 s 0 [a])]
 simp only [fn_measure_app, go_sem, Pred.op, Pred.name, Pred.n, Pred.kids]
theorem r34_apply_ev (s : Str) (a : Pred) : E.C r34_apply [.one (.str s), .agg a.cells] (.agg (papp s [a]).cells) := by
 refine Z.r34_apply _ _ ⟨Nat.le_of_ble_eq_true rfl, ?_⟩
 rw [papp, Pred.cells_eq (.mk 4 s 0 [a])]
 simp only [fn_r34_apply, go_sem, Pred.op, Pred.name, Pred.n, Pred.kids]
theorem measure_number_ev (n : Int) : E.C measure_number [.one (.int .i64 n)] (.agg (pn n).cells) := by
 refine Z.measure_number _ _ ⟨Nat.le_of_ble_eq_true rfl, ?_⟩
 rw [pn, Pred.cells_eq]
 simp only [fn_measure_number, go_sem, Pred.op, Pred.name, Pred.n, Pred.kids, List.map_nil]
theorem r34_number_ev (n : Int) : E.C r34_number [.one (.int .i64 n)] (.agg (pn n).cells) := by
 refine Z.r34_number _ _ ⟨Nat.le_of_ble_eq_true rfl, ?_⟩
 rw [pn, Pred.cells_eq]
 simp only [fn_r34_number, go_sem, Pred.op, Pred.name, Pred.n, Pred.kids, List.map_nil]
theorem syntax_Data_ev (m : Mod) (s : Str) : E.C syntax_Data [.agg m.cells, .one (.str s)] (.tup [.agg (dataS s m.datas).1.cells, .one (.bool (dataS s m.datas).2)]) := by
 refine Z.syntax_Data _ _ ⟨Nat.le_of_ble_eq_true rfl, ?_⟩
 generalize hR : dataS s m.datas = R
 unfold dataS at hR
 simp only [fn_syntax_Data, Mod.cells, go_sem]
 intro hlen
 refine loop_list m.datas (fun done => ∀ y ∈ done, (y.name == s) = false) (fun done rest => ⟨[(11, .d (.int .i64 done.length)), (10, .d (.int .i64 m.datas.length)), (9, .d (.lst (m.datas.map DataT.cells))), (1, .d (.str s)), (4, .ptr 4 0)], [(4, [.d (.str []), .full [], .full [], .full []])], []⟩) ?_ (by simp) ?_ ?_
 ·exact Ent_plain (by simp only [go_sem, Option.isSome_some])
 ·intro done d r hl hI
  have hx := getD_at (f := DataT.cells) (d := []) hl
  have hlt := lt_mid hl
  have hw : IntKind.i64.wrap ((done.length : Int) + 1) = ((done.length + 1 : Nat) : Int) := wrap_succ (by omega)
  rw [hl, find_mid hI] at hR
  simp only [fn_syntax_Data_L1, go_sem, hx, hlt, List.length_map, DataT.cells]
  cases h1 : (d.name == s) with
  | true =>
   simp only [h1, go_sem] at hR ⊢
   simp only [← hR, DataT.cells, and_self]
  | false =>
   simp only [go_sem, hw, List.length_append]
   exact ⟨Ent_plain (by simp only [go_sem, Option.isSome_some]), app_all hI h1⟩
 ·intro hI
  rw [find_all hI] at hR
  simp only at hR
  simp only [fn_syntax_Data_L1, go_sem, ← hR, DataT.cells_zero, List.length_map, and_self]
theorem r20_Data_ev (m : Mod) (s : Str) : E.C r20_Data [.agg m.cells, .one (.str s)] (.tup [.agg (dataS s m.datas).1.cells, .one (.bool (dataS s m.datas).2)]) := by
 refine Z.r20_Data _ _ ⟨Nat.le_of_ble_eq_true rfl, ?_⟩
 generalize hR : dataS s m.datas = R
 unfold dataS at hR
 simp only [fn_r20_Data, Mod.cells, go_sem]
 refine loop_list m.datas (fun done => ∀ y ∈ done, (y.name == s) = false) (fun done rest => ⟨[(6, .d (.int .i64 done.length)), (2, .ptr 2 0), (1, .d (.str s)), (4, .ptr 4 0)], [(2, [.d (.lst (m.datas.map DataT.cells)), .d m.cls, .d m.ins, .d (.lst (m.meas.map Meas.cells)), .d m.quals, .d m.defs]), (4, [.d (.str []), .full [], .full [], .full []])], []⟩) ?_ (by simp) ?_ ?_
 ·exact Ent_plain (by simp only [go_sem, Option.isSome_some])
 ·intro done d r hl hI
  have hx := getD_at (f := DataT.cells) (d := []) hl
  have hlt := lt_mid hl
  rw [hl, find_mid hI] at hR
  simp only [fn_r20_Data_L1, go_sem, hx, hlt, List.length_map, DataT.cells]
  intro hlen
  have hw : IntKind.i64.wrap ((done.length : Int) + 1) = ((done.length + 1 : Nat) : Int) := wrap_succ (by omega)
  cases h1 : (d.name == s) with
  | true =>
   simp only [h1, go_sem] at hR ⊢
   simp only [go_sem, hx, hlt, List.length_map, ← hR, DataT.cells, and_self]
  | false =>
   simp only [go_sem, hw, List.length_append]
   exact ⟨Ent_plain (by simp only [go_sem, Option.isSome_some]), app_all hI h1⟩
 ·intro hI
  rw [find_all hI] at hR
  simp only at hR
  simp only [fn_r20_Data_L1, go_sem, List.length_map]
  intro _
  simp only [go_sem, ← hR, DataT.cells_zero, and_self]
theorem r34_zero_ev (p : Pred) : E.C r34_zero [.agg p.cells] (.one (.bool (p.same zeroP))) := by
 obtain ⟨o, s, n, ks⟩ := p
 refine Z.r34_zero _ _ ⟨Nat.le_of_ble_eq_true rfl, ?_⟩
 rw [same_zero, Pred.cells_eq]
 simp only [fn_r34_zero, go_sem, Pred.op, Pred.name, Pred.n, Pred.kids, List.length_map, implies_true]
theorem r34_Measures_ev (m : Mod) (hm : MBig m) (s : Str) : E.C r34_Measures [.agg m.cells, .one (.str s)] (.one (.lst ((ofData m s).map Meas.cells))) := by
 have hml := hm.len
 refine Z.r34_Measures _ _ ⟨Nat.le_of_ble_eq_true rfl, ?_⟩
 generalize hR : ofData m s = R
 unfold ofData at hR
 simp only [fn_r34_Measures, Mod.cells, go_sem]
 refine loop_list m.meas (fun _ => True) (fun done rest => ⟨[(6, .d (.int .i64 done.length)), (5, .own 5 8 ((done.filter fun x => x.data == s).map Meas.cells)), (2, .ptr 2 0), (1, .d (.str s))], [(2, [.d (.lst (m.datas.map DataT.cells)), .d m.cls, .d m.ins, .d (.lst (m.meas.map Meas.cells)), .d m.quals, .d m.defs])], [(5, true)]⟩) ?_ trivial ?_ ?_
 ·exact Ent_conv 5 5 8 [] [(5, 5)] (by simp only [go_sem]) (by simp) rfl ⟨rfl, by simp only [go_sem, List.contains_nil], by simp only [go_sem, Option.isSome_some, List.filter_nil, List.map_nil], by simp only [go_sem, Option.isSome_some]⟩
 ·intro done x r hl _
  have hlt := lt_mid hl
  have hgk := getD_at (f := Meas.cells) (d := []) hl
  have hdl : done.length ≤ m.meas.length := by rw [hl]; simp
  have hfl : (done.filter fun x => x.data == s).length ≤ done.length := List.length_filter_le _ _
  have hxl := Meas.cells_length x
  obtain ⟨xa, xb, xc, xl, xo, xs, xn, xk⟩ := x
  simp only [Meas.cells_mk] at hgk hxl
  simp only [fn_r34_Measures_L1, go_sem, hgk, hlt, List.length_map, Meas.lens]
  intro _
  have hw : IntKind.i64.wrap ((done.length : Int) + 1) = ((done.length + 1 : Nat) : Int) := wrap_succ (by omega)
  have o1 : ((done.filter fun x => x.data == s).length + 1) * 128 ≤ 2 ^ 46 := by omega
  have o2 : (done.filter fun x => x.data == s).length ≤ 9223372036854775806 := by omega
  rw [filter_snoc]
  cases h1 : (xb == s) with
  | true =>
   simp only [go_sem, hgk, hlt, List.length_map, Meas.lens, o1, o2, hw, List.length_append, List.mem_singleton, forall_eq]
   exact Ent_own [(5, 29)] (by simp only [go_sem, List.contains_nil, Option.isSome_some, List.map_append, List.map_cons, List.map_nil, Meas.cells_mk, if_true])
  | false =>
   simp only [go_sem, hw, List.length_append]
   exact Ent_own [(5, 5)] (by simp only [go_sem, List.contains_nil, Option.isSome_some, List.append_nil, Bool.false_eq_true, if_false])
 ·intro _
  simp only [fn_r34_Measures_L1, ↓reduceIte, go_sem, List.length_map, hR, implies_true]
end Go.Abs
end
section
namespace Go.Abs
theorem find_Cas (xl : List Cas) (s : Str) : findCas xl s = match xl.find? (fun c => c.con == s) with
 | some c => (c, true)
 | none => (Cas.zero, false) := rfl
variable {E : AEnv} (Z : Sys E)
include Z
theorem measure_Equations_ev (m : Mod) (hm : MBig m) (con : Str) (fields : List Pred) (value : Pred) (hf : ∀ p ∈ fields, Tame p) (hv : Tame value) : E.C measure_Equations [.agg m.cells, .one (.str con), .one (.lst (fields.map Pred.cells)), .agg value.cells] (.agg (eqnsS m con fields value).cells) := by
 have hml := hm.len
 have hcon := syntax_Con_ev Z m con
 have h0 := pred_And_ev Z [] (by simp)
 have htag := measure_app_ev Z sTag value
 have happ := fun s => measure_app_ev Z s value
 have hnum := fun n => measure_number_ev Z n
 have hop := fun o a b => measure_op_ev Z o a b
 have hcase := fun x => measure_caseOf_ev Z x con
 have hsub : ∀ x ∈ m.meas, ∀ c ∈ x.cases, E.C pred_SubstAll [.agg c.body.cells, .one (.lst (c.names.map fun k => [.str k])), .one (.lst (fields.map Pred.cells))] (.agg (subAll c.names fields c.body).cells) := fun x hx c hc => pred_SubstAll_ev Z c.names fields hf c.body (hm.body hx hc)
 refine Z.measure_Equations _ _ ⟨Nat.le_of_ble_eq_true rfl, ?_⟩
 generalize hR : eqnsS m con fields value = R
 unfold eqnsS at hR
 have hand : ∀ dn i, E.C pred_And [.one (.lst ((eqnsL (ofData m dn) con fields value i).map Pred.cells))] (.agg (andP (eqnsL (ofData m dn) con fields value i)).cells) := fun dn i => pred_And_ev Z _ (fun p hp _ => eqns_tame hm hf hv (fun x hx => ofData_mem hx) i p hp)
 simp only [fn_measure_Equations, Mod.cells, go_sem]
 have hpl : ∀ p : Pred, p.cells.length = 4 := Pred.cells_length
 obtain ⟨v0, v1, v2, v3, hvc⟩ := cells4 (Pred.cells_length value)
 simp only [hvc] at htag happ ⊢
 simp only [go_sem]
 refine call_by hcon ?_
 generalize conS con m.datas = C at *
 obtain ⟨⟨dn, dv, dp, dc⟩, ix, known⟩ := C
 simp only [go_sem, DataT.cells] at hR ⊢
 cases known with
 | false =>
  simp only [Bool.false_eq_true, if_false] at hR
  simp only [go_sem]
  refine call_by h0 ?_
  simp only [go_sem, hpl, List.length_map, hR]
 | true =>
 simp only [if_true] at hR
 simp only [go_sem]
 refine call_by htag ?_
 simp only [go_sem]
 refine call_by (hnum ix) ?_
 simp only [go_sem]
 refine call_by (hop 10 (papp sTag [value]) (pn ix)) ?_
 simp only [go_sem, hpl]
 intro hml2
 refine loop_list m.meas (fun _ => True) (fun done rest => ⟨[(37, .d (.int .i64 done.length)), (36, .d (.int .i64 m.meas.length)), (35, .d (.lst (m.meas.map Meas.cells))), (12, .own 12 4 ((eqnsL (done.filter fun x => x.data == dn) con fields value ix).map Pred.cells)), (1, .d (.str con)), (2, .d (.lst (fields.map Pred.cells))), (7, .ptr 7 0), (9, .ptr 9 0), (8, .ptr 8 0)], [(7, [.d v0, .d v1, .d v2, .d v3]), (9, [.d (.str dn), .d dv, .d dp, .d (.lst (dc.map ConT.cells))]), (8, [.d (.int .i64 0), .d (.str []), .d (.int .i64 0), .full []])], [(12, true)]⟩) ?_ trivial ?_ ?_
 ·refine Ent_conv 12 12 4 [(p2 10 (papp sTag [value]) (pn ix)).cells] [(12, 12)] (by simp only [go_sem]) (by simp [hpl]) (by simp only [go_sem]) ?_
  simp only [Ent0, go_sem, List.contains_nil, Option.isSome_some, eqnsL, List.filter_nil, List.filterMap_nil, List.map_cons, List.map_nil]
 ·intro done x r hl _
  have hlt := lt_mid hl
  have hgk := getD_at (f := Meas.cells) (d := []) hl
  have hxm : x ∈ m.meas := mem_at' hl
  have hdl : done.length ≤ m.meas.length := by rw [hl]; simp
  have hel := eqnsL_len (done.filter fun x => x.data == dn) con fields value ix
  have hfl : (done.filter fun x => x.data == dn).length ≤ done.length := List.length_filter_le _ _
  have hw : IntKind.i64.wrap ((done.length : Int) + 1) = ((done.length + 1 : Nat) : Int) := wrap_succ (by omega)
  have o1 : ((eqnsL (done.filter fun x => x.data == dn) con fields value ix).length + 1) * 56 ≤ 2 ^ 46 := by omega
  have o2 : (eqnsL (done.filter fun x => x.data == dn) con fields value ix).length ≤ 9223372036854775806 := by omega
  have hcase := hcase x
  have hsub := hsub x hxm
  have hsn : ∀ q, eqn1 con fields value x = q → x.data == dn → eqnsL ((done ++ [x]).filter fun x => x.data == dn) con fields value ix = eqnsL (done.filter fun x => x.data == dn) con fields value ix ++ q.toList := fun q hq hd => by
   rw [filter_snoc, hd, if_pos rfl, eqnsL_snoc, hq]
  have hsn0 : (x.data == dn) = false → eqnsL ((done ++ [x]).filter fun x => x.data == dn) con fields value ix = eqnsL (done.filter fun x => x.data == dn) con fields value ix := fun hd => by
   rw [filter_snoc, hd]; simp
  unfold eqn1 at hsn
  obtain ⟨xa, xb, xc, xl, xinv⟩ := x
  simp only at hcase hsub
  obtain ⟨i0, i1, i2, i3, hic⟩ := cells4 (Pred.cells_length xinv)
  have hxc : Meas.cells ⟨xa, xb, xc, xl, xinv⟩ = [.str xa, .str xb, .str xc, .lst (xl.map Cas.cells), i0, i1, i2, i3] := by show _ :: _ :: _ :: _ :: xinv.cells = _; rw [hic]
  rw [hxc] at hgk hcase
  generalize eqnsL (done.filter fun x => x.data == dn) con fields value ix = A at *
  simp only [fn_measure_Equations_L1, go_sem, hgk, hlt, List.length_map, Meas.lens]
  refine call_by hcase ?_
  rw [find_Cas]
  simp only at hsn hsn0 hsub
  have hne : (xb != dn) = !(xb == dn) := rfl
  cases hfd : xl.find? (fun c => c.con == con) with
  | none =>
   simp only [go_sem, Cas.cells_zero, hne]
   cases hb : (xb == dn) with
   | true =>
    have hs := hsn none (by rw [hfd, Option.map_none]) hb
    simp only [Option.toList_none, List.append_nil] at hs
    simp only [go_sem, hw, List.length_append]
    exact Ent_own [(12, 12)] (by simp only [go_sem, List.contains_nil, Option.isSome_some, hs])
   | false =>
    simp only [go_sem, hw, List.length_append]
    exact Ent_own [(12, 12)] (by simp only [go_sem, List.contains_nil, Option.isSome_some, hsn0 hb])
  | some c =>
   have hsub := hsub c (List.mem_of_find?_eq_some hfd)
   have hsn := hsn _ (by rw [hfd, Option.map_some])
   obtain ⟨ca, cl, cb⟩ := c
   simp only at hsub hsn
   obtain ⟨b0, b1, b2, b3, hbc⟩ := cells4 (Pred.cells_length cb)
   have hcc : Cas.cells ⟨ca, cl, cb⟩ = [.str ca, .lst (cl.map fun k => [.str k]), b0, b1, b2, b3] := by show _ :: _ :: cb.cells = _; rw [hbc]
   rw [hbc] at hsub
   simp only [go_sem, hcc, hne]
   cases hb : (xb == dn) with
   | false =>
    simp only [go_sem, hw, List.length_append]
    exact Ent_own [(12, 12)] (by simp only [go_sem, List.contains_nil, Option.isSome_some, hsn0 hb])
   | true =>
   have hsn := hsn hb
   simp only [go_sem]
   cases hc : (xc == sBool4) with
   | true =>
    have hc' : (xc == [66, 111, 111, 108]) = true := hc
    rw [hc] at hsn
    simp only [if_true, Option.map_some, Option.toList_some] at hsn
    simp only [go_sem, hc']
    refine call_by (happ xa) ?_
    simp only [go_sem]
    refine call_by hsub ?_
    simp only [go_sem]
    refine call_by (hop 18 (papp xa [value]) (subAll cl fields cb)) ?_
    simp only [go_sem, hpl, o1, o2, hw, List.length_append, List.length_map, List.mem_singleton, forall_eq, cells_map_len]
    exact Ent_own [(12, 73)] (by simp only [go_sem, List.contains_nil, Option.isSome_some, hsn, List.map_append, List.map_cons, List.map_nil])
   | false =>
    have hc' : (xc == [66, 111, 111, 108]) = false := hc
    rw [hc] at hsn
    simp only [Bool.false_eq_true, if_false, Option.map_some, Option.toList_some] at hsn
    simp only [go_sem, hc']
    refine call_by (happ xa) ?_
    simp only [go_sem]
    refine call_by hsub ?_
    simp only [go_sem]
    refine call_by (hop 10 (papp xa [value]) (subAll cl fields cb)) ?_
    simp only [go_sem, hpl, o1, o2, hw, List.length_append, List.length_map, List.mem_singleton, forall_eq, cells_map_len]
    exact Ent_own [(12, 73)] (by simp only [go_sem, List.contains_nil, Option.isSome_some, hsn, List.map_append, List.map_cons, List.map_nil])
 ·intro _
  simp only [fn_measure_Equations_L1, ↓reduceIte, go_sem, List.length_map]
  refine call_by (hand dn ix) ?_
  simp only [go_sem, hpl, List.length_map, hR]
theorem r34_Equations_ev (m : Mod) (hm : MBig m) (con : Str) (fields : List Pred) (value : Pred) (hf : ∀ p ∈ fields, Tame p) (hv : Tame value) : E.C r34_Equations [.agg m.cells, .one (.str con), .one (.lst (fields.map Pred.cells)), .agg value.cells] (.agg (eqnsS m con fields value).cells) := by
 have hml := hm.len
 have hcon := r20_Con_ev Z m con
 have h0 := r07_And_ev Z []
 have htag := r34_apply_ev Z sTag value
 have happ := fun s => r34_apply_ev Z s value
 have hnum := fun n => r34_number_ev Z n
 have hop := fun o a b => r34_two_ev Z o a b
 have hcase := fun x => r34_Case_ev Z x con
 have hsub : ∀ x ∈ m.meas, ∀ c ∈ x.cases, E.C r07_SubstAll [.agg c.body.cells, .one (.lst (c.names.map fun k => [.str k])), .one (.lst (fields.map Pred.cells))] (.agg (subAll c.names fields c.body).cells) := fun x hx c hc => r07_SubstAll_ev Z c.names fields c.body (hm.body hx hc)
 refine Z.r34_Equations _ _ ⟨Nat.le_of_ble_eq_true rfl, ?_⟩
 generalize hR : eqnsS m con fields value = R
 unfold eqnsS at hR
 have hand : ∀ dn i, E.C r07_And [.one (.lst ((eqnsL (ofData m dn) con fields value i).map Pred.cells))] (.agg (andP (eqnsL (ofData m dn) con fields value i)).cells) := fun dn i => r07_And_ev Z _
 simp only [fn_r34_Equations, Mod.cells, go_sem]
 have hpl : ∀ p : Pred, p.cells.length = 4 := Pred.cells_length
 obtain ⟨v0, v1, v2, v3, hvc⟩ := cells4 (Pred.cells_length value)
 simp only [hvc] at htag happ ⊢
 simp only [go_sem]
 refine call_by hcon ?_
 generalize conS con m.datas = C at *
 obtain ⟨⟨dn, dv, dp, dc⟩, ix, known⟩ := C
 simp only [go_sem, DataT.cells] at hR ⊢
 cases known with
 | false =>
  simp only [Bool.false_eq_true, if_false] at hR
  simp only [go_sem]
  refine call_by h0 ?_
  simp only [go_sem, hpl, List.length_map, hR]
 | true =>
 simp only [if_true] at hR
 simp only [go_sem]
 refine call_by htag ?_
 simp only [go_sem]
 refine call_by (hnum ix) ?_
 simp only [go_sem]
 refine call_by (hop 10 (papp sTag [value]) (pn ix)) ?_
 simp only [go_sem, hpl]
 refine call_by (r34_Measures_ev Z m hm dn) ?_
 simp only [go_sem]
 have hom : ∀ x ∈ ofData m dn, x ∈ m.meas := fun x hx => ofData_mem hx
 have hol := ofData_len m dn
 have hand := hand dn ix
 generalize ofData m dn = ms at *
 refine loop_list ms (fun _ => True) (fun done rest => ⟨[(14, .d (.int .i64 done.length)), (13, .d (.lst (ms.map Meas.cells))), (12, .own 12 4 ((eqnsL done con fields value ix).map Pred.cells)), (1, .d (.str con)), (2, .d (.lst (fields.map Pred.cells))), (7, .ptr 7 0), (9, .ptr 9 0), (8, .ptr 8 0)], [(7, [.d v0, .d v1, .d v2, .d v3]), (9, [.d (.str dn), .d dv, .d dp, .d (.lst (dc.map ConT.cells))]), (8, [.d (.int .i64 0), .d (.str []), .d (.int .i64 0), .full []])], [(12, true)]⟩) ?_ trivial ?_ ?_
 ·refine Ent_conv 12 12 4 [(p2 10 (papp sTag [value]) (pn ix)).cells] [(12, 12)] (by simp only [go_sem]) (by simp [hpl]) (by simp only [go_sem]) ?_
  simp only [Ent0, go_sem, List.contains_nil, Option.isSome_some, eqnsL, List.filterMap_nil, List.map_cons, List.map_nil]
 ·intro done x r hl _
  have hlt := lt_mid hl
  have hgk := getD_at (f := Meas.cells) (d := []) hl
  have hxm : x ∈ m.meas := hom x (mem_at' hl)
  have hdl : done.length ≤ ms.length := by rw [hl]; simp
  have hel := eqnsL_len done con fields value ix
  have hw : IntKind.i64.wrap ((done.length : Int) + 1) = ((done.length + 1 : Nat) : Int) := wrap_succ (by omega)
  have o1 : ((eqnsL done con fields value ix).length + 1) * 56 ≤ 2 ^ 46 := by omega
  have o2 : (eqnsL done con fields value ix).length ≤ 9223372036854775806 := by omega
  have hcase := hcase x
  have hsub := hsub x hxm
  have hsn : ∀ q, eqn1 con fields value x = q → eqnsL (done ++ [x]) con fields value ix = eqnsL done con fields value ix ++ q.toList := fun q hq => by
   rw [eqnsL_snoc, hq]
  unfold eqn1 at hsn
  obtain ⟨xa, xb, xc, xl, xinv⟩ := x
  simp only at hcase hsub
  obtain ⟨i0, i1, i2, i3, hic⟩ := cells4 (Pred.cells_length xinv)
  have hxc : Meas.cells ⟨xa, xb, xc, xl, xinv⟩ = [.str xa, .str xb, .str xc, .lst (xl.map Cas.cells), i0, i1, i2, i3] := by show _ :: _ :: _ :: _ :: xinv.cells = _; rw [hic]
  rw [hxc] at hgk hcase
  generalize eqnsL done con fields value ix = A at *
  simp only [fn_r34_Equations_L1, go_sem, hgk, hlt, List.length_map, Meas.lens]
  intro _
  refine call_by hcase ?_
  rw [find_Cas]
  simp only at hsn hsub
  cases hfd : xl.find? (fun c => c.con == con) with
  | none =>
   simp only [go_sem, Cas.cells_zero]
   have hs := hsn none (by rw [hfd, Option.map_none])
   simp only [Option.toList_none, List.append_nil] at hs
   simp only [go_sem, hw, List.length_append]
   exact Ent_own [(12, 12)] (by simp only [go_sem, List.contains_nil, Option.isSome_some, hs])
  | some c =>
   have hsub := hsub c (List.mem_of_find?_eq_some hfd)
   have hsn := hsn _ (by rw [hfd, Option.map_some])
   obtain ⟨ca, cl, cb⟩ := c
   simp only at hsub hsn
   obtain ⟨b0, b1, b2, b3, hbc⟩ := cells4 (Pred.cells_length cb)
   have hcc : Cas.cells ⟨ca, cl, cb⟩ = [.str ca, .lst (cl.map fun k => [.str k]), b0, b1, b2, b3] := by show _ :: _ :: cb.cells = _; rw [hbc]
   rw [hbc] at hsub
   simp only [go_sem, hcc, hgk, hlt, List.length_map, Meas.lens]
   cases hc : (xc == sBool4) with
   | true =>
    have hc' : (xc == [66, 111, 111, 108]) = true := hc
    rw [hc] at hsn
    simp only [if_true, Option.map_some, Option.toList_some] at hsn
    simp only [go_sem, hc', hgk, hlt, List.length_map, Meas.lens]
    refine call_by (happ xa) ?_
    simp only [go_sem]
    refine call_by hsub ?_
    simp only [go_sem]
    refine call_by (hop 18 (papp xa [value]) (subAll cl fields cb)) ?_
    simp only [go_sem, hpl, o1, o2, hw, List.length_append, List.length_map, List.mem_singleton, forall_eq, cells_map_len]
    exact Ent_own [(12, 78)] (by simp only [go_sem, List.contains_nil, Option.isSome_some, hsn, List.map_append, List.map_cons, List.map_nil])
   | false =>
    have hc' : (xc == [66, 111, 111, 108]) = false := hc
    rw [hc] at hsn
    simp only [Bool.false_eq_true, if_false, Option.map_some, Option.toList_some] at hsn
    simp only [go_sem, hc', hgk, hlt, List.length_map, Meas.lens]
    refine call_by (happ xa) ?_
    simp only [go_sem]
    refine call_by hsub ?_
    simp only [go_sem]
    refine call_by (hop 10 (papp xa [value]) (subAll cl fields cb)) ?_
    simp only [go_sem, hpl, o1, o2, hw, List.length_append, List.length_map, List.mem_singleton, forall_eq, cells_map_len]
    exact Ent_own [(12, 78)] (by simp only [go_sem, List.contains_nil, Option.isSome_some, hsn, List.map_append, List.map_cons, List.map_nil])
 ·intro _
  simp only [fn_r34_Equations_L1, ↓reduceIte, go_sem, List.length_map]
  intro _
  refine call_by hand ?_
  simp only [go_sem, hpl, List.length_map, hR]
end Go.Abs
end
section
namespace Go.Abs
noncomputable def memV (l : List Va) (v : Va) : Bool := l.any fun x => eqB x v
noncomputable def addV (v : Va) (l : List Va) : List Va := if v.op == 3 && !memV l v then l ++ [v] else l
mutual
noncomputable def Va.parts : Va → List Va → List Va
 | .mk o n s ks ps bd bs, l => Va.partss ks (addV (.mk o n s ks ps bd bs) l)
noncomputable def Va.partss : List Va → List Va → List Va
 | [], l => l
 | k :: ks, l => Va.partss ks (Va.parts k l)
end
theorem Va.partss_eq : ∀ (ks l : List Va), Va.partss ks l = ks.foldl (fun l k => Va.parts k l) l
 | [], _ => by rw [Va.partss]; rfl
 | k :: ks, l => by rw [Va.partss, Va.partss_eq ks]; rfl
theorem Va.parts_mk (o n : Int) (s : Str) (ks : List Va) (ps : List Str) (bd : List ExV) (bs : List BndV) (l : List Va) : Va.parts (.mk o n s ks ps bd bs) l = ks.foldl (fun l k => Va.parts k l) (addV (.mk o n s ks ps bd bs) l) := by rw [Va.parts, Va.partss_eq]
mutual
def Va.cnt : Va → Nat
 | .mk _ _ _ ks _ _ _ => Va.cnts ks + 1
def Va.cnts : List Va → Nat
 | [] => 0
 | k :: ks => Va.cnt k + Va.cnts ks
end
theorem Va.cnt_mk (o n : Int) (s : Str) (ks : List Va) (ps : List Str) (bd : List ExV) (bs : List BndV) : Va.cnt (.mk o n s ks ps bd bs) = Va.cnts ks + 1 := by rw [Va.cnt]
theorem Va.cnts_app : ∀ (a b : List Va), Va.cnts (a ++ b) = Va.cnts a + Va.cnts b
 | [], b => by simp [Va.cnts]
 | k :: a, b => by rw [List.cons_append, Va.cnts, Va.cnts_app a b, Va.cnts]; omega
theorem addV_len (v : Va) (l : List Va) : (addV v l).length ≤ l.length + 1 := by
 unfold addV
 split
 ·simp
 ·omega
theorem parts_fold_len : ∀ (ks l : List Va), (∀ k ∈ ks, ∀ l, (Va.parts k l).length ≤ l.length + k.cnt) → (ks.foldl (fun l k => Va.parts k l) l).length ≤ l.length + Va.cnts ks
 | [], l, _ => by simp [Va.cnts]
 | k :: ks, l, h => by
  have h1 := h k (by simp) l
  have h2 := parts_fold_len ks (Va.parts k l) fun k hk => h k (by simp [hk])
  rw [List.foldl_cons, Va.cnts]
  omega
theorem parts_len (v : Va) : ∀ l, (Va.parts v l).length ≤ l.length + v.cnt := by
 induction v using Va.ind with
 | h o n s ks ps bd bs ih _ =>
 intro l
 rw [Va.parts_mk, Va.cnt_mk]
 have h1 := parts_fold_len ks (addV (.mk o n s ks ps bd bs) l) ih
 have h2 := addV_len (.mk o n s ks ps bd bs) l
 omega
theorem ixI_any {α : Type} (f : α → Bool) (l : List α) : decide (ixI f l ≥ 0) = l.any f := by
 rcases ixI_cases f l with ⟨a, x, r, rfl, ha, hx, h1, _⟩ | ⟨ha, h1, _⟩
 ·rw [h1]
  have : (a ++ x :: r).any f = true := List.any_eq_true.2 ⟨x, by simp, hx⟩
  rw [this]
  simp
 ·rw [h1]
  have : l.any f = false := by rw [List.any_eq_false]; intro y hy; rw [ha y hy]; exact Bool.false_ne_true
  rw [this]
  rfl
variable {E : AEnv} (Z : Sys E)
include Z
theorem ixVa_ev (l : List Va) (v : Va) : E.C slices_IndexFunc_api_Value_api_Value [.one (.lst (l.map Va.cells)), .one (.clo measure_parts_1 [.ref v.cells])] (.one (.int .i64 (ixI (fun x => eqB x v) l))) := by
 have hf : ∀ x : Va, E.C measure_parts_1 [.agg x.cells, .one (.ref v.cells)] (.one (.bool (eqB x v))) := fun x => by
  have h := value_Same_ev Z x v
  refine Z.measure_parts_1 _ _ ⟨Nat.le_of_ble_eq_true rfl, ?_⟩
  generalize eqB x v = e at *
  obtain ⟨a0, b0, c0, d0, e0, f0, g0, hcx⟩ := cells7 (Va.cells_length x)
  obtain ⟨a1, b1, c1, d1, e1, f1, g1, hcy⟩ := cells7 (Va.cells_length v)
  simp only [hcx, hcy] at h
  simp only [fn_measure_parts_1, hcx, hcy, go_sem]
  refine call_by h ?_
  simp only [go_sem]
 refine Z.slices_IndexFunc_api_Value_api_Value _ _ ⟨Nat.le_of_ble_eq_true rfl, ?_⟩
 generalize hR : ixI (fun x => eqB x v) l = R
 generalize v.cells = vc at *
 simp only [fn_slices_IndexFunc_api_Value_api_Value, go_sem, List.length_map]
 intro hlen
 refine loop_list l (fun done => ∀ y ∈ done, eqB y v = false) (fun done rest => ⟨[(8, .d (.int .i64 done.length)), (7, .d (.int .i64 l.length)), (0, .d (.lst (l.map Va.cells))), (1, .d (.clo measure_parts_1 [.ref vc]))], [], []⟩) ?_ (by simp) ?_ ?_
 ·exact Ent_plain (by simp only [go_sem])
 ·intro done x r hl hI
  have hx := getD_at (f := Va.cells) (d := []) hl
  have hlt := lt_mid hl
  have hw : IntKind.i64.wrap ((done.length : Int) + 1) = ((done.length + 1 : Nat) : Int) := wrap_succ (by omega)
  unfold ixI at hR
  rw [hl, ixF_mid hI] at hR
  have hfx := hf x
  have hap : eqB x v = false → ∀ y ∈ done ++ [x], eqB y v = false := fun h => app_all hI h
  generalize eqB x v = e at *
  obtain ⟨a0, b0, c0, d0, e0, f0, g0, hcx⟩ := cells7 (Va.cells_length x)
  simp only [hcx] at hx hfx
  simp only [fn_slices_IndexFunc_api_Value_api_Value_L1, go_sem, hx, hlt, List.length_map, Va.lens]
  refine call_by hfx ?_
  cases e with
  | true =>
   simp only [go_sem] at hR ⊢
   exact hR
  | false =>
   simp only [go_sem, hw, List.length_append]
   exact ⟨Ent_plain (by simp only [go_sem, List.length_append]), hap rfl⟩
 ·intro hI
  unfold ixI at hR
  rw [ixF_none hI] at hR
  simp only [fn_slices_IndexFunc_api_Value_api_Value_L1, go_sem, List.length_map, ← hR]
theorem hasVa_ev (l : List Va) (v : Va) : E.C slices_ContainsFunc_api_Value_api_Value [.one (.lst (l.map Va.cells)), .one (.clo measure_parts_1 [.ref v.cells])] (.one (.bool (memV l v))) := by
 have h := ixVa_ev Z l v
 refine Z.slices_ContainsFunc_api_Value_api_Value _ _ ⟨Nat.le_of_ble_eq_true rfl, ?_⟩
 unfold memV
 rw [← ixI_any]
 simp only [fn_slices_ContainsFunc_api_Value_api_Value, go_sem]
 refine call_by h ?_
 simp only [go_sem, ge_iff_le]
theorem measure_parts_ev (v : Va) : ∀ l : List Va, l.length + v.cnt ≤ 1073741824 → E.C measure_parts [.agg v.cells, .one (.lst (l.map Va.cells))] (.own (some 1) 7 ((v.parts l).map Va.cells)) := by
 induction v using Va.ind with
 | h o n s ks ps bd bs ih _ =>
 intro l hn
 have hhas := hasVa_ev Z l (.mk o n s ks ps bd bs)
 refine Z.measure_parts _ _ ⟨Nat.le_of_ble_eq_true rfl, ?_⟩
 generalize hR : Va.parts (.mk o n s ks ps bd bs) l = R
 rw [Va.parts_mk] at hR
 have hadd : addV (.mk o n s ks ps bd bs) l = if o == 3 && !memV l (.mk o n s ks ps bd bs) then l ++ [.mk o n s ks ps bd bs] else l := rfl
 rw [Va.cnt_mk] at hn
 have hcx := Va.cells_mk o n s ks ps bd bs
 generalize hvv : Va.mk o n s ks ps bd bs = v at *
 generalize D.lst (ps.map fun k => [D.str k]) = c4 at *
 generalize D.lst (bd.map ExV.cells) = c5 at *
 generalize D.lst (bs.map BndV.cells) = c6 at *
 have hal := addV_len v l
 generalize addV v l = L0 at *
 have hrs : fn_measure_parts.rs = [.t 4] := rfl
 simp only [fn_measure_parts]
 refine seq2_named fun N hN => ?_
 have tail : ∀ (st : St) (t : Nat), getS st.slots 1 = .own t 7 (L0.map Va.cells) → getT st.tk t = some true → getS st.slots 2 = .ptr 2 0 → st.mem = [(2, [.d (.int .i64 o), .d (.int .i64 n), .d (.str s), .d (.lst (ks.map Va.cells)), .d c4, .d c5, .d c6])] → N st := by
  intro st t h1 ht h2 hm
  obtain ⟨sl, mm, tk⟩ := st
  simp only at h1 ht h2 hm
  subst hm
  rw [hN]
  simp only [go_sem, h2]
  intro hlen
  refine loop_list ks (fun _ => True) (fun done rest => ⟨[(23, .d (.int .i64 done.length)), (22, .d (.int .i64 ks.length)), (21, .d (.lst (ks.map Va.cells))), (1, .own 1 7 ((done.foldl (fun l k => Va.parts k l) L0).map Va.cells))], [], [(1, true)]⟩) ?_ trivial ?_ ?_
  ·exact Ent_own [(1, t)] (by simp only [go_sem, List.contains_nil, Option.isSome_some, List.foldl_nil, h1, ht])
  ·intro done k r hl _
   have hlt := lt_mid hl
   have hgk := getD_at (f := Va.cells) (d := []) hl
   have hk' := ih k (mem_at' hl) (done.foldl (fun l k => Va.parts k l) L0) (by
    have h1 := parts_fold_len done L0 fun k _ l => parts_len k l
    have h2 : Va.cnts ks = Va.cnts done + (k.cnt + Va.cnts r) := by rw [hl, Va.cnts_app, Va.cnts]
    omega)
   have hfo : (done ++ [k]).foldl (fun l k => Va.parts k l) L0 = Va.parts k (done.foldl (fun l k => Va.parts k l) L0) := by rw [List.foldl_append]; rfl
   have hw : IntKind.i64.wrap ((done.length : Int) + 1) = ((done.length + 1 : Nat) : Int) := wrap_succ (by omega)
   rw [hfo]
   generalize done.foldl (fun l k => Va.parts k l) L0 = A at *
   generalize Va.parts k A = B at *
   obtain ⟨a0, b0, c0, d0, e0, f0, g0, hck⟩ := cells7 (Va.cells_length k)
   simp only [hck] at hgk hk'
   simp only [fn_measure_parts_L1, go_sem, hlt, hgk, List.length_map, Va.lens]
   refine call_by hk' ?_
   simp only [go_sem, hw, List.length_append]
   exact Ent_own [(1, 29)] (by simp only [go_sem, List.contains_nil, Option.isSome_some])
  ·intro _
   simp only [fn_measure_parts_L1, go_sem, List.length_map, hR]
 clear hN
 have hq1 : (l.length + 1) * 128 ≤ 2 ^ 46 := by omega
 have hq2 : l.length ≤ 9223372036854775806 := by omega
 simp only [hcx] at hhas
 simp only [go_sem, hcx]
 refine ⟨_, fun _ => ⟨by simp only [CV.flat, flatD], hhas⟩, ?_⟩
 simp only [go_sem]
 generalize memV l v = e at *
 by_cases hc : (o == 3 && !e) = true
 ·rw [hc, if_pos rfl] at hadd
  simp only [hc, go_sem, List.length_map, hq1, hq2, Va.lens, List.mem_singleton, forall_eq]
  refine tail _ 19 ?_ ?_ ?_ ?_ <;> simp only [go_sem, hadd, List.map_append, List.map_cons, List.map_nil, hcx]
 ·have hc : (o == 3 && !e) = false := by simpa only [Bool.not_eq_true] using hc
  rw [hc, if_neg (by simp)] at hadd
  simp only [hc, go_sem]
  refine tail _ 1 ?_ ?_ ?_ ?_ <;> simp only [go_sem, hadd]
end Go.Abs
end
