/-
  THE DOOR: arguments that a statement reads as data are data of the abstract machine; the functions here are those of the program.
-/
import Derived.OpenShut
import Derived.Deep.DeepHandedRow
import Derived.Lib.LaidTab
import Derived.Carry
import Derived.ChangeCalls
import Derived.Laws.IdiomArrays
import Derived.LaidLaws
import Derived.KernelRfl
import Derived.Test.YtkgcihbedagkfaaGreatDoorProg
import Derived.Shelf.LaysM
import Derived.Shelf.Strconv.Itoa3
import Derived.Lib.AppendIntMem
import Derived.Shelf.Sort.Plain
import Derived.Shelf.Slices.CompactS
import Derived.Shelf.Slices.Cells
import Derived.Shelf.LaysC
import Derived.Shelf.Strconv.AtoiAll
import Derived.Test.YtkgcihbedagkfaaGreatDoorCards
import Derived.Test.YtkgcihbedagkfaaGreatDoorTie
import Derived.WalkKit
import Derived.ProofKit
import Derived.Lay
import Derived.MakeChecks
import Derived.Test.YtkgcihbedagkfaaGreatDoorCon2
set_option linter.unusedSimpArgs false
set_option linter.unusedVariables false
set_option linter.unusedSectionVars false
set_option maxRecDepth 100000
section
namespace Go.Abs
inductive Prf where
 | mk (kind form : Int) (ms : List BigT) (ks : List Prf)
namespace Prf
mutual
def cells : Prf → List D
 | .mk k f ms ks => [.int .i64 k, .int .i64 f, .lst (ms.map BigT.cells), .lst (cellss ks)]
def cellss : List Prf → List (List D)
 | [] => []
 | k :: ks => cells k :: cellss ks
end
theorem zYl (ks : List Prf) : cellss ks = ks.map cells := by
 induction ks with
 | nil => simp [cellss]
 | cons k ks ih => simp [cellss, ih]
theorem zzq (k f : Int) (ms : List BigT) (ks : List Prf) : cells (.mk k f ms ks) = [.int .i64 k, .int .i64 f, .lst (ms.map BigT.cells), .lst (ks.map cells)] := by rw [cells, zYl]
theorem zYk : ∀ p : Prf, (cells p).length = 4
 | .mk _ _ _ _ => by rw [zzq]; rfl
theorem ind {P : Prf → Prop} (h : ∀ k f ms ks, (∀ x ∈ ks, P x) → P (.mk k f ms ks)) : ∀ p, P p :=
 fun p => Prf.rec (motive_1 := P) (motive_2 := fun ks => ∀ k ∈ ks, P k) h (fun k hk => by cases hk) (fun k ks hk hks x hx => by
  rcases List.mem_cons.1 hx with rfl | hx
  ·exact hk
  ·exact hks x hx) p
theorem lens (l : List Prf) : (∀ e ∈ l.map cells, e.length = 4) = True := zyT (f := cells) zYk l
attribute [go_sem] zYk lens
mutual
def size : Prf → Int
 | .mk _ _ _ ks => sizes 1 ks
def sizes (n : Int) : List Prf → Int
 | [] => n
 | k :: ks => sizes (IntKind.i64.wrap (n + size k)) ks
end
mutual
def depth : Prf → Int
 | .mk _ _ _ ks => IntKind.i64.wrap (depths 0 ks + 1)
def depths (n : Int) : List Prf → Int
 | [] => n
 | k :: ks => depths (if depth k > n then depth k else n) ks
end
mutual
def cases' (f : Int) : Prf → Bool
 | .mk k g _ ks => (k == 3 && g == f) || casesL f ks
def casesL (f : Int) : List Prf → Bool
 | [] => false
 | k :: ks => cases' f k || casesL f ks
end
mutual
def evals : Prf → Bool
 | .mk k _ _ ks => !(k != 1 && k != 3) && evalsL ks
def evalsL : List Prf → Bool
 | [] => true
 | k :: ks => evals k && evalsL ks
end
theorem zVp (n : Int) (a b : List Prf) : sizes n (a ++ b) = sizes (sizes n a) b := by
 induction a generalizing n with
 | nil => rw [List.nil_append, sizes]
 | cons x a ih => rw [List.cons_append, sizes, sizes, ih]
theorem zXA (n : Int) (a b : List Prf) : depths n (a ++ b) = depths (depths n a) b := by
 induction a generalizing n with
 | nil => rw [List.nil_append, depths]
 | cons x a ih => rw [List.cons_append, depths, depths, ih]
theorem zqN (f : Int) : ∀ ks : List Prf, casesL f ks = ks.any (cases' f)
 | [] => by rw [casesL]; rfl
 | k :: ks => by rw [casesL, zqN f ks]; rfl
theorem zqS : ∀ ks : List Prf, evalsL ks = ks.all evals
 | [] => by rw [evalsL]; rfl
 | k :: ks => by rw [evalsL, zqS ks]; rfl
end Prf
structure AtT where
 body : Pred
 forms : List Lin
def AtT.cells (a : AtT) : List D := [.int .i64 a.body.op, .str a.body.name, .int .i64 a.body.n, .lst (a.body.kids.map Pred.cells), .lst (a.forms.map Lin.cells)]
def caseBad (f : Int) (ms : List BigT) (ks : List Prf) (σ : List Int) : Bool :=
 decide ((ms.length : Int) > 0) || (ks.length : Int) != 3 || decide (f < 0) || decide (f ≥ (σ.length : Int)) || σ.getD f.toNat 0 != 2
mutual
def rightB (b : Pred) (fs : List Lin) : Prf → List Int → Bool
 | .mk k f ms ks, σ => if k == 1 then f == 0 && (ms.length : Int) == 0 && (ks.length : Int) == 0 && evalS σ b == 0
  else if k == 2 then f == 0 && (ks.length : Int) == 0 && farS (rowsS fs σ) ms
  else if k == 3 then !caseBad f ms ks σ && rightK b fs f.toNat 0 ks σ else false
def rightK (b : Pred) (fs : List Lin) (f : Nat) (i : Int) : List Prf → List Int → Bool
 | [], _ => true
 | p :: r, σ => rightB b fs p (σ.set f (i - 1)) && rightK b fs f (i + 1) r σ
end
mutual
def rightT (b : Pred) (fs : List Lin) : Prf → List Int → Bool × List Int
 | .mk k f ms ks, σ => if k == 1 then (f == 0 && (ms.length : Int) == 0 && (ks.length : Int) == 0 && evalS σ b == 0, σ)
  else if k == 2 then (f == 0 && (ks.length : Int) == 0 && farS (rowsS fs σ) ms, σ)
  else if k == 3 then (if caseBad f ms ks σ then (false, σ) else rightTL b fs f.toNat 0 ks σ) else (false, σ)
def rightTL (b : Pred) (fs : List Lin) (f : Nat) (i : Int) : List Prf → List Int → Bool × List Int
 | [], σ => (true, σ.set f 2)
 | p :: r, σ => if (rightT b fs p (σ.set f (i - 1))).1 then rightTL b fs f (i + 1) r (rightT b fs p (σ.set f (i - 1))).2 else (false, (rightT b fs p (σ.set f (i - 1))).2)
end
theorem yk8 {σ : List Int} {f : Nat} {x : Int} (h : σ.getD f 0 = x) : σ.set f x = σ := by subst h; exact zQl σ f
theorem zWh (b : Pred) (fs : List Lin) (p : Prf) : ∀ σ, (rightT b fs p σ).1 = rightB b fs p σ ∧ (rightB b fs p σ = true → (rightT b fs p σ).2 = σ) ∧ (rightT b fs p σ).2.length = σ.length := by
 induction p using Prf.ind with
 | h k f ms ks ih =>
 intro σ
 rw [rightT, rightB]
 have key : ∀ (f : Nat) (r : List Prf), (∀ x ∈ r, ∀ σ, (rightT b fs x σ).1 = rightB b fs x σ ∧ (rightB b fs x σ = true → (rightT b fs x σ).2 = σ) ∧ (rightT b fs x σ).2.length = σ.length) → ∀ (i : Int) (σ σ0 : List Int), (∀ x, σ.set f x = σ0.set f x) → σ.length = σ0.length → σ0.set f 2 = σ0 →
   (rightTL b fs f i r σ).1 = rightK b fs f i r σ0 ∧ (rightK b fs f i r σ0 = true → (rightTL b fs f i r σ).2 = σ0) ∧ (rightTL b fs f i r σ).2.length = σ0.length := by
  intro f r
  induction r with
  | nil =>
   intro _ i σ σ0 h1 h2 h3
   rw [rightTL, rightK]
   exact ⟨rfl, fun _ => (h1 2).trans h3, by simp [h2]⟩
  | cons x r ihr =>
   intro hx i σ σ0 h1 h2 h3
   obtain ⟨g1, g2, g3⟩ := hx x (by simp) (σ0.set f (i - 1))
   rw [rightTL, rightK, h1, g1]
   cases hb : rightB b fs x (σ0.set f (i - 1)) with
   | false => simp only [Bool.false_eq_true, if_false, Bool.false_and, false_implies, true_and]; rw [g3]; simp
   | true =>
    have e := g2 hb
    rw [e]
    simp only [if_true, Bool.true_and]
    exact ihr (fun y hy => hx y (by simp [hy])) (i + 1) _ σ0 (fun y => by rw [List.set_set]) (by simp) h3
 cases k == 1 with
 | true => simp
 | false =>
 cases k == 2 with
 | true => simp
 | false =>
 cases k == 3 with
 | false => simp
 | true =>
 cases hc : caseBad f ms ks σ with
 | true => simp
 | false =>
  simp only [Bool.false_eq_true, if_false, if_true, Bool.not_false, Bool.true_and]
  have h2 : σ.getD f.toNat 0 = 2 := by
   unfold caseBad at hc
   simp only [Bool.or_eq_false_iff] at hc
   simpa using hc.2
  exact key f.toNat ks ih 0 σ σ (fun _ => rfl) rfl (yk8 h2)
end Go.Abs
end
section
namespace Go.Abs
def Ref : List Int → List Int → Prop
 | [], [] => True
 | a :: s, b :: t => (a = 2 ∨ a = b) ∧ Ref s t
 | _, _ => False
theorem Ref.refl : ∀ s : List Int, Ref s s
 | [] => trivial
 | _ :: s => ⟨.inr rfl, Ref.refl s⟩
theorem Ref.len : ∀ {s t : List Int}, Ref s t → s.length = t.length
 | [], [], _ => rfl
 | _ :: _, _ :: _, h => by rw [lC, lC, Ref.len h.2]
theorem Ref.set : ∀ {s t : List Int} {k : Nat}, Ref s t → Ref (s.set k (t.getD k 0)) t
 | [], [], _, _ => trivial
 | a :: s, b :: t, 0, h => ⟨.inr rfl, h.2⟩
 | a :: s, b :: t, k + 1, h => by
  simp only [List.set_cons_succ, List.getD_cons_succ]
  exact ⟨h.1, Ref.set h.2⟩
theorem Ref.open : ∀ {s : List Int} {k : Nat} {x : Int}, s.getD k 0 = 2 → Ref s (s.set k x)
 | [], _, _, _ => trivial
 | a :: s, 0, x, h => ⟨.inl (by simpa using h), Ref.refl s⟩
 | a :: s, k + 1, x, h => ⟨.inr rfl, Ref.open (s := s) (k := k) (by simpa using h)⟩
def ItoaInj : Prop := ∀ j k : Nat, j ≤ 1000 → k ≤ 1000 → Lib.itoa (j : Int) = Lib.itoa (k : Int) → j = k
theorem zYL {name : Str} : ∀ {i : Nat} {l : List Int} {x : Int}, lookGo name i l = some x → ∃ k, i ≤ k ∧ k < i + l.length ∧ Lib.itoa (k : Int) = name
 | _, [], _, h => by cases h
 | i, s :: r, x, h => by
  rw [lookGo] at h
  split at h
  ·rename_i hc
   rw [Bool.and_eq_true] at hc
   exact ⟨i, Nat.le_refl _, by simp, by simpa using hc.1⟩
  ·obtain ⟨k, h1, h2, h3⟩ := zYL h
   exact ⟨k, by omega, by simp; omega, h3⟩
theorem zX4 (hinj : ItoaInj) {name : Str} : ∀ {i : Nat} {s t : List Int} {x : Int}, Ref s t → i + s.length ≤ 1000 → lookGo name i s = some x → lookGo name i t = some x
 | _, [], [], _, _, _, h => h
 | i, a :: s, b :: t, x, hr, hl, h => by
  simp only [lC] at hl
  rw [lookGo] at h ⊢
  split at h
  ·rename_i hc
   cases h
   have ha : a = b := by
    rcases hr.1 with h2 | h2
    ·subst h2; simp [sgnOk] at hc
    ·exact h2
   subst ha
   rw [if_pos hc]
  ·have h2 := zX4 hinj hr.2 (by omega) h
   rw [if_neg]
   ·exact h2
   ·intro hc
    rw [Bool.and_eq_true] at hc
    have hn : Lib.itoa (i : Int) = name := by simpa using hc.1
    obtain ⟨k, k1, k2, k3⟩ := zYL h
    have := hinj i k (by omega) (by omega) (hn.trans k3.symm)
    omega
def Mo (x y : Int) : Prop := x = -1 ∨ y = x
theorem sgn3 {x : Int} (h : Sgn x) : x = -1 ∨ x = 0 ∨ x = 1 := by unfold Sgn at h; omega
theorem yyH {x y x' y' : Int} (h1 : Mo x x') (h2 : Mo y y') (s1 : Sgn x) (s2 : Sgn y) (t1 : Sgn x') (t2 : Sgn y') : Mo (andS x y) (andS x' y') := by
 unfold Mo at *
 rcases h1 with rfl | rfl <;> rcases h2 with rfl | rfl
 ·rcases sgn3 t1 with rfl | rfl | rfl <;> rcases sgn3 t2 with rfl | rfl | rfl <;> decide
 ·rcases sgn3 t1 with rfl | rfl | rfl <;> rcases sgn3 s2 with rfl | rfl | rfl <;> decide
 ·rcases sgn3 s1 with rfl | rfl | rfl <;> rcases sgn3 t2 with rfl | rfl | rfl <;> decide
 ·exact .inr rfl
theorem zX9 {x x' : Int} (h : Mo x x') : Mo (notS x) (notS x') := by
 unfold Mo at *
 rcases h with rfl | rfl
 ·exact .inl rfl
 ·exact .inr rfl
theorem zKv (hinj : ItoaInj) {s t : List Int} (hr : Ref s t) (hl : s.length ≤ 1000) (p : Pred) : Mo (evalS s p) (evalS t p) := by
 induction p using Pred.ind with
 | h o nm n ks ih =>
 rcases ks with _ | ⟨a, _ | ⟨b, _ | ⟨c, r⟩⟩⟩
 ·rw [evalS, evalS]; exact .inr rfl
 ·rw [evalS, evalS]
  split
  ·exact zX9 (ih a (by simp))
  ·exact .inr rfl
 ·have ha := ih a (by simp)
  have hb := ih b (by simp)
  have sa := zy5 s a
  have sb := zy5 s b
  have ta := zy5 t a
  have tb := zy5 t b
  rw [evalS, evalS]
  split
  ·unfold leafV
   cases h : leafS s [a, b] with
   | none => exact .inl rfl
   | some x =>
    have : leafS t [a, b] = some x := by
     unfold leafS at h ⊢
     simp only at h ⊢
     split at h
     ·rename_i hc
      rw [if_pos hc]
      exact zX4 hinj hr (by omega) h
     ·cases h
    rw [this]; exact .inr rfl
  split
  ·exact yyH ha hb sa sb ta tb
  split
  ·exact zX9 (yyH (zX9 ha) (zX9 hb) (zwq sa) (zwq sb) (zwq ta) (zwq tb))
  split
  ·exact zX9 (yyH ha (zX9 hb) sa (zwq sb) ta (zwq tb))
  split
  ·unfold Mo at *
   rcases ha with ha | ha
   ·left; rw [ha]; rfl
   ·rcases hb with hb | hb
    ·left; rw [hb]; rw [if_pos (by simp)]
    ·right; rw [ha, hb]
  ·exact .inr rfl
 ·rw [evalS, evalS]; exact .inr rfl
def sumC (f : Str → Int) (l : List Coef) : Int := (l.map fun c => c.n * f c.name).foldr (· + ·) 0
theorem zz5 (f : Str → Int) (c : Coef) (l : List Coef) : sumC f (c :: l) = c.n * f c.name + sumC f l := rfl
theorem ywT (f : Str → Int) (a b : List Coef) : sumC f (a ++ b) = sumC f a + sumC f b := by
 induction a with
 | nil => simp [sumC]
 | cons c a ih => rw [List.cons_append, zz5, zz5, ih]; omega
theorem zwl (f : Str → Int) (a : Lin) : linV f a = sumC f a.coefs + a.c := rfl
def rowOk (f : Str → Int) (r : Row) : Prop := if r.eq then linV f r.lin = 0 else linV f r.lin ≤ 0
theorem zjS (f : Str → Int) : ∀ (k : Nat) (a b : List Coef), a.length + b.length ≤ k → (∀ c ∈ a, inRange c.n = true) → (∀ c ∈ b, inRange c.n = true) → sumC f (addGo a b) = sumC f a + sumC f b
 | k, [], b, _, _, _ => by rw [zwD]; simp [sumC]
 | k, x :: a, [], _, _, _ => by rw [zwu]; simp [sumC]
 | 0, x :: a, y :: b, h, _, _ => by simp at h
 | k + 1, x :: a, y :: b, h, h1, h2 => by
  simp only [lC] at h
  rw [zqG]
  have r1 := h1 x (by simp)
  have r2 := h2 y (by simp)
  split
  ·rw [zz5, zjS f k a (y :: b) (by simp; omega) (fun c hc => h1 c (by simp [hc])) h2, zz5, zz5]; omega
  ·rename_i c1
   split
   ·rw [zz5, zjS f k (x :: a) b (by simp; omega) h1 (fun c hc => h2 c (by simp [hc])), zz5, zz5]; omega
   ·rename_i c2
    have hxy : x.name = y.name := by
     rw [Go.Proofs.bytesLess_eq] at c1 c2
     simp only [decide_eq_true_eq] at c1 c2
     by_cases he : x.name = y.name
     ·exact he
     ·exact absurd (zYM c2 he) c1
    rw [ywT, zjS f k a b (by omega) (fun c hc => h1 c (by simp [hc])) (fun c hc => h2 c (by simp [hc])), zz5, zz5]
    have hw : wAdd x.n y.n = x.n + y.n := by
     rw [zzm] at r1 r2
     exact i64_in _ (by omega)
    have : sumC f (addHd x y) = (x.n + y.n) * f x.name := by
     unfold addHd
     rw [hw]
     split
     ·simp [sumC]
     ·rename_i h0
      have : x.n + y.n = 0 := by simpa using h0
      rw [this]; simp [sumC]
    rw [this, ← hxy, Int.add_mul]; omega
theorem zWr (f : Str → Int) {a b : Lin} (h : (addL a b).2 = true) : linE a = 0 ∧ linV f (addL a b).1 = linV f a + linV f b := by
 unfold addL at *
 split at h
 ·cases h
 ·rename_i hc
  rw [if_neg hc]
  simp only [Bool.or_eq_true, not_or, bne_iff_ne, ne_eq, Decidable.not_not] at hc
  obtain ⟨_, a2, a3⟩ := zve hc.1
  obtain ⟨_, b2, b3⟩ := zve hc.2
  refine ⟨hc.1, ?_⟩
  unfold rightL at *
  split at h
  ·cases h
  ·rename_i he
   rw [if_neg he]
   have hw : wAdd a.c b.c = a.c + b.c := by
    rw [zzm] at a3 b3
    exact i64_in _ (by omega)
   rw [zwl, zwl, zwl, hw]
   show sumC f (addGo a.coefs b.coefs) + (a.c + b.c) = _
   rw [zjS f _ a.coefs b.coefs (Nat.le_refl _) (fun c hc => (a2 c hc).2) (fun c hc => (b2 c hc).2)]; omega
theorem yw9 {n : Int} (h : inRange n = true) : mulI n (-1) = (-n, true) := by
 have h1 : inRange (-1) = true := by decide
 have h2 : inRange (-n) = true := by rw [zzm] at h ⊢; omega
 have e : n * (-1) = -n := by omega
 unfold mulI bnd
 rw [h, h1, e, h2]; rfl
theorem yzu (f : Str → Int) {a : Lin} (h : (scaleL a (-1)).2 = true) : linE a = 0 ∧ linV f (scaleL a (-1)).1 = -linV f a := by
 unfold scaleL at *
 split at h
 ·cases h
 ·rename_i hc
  have hc : linE a = 0 := by simpa using hc
  obtain ⟨_, a2, a3⟩ := zve hc
  refine ⟨hc, ?_⟩
  rw [if_neg (by simp [hc])]
  rw [if_neg (by decide)] at h ⊢
  split at h
  ·rename_i h2
   rw [if_pos h2]
   rw [zwl, zwl, yw9 a3]
   have : ∀ l : List Coef, (∀ c ∈ l, inRange c.n = true) → sumC f (l.map (mulC (-1))) = -sumC f l := by
    intro l
    induction l with
    | nil => intro _; simp [sumC]
    | cons c l ih =>
     intro hl
     rw [mC, zz5, zz5, ih fun d hd => hl d (by simp [hd])]
     unfold mulC
     rw [yw9 (hl c (by simp))]
     simp only
     rw [Int.neg_mul]; omega
   simp only
   rw [this _ fun c hc => (a2 c hc).2]; omega
  ·cases h
theorem ywa (a b : Int) : gcdI a b ∣ a ∧ gcdI a b ∣ b := by
 unfold gcdI
 exact ⟨Int.ofNat_dvd_left.2 (Nat.gcd_dvd_left _ _), Int.ofNat_dvd_left.2 (Nat.gcd_dvd_right _ _)⟩
theorem zJX : ∀ (l : List Coef) (g : Int), gcdL g l ∣ g ∧ ∀ c ∈ l, gcdL g l ∣ c.n
 | [], g => ⟨Int.dvd_refl _, by simp⟩
 | c :: l, g => by
  obtain ⟨h1, h2⟩ := zJX l (gcdI g c.n)
  obtain ⟨h3, h4⟩ := ywa g c.n
  have e : gcdL g (c :: l) = gcdL (gcdI g c.n) l := rfl
  rw [e]
  refine ⟨Int.dvd_trans h1 h3, fun d hd => ?_⟩
  rcases List.mem_cons.1 hd with rfl | hd
  ·exact Int.dvd_trans h1 h4
  ·exact h2 d hd
theorem yyY (f : Str → Int) {g : Int} : ∀ l : List Coef, (∀ c ∈ l, g ∣ c.n) → sumC f l = g * sumC f (l.map (quoC g))
 | [], _ => by simp [sumC]
 | c :: l, h => by
  rw [mC, zz5, zz5, yyY f l fun d hd => h d (by simp [hd]), Int.mul_add]
  obtain ⟨q, hq⟩ := h c (by simp)
  have : g * (quoC g c).n = c.n := by
   unfold quoC
   simp only
   rw [Int.mul_tdiv_cancel' ⟨q, hq⟩]
  rw [← Int.mul_assoc, this]; rfl
theorem zW2 (f : Str → Int) {r : Row} (h : rowOk f r) : rowOk f (tightR r) := by
 unfold tightR
 split
 ·exact h
 ·rename_i hl
  have hl : linE r.lin = 0 := by simpa using hl
  obtain ⟨_, a2, a3⟩ := zve hl
  split
  ·rename_i h0
   have h0 : r.lin.coefs = [] := by
    have : (r.lin.coefs.length : Int) = 0 := by simpa using h0
    exact List.eq_nil_of_length_eq_zero (by omega)
   have hv : linV f r.lin = r.lin.c := by rw [zwl, h0]; simp [sumC]
   unfold rowOk at h
   rw [hv] at h
   have : (r.lin.c == 0 || (!r.eq && decide (r.lin.c < 0))) = true := by
    cases he : r.eq with
    | true => rw [he] at h; simp at h; simp [h]
    | false => rw [he] at h; simp at h; simp; omega
   rw [this]
   unfold rowOk verdR
   simp [zwl, noLin, sumC]
  ·rename_i hne
   cases hcs : r.lin.coefs with
   | nil => rw [hcs] at hne; simp at hne
   | cons c0 cs =>
   have hg := gcdL_pos' (c := c0) (l := cs) (by rw [← hcs]; exact fun x hx => (a2 x hx).1)
   rw [← hcs] at hg ⊢
   obtain ⟨_, hd⟩ := zJX r.lin.coefs 0
   have hs := yyY f r.lin.coefs hd
   generalize gcdL 0 r.lin.coefs = g at *
   unfold rowOk at h
   rw [zwl, hs] at h
   split
   ·rename_i hc
    exfalso
    rw [Bool.and_eq_true] at hc
    rw [hc.1] at h
    simp only [if_true] at h
    have hdv : g ∣ r.lin.c := ⟨-sumC f (r.lin.coefs.map (quoC g)), by rw [Int.mul_neg]; omega⟩
    have := Int.tmod_eq_zero_of_dvd hdv
    rw [this] at hc
    simp at hc
   ·unfold rowOk
    simp only
    rw [zwl]
    simp only
    generalize sumC f (r.lin.coefs.map (quoC g)) = T at *
    cases he : r.eq with
    | true =>
     rw [he] at h
     simp only [if_true] at h ⊢
     have : -r.lin.c = g * T := by omega
     rw [this, Int.mul_ediv_cancel_left _ (by omega)]; omega
    | false =>
     rw [he] at h
     simp only [Bool.false_eq_true, if_false] at h ⊢
     have : T ≤ -r.lin.c / g := by rw [Int.le_ediv_iff_mul_le hg, Int.mul_comm]; omega
     omega
theorem yvO (f : Str → Int) {a : Lin} {s : Int} (hs : s = 2 ∨ s = sgnI (linV f a)) (h : (rowS a s).2 = true) : rowOk f (rowS a s).1 := by
 unfold rowS at *
 have ho : linV f oneL = 1 := by simp [zwl, oneL, sumC]
 have hn : linV f noLin = 0 := by simp [zwl, noLin, sumC]
 split at h
 ·rename_i c1
  rw [if_pos c1]
  have hs1 : s = -1 := by simpa using c1
  obtain ⟨_, e⟩ := zWr f h
  refine zW2 f ?_
  unfold rowOk
  simp only [Bool.false_eq_true, if_false]
  rw [e, ho]
  have : linV f a < 0 := by
   rcases hs with hs | hs
   ·omega
   ·unfold sgnI at hs; split at hs
    ·assumption
    ·split at hs <;> omega
  omega
 ·rename_i c1
  rw [if_neg c1]
  split at h
  ·rename_i c2
   rw [if_pos c2]
   have hs1 : s = 0 := by simpa using c2
   obtain ⟨_, e⟩ := zWr f h
   refine zW2 f ?_
   unfold rowOk
   simp only [if_true]
   rw [e, hn]
   rcases hs with hs | hs
   ·omega
   ·unfold sgnI at hs; split at hs
    ·omega
    ·split at hs <;> omega
  ·rename_i c2
   rw [if_neg c2]
   split at h
   ·rename_i c3
    rw [if_pos c3]
    have hs1 : s = 1 := by simpa using c3
    split at h
    ·rename_i c4
     rw [if_pos c4]
     obtain ⟨_, e1⟩ := yzu f c4
     obtain ⟨_, e⟩ := zWr f h
     refine zW2 f ?_
     unfold rowOk
     simp only [Bool.false_eq_true, if_false]
     rw [e, e1, ho]
     have : linV f a > 0 := by
      rcases hs with hs | hs
      ·omega
      ·unfold sgnI at hs; split at hs
       ·omega
       ·split at hs <;> omega
     omega
    ·cases h
   ·cases h
theorem yxb (f : Str → Int) : ∀ {fs : List Lin} {σ : List Int}, Ref σ (fs.map fun a => sgnI (linV f a)) → ∀ r ∈ rowsS fs σ, rowOk f r
 | [], [], _, r, hr => by simp [rowsS] at hr
 | a :: fs, s :: σ, h, r, hr => by
  unfold rowsS at hr
  rw [List.zip_cons_cons, List.flatMap_cons, List.mem_append] at hr
  rcases hr with hr | hr
  ·unfold rowHd at hr
   split at hr
   ·rename_i hk
    rw [List.mem_singleton.1 hr]
    exact yvO f h.1 hk
   ·cases hr
  ·exact yxb f h.2 r hr
theorem zZB {α β : Type} : ∀ {a : List α} {b : List β} {p : α × β}, p ∈ a.zip b → (p.2, p.1) ∈ b.zip a
 | [], _, _, h => by simp at h
 | _ :: _, [], _, h => by simp at h
 | x :: a, y :: b, p, h => by
  rw [List.zip_cons_cons] at h ⊢
  rcases List.mem_cons.1 h with rfl | h
  ·simp
  ·exact List.mem_cons_of_mem _ (zZB h)
theorem yyb (f : Str → Int) {l : List Row} {m : List BigT} (h : farS l m = true) : ∃ r ∈ l, ¬ rowOk f r := by
 unfold farS combS at h
 split at h
 ·simp at h
 ·rename_i c1
  have c1' : ((l.length : Int) != m.length || !m.all validB) = false := by simpa using c1
  rw [Bool.or_eq_false_iff] at c1'
  unfold combZ at h
  split at h
  ·simp at h
  ·rename_i c2
   split at h
   ·rename_i c3; simp at h c3; first | done | omega | exact absurd h.1.1 c3
   ·rename_i c3
    have c3 : sysE l = 0 := by simpa using c3
    split at h
    ·simp at h
    ·rename_i s hs
     unfold farV at hs
     have hlen := (zvs hs (fun x hx => by rw [(List.mem_replicate.1 hx).2]; exact zyE)).2
     have hlen : s.length = (varsR l).length + 1 := by rw [hlen]; simp [zerosL]
     obtain ⟨t, c, q, e1, e2⟩ := zyi (l := s) (i := (varsR l).length) (by omega)
     have hq : q = [] := by
      have := congrArg List.length e1
      simp at this
      exact List.eq_nil_of_length_eq_zero (by omega)
     subst hq
     simp only [Bool.and_eq_true, decide_eq_true_eq] at h
     have ht : s.take (varsR l).length = t := by rw [e1, ← e2]; simp
     have hc : s.getD (varsR l).length 0 = c := by rw [e1, ← e2]; simp
     rw [ht, hc] at h
     obtain ⟨s1, s2, s3⟩ := zXc c3
     have hmem : ∀ p ∈ (m.map zOf).zip l, p.2 ∈ l := fun p hp => (List.of_mem_zip hp).2
     have hneg : ∀ p ∈ (m.map zOf).zip l, p.2.eq = false → 0 ≤ p.1 := fun p hp he => by
      have : ((p.2, p.1) : Row × Int) ∈ l.zip (m.map zOf) := by
       exact zZB hp
      have h2 : badR (p.2, p.1) = false := by
       have c2' : (l.zip (m.map zOf)).any badR = false := by simpa using c2
       rw [List.any_eq_false] at c2'
       simpa using c2' _ this
      unfold badR at h2
      simp only [he, Bool.not_false, Bool.true_and, decide_eq_false_iff_not] at h2
      omega
     obtain ⟨p, hp, hno⟩ := zQP (f := f) (zvN l) (fun p hp c hc => (zqt (l := l) (x := c.name)).2 ⟨p.2, hmem p hp, c, hc, rfl⟩) hneg (e1 ▸ hs) (fun x hx => by simpa using List.all_eq_true.1 h.1.2 x hx) h.2
     exact ⟨p.2, hmem p hp, hno⟩
theorem zJp (hinj : ItoaInj) {b : Pred} {fs : List Lin} {f : Str → Int} (hl : fs.length ≤ 1000) (p : Prf) : ∀ σ : List Int, Ref σ (fs.map fun a => sgnI (linV f a)) → rightB b fs p σ = true → evalS (fs.map fun a => sgnI (linV f a)) b ≠ 1 := by
 induction p using Prf.ind with
 | h k g ms ks ih =>
 intro σ hr h
 have hsl : σ.length ≤ 1000 := by rw [hr.len]; simpa using hl
 rw [rightB] at h
 split at h
 ·simp only [Bool.and_eq_true, beq_iff_eq] at h
  have := zKv hinj hr hsl b
  rw [h.2] at this
  unfold Mo at this
  omega
 ·split at h
  ·rw [Bool.and_eq_true] at h
   obtain ⟨r, h1, h2⟩ := yyb f h.2
   exact absurd (yxb f hr r h1) h2
  ·split at h
   ·rw [Bool.and_eq_true] at h
    obtain ⟨h1, h2⟩ := h
    have h1 : caseBad g ms ks σ = false := by simpa using h1
    unfold caseBad at h1
    simp only [Bool.or_eq_false_iff, decide_eq_false_iff_not] at h1
    obtain ⟨⟨⟨⟨_, q2⟩, q3⟩, q4⟩, q5⟩ := h1
    have hk3 : ks.length = 3 := by simp at q2; omega
    rcases ks with _ | ⟨k0, _ | ⟨k1, _ | ⟨k2, _ | ⟨k3, r⟩⟩⟩⟩ <;> simp at hk3
    have hlt : g.toNat < fs.length := by have := hr.len; simp at this; omega
    have hset := hr.set (k := g.toNat)
    have hget : (fs.map fun a => sgnI (linV f a)).getD g.toNat 0 = sgnI (linV f fs[g.toNat]) := by
     rw [List.getD_eq_getElem?_getD, List.getElem?_map, List.getElem?_eq_getElem hlt]; rfl
    rw [hget] at hset
    simp only [rightK, Bool.and_true, Bool.and_eq_true] at h2
    obtain ⟨r0, r1, r2⟩ := h2
    have hsg : sgnI (linV f fs[g.toNat]) = -1 ∨ sgnI (linV f fs[g.toNat]) = 0 ∨ sgnI (linV f fs[g.toNat]) = 1 := by
     unfold sgnI; split
     ·omega
     ·split <;> omega
    rcases hsg with e | e | e <;> rw [e] at hset
    ·exact ih k0 (by simp) _ hset r0
    ·exact ih k1 (by simp) _ hset (by simpa using r1)
    ·exact ih k2 (by simp) _ hset (by simpa using r2)
   ·cases h
theorem yzr {b : Pred} {fs : List Lin} {k g : Int} {ms : List BigT} {ks : List Prf} {σ : List Int} (hk : (k == 2) = false) (hm : 0 < ms.length) : rightB b fs (.mk k g ms ks) σ = false := by
 rw [rightB]
 have h1 : ((ms.length : Int) == 0) = false := beq_eq_false_iff_ne.2 (by omega)
 have h2 : caseBad g ms ks σ = true := by unfold caseBad; rw [decide_eq_true (by omega)]; simp
 rw [hk, h1, h2]
 simp
theorem yzs (hinj : ItoaInj) {b : Pred} {fs : List Lin} {j : Nat} {x : Int} (p : Prf) : ∀ σ : List Int, σ.length ≤ 1000 → σ.getD j 0 = 2 → p.evals = true → p.cases' (j : Int) = false → rightB b fs p σ = true → rightB b fs p (σ.set j x) = true := by
 induction p using Prf.ind with
 | h k g ms ks ih =>
 intro σ hl hj he hc h
 rw [Prf.evals, Bool.and_eq_true, Prf.zqS] at he
 rw [Prf.cases', Bool.or_eq_false_iff, Prf.zqN] at hc
 have hk : (k == 2) = false := by
  have := he.1
  cases h2 : (k == 2) with
  | false => rfl
  | true => have : k = 2 := by simpa using h2
            subst this; simp at he
 rw [rightB] at h ⊢
 rw [hk] at h ⊢
 split at h
 ·rename_i c1
  rw [if_pos c1]
  simp only [Bool.and_eq_true, beq_iff_eq] at h ⊢
  refine ⟨h.1, ?_⟩
  have := zKv hinj (Ref.open (x := x) hj) hl b
  rw [h.2] at this
  unfold Mo at this
  omega
 ·rename_i c1
  rw [if_neg c1]
  simp only [Bool.false_eq_true, if_false] at h ⊢
  split at h
  ·rename_i c3
   rw [if_pos c3]
   rw [Bool.and_eq_true] at h ⊢
   obtain ⟨h1, h2⟩ := h
   have hgj : (g == (j : Int)) = false := by have := hc.1; rw [c3] at this; simpa using this
   have h1' : caseBad g ms ks σ = false := by simpa using h1
   have hb : caseBad g ms ks (σ.set j x) = caseBad g ms ks σ := by
    unfold caseBad
    by_cases hg0 : g < 0
    ·rw [decide_eq_true hg0]; simp
    ·have hne : j ≠ g.toNat := fun e => by simp at hgj; omega
     have : (σ.set j x).getD g.toNat 0 = σ.getD g.toNat 0 := by
      rw [List.getD_eq_getElem?_getD, List.getElem?_set_ne hne, List.getD_eq_getElem?_getD]
     rw [this, List.length_set]
   rw [hb]
   refine ⟨h1, ?_⟩
   have hg0 : 0 ≤ g := by
    unfold caseBad at h1'
    simp only [Bool.or_eq_false_iff, decide_eq_false_iff_not] at h1'
    omega
   have hne : g.toNat ≠ j := fun e => by simp at hgj; omega
   have key : ∀ (r : List Prf), (∀ y ∈ r, y ∈ ks) → ∀ i : Int, rightK b fs g.toNat i r σ = true → rightK b fs g.toNat i r (σ.set j x) = true := by
    intro r
    induction r with
    | nil => intro _ _ _; rw [rightK]
    | cons y r ihr =>
     intro hy i hi
     rw [rightK, Bool.and_eq_true] at hi ⊢
     have hyk := hy y (by simp)
     have e1 : (σ.set j x).set g.toNat (i - 1) = (σ.set g.toNat (i - 1)).set j x := List.set_comm _ _ (fun e => hne e.symm)
     rw [e1]
     refine ⟨ih y hyk _ (by simpa using hl) ?_ (List.all_eq_true.1 he.2 y hyk) ?_ hi.1, ihr (fun z hz => hy z (by simp [hz])) _ hi.2⟩
     ·rw [List.getD_eq_getElem?_getD, List.getElem?_set_ne hne, ← List.getD_eq_getElem?_getD]; exact hj
     ·have := List.any_eq_false.1 hc.2 y hyk
      simpa using this
   exact key ks (fun y hy => hy) 0 h2
  ·cases h
end Go.Abs
end
section
namespace Go.Abs
theorem yxA {σ p q : List Int} {x y : Int} {n : Nat} {U : List AV} (h : σ = p ++ x :: q) (hp : p.length = n) : List.take n (acs σ ++ U) ++ [AV.d (.int .i64 y)] ++ List.drop (n + 1) (acs σ ++ U) = acs (p ++ y :: q) ++ U := by
 subst h hp
 simp [acs, List.drop_append, List.take_append]
theorem yzB (σ : List Int) (U : List AV) {n : Nat} (h : σ.length = n) : List.take n (acs σ ++ U) = acs σ := by
 rw [← h, ← zxE σ, List.take_left]
theorem zkD (a : AtT) : a.body.cells = [.int .i64 a.body.op, .str a.body.name, .int .i64 a.body.n, .lst (a.body.kids.map Pred.cells)] := Pred.zzt _
theorem zVY {f : Int} {n : Nat} (h0 : 0 ≤ f) (h : f < n) : (f.toNat : Int) = f ∧ f.toNat < n := by omega
variable {E : AEnv} (Z : Sys E)
include Z
theorem zJh (σ : List Int) (f s : Int) (h0 : 0 ≤ f) (hi : f < σ.length) (hl : σ.length ≤ 1000) : E.C zjf [.one (.lst (σ.map icell)), .one (.int .i64 f), .one (.int .i64 s)] (.one (.lst ((σ.set f.toNat s).map icell))) := by
 obtain ⟨e1, e2⟩ := zVY h0 hi
 obtain ⟨p, x, q, g1, g2⟩ := zyi e2
 have hset : σ.set f.toNat s = p ++ s :: q := by rw [g1, ← g2]; simp
 refine Z.zjf _ _ ⟨bl rfl, ?_⟩
 rw [hset]
 have hlen : (p ++ s :: q).length = σ.length := by rw [g1]; simp
 simp only [zYD, go_sem, lM]
 refine ⟨⟨by omega, by omega, by omega⟩, 10, ⟨by omega, rfl⟩, fun cap h1 h2 => ?_⟩
 have hput := fun U => yxA (y := s) (U := U) g1 g2
 have htk := fun U => yzB (p ++ s :: q) U hlen
 have hle : ∀ U : List AV, (σ.length ≤ (acs (p ++ s :: q) ++ U).length) = True := fun U => eq_true (by rw [lA, zxE, hlen]; omega)
 have hch := zvu (p ++ s :: q)
 rw [hlen] at hch
 simp only [zj6, zA, Nat.mul_one, hput, hle, if_true, htk, zqs, hch]
 exact ⟨⟨h0, hi⟩, by rw [lA, zxE]; omega, trivial⟩
theorem zJg (p : Prf) : E.C zvj [.agg p.cells] (.one (.int .i64 p.size)) := by
 induction p using Prf.ind with
 | h k f ms ks ih =>
 refine Z.zvj _ _ ⟨bl rfl, ?_⟩
 rw [Prf.size, Prf.zzq]
 simp only [zYC, go_sem]
 refine zze fun K hK => ?_
 refine zzh ks (fun _ => True) (fun done _ => ⟨[(4, .d (.int .i64 done.length)), (3, .d (.int .i64 (Prf.sizes 1 done))), (1, .ptr 1 0)], [(1, [.d (.int .i64 k), .d (.int .i64 f), .d (.lst (ms.map BigT.cells)), .d (.lst (ks.map Prf.cells))])], []⟩) ?_ trivial ?_ ?_
 ·exact zzc (by simp only [go_sem, oS, lN, nZ, Prf.sizes])
 ·intro done x r hl _
  have hlt := zzw hl
  have hx := zzj (f := Prf.cells) hl rfl
  have hd : decide ((done.length : Int) < (ks.length : Int)) = true := decide_eq_true hlt
  have ihx := ih x (by rw [hl]; simp)
  have hs : Prf.sizes 1 (done ++ [x]) = IntKind.i64.wrap (Prf.sizes 1 done + x.size) := by rw [Prf.zVp, Prf.sizes, Prf.sizes]
  obtain ⟨xk, xf, xm, xs⟩ := x
  rw [Prf.zzq] at hx ihx
  simp only [zkB, go_sem, hd, hlt, hx, lM]
  intro hlen
  have hw : IntKind.i64.wrap ((done.length : Int) + 1) = ((done.length + 1 : Nat) : Int) := zzd (by omega)
  refine zzb ihx ?_
  simp only [go_sem, hw]
  exact zzc (by simp only [go_sem, oS, lA, lC, lN, zA, hs])
 ·intro _
  simp only [zkB, go_sem, Int.lt_irrefl, decide_false, hK, lM]
  try intro _
  try simp only [go_sem]
theorem zkR (p : Prf) : E.C zzZ [.agg p.cells] (.one (.int .i64 p.size)) := by
 induction p using Prf.ind with
 | h k f ms ks ih =>
 refine Z.zzZ _ _ ⟨bl rfl, ?_⟩
 rw [Prf.size, Prf.zzq]
 simp only [zkM, go_sem, lM]
 intro hlen
 refine zze fun K hK => ?_
 refine zzh ks (fun _ => True) (fun done _ => ⟨[(9, .d (.int .i64 done.length)), (8, .d (.int .i64 ks.length)), (7, .d (.lst (ks.map Prf.cells))), (3, .d (.int .i64 (Prf.sizes 1 done)))], [], []⟩) ?_ trivial ?_ ?_
 ·exact zzc (by simp only [go_sem, oS, lN, nZ, Prf.sizes])
 ·intro done x r hl _
  have hlt := zzw hl
  have hx := zzj (f := Prf.cells) hl rfl
  have ihx := ih x (by rw [hl]; simp)
  have hw : IntKind.i64.wrap ((done.length : Int) + 1) = ((done.length + 1 : Nat) : Int) := zzd (by omega)
  have hs : Prf.sizes 1 (done ++ [x]) = IntKind.i64.wrap (Prf.sizes 1 done + x.size) := by rw [Prf.zVp, Prf.sizes, Prf.sizes]
  obtain ⟨xk, xf, xm, xs⟩ := x
  rw [Prf.zzq] at hx ihx
  simp only [zy1, go_sem, hlt, hx, lM]
  refine zzb ihx ?_
  simp only [go_sem, hw]
  exact zzc (by simp only [go_sem, oS, lA, lC, lN, zA, hs])
 ·intro _
  simp only [zy1, go_sem, Int.lt_irrefl, decide_false, hK]
theorem zVe (p : Prf) : E.C zkc [.agg p.cells] (.one (.int .i64 p.depth)) := by
 induction p using Prf.ind with
 | h k f ms ks ih =>
 refine Z.zkc _ _ ⟨bl rfl, ?_⟩
 rw [Prf.depth, Prf.zzq]
 simp only [zZy, go_sem]
 refine zze fun K hK => ?_
 refine zzh ks (fun _ => True) (fun done _ => ⟨[(4, .d (.int .i64 done.length)), (3, .d (.int .i64 (Prf.depths 0 done))), (1, .ptr 1 0)], [(1, [.d (.int .i64 k), .d (.int .i64 f), .d (.lst (ms.map BigT.cells)), .d (.lst (ks.map Prf.cells))])], []⟩) ?_ trivial ?_ ?_
 ·exact zzc (by simp only [go_sem, oS, lN, nZ, Prf.depths])
 ·intro done x r hl _
  have hlt := zzw hl
  have hx := zzj (f := Prf.cells) hl rfl
  have hd : decide ((done.length : Int) < (ks.length : Int)) = true := decide_eq_true hlt
  have ihx := ih x (by rw [hl]; simp)
  have hs : Prf.depths 0 (done ++ [x]) = if x.depth > Prf.depths 0 done then x.depth else Prf.depths 0 done := by rw [Prf.zXA, Prf.depths, Prf.depths]
  obtain ⟨xk, xf, xm, xs⟩ := x
  rw [Prf.zzq] at hx ihx
  simp only [zw0, go_sem, hd, hlt, hx, lM]
  intro hlen
  have hw : IntKind.i64.wrap ((done.length : Int) + 1) = ((done.length + 1 : Nat) : Int) := zzd (by omega)
  refine zzb ihx ?_
  simp only [go_sem, hw]
  exact zzc (by simp only [go_sem, oS, lA, lC, lN, zA, hs])
 ·intro _
  simp only [zw0, go_sem, Int.lt_irrefl, decide_false, hK, lM]
  try intro _
  try simp only [go_sem]
theorem zkt (p : Prf) : E.C zzS [.agg p.cells] (.one (.int .i64 p.depth)) := by
 induction p using Prf.ind with
 | h k f ms ks ih =>
 refine Z.zzS _ _ ⟨bl rfl, ?_⟩
 rw [Prf.depth, Prf.zzq]
 simp only [zkn, go_sem, lM]
 intro hlen
 refine zze fun K hK => ?_
 refine zzh ks (fun _ => True) (fun done _ => ⟨[(9, .d (.int .i64 done.length)), (8, .d (.int .i64 ks.length)), (7, .d (.lst (ks.map Prf.cells))), (3, .d (.int .i64 (Prf.depths 0 done)))], [], []⟩) ?_ trivial ?_ ?_
 ·exact zzc (by simp only [go_sem, oS, lN, nZ, Prf.depths])
 ·intro done x r hl _
  have hlt := zzw hl
  have hx := zzj (f := Prf.cells) hl rfl
  have ihx := ih x (by rw [hl]; simp)
  have hw : IntKind.i64.wrap ((done.length : Int) + 1) = ((done.length + 1 : Nat) : Int) := zzd (by omega)
  have hs : Prf.depths 0 (done ++ [x]) = if x.depth > Prf.depths 0 done then x.depth else Prf.depths 0 done := by rw [Prf.zXA, Prf.depths, Prf.depths]
  obtain ⟨xk, xf, xm, xs⟩ := x
  rw [Prf.zzq] at hx ihx
  simp only [zyL, go_sem, hlt, hx, lM]
  refine zzb ihx ?_
  simp only [go_sem, hw]
  exact zzc (by simp only [go_sem, oS, lA, lC, lN, zA, hs])
 ·intro _
  simp only [zyL, go_sem, Int.lt_irrefl, decide_false, hK]
end Go.Abs
end
section
namespace Go.Abs
structure LoopP (α : Type) where
 d : List α
 r : List α
 n : Int
variable {E : AEnv} (Z : Sys E)
include Z
set_option maxHeartbeats 4000000 in
theorem zVf (a : AtT) (hf : a.forms.length ≤ 1000) (p : Prf) : ∀ σ : List Int, σ.length ≤ 1000 → E.C zkd [.agg a.cells, .agg p.cells, .one (.lst (σ.map icell))] (.one (.bool (rightB a.body a.forms p σ))) := by
 induction p using Prf.ind with
 | h k f ms ks ih =>
 intro σ hσ
 have hE := zYZ Z σ hσ a.body
 have hRw := zJe Z a.forms σ hf
 have hC := zVc Z (rowsS a.forms σ) ms
 have hW := fun s h0 h1 => zJh Z σ f s h0 h1 hσ
 refine Z.zkd _ _ ⟨bl rfl, ?_⟩
 generalize hR : rightB a.body a.forms (.mk k f ms ks) σ = R
 rw [rightB] at hR
 rw [Prf.zzq]
 rw [zkD] at hE
 simp only [AtT.cells] at *
 simp only [zZz, go_sem]
 cases c1 : (k == 1) with
 | true =>
  rw [c1] at hR
  simp only [if_true] at hR
  simp only [go_sem, lM]
  cases c2 : (f == 0) with
  | false =>
   rw [c2] at hR; simp only [Bool.false_and] at hR; subst hR
   simp only [go_sem]
   refine ⟨.one (.int .i64 0), ?_⟩
   simp only [go_sem]
  | true =>
  rw [c2] at hR; simp only [Bool.true_and] at hR
  simp only [go_sem]
  intro _
  cases c3 : ((ms.length : Int) == 0) with
  | false =>
   rw [c3] at hR; simp only [Bool.false_and] at hR; subst hR
   simp only [go_sem]
   refine ⟨.one (.int .i64 0), ?_⟩
   simp only [go_sem]
  | true =>
  rw [c3] at hR; simp only [Bool.true_and] at hR
  simp only [go_sem]
  intro _
  cases c4 : ((ks.length : Int) == 0) with
  | false =>
   rw [c4] at hR; simp only [Bool.false_and] at hR; subst hR
   simp only [go_sem]
   refine ⟨.one (.int .i64 0), ?_⟩
   simp only [go_sem]
  | true =>
  rw [c4] at hR; simp only [Bool.true_and] at hR; subst hR
  simp only [go_sem]
  refine zzb hE ?_
  simp only [go_sem]
 | false =>
 rw [c1] at hR
 simp only [Bool.false_eq_true, if_false] at hR
 simp only [go_sem]
 cases c5 : (k == 2) with
 | true =>
  rw [c5] at hR
  simp only [if_true] at hR
  simp only [go_sem, lM]
  refine ⟨_, fun _ => hRw, ?_⟩
  simp only [go_sem]
  refine ⟨_, fun _ => hC, ?_⟩
  simp only [go_sem, hR]
 | false =>
 rw [c5] at hR
 simp only [Bool.false_eq_true, if_false] at hR
 simp only [go_sem]
 cases c6 : (k == 3) with
 | false =>
  rw [c6] at hR
  simp only [Bool.false_eq_true, if_false] at hR
  subst hR
  simp only [go_sem]
 | true =>
 rw [c6] at hR
 simp only [if_true] at hR
 have hb : caseBad f ms ks σ = caseBad f ms ks σ := rfl
 conv at hb => rhs; unfold caseBad
 generalize caseBad f ms ks σ = CB at *
 simp only [go_sem, lM]
 intro _
 cases q1 : decide ((ms.length : Int) > 0) with
 | true =>
  rw [q1] at hb; simp only [Bool.true_or] at hb; subst hb; simp only [Bool.not_true, Bool.false_and] at hR; subst hR
  rcases zvL σ f.toNat with hg | hg <;> simp only [go_sem, hg]
 | false =>
 rw [q1] at hb; simp only [Bool.false_or] at hb
 simp only [go_sem]
 intro _
 cases q2 : ((ks.length : Int) != 3) with
 | true =>
  rw [q2] at hb; simp only [Bool.true_or] at hb; subst hb; simp only [Bool.not_true, Bool.false_and] at hR; subst hR
  rcases zvL σ f.toNat with hg | hg <;> simp only [go_sem, hg]
 | false =>
 rw [q2] at hb; simp only [Bool.false_or] at hb
 simp only [go_sem]
 cases q3 : decide (f < 0) with
 | true =>
  rw [q3] at hb; simp only [Bool.true_or] at hb; subst hb; simp only [Bool.not_true, Bool.false_and] at hR; subst hR
  rcases zvL σ f.toNat with hg | hg <;> simp only [go_sem, hg]
 | false =>
 rw [q3] at hb; simp only [Bool.false_or] at hb
 simp only [go_sem, lM]
 intro _
 cases q4 : decide (f ≥ (σ.length : Int)) with
 | true =>
  rw [q4] at hb; simp only [Bool.true_or] at hb; subst hb; simp only [Bool.not_true, Bool.false_and] at hR; subst hR
  rcases zvL σ f.toNat with hg | hg <;> simp only [go_sem, hg]
 | false =>
 rw [q4] at hb; simp only [Bool.false_or] at hb
 have h0 : 0 ≤ f := by have := of_decide_eq_false q3; omega
 have h1 : f < σ.length := by have := of_decide_eq_false q4; omega
 obtain ⟨e1, e2⟩ := zVY h0 h1
 have hg := zZA e2
 have hlt : (f < (σ.length : Int)) = True := eq_true h1
 have hge : (0 ≤ f) = True := eq_true h0
 simp only [go_sem, lM, hlt, hge, hg]
 cases q5 : (σ.getD f.toNat 0 != 2) with
 | true =>
  rw [q5] at hb; subst hb; simp only [Bool.not_true, Bool.false_and] at hR; subst hR
  simp only [go_sem]
 | false =>
 rw [q5] at hb; subst hb; simp only [Bool.not_false, Bool.true_and] at hR
 have hk3 : ks.length = 3 := by simp at q2; omega
 simp only [go_sem]
 refine zze fun K hK => ?_
 refine zzo (fun s1 : LoopP Prf => ⟨[(7, .d (.int .i64 s1.d.length)), (4, .ptr 4 0), (3, .ptr 3 0), (2, .d (.lst (σ.map icell)))], [(4, [.d (.int .i64 k), .d (.int .i64 f), .d (.lst (ms.map BigT.cells)), .d (.lst (ks.map Prf.cells))]),
   (3, [.d (.int .i64 a.body.op), .d (.str a.body.name), .d (.int .i64 a.body.n), .d (.lst (a.body.kids.map Pred.cells)), .d (.lst (a.forms.map Lin.cells))])], []⟩)
  (fun s1 => s1.d ++ s1.r = ks ∧ rightK a.body a.forms f.toNat (s1.d.length : Int) s1.r σ = R) (fun s1 => s1.r.length) ⟨[], ks, 0⟩ ?_ ⟨rfl, hR⟩ ?_
 ·exact zzc (by simp only [go_sem, oS, lN, nZ])
 ·rintro ⟨d, r, z⟩ ⟨g1, g2⟩
  simp only at g1 g2
  cases r with
  | nil =>
   rw [List.append_nil] at g1
   subst g1
   rw [rightK] at g2
   subst g2
   have hd : decide ((d.length : Int) < 3) = false := by rw [hk3]; rfl
   simp only [zw1, go_sem, hd, hK]
  | cons x r =>
   have hx := zzj (f := Prf.cells) g1.symm rfl
   have hdl : d.length < ks.length := by rw [← g1]; simp
   have hlt2 : ((d.length : Int) < (ks.length : Int)) = True := eq_true (by omega)
   have hd : decide ((d.length : Int) < 3) = true := decide_eq_true (by omega)
   have hw : IntKind.i64.wrap ((d.length : Int) + 1) = ((d.length + 1 : Nat) : Int) := zzd (by omega)
   have hw2 : IntKind.i64.wrap ((d.length : Int) - 1) = (d.length : Int) - 1 := i64_in _ (by omega)
   have ihx := ih x (by rw [← g1]; simp) (σ.set f.toNat ((d.length : Int) - 1)) (by simpa using hσ)
   have hWx := hW ((d.length : Int) - 1) h0 h1
   rw [rightK] at g2
   obtain ⟨xk, xf, xm, xs⟩ := x
   rw [Prf.zzq] at hx ihx
   simp only [zw1, go_sem, hd, hlt2, hx, hw2]
   refine ⟨_, hWx, ?_⟩
   simp only [go_sem]
   refine ⟨_, ihx, ?_⟩
   simp only [go_sem]
   cases hb : rightB a.body a.forms (.mk xk xf xm xs) (σ.set f.toNat ((d.length : Int) - 1)) with
   | false =>
    rw [hb, Bool.false_and] at g2
    subst g2
    simp only [go_sem, hK]
   | true =>
    rw [hb, Bool.true_and] at g2
    simp only [go_sem, hw]
    refine ⟨⟨d ++ [.mk xk xf xm xs], r, 0⟩, zzc (by simp only [go_sem, oS, lA, lC, lN, zA]), ⟨by rw [← g1, List.append_assoc]; rfl, ?_⟩, by simp⟩
    rw [← g2]; simp
end Go.Abs
end
section
namespace Go.Abs
theorem zVz (σ τ : TMap) (l : List Int) : Matches σ τ (acs l) (acs l) = True := by
 induction l with
 | nil => rfl
 | cons x l ih =>
  unfold acs at *
  rw [mC]; simp only [Matches, Match1, Match0, AV.toD, true_and, ih]
theorem zJk (σ τ : TMap) (l : List Int) : (acs l).map (AV.ren1 σ τ) = acs l := by
 unfold acs; rw [List.map_map]; rfl
theorem ywi (l : List Int) : (acs l).all keep1 = true := by
 unfold acs; rw [List.all_map]; exact List.all_eq_true.2 fun _ _ => rfl
theorem zJ4 (l : List Int) : isMp (acs l) = false := by
 cases l with
 | nil => rfl
 | cons x l => cases l <;> rfl
theorem okSig {st : St} {az as0 : List AV} {b : Nat} {s s' : List Int} {r : CV} (hm : getM st.mem b = some (acs s)) (hv : MatchVs [(1000, b)] [] az as0) :
  okB st az ⟨[(1000, b)], [], [], as0, [(1000, acs s)], [(1000, acs s')], r⟩ := by
 refine ⟨hv, ⟨⟨rfl, by decide, ?_⟩, trivial⟩, trivial, rfl, rfl, rfl, rfl, ?_, ?_, trivial, rfl, rfl⟩
 ·simp only [hm]
  split
  ·rename_i e; have := zJ4 s; rw [e] at this; cases this
  ·exact of_eq_true (zVz _ _ _)
 ·simp only [mC, mN, zJ4]
 ·intro q hq
  rw [List.mem_singleton.1 hq]; exact ywi _
theorem yxq {m : Mem} {cs : List D} {p : List Int} {n s cap : Nat} (hm : getM m s = some (acs p)) (hn : p.length = n) : toCVs m 3 [.agg (cs.map .d), .vec s 1 0 n cap] = some [.agg cs, .one (.lst (p.map icell))] := by
 have h := zvY (cap := cap) hm hn
 have h2 : AV.toCV m 3 (.agg (cs.map .d)) = some (.agg cs) := by simp only [AV.toCV, zQs]
 rw [toCVs, h2, h]
structure SigS where
 d : List Prf
 r : List Prf
 t : List Int
theorem zJo (b : Pred) (fs : List Lin) (p : Prf) (σ : List Int) : (rightT b fs p σ).2.length = σ.length := (zWh b fs p σ).2.2
variable {E : AEnv} (Z : Sys E)
include Z
set_option maxHeartbeats 8000000 in
theorem zQM (a : AtT) (f : Int) (ms : List BigT) (k : Int) (ks : List Prf) (ih : ∀ x ∈ ks, ∀ σ : List Int, σ.length ≤ 1000 → E.C zzT [] (.bx [.agg (a.cells.map .d), .agg (x.cells.map .d), .vec 1000 1 0 σ.length σ.length] [(1000, acs σ)] [] (.one (.bool (rightT a.body a.forms x σ).1)) [(1000, acs (rightT a.body a.forms x σ).2)] []))
  (σ : List Int) (hσ : σ.length ≤ 1000) : E.C zz1 [] (.bx [.agg (a.cells.map .d), .agg ((Prf.mk k f ms ks).cells.map .d), .vec 1000 1 0 σ.length σ.length] [(1000, acs σ)] []
   (.one (.bool (if caseBad f ms ks σ then (false, σ) else rightTL a.body a.forms f.toNat 0 ks σ).1)) [(1000, acs (if caseBad f ms ks σ then (false, σ) else rightTL a.body a.forms f.toNat 0 ks σ).2)] []) := by
 refine Z.zz1 _ _ ⟨bl rfl, bl rfl, rfl, ?_⟩
 generalize hR : (if caseBad f ms ks σ then (false, σ) else rightTL a.body a.forms f.toNat 0 ks σ) = R
 have hb : caseBad f ms ks σ = caseBad f ms ks σ := rfl
 conv at hb => rhs; unfold caseBad
 generalize caseBad f ms ks σ = CB at *
 rw [Prf.zzq]
 simp only [AtT.cells] at *
 simp only [zwm, go_sem, initA, mC, mN, lM]
 intro _
 cases q1 : decide ((ms.length : Int) > 0) with
 | true =>
  rw [q1] at hb; simp only [Bool.true_or] at hb; subst hb; simp only [if_true] at hR; subst hR
  rcases Nat.lt_or_ge f.toNat σ.length with hin | hin
  ·obtain ⟨p, z, q, g1, g2⟩ := zyi hin
   simp only [go_sem, Nat.mul_one, zA, zz8 g1 g2, zzX g1 g2]
   try exact zzc (by simp only [go_sem, oS, zzg])
  ·have hno : (f.toNat + 1 ≤ (acs σ).length) = False := eq_false (by rw [zxE]; omega)
   simp only [go_sem, Nat.mul_one, zA, hno, if_false]
   try exact zzc (by simp only [go_sem, oS, zzg])
 | false =>
 rw [q1] at hb; simp only [Bool.false_or] at hb
 simp only [go_sem]
 intro _
 cases q2 : ((ks.length : Int) != 3) with
 | true =>
  rw [q2] at hb; simp only [Bool.true_or] at hb; subst hb; simp only [if_true] at hR; subst hR
  rcases Nat.lt_or_ge f.toNat σ.length with hin | hin
  ·obtain ⟨p, z, q, g1, g2⟩ := zyi hin
   simp only [go_sem, Nat.mul_one, zA, zz8 g1 g2, zzX g1 g2]
   try exact zzc (by simp only [go_sem, oS, zzg])
  ·have hno : (f.toNat + 1 ≤ (acs σ).length) = False := eq_false (by rw [zxE]; omega)
   simp only [go_sem, Nat.mul_one, zA, hno, if_false]
   try exact zzc (by simp only [go_sem, oS, zzg])
 | false =>
 rw [q2] at hb; simp only [Bool.false_or] at hb
 simp only [go_sem]
 cases q3 : decide (f < 0) with
 | true =>
  rw [q3] at hb; simp only [Bool.true_or] at hb; subst hb; simp only [if_true] at hR; subst hR
  rcases Nat.lt_or_ge f.toNat σ.length with hin | hin
  ·obtain ⟨p, z, q, g1, g2⟩ := zyi hin
   simp only [go_sem, Nat.mul_one, zA, zz8 g1 g2, zzX g1 g2]
   try exact zzc (by simp only [go_sem, oS, zzg])
  ·have hno : (f.toNat + 1 ≤ (acs σ).length) = False := eq_false (by rw [zxE]; omega)
   simp only [go_sem, Nat.mul_one, zA, hno, if_false]
   try exact zzc (by simp only [go_sem, oS, zzg])
 | false =>
 rw [q3] at hb; simp only [Bool.false_or] at hb
 simp only [go_sem, lM]
 try intro _
 cases q4 : decide (f ≥ (σ.length : Int)) with
 | true =>
  rw [q4] at hb; simp only [Bool.true_or] at hb; subst hb; simp only [if_true] at hR; subst hR
  rcases Nat.lt_or_ge f.toNat σ.length with hin | hin
  ·obtain ⟨p, z, q, g1, g2⟩ := zyi hin
   simp only [go_sem, Nat.mul_one, zA, zz8 g1 g2, zzX g1 g2]
   try exact zzc (by simp only [go_sem, oS, zzg])
  ·have hno : (f.toNat + 1 ≤ (acs σ).length) = False := eq_false (by rw [zxE]; omega)
   simp only [go_sem, Nat.mul_one, zA, hno, if_false]
   try exact zzc (by simp only [go_sem, oS, zzg])
 | false =>
 rw [q4] at hb; simp only [Bool.false_or] at hb
 have h0 : 0 ≤ f := by have := of_decide_eq_false q3; omega
 have h1 : f < σ.length := by have := of_decide_eq_false q4; omega
 obtain ⟨e1, e2⟩ := zVY h0 h1
 obtain ⟨p, z, q, g1, g2⟩ := zyi e2
 have hg := zz8 g1 g2
 have hro := zzX g1 g2
 have hz : σ.getD f.toNat 0 = z := yyo g1 g2
 rw [hz] at hb
 have hlt : (f < (σ.length : Int)) = True := eq_true h1
 have hge : (0 ≤ f) = True := eq_true h0
 simp only [go_sem, lM, hlt, hge, Nat.mul_one, zA, hg, hro]
 cases q5 : (z != 2) with
 | true =>
  rw [q5] at hb; subst hb; simp only [if_true] at hR; subst hR
  simp only [go_sem]
  exact zzc (by simp only [go_sem, oS, zzg])
 | false =>
 rw [q5] at hb; subst hb; simp only [Bool.false_eq_true, if_false] at hR
 have hk3 : ks.length = 3 := by simp at q2; omega
 simp only [go_sem, lM]
 try intro _
 refine zze fun K hK => ?_
 refine zzo (fun s1 : SigS => ⟨[(42, .d (.int .i64 s1.d.length)), (41, .d (.int .i64 ks.length)), (40, .d (.lst (ks.map Prf.cells))), (4, .ptr 4 0), (3, .ptr 3 0), (2, .vec 1000 1 0 σ.length σ.length)],
   [(4, [.d (.int .i64 k), .d (.int .i64 f), .d (.lst (ms.map BigT.cells)), .d (.lst (ks.map Prf.cells))]),
    (3, [.d (.int .i64 a.body.op), .d (.str a.body.name), .d (.int .i64 a.body.n), .d (.lst (a.body.kids.map Pred.cells)), .d (.lst (a.forms.map Lin.cells))]), (1000, acs s1.t)], []⟩)
  (fun s1 => s1.d ++ s1.r = ks ∧ rightTL a.body a.forms f.toNat (s1.d.length : Int) s1.r s1.t = R ∧ s1.t.length = σ.length) (fun s1 => s1.r.length) ⟨[], ks, σ⟩ ?_ ⟨rfl, hR, rfl⟩ ?_
 ·exact zzc (by simp only [go_sem, oS, lN, nZ, zzg])
 ·rintro ⟨d, r, t⟩ ⟨k1, k2, k3⟩
  simp only at k1 k2 k3
  obtain ⟨p1, z1, q1', m1, m2⟩ := zyi (l := t) (i := f.toNat) (by omega)
  have hro := zzX m1 m2
  have hput := fun y => zxp (y := y) m1 m2
  have hset : ∀ y, t.set f.toNat y = p1 ++ y :: q1' := fun y => yxi m1 m2
  cases r with
  | nil =>
   rw [List.append_nil] at k1
   subst k1
   rw [rightTL, hset] at k2
   subst k2
   simp only [zyq, go_sem, Int.lt_irrefl, decide_false, hK]
   simp only [go_sem, hlt, hge, Nat.mul_one, zA, hro, hput]
   exact zzc (by simp only [go_sem, oS, zzg])
  | cons x r =>
   have hx := zzj (f := Prf.cells) k1.symm rfl
   have hdl : d.length < ks.length := by rw [← k1]; simp
   have hlt2 : ((d.length : Int) < (ks.length : Int)) = True := eq_true (by omega)
   have hw : IntKind.i64.wrap ((d.length : Int) + 1) = ((d.length + 1 : Nat) : Int) := zzd (by omega)
   have hw2 : IntKind.i64.wrap ((d.length : Int) - 1) = (d.length : Int) - 1 := i64_in _ (by omega)
   have hlen : (p1 ++ ((d.length : Int) - 1) :: q1').length = σ.length := by rw [← k3, m1]; simp
   have ihx := ih x (by rw [← k1]; simp) (p1 ++ ((d.length : Int) - 1) :: q1') (by omega)
   have htl := zJo a.body a.forms x (p1 ++ ((d.length : Int) - 1) :: q1')
   rw [rightTL, hset] at k2
   rw [hlen] at ihx htl
   generalize hT : rightT a.body a.forms x (p1 ++ ((d.length : Int) - 1) :: q1') = T at *
   obtain ⟨ok, t2⟩ := T
   simp only at ihx htl k2
   obtain ⟨xk, xf, xm, xs⟩ := x
   rw [Prf.zzq] at hx ihx
   simp only [mC, mN] at ihx
   simp only [zyq, go_sem, hlt2, hx, hw2, hlt, hge, Nat.mul_one, zA, hro, hput]
   refine zjX ⟨[(1000, 1000)], [], [], _, _, _, .one (.bool ok)⟩ ihx rfl rfl (okSig rfl ⟨⟨rfl, rfl, rfl, rfl, rfl, trivial⟩, ⟨rfl, rfl, rfl, rfl, trivial⟩, rfl, trivial⟩) ?_
   simp only [afterB, renMem, getTM, if_true, Option.getD_some, newAll, killAll, List.nil_append, List.singleton_append, CV.toAV0, AV.ren0, AV.ren1, go_sem, mC, mN, List.cons_append, zJk]
   cases ok with
   | false =>
    simp only [Bool.false_eq_true, if_false] at k2
    subst k2
    simp only [go_sem, hK]
    try exact zzc (by simp only [go_sem, oS, zzg])
   | true =>
    simp only [if_true] at k2
    simp only [go_sem, hw]
    refine ⟨⟨d ++ [.mk xk xf xm xs], r, t2⟩, zzc (by simp only [go_sem, oS, lA, lC, lN, zA, zzg]), ⟨by rw [← k1, List.append_assoc]; rfl, ?_, htl⟩, by simp⟩
    rw [← k2]; simp
end Go.Abs
end
section
namespace Go.Abs
variable {E : AEnv} (Z : Sys E)
include Z
set_option maxHeartbeats 4000000 in
theorem ywK (hU : UnionLaw E) (hA : AtoiP E) (hI : ItoaP E) (a : AtT) (hn : NamesP a.body) (hf : a.forms.length ≤ 1000) (p : Prf) : ∀ σ : List Int, σ.length ≤ 1000 →
  E.C zzT [] (.bx [.agg (a.cells.map .d), .agg (p.cells.map .d), .vec 1000 1 0 σ.length σ.length] [(1000, acs σ)] [] (.one (.bool (rightT a.body a.forms p σ).1)) [(1000, acs (rightT a.body a.forms p σ).2)] []) := by
 induction p using Prf.ind with
 | h k f ms ks ih =>
 intro σ hσ
 have hE := zWt Z hA hI σ hσ a.body hn
 have hRw := zWu Z a.forms σ hf
 have hC := zYr Z hU (rowsS a.forms σ) ms
 have hdv := zQM Z a f ms k ks ih σ hσ
 refine Z.zzT _ _ ⟨bl rfl, bl rfl, rfl, ?_⟩
 generalize hR : rightT a.body a.forms (.mk k f ms ks) σ = R
 rw [rightT] at hR
 rw [Prf.zzq] at *
 rw [zkD] at hE
 simp only [AtT.cells] at *
 simp only [zko, go_sem, initA, mC, mN]
 cases c1 : (k == 1) with
 | true =>
  rw [c1] at hR
  simp only [if_true] at hR
  subst hR
  simp only [go_sem, lM]
  cases c2 : (f == 0) with
  | false =>
   simp only [go_sem, Bool.false_and]
   refine zqM ?_
   exact zzc (by simp only [go_sem, oS, zzg])
  | true =>
  simp only [go_sem]
  intro _
  cases c3 : ((ms.length : Int) == 0) with
  | false =>
   simp only [go_sem, Bool.false_and]
   refine zqM ?_
   exact zzc (by simp only [go_sem, oS, zzg])
  | true =>
  simp only [go_sem]
  intro _
  cases c4 : ((ks.length : Int) == 0) with
  | false =>
   simp only [go_sem, Bool.false_and]
   refine zqM ?_
   exact zzc (by simp only [go_sem, oS, zzg])
  | true =>
  simp only [go_sem]
  refine zJN (yxq (cs := [.int .i64 a.body.op, .str a.body.name, .int .i64 a.body.n, .lst (a.body.kids.map Pred.cells)]) rfl rfl) rfl (by simp only [go_sem]) hE ?_
  simp only [go_sem]
  exact zzc (by simp only [go_sem, oS, zzg])
 | false =>
 rw [c1] at hR
 simp only [Bool.false_eq_true, if_false] at hR
 simp only [go_sem]
 cases c5 : (k == 2) with
 | true =>
  rw [c5] at hR
  simp only [if_true] at hR
  subst hR
  have hle : (σ.length ≤ (acs σ).length) = True := eq_true (by rw [zxE]; omega)
  have htk : List.take σ.length (acs σ) = acs σ := by rw [← zxE σ, List.take_length]
  simp only [go_sem, lM, zA, Nat.mul_one, hle, htk, zqs, zvu, if_true]
  refine ⟨_, fun _ => hRw, ?_⟩
  simp only [go_sem]
  refine ⟨_, fun _ => hC, ?_⟩
  simp only [go_sem]
  exact zzc (by simp only [go_sem, oS, zzg])
 | false =>
 rw [c5] at hR
 simp only [Bool.false_eq_true, if_false] at hR
 simp only [go_sem]
 cases c6 : (k == 3) with
 | false =>
  rw [c6] at hR
  simp only [Bool.false_eq_true, if_false] at hR
  subst hR
  simp only [go_sem]
  exact zzc (by simp only [go_sem, oS, zzg])
 | true =>
 rw [c6] at hR
 simp only [if_true] at hR
 rw [hR] at hdv
 simp only [mC, mN] at hdv
 simp only [go_sem]
 refine zjX ⟨[(1000, 1000)], [], [], _, _, _, .one (.bool R.1)⟩ hdv rfl rfl (okSig rfl ⟨⟨rfl, rfl, rfl, rfl, rfl, trivial⟩, ⟨rfl, rfl, rfl, rfl, trivial⟩, rfl, trivial⟩) ?_
 simp only [afterB, renMem, getTM, if_true, Option.getD_some, newAll, killAll, List.nil_append, List.singleton_append, CV.toAV0, AV.ren0, AV.ren1, go_sem, mC, mN, List.cons_append, zJk]
 exact zzc (by simp only [go_sem, oS, zzg])
theorem zyF (hU : UnionLaw E) (hA : AtoiP E) (hI : ItoaP E) (a : AtT) (hn : NamesP a.body) (hf : a.forms.length ≤ 1000) (p : Prf) :
  E.C zzr [.agg a.cells, .agg p.cells] (.one (.int .i64 (if rightB a.body a.forms p (List.replicate a.forms.length 2) then 0 else 20))) := by
 have hr := ywK Z hU hA hI a hn hf p (List.replicate a.forms.length 2) (by simpa using hf)
 obtain ⟨r1, _, r3⟩ := zWh a.body a.forms p (List.replicate a.forms.length 2)
 refine Z.zzr _ _ ⟨bl rfl, ?_⟩
 rw [← r1]
 generalize rightT a.body a.forms p (List.replicate a.forms.length 2) = R at *
 obtain ⟨ok, t⟩ := R
 obtain ⟨pk, pf, pm, ps⟩ := p
 rw [Prf.zzq] at *
 obtain ⟨b, fs⟩ := a
 simp only [AtT.cells, List.length_replicate, mC, mN] at *
 have hrep : List.replicate fs.length (AV.d (D.int IntKind.i64 0)) = acs (List.replicate fs.length 0) := by simp [acs]
 simp only [zkm, go_sem, lM, Int.toNat_natCast, zkF, hrep]
 intro _
 refine ⟨by first | trivial | exact ⟨by omega, by omega⟩ | exact ⟨by omega, by omega, by omega⟩, ?_⟩
 try intro _
 refine zze fun K hK => ?_
 refine zzo (fun s : Nat => ⟨[(13, .d (.int .i64 s)), (12, .d (.int .i64 fs.length)), (11, .vec 10 1 0 fs.length fs.length), (5, .vec 10 1 0 fs.length fs.length), (2, .ptr 2 0), (3, .ptr 3 0)],
  [(10, acs (List.replicate s 2 ++ List.replicate (fs.length - s) 0)), (3, [.d (.int .i64 pk), .d (.int .i64 pf), .d (.lst (pm.map BigT.cells)), .d (.lst (ps.map Prf.cells))]), (2, [.d (.int .i64 b.op), .d (.str b.name), .d (.int .i64 b.n), .d (.lst (b.kids.map Pred.cells)), .d (.lst (fs.map Lin.cells))])], []⟩)
  (fun s => s ≤ fs.length) (fun s => fs.length - s) 0 ?_ (Nat.zero_le _) ?_
 ·exact zzc (by simp only [go_sem, oS, nZ, List.replicate_zero, Nat.sub_zero, zzg])
 ·intro j hj
  rcases Nat.lt_or_ge j fs.length with h | h
  ·have hlt : ((j : Int) < (fs.length : Int)) = True := eq_true (by omega)
   have hd : decide ((j : Int) < (fs.length : Int)) = true := decide_eq_true (by omega)
   have hw : IntKind.i64.wrap ((j : Int) + 1) = ((j + 1 : Nat) : Int) := zzd (by omega)
   have e1 : List.replicate j (2 : Int) ++ List.replicate (fs.length - j) 0 = List.replicate j 2 ++ 0 :: List.replicate (fs.length - (j + 1)) 0 := by
    have : fs.length - j = (fs.length - (j + 1)) + 1 := by omega
    rw [this, List.replicate_succ]
   have e2 : List.replicate j (2 : Int) ++ 2 :: List.replicate (fs.length - (j + 1)) 0 = List.replicate (j + 1) 2 ++ List.replicate (fs.length - (j + 1)) 0 := by
    rw [List.replicate_succ', List.append_assoc]; rfl
   have hro := zzX e1 (by simp : (List.replicate j (2 : Int)).length = j)
   have hput := zxp (y := 2) e1 (by simp : (List.replicate j (2 : Int)).length = j)
   rw [e2] at hput
   simp only [zyK, go_sem, hd, hlt, Int.toNat_natCast, Nat.mul_one, zA, hro, hput, hw]
   exact ⟨j + 1, zzc (by simp only [go_sem, oS, zzg]), h, by omega⟩
  ·obtain rfl : j = fs.length := by omega
   simp only [zyK, go_sem, Int.lt_irrefl, decide_false, hK, Nat.sub_self, List.replicate_zero, List.append_nil]
   refine zjX ⟨[(1000, 10)], [], [], _, _, _, .one (.bool ok)⟩ hr rfl rfl (okSig rfl ⟨⟨rfl, rfl, rfl, rfl, rfl, trivial⟩, ⟨rfl, rfl, rfl, rfl, trivial⟩, rfl, trivial⟩) ?_
   simp only [afterB, renMem, getTM, if_true, Option.getD_some, newAll, killAll, List.nil_append, List.singleton_append, CV.toAV0, AV.ren0, AV.ren1, go_sem, mC, mN, List.cons_append, zJk]
   cases ok <;> simp only [go_sem, Bool.false_eq_true, if_false, if_true]
theorem zVd (a : AtT) (hf : a.forms.length ≤ 1000) (p : Prf) :
  E.C zkY [.agg a.cells, .agg p.cells] (.one (.int .i64 (if rightB a.body a.forms p (List.replicate a.forms.length 2) then 0 else 20))) := by
 have hr := zVf Z a hf p (List.replicate a.forms.length 2) (by simpa using hf)
 refine Z.zkY _ _ ⟨bl rfl, ?_⟩
 generalize rightB a.body a.forms p (List.replicate a.forms.length 2) = R at *
 obtain ⟨pk, pf, pm, ps⟩ := p
 rw [Prf.zzq] at *
 obtain ⟨b, fs⟩ := a
 simp only [AtT.cells] at *
 simp only [zZx, go_sem]
 refine zze fun K hK => ?_
 refine zzh fs (fun _ => True) (fun done _ => ⟨[(6, .d (.int .i64 done.length)), (5, .own 5 1 ((List.replicate done.length (2 : Int)).map icell)), (2, .ptr 2 0), (3, .ptr 3 0)],
  [(3, [.d (.int .i64 pk), .d (.int .i64 pf), .d (.lst (pm.map BigT.cells)), .d (.lst (ps.map Prf.cells))]), (2, [.d (.int .i64 b.op), .d (.str b.name), .d (.int .i64 b.n), .d (.lst (b.kids.map Pred.cells)), .d (.lst (fs.map Lin.cells))])], [(5, true)]⟩) ?_ trivial ?_ ?_
 ·exact zxc 5 5 1 [] [(5, 5)] rfl (by simp) rfl (by simp only [Ent0, go_sem, cN, oS, mN, lN, nZ, List.replicate_zero])
 ·intro done x r hl _
  have hlt := zzw hl
  have hd : decide ((done.length : Int) < (fs.length : Int)) = true := decide_eq_true hlt
  have hdl : done.length < fs.length := by rw [hl]; simp
  have hw : IntKind.i64.wrap ((done.length : Int) + 1) = ((done.length + 1 : Nat) : Int) := zzd (by omega)
  simp only [zwZ, go_sem, hd, lM, List.length_replicate]
  try intro _
  simp only [hw]
  refine ⟨⟨by simp [icell], by omega, by omega⟩, zzs [(5, 16)] ?_⟩
  simp only [go_sem, cN, oS, lA, lC, lN, zA, List.replicate_succ', mA, mC, mN, icell]
 ·intro _
  simp only [zwZ, go_sem, Int.lt_irrefl, decide_false, hK, lM]
  try intro _
  refine zzb hr ?_
  cases R <;> simp only [go_sem, Bool.false_eq_true, if_false, if_true]
end Go.Abs
end
section
namespace Go.Abs
abbrev w64 (n : Int) : Int := IntKind.i64.wrap n
mutual
def nodesS : Pred → Int → Int
 | .mk _ s _ ks, most => nodesL ks (w64 (1 + w64 ((s.length : Int).tdiv 100))) most
def nodesL : List Pred → Int → Int → Int
 | [], n, _ => n
 | k :: ks, n, most => if n ≤ most then nodesL ks (w64 (n + nodesS k (w64 (most - n)))) most else n
end
def multsL : List BigT → Int → Int → Int
 | [], n, _ => n
 | a :: r, n, most => if n ≤ most then multsL r (w64 (w64 (n + 1) + a.ds.length)) most else n
mutual
def partsS : Prf → Int → Int
 | .mk _ _ ms ks, most => partsL ks (multsL ms 1 most) most
def partsL : List Prf → Int → Int → Int
 | [], n, _ => n
 | k :: ks, n, most => if n ≤ most then partsL ks (w64 (n + partsS k (w64 (most - n)))) most else n
end
def coefGo : Nat → List Coef → Bool
 | _, [] => true
 | k, c :: r => if decide ((k : Int) ≥ 10) || decide ((c.name.length : Int) > 100) then false else coefGo (k + 1) r
def smallS (a : AtT) (p : Prf) : Bool := if decide ((a.forms.length : Int) > 12) || decide (nodesS a.body 300 > 300) || decide (partsS p 500 > 500) then false else a.forms.all fun f => coefGo 0 f.coefs
theorem zvW {a : AtT} {p : Prf} (h : smallS a p = true) : a.forms.length ≤ 12 := by
 unfold smallS at h
 split at h
 ·cases h
 ·rename_i h2
  simp only [Bool.or_eq_true, not_or, decide_eq_true_eq] at h2
  omega
def isP (s : Str) : Pred := .mk 10 [] 0 [.mk 3 s 0 [], .mk 1 [] 0 []]
theorem zqo (s : Str) : (isP s).cells = [.int .i64 10, .str [], .int .i64 0, .lst [[.int .i64 3, .str s, .int .i64 0, .lst []], [.int .i64 1, .str [], .int .i64 0, .lst []]]] := by
 unfold isP; rw [Pred.zzt]; simp only [Pred.op, Pred.name, Pred.n, Pred.kids, mC, mN]; rw [Pred.zzt, Pred.zzt]; rfl
variable {E : AEnv} (Z : Sys E)
include Z
theorem zKU (s : Str) : E.C zYH [.one (.str s)] (.agg (isP s).cells) := by
 refine Z.zYH _ _ ⟨bl rfl, ?_⟩
 rw [zqo]
 simp only [zKD, go_sem]
theorem zKV (p : Pred) : ∀ most : Int, E.C zw4 [.agg p.cells, .one (.int .i64 most)] (.one (.int .i64 (nodesS p most))) := by
 induction p using Pred.ind with
 | h o s n ks ih =>
 intro most
 refine Z.zw4 _ _ ⟨bl rfl, ?_⟩
 generalize hR : nodesS (.mk o s n ks) most = R
 rw [nodesS] at hR
 rw [cellsM]
 simp only [zZh, go_sem]
 intro _
 refine ⟨by first | trivial | omega | decide, ?_⟩
 refine zze fun K hK => ?_
 refine zzo (fun s1 : LoopP Pred => ⟨[(6, .d (.int .i64 s1.d.length)), (5, .d (.int .i64 s1.n)), (1, .d (.int .i64 most)), (2, .ptr 2 0)], [(2, [.d (.int .i64 o), .d (.str s), .d (.int .i64 n), .d (.lst (ks.map Pred.cells))])], []⟩)
  (fun s1 => s1.d ++ s1.r = ks ∧ nodesL s1.r s1.n most = R) (fun s1 => s1.r.length) ⟨[], ks, w64 (1 + w64 ((s.length : Int).tdiv 100))⟩ ?_ ⟨rfl, hR⟩ ?_
 ·exact zzc (by simp only [go_sem, oS, lN, nZ])
 ·rintro ⟨d, r, m⟩ ⟨g1, g2⟩
  simp only at g1 g2
  cases r with
  | nil =>
   rw [List.append_nil] at g1
   subst g1
   rw [nodesL] at g2
   subst g2
   simp only [zxr, go_sem, Int.lt_irrefl, decide_false, hK, lM]
   try intro _
   try simp only [go_sem]
  | cons x r =>
   have hx := zzj (f := Pred.cells) g1.symm rfl
   have hdl : d.length < ks.length := by rw [← g1]; simp
   have hlt : ((d.length : Int) < (ks.length : Int)) = True := eq_true (by omega)
   have hd : decide ((d.length : Int) < (ks.length : Int)) = true := decide_eq_true (by omega)
   have ihx := ih x (by rw [← g1]; simp) (w64 (most - m))
   rw [nodesL] at g2
   cases c1 : decide (m ≤ most) with
   | false =>
    rw [if_neg (of_decide_eq_false c1)] at g2
    subst g2
    simp only [zxr, go_sem, hd, hlt, c1, hK, lM]
    try intro _
    try simp only [go_sem]
   | true =>
    rw [if_pos (of_decide_eq_true c1)] at g2
    obtain ⟨xo, xn, xi, xk⟩ := x
    rw [cellsM] at hx ihx
    simp only [zxr, go_sem, hd, hlt, c1, hx, lM]
    intro hlen
    have hw : IntKind.i64.wrap ((d.length : Int) + 1) = ((d.length + 1 : Nat) : Int) := zzd (by omega)
    refine zzb ihx ?_
    simp only [go_sem, hw]
    refine ⟨⟨d ++ [.mk xo xn xi xk], r, w64 (m + nodesS (.mk xo xn xi xk) (w64 (most - m)))⟩, zzc (by simp only [go_sem, oS, lA, lC, lN, zA]), ⟨by rw [← g1, List.append_assoc]; rfl, g2⟩, by simp⟩
theorem zZN (p : Prf) : E.C zyt [.agg p.cells] (.one (.bool p.evals)) := by
 induction p using Prf.ind with
 | h k f ms ks ih =>
 refine Z.zyt _ _ ⟨bl rfl, ?_⟩
 generalize hR : Prf.evals (.mk k f ms ks) = R
 rw [Prf.evals, Prf.zqS] at hR
 rw [Prf.zzq]
 simp only [zvn, go_sem]
 cases q1 : (k != 1) with
 | true =>
  cases q2 : (k != 3) with
  | true =>
   rw [q1, q2] at hR; simp only [Bool.and_self, Bool.not_true, Bool.false_and] at hR; subst hR
   simp only [go_sem]
  | false =>
   rw [q1, q2] at hR; simp only [Bool.and_false, Bool.not_false, Bool.true_and] at hR
   simp only [go_sem]
   refine zze fun K hK => ?_
   refine zzh ks (fun done => ∀ y ∈ done, y.evals = true) (fun done _ => ⟨[(3, .d (.int .i64 done.length)), (1, .ptr 1 0)], [(1, [.d (.int .i64 k), .d (.int .i64 f), .d (.lst (ms.map BigT.cells)), .d (.lst (ks.map Prf.cells))])], []⟩) ?_ (by simp) ?_ ?_
   ·exact zzc (by simp only [go_sem, oS, lN, nZ])
   ·intro done x r hl hI
    have hlt := zzw hl
    have hx := zzj (f := Prf.cells) hl rfl
    have hd : decide ((done.length : Int) < (ks.length : Int)) = true := decide_eq_true hlt
    have ihx := ih x (by rw [hl]; simp)
    have hall : x.evals = false → R = false := fun h => by rw [← hR, hl]; simp [h]
    obtain ⟨xk, xf, xm, xs⟩ := x
    rw [Prf.zzq] at hx ihx
    simp only [zz2, go_sem, hd, hlt, hx, lM]
    intro hlen
    have hw : IntKind.i64.wrap ((done.length : Int) + 1) = ((done.length + 1 : Nat) : Int) := zzd (by omega)
    refine zzb ihx ?_
    cases hb : Prf.evals (.mk xk xf xm xs) with
    | false =>
     have := hall hb
     subst this
     simp only [go_sem, hK]
    | true =>
     simp only [go_sem, hw]
     exact ⟨zzc (by simp only [go_sem, oS, lA, lC, lN, zA]), zxF hI hb⟩
   ·intro hI
    have : true = R := by rw [← hR]; exact (List.all_eq_true.2 hI).symm
    subst this
    simp only [zz2, go_sem, Int.lt_irrefl, decide_false, hK, lM]
    try intro _
    try simp only [go_sem]
 | false =>
  rw [q1] at hR; simp only [Bool.false_and, Bool.not_false, Bool.true_and] at hR
  simp only [go_sem]
  refine zze fun K hK => ?_
  refine zzh ks (fun done => ∀ y ∈ done, y.evals = true) (fun done _ => ⟨[(3, .d (.int .i64 done.length)), (1, .ptr 1 0)], [(1, [.d (.int .i64 k), .d (.int .i64 f), .d (.lst (ms.map BigT.cells)), .d (.lst (ks.map Prf.cells))])], []⟩) ?_ (by simp) ?_ ?_
  ·exact zzc (by simp only [go_sem, oS, lN, nZ])
  ·intro done x r hl hI
   have hlt := zzw hl
   have hx := zzj (f := Prf.cells) hl rfl
   have hd : decide ((done.length : Int) < (ks.length : Int)) = true := decide_eq_true hlt
   have ihx := ih x (by rw [hl]; simp)
   have hall : x.evals = false → R = false := fun h => by rw [← hR, hl]; simp [h]
   obtain ⟨xk, xf, xm, xs⟩ := x
   rw [Prf.zzq] at hx ihx
   simp only [zz2, go_sem, hd, hlt, hx, lM]
   intro hlen
   have hw : IntKind.i64.wrap ((done.length : Int) + 1) = ((done.length + 1 : Nat) : Int) := zzd (by omega)
   refine zzb ihx ?_
   cases hb : Prf.evals (.mk xk xf xm xs) with
   | false =>
    have := hall hb
    subst this
    simp only [go_sem, hK]
   | true =>
    simp only [go_sem, hw]
    exact ⟨zzc (by simp only [go_sem, oS, lA, lC, lN, zA]), zxF hI hb⟩
  ·intro hI
   have : true = R := by rw [← hR]; exact (List.all_eq_true.2 hI).symm
   subst this
   simp only [zz2, go_sem, Int.lt_irrefl, decide_false, hK, lM]
   try intro _
   try simp only [go_sem]
theorem zKT (p : Prf) (g : Int) : E.C zw3 [.agg p.cells, .one (.int .i64 g)] (.one (.bool (p.cases' g))) := by
 induction p using Prf.ind with
 | h k f ms ks ih =>
 refine Z.zw3 _ _ ⟨bl rfl, ?_⟩
 generalize hR : Prf.cases' g (.mk k f ms ks) = R
 rw [Prf.cases', Prf.zqN] at hR
 rw [Prf.zzq]
 simp only [zZg, go_sem]
 cases q1 : (k == 3 && f == g) with
 | true =>
  rw [q1] at hR; simp only [Bool.true_or] at hR; subst hR
  rw [Bool.and_eq_true] at q1
  simp only [go_sem, q1.1, q1.2]
 | false =>
  rw [q1] at hR; simp only [Bool.false_or] at hR
  have e : ∀ b : Bool, (k == 3) = b → (b && (f == g)) = false := fun b hb => by rw [← hb]; exact q1
  cases q2 : (k == 3) with
  | true =>
   have q3 : (f == g) = false := by have := e true q2; simpa using this
   simp only [go_sem, q3]
   refine zze fun K hK => ?_
   refine zzh ks (fun done => ∀ y ∈ done, y.cases' g = false) (fun done _ => ⟨[(5, .d (.int .i64 done.length)), (1, .d (.int .i64 g)), (2, .ptr 2 0)], [(2, [.d (.int .i64 k), .d (.int .i64 f), .d (.lst (ms.map BigT.cells)), .d (.lst (ks.map Prf.cells))])], []⟩) ?_ (by simp) ?_ ?_
   ·exact zzc (by simp only [go_sem, oS, lN, nZ])
   ·intro done x r hl hI
    have hlt := zzw hl
    have hx := zzj (f := Prf.cells) hl rfl
    have hd : decide ((done.length : Int) < (ks.length : Int)) = true := decide_eq_true hlt
    have ihx := ih x (by rw [hl]; simp)
    have hall : x.cases' g = true → R = true := fun h => by rw [← hR, hl]; simp [h]
    obtain ⟨xk, xf, xm, xs⟩ := x
    rw [Prf.zzq] at hx ihx
    simp only [zyJ, go_sem, hd, hlt, hx, lM]
    intro hlen
    have hw : IntKind.i64.wrap ((done.length : Int) + 1) = ((done.length + 1 : Nat) : Int) := zzd (by omega)
    refine zzb ihx ?_
    cases hb : Prf.cases' g (.mk xk xf xm xs) with
    | true =>
     have := hall hb
     subst this
     simp only [go_sem, hK]
    | false =>
     simp only [go_sem, hw]
     exact ⟨zzc (by simp only [go_sem, oS, lA, lC, lN, zA]), zxF hI hb⟩
   ·intro hI
    have : false = R := by rw [← hR]; exact (List.any_eq_false.2 fun y hy => by rw [hI y hy]; simp).symm
    subst this
    simp only [zyJ, go_sem, Int.lt_irrefl, decide_false, hK, lM]
    try intro _
    try simp only [go_sem]
  | false =>
   simp only [go_sem]
   refine zze fun K hK => ?_
   refine zzh ks (fun done => ∀ y ∈ done, y.cases' g = false) (fun done _ => ⟨[(5, .d (.int .i64 done.length)), (1, .d (.int .i64 g)), (2, .ptr 2 0)], [(2, [.d (.int .i64 k), .d (.int .i64 f), .d (.lst (ms.map BigT.cells)), .d (.lst (ks.map Prf.cells))])], []⟩) ?_ (by simp) ?_ ?_
   ·exact zzc (by simp only [go_sem, oS, lN, nZ])
   ·intro done x r hl hI
    have hlt := zzw hl
    have hx := zzj (f := Prf.cells) hl rfl
    have hd : decide ((done.length : Int) < (ks.length : Int)) = true := decide_eq_true hlt
    have ihx := ih x (by rw [hl]; simp)
    have hall : x.cases' g = true → R = true := fun h => by rw [← hR, hl]; simp [h]
    obtain ⟨xk, xf, xm, xs⟩ := x
    rw [Prf.zzq] at hx ihx
    simp only [zyJ, go_sem, hd, hlt, hx, lM]
    intro hlen
    have hw : IntKind.i64.wrap ((done.length : Int) + 1) = ((done.length + 1 : Nat) : Int) := zzd (by omega)
    refine zzb ihx ?_
    cases hb : Prf.cases' g (.mk xk xf xm xs) with
    | true =>
     have := hall hb
     subst this
     simp only [go_sem, hK]
    | false =>
     simp only [go_sem, hw]
     exact ⟨zzc (by simp only [go_sem, oS, lA, lC, lN, zA]), zxF hI hb⟩
   ·intro hI
    have : false = R := by rw [← hR]; exact (List.any_eq_false.2 fun y hy => by rw [hI y hy]; simp).symm
    subst this
    simp only [zyJ, go_sem, Int.lt_irrefl, decide_false, hK, lM]
    try intro _
    try simp only [go_sem]
theorem zKW (p : Prf) : ∀ most : Int, E.C zw5 [.agg p.cells, .one (.int .i64 most)] (.one (.int .i64 (partsS p most))) := by
 induction p using Prf.ind with
 | h k f ms ks ih =>
 intro most
 refine Z.zw5 _ _ ⟨bl rfl, ?_⟩
 generalize hR : partsS (.mk k f ms ks) most = R
 rw [partsS] at hR
 rw [Prf.zzq]
 simp only [zZi, go_sem]
 refine zze fun K hK => ?_
 refine zzo (fun s1 : LoopP BigT => ⟨[(6, .d (.int .i64 s1.d.length)), (5, .d (.int .i64 s1.n)), (1, .d (.int .i64 most)), (2, .ptr 2 0)], [(2, [.d (.int .i64 k), .d (.int .i64 f), .d (.lst (ms.map BigT.cells)), .d (.lst (ks.map Prf.cells))])], []⟩)
  (fun s1 => s1.d ++ s1.r = ms ∧ partsL ks (multsL s1.r s1.n most) most = R) (fun s1 => s1.r.length) ⟨[], ms, 1⟩ ?_ ⟨rfl, hR⟩ ?_
 ·exact zzc (by simp only [go_sem, oS, lN, nZ])
 ·rintro ⟨d, r, m⟩ ⟨g1, g2⟩
  simp only at g1 g2
  have tail : ∀ (m : Int) (st : St), getS st.slots 5 = .d (.int .i64 m) → getS st.slots 1 = .d (.int .i64 most) → getS st.slots 2 = .ptr 2 0 → getM st.mem 2 = some [.d (.int .i64 k), .d (.int .i64 f), .d (.lst (ms.map BigT.cells)), .d (.lst (ks.map Prf.cells))] → st.tk = [] → partsL ks m most = R →
    K (.exit 0) st := by
   intro m st h5 h1 h2 hm ht hr
   rw [hK]
   simp only [zYg, if_true, zY6, go_sem]
   clear hK g1 g2
   refine zze fun K2 hK2 => ?_
   refine zzo (fun s1 : LoopP Prf => ⟨[(7, .d (.int .i64 s1.d.length)), (5, .d (.int .i64 s1.n)), (1, .d (.int .i64 most)), (2, .ptr 2 0)], [(2, [.d (.int .i64 k), .d (.int .i64 f), .d (.lst (ms.map BigT.cells)), .d (.lst (ks.map Prf.cells))])], []⟩)
    (fun s1 => s1.d ++ s1.r = ks ∧ partsL s1.r s1.n most = R) (fun s1 => s1.r.length) ⟨[], ks, m⟩ ?_ ⟨rfl, hr⟩ ?_
   ·exact zzc (by simp only [go_sem, oS, lN, nZ, h5, h1, h2, hm])
   ·rintro ⟨d, r, m⟩ ⟨g1, g2⟩
    simp only at g1 g2
    cases r with
    | nil =>
     rw [List.append_nil] at g1
     subst g1
     rw [partsL] at g2
     subst g2
     simp only [zxs, go_sem, Int.lt_irrefl, decide_false, hK2, lM]
     try intro _
     try simp only [go_sem]
    | cons x r =>
     have hx := zzj (f := Prf.cells) g1.symm rfl
     have hdl : d.length < ks.length := by rw [← g1]; simp
     have hlt : ((d.length : Int) < (ks.length : Int)) = True := eq_true (by omega)
     have hd : decide ((d.length : Int) < (ks.length : Int)) = true := decide_eq_true (by omega)
     have ihx := ih x (by rw [← g1]; simp) (w64 (most - m))
     rw [partsL] at g2
     cases c1 : decide (m ≤ most) with
     | false =>
      rw [if_neg (of_decide_eq_false c1)] at g2
      subst g2
      simp only [zxs, go_sem, hd, hlt, c1, hK2, lM]
      try intro _
      try simp only [go_sem]
     | true =>
      rw [if_pos (of_decide_eq_true c1)] at g2
      obtain ⟨xk, xf, xm, xs⟩ := x
      rw [Prf.zzq] at hx ihx
      simp only [zxs, go_sem, hd, hlt, c1, hx, lM]
      intro hlen
      have hw : IntKind.i64.wrap ((d.length : Int) + 1) = ((d.length + 1 : Nat) : Int) := zzd (by omega)
      refine zzb ihx ?_
      simp only [go_sem, hw]
      refine ⟨⟨d ++ [.mk xk xf xm xs], r, w64 (m + partsS (.mk xk xf xm xs) (w64 (most - m)))⟩, zzc (by simp only [go_sem, oS, lA, lC, lN, zA]), ⟨by rw [← g1, List.append_assoc]; rfl, g2⟩, by simp⟩
  cases r with
  | nil =>
   rw [List.append_nil] at g1
   subst g1
   rw [multsL] at g2
   simp only [zxt, go_sem, Int.lt_irrefl, decide_false, lM]
   try intro _
   try simp only [go_sem]
   exact tail m _ rfl rfl rfl rfl rfl g2
  | cons x r =>
   have hx := zzj (f := BigT.cells) g1.symm rfl
   have hdl : d.length < ms.length := by rw [← g1]; simp
   have hlt : ((d.length : Int) < (ms.length : Int)) = True := eq_true (by omega)
   have hd : decide ((d.length : Int) < (ms.length : Int)) = true := decide_eq_true (by omega)
   rw [multsL] at g2
   cases c1 : decide (m ≤ most) with
   | false =>
    rw [if_neg (of_decide_eq_false c1)] at g2
    simp only [zxt, go_sem, hd, hlt, c1, lM]
    try intro _
    try simp only [go_sem]
    exact tail m _ rfl rfl rfl rfl rfl g2
   | true =>
    rw [if_pos (of_decide_eq_true c1)] at g2
    obtain ⟨xn, xd⟩ := x
    simp only [BigT.cells] at hx
    simp only [zxt, go_sem, hd, hlt, c1, hx, lM]
    intro hlen
    try intro _
    have hw : IntKind.i64.wrap ((d.length : Int) + 1) = ((d.length + 1 : Nat) : Int) := zzd (by omega)
    simp only [hw]
    refine ⟨⟨d ++ [⟨xn, xd⟩], r, w64 (w64 (m + 1) + xd.length)⟩, zzc (by simp only [go_sem, oS, lA, lC, lN, zA]), ⟨by rw [← g1, List.append_assoc]; rfl, g2⟩, by simp⟩
end Go.Abs
end
section
namespace Go.Abs
variable {E : AEnv} (Z : Sys E)
include Z
set_option maxHeartbeats 1000000 in
theorem zvP (a : AtT) (p : Prf) : E.C zwa [.agg a.cells, .agg p.cells] (.one (.bool (smallS a p))) := by
 have h1 := zKV Z a.body 300
 have h2 := zKW Z p 500
 refine Z.zwa _ _ ⟨bl rfl, ?_⟩
 generalize hR : smallS a p = R
 unfold smallS at hR
 rw [zkD] at h1
 generalize nodesS a.body 300 = n1 at *
 generalize partsS p 500 = n2 at *
 obtain ⟨pk, pf, pm, ps⟩ := p
 rw [Prf.zzq] at *
 obtain ⟨b, fs⟩ := a
 simp only [AtT.cells] at *
 simp only [zZj, go_sem, lM]
 intro _
 cases q1 : decide ((fs.length : Int) > 12) with
 | true =>
  rw [q1] at hR; simp only [Bool.true_or, if_true] at hR; subst hR
  simp only [go_sem]
  refine ⟨.one (.int .i64 0), ?_⟩
  simp only [go_sem]
  refine ⟨.one (.int .i64 0), ?_⟩
  simp only [go_sem]
 | false =>
 rw [q1] at hR; simp only [Bool.false_or] at hR
 simp only [go_sem]
 refine zzb h1 ?_
 simp only [go_sem]
 cases q2 : decide (n1 > 300) with
 | true =>
  rw [q2] at hR; simp only [Bool.true_or, if_true] at hR; subst hR
  simp only [go_sem]
  refine ⟨.one (.int .i64 0), ?_⟩
  simp only [go_sem]
 | false =>
 rw [q2] at hR; simp only [Bool.false_or] at hR
 simp only [go_sem]
 refine zzb h2 ?_
 simp only [go_sem]
 cases q3 : decide (n2 > 500) with
 | true =>
  rw [q3] at hR; simp only [if_true] at hR; subst hR
  simp only [go_sem]
 | false =>
 rw [q3] at hR; simp only [Bool.false_eq_true, if_false] at hR
 simp only [go_sem]
 refine zze fun K hK => ?_
 refine zzh fs (fun done => ∀ y ∈ done, coefGo 0 y.coefs = true) (fun done _ => ⟨[(5, .d (.int .i64 done.length)), (2, .ptr 2 0)], [(2, [.d (.int .i64 b.op), .d (.str b.name), .d (.int .i64 b.n), .d (.lst (b.kids.map Pred.cells)), .d (.lst (fs.map Lin.cells))])], []⟩) ?_ (by simp) ?_ ?_
 ·exact zzc (by simp only [go_sem, oS, lN, nZ])
 ·intro done x r hl hI
  have hlt := zzw hl
  have hx := zzj (f := Lin.cells) hl rfl
  have hd : decide ((done.length : Int) < (fs.length : Int)) = true := decide_eq_true hlt
  have hlt2 : ((done.length : Int) < (fs.length : Int)) = True := eq_true hlt
  have hall : coefGo 0 x.coefs = false → R = false := fun h => by rw [← hR, hl]; simp [h]
  obtain ⟨cs, c⟩ := x
  simp only at hall
  simp only [Lin.cells] at hx
  simp only [zwL, go_sem, hd, lM]
  intro hlen
  have hw : IntKind.i64.wrap ((done.length : Int) + 1) = ((done.length + 1 : Nat) : Int) := zzd (by omega)
  refine zze fun K1 hK1 => ?_
  refine zzo (fun s1 : LoopP Coef => ⟨[(6, .d (.int .i64 s1.d.length)), (5, .d (.int .i64 done.length)), (2, .ptr 2 0)], [(2, [.d (.int .i64 b.op), .d (.str b.name), .d (.int .i64 b.n), .d (.lst (b.kids.map Pred.cells)), .d (.lst (fs.map Lin.cells))])], []⟩)
   (fun s1 => s1.d ++ s1.r = cs ∧ coefGo s1.d.length s1.r = coefGo 0 cs) (fun s1 => s1.r.length) ⟨[], cs, 0⟩ ?_ ⟨rfl, rfl⟩ ?_
  ·exact zzc (by simp only [go_sem, oS, lN, nZ])
  ·rintro ⟨d, r2, m⟩ ⟨g1, g2⟩
   simp only at g1 g2
   cases r2 with
   | nil =>
    rw [List.append_nil] at g1
    subst g1
    rw [coefGo] at g2
    simp only [zxu, go_sem, hlt2, hx, Int.lt_irrefl, decide_false, hK1, lM]
    try intro _
    simp only [go_sem, hw]
    exact ⟨zzc (by simp only [go_sem, oS, lA, lC, lN, zA]), zxF hI g2.symm⟩
   | cons y r2 =>
    have hy := zzj (f := Coef.cells) g1.symm rfl
    have hdl : d.length < cs.length := by rw [← g1]; simp
    have hlt3 : ((d.length : Int) < (cs.length : Int)) = True := eq_true (by omega)
    have hd3 : decide ((d.length : Int) < (cs.length : Int)) = true := decide_eq_true (by omega)
    rw [coefGo] at g2
    obtain ⟨yn, yv⟩ := y
    simp only [Coef.cells] at hy
    simp only at g2
    cases q4 : decide ((d.length : Int) ≥ 10) with
    | true =>
     rw [q4] at g2; simp only [Bool.true_or, if_true] at g2
     have := hall g2.symm
     subst this
     simp only [zxu, go_sem, hlt2, hx, hlt3, hd3, hy, q4, lM]
     try intro _
     try simp only [go_sem]
     try intro _
     simp only [go_sem, hK1, hK]
    | false =>
     rw [q4] at g2; simp only [Bool.false_or] at g2
     simp only [zxu, go_sem, hlt2, hx, hlt3, hd3, hy, q4, lM]
     intro hlen2
     have hw3 : IntKind.i64.wrap ((d.length : Int) + 1) = ((d.length + 1 : Nat) : Int) := zzd (by omega)
     try simp only [go_sem]
     try intro _
     cases q5 : decide ((yn.length : Int) > 100) with
     | true =>
      rw [q5] at g2; simp only [if_true] at g2
      have := hall g2.symm
      subst this
      simp only [go_sem, hK1, hK]
     | false =>
      rw [q5] at g2; simp only [Bool.false_eq_true, if_false] at g2
      simp only [go_sem, hw3]
      refine ⟨⟨d ++ [⟨yn, yv⟩], r2, 0⟩, zzc (by simp only [go_sem, oS, lA, lC, lN, zA]), ⟨by rw [← g1, List.append_assoc]; rfl, by rw [← g2]; simp⟩, by simp⟩
 ·intro hI
  have : true = R := by rw [← hR]; exact (List.all_eq_true.2 hI).symm
  subst this
  simp only [zwL, go_sem, Int.lt_irrefl, decide_false, hK, lM]
  try intro _
  try simp only [go_sem]
end Go.Abs
end
section
namespace Go.Abs
def exF : List Lin := [⟨[⟨[120], 1⟩], 0⟩, ⟨[⟨[120], 1⟩], -1⟩]
def exB : Pred := .mk 15 [] 0 [isP [48], isP [49]]
def noP : Prf := .mk 1 0 [] []
def twoP : Prf := .mk 2 0 [bigZ 1, bigZ (-1)] []
def inP : Prf := .mk 3 1 [] [noP, twoP, noP]
def exP : Prf := .mk 3 0 [] [noP, inP, noP]
def exT7 : Prf := .mk 3 1 [] [noP, inP, noP]
theorem yxX : exP.size = 7 := by decide
theorem yz9 : exP.depth = 3 := by decide
theorem yw6 : Lib.itoa ((0 : Nat) : Int) = [48] := by rw [zqp, Lib.decDigits, dif_pos (by omega)]; rfl
theorem yw7 : Lib.itoa ((1 : Nat) : Int) = [49] := by rw [zqp, Lib.decDigits, dif_pos (by omega)]; rfl
theorem leaf0 (s0 s1 : Int) : leafS [s0, s1] [.mk 3 [48] 0 [], .mk 1 [] 0 []] = if sgnOk s0 then some s0 else none := by
 have h1 : (Pred.mk 3 [48] 0 []).same (.mk 3 (Pred.mk 3 [48] 0 []).name 0 []) = true := by decide
 have h2 : (Pred.mk 1 [] 0 []).same (.mk 1 [] 0 []) = true := by decide
 have h3 : (([49] : Str) == [48]) = false := by decide
 have e : leafS [s0, s1] [.mk 3 [48] 0 [], .mk 1 [] 0 []] = if (Pred.mk 3 [48] 0 []).same (.mk 3 (Pred.mk 3 [48] 0 []).name 0 []) && (Pred.mk 1 [] 0 []).same (.mk 1 [] 0 []) then lookGo [48] 0 [s0, s1] else none := rfl
 rw [e, h1, h2]
 simp only [Bool.and_self, if_true]
 rw [lookGo, lookGo, lookGo, yw6, yw7, h3]
 simp
theorem leaf1 (s0 s1 : Int) : leafS [s0, s1] [.mk 3 [49] 0 [], .mk 1 [] 0 []] = if sgnOk s1 then some s1 else none := by
 have h1 : (Pred.mk 3 [49] 0 []).same (.mk 3 (Pred.mk 3 [49] 0 []).name 0 []) = true := by decide
 have h2 : (Pred.mk 1 [] 0 []).same (.mk 1 [] 0 []) = true := by decide
 have h3 : (([48] : Str) == [49]) = false := by decide
 have e : leafS [s0, s1] [.mk 3 [49] 0 [], .mk 1 [] 0 []] = if (Pred.mk 3 [49] 0 []).same (.mk 3 (Pred.mk 3 [49] 0 []).name 0 []) && (Pred.mk 1 [] 0 []).same (.mk 1 [] 0 []) then lookGo [49] 0 [s0, s1] else none := rfl
 rw [e, h1, h2]
 simp only [Bool.and_self, if_true]
 rw [lookGo, lookGo, lookGo, yw6, yw7, h3]
 simp
theorem yz8 (s0 s1 : Int) (nm : Str) : evalS [s0, s1] (.mk 10 [] 0 [.mk 3 nm 0 [], .mk 1 [] 0 []]) = leafV 10 (leafS [s0, s1] [.mk 3 nm 0 [], .mk 1 [] 0 []]) := by rw [evalS]; rfl
theorem ev_ex (s0 s1 : Int) : evalS [s0, s1] exB = andS (leafV 10 (if sgnOk s0 then some s0 else none)) (leafV 10 (if sgnOk s1 then some s1 else none)) := by
 unfold exB isP
 rw [evalS]
 show andS (evalS [s0, s1] _) (evalS [s0, s1] _) = _
 rw [yz8, yz8, leaf0, leaf1]
theorem zJA : varsR [⟨⟨[⟨[120],1⟩],0⟩,true⟩, ⟨⟨[⟨[120],1⟩],-1⟩,true⟩] = [[120]] := zV3 (zvN _) (by unfold Inc; simp) fun x => by rw [zqt]; simp; exact eq_comm
theorem zQm {z : Int} (h : inRange z = true) : okI z = true := zyU.2 (zkE h)
theorem yk7 : rowsS exF [0, 0] = [⟨⟨[⟨[120],1⟩],0⟩,true⟩, ⟨⟨[⟨[120],1⟩],-1⟩,true⟩] := by
 have e : ∀ a, rowS a 0 = (tightR ⟨(scaleL a 1).1, true⟩, (scaleL a 1).2) := fun a => by
  unfold rowS; rw [if_neg (by decide), if_pos (by decide), zKo]
 unfold rowsS exF
 simp only [List.zip_cons_cons, List.zip_nil_right, List.flatMap_cons, List.flatMap_nil, rowHd, e]
 rfl
theorem yvi : farS (rowsS exF [0, 0]) [bigZ 1, bigZ (-1)] = true := by
 have f1 : fitsZ 1 := zkE (by decide)
 have f2 : fitsZ (-1) := zkE (by decide)
 have hx : ixL [[120]] [120] = 0 := zX2 (p := []) (q := []) rfl (by unfold Inc; simp)
 have hs : sysE [⟨⟨[⟨[120],1⟩],0⟩,true⟩, ⟨⟨[⟨[120],1⟩],-1⟩,true⟩] = 0 := by
  unfold sysE; rw [zJA]; decide
 have o1 := zQm (z := 1) (by decide)
 have o0 := zyE
 have om := zQm (z := -1) (by decide)
 have hf : farV [⟨⟨[⟨[120],1⟩],0⟩,true⟩, ⟨⟨[⟨[120],1⟩],-1⟩,true⟩] [1, -1] = some [0, 1] := by
  unfold farV opsP opP
  rw [zJA]
  simp only [List.zip_cons_cons, List.zip_nil_right, List.flatMap_cons, List.flatMap_nil, mC, mN, List.append_nil, List.cons_append, List.nil_append, hx, accF, stepA, zerosL, lC, lN, List.replicate]
  simp [o1, o0, om]
 have hc : combS (rowsS exF [0, 0]) [bigZ 1, bigZ (-1)] = ([0], 1, 0) := by
  unfold combS combZ
  rw [yk7]
  simp only [List.all_cons, List.all_nil, zXh f1, zXh f2, mC, mN, zW6, hs, hf, zJA]
  rfl
 unfold farS
 rw [hc]; rfl
theorem no_ex (b : Pred) (fs : List Lin) (σ : List Int) : rightB b fs noP σ = (evalS σ b == 0) := by
 unfold noP; rw [rightB]; simp
theorem in_ex : rightB exB exF inP [0, 2] = true := by
 have h1 : evalS [0, -1] exB = 0 := by rw [ev_ex]; decide
 have h2 : evalS [0, 1] exB = 0 := by rw [ev_ex]; decide
 have h3 : rightB exB exF twoP [0, 0] = true := by unfold twoP; rw [rightB, yvi]; decide
 have hb : caseBad 1 [] [noP, twoP, noP] [0, 2] = false := by decide
 unfold inP
 rw [rightB, hb]
 simp only [rightK]
 show _ = true
 have e0 : ([0, 2] : List Int).set (1 : Int).toNat (0 - 1) = [0, -1] := rfl
 have e1 : ([0, 2] : List Int).set (1 : Int).toNat (0 + 1 - 1) = [0, 0] := rfl
 have e2 : ([0, 2] : List Int).set (1 : Int).toNat (0 + 1 + 1 - 1) = [0, 1] := rfl
 rw [e0, e1, e2, no_ex, no_ex, h1, h2, h3]; rfl
theorem w1 : rightB exB exF exP [2, 2] = true := by
 have h1 : evalS [-1, 2] exB = 0 := by rw [ev_ex]; decide
 have h2 : evalS [1, 2] exB = 0 := by rw [ev_ex]; decide
 have hb : caseBad 0 [] [noP, inP, noP] [2, 2] = false := by decide
 unfold exP
 rw [rightB, hb]
 simp only [rightK]
 have e0 : ([2, 2] : List Int).set (0 : Int).toNat (0 - 1) = [-1, 2] := rfl
 have e1 : ([2, 2] : List Int).set (0 : Int).toNat (0 + 1 - 1) = [0, 2] := rfl
 have e2 : ([2, 2] : List Int).set (0 : Int).toNat (0 + 1 + 1 - 1) = [1, 2] := rfl
 rw [e0, e1, e2, no_ex, no_ex, h1, h2, in_ex]; rfl
theorem w2 : rightB exB exF exT7 [2, 2] = false := by
 have hb : caseBad 1 [] [noP, inP, noP] [2, 2] = false := by decide
 have hb2 : caseBad 1 [] [noP, twoP, noP] [2, 0] = true := by decide
 have h4 : rightB exB exF inP [2, 0] = false := by unfold inP; rw [rightB, hb2]; decide
 unfold exT7
 rw [rightB, hb]
 simp only [rightK]
 have e1 : ([2, 2] : List Int).set (1 : Int).toNat (0 + 1 - 1) = [2, 0] := rfl
 rw [e1, h4]; simp
theorem w3 : rightB exB exF noP [2, 2] = false := by
 have h1 : evalS [2, 2] exB = -1 := by rw [ev_ex]; decide
 rw [no_ex, h1]; rfl
theorem w4 : rightB (.mk 2 [] 0 []) [] noP [] = true := by
 have h1 : evalS [] (.mk 2 [] 0 []) = 0 := by rw [evalS]; rfl
 rw [no_ex, h1]; rfl
theorem zKw : (⟨exB, exF⟩ : AtT).cells = [.int .i64 15, .str [], .int .i64 0, .lst [(isP [48]).cells, (isP [49]).cells], .lst [[.lst [[.str [120], .int .i64 1]], .int .i64 0], [.lst [[.str [120], .int .i64 1]], .int .i64 (-1)]]] := rfl
theorem zK1 : noP.cells = [.int .i64 1, .int .i64 0, .lst [], .lst []] := by unfold noP; rw [Prf.zzq]; rfl
theorem yzz : twoP.cells = [.int .i64 2, .int .i64 0, .lst [(bigZ 1).cells, (bigZ (-1)).cells], .lst []] := by unfold twoP; rw [Prf.zzq]; rfl
theorem yyq : inP.cells = [.int .i64 3, .int .i64 1, .lst [], .lst [noP.cells, twoP.cells, noP.cells]] := by unfold inP; rw [Prf.zzq]; rfl
theorem zKx : exP.cells = [.int .i64 3, .int .i64 0, .lst [], .lst [noP.cells, inP.cells, noP.cells]] := by unfold exP; rw [Prf.zzq]; rfl
theorem yya : exT7.cells = [.int .i64 3, .int .i64 1, .lst [], .lst [noP.cells, inP.cells, noP.cells]] := by unfold exT7; rw [Prf.zzq]; rfl
theorem zYq : NamesP exB := by
 have h1 : ∀ s : Str, s.length ≤ 1 → NamesP (isP s) := fun s hs q hq => by
  unfold isP at hq
  cases hq with
  | self => simp [Pred.name]
  | kid hk h =>
   simp only [Pred.kids, List.mem_cons, List.not_mem_nil, or_false] at hk
   rcases hk with rfl | rfl
   ·cases h with
    | self => simp only [Pred.name]; omega
    | kid hk _ => simp [Pred.kids] at hk
   ·cases h with
    | self => simp [Pred.name]
    | kid hk _ => simp [Pred.kids] at hk
 intro q hq
 unfold exB at hq
 cases hq with
 | self => simp [Pred.name]
 | kid hk h =>
  simp only [Pred.kids, List.mem_cons, List.not_mem_nil, or_false] at hk
  rcases hk with rfl | rfl
  ·exact h1 _ (by decide) q h
  ·exact h1 _ (by decide) q h
theorem zQF : NamesP (.mk 2 [] 0 []) := fun q hq => by
 cases hq with
 | self => simp [Pred.name]
 | kid hk _ => simp [Pred.kids] at hk
structure Law17 (E : AEnv) : Prop where
 sys : Sys E
 union : UnionLaw E
 atoi : AtoiP E
 itoa : ItoaP E
theorem Law17.inj {E : AEnv} (L : Law17 E) : ItoaInj := by
 intro j k hj hk h
 have hlen : (Lib.itoa (j : Int)).length ≤ 1073741824 := by
  have := Lib.itoa_length_le (j : Int) (by omega) (by omega)
  omega
 obtain ⟨n, e, _, _, h3⟩ := L.atoi _ hlen
 have h1 := (h3 j (by omega) rfl).1
 have h2 := (h3 k (by omega) h).1
 omega
variable {E : AEnv} (L : Law17 E)
include L
theorem zXm : E.C zxO [] (.tup [.agg (⟨exB, exF⟩ : AtT).cells, .agg exP.cells]) := by
 have h0 := zKU L.sys [48]
 have h1 := zKU L.sys [49]
 have o1 := zYX L.sys 1 (by decide) (by decide)
 have o2 := zYX L.sys (-1) (by decide) (by decide)
 refine L.sys.zxO _ _ ⟨bl rfl, ?_⟩
 rw [zKw, zKx, yyq, yzz, zK1]
 rw [zqo] at h0 h1
 rw [zqo, zqo]
 generalize hb1 : bigZ 1 = b1 at *
 generalize hb2 : bigZ (-1) = b2 at *
 simp only [BigT.cells] at *
 simp only [zjo, go_sem]
 refine zzb h0 ?_
 simp only [go_sem]
 refine zzb h1 ?_
 simp only [go_sem]
 refine zzb o1 ?_
 simp only [go_sem]
 refine zzb o2 ?_
 simp only [go_sem]
 exact ⟨rfl, rfl, rfl, rfl, rfl, rfl, rfl, rfl⟩
theorem zvO : E.C zyk [] (.one (.bool true)) := by
 have hex := zXm L
 have hck := fun a hn hf p => zyF L.sys L.union L.atoi L.itoa a hn hf p
 have c1 := hck ⟨exB, exF⟩ zYq (by decide) exP
 have c2 := hck ⟨exB, exF⟩ zYq (by decide) exT7
 have c3 := hck ⟨exB, exF⟩ zYq (by decide) noP
 have c4 := hck ⟨.mk 2 [] 0 [], []⟩ zQF (by decide) noP
 have hs := zkR L.sys exP
 have hd := zkt L.sys exP
 have e2 : List.replicate exF.length (2 : Int) = [2, 2] := rfl
 have e3 : List.replicate ([] : List Lin).length (2 : Int) = [] := rfl
 simp only [e2, w1, w2, w3, if_true, Bool.false_eq_true, if_false] at c1 c2 c3
 simp only [e3, w4, if_true] at c4
 rw [yxX] at hs
 rw [yz9] at hd
 refine L.sys.zyk _ _ ⟨bl rfl, ?_⟩
 have ea := zKw
 have ez : (⟨.mk 2 [] 0 [], []⟩ : AtT).cells = [.int .i64 2, .str [], .int .i64 0, .lst [], .lst []] := rfl
 rw [zKx] at hex c1 hs hd
 rw [yya] at c2
 rw [ez] at c4
 have en := zK1
 generalize hin : inP.cells = ci at *
 rw [en] at hex c1 c2 c3 c4 hs hd
 rw [ea] at hex c1 c2 c3
 generalize hi0 : (isP [48]).cells = i0 at *
 generalize hi1 : (isP [49]).cells = i1 at *
 simp only [zZf, go_sem]
 refine zzb hex ?_
 simp only [go_sem]
 refine zzb c1 ?_
 simp only [go_sem, beq_self_eq_true]
 refine zzb c2 ?_
 simp only [go_sem, beq_self_eq_true]
 refine zzb c3 ?_
 simp only [go_sem, beq_self_eq_true]
 refine zzb hs ?_
 simp only [go_sem, beq_self_eq_true]
 refine zzb hd ?_
 simp only [go_sem, beq_self_eq_true]
 refine zzb c4 ?_
 simp only [go_sem, beq_self_eq_true]
end Go.Abs
end
section
namespace Go.Abs
theorem zVu {at' : List Coef} : ∀ {cs : List Coef} {s v : Int}, valGo at' s cs = (v, true) → v = s + sumC (fun n => (findC n at').1) cs
 | [], s, v, h => by cases h; simp [sumC]
 | c :: cs, s, v, h => by
  rw [valGo] at h
  split at h
  ·rename_i h1
   split at h
   ·rename_i h2
    have h3 := zVu h
    have e1 : (mulI c.n (findC c.name at').1).1 = c.n * (findC c.name at').1 := by
     unfold mulI bnd at h1 ⊢
     split at h1
     ·rename_i hc; rw [if_pos hc]
      split at h1
      ·rename_i hb; rw [if_pos hb]
      ·cases h1
     ·cases h1
    have e2 : (addI s (mulI c.n (findC c.name at').1).1).1 = s + (mulI c.n (findC c.name at').1).1 := by
     unfold addI bnd at h2 ⊢
     split at h2
     ·rename_i hc; rw [if_pos hc]
      split at h2
      ·rename_i hb; rw [if_pos hb]
      ·cases h2
     ·cases h2
    rw [h3, e2, e1, zz5]; omega
   ·cases h
  ·cases h
theorem ywZ {a : Lin} {at' : List Coef} (h : (valL a at').2 = true) : (valL a at').1 = linV (fun n => (findC n at').1) a := by
 unfold valL at *
 split at h
 ·cases h
 ·rename_i hc
  rw [if_neg hc]
  have : valGo at' a.c a.coefs = ((valGo at' a.c a.coefs).1, true) := by rw [← h]
  rw [zVu this, zwl]; omega
theorem yzw (n : Int) : sgnI n = if decide (n < 0) then -1 else if decide (n > 0) then 1 else 0 := by
 unfold sgnI
 by_cases h1 : n < 0
 ·rw [if_pos h1, decide_eq_true h1]; rfl
 ·rw [if_neg h1, decide_eq_false h1]
  by_cases h2 : n > 0
  ·rw [if_pos h2, decide_eq_true h2]; rfl
  ·rw [if_neg h2, decide_eq_false h2]; rfl
theorem zQi : ∀ t : List Int, Ref (List.replicate t.length 2) t
 | [] => trivial
 | _ :: t => ⟨.inl rfl, zQi t⟩
def ptS (x y z : Int) : List Coef := [⟨[120], w64 x⟩, ⟨[121], w64 y⟩, ⟨[122], w64 z⟩]
variable {E : AEnv} (L : Law17 E)
include L
set_option maxHeartbeats 2000000 in
theorem zJE (a : AtT) (hn : NamesP a.body) (p : Prf) : E.C zz4 [.agg a.cells, .agg p.cells] (.one (.bool true)) := by
 have haw := zvO L
 have hsm := zvP L.sys a p
 have h1 := fun h => zyF L.sys L.union L.atoi L.itoa a hn h p
 have h2 := fun h => zVd L.sys a h p
 have h3 := zkR L.sys p
 have h4 := zJg L.sys p
 have h5 := zkt L.sys p
 have h6 := zVe L.sys p
 have hf := fun h => zvW (a := a) (p := p) h
 refine L.sys.zz4 _ _ ⟨bl rfl, ?_⟩
 generalize p.size = n1 at *
 generalize p.depth = n2 at *
 generalize smallS a p = SM at *
 cases SM with
 | false =>
  obtain ⟨pk, pf, pm, ps⟩ := p
  rw [Prf.zzq] at *
  simp only [AtT.cells] at *
  simp only [zyC, go_sem]
  refine zzb hsm ?_
  simp only [go_sem]
  refine zzb haw ?_
  simp only [go_sem]
 | true =>
  have hf := hf rfl
  have h1 := h1 (by omega)
  have h2 := h2 (by omega)
  generalize (if rightB a.body a.forms p (List.replicate a.forms.length 2) = true then (0 : Int) else 20) = R at *
  obtain ⟨pk, pf, pm, ps⟩ := p
  rw [Prf.zzq] at *
  simp only [AtT.cells] at *
  simp only [zyC, go_sem]
  refine zzb hsm ?_
  simp only [go_sem]
  refine ⟨_, h1, ?_⟩
  simp only [go_sem]
  refine ⟨_, h2, ?_⟩
  simp only [go_sem, beq_self_eq_true]
  refine ⟨_, h3, ?_⟩
  simp only [go_sem]
  refine ⟨_, h4, ?_⟩
  simp only [go_sem, beq_self_eq_true]
  refine ⟨_, h5, ?_⟩
  simp only [go_sem]
  refine ⟨_, h6, ?_⟩
  simp only [go_sem, beq_self_eq_true]
  refine ⟨_, haw, ?_⟩
  simp only [go_sem]
set_option maxHeartbeats 2000000 in
theorem zQv (a : AtT) (hn : NamesP a.body) (p : Prf) (x y z : Int) : E.C zyb [.agg a.cells, .agg p.cells, .agg [.int .i8 x, .int .i8 y, .int .i8 z]] (.one (.bool true)) := by
 have haw := zvO L
 have hsm := zvP L.sys a p
 have h1 := fun h => zyF L.sys L.union L.atoi L.itoa a hn h p
 have hv := fun f => zVa L.sys f (ptS x y z)
 have hE := fun s h => zYZ L.sys s h a.body
 have hf := fun h => zvW (a := a) (p := p) h
 have hsd := fun (h : a.forms.length ≤ 1000) => zJp (b := a.body) (fs := a.forms) (f := fun n => (findC n (ptS x y z)).1) L.inj h p (List.replicate a.forms.length 2) (by
  have := zQi (a.forms.map fun b => sgnI (linV (fun n => (findC n (ptS x y z)).1) b)); simpa using this)
 refine L.sys.zyb _ _ ⟨bl rfl, ?_⟩
 have hpt : (ptS x y z).map Coef.cells = [[.str [120], .int .i64 (w64 x)], [.str [121], .int .i64 (w64 y)], [.str [122], .int .i64 (w64 z)]] := rfl
 rw [hpt] at hv
 generalize ptS x y z = pt at *
 generalize smallS a p = SM at *
 cases SM with
 | false =>
  obtain ⟨pk, pf, pm, ps⟩ := p
  rw [Prf.zzq] at *
  simp only [AtT.cells] at *
  simp only [zyI, go_sem]
  refine zzb hsm ?_
  simp only [go_sem]
  refine ⟨.one (.int .i64 0), ?_⟩
  simp only [go_sem]
  refine zzb haw ?_
  simp only [go_sem]
 | true =>
  have hf := hf rfl
  have h1 := h1 (by omega)
  have hsd := hsd (by omega)
  generalize rightB a.body a.forms p (List.replicate a.forms.length 2) = R at *
  obtain ⟨pk, pf, pm, ps⟩ := p
  rw [Prf.zzq] at *
  rw [zkD] at hE
  simp only [AtT.cells, res2] at *
  simp only [zyI, go_sem]
  refine zzb hsm ?_
  simp only [go_sem]
  refine zzb h1 ?_
  cases R with
  | false =>
   simp only [go_sem, Bool.false_eq_true, if_false, Int.reduceBNe]
   refine zzb haw ?_
   simp only [go_sem]
  | true =>
  have hsd := hsd rfl
  simp only [go_sem, if_true, Int.reduceBNe]
  refine zze fun K hK => ?_
  refine zzh a.forms (fun done => ∀ b ∈ done, (valL b pt).2 = true) (fun done _ => ⟨[(9, .d (.int .i64 done.length)), (8, .own 8 1 ((done.map fun b => sgnI (valL b pt).1).map icell)), (7, .d (.lst [[.str [120], .int .i64 (w64 x)], [.str [121], .int .i64 (w64 y)], [.str [122], .int .i64 (w64 z)]])), (3, .ptr 3 0)],
   [(3, [.d (.int .i64 a.body.op), .d (.str a.body.name), .d (.int .i64 a.body.n), .d (.lst (a.body.kids.map Pred.cells)), .d (.lst (a.forms.map Lin.cells))])], [(8, true)]⟩) ?_ (by simp) ?_ ?_
  ·exact zxc 8 8 1 [] [(8, 8)] rfl (by simp) rfl (by simp only [Ent0, go_sem, cN, oS, mN, lN, nZ])
  ·intro done b r hl hI
   have hlt := zzw hl
   have hx := zzj (f := Lin.cells) hl rfl
   have hd : decide ((done.length : Int) < (a.forms.length : Int)) = true := decide_eq_true hlt
   have hdl : done.length < a.forms.length := by rw [hl]; simp
   have hw : IntKind.i64.wrap ((done.length : Int) + 1) = ((done.length + 1 : Nat) : Int) := zzd (by omega)
   have hvb := hv b
   have hsg := yzw (valL b pt).1
   obtain ⟨cs, c⟩ := b
   simp only [Lin.cells] at hx hvb
   simp only [zyj, go_sem, hd, hlt, hx, lM]
   try intro _
   refine zzb hvb ?_
   simp only [go_sem]
   generalize hV : valL ⟨cs, c⟩ pt = V at *
   obtain ⟨v, ok⟩ := V
   simp only at hsg ⊢
   cases ok with
   | false =>
    simp only [go_sem]
    refine zzb haw ?_
    simp only [go_sem, hK]
   | true =>
    have hall : ∀ b' ∈ done ++ [(⟨cs, c⟩ : Lin)], (valL b' pt).2 = true := zxF hI (by rw [hV])
    have hmap : (done ++ [(⟨cs, c⟩ : Lin)]).map (fun b => sgnI (valL b pt).1) = done.map (fun b => sgnI (valL b pt).1) ++ [sgnI v] := by rw [mA, mC, mN, hV]
    cases c1 : decide (v < 0) with
    | true =>
     rw [c1] at hsg
     simp only [if_true] at hsg
     simp only [go_sem, hw, lM]
     refine ⟨⟨by simp [icell], by omega, by omega⟩, zzs [(8, 64)] ?_, hall⟩
     simp only [go_sem, cN, oS, lA, lC, lN, zA, hmap, hsg, mA, mC, mN, icell]
    | false =>
     rw [c1] at hsg
     simp only [Bool.false_eq_true, if_false] at hsg
     cases c2 : decide (v > 0) with
     | true =>
      rw [c2] at hsg
      simp only [if_true] at hsg
      simp only [go_sem, hw, lM]
      refine ⟨⟨by simp [icell], by omega, by omega⟩, zzs [(8, 70)] ?_, hall⟩
      simp only [go_sem, cN, oS, lA, lC, lN, zA, hmap, hsg, mA, mC, mN, icell]
     | false =>
      rw [c2] at hsg
      simp only [Bool.false_eq_true, if_false] at hsg
      simp only [go_sem, hw, lM]
      refine ⟨⟨by simp [icell], by omega, by omega⟩, zzs [(8, 58)] ?_, hall⟩
      simp only [go_sem, cN, oS, lA, lC, lN, zA, hmap, hsg, mA, mC, mN, icell]
  ·intro hI
   have hmap : (a.forms.map fun b => sgnI (valL b pt).1) = a.forms.map fun b => sgnI (linV (fun n => (findC n pt).1) b) := List.map_congr_left fun b hb => by rw [ywZ (hI b hb)]
   have hEv := hE (a.forms.map fun b => sgnI (valL b pt).1) (by simp; omega)
   rw [← hmap] at hsd
   have hne : (evalS (a.forms.map fun b => sgnI (valL b pt).1) a.body != 1) = true := by simpa using hsd
   simp only [zyj, go_sem, Int.lt_irrefl, decide_false, hK, lM]
   try intro _
   refine zzb hEv ?_
   simp only [go_sem, hne]
   refine zzb haw ?_
   simp only [go_sem]
end Go.Abs
end
section
namespace Go.Abs
theorem zJC : zeroB.cells = [.bool false, .lst []] := rfl
theorem yxo {g : Int} {n : Nat} (h : 0 ≤ g) (hn : 0 < n) : 0 ≤ g.tmod n ∧ g.tmod n < n := by
 rw [Int.tmod_eq_emod_of_nonneg h]
 exact ⟨Int.emod_nonneg _ (by omega), Int.emod_lt_of_pos _ (by omega)⟩
theorem zVN (hinj : ItoaInj) {b : Pred} {fs : List Lin} {j : Nat} {p : Prf} (hl : fs.length ≤ 1000) (hj : j < fs.length) (he : p.evals = true) (hc : p.cases' (j : Int) = false) (h : rightB b fs p (List.replicate fs.length 2) = true) :
  rightB b fs (.mk 3 (j : Int) [] [p, p, p]) (List.replicate fs.length 2) = true := by
 have hg : (List.replicate fs.length (2 : Int)).getD j 0 = 2 := by simp [List.getD_eq_getElem?_getD, List.getElem?_replicate, hj]
 have hb : caseBad (j : Int) [] [p, p, p] (List.replicate fs.length 2) = false := by
  unfold caseBad
  rw [Int.toNat_natCast, hg]
  simp only [lN, lC, List.length_replicate]
  rw [decide_eq_false (by omega), decide_eq_false (by omega), decide_eq_false (by omega)]; rfl
 have ho := fun x => yzs hinj (x := x) p (List.replicate fs.length 2) (by simpa using hl) hg he hc h
 rw [rightB, hb]
 simp only [rightK, Int.toNat_natCast, ho]
 rfl
variable {E : AEnv} (L : Law17 E)
include L
set_option maxHeartbeats 4000000 in
theorem zQu (a : AtT) (hn : NamesP a.body) (p : Prf) (hp : (match p with | .mk _ _ ms _ => ms.length) ≤ 1048576) (g : Int) (hg : 0 ≤ g ∧ g ≤ 255) : E.C zya [.agg a.cells, .agg p.cells, .one (.int .u8 g)] (.one (.bool true)) := by
 have haw := zvO L
 have hsm := zvP L.sys a p
 have hck := fun h p => zyF L.sys L.union L.atoi L.itoa a hn h p
 have hsame := zjG L.sys a.body a.body
 have hev := zZN L.sys p
 have hcs := fun k => zKT L.sys p k
 have hf := fun h => zvW (a := a) (p := p) h
 have hcr := fun (h : a.forms.length ≤ 1000) (j : Nat) (hj : j < a.forms.length) => zVN (b := a.body) (p := p) L.inj h hj
 refine L.sys.zya _ _ ⟨bl rfl, ?_⟩
 obtain ⟨k, f, ms, ks⟩ := p
 have hp : ms.length ≤ 1048576 := hp
 have hmore := fun (h : (k == 2) = false) => yzr (b := a.body) (fs := a.forms) (g := f) (ms := ms ++ [zeroB]) (ks := ks) (σ := List.replicate a.forms.length 2) h (by simp)
 generalize smallS a (.mk k f ms ks) = SM at *
 rw [zkD] at hsame
 generalize hpc : (Prf.mk k f ms ks).cells = pc at *
 have hpc2 := hpc
 rw [Prf.zzq] at hpc2
 simp only [AtT.cells] at *
 subst hpc2
 have hw0 : IntKind.i64.wrap g = g := i64_in _ (by omega)
 simp only [zx7, go_sem]
 refine zzb hsm ?_
 cases SM with
 | false =>
  simp only [go_sem]
  refine ⟨.one (.bool false), ?_⟩
  simp only [go_sem]
  refine zzb haw ?_
  simp only [go_sem]
 | true =>
 have hf := hf rfl
 simp only [go_sem, lM]
 intro _
 cases c1 : ((a.forms.length : Int) == 0) with
 | true =>
  simp only [go_sem]
  refine ⟨.one (.bool false), ?_⟩
  simp only [go_sem]
  refine zzb haw ?_
  simp only [go_sem]
 | false =>
 have hpos : 0 < a.forms.length := by have := beq_eq_false_iff_ne.1 c1; omega
 simp only [go_sem]
 refine zzb hsame ?_
 simp only [go_sem]
 cases c2 : a.body.same a.body with
 | false =>
  simp only [go_sem]
  refine zzb haw ?_
  simp only [go_sem]
 | true =>
 obtain ⟨t1, t2⟩ := yxo hg.1 hpos
 obtain ⟨j, hj⟩ : ∃ j : Nat, g.tmod (a.forms.length : Int) = j := ⟨(g.tmod (a.forms.length : Int)).toNat, by omega⟩
 have hjl : j < a.forms.length := by omega
 have hne : ¬ ((a.forms.length : Int) = 0) := by omega
 have ck1 := hck (by omega) (.mk k f (ms ++ [zeroB]) ks)
 have ck2 := hck (by omega) (.mk k f ms ks)
 have ck3 := hck (by omega) (.mk 3 (j : Int) [] [.mk k f ms ks, .mk k f ms ks, .mk k f ms ks])
 have hcr := hcr (by omega) j hjl
 rw [Prf.zzq, mA] at ck1
 simp only [mC, mN, zJC] at ck1
 rw [hpc] at ck2
 rw [Prf.zzq] at ck3
 simp only [mC, mN, hpc] at ck3
 generalize hr1 : rightB a.body a.forms (.mk k f (ms ++ [zeroB]) ks) (List.replicate a.forms.length 2) = R1 at *
 generalize hr2 : rightB a.body a.forms (.mk k f ms ks) (List.replicate a.forms.length 2) = R2 at *
 generalize hr3 : rightB a.body a.forms (.mk 3 (j : Int) [] [.mk k f ms ks, .mk k f ms ks, .mk k f ms ks]) (List.replicate a.forms.length 2) = R3 at *
 simp only [go_sem, lM, hw0, hj]
 try intro _
 refine ⟨hne, ⟨by simp, by omega, by omega⟩, ⟨by simp, by omega, by omega⟩, ?_⟩
 cases hk2 : (k != 2) with
 | true =>
  have hR1 := hmore (by simpa using hk2)
  subst hR1
  refine ⟨_, fun _ => ck1, ?_⟩
  simp only [go_sem, Bool.false_eq_true, if_false, Int.reduceBNe]
  refine zzb ck2 ?_
  cases hR2 : R2 with
  | false =>
   simp only [go_sem, Bool.false_eq_true, if_false, Int.reduceBNe]
   refine ⟨.one (.bool false), ?_⟩
   simp only [go_sem]
   refine ⟨.one (.bool false), ?_⟩
   simp only [go_sem]
   refine zzb haw ?_
   simp only [go_sem]
  | true =>
   simp only [go_sem, if_true, Int.reduceBNe]
   refine zzb hev ?_
   cases he : Prf.evals (.mk k f ms ks) with
   | false =>
    simp only [go_sem]
    refine ⟨.one (.bool false), ?_⟩
    simp only [go_sem]
    refine zzb haw ?_
    simp only [go_sem]
   | true =>
    simp only [go_sem]
    refine zzb (hcs j) ?_
    cases hc : Prf.cases' (j : Int) (.mk k f ms ks) with
    | true =>
     simp only [go_sem]
     refine zzb haw ?_
     simp only [go_sem]
    | false =>
     have h3 := hcr he hc hR2
     subst h3
     simp only [go_sem]
     refine zzb ck3 ?_
     simp only [go_sem, if_true, beq_self_eq_true]
     refine zzb haw ?_
     simp only [go_sem]
 | false =>
  refine ⟨.one (.int .i64 0), ?_⟩
  simp only [go_sem]
  refine zzb ck2 ?_
  cases hR2 : R2 with
  | false =>
   simp only [go_sem, Bool.false_eq_true, if_false, Int.reduceBNe]
   refine ⟨.one (.bool false), ?_⟩
   simp only [go_sem]
   refine ⟨.one (.bool false), ?_⟩
   simp only [go_sem]
   refine zzb haw ?_
   simp only [go_sem]
  | true =>
   simp only [go_sem, if_true, Int.reduceBNe]
   refine zzb hev ?_
   cases he : Prf.evals (.mk k f ms ks) with
   | false =>
    simp only [go_sem]
    refine ⟨.one (.bool false), ?_⟩
    simp only [go_sem]
    refine zzb haw ?_
    simp only [go_sem]
   | true =>
    simp only [go_sem]
    refine zzb (hcs j) ?_
    cases hc : Prf.cases' (j : Int) (.mk k f ms ks) with
    | true =>
     simp only [go_sem]
     refine zzb haw ?_
     simp only [go_sem]
    | false =>
     have h3 := hcr he hc hR2
     subst h3
     simp only [go_sem]
     refine zzb ck3 ?_
     simp only [go_sem, if_true, beq_self_eq_true]
     refine zzb haw ?_
     simp only [go_sem]
end Go.Abs
end
section
namespace Go.Abs
open Go.RowKit
variable {H : Type} {enc : TypeId × Value → H} {P : Program} {w : World}
def liveS (w : World) : Safe := fun b o => ∃ v, w.cell? ⟨b, o, none⟩ = some v
structure BulkOk (bulk : DataW H → Nat) (all : List (DataW H) → Nat) : Prop where
 one : ∀ d, 1 ≤ bulk d
 str : ∀ s, s.length + 1 ≤ bulk (.lit (.string s))
 slice : ∀ a b, all a + 1 ≤ bulk (.slice a b)
 agg : ∀ a, all a + 1 ≤ bulk (.agg a)
 cons : ∀ d r, bulk d + all r ≤ all (d :: r)
variable {bulk : DataW H → Nat} {all : List (DataW H) → Nat}
def ReadsAt (enc : TypeId × Value → H) (P : Program) (w : World) (bulk : DataW H → Nat) (n : Nat) (t : TypeId) {α : Type} (f : α → List D) (sz : α → Nat) : Prop :=
 ∀ cs d ps, DataW.trod enc P w 0 (fun _ => true) true n t cs = some (d, ps) → ∃ x : α, RepL w (liveS w) (f x) cs ∧ sz x ≤ bulk d
theorem zkZ {n : Nat} {t : TypeId} {α β : Type} {f : α → List D} {sz : α → Nat} {g : β → List D} {sz' : β → Nat} (h : ReadsAt enc P w bulk n t f sz) (φ : α → β) (hf : ∀ x, g (φ x) = f x) (hs : ∀ x, sz' (φ x) ≤ sz x) : ReadsAt enc P w bulk n t g sz' := fun cs d ps hr => by
 obtain ⟨x, h1, h2⟩ := h cs d ps hr
 exact ⟨φ x, by rw [hf]; exact h1, Nat.le_trans (hs x) h2⟩
theorem zxb (hb : BulkOk bulk all) {k : IntKind} {n : Nat} {t : TypeId} (ht : P.underlying t = some (.int k)) : ReadsAt enc P w bulk n t (fun x : Int => [.int k x]) (fun _ => 1) := by
 intro cs d ps h
 cases n with
 | zero => cases h
 | succ n =>
  unfold DataW.trod at h
  rw [ht] at h
  split at h <;> (try (cases h; done)) <;> rename_i h1 <;> cases h1
  rename_i k' m
  split at h
  ·rename_i hk
   obtain ⟨rfl, _⟩ := hk
   exact ⟨m, ⟨_, _, rfl, rfl, rfl⟩, hb.one _⟩
  ·cases h
theorem yzl (hb : BulkOk bulk all) {n : Nat} {t : TypeId} (ht : P.underlying t = some .bool) : ReadsAt enc P w bulk n t (fun x : Bool => [.bool x]) (fun _ => 1) := by
 intro cs d ps h
 cases n with
 | zero => cases h
 | succ n =>
  unfold DataW.trod at h
  rw [ht] at h
  split at h <;> (try (cases h; done)) <;> rename_i h1 <;> cases h1
  rename_i b
  exact ⟨b, ⟨_, _, rfl, rfl, rfl⟩, hb.one _⟩
theorem zVg (hb : BulkOk bulk all) {n : Nat} {t : TypeId} (ht : P.underlying t = some .string) : ReadsAt enc P w bulk n t (fun x : List UInt8 => [.str x]) (fun x => x.length + 1) := by
 intro cs d ps h
 cases n with
 | zero => cases h
 | succ n =>
  unfold DataW.trod at h
  rw [ht] at h
  split at h <;> (try (cases h; done)) <;> rename_i h1 <;> cases h1
  rename_i s
  split at h
  ·rename_i hk
   cases h
   exact ⟨s.data.toList, ⟨_, _, rfl, ⟨s, rfl, rfl, by simpa [maxLen] using hk⟩, rfl⟩, hb.str _⟩
  ·cases h
theorem mapM_reads {α : Type} {f : α → List D} {sz : α → Nat} (hb : BulkOk bulk all) {n : Nat} {e : TypeId} (he : ReadsAt enc P w bulk n e f sz) (g : Nat → Option (List Value)) :
  ∀ (is : List Nat) {xs : List (DataW H × List MemPlace)}, (is.mapM fun i => (g i).bind (DataW.trod enc P w 0 (fun _ => true) true n e)) = some xs →
   ∃ l : List α, l.length = is.length ∧ (∀ k (h : k < is.length), ∃ cs, g is[k] = some cs ∧ ∃ (h' : k < l.length), RepL w (liveS w) (f l[k]) cs) ∧ (l.map sz).sum ≤ all (xs.map (·.1))
 | [], xs, h => by simp at h; subst h; exact ⟨[], rfl, by simp, by simp⟩
 | i :: is, xs, h => by
  simp only [List.mapM_cons, Option.bind_eq_bind, Option.bind_eq_some_iff, Option.pure_def, Option.some.injEq] at h
  obtain ⟨⟨d, ps⟩, ⟨cs, hg, ht⟩, xs', hxs, rfl⟩ := h
  obtain ⟨x, hx, hsz⟩ := he cs d ps ht
  obtain ⟨l, hl, hl2, hl3⟩ := mapM_reads hb he g is hxs
  refine ⟨x :: l, by simp [hl], ?_, ?_⟩
  ·intro k hk
   cases k with
   | zero => exact ⟨cs, hg, by simp, hx⟩
   | succ k =>
    obtain ⟨cs', h1, h2, h3⟩ := hl2 k (by simpa using hk)
    exact ⟨cs', h1, by simpa using h2, h3⟩
  ·simp only [mC, List.sum_cons]
   exact Nat.le_trans (Nat.add_le_add hsz hl3) (hb.cons _ _)
theorem zYj {w : World} {a : Addr} {n : Nat} {cs : List Value} (h : w.cells? 0 a n = some cs) : cs.length = n ∧ ∀ j, j < n → ∃ v, cs[j]? = some v ∧ w.cell? (a.add j) = some v := by
 unfold World.cells? at h
 rw [if_pos (Nat.zero_le _)] at h
 have key : ∀ (is : List Nat) (cs : List Value), (is.mapM fun i => w.cell? (a.add i)) = some cs → cs.length = is.length ∧ ∀ k (hk : k < is.length), ∃ v, cs[k]? = some v ∧ w.cell? (a.add is[k]) = some v := by
  intro is
  induction is with
  | nil => intro cs h; simp at h; subst h; simp
  | cons i is ih =>
   intro cs h
   simp only [List.mapM_cons, Option.bind_eq_bind, Option.bind_eq_some_iff, Option.pure_def, Option.some.injEq] at h
   obtain ⟨v, hv, cs', hcs, rfl⟩ := h
   obtain ⟨h1, h2⟩ := ih cs' hcs
   refine ⟨by simp [h1], fun k hk => ?_⟩
   cases k with
   | zero => exact ⟨v, rfl, hv⟩
   | succ k => simpa using h2 k (by simpa using hk)
 obtain ⟨h1, h2⟩ := key _ _ h
 refine ⟨by simpa using h1, fun j hj => ?_⟩
 obtain ⟨v, e1, e2⟩ := h2 j (by simpa using hj)
 exact ⟨v, e1, by simpa using e2⟩
theorem zZJ {w : World} {a : Addr} {v : Value} (h : w.cell? a = some v) : a.spot = none := by
 unfold World.cell? at h
 split at h
 ·split at h
  ·cases h
  ·rename_i hs; cases hh : a.spot with
   | none => rfl
   | some x => rw [hh] at hs; simp at hs
 ·cases h
theorem yzD {a : Addr} (h : a.spot = none) (n : Nat) : a.add n = ⟨a.block, a.off + n, none⟩ := by
 obtain ⟨b, o, sp⟩ := a
 simp only at h
 subst h
 exact addr_add b o n
theorem zjI (hb : BulkOk bulk all) {α : Type} {f : α → List D} {sz : α → Nat} {n : Nat} {t e : TypeId} (ht : P.underlying t = some (.slice e)) (hk : P.cellsOf e ≠ 0) (hf : ∀ x, (f x).length = P.cellsOf e) (he : ReadsAt enc P w bulk n e f sz) :
  ReadsAt enc P w bulk (n + 1) t (fun l : List α => [.lst (l.map f)]) (fun l => (l.map sz).sum + 1) := by
 intro cs d ps h
 unfold DataW.trod at h
 rw [ht] at h
 split at h <;> (try (cases h; done)) <;> rename_i h1 <;> cases h1
 ·cases h
  exact ⟨[], ⟨_, _, rfl, ⟨none, 0, rfl, Nat.le_refl _, by omega, fun _ => rfl, fun a ha => by cases ha⟩, rfl⟩, hb.one _⟩
 ·rename_i a len cap
  simp only at h
  split at h
  ·rename_i hc
   obtain ⟨_, hlc, hcm⟩ := hc
   simp only [Option.bind_eq_some_iff, Option.map_eq_some_iff] at h
   obtain ⟨xs, hxs, rest, hrest, h⟩ := h
   cases h
   simp only [if_true] at hrest
   obtain ⟨l, hl, hl2, hl3⟩ := mapM_reads hb he (fun i => w.cells? 0 (a.add (i * P.cellsOf e)) (P.cellsOf e)) (List.range len) hxs
   have hll : l.length = len := by simpa using hl
   have hspot : cap ≠ 0 → a.spot = none := by
    intro hc0
    by_cases hl0 : len = 0
    ·subst hl0
     have hlt : 0 < cap - 0 := by omega
     obtain ⟨l', hl', hl2', _⟩ := mapM_reads hb he (fun j => w.cells? 0 (a.add ((0 + j) * P.cellsOf e)) (P.cellsOf e)) (List.range (cap - 0)) hrest
     obtain ⟨cs, hcs, _⟩ := hl2' 0 (by simpa using hlt)
     obtain ⟨_, hg⟩ := zYj hcs
     obtain ⟨v, _, hv⟩ := hg 0 (by omega)
     have := zZJ hv
     simpa [Addr.add] using this
    ·obtain ⟨cs, hcs, _⟩ := hl2 0 (by simp; omega)
     obtain ⟨_, hg⟩ := zYj hcs
     obtain ⟨v, _, hv⟩ := hg 0 (by omega)
     have := zZJ hv
     simpa [Addr.add] using this
   refine ⟨l, ⟨_, _, rfl, ⟨some a, cap, by rw [lM, hll], by rw [lM, hll]; exact hlc, by simpa [maxLen] using hcm, (fun h => by cases h), ?_⟩, rfl⟩, Nat.le_trans (Nat.succ_le_succ hl3) (hb.slice _ _)⟩
   intro a' ha'
   cases ha'
   refine ⟨hspot, ⟨P.cellsOf e, fun x hx => by obtain ⟨y, _, rfl⟩ := List.mem_map.1 hx; exact hf y⟩, ?_⟩
   have key : ∀ (r : List α) (i : Nat), (∀ k (hk : k < r.length), ∃ (h' : i + k < l.length), l[i + k] = r[k]) → RepEs w (liveS w) a.block (a.off + i * P.cellsOf e) (r.map f) := by
    intro r
    induction r with
    | nil => intro i _; trivial
    | cons x r ih =>
     intro i hi
     obtain ⟨h', e0⟩ := hi 0 (by simp)
     simp only [Nat.add_zero, List.getElem_cons_zero] at h' e0
     obtain ⟨cs, hcs, h2, hrep⟩ := hl2 i (by simpa [hll] using h')
     simp only [List.getElem_range] at hcs
     obtain ⟨hcl, hg⟩ := zYj hcs
     have hsp := hspot (by omega)
     refine ⟨?_, ?_⟩
     ·rw [← e0]
      refine RepCs.zw6 hrep fun j v hj => ?_
      have hj' : j < P.cellsOf e := by rw [← hcl]; exact (List.getElem?_eq_some_iff.1 hj).1
      obtain ⟨v', e1, e2⟩ := hg j hj'
      rw [hj] at e1
      cases e1
      rw [yzD hsp, addr_add] at e2
      exact ⟨e2, v, e2⟩
     ·have := ih (i + 1) (fun k hk => by
        obtain ⟨g1, g2⟩ := hi (k + 1) (by simpa using hk)
        refine ⟨by omega, ?_⟩
        have e3 : i + 1 + k = i + (k + 1) := by omega
        simp only [e3]
        simpa using g2)
      rw [hf x, show a.off + i * P.cellsOf e + P.cellsOf e = a.off + (i + 1) * P.cellsOf e by rw [Nat.add_mul]; omega]
      exact this
   have := key l 0 (fun k hk => ⟨by omega, by simp⟩)
   simpa using this
  ·cases h
def ReadsF (enc : TypeId × Value → H) (P : Program) (w : World) (bulk : DataW H → Nat) (all : List (DataW H) → Nat) (n : Nat) (fs : List Field) (off : Nat) {α : Type} (f : α → List D) (sz : α → Nat) : Prop :=
 ∀ (cs : List Value) (xs : List (DataW H × List MemPlace)), (fs.mapM fun fd => DataW.trod enc P w 0 (fun _ => true) true n fd.type ((cs.drop fd.offset).take (P.cellsOf fd.type))) = some xs →
  ∃ x : α, RepL w (liveS w) (f x) ((cs.drop off).take (f x).length) ∧ sz x ≤ all (xs.map (·.1))
theorem zY1 {n off : Nat} : ReadsF enc P w bulk all n [] off (fun _ : Unit => []) (fun _ => 0) := by
 intro cs xs h
 exact ⟨(), by simp [RepL], Nat.zero_le _⟩
theorem RepL.zQr {S : Safe} : ∀ {a b : List D} {l : List Value} , RepL w S a (l.take a.length) → RepL w S b ((l.drop a.length).take b.length) → RepL w S (a ++ b) (l.take (a ++ b).length)
 | [], b, l, _, h2 => by simpa using h2
 | x :: a, b, l, ⟨v, r, h, h1, h1'⟩, h2 => by
  cases l with
  | nil => simp at h
  | cons y l =>
   simp only [lC, List.take_succ_cons, List.cons.injEq] at h
   obtain ⟨rfl, rfl⟩ := h
   simp only [List.cons_append, lC, List.take_succ_cons]
   exact ⟨_, _, rfl, h1, RepL.zQr h1' (by simpa using h2)⟩
theorem zyB (hb : BulkOk bulk all) {n off k : Nat} {fd : Field} {fs : List Field} {α β : Type} {f : α → List D} {sz : α → Nat} {g : β → List D} {sz' : β → Nat} (ho : fd.offset = off) (hk : P.cellsOf fd.type = k) (hf : ∀ x, (f x).length = k)
  (h1 : ReadsAt enc P w bulk n fd.type f sz) (h2 : ReadsF enc P w bulk all n fs (off + k) g sz') : ReadsF enc P w bulk all n (fd :: fs) off (fun x : α × β => f x.1 ++ g x.2) (fun x => sz x.1 + sz' x.2) := by
 intro cs xs h
 simp only [List.mapM_cons, Option.bind_eq_bind, Option.bind_eq_some_iff, Option.pure_def, Option.some.injEq] at h
 obtain ⟨⟨d, ps⟩, hd, xs', hxs, rfl⟩ := h
 obtain ⟨x, hx, hxs1⟩ := h1 _ d ps hd
 obtain ⟨y, hy, hys⟩ := h2 cs xs' hxs
 refine ⟨(x, y), ?_, Nat.le_trans (Nat.add_le_add hxs1 hys) (by simpa using hb.cons _ _)⟩
 refine RepL.zQr ?_ ?_
 ·rw [hf x, ← hk, ← ho]; exact hx
 ·rw [hf x, List.drop_drop]
  exact hy
theorem zvU (hb : BulkOk bulk all) {n : Nat} {t : TypeId} {fs : Array Field} {α : Type} {f : α → List D} {sz : α → Nat} (ht : P.underlying t = some (.struct fs)) (hk : ∀ x, (f x).length = P.cellsOf t) (h : ReadsF enc P w bulk all n fs.toList 0 f sz) :
  ReadsAt enc P w bulk (n + 1) t f (fun x => sz x + 1) := by
 intro cs d ps hr
 unfold DataW.trod at hr
 simp only [ht] at hr
 split at hr
 ·rename_i hlen
  simp only [Option.map_eq_some_iff] at hr
  obtain ⟨xs, hxs, hr⟩ := hr
  cases hr
  obtain ⟨x, hx, hs⟩ := h cs xs hxs
  refine ⟨x, ?_, Nat.le_trans (Nat.succ_le_succ hs) (hb.agg _)⟩
  rw [List.drop_zero, hk x, ← hlen, List.take_length] at hx
  exact hx
 ·cases hr
end Go.Abs
end
section
namespace Go.Abs
open Go.RowKit Go.ChangeShapes
variable {H : Type} {enc : TypeId × Value → H} {P : Program} {w : World}
theorem yvJ {f : Func} {s : ChangeSpec} {apart fresh handsOn again : Bool} {W W' : World} {args : Array Value} {ds gs : List (DataW H)} {before : List MemPlace} {tb : TypeId}
  (hW : DataW.Whole enc P f.params.toList s.vars apart W args.toList ds gs before) (hvars : s.vars = []) (hfn : ∀ l, l.length = f.params.size → (s.fn H l).results = [.lit (.bool true)] ∧ (s.fn H l).args = l ∧ (s.fn H l).vars = []) (hb : Below W.heap.size W W')
  (hl : laidOutB P = true) (hp : ∀ t ∈ f.params.toList, P.readableRec t = true ∧ t < P.types.size) (htb : P.underlying tb = some .bool) (hr : f.resultTypes = #[tb]) : s.post enc P f apart fresh handsOn again W args (.bool true) W' := by
 obtain ⟨p, q, hA, hV, hpq, hz, hn⟩ := id hW
 rw [hvars] at hV
 obtain ⟨rfl, rfl⟩ := trodVars_none hV
 have hlen : ds.length = f.params.size := by have := (trodAll_length hA).2; simpa using this
 obtain ⟨e1, e2, e3⟩ := hfn ds hlen
 have hlt : ∀ x ∈ before, x.block < W.heap.size := hW.lt
 rw [List.append_nil] at hpq
 subst hpq
 have hres : ∀ (b : Nat) (sp : Nat → Bool) (hd : Bool), DataW.TrodAll enc P W' b sp hd f.resultTypes.toList ((Value.bool true).resultList f.resultTypes.size) (s.fn H (ds ++ [])).results [] := by
  intro b sp hd
  rw [List.append_nil, e1, hr]
  exact trodAll_cons_mk (p := []) (p' := []) (shut_bool htb true) trodAll_mk0
 have hargs : ∀ sp : Nat → Bool, (∀ x ∈ before, sp x.block = true) → DataW.TrodAll enc P W' 0 sp true f.params.toList args.toList (s.fn H (ds ++ [])).args before := by
  intro sp hsp
  rw [List.append_nil, e2]
  have key : ∀ (ts : List TypeId) (vs : List Value) (ds : List (DataW H)) (ps : List MemPlace), (∀ t ∈ ts, P.readableRec t = true ∧ t < P.types.size) → (∀ x ∈ ps, x ∈ before) → DataW.TrodAll enc P W 0 (fun _ => true) true ts vs ds ps → DataW.TrodAll enc P W' 0 sp true ts vs ds ps := by
   intro ts
   induction ts with
   | nil => intro vs ds ps _ _ h; obtain ⟨rfl, rfl, rfl⟩ := trodAll_nil h; exact trodAll_mk0
   | cons t ts ih =>
    intro vs ds ps ht hin h
    obtain ⟨v, vs', d, ds', p1, p2, rfl, rfl, rfl, h1, h2⟩ := trodAll_cons h
    exact trodAll_cons_mk (WideElems.Trod_stays hl (ht t (by simp)).1 (ht t (by simp)).2 h1 (fun x hx => hb.same (hlt x (hin x (List.mem_append_left _ hx)))) (fun x hx => hsp x (hin x (List.mem_append_left _ hx))))
     (ih vs' ds' p2 (fun t' ht' => ht t' (by simp [ht'])) (fun x hx => hin x (List.mem_append_right _ hx)) h2)
  exact key _ _ _ _ hp (fun x hx => hx) hA
 have hold : ∀ x ∈ before, (fun b => decide (b < W.heap.size)) x.block = true := fun x hx => by simpa using hlt x hx
 have hv0 : ∀ sp : Nat → Bool, DataW.TrodVars enc P W' sp s.vars (s.fn H (ds ++ [])).vars [] := by
  intro sp; rw [hvars, List.append_nil, e3]; rfl
 refine ⟨ds, [], before, [], before, [], hW, hres _ _ _, hargs _ hold, hv0 _, World.keptBut_mono (fun x hx => ⟨hx, ?_⟩) (hb.frame (· ∈ before)), fun _ => ?_⟩
 ·simpa using hx
 ·refine ⟨ok_one hr rfl (okWide_bool_mk htb true), _, _, ([] ++ before) ++ [], ⟨[] ++ before, [], trodAll_append (hargs _ (fun _ _ => rfl)) (hres _ _ _), hv0 _, rfl, ?_, ?_⟩, ?_⟩
  ·intro b off hx
   have hx' : MemPlace.cell b off ∈ before := by simpa using hx
   have : W'.frozen? ⟨b, off, none⟩ = W.frozen? ⟨b, off, none⟩ := hb.frozen (p := ⟨b, off, none⟩) (hlt _ hx')
   rw [this]
   exact hz b off hx'
  ·intro ha
   simpa using hn ha
  ·intro x hx _
   simpa using hx
theorem zVw {name : String} {g : Nat} {cs : Array Value} (hg : P.globalNamed name = some g) (h : w.var? P name = some cs) : ∃ (e : TypeId) (fr : Nat × Nat), w.heap[g]? = some (.cells cs e fr) := by
 simp only [World.var?, hg, Option.bind_some] at h
 split at h
 ·rename_i vs e fr hb; cases h; exact ⟨e, fr, hb⟩
 ·cases h
theorem ywU {name : String} {k : IntKind} {zs : List Int} {g : Nat} (hg : P.globalNamed name = some g) (h : Lib.TabIs P w name k zs) :
  RepCs w (liveS w) g 0 (zs.map (D.int k)) ∧ ∃ (vs : Array Value) (e : TypeId) (fr : Nat × Nat), w.heap[g]? = some (.cells vs e fr) ∧ vs.size = (zs.map (D.int k)).length := by
 obtain ⟨e, fr, hb⟩ := zVw hg h
 refine ⟨RepCs.zw6 (l := zs.map fun z => Value.int k z) ?_ fun j v hj => ?_, _, e, fr, hb, by simp⟩
 ·clear h hb
  induction zs with
  | nil => rfl
  | cons z zs ih => exact ⟨_, _, rfl, rfl, ih⟩
 ·have hc : w.cell? ⟨g, 0 + j, none⟩ = some v := by
    rw [zA, zzi hb]
    simpa using hj
  exact ⟨hc, v, hc⟩
theorem zJx {S : Safe} {name : String} {k : IntKind} {zs : List Int} {g : Nat} (hg : P.globalNamed name = some g) (h : RepCs w S g 0 (zs.map (D.int k))) (hx : ∃ (vs : Array Value) (e : TypeId) (fr : Nat × Nat), w.heap[g]? = some (.cells vs e fr) ∧ vs.size = (zs.map (D.int k)).length) : Lib.TabIs P w name k zs := by
 obtain ⟨vs, e, fr, hb, hn⟩ := hx
 unfold Lib.TabIs
 simp only [World.var?, hg, Option.bind_some, hb, Option.some.injEq]
 obtain ⟨l, hl, hc⟩ := RepCs.values h
 have hl2 : l = zs.map fun z => Value.int k z := by
  clear hc hn h
  induction zs generalizing l with
  | nil => simpa [RepL] using hl
  | cons z zs ih =>
   obtain ⟨v, r, rfl, h1, h2⟩ := hl
   simp only [Rep] at h1
   subst h1
   rw [mC, ih r h2]
 subst hl2
 apply Array.ext
 ·simpa using hn
 ·intro i h1 h2
  simp only [List.size_toArray, lM] at h2
  have := (hc i (.int k zs[i]) (by simp [h2])).1
  rw [zA, zzi hb, Array.getElem?_eq_getElem h1] at this
  simpa using this
theorem zkr {x : String × DataW Unit} {r : List (String × DataW Unit)} (h : laidMet P (x :: r) w) : laidMet P r w := by
 obtain ⟨ps, hv, hnd, hrows⟩ := h
 obtain ⟨n, d⟩ := x
 obtain ⟨g, t, cs, fuel, p, q, _, _, _, _, hq, rfl⟩ := hv
 exact ⟨q, hq, List.Nodup.sublist (List.sublist_append_right _ _) hnd, fun b off hm => hrows b off (List.mem_append_right _ hm)⟩
theorem zQW (h : w.ShapedOpen P) : P.globals.size ≤ w.heap.size := by
 obtain ⟨_, h2⟩ := h
 obtain ⟨o, _, ho, _⟩ := h2 P.globals.size (Nat.le_refl _) (by simp [begin]; omega)
 exact Nat.le_of_lt (Array.getElem?_eq_some_iff.1 ho).1
theorem ykr {r : Reach} {b : Nat} {t : TypeId} {d : TypeDesc} {v : Value} (ht : P.underlying t = some d) (hd : d = .bool ∨ d = .string ∨ (∃ k, d = .int k) ∨ ∃ e, d = .slice e) (hval : Value.okWide P w r b t v) : v.cells.toList = [v] := by
 unfold Value.okWide at hval
 rw [ht] at hval
 rcases hd with rfl | rfl | ⟨k, rfl⟩ | ⟨e, rfl⟩ <;>
  (simp only [Cell.okWide, ht, Cell.ok] at hval
   cases v <;> simp_all [Value.cells])
theorem ykq {r : Reach} {b : Nat} {t : TypeId} {fs : Array Field} {v : Value} (ht : P.underlying t = some (.struct fs)) (hval : Value.okWide P w r b t v) : ∃ cs, v = .agg cs ∧ v.cells = cs := by
 unfold Value.okWide at hval
 rw [ht] at hval
 obtain ⟨cs, rfl, _⟩ := hval
 exact ⟨cs, rfl, rfl⟩
end Go.Abs
end
section
namespace Go.Abs
open Go.RowKit Go.ChangeShapes
variable {H : Type} {enc : TypeId × Value → H} {P : Program} {w : World} {bulk : DataW H → Nat} {all : List (DataW H) → Nat}
theorem zyW {t : TypeId} {α : Type} {f : α → List D} {sz : α → Nat} : ReadsAt enc P w bulk 0 t f sz := fun cs d ps h => by cases h
theorem reads_slice' (hb : BulkOk bulk all) {α : Type} {f : α → List D} {sz : α → Nat} {t e : TypeId} (ht : P.underlying t = some (.slice e)) (hk : P.cellsOf e ≠ 0) (hf : ∀ x, (f x).length = P.cellsOf e) (he : ∀ n, ReadsAt enc P w bulk n e f sz) :
  ∀ n, ReadsAt enc P w bulk n t (fun l : List α => [.lst (l.map f)]) (fun l => (l.map sz).sum + 1)
 | 0 => zyW
 | n + 1 => zjI hb ht hk hf (he n)
theorem yzm (hb : BulkOk bulk all) {t s to tn ti : TypeId} {n0 n1 n2 n3 g0 g1 g2 g3 p0 p1 p2 p3 : String} {b0 b1 b2 b3 : Nat} {e0 e1 e2 e3 : Bool}
  (ht : P.underlying t = some (.struct #[⟨n0, to, 0, e0, g0, p0, b0⟩, ⟨n1, tn, 1, e1, g1, p1, b1⟩, ⟨n2, ti, 2, e2, g2, p2, b2⟩, ⟨n3, s, 3, e3, g3, p3, b3⟩]))
  (ho : P.underlying to = some (.int .i64)) (hn : P.underlying tn = some .string) (hi : P.underlying ti = some (.int .i64)) (hs : P.underlying s = some (.slice t))
  (ct : P.cellsOf t = 4) (co : P.cellsOf to = 1) (cn : P.cellsOf tn = 1) (ci : P.cellsOf ti = 1) (cs : P.cellsOf s = 1) : ∀ n, ReadsAt enc P w bulk n t Pred.cells Pred.sz := by
 intro n
 induction n using Nat.strongRecOn with | _ n ih =>
 cases n with
 | zero => exact zyW
 | succ n =>
  have hk : ReadsAt enc P w bulk n s (fun l : List Pred => [.lst (l.map Pred.cells)]) (fun l => (l.map Pred.sz).sum + 1) := by
   cases n with
   | zero => exact zyW
   | succ m => exact zjI hb hs (by rw [ct]; decide) (fun x => by rw [ct]; exact Pred.zx4 x) (ih m (by omega))
  have hF := zyB hb (n := n) (fd := ⟨n0, to, 0, e0, g0, p0, b0⟩) (off := 0) rfl co (fun _ => rfl) (zxb hb ho) (zyB hb (fd := ⟨n1, tn, 1, e1, g1, p1, b1⟩) rfl cn (fun _ => rfl) (zVg hb hn) (zyB hb (fd := ⟨n2, ti, 2, e2, g2, p2, b2⟩) rfl ci (fun _ => rfl) (zxb hb hi) (zyB hb (fd := ⟨n3, s, 3, e3, g3, p3, b3⟩) rfl cs (fun _ => rfl) hk zY1)))
  have h := zvU hb ht (fun x => by rw [ct]; rfl) hF
  refine zkZ h (fun x => Pred.mk x.1 x.2.1 x.2.2.1 x.2.2.2.1) (fun x => ?_) (fun x => ?_)
  ·rw [Pred.zzt]; rfl
  ·show Pred.sz (Pred.mk x.1 x.2.1 x.2.2.1 x.2.2.2.1) ≤ _
   simp only [Pred.sz, Pred.yvQ]
   exact Nat.le_refl _
theorem yvg {G : Nat → Option (List D)} {f : FuncId} {args : Array Value} {cargs : List CV} (hev : Ev P G f cargs (.one (.bool true))) (hg : GlobOk P G w (liveS w)) (ha : RepCL w (liveS w) cargs args.toList) :
  Calls P f args w fun e w' => e = .returned (.bool true) ∧ Below w.heap.size w w' := by
 refine (hev.2 w (liveS w) args (fun b o h => h) hg ha).mono fun e w' h => ?_
 obtain ⟨v, S', he, hr, hb, _⟩ := h
 have : v = .bool true := hr
 subst this
 exact ⟨he, hb⟩
theorem yvh {c : CV} {v : Value} {cs : List CV} {vs : List Value} (h : RepC w (liveS w) c v) (hs : RepCL w (liveS w) cs vs) : RepCL w (liveS w) (c :: cs) (v :: vs) := ⟨v, vs, rfl, h, hs⟩
theorem rep_one {α : Type} {r : Reach} {b n : Nat} {t : TypeId} {dsc : TypeDesc} {v : Value} {d : DataW H} {ps : List MemPlace} {f : α → D} {sz : α → Nat} (ht : P.underlying t = some dsc) (hd : dsc = .bool ∨ dsc = .string ∨ (∃ k, dsc = .int k) ∨ ∃ e, dsc = .slice e) (hval : Value.okWide P w r b t v)
  (hr : ReadsAt enc P w bulk n t (fun x => [f x]) sz) (h : DataW.trod enc P w 0 (fun _ => true) true n t v.cells.toList = some (d, ps)) : ∃ x : α, RepC w (liveS w) (.one (f x)) v ∧ sz x ≤ bulk d := by
 obtain ⟨x, h1, h2⟩ := hr _ _ _ h
 rw [ykr ht hd hval] at h1
 obtain ⟨v', r', e, h3, _⟩ := h1
 cases e
 exact ⟨x, h3, h2⟩
theorem rep_agg {α : Type} {r : Reach} {b n : Nat} {t : TypeId} {fs : Array Field} {v : Value} {d : DataW H} {ps : List MemPlace} {f : α → List D} {sz : α → Nat} (ht : P.underlying t = some (.struct fs)) (hval : Value.okWide P w r b t v)
  (hr : ReadsAt enc P w bulk n t f sz) (h : DataW.trod enc P w 0 (fun _ => true) true n t v.cells.toList = some (d, ps)) : ∃ x : α, RepC w (liveS w) (.agg (f x)) v ∧ sz x ≤ bulk d := by
 obtain ⟨x, h1, h2⟩ := hr _ _ _ h
 obtain ⟨cs, rfl, hc⟩ := ykq ht hval
 rw [hc] at h1
 exact ⟨x, ⟨cs, rfl, h1⟩, h2⟩
end Go.Abs
end
section
namespace Go.Abs
open Go.RowKit Go.ChangeShapes
variable {H : Type} {enc : TypeId × Value → H} {P : Program} {w : World} {bulk : DataW H → Nat} {all : List (DataW H) → Nat}
theorem zjg (hb : BulkOk bulk all) {α0 α1 : Type} {f0 : α0 → List D} {s0 : α0 → Nat} {f1 : α1 → List D} {s1 : α1 → Nat} {n : Nat} {t t0 t1 : TypeId} {k0 o0 b0 k1 o1 b1 : Nat} {n0 g0 p0 n1 g1 p1 : String} {e0 e1 : Bool}
  (ht : P.underlying t = some (.struct #[⟨n0, t0, o0, e0, g0, p0, b0⟩, ⟨n1, t1, o1, e1, g1, p1, b1⟩]))
  (ct : P.cellsOf t = k0 + k1) (c0 : P.cellsOf t0 = k0) (l0 : ∀ x, (f0 x).length = k0) (h0 : ReadsAt enc P w bulk n t0 f0 s0) (c1 : P.cellsOf t1 = k1) (l1 : ∀ x, (f1 x).length = k1) (h1 : ReadsAt enc P w bulk n t1 f1 s1) (q0 : o0 = 0 := by rfl) (q1 : o1 = 0+k0 := by rfl) :
  ReadsAt enc P w bulk (n + 1) t (fun x : α0 × α1 × Unit => f0 (x.1) ++ (f1 (x.2.1) ++ [])) (fun x => s0 (x.1) + (s1 (x.2.1) + 0) + 1) := by
 have hF := zyB (enc := enc) (w := w) hb (n := n) (fd := ⟨n0, t0, o0, e0, g0, p0, b0⟩) q0 c0 l0 h0 (zyB (enc := enc) (w := w) hb (n := n) (fd := ⟨n1, t1, o1, e1, g1, p1, b1⟩) q1 c1 l1 h1 (zY1 (enc := enc) (P := P) (w := w) (bulk := bulk) (all := all) (n := n)))
 exact zvU hb ht (fun x => by rw [ct]; simp only [lA, lN, l0, l1]; omega) hF
theorem yzn (hb : BulkOk bulk all) {α0 α1 α2 α3 : Type} {f0 : α0 → List D} {s0 : α0 → Nat} {f1 : α1 → List D} {s1 : α1 → Nat} {f2 : α2 → List D} {s2 : α2 → Nat} {f3 : α3 → List D} {s3 : α3 → Nat} {n : Nat} {t t0 t1 t2 t3 : TypeId} {k0 o0 b0 k1 o1 b1 k2 o2 b2 k3 o3 b3 : Nat} {n0 g0 p0 n1 g1 p1 n2 g2 p2 n3 g3 p3 : String} {e0 e1 e2 e3 : Bool}
  (ht : P.underlying t = some (.struct #[⟨n0, t0, o0, e0, g0, p0, b0⟩, ⟨n1, t1, o1, e1, g1, p1, b1⟩, ⟨n2, t2, o2, e2, g2, p2, b2⟩, ⟨n3, t3, o3, e3, g3, p3, b3⟩]))
  (ct : P.cellsOf t = k0 + k1 + k2 + k3) (c0 : P.cellsOf t0 = k0) (l0 : ∀ x, (f0 x).length = k0) (h0 : ReadsAt enc P w bulk n t0 f0 s0) (c1 : P.cellsOf t1 = k1) (l1 : ∀ x, (f1 x).length = k1) (h1 : ReadsAt enc P w bulk n t1 f1 s1) (c2 : P.cellsOf t2 = k2) (l2 : ∀ x, (f2 x).length = k2) (h2 : ReadsAt enc P w bulk n t2 f2 s2) (c3 : P.cellsOf t3 = k3) (l3 : ∀ x, (f3 x).length = k3) (h3 : ReadsAt enc P w bulk n t3 f3 s3) (q0 : o0 = 0 := by rfl) (q1 : o1 = 0+k0 := by rfl) (q2 : o2 = 0+k0+k1 := by rfl) (q3 : o3 = 0+k0+k1+k2 := by rfl) :
  ReadsAt enc P w bulk (n + 1) t (fun x : α0 × α1 × α2 × α3 × Unit => f0 (x.1) ++ (f1 (x.2.1) ++ (f2 (x.2.2.1) ++ (f3 (x.2.2.2.1) ++ [])))) (fun x => s0 (x.1) + (s1 (x.2.1) + (s2 (x.2.2.1) + (s3 (x.2.2.2.1) + 0))) + 1) := by
 have hF := zyB (enc := enc) (w := w) hb (n := n) (fd := ⟨n0, t0, o0, e0, g0, p0, b0⟩) q0 c0 l0 h0 (zyB (enc := enc) (w := w) hb (n := n) (fd := ⟨n1, t1, o1, e1, g1, p1, b1⟩) q1 c1 l1 h1 (zyB (enc := enc) (w := w) hb (n := n) (fd := ⟨n2, t2, o2, e2, g2, p2, b2⟩) q2 c2 l2 h2 (zyB (enc := enc) (w := w) hb (n := n) (fd := ⟨n3, t3, o3, e3, g3, p3, b3⟩) q3 c3 l3 h3 (zY1 (enc := enc) (P := P) (w := w) (bulk := bulk) (all := all) (n := n)))))
 exact zvU hb ht (fun x => by rw [ct]; simp only [lA, lN, l0, l1, l2, l3]; omega) hF
end Go.Abs
end
section
namespace Go.Abs
open Go.RowKit Go.ChangeShapes
variable {H : Type} {enc : TypeId × Value → H} {P : Program} {w : World} {bulk : DataW H → Nat} {all : List (DataW H) → Nat}
abbrev U8 := {n : Int // 0 ≤ n ∧ n ≤ 255}
theorem ywF (hb : BulkOk bulk all) {n : Nat} {t : TypeId} (ht : P.underlying t = some (.int .u8)) : ReadsAt enc P w bulk n t (fun x : U8 => [.int .u8 x.1]) (fun _ => 1) := by
 intro cs d ps h
 cases n with
 | zero => cases h
 | succ n =>
  unfold DataW.trod at h
  rw [ht] at h
  split at h <;> (try (cases h; done)) <;> rename_i h1 <;> cases h1
  rename_i k' m
  split at h
  ·rename_i hk
   obtain ⟨rfl, hw⟩ := hk
   refine ⟨⟨m, ?_⟩, ⟨_, _, rfl, rfl, rfl⟩, hb.one _⟩
   simp only [Lit.wf, Bool.and_eq_true, decide_eq_true_eq] at hw
   have e1 : IntKind.min .u8 = 0 := by decide
   have e2 : IntKind.max .u8 = 255 := by decide
   rw [e1, e2] at hw
   exact hw
  ·cases h
theorem yzk (hb : BulkOk bulk all) {k : IntKind} {n : Nat} {t e : TypeId} (ht : P.underlying t = some (.array 3 e)) (he : P.underlying e = some (.int k)) (ce : P.cellsOf e = 1) (ct : P.cellsOf t = 3) : ReadsAt enc P w bulk n t (fun x : Int × Int × Int => [.int k x.1, .int k x.2.1, .int k x.2.2]) (fun _ => 0) := by
 intro cs d ps h
 obtain ⟨xs, m, rfl, _, hl, _, _⟩ := DataW.trod_array ht h
 rw [ct] at hl
 match cs, hl with
 | [c0, c1, c2], _ =>
  obtain ⟨y0, y1, y2, n, _, h0, h1, h2⟩ := trod_array3 ht ce h
  obtain ⟨x0, ⟨_, _, g0, k0, _⟩, _⟩ := zxb (w := w) hb he [c0] y0.1 y0.2 h0
  obtain ⟨x1, ⟨_, _, g1, k1, _⟩, _⟩ := zxb (w := w) hb he [c1] y1.1 y1.2 h1
  obtain ⟨x2, ⟨_, _, g2, k2, _⟩, _⟩ := zxb (w := w) hb he [c2] y2.1 y2.2 h2
  cases g0; cases g1; cases g2
  exact ⟨(x0, x1, x2), ⟨_, _, rfl, k0, _, _, rfl, k1, _, _, rfl, k2, rfl⟩, Nat.zero_le _⟩
theorem rep_arr {α : Type} {r : Reach} {b n m : Nat} {t e : TypeId} {v : Value} {d : DataW H} {ps : List MemPlace} {f : α → List D} {sz : α → Nat} (ht : P.underlying t = some (.array m e)) (hval : Value.okWide P w r b t v)
  (hr : ReadsAt enc P w bulk n t f sz) (h : DataW.trod enc P w 0 (fun _ => true) true n t v.cells.toList = some (d, ps)) : ∃ x : α, RepC w (liveS w) (.agg (f x)) v ∧ sz x ≤ bulk d := by
 obtain ⟨x, h1, h2⟩ := hr _ _ _ h
 unfold Value.okWide at hval
 rw [ht] at hval
 obtain ⟨cs, rfl, _⟩ := hval
 exact ⟨x, ⟨cs, rfl, h1⟩, h2⟩
theorem zXZ {name nm : String} {d : DataW Unit} {rest : List (String × DataW Unit)} {g : Nat} {t : TypeId} {ms : Array (String × TypeId)}
  (hg : P.globalNamed name = some g) (hty : (P.globals[g]?).map (·.type) = some t) (ht : P.underlying t = some (.interface ms))
  (h : laidMet P ((name, .iface nm d) :: rest) w) : RepCs w (liveS w) g 0 [.anyI] ∧ ∃ (vs : Array Value) (e : TypeId) (fr : Nat × Nat), w.heap[g]? = some (.cells vs e fr) ∧ vs.size = ([.anyI] : List D).length := by
 obtain ⟨ps, ⟨g', t', cs, fuel, p, q, hg', ht', hvar, hd, _, _⟩, _⟩ := h
 obtain rfl := Option.some.inj (hg.symm.trans hg')
 obtain rfl := Option.some.inj (hty.symm.trans ht')
 obtain ⟨_, u, v, hc, _, _⟩ := Go.iface_of_trod ht hd
 obtain ⟨e', fr, hb⟩ := zVw hg hvar
 have hr : RepL w (liveS w) [.anyI] cs.toList := by rw [hc]; exact ⟨_, _, rfl, ⟨u, v, rfl⟩, rfl⟩
 have hcell := World.var?_cell hg hvar
 refine ⟨RepCs.zw6 hr fun j v hj => ?_, cs, e', fr, hb, by have := RepL.length hr; simpa using this⟩
 have hj' : cs[j]? = some v := by simpa using hj
 have := hcell j
 rw [hj'] at this
 rw [zA]
 exact ⟨this, v, this⟩
def szP : Prf → Nat
 | .mk _ _ ms _ => ms.length
theorem yy1 (hb : BulkOk bulk all) {t s sb tb : TypeId} {ti tj : TypeId} {n0 n1 n2 n3 g0 g1 g2 g3 p0 p1 p2 p3 : String} {b0 b1 b2 b3 : Nat} {e0 e1 e2 e3 : Bool}
  (ht : P.underlying t = some (.struct #[⟨n0, ti, 0, e0, g0, p0, b0⟩, ⟨n1, tj, 1, e1, g1, p1, b1⟩, ⟨n2, sb, 2, e2, g2, p2, b2⟩, ⟨n3, s, 3, e3, g3, p3, b3⟩]))
  (hi : P.underlying ti = some (.int .i64)) (hj : P.underlying tj = some (.int .i64)) (hsb : P.underlying sb = some (.slice tb)) (hs : P.underlying s = some (.slice t))
  (ct : P.cellsOf t = 4) (ci : P.cellsOf ti = 1) (cj : P.cellsOf tj = 1) (csb : P.cellsOf sb = 1) (cs : P.cellsOf s = 1) (ctb : P.cellsOf tb = 2)
  (hB : ∀ n, ReadsAt enc P w bulk n tb BigT.cells (fun _ => 1)) : ∀ n, ReadsAt enc P w bulk n t Prf.cells szP := by
 intro n
 induction n using Nat.strongRecOn with | _ n ih =>
 cases n with
 | zero => exact zyW
 | succ n =>
  have hk : ReadsAt enc P w bulk n s (fun l : List Prf => [.lst (l.map Prf.cells)]) (fun l => (l.map szP).sum + 1) := by
   cases n with
   | zero => exact zyW
   | succ m => exact zjI hb hs (by rw [ct]; decide) (fun x => by rw [ct]; exact Prf.zYk x) (ih m (by omega))
  have hm := reads_slice' (enc := enc) (w := w) hb hsb (by rw [ctb]; decide) (f := BigT.cells) (fun x => by rw [ctb]; rfl) hB n
  refine zkZ (yzn hb ht ct ci (fun _ => rfl) (zxb hb hi) cj (fun _ => rfl) (zxb hb hj) csb (fun _ => rfl) hm cs (fun _ => rfl) hk) (fun x => Prf.mk x.1 x.2.1 x.2.2.1 x.2.2.2.1) (fun x => ?_) (fun x => ?_)
  ·rw [Prf.zzq]; rfl
  ·have e : ∀ l : List BigT, (l.map fun _ => 1).sum = l.length := by
     intro l
     induction l with
     | nil => rfl
     | cons a l ih => rw [mC, List.sum_cons, ih, lC, Nat.add_comm]
   have := e x.2.2.1
   show x.2.2.1.length ≤ _
   omega
theorem yxn {k : Pred} : ∀ {ks : List Pred}, k ∈ ks → k.sz ≤ Pred.szs ks
 | a :: l, hk => by
  simp only [Pred.szs]
  rcases List.mem_cons.1 hk with rfl | hk
  ·omega
  ·have := yxn hk; omega
theorem ywr {q p : Pred} (h : SubP q p) : q.name.length < p.sz := by
 induction h with
 | self =>
  cases q with | mk o s n ks => simp only [Pred.sz]; show s.length < _; omega
 | @kid k p hk _ ih =>
  cases p with | mk o s n ks =>
  have := yxn (show k ∈ ks from hk)
  simp only [Pred.sz]
  omega
theorem ywq (p : Pred) (h : p.sz ≤ 1048576) : NamesP p := fun q hq => by have := ywr hq; omega
end Go.Abs
end
section
namespace Go.Abs.Seat
open Go Go.Abs Go.Proofs
def tl0 : List (Nat × Ty) := [(1, .cell (.d .nilf)), (2, .cell (0:Int)), (3, .cell (0:Int)), (4, .cell (.d (.bool false))), (5, .cell (.d (.int .u8 0))), (6, .cell (.d (.int .u8 0))), (7, .agg [(0:Int), (0:Int), .d (.bool false), .d (.int .u8 0)] [(0, 1, false), (1, 1, false), (2, 1, false), (3, 1, false)]), (8, .agg [(0:Int), (0:Int), .d (.bool false), .d (.int .u8 0)] [(0, 1, false), (1, 1, false), (2, 1, false), (3, 1, false)]), (9, .cell (.d (.str []))), (10, .cell (.d (.str []))), (11, .cell (.d (.str []))), (12, .cell (.d (.int .u64 0))), (15, .cell (.d .nilp)), (16, .cell (.d .nilp)), (17, .cell (.d .nilp))]
def tl1 : List (Nat × Ty) := [(18, .agg [.d .nilp] [(0, 1, false)]), (19, .agg [.d .nilp] [(0, 1, false)]), (20, .cell (.d .nilI)), (21, .cell (.d (.int .i32 0))), (22, .cell (0:Int)), (23, .slice 4 56 [(0:Int), .d (.str []), (0:Int), .full []]), (24, .agg [(0:Int), .d (.str []), (0:Int), .full []] [(0, 1, false), (1, 1, false), (2, 1, false), (3, 1, false)]), (25, .agg [(0:Int), .d (.str []), (0:Int), .full []] [(0, 1, false), (1, 1, false), (2, 1, false), (3, 1, false)]), (26, .slice 2 32 [.full [], (0:Int)]), (27, .agg [(0:Int), .d (.str []), (0:Int), .full [], .full []] [(0, 4, true), (4, 1, false)]), (28, .agg [(0:Int), .d (.str []), (0:Int), .full [], .full []] [(0, 4, true), (4, 1, false)]), (29, .slice 2 32 [.d (.bool false), .full []]), (30, .slice 4 64 [(0:Int), (0:Int), .full [], .full []]), (31, .agg [(0:Int), (0:Int), .full [], .full []] [(0, 1, false), (1, 1, false), (2, 1, false), (3, 1, false)]), (32, .agg [(0:Int), (0:Int), .full [], .full []] [(0, 1, false), (1, 1, false), (2, 1, false), (3, 1, false)])]
def tl2 : List (Nat × Ty) := [(33, .cell (.d .nilf)), (34, .cell (.d .nilf)), (35, .cell (0:Int)), (36, .cell (.d .nilf)), (37, .cell (.d .nilf)), (38, .cell (.d (.int .i8 0))), (39, .arr 3 1 false [.d (.int .i8 0), .d (.int .i8 0), .d (.int .i8 0)]), (40, .agg [.d (.str []), (0:Int)] [(0, 1, false), (1, 1, false)]), (41, .agg [.d (.str []), (0:Int)] [(0, 1, false), (1, 1, false)]), (42, .slice 2 24 [.d (.str []), (0:Int)]), (43, .slice 2 24 [.d (.str []), (0:Int)]), (44, .slice 1 8 [(0:Int)]), (46, .cell (.d .nilf)), (47, .agg [.full [], (0:Int)] [(0, 1, false), (1, 1, false)]), (48, .agg [.full [], (0:Int)] [(0, 1, false), (1, 1, false)])]
def tl3 : List (Nat × Ty) := [(49, .cell (.d .nilf)), (50, .cell (.d .nilf)), (51, .cell (.d .nilf)), (52, .agg [.d (.bool false), .full []] [(0, 1, false), (1, 1, false)]), (53, .agg [.d (.bool false), .full []] [(0, 1, false), (1, 1, false)]), (54, .cell (.d .nilf)), (55, .cell (.d .nilf)), (56, .cell (.d .nilf)), (57, .cell (.d .nilf)), (58, .cell (.d .nilf)), (60, .cell (.d .nilf)), (61, .cell (.d .nilf)), (62, .cell (.d .nilf)), (63, .cell (.d .nilf)), (64, .cell (.d .nilf))]
def tl4 : List (Nat × Ty) := [(65, .cell (.d .nilf)), (66, .cell (.d .nilf)), (67, .cell (.d .nilf)), (68, .cell (.d .nilf)), (69, .cell (.d .nilf)), (70, .cell (.d .nilf)), (71, .slice 3 40 [.full [], (0:Int), .d (.bool false)]), (72, .cell (.d .nilf)), (73, .cell (.d .nilf)), (74, .cell (.d .nilf)), (75, .cell (.d .nilf)), (76, .cell (.d .nilf)), (77, .cell (.d .nilf)), (79, .cell (.d .nilf)), (80, .cell (.d .nilf))]
def tl5 : List (Nat × Ty) := [(81, .cell (.d .nilf)), (82, .cell (.d .nilf)), (83, .agg [.full [], (0:Int), .d (.bool false)] [(0, 2, true), (2, 1, false)]), (84, .agg [.full [], (0:Int), .d (.bool false)] [(0, 2, true), (2, 1, false)]), (86, .cell (.d .nilf)), (88, .cell (.d .nilf)), (89, .cell (.d .nilf)), (90, .cell (.d .nilf)), (91, .cell (.d .nilI)), (92, .cell (.d .nilI)), (94, .cell (.d .nilf)), (95, .cell (.d .nilf)), (96, .slice 1 16 [.d (.str [])]), (97, .cell (.d .nilf)), (99, .cell (.d .nilf))]
def tl6 : List (Nat × Ty) := [(100, .cell (.d .nilf)), (101, .cell (.d .nilf)), (102, .cell (.d .nilf)), (103, .cell (.d .nilf)), (104, .cell (.d .nilf)), (105, .cell (.d .nilf)), (106, .cell (.d .nilf)), (107, .cell (.d .nilf)), (108, .cell (.d .nilf)), (109, .cell (.d .nilf)), (110, .cell (.d .nilf)), (111, .cell (.d .nilf)), (112, .cell (.d .nilf)), (113, .cell (.d (.int .u64 0))), (114, .cell (.d .nilf))]
def tl7 : List (Nat × Ty) := [(115, .cell (.d (.int .u64 0))), (116, .cell (.d .nilf)), (117, .cell (.d .nilf)), (118, .cell (.d .nilf)), (119, .cell (.d .nilf)), (120, .cell (.d .nilf)), (121, .cell (.d .nilf)), (122, .cell (.d .nilf)), (124, .cell (.d .nilf)), (125, .cell (.d .nilf)), (126, .cell (0:Int)), (127, .slice 1 1 [.d (.int .u8 0)]), (129, .cell (.d .nilf)), (130, .cell (.d .nilp)), (131, .cell (.d .nilf))]
def tl8 : List (Nat × Ty) := [(132, .cell (.d .nilf)), (133, .cell (.d .nilf)), (134, .cell (.d .nilf)), (135, .cell (.d .nilf)), (136, .cell (.d .nilf)), (138, .cell (.d .nilf)), (141, .cell (.d .nilf)), (142, .cell (.d .nilf)), (143, .agg [.d (.str []), .d (.str []), .d .nilI] [(0, 1, false), (1, 1, false), (2, 1, false)]), (144, .agg [.d (.str []), .d (.str []), .d .nilI] [(0, 1, false), (1, 1, false), (2, 1, false)]), (145, .cell (.d .nilf)), (146, .arr 24 1 false [.d (.int .u8 0), .d (.int .u8 0), .d (.int .u8 0), .d (.int .u8 0), .d (.int .u8 0), .d (.int .u8 0), .d (.int .u8 0), .d (.int .u8 0), .d (.int .u8 0), .d (.int .u8 0), .d (.int .u8 0), .d (.int .u8 0), .d (.int .u8 0), .d (.int .u8 0), .d (.int .u8 0), .d (.int .u8 0), .d (.int .u8 0), .d (.int .u8 0), .d (.int .u8 0), .d (.int .u8 0), .d (.int .u8 0), .d (.int .u8 0), .d (.int .u8 0), .d (.int .u8 0)]), (147, .cell (.d .nilf)), (148, .cell (.d .nilf)), (150, .cell (.d .nilf))]
def tl9 : List (Nat × Ty) := [(151, .cell (.d .nilf)), (152, .cell (.d .nilf)), (153, .cell (.d .nilf)), (154, .cell (.d .nilf)), (155, .cell (.d .nilf)), (156, .cell (.d .nilp)), (157, .cell (.d .nilp)), (158, .agg [.d (.str [])] [(0, 1, false)]), (159, .agg [.d (.str [])] [(0, 1, false)]), (160, .arr 20 1 false [.d (.int .u64 0), .d (.int .u64 0), .d (.int .u64 0), .d (.int .u64 0), .d (.int .u64 0), .d (.int .u64 0), .d (.int .u64 0), .d (.int .u64 0), .d (.int .u64 0), .d (.int .u64 0), .d (.int .u64 0), .d (.int .u64 0), .d (.int .u64 0), .d (.int .u64 0), .d (.int .u64 0), .d (.int .u64 0), .d (.int .u64 0), .d (.int .u64 0), .d (.int .u64 0), .d (.int .u64 0)]), (161, .cell (.d (.int .u32 0))), (162, .arr 65 1 false [.d (.int .u8 0), .d (.int .u8 0), .d (.int .u8 0), .d (.int .u8 0), .d (.int .u8 0), .d (.int .u8 0), .d (.int .u8 0), .d (.int .u8 0), .d (.int .u8 0), .d (.int .u8 0), .d (.int .u8 0), .d (.int .u8 0), .d (.int .u8 0), .d (.int .u8 0), .d (.int .u8 0), .d (.int .u8 0), .d (.int .u8 0), .d (.int .u8 0), .d (.int .u8 0), .d (.int .u8 0), .d (.int .u8 0), .d (.int .u8 0), .d (.int .u8 0), .d (.int .u8 0), .d (.int .u8 0), .d (.int .u8 0), .d (.int .u8 0), .d (.int .u8 0), .d (.int .u8 0), .d (.int .u8 0), .d (.int .u8 0), .d (.int .u8 0), .d (.int .u8 0), .d (.int .u8 0), .d (.int .u8 0), .d (.int .u8 0), .d (.int .u8 0), .d (.int .u8 0), .d (.int .u8 0), .d (.int .u8 0), .d (.int .u8 0), .d (.int .u8 0), .d (.int .u8 0), .d (.int .u8 0), .d (.int .u8 0), .d (.int .u8 0), .d (.int .u8 0), .d (.int .u8 0), .d (.int .u8 0), .d (.int .u8 0), .d (.int .u8 0), .d (.int .u8 0), .d (.int .u8 0), .d (.int .u8 0), .d (.int .u8 0), .d (.int .u8 0), .d (.int .u8 0), .d (.int .u8 0), .d (.int .u8 0), .d (.int .u8 0), .d (.int .u8 0), .d (.int .u8 0), .d (.int .u8 0), .d (.int .u8 0), .d (.int .u8 0)]), (163, .cell (.d .nilf)), (164, .cell (.d .nilf)), (165, .cell (.d .nilf))]
def tl10 : List (Nat × Ty) := [(166, .cell (.d .nilf)), (167, .cell (0:Int)), (169, .cell (.d .nilf)), (170, .cell (.d .nilf)), (171, .cell (.d .nilf)), (172, .cell (.d .nilf)), (173, .arr 32 1 false [.d (.int .u8 0), .d (.int .u8 0), .d (.int .u8 0), .d (.int .u8 0), .d (.int .u8 0), .d (.int .u8 0), .d (.int .u8 0), .d (.int .u8 0), .d (.int .u8 0), .d (.int .u8 0), .d (.int .u8 0), .d (.int .u8 0), .d (.int .u8 0), .d (.int .u8 0), .d (.int .u8 0), .d (.int .u8 0), .d (.int .u8 0), .d (.int .u8 0), .d (.int .u8 0), .d (.int .u8 0), .d (.int .u8 0), .d (.int .u8 0), .d (.int .u8 0), .d (.int .u8 0), .d (.int .u8 0), .d (.int .u8 0), .d (.int .u8 0), .d (.int .u8 0), .d (.int .u8 0), .d (.int .u8 0), .d (.int .u8 0), .d (.int .u8 0)]), (174, .arr 64 1 false [.d (.int .u8 0), .d (.int .u8 0), .d (.int .u8 0), .d (.int .u8 0), .d (.int .u8 0), .d (.int .u8 0), .d (.int .u8 0), .d (.int .u8 0), .d (.int .u8 0), .d (.int .u8 0), .d (.int .u8 0), .d (.int .u8 0), .d (.int .u8 0), .d (.int .u8 0), .d (.int .u8 0), .d (.int .u8 0), .d (.int .u8 0), .d (.int .u8 0), .d (.int .u8 0), .d (.int .u8 0), .d (.int .u8 0), .d (.int .u8 0), .d (.int .u8 0), .d (.int .u8 0), .d (.int .u8 0), .d (.int .u8 0), .d (.int .u8 0), .d (.int .u8 0), .d (.int .u8 0), .d (.int .u8 0), .d (.int .u8 0), .d (.int .u8 0), .d (.int .u8 0), .d (.int .u8 0), .d (.int .u8 0), .d (.int .u8 0), .d (.int .u8 0), .d (.int .u8 0), .d (.int .u8 0), .d (.int .u8 0), .d (.int .u8 0), .d (.int .u8 0), .d (.int .u8 0), .d (.int .u8 0), .d (.int .u8 0), .d (.int .u8 0), .d (.int .u8 0), .d (.int .u8 0), .d (.int .u8 0), .d (.int .u8 0), .d (.int .u8 0), .d (.int .u8 0), .d (.int .u8 0), .d (.int .u8 0), .d (.int .u8 0), .d (.int .u8 0), .d (.int .u8 0), .d (.int .u8 0), .d (.int .u8 0), .d (.int .u8 0), .d (.int .u8 0), .d (.int .u8 0), .d (.int .u8 0), .d (.int .u8 0)]), (175, .cell (.d (.int .u64 0))), (176, .cell (.d .nilf)), (177, .cell (.d .nilf)), (178, .cell (.d .nilf)), (179, .cell (.d .nilp)), (180, .cell (.d .nilf)), (181, .cell (.d .nilp))]
def tl11 : List (Nat × Ty) := [(183, .cell (.d .nilf)), (184, .cell (.d .nilf)), (185, .agg [.d .nilp, .d .nilp, .d .nilp, .d (.str [])] [(0, 1, false), (1, 1, false), (2, 1, false), (3, 1, false)]), (186, .agg [.d .nilp, .d .nilp, .d .nilp, .d (.str [])] [(0, 1, false), (1, 1, false), (2, 1, false), (3, 1, false)]), (187, .arr 0 1 false []), (190, .cell (.d .nilf)), (191, .cell (.d (.int .u8 0))), (192, .cell (.d (.int .u8 0))), (193, .cell (.d .nilf)), (194, .cell (.d (.int .i32 0))), (195, .cell (.d (.int .i32 0))), (196, .agg [.d (.int .u64 0), .d (.int .u64 0), .d (.int .u32 0), .d (.int .u8 0), .d (.int .u8 0), .d (.int .u8 0), .d (.int .u8 0), .d .nilf, .d .nilp, .d (.int .i32 0), .d (.int .i32 0)] [(0, 1, false), (1, 1, false), (2, 1, false), (3, 1, false), (4, 1, false), (5, 1, false), (6, 1, false), (7, 1, false), (8, 1, false), (9, 1, false), (10, 1, false)]), (197, .agg [.d (.int .u64 0), .d (.int .u64 0), .d (.int .u32 0), .d (.int .u8 0), .d (.int .u8 0), .d (.int .u8 0), .d (.int .u8 0), .d .nilf, .d .nilp, .d (.int .i32 0), .d (.int .i32 0)] [(0, 1, false), (1, 1, false), (2, 1, false), (3, 1, false), (4, 1, false), (5, 1, false), (6, 1, false), (7, 1, false), (8, 1, false), (9, 1, false), (10, 1, false)]), (198, .cell (.d .nilp))]
def tl : List (Nat × Ty) := tl0 ++ (tl1 ++ (tl2 ++ (tl3 ++ (tl4 ++ (tl5 ++ (tl6 ++ (tl7 ++ (tl8 ++ (tl9 ++ (tl10 ++ (tl11)))))))))))
theorem tl_ok : chkTL Tryz.prog tl = true := by kernel_rfl
theorem mixed : Tryz.prog.follows .mixedOrders = true := by kernel_rfl
theorem ev {f : FuncId} {fn : Func} {fa : FnA} {G : Nat → Option (List D)} {args : List CV} {r : CV} (hf : Tryz.prog.funcs[f]? = some fn) (htr : trFn (getTy tl) fn = some fa) (h : Body ⟨G, Ev Tryz.prog G, ItOk Tryz.prog G⟩ fa args r) : Ev Tryz.prog G f args r := zQO hf htr (fun _ _ _ h => h) (fun _ _ _ h => h) rfl (fun _ _ ht => zjY tl_ok ht) mixed h
theorem sys (G : Nat → Option (List D)) : Sys ⟨G, Ev Tryz.prog G, ItOk Tryz.prog G⟩ where
 zz4 _ _ := ev Tryz.func3 (by kernel_rfl)
 zyb _ _ := ev Tryz.func4 (by kernel_rfl)
 zya _ _ := ev Tryz.func5 (by kernel_rfl)
 zwa _ _ := ev Tryz.func6 (by kernel_rfl)
 zyk _ _ := ev Tryz.func7 (by kernel_rfl)
 zzr _ _ := ev Tryz.func8 (by kernel_rfl)
 zkY _ _ := ev Tryz.func9 (by kernel_rfl)
 zzZ _ _ := ev Tryz.func10 (by kernel_rfl)
 zvj _ _ := ev Tryz.func11 (by kernel_rfl)
 zzS _ _ := ev Tryz.func12 (by kernel_rfl)
 zkc _ _ := ev Tryz.func13 (by kernel_rfl)
 zkV _ _ := ev Tryz.func14 (by kernel_rfl)
 zxY _ _ := ev Tryz.func15 (by kernel_rfl)
 zws _ _ := ev Tryz.func16 (by kernel_rfl)
 zyt _ _ := ev Tryz.func17 (by kernel_rfl)
 zw3 _ _ := ev Tryz.func18 (by kernel_rfl)
 zw4 _ _ := ev Tryz.func19 (by kernel_rfl)
 zw5 _ _ := ev Tryz.func20 (by kernel_rfl)
 zxO _ _ := ev Tryz.func21 (by kernel_rfl)
 zzT _ _ := ev Tryz.func22 (by kernel_rfl)
 zkd _ _ := ev Tryz.func23 (by kernel_rfl)
 zyw _ _ := ev Tryz.func24 (by kernel_rfl)
 zvR _ _ := ev Tryz.func25 (by kernel_rfl)
 zjc _ _ := ev Tryz.func26 (by kernel_rfl)
 zq3 _ _ := ev Tryz.func27 (by kernel_rfl)
 zZF _ _ := ev Tryz.func28 (by kernel_rfl)
 zWf _ _ := ev Tryz.func29 (by kernel_rfl)
 zw9 _ _ := ev Tryz.func30 (by kernel_rfl)
 zvT _ _ := ev Tryz.func31 (by kernel_rfl)
 zYH _ _ := ev Tryz.func32 (by kernel_rfl)
 zZE _ _ := ev Tryz.func33 (by kernel_rfl)
 zyR _ _ := ev Tryz.func34 (by kernel_rfl)
 zxj _ _ := ev Tryz.func35 (by kernel_rfl)
 zwv _ _ := ev Tryz.func36 (by kernel_rfl)
 zz1 _ _ := ev Tryz.func37 (by kernel_rfl)
 zkX _ _ := ev Tryz.func38 (by kernel_rfl)
 zjd _ _ := ev Tryz.func39 (by kernel_rfl)
 zjf _ _ := ev Tryz.func40 (by kernel_rfl)
 zku _ _ := ev Tryz.func41 (by kernel_rfl)
 zwB _ _ := ev Tryz.func42 (by kernel_rfl)
 zzO _ _ := ev Tryz.func43 (by kernel_rfl)
 zyn _ _ := ev Tryz.func44 (by kernel_rfl)
 zww _ _ := ev Tryz.func45 (by kernel_rfl)
 zzI _ _ := ev Tryz.func46 (by kernel_rfl)
 zxi _ _ := ev Tryz.func47 (by kernel_rfl)
 zyx _ _ := ev Tryz.func48 (by kernel_rfl)
 zxG _ _ := ev Tryz.func49 (by kernel_rfl)
 zxf _ _ := ev Tryz.func50 (by kernel_rfl)
 zjv _ _ := ev Tryz.func51 (by kernel_rfl)
 zkC _ _ := ev Tryz.func52 (by kernel_rfl)
 zxR _ _ := ev Tryz.func53 (by kernel_rfl)
 zjH _ _ := ev Tryz.func54 (by kernel_rfl)
 zw8 _ _ := ev Tryz.func55 (by kernel_rfl)
 zkU _ _ := ev Tryz.func56 (by kernel_rfl)
 zyO _ _ := ev Tryz.func57 (by kernel_rfl)
 zx1 _ _ := ev Tryz.func60 (by kernel_rfl)
 zyu _ _ := ev Tryz.func61 (by kernel_rfl)
 zxn _ _ := ev Tryz.func62 (by kernel_rfl)
 zzK _ _ := ev Tryz.func63 (by kernel_rfl)
 zqI _ _ := ev Tryz.func64 (by kernel_rfl)
 zXw _ _ := ev Tryz.func65 (by kernel_rfl)
 zqH _ _ := ev Tryz.func66 (by kernel_rfl)
 zzn _ _ := ev Tryz.func67 (by kernel_rfl)
 zzl _ _ := ev Tryz.func68 (by kernel_rfl)
 zyo _ _ := ev Tryz.func69 (by kernel_rfl)
 zz7 _ _ := ev Tryz.func70 (by kernel_rfl)
 zyG _ _ := ev Tryz.func71 (by kernel_rfl)
 zxk _ _ := ev Tryz.func72 (by kernel_rfl)
 zyp _ _ := ev Tryz.func73 (by kernel_rfl)
 zxl _ _ := ev Tryz.func74 (by kernel_rfl)
 zwd _ _ := ev Tryz.func75 (by kernel_rfl)
 zka _ _ := ev Tryz.func76 (by kernel_rfl)
 zje _ _ := ev Tryz.func77 (by kernel_rfl)
 zvi _ _ := ev Tryz.func78 (by kernel_rfl)
 zym _ _ := ev Tryz.func79 (by kernel_rfl)
 zkW _ _ := ev Tryz.func80 (by kernel_rfl)
 zwC _ _ := ev Tryz.func81 (by kernel_rfl)
 zq4 _ _ := ev Tryz.func82 (by kernel_rfl)
 zxh _ _ := ev Tryz.func83 (by kernel_rfl)
 zzN _ _ := ev Tryz.func84 (by kernel_rfl)
 zzR _ _ := ev Tryz.func88 (by kernel_rfl)
 zzP _ _ := ev Tryz.func89 (by kernel_rfl)
 zyS _ _ := ev Tryz.func90 (by kernel_rfl)
 zkk _ _ := ev Tryz.func91 (by kernel_rfl)
 zqJ _ _ := ev Tryz.func92 (by kernel_rfl)
 cmp_Less_string _ _ := ev Tryz.func93 (by kernel_rfl)
 zzp _ _ := ev Tryz.func95 (by kernel_rfl)
 zxm _ _ := ev Tryz.func96 (by kernel_rfl)
 zwp _ _ := ev Tryz.func97 (by kernel_rfl)
 zyh _ _ := ev Tryz.func98 (by kernel_rfl)
 zyz _ _ := ev Tryz.func99 (by kernel_rfl)
 zq0 _ _ := ev Tryz.func100 (by kernel_rfl)
 zyy _ _ := ev Tryz.func101 (by kernel_rfl)
 zkQ _ _ := ev Tryz.func102 (by kernel_rfl)
 zjE _ _ := ev Tryz.func103 (by kernel_rfl)
 zzD _ _ := ev Tryz.func104 (by kernel_rfl)
 zyg _ _ := ev Tryz.func105 (by kernel_rfl)
 zkb _ _ := ev Tryz.func106 (by kernel_rfl)
 zq7 _ _ := ev Tryz.func107 (by kernel_rfl)
 zq6 _ _ := ev Tryz.func108 (by kernel_rfl)
 zq5 _ _ := ev Tryz.func109 (by kernel_rfl)
 zv1 _ _ := ev Tryz.func117 (by kernel_rfl)
 zx2 _ _ := ev Tryz.func118 (by kernel_rfl)
 cmp_isNaN_string _ _ := ev Tryz.func119 (by kernel_rfl)
 zzF _ _ := ev Tryz.func120 (by kernel_rfl)
 zq1 _ _ := ev Tryz.func121 (by kernel_rfl)
 zwz _ _ := ev Tryz.func122 (by kernel_rfl)
 zzW _ _ := ev Tryz.func123 (by kernel_rfl)
 zvf _ _ := ev Tryz.func124 (by kernel_rfl)
 zxQ _ _ := ev Tryz.func125 (by kernel_rfl)
 zw7 _ _ := ev Tryz.func126 (by kernel_rfl)
 zyV _ _ := ev Tryz.func127 (by kernel_rfl)
 zzH _ _ := ev Tryz.func128 (by kernel_rfl)
 zkT _ _ := ev Tryz.func129 (by kernel_rfl)
 zyA _ _ := ev Tryz.func130 (by kernel_rfl)
 zjb _ _ := ev Tryz.func131 (by kernel_rfl)
 zkS _ _ := ev Tryz.func132 (by kernel_rfl)
 zwe _ _ := ev Tryz.func133 (by kernel_rfl)
 zvg _ _ := ev Tryz.func134 (by kernel_rfl)
 zjF _ _ := ev Tryz.func144 (by kernel_rfl)
 zwr _ _ := ev Tryz.func145 (by kernel_rfl)
 zxC _ _ := ev Tryz.func146 (by kernel_rfl)
def X (G : Nat → Option (List D)) : AEnv := ⟨G, Ev Tryz.prog G, ItOk Tryz.prog G⟩
end Go.Abs.Seat
end
section
namespace Go.Proofs
open Go.Shelf
def Tryz.zKY : Go.Shelf.Ren := ⟨fun | 171 => 59 | 243 => 87 | 246 => 115 | 283 => 138 | 284 => 139 | 285 => 140 | 286 => 141 | 129 => 150 | 317 => 149 | 318 => 151 | 319 => 152 | 320 => 153 | 337 => 156 | 338 => 157 | n => n, fun | 3 => 3 | 9 => 9 | 2 => 2 | 4 => 4 | 171 => 146 | 0 => 0 | 53 => 113 | 37 => 127 | 5 => 5 | 173 => 149 | 212 => 160 | 51 => 161 | 20 => 20 | 213 => 162 | 46 => 115 | 232 => 173 | 233 => 174 | n => n, fun | 17 => 2 | 18 => 3 | 19 => 4 | n => n⟩
theorem Tryz.laysM171 : Go.Proofs.LaysM.n171 Tryz.prog Tryz.zKY := {
 mixed := by kernel_rfl
 f129 := Tryz.func150.trans (congrArg some (by kernel_rfl))
 f171 := Tryz.func59.trans (congrArg some (by kernel_rfl))
 f243 := Tryz.func87.trans (congrArg some (by kernel_rfl))
 f246 := Tryz.func115.trans (congrArg some (by kernel_rfl))
 f283 := Tryz.func138.trans (congrArg some (by kernel_rfl))
 f284 := Tryz.func139.trans (congrArg some (by kernel_rfl))
 f285 := Tryz.func140.trans (congrArg some (by kernel_rfl))
 f286 := Tryz.func141.trans (congrArg some (by kernel_rfl))
 f317 := Tryz.func149.trans (congrArg some (by kernel_rfl))
 f318 := Tryz.func151.trans (congrArg some (by kernel_rfl))
 f319 := Tryz.func152.trans (congrArg some (by kernel_rfl))
 f320 := Tryz.func153.trans (congrArg some (by kernel_rfl))
 f337 := Tryz.func156.trans (congrArg some (by kernel_rfl))
 f338 := Tryz.func157.trans (congrArg some (by kernel_rfl))
 t0 := Tryz.underlying0
 a0 := Tryz.isAgg0
 z0 := Tryz.sizeOf0
 v0 := Tryz.zeroValue0
 t2 := Tryz.underlying2
 a2 := Tryz.isAgg2
 z2 := Tryz.sizeOf2
 v2 := Tryz.zeroValue2
 t3 := Tryz.underlying3
 a3 := Tryz.isAgg3
 z3 := Tryz.sizeOf3
 v3 := Tryz.zeroValue3
 t4 := Tryz.underlying4
 a4 := Tryz.isAgg4
 z4 := Tryz.sizeOf4
 v4 := Tryz.zeroValue4
 t5 := Tryz.underlying5
 a5 := Tryz.isAgg5
 z5 := Tryz.sizeOf5
 v5 := Tryz.zeroValue5
 t9 := Tryz.underlying9
 a9 := Tryz.isAgg9
 z9 := Tryz.sizeOf9
 v9 := Tryz.zeroValue9
 t20 := Tryz.underlying20
 a20 := Tryz.isAgg20
 z20 := Tryz.sizeOf20
 v20 := Tryz.zeroValue20
 t37 := Tryz.underlying127
 a37 := Tryz.isAgg127
 z37 := Tryz.sizeOf127
 v37 := Tryz.zeroValue127
 t46 := Tryz.underlying115
 a46 := Tryz.isAgg115
 z46 := Tryz.sizeOf115
 v46 := Tryz.zeroValue115
 t51 := Tryz.underlying161
 a51 := Tryz.isAgg161
 z51 := Tryz.sizeOf161
 v51 := Tryz.zeroValue161
 t53 := Tryz.underlying113
 a53 := Tryz.isAgg113
 z53 := Tryz.sizeOf113
 v53 := Tryz.zeroValue113
 t171 := Tryz.underlying146
 a171 := Tryz.isAgg146
 z171 := Tryz.sizeOf146
 v171 := Tryz.zeroValue146
 t173 := Tryz.underlying149
 a173 := Tryz.isAgg149
 z173 := Tryz.sizeOf149
 v173 := Tryz.zeroValue149
 t212 := Tryz.underlying160
 a212 := Tryz.isAgg160
 z212 := Tryz.sizeOf160
 v212 := Tryz.zeroValue160
 t213 := Tryz.underlying162
 a213 := Tryz.isAgg162
 z213 := Tryz.sizeOf162
 t232 := Tryz.underlying173
 a232 := Tryz.isAgg173
 z232 := Tryz.sizeOf173
 v232 := Tryz.zeroValue173
 t233 := Tryz.underlying174
 a233 := Tryz.isAgg174
 z233 := Tryz.sizeOf174
 v233 := Tryz.zeroValue174
 g17 := by kernel_rfl
 g18 := by kernel_rfl
 g19 := by kernel_rfl
 i0 := by kernel_rfl
 i2 := by kernel_rfl
 i3 := by kernel_rfl
 i4 := by kernel_rfl
 i5 := by kernel_rfl
 i9 := by kernel_rfl
 i20 := by kernel_rfl
 i37 := by kernel_rfl
 i46 := by kernel_rfl
 i51 := by kernel_rfl
 i53 := by kernel_rfl
 i171 := by kernel_rfl
 i173 := by kernel_rfl
 i212 := by kernel_rfl
 i232 := by kernel_rfl
 i233 := by kernel_rfl
 m17 := by kernel_rfl
 m18 := by kernel_rfl
 m19 := by kernel_rfl }
open Go.RowKit Go.Sort Go.Lib in
theorem Tryz.strconv_Itoa (n : Int) (h0 : -9223372036854775808 ≤ n) (h1 : n ≤ 9223372036854775807) (w : World) (htab : Lib.TabIs Tryz.prog w "internal/strconv.uint64pow10" .u64 Lib.pow10Tab) :
  Calls Tryz.prog 59 #[.int .i64 n] w fun e w' => e = .returned (.string ⟨(Lib.itoa n).toArray⟩) ∧ ∃ k os, w' = grow (w.drewN k) os := Any.strconv_Itoa Tryz.laysM171 n h0 h1 w htab
end Go.Proofs
end
section
namespace Go.Abs.Seat
open Go Go.Abs Go.Proofs
theorem ykH {G : Nat → Option (List D)} (hg : Tryz.prog.globalNamed "internal/strconv.uint64pow10" = some 2) (hlt : 2 < Tryz.prog.globals.size) (hen : Enters Tryz.prog strconv_Itoa) (hG : G 2 = some (Lib.pow10Tab.map (D.int .u64))) : ItoaP (X G) := by
 intro n hn
 refine ⟨hen, fun w S cargs hl hgl ha => ?_⟩
 have htab : Lib.TabIs Tryz.prog w "internal/strconv.uint64pow10" .u64 Lib.pow10Tab := zJx hg (hgl.1 2 _ hG) (hgl.2.2 2 _ hlt hG (by decide))
 obtain ⟨v, r, h1, h2, h3⟩ := ha
 simp only [RepCL] at h3
 subst h3
 have h2 : v = .int .i64 n := h2
 subst h2
 obtain rfl : cargs = #[.int .i64 n] := by cases cargs; simp_all
 have hlen := Lib.itoa_length_le n hn.1 hn.2
 refine (Tryz.strconv_Itoa n hn.1 hn.2 w htab).mono ?_
 rintro e w' ⟨rfl, k, os, rfl⟩
 have hb := Lib.below_grow w.heap.size w (Nat.le_refl _) k os
 refine ⟨_, S, rfl, ⟨_, rfl, rfl, by show (Lib.itoa n).toArray.size ≤ _; rw [List.size_toArray]; omega⟩, hb, fun _ _ h => h, fun _ _ h => .inl h, fun b o hs => ?_⟩
 obtain ⟨v, hv⟩ := hl b o hs
 exact ⟨v, (hb.cell (p := ⟨b, o, none⟩) (zyc hv)).trans hv⟩
end Go.Abs.Seat
end
section
namespace Go.Proofs
open Go.Shelf
def Tryz.zV5 : Go.Shelf.Ren := ⟨fun | 190 => 142 | 125 => 155 | 258 => 154 | 128 => 166 | 129 => 150 | 302 => 158 | 303 => 159 | 304 => 160 | 305 => 161 | 306 => 162 | 307 => 163 | 308 => 93 | 309 => 164 | 310 => 165 | 333 => 167 | 329 => 168 | 330 => 169 | 334 => 170 | 335 => 171 | 336 => 119 | 344 => 172 | n => n, fun | 31 => 96 | 9 => 9 | 3 => 3 | 46 => 115 | 0 => 0 | 51 => 161 | 53 => 113 | 4 => 4 | 183 => 168 | 182 => 167 | 131 => 45 | 5 => 5 | 218 => 175 | 222 => 179 | 228 => 181 | 229 => 182 | n => n, fun | n => n⟩
theorem Tryz.lays190 : Go.Proofs.Lays.n190 Tryz.prog Tryz.zV5 := {
 mixed := by kernel_rfl
 f125 := Tryz.func155.trans (congrArg some (by kernel_rfl))
 f128 := Tryz.func166.trans (congrArg some (by kernel_rfl))
 f129 := Tryz.func150.trans (congrArg some (by kernel_rfl))
 f190 := Tryz.func142.trans (congrArg some (by kernel_rfl))
 f258 := Tryz.func154.trans (congrArg some (by kernel_rfl))
 f302 := Tryz.func158.trans (congrArg some (by kernel_rfl))
 f303 := Tryz.func159.trans (congrArg some (by kernel_rfl))
 f304 := Tryz.func160.trans (congrArg some (by kernel_rfl))
 f305 := Tryz.func161.trans (congrArg some (by kernel_rfl))
 f306 := Tryz.func162.trans (congrArg some (by kernel_rfl))
 f307 := Tryz.func163.trans (congrArg some (by kernel_rfl))
 f308 := Tryz.func93.trans (congrArg some (by kernel_rfl))
 f309 := Tryz.func164.trans (congrArg some (by kernel_rfl))
 f310 := Tryz.func165.trans (congrArg some (by kernel_rfl))
 f329 := Tryz.func168.trans (congrArg some (by kernel_rfl))
 f330 := Tryz.func169.trans (congrArg some (by kernel_rfl))
 f333 := Tryz.func167.trans (congrArg some (by kernel_rfl))
 f334 := Tryz.func170.trans (congrArg some (by kernel_rfl))
 f335 := Tryz.func171.trans (congrArg some (by kernel_rfl))
 f336 := Tryz.func119.trans (congrArg some (by kernel_rfl))
 f344 := Tryz.func172.trans (congrArg some (by kernel_rfl))
 t0 := Tryz.underlying0
 a0 := Tryz.isAgg0
 z0 := Tryz.sizeOf0
 v0 := Tryz.zeroValue0
 t3 := Tryz.underlying3
 a3 := Tryz.isAgg3
 z3 := Tryz.sizeOf3
 v3 := Tryz.zeroValue3
 t4 := Tryz.underlying4
 a4 := Tryz.isAgg4
 z4 := Tryz.sizeOf4
 v4 := Tryz.zeroValue4
 t5 := Tryz.underlying5
 a5 := Tryz.isAgg5
 z5 := Tryz.sizeOf5
 v5 := Tryz.zeroValue5
 t9 := Tryz.underlying9
 a9 := Tryz.isAgg9
 z9 := Tryz.sizeOf9
 v9 := Tryz.zeroValue9
 t31 := Tryz.underlying96
 a31 := Tryz.isAgg96
 z31 := Tryz.sizeOf96
 v31 := Tryz.zeroValue96
 t46 := Tryz.underlying115
 a46 := Tryz.isAgg115
 z46 := Tryz.sizeOf115
 v46 := Tryz.zeroValue115
 t51 := Tryz.underlying161
 a51 := Tryz.isAgg161
 z51 := Tryz.sizeOf161
 v51 := Tryz.zeroValue161
 t53 := Tryz.underlying113
 a53 := Tryz.isAgg113
 z53 := Tryz.sizeOf113
 v53 := Tryz.zeroValue113
 t131 := Tryz.underlying45
 a131 := Tryz.isAgg45
 z131 := Tryz.sizeOf45
 v131 := Tryz.zeroValue45
 t182 := Tryz.underlying167
 a182 := Tryz.isAgg167
 z182 := Tryz.sizeOf167
 v182 := Tryz.zeroValue167
 t183 := Tryz.underlying168
 a183 := Tryz.isAgg168
 z183 := Tryz.sizeOf168
 v183 := Tryz.zeroValue168
 t218 := Tryz.underlying175
 a218 := Tryz.isAgg175
 z218 := Tryz.sizeOf175
 v218 := Tryz.zeroValue175
 t222 := Tryz.underlying179
 a222 := Tryz.isAgg179
 z222 := Tryz.sizeOf179
 v222 := Tryz.zeroValue179
 t228 := Tryz.underlying181
 a228 := Tryz.isAgg181
 z228 := Tryz.sizeOf181
 v228 := Tryz.zeroValue181
 t229 := Tryz.underlying182
 a229 := Tryz.isAgg182
 z229 := Tryz.sizeOf182
 v229 := Tryz.zeroValue182 }
open Go.Sort Go.RowKit in
theorem Tryz.slices_Sort_string (blk off cap : Nat) (ss : List (List UInt8)) (w : World) (hH : Holds encStr w blk off ss.toArray) (hblk : blk < w.heap.size) (hsz : ss.length < 4611686018427387904) :
  Calls Tryz.prog 142 #[.slice (some ⟨blk, off, none⟩) ss.length cap] w fun e w' =>
   e = .returned (.tuple #[]) ∧ ∃ n os, w' = grow (putRow encStr (Sort.ahead w n) blk off (ss.mergeSort fun x y => decide (x ≤ y)).toArray) os := Any.slices_Sort_string Tryz.lays190 blk off cap ss w hH hblk hsz
def Tryz.zV6 : Go.Shelf.Ren := ⟨fun | 194 => 143 | n => n, fun | 31 => 96 | 9 => 9 | 3 => 3 | 4 => 4 | 0 => 0 | n => n, fun | n => n⟩
theorem Tryz.lays194 : Go.Proofs.Lays.n194 Tryz.prog Tryz.zV6 := {
 mixed := by kernel_rfl
 f194 := Tryz.func143.trans (congrArg some (by kernel_rfl))
 t0 := Tryz.underlying0
 a0 := Tryz.isAgg0
 z0 := Tryz.sizeOf0
 v0 := Tryz.zeroValue0
 t3 := Tryz.underlying3
 a3 := Tryz.isAgg3
 z3 := Tryz.sizeOf3
 v3 := Tryz.zeroValue3
 t4 := Tryz.underlying4
 a4 := Tryz.isAgg4
 z4 := Tryz.sizeOf4
 v4 := Tryz.zeroValue4
 t9 := Tryz.underlying9
 a9 := Tryz.isAgg9
 z9 := Tryz.sizeOf9
 v9 := Tryz.zeroValue9
 t31 := Tryz.underlying96
 a31 := Tryz.isAgg96
 z31 := Tryz.sizeOf96
 v31 := Tryz.zeroValue96 }
open Go.RowKit Go.Lib Go.Sort in
theorem Tryz.slices_Compact_string (blk off cap : Nat) (zs : List (List UInt8)) (w : World) (hH : Holds encStr w blk off zs.toArray) (hsz : zs.length ≤ 9223372036854775807) (hcap : zs.length ≤ cap) :
  Calls Tryz.prog 143 #[.slice (some ⟨blk, off, none⟩) zs.length cap] w fun e w' => e = .returned (.slice (some ⟨blk, off, none⟩) (Lib.compact zs).length cap) ∧ ∃ q, w' = putRow encStr (Sort.ahead w q) blk off (Lib.compact zs ++ List.replicate (zs.length - (Lib.compact zs).length) []).toArray := Any.slices_Compact_string Tryz.lays194 blk off cap zs w hH hsz hcap
end Go.Proofs
end
section
namespace Go.Abs.Seat
open Go Go.Abs Go.Proofs
theorem ywY (G : Nat → Option (List D)) : UnionLaw (X G) := fun a b h =>
 (EvOwn.plain (ywX (P := Tryz.prog) (T := getTy tl) (eb := 16) (cd := Tryz.f116.body.getD .ret) Tryz.func116 (by kernel_rfl) (by kernel_rfl)
  (show (segs (Tryz.f116.body.getD .ret)).map (fun l => l.map fun p => p.2.toList.map opc) = some (unionOps 96 142 143) by kernel_rfl) (by kernel_rfl) (by kernel_rfl) (fun _ _ ht => zjY tl_ok ht) (zjY tl_ok (show getTy tl 96 = some (.slice 1 16 [.d (.str [])]) by kernel_rfl)) (by decide)
  ⟨Tryz.f142, Tryz.func142, by kernel_rfl, by kernel_rfl⟩ ⟨Tryz.f143, Tryz.func143, by kernel_rfl, by kernel_rfl⟩
  (fun blk off cap ss w h1 h2 h3 => Tryz.slices_Sort_string blk off cap ss w h1 h2 h3) (fun blk off cap zs w h1 h2 h3 => Tryz.slices_Compact_string blk off cap zs w h1 h2 h3) a b h))
end Go.Abs.Seat
end
section
namespace Go.Proofs
open Go.Shelf
def Tryz.zKX : Go.Shelf.Ren := ⟨fun | 172 => 58 | 244 => 85 | 245 => 86 | 247 => 110 | 279 => 111 | 280 => 112 | 281 => 113 | 282 => 114 | 287 => 135 | 316 => 136 | 171 => 59 | 205 => 137 | 321 => 147 | 322 => 148 | 243 => 87 | 246 => 115 | 283 => 138 | 284 => 139 | 285 => 140 | 286 => 141 | 129 => 150 | 317 => 149 | 318 => 151 | 319 => 152 | 320 => 153 | 337 => 156 | 338 => 157 | n => n, fun | 9 => 9 | 3 => 3 | 75 => 92 | 76 => 93 | 4 => 4 | 5 => 5 | 167 => 126 | 37 => 127 | 0 => 0 | 85 => 128 | 2 => 2 | 168 => 130 | 53 => 113 | 175 => 140 | 46 => 115 | 210 => 144 | 127 => 156 | 145 => 159 | 143 => 157 | 21 => 21 | 171 => 146 | 173 => 149 | 212 => 160 | 51 => 161 | 20 => 20 | 213 => 162 | 232 => 173 | 233 => 174 | 80 => 184 | n => n, fun | 15 => 0 | 16 => 1 | 17 => 2 | 18 => 3 | 19 => 4 | n => n⟩
theorem Tryz.laysC172 : Go.Proofs.LaysC.n172 Tryz.prog Tryz.zKX := {
 mixed := by kernel_rfl
 f129 := Tryz.func150.trans (congrArg some (by kernel_rfl))
 f171 := Tryz.func59.trans (congrArg some (by kernel_rfl))
 f172 := Tryz.func58.trans (congrArg some (by kernel_rfl))
 f205 := Tryz.func137.trans (congrArg some (by kernel_rfl))
 f243 := Tryz.func87.trans (congrArg some (by kernel_rfl))
 f244 := Tryz.func85.trans (congrArg some (by kernel_rfl))
 f245 := Tryz.func86.trans (congrArg some (by kernel_rfl))
 f246 := Tryz.func115.trans (congrArg some (by kernel_rfl))
 f247 := Tryz.func110.trans (congrArg some (by kernel_rfl))
 f279 := Tryz.func111.trans (congrArg some (by kernel_rfl))
 f280 := Tryz.func112.trans (congrArg some (by kernel_rfl))
 f281 := Tryz.func113.trans (congrArg some (by kernel_rfl))
 f282 := Tryz.func114.trans (congrArg some (by kernel_rfl))
 f283 := Tryz.func138.trans (congrArg some (by kernel_rfl))
 f284 := Tryz.func139.trans (congrArg some (by kernel_rfl))
 f285 := Tryz.func140.trans (congrArg some (by kernel_rfl))
 f286 := Tryz.func141.trans (congrArg some (by kernel_rfl))
 f287 := Tryz.func135.trans (congrArg some (by kernel_rfl))
 f316 := Tryz.func136.trans (congrArg some (by kernel_rfl))
 f317 := Tryz.func149.trans (congrArg some (by kernel_rfl))
 f318 := Tryz.func151.trans (congrArg some (by kernel_rfl))
 f319 := Tryz.func152.trans (congrArg some (by kernel_rfl))
 f320 := Tryz.func153.trans (congrArg some (by kernel_rfl))
 f321 := Tryz.func147.trans (congrArg some (by kernel_rfl))
 f322 := Tryz.func148.trans (congrArg some (by kernel_rfl))
 f337 := Tryz.func156.trans (congrArg some (by kernel_rfl))
 f338 := Tryz.func157.trans (congrArg some (by kernel_rfl))
 t0 := Tryz.underlying0
 a0 := Tryz.isAgg0
 z0 := Tryz.sizeOf0
 v0 := Tryz.zeroValue0
 t2 := Tryz.underlying2
 a2 := Tryz.isAgg2
 z2 := Tryz.sizeOf2
 v2 := Tryz.zeroValue2
 t3 := Tryz.underlying3
 a3 := Tryz.isAgg3
 z3 := Tryz.sizeOf3
 v3 := Tryz.zeroValue3
 t4 := Tryz.underlying4
 a4 := Tryz.isAgg4
 z4 := Tryz.sizeOf4
 v4 := Tryz.zeroValue4
 t5 := Tryz.underlying5
 a5 := Tryz.isAgg5
 z5 := Tryz.sizeOf5
 v5 := Tryz.zeroValue5
 t9 := Tryz.underlying9
 a9 := Tryz.isAgg9
 z9 := Tryz.sizeOf9
 v9 := Tryz.zeroValue9
 t20 := Tryz.underlying20
 a20 := Tryz.isAgg20
 z20 := Tryz.sizeOf20
 v20 := Tryz.zeroValue20
 t21 := Tryz.underlying21
 a21 := Tryz.isAgg21
 z21 := Tryz.sizeOf21
 v21 := Tryz.zeroValue21
 t37 := Tryz.underlying127
 a37 := Tryz.isAgg127
 z37 := Tryz.sizeOf127
 v37 := Tryz.zeroValue127
 t46 := Tryz.underlying115
 a46 := Tryz.isAgg115
 z46 := Tryz.sizeOf115
 v46 := Tryz.zeroValue115
 t51 := Tryz.underlying161
 a51 := Tryz.isAgg161
 z51 := Tryz.sizeOf161
 v51 := Tryz.zeroValue161
 t53 := Tryz.underlying113
 a53 := Tryz.isAgg113
 z53 := Tryz.sizeOf113
 v53 := Tryz.zeroValue113
 t75 := Tryz.underlying92
 a75 := Tryz.isAgg92
 z75 := Tryz.sizeOf92
 v75 := Tryz.zeroValue92
 t76 := Tryz.underlying93
 a76 := Tryz.isAgg93
 z76 := Tryz.sizeOf93
 v76 := Tryz.zeroValue93
 t85 := Tryz.underlying128
 a85 := Tryz.isAgg128
 z85 := Tryz.sizeOf128
 v85 := Tryz.zeroValue128
 t127 := Tryz.underlying156
 a127 := Tryz.isAgg156
 z127 := Tryz.sizeOf156
 v127 := Tryz.zeroValue156
 t143 := Tryz.underlying157
 a143 := Tryz.isAgg157
 z143 := Tryz.sizeOf157
 v143 := Tryz.zeroValue157
 t145 := Tryz.underlying159
 a145 := Tryz.isAgg159
 z145 := Tryz.sizeOf159
 v145 := Tryz.zeroValue159
 t167 := Tryz.underlying126
 a167 := Tryz.isAgg126
 z167 := Tryz.sizeOf126
 v167 := Tryz.zeroValue126
 t168 := Tryz.underlying130
 a168 := Tryz.isAgg130
 z168 := Tryz.sizeOf130
 v168 := Tryz.zeroValue130
 t171 := Tryz.underlying146
 a171 := Tryz.isAgg146
 z171 := Tryz.sizeOf146
 v171 := Tryz.zeroValue146
 t173 := Tryz.underlying149
 a173 := Tryz.isAgg149
 z173 := Tryz.sizeOf149
 v173 := Tryz.zeroValue149
 t175 := Tryz.underlying140
 a175 := Tryz.isAgg140
 z175 := Tryz.sizeOf140
 v175 := Tryz.zeroValue140
 t210 := Tryz.underlying144
 a210 := Tryz.isAgg144
 z210 := Tryz.sizeOf144
 v210 := Tryz.zeroValue144
 t212 := Tryz.underlying160
 a212 := Tryz.isAgg160
 z212 := Tryz.sizeOf160
 v212 := Tryz.zeroValue160
 t213 := Tryz.underlying162
 a213 := Tryz.isAgg162
 z213 := Tryz.sizeOf162
 t232 := Tryz.underlying173
 a232 := Tryz.isAgg173
 z232 := Tryz.sizeOf173
 v232 := Tryz.zeroValue173
 t233 := Tryz.underlying174
 a233 := Tryz.isAgg174
 z233 := Tryz.sizeOf174
 v233 := Tryz.zeroValue174
 g15 := by kernel_rfl
 g16 := by kernel_rfl
 g17 := by kernel_rfl
 g18 := by kernel_rfl
 g19 := by kernel_rfl
 t80 := Tryz.underlying184
 a80 := Tryz.isAgg184
 z80 := Tryz.sizeOf184
 v80 := Tryz.zeroValue184
 i0 := by kernel_rfl
 i2 := by kernel_rfl
 i3 := by kernel_rfl
 i4 := by kernel_rfl
 i5 := by kernel_rfl
 i9 := by kernel_rfl
 i20 := by kernel_rfl
 i21 := by kernel_rfl
 i37 := by kernel_rfl
 i46 := by kernel_rfl
 i51 := by kernel_rfl
 i53 := by kernel_rfl
 i75 := by kernel_rfl
 i76 := by kernel_rfl
 i80 := by kernel_rfl
 i85 := by kernel_rfl
 i127 := by kernel_rfl
 i143 := by kernel_rfl
 i145 := by kernel_rfl
 i167 := by kernel_rfl
 i168 := by kernel_rfl
 i171 := by kernel_rfl
 i173 := by kernel_rfl
 i175 := by kernel_rfl
 i210 := by kernel_rfl
 i212 := by kernel_rfl
 i232 := by kernel_rfl
 i233 := by kernel_rfl
 m15 := by kernel_rfl
 m16 := by kernel_rfl
 m17 := by kernel_rfl
 m18 := by kernel_rfl
 m19 := by kernel_rfl
 c0 := by kernel_rfl
 c2 := by kernel_rfl
 c3 := by kernel_rfl
 c4 := by kernel_rfl
 c5 := by kernel_rfl
 c9 := by kernel_rfl
 c20 := by kernel_rfl
 c21 := by kernel_rfl
 c37 := by kernel_rfl
 c46 := by kernel_rfl
 c51 := by kernel_rfl
 c53 := by kernel_rfl
 c75 := by kernel_rfl
 c76 := by kernel_rfl
 c80 := by kernel_rfl
 c85 := by kernel_rfl
 c127 := by kernel_rfl
 c143 := by kernel_rfl
 c145 := by kernel_rfl
 c167 := by kernel_rfl
 c168 := by kernel_rfl
 c171 := by kernel_rfl
 c173 := by kernel_rfl
 c175 := by kernel_rfl
 c210 := by kernel_rfl
 c212 := by kernel_rfl
 c213 := by kernel_rfl
 c232 := by kernel_rfl
 c233 := by kernel_rfl }
open Go.RowKit in
theorem Tryz.strconv_Atoi_ok (s : ByteArray) (hmax : s.size ≤ 9223372036854775806) (v : Int) (h : Lib.atoiAll s.data.toList = .ok v) (w : World) :
  Calls Tryz.prog 58 #[.string s] w fun e w' => e = .returned (.tuple #[.int .i64 v, .nilIface]) ∧ (w' = w ∨ ∃ t, w' = Lib.bytesWorld w 5 t) := Any.strconv_Atoi_ok Tryz.laysC172 s hmax v h w
open Go.RowKit in
theorem Tryz.strconv_Atoi_syntax (s : ByteArray) (hlim : s.size ≤ 281474976710656) (e0 : Lib.NumEnd Int) (h : Lib.atoiAll s.data.toList = e0) (h1 : ∀ v, e0 ≠ .ok v) (h2 : e0 ≠ .range) (ev : Value) (w : World) (hv : w.cell? ⟨0, 0, none⟩ = some ev) (hev : ev = .nilIface ∨ ∃ te pe, ev = .iface te pe) :
  Calls Tryz.prog 58 #[.string s] w fun e w' => ∃ N, e = .returned (.tuple #[.int .i64 (0), .iface 130 (.pointer (some ⟨N, 0, none⟩))]) ∧ w.heap.size ≤ N ∧ w'.heap[N]? = some (.cells #[.string ⟨#[65, 116, 111, 105]⟩, .string s, ev] 144 (0, 0)) ∧ Below w.heap.size w w' := by
 cases e0 with
 | ok v => exact absurd rfl (h1 v)
 | range => exact absurd rfl h2
 | _ => exact Any.strconv_Atoi_syntax Tryz.laysC172 s hlim h ev w hv hev
open Go.RowKit in
theorem Tryz.strconv_Atoi_range (s : ByteArray) (hlim : s.size ≤ 281474976710656) (h : Lib.atoiAll s.data.toList = .range) (ev : Value) (w : World) (hv : w.cell? ⟨1, 0, none⟩ = some ev) (hev : ev = .nilIface ∨ ∃ te pe, ev = .iface te pe) :
  Calls Tryz.prog 58 #[.string s] w fun e w' => ∃ N, e = .returned (.tuple #[.int .i64 (Lib.atoiSat s.data.toList), .iface 130 (.pointer (some ⟨N, 0, none⟩))]) ∧ w.heap.size ≤ N ∧ w'.heap[N]? = some (.cells #[.string ⟨#[65, 116, 111, 105]⟩, .string s, ev] 144 (0, 0)) ∧ Below w.heap.size w w' := Any.strconv_Atoi_range Tryz.laysC172 s hlim h ev w hv hev
end Go.Proofs
end
section
namespace Go.Abs.Seat
open Go Go.Abs Go.Proofs Go.RowKit
theorem zK3 : ∀ (a b : List UInt8) (n : Nat), Lib.parseUint10 n (a ++ b) = match Lib.parseUint10 n a with | .ok u => Lib.parseUint10 u b | e => e
 | [], b, n => rfl
 | c :: a, b, n => by
  simp only [List.cons_append, Lib.parseUint10]
  split
  ·split
   ·rfl
   ·split
    ·rfl
    ·exact zK3 a b _
  ·rfl
theorem yyV : ∀ m : Nat, m ≤ 9223372036854775807 → Lib.parseUint10 0 (Lib.decDigits m) = .ok m := by
 intro m
 induction m using Nat.strongRecOn with | _ m ih =>
 intro hm
 by_cases h : m < 10
 ·rw [dig1 h]
  have e : (UInt8.ofNat (48 + m)).toNat = 48 + m := by rw [UInt8.toNat_ofNat']; omega
  simp only [Lib.parseUint10, e]
  rw [if_pos (by omega), if_neg (by omega), if_neg (by omega)]
  congr 1; omega
 ·rw [dig2 h, zK3, ih (m / 10) (by omega) (by omega)]
  have e : (UInt8.ofNat (48 + m % 10)).toNat = 48 + m % 10 := by rw [UInt8.toNat_ofNat']; omega
  simp only [Lib.parseUint10, e]
  rw [if_pos (by omega), if_neg (by omega), if_neg (by omega)]
  congr 1; omega
theorem zYd (m : Nat) (hm : m ≤ 9223372036854775807) : Lib.atoiAll (Lib.itoa (m : Int)) = .ok (m : Int) := by
 rw [zqp]
 have h := yyV m hm
 have hne : Lib.decDigits m ≠ [] := by
  by_cases h : m < 10
  ·rw [dig1 h]; simp
  ·rw [dig2 h]; simp
 generalize Lib.decDigits m = l at h hne
 cases l with
 | nil => exact absurd rfl hne
 | cons c r =>
  have hc : 48 ≤ c.toNat ∧ c.toNat ≤ 57 := by
   simp only [Lib.parseUint10] at h
   split at h
   ·assumption
   ·cases h
  rw [Lib.atoiAll_plain c r (by omega) (by omega)]
  unfold Lib.parseMag
  rw [if_neg (by simp), h]
  simp only [Lib.signless]
  rw [if_neg (by omega)]
theorem zJI {w : World} {S : Safe} {g : Nat} (h : RepCs w S g 0 [.anyI]) : ∃ ev, w.cell? ⟨g, 0, none⟩ = some ev ∧ (ev = .nilIface ∨ ∃ te pe, ev = .iface te pe) := by
 obtain ⟨l, hl, hc⟩ := RepCs.values h
 obtain ⟨v, r, rfl, ⟨t, u, rfl⟩, _⟩ := hl
 exact ⟨_, (hc 0 _ rfl).1, .inr ⟨t, u, rfl⟩⟩
theorem yks {G : Nat → Option (List D)} (h0 : G 0 = some [.anyI]) (h1 : G 1 = some [.anyI]) (hen : Enters Tryz.prog strconv_Atoi) : AtoiP (X G) := by
 intro s hs
 have key : ∀ (e : Bool) (n : Int), (∀ (w : World) (S : Safe) (b : ByteArray), GlobOk Tryz.prog G w S → b.data.toList = s → b.size ≤ 281474976710656 → Calls Tryz.prog strconv_Atoi #[.string b] w fun e' w' => (∃ v, e' = .returned (.tuple #[.int .i64 n, v]) ∧ (e = true → v = .nilIface) ∧ (e = false → ∃ t u, v = .iface t u)) ∧ Below w.heap.size w w') →
   (X G).C strconv_Atoi [.one (.str s)] (.tup [.one (.int .i64 n), .one (if e then .nilI else .anyI)]) := by
  intro e n hk
  refine ⟨hen, fun w S cargs hl hgl ha => ?_⟩
  obtain ⟨v, r, e1, e2, e3⟩ := ha
  simp only [RepCL] at e3
  subst e3
  obtain ⟨b, rfl, hb, _⟩ : ∃ b : ByteArray, v = .string b ∧ b.data.toList = s ∧ b.size ≤ 9223372036854775807 := e2
  obtain rfl : cargs = #[.string b] := by cases cargs; simp_all
  have hsz : b.size ≤ 281474976710656 := by
   have : b.size = s.length := by rw [← hb, Array.length_toList]; rfl
   omega
  refine (hk w S b hgl hb hsz).mono ?_
  rintro e' w' ⟨⟨v, rfl, hv1, hv2⟩, hb⟩
  refine ⟨_, S, rfl, ⟨_, rfl, ?_⟩, hb, fun _ _ h => h, fun _ _ h => .inl h, fun b o hs => ?_⟩
  ·refine ⟨_, _, rfl, rfl, _, _, rfl, ?_, rfl⟩
   cases e with
   | true => exact hv1 rfl
   | false => exact hv2 rfl
  ·obtain ⟨v, hv⟩ := hl b o hs
   exact ⟨v, (hb.cell (p := ⟨b, o, none⟩) (zyc hv)).trans hv⟩
 cases h : Lib.atoiAll s with
 | ok v =>
  refine ⟨v, true, Lib.atoiAll_bounds h, key true v fun w S b hg hb hsz => ?_, fun m hm he => ?_⟩
  ·refine (Tryz.strconv_Atoi_ok b (by omega) v (by rw [hb]; exact h) w).mono ?_
   rintro e' w' ⟨rfl, hw⟩
   refine ⟨⟨_, rfl, fun _ => rfl, fun h => by cases h⟩, ?_⟩
   rcases hw with rfl | ⟨t, rfl⟩
   ·exact Below.refl _ _
   ·exact Lib.bytesWorld_below _ _ _
  ·rw [he, zYd m (by omega)] at h
   cases h
   exact ⟨rfl, rfl⟩
 | range =>
  refine ⟨Lib.atoiSat s, false, Lib.atoiSat_bounds s, key false _ fun w S b hg hb hsz => ?_, fun m hm he => ?_⟩
  ·obtain ⟨ev, hc, hi⟩ := zJI (hg.1 1 _ h1)
   refine (Tryz.strconv_Atoi_range b hsz (by rw [hb]; exact h) ev w hc hi).mono ?_
   rintro e' w' ⟨N, rfl, _, _, hb'⟩
   rw [hb]
   exact ⟨⟨_, rfl, ⟨(fun h => by cases h), fun _ => ⟨_, _, rfl⟩⟩⟩, hb'⟩
  ·rw [he, zYd m (by omega)] at h
   cases h
 | _ =>
  refine ⟨0, false, ⟨by omega, by omega⟩, key false 0 fun w S b hg hb hsz => ?_, fun m hm he => ?_⟩
  ·obtain ⟨ev, hc, hi⟩ := zJI (hg.1 0 _ h0)
   refine (Tryz.strconv_Atoi_syntax b hsz (Lib.atoiAll s) (by rw [hb]) (fun v hv => by rw [h] at hv; cases hv) (fun hv => by rw [h] at hv; cases hv) ev w hc hi).mono ?_
   rintro e' w' ⟨N, rfl, _, _, hb⟩
   exact ⟨⟨_, rfl, ⟨(fun h => by cases h), fun _ => ⟨_, _, rfl⟩⟩⟩, hb⟩
  ·rw [he, zYd m (by omega)] at h
   cases h
end Go.Abs.Seat
end
section
namespace Go.Abs.Seat
open Go Go.Abs Go.Proofs Go.Proofs.YtkgcihbedagkfaaGreatDoor Go.RowKit Go.ChangeShapes
variable {H : Type} {enc : TypeId × Value → H} {w : World}
theorem bulkOk : BulkOk (Rows.uptoBulk (H := H)) Rows.uptoBulkAll where
 one d := by
  cases d with
  | lit l => cases l <;> simp only [Rows.uptoBulk] <;> omega
  | _ => simp only [Rows.uptoBulk]; omega
 str s := by simp only [Rows.uptoBulk]; omega
 slice a b := by simp only [Rows.uptoBulk]; omega
 agg a := by simp only [Rows.uptoBulk]; omega
 cons d r := by simp only [Rows.uptoBulkAll]; omega
theorem cs1 : ∀ t ∈ [3, 4, 5, 9, 22, 23, 26, 29, 30, 38, 42, 44], Tryz.prog.cellsOf t = 1 := of_decide_eq_true (by kernel_rfl)
theorem c1 {t : Nat} (h : t ∈ [3, 4, 5, 9, 22, 23, 26, 29, 30, 38, 42, 44] := by simp) : Tryz.prog.cellsOf t = 1 := cs1 t h
theorem c25 : Tryz.prog.cellsOf 25 = 4 := by kernel_rfl
theorem c41 : Tryz.prog.cellsOf 41 = 2 := by kernel_rfl
theorem c48 : Tryz.prog.cellsOf 48 = 2 := by kernel_rfl
theorem c28 : Tryz.prog.cellsOf 28 = 5 := by kernel_rfl
theorem c53 : Tryz.prog.cellsOf 53 = 2 := by kernel_rfl
theorem c32 : Tryz.prog.cellsOf 32 = 4 := by kernel_rfl
theorem c39 : Tryz.prog.cellsOf 39 = 3 := by kernel_rfl
def sz1 {α : Type} : α → Nat := fun _ => 1
theorem yk6 (n : Nat) : ReadsAt enc Tryz.prog w Rows.uptoBulk n 25 Pred.cells Pred.sz :=
 yzm bulkOk Tryz.underlying25 Tryz.underlying22 Tryz.underlying9 Tryz.underlying3 Tryz.underlying23 c25 c1 c1 c1 c1 n
theorem yk3 : ∀ n, ReadsAt enc Tryz.prog w Rows.uptoBulk n 41 Coef.cells sz1
 | 0 => zyW
 | n + 1 => zkZ (zjg bulkOk Tryz.underlying41 c41 c1 (fun _ => rfl) (zVg bulkOk Tryz.underlying9) c1 (fun _ => rfl) (zxb bulkOk Tryz.underlying3)) (fun x => Coef.mk x.1 x.2.1) (fun x => rfl) (fun x => by simp only [sz1]; omega)
theorem ywE (n : Nat) : ReadsAt enc Tryz.prog w Rows.uptoBulk n 42 (fun l : List Coef => [.lst (l.map Coef.cells)]) (fun l => (l.map sz1).sum + 1) := reads_slice' bulkOk Tryz.underlying42 (by rw [c41]; decide) (fun x => by rw [c41]; exact rfl) yk3 n
theorem yvN : ∀ n, ReadsAt enc Tryz.prog w Rows.uptoBulk n 48 Lin.cells sz1
 | 0 => zyW
 | n + 1 => zkZ (zjg bulkOk Tryz.underlying48 c48 c1 (fun _ => rfl) (ywE n) c1 (fun _ => rfl) (zxb bulkOk Tryz.underlying3)) (fun x => Lin.mk x.1 x.2.1) (fun x => rfl) (fun x => by simp only [sz1]; omega)
theorem yk5 (n : Nat) : ReadsAt enc Tryz.prog w Rows.uptoBulk n 26 (fun l : List Lin => [.lst (l.map Lin.cells)]) (fun l => (l.map sz1).sum + 1) := reads_slice' bulkOk Tryz.underlying26 (by rw [c48]; decide) (fun x => by rw [c48]; exact rfl) yvN n
theorem yvM (n : Nat) : ReadsAt enc Tryz.prog w Rows.uptoBulk n 3 icell sz1 := zxb bulkOk Tryz.underlying3
theorem yk4 (n : Nat) : ReadsAt enc Tryz.prog w Rows.uptoBulk n 44 (fun l : List Int => [.lst (l.map icell)]) (fun l => (l.map sz1).sum + 1) := reads_slice' bulkOk Tryz.underlying44 (by rw [c1]; decide) (fun x => by rw [c1]; exact rfl) yvM n
theorem yvL : ∀ n, ReadsAt enc Tryz.prog w Rows.uptoBulk n 53 BigT.cells (fun _ => 1)
 | 0 => zyW
 | n + 1 => zkZ (zjg bulkOk Tryz.underlying53 c53 c1 (fun _ => rfl) (yzl bulkOk Tryz.underlying4) c1 (fun _ => rfl) (yk4 n)) (fun x => BigT.mk x.1 x.2.1) (fun x => rfl) (fun x => by show 1 ≤ _; omega)
theorem rd_prf (n : Nat) : ReadsAt enc Tryz.prog w Rows.uptoBulk n 32 Prf.cells szP := yy1 bulkOk Tryz.underlying32 Tryz.underlying3 Tryz.underlying3 Tryz.underlying29 Tryz.underlying30 c32 c1 c1 c1 c1 c53 yvL n
def szA (a : AtT) : Nat := a.body.sz
theorem zJa (p : Pred) : p.cells = [.int .i64 p.op, .str p.name, .int .i64 p.n, .lst (p.kids.map Pred.cells)] := by
 cases p with | mk o s n ks => rw [Pred.zzt]
theorem rd_atoms : ∀ n, ReadsAt enc Tryz.prog w Rows.uptoBulk n 28 AtT.cells szA
 | 0 => zyW
 | n + 1 => zkZ (zjg bulkOk Tryz.underlying28 c28 c25 (fun x => Pred.zx4 x) (yk6 n) c1 (fun _ => rfl) (yk5 n)) (fun x => AtT.mk x.1 x.2.1) (fun x => by rw [zJa]; rfl) (fun x => by simp only [szA]; omega)
theorem rd_arr (n : Nat) : ReadsAt enc Tryz.prog w Rows.uptoBulk n 39 (fun x : Int × Int × Int => [.int .i8 x.1, .int .i8 x.2.1, .int .i8 x.2.2]) (fun _ => 0) := yzk bulkOk Tryz.underlying39 Tryz.underlying38 c1 c39
theorem rd_u8 (n : Nat) : ReadsAt enc Tryz.prog w Rows.uptoBulk n 5 (fun x : U8 => [.int .u8 x.1]) (fun _ => 1) := ywF bulkOk Tryz.underlying5
def G1 : Nat → Option (List D) := fun g => if g = 0 then some [.anyI] else if g = 1 then some [.anyI] else if g = 2 then some (Lib.pow10Tab.map (D.int .u64)) else none
theorem zYV : Tryz.prog.globalNamed "internal/strconv.uint64pow10" = some 2 := by kernel_rfl
theorem yy7 : Tryz.prog.globalNamed "strconv.ErrRange" = some 1 := by kernel_rfl
theorem yxm : Tryz.prog.globalNamed "strconv.ErrSyntax" = some 0 := by kernel_rfl
theorem ywB : (Rows.laid_internal_strconv_uint64pow10 (H := Unit)) = Lib.tabData .u64 Lib.pow10Tab := by kernel_rfl
theorem glob1 (hS : w.ShapedOpen Tryz.prog) (h : laidMetH Tryz.prog Rows.prooftreeChecksUptoRow.laid w) : GlobOk Tryz.prog G1 w (liveS w) := by
 rw [MakeChecks.laidMetH_plain _ _ _ (by kernel_rfl)] at h
 have h : laidMet Tryz.prog [("math/bits.deBruijn32tab", Rows.laid_math_bits_deBruijn32tab), ("math/bits.deBruijn64tab", Rows.laid_math_bits_deBruijn64tab), ("internal/strconv.uint64pow10", Rows.laid_internal_strconv_uint64pow10), ("strconv.ErrRange", Rows.laid_strconv_ErrRange), ("strconv.ErrSyntax", Rows.laid_strconv_ErrSyntax)] w := h
 have h2 := zkr (zkr h)
 have h3 := zkr h2
 have h4 := zkr h3
 have k1 := zXZ (t := 92) yy7 (by kernel_rfl) Tryz.underlying92 h3
 have k0 := zXZ (t := 92) yxm (by kernel_rfl) Tryz.underlying92 h4
 rw [ywB] at h2
 have ht := ywU zYV (Lib.tabIs_of_head zYV (by kernel_rfl) Tryz.underlying160 Tryz.underlying113 (by kernel_rfl) (by kernel_rfl) h2)
 have key : ∀ g cs, G1 g = some cs → RepCs w (liveS w) g 0 cs ∧ ∃ (vs : Array Value) (e : TypeId) (fr : Nat × Nat), w.heap[g]? = some (.cells vs e fr) ∧ vs.size = cs.length := by
  intro g cs hg
  unfold G1 at hg
  by_cases h0 : g = 0
  ·subst h0
   rw [if_pos rfl] at hg
   obtain rfl := Option.some.inj hg
   exact k0
  ·rw [if_neg h0] at hg
   by_cases h1 : g = 1
   ·subst h1
    rw [if_pos rfl] at hg
    obtain rfl := Option.some.inj hg
    exact k1
   ·rw [if_neg h1] at hg
    by_cases h2 : g = 2
    ·subst h2
     rw [if_pos rfl] at hg
     obtain rfl := Option.some.inj hg
     exact ht
    ·rw [if_neg h2] at hg; cases hg
 exact ⟨fun g cs hg => (key g cs hg).1, zQW hS, fun g cs _ hg _ => (key g cs hg).2⟩
theorem law17G : Law17 (X G1) where
 sys := sys G1
 union := ywY G1
 atoi := yks rfl rfl ⟨Tryz.f58, Tryz.func58, by kernel_rfl, by kernel_rfl⟩
 itoa := ykH zYV (of_decide_eq_true (by kernel_rfl)) ⟨Tryz.f59, Tryz.func59, by kernel_rfl, by kernel_rfl⟩ rfl
theorem zW5 : ∀ {ds : List (DataW H)} {d : DataW H}, Rows.uptoBulkAll ds ≤ 1048576 → d ∈ ds → Rows.uptoBulk d ≤ 1048576
 | [], _, _, h => by cases h
 | x :: ds, d, hs, h => by
  rw [Rows.uptoBulkAll] at hs
  rcases List.mem_cons.1 h with rfl | h
  ·omega
  ·exact zW5 (by omega) h
theorem at_small {ds : List (DataW H)} {a : AtT} {d : DataW H} (h : szA a ≤ Rows.uptoBulk d) (hs : Rows.uptoSmall H ds = true) (hd : d ∈ ds) : NamesP a.body := ywq a.body (Nat.le_trans h (zW5 (of_decide_eq_true hs) hd))
theorem yvK {ds : List (DataW H)} {p : Prf} {d : DataW H} (h : szP p ≤ Rows.uptoBulk d) (hs : Rows.uptoSmall H ds = true) (hd : d ∈ ds) : (match p with | .mk _ _ ms _ => ms.length) ≤ 1048576 := Nat.le_trans (by cases p; exact Nat.le_refl _) (Nat.le_trans h (zW5 (of_decide_eq_true hs) hd))
theorem own : ownKnob Tryz.prog.godebug = none := by kernel_rfl
theorem laidOut : laidOutB Tryz.prog = true := by kernel_rfl
noncomputable def laidWorld (os : Os) : World := World.laidAll Tryz.prog os Rows.prooftreeChecksUptoRow.laid
end Go.Abs.Seat
end
