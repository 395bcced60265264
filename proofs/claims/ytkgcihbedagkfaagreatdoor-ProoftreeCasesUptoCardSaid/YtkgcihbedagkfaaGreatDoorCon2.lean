/-
  CONTRACTS: what the functions answer, as plain Lean functions, each by evaluation at the abstract machine.
-/
import Derived.Test.YtkgcihbedagkfaaGreatDoorCon1
set_option linter.unusedSimpArgs false
set_option linter.unusedVariables false
set_option linter.unusedSectionVars false
set_option maxRecDepth 100000
section
namespace Go.Abs
theorem zv7 {l z d : List Int} {y : Int} (h : l = (d ++ [y]) ++ z) : (l.map icell).getD d.length [] = icell y := by
 rw [h, List.append_assoc]; exact getD_at rfl
variable {E : AEnv} (Z : Sys E)
include Z
theorem zk6 (l : List Int) : E.C zkk [.one (.lst (l.map icell))] (.one (.lst ((trimZ l).map icell))) := by
 refine Z.zkk _ _ ⟨bl rfl, ?_⟩
 generalize hR : trimZ l = R
 simp only [zYu, go_sem]
 intro hb
 refine zzo (fun s : List Int => ⟨[(3, .d (.int .i64 s.length)), (0, .d (.lst (l.map icell)))], [], []⟩) (fun s => (∃ z, l = s ++ z) ∧ trimZ s = R) (fun s => s.length) l ?_ ⟨⟨[], by simp⟩, hR⟩ ?_
 ·exact zzc (by simp only [go_sem, oS])
 ·rintro s ⟨⟨z, hz⟩, hT⟩
  have hle : s.length ≤ l.length := by rw [hz]; simp
  have htk : (l.map icell).take s.length = s.map icell := by rw [hz, mA, List.take_left' (by simp)]
  rcases zzJ s with rfl | ⟨d, y, rfl⟩
  ·have h0 : decide ((0 : Int) > 0) = false := rfl
   have hn : (-1 : Int).toNat = 0 := rfl
   have hle0 : ((0 : Int) ≤ (l.length : Int)) = True := eq_true (by omega)
   have hR2 : R = [] := hT.symm
   rw [List.nil_append] at hz
   subst hR2
   have hz2 := hz
   cases z with
   | nil =>
    subst hz2
    simp only [zxU, go_sem, lN, nZ, h0, zk1, hn, hle0, mN, List.getD_nil]
    simp
   | cons x z =>
    have hg : (l.map icell).getD 0 [] = icell x := by rw [hz2]; rfl
    simp only [zxU, go_sem, lN, nZ, h0, zk1, hn, hle0, mN, hg, icell]
    try rfl
  ·have hlen : (d ++ [y]).length = d.length + 1 := by simp
   have hgt : decide (((d ++ [y]).length : Int) > 0) = true := decide_eq_true (by omega)
   have hw : IntKind.i64.wrap (((d ++ [y]).length : Int) - 1) = (d.length : Int) := (i64_in _ (by omega)).trans (by omega)
   have hlt : ((d.length : Int) < (l.length : Int)) = True := eq_true (by omega)
   have hg := zv7 hz
   simp only [zxU, go_sem, hgt, hw, hlt, hg, Int.toNat_natCast, icell]
   cases hy : y == 0 with
   | true =>
    have hy0 : y = 0 := by simpa using hy
    subst hy0
    rw [zXf] at hT
    simp only [go_sem, BEq.rfl]
    exact ⟨d, zzc (by simp only [go_sem, oS]), ⟨⟨[0] ++ z, by rw [hz, List.append_assoc]⟩, hT⟩, by omega⟩
   | false =>
    rw [zWm (by simpa using hy)] at hT
    subst hT
    simp only [hy, go_sem]
    exact ⟨by omega, by rw [htk]⟩
def cmpGo : List Int → List Int → Int
 | x :: a, y :: b => if x < y then -1 else if x > y then 1 else cmpGo a b
 | _, _ => 0
def cmpD (a b : List Int) : Int := if a.length ≠ b.length then (if a.length < b.length then -1 else 1) else cmpGo a.reverse b.reverse
theorem zkx (a b : List Int) : E.C zyG [.one (.lst (a.map icell)), .one (.lst (b.map icell))] (.one (.int .i64 (cmpD a b))) := by
 refine Z.zyG _ _ ⟨bl rfl, ?_⟩
 generalize hR : cmpD a b = R
 unfold cmpD at hR
 simp only [zjm, go_sem]
 intro ha hb
 cases h1 : (a.length : Int) != (b.length : Int) with
 | true =>
  have h1' : a.length ≠ b.length := by have := bne_iff_ne.1 h1; omega
  rw [if_pos h1'] at hR
  simp only [go_sem]
  intro _ _
  cases h2 : decide ((a.length : Int) < (b.length : Int)) with
  | true => rw [if_pos (by have := of_decide_eq_true h2; omega)] at hR; simp only [go_sem]; exact hR
  | false => rw [if_neg (by have := of_decide_eq_false h2; omega)] at hR; simp only [go_sem]; exact hR
 | false =>
  have h1' : a.length = b.length := by have : (a.length : Int) = b.length := by simpa using h1
                                       omega
  rw [if_neg (by omega)] at hR
  simp only [go_sem]
  intro _
  have hw : IntKind.i64.wrap ((a.length : Int) - 1) = (a.length : Int) - 1 := i64_in _ (by omega)
  rw [hw]
  refine zzo (fun s : List Int × List Int => ⟨[(5, .d (.int .i64 ((s.1.length : Int) - 1))), (0, .d (.lst (a.map icell))), (1, .d (.lst (b.map icell)))], [], []⟩) (fun s => (∃ z, a = s.1 ++ z) ∧ (∃ z, b = s.2 ++ z) ∧ s.1.length = s.2.length ∧ cmpGo s.1.reverse s.2.reverse = R) (fun s => s.1.length) (a, b) ?_ ⟨⟨[], by simp⟩, ⟨[], by simp⟩, h1', hR⟩ ?_
  ·exact zzc (by simp only [go_sem, oS])
  ·rintro ⟨p, q⟩ ⟨⟨z, hz⟩, ⟨w, hw2⟩, hl, hT⟩
   simp only at hz hw2 hl hT
   rcases zzJ p with rfl | ⟨d, x, rfl⟩
   ·have hq : q = [] := List.eq_nil_of_length_eq_zero (by simpa using hl.symm)
    subst hq
    have h0 : decide ((0 : Int) - 1 ≥ 0) = false := by decide
    have hR2 : R = 0 := hT.symm
    subst hR2
    simp only [zxH, go_sem, lN, nZ, h0]
    try rfl
   ·rcases zzJ q with rfl | ⟨e, y, rfl⟩
    ·simp at hl
    have hlen : (d ++ [x]).length = d.length + 1 := by simp
    have hlen2 : (e ++ [y]).length = e.length + 1 := by simp
    have hle : (d ++ [x]).length ≤ a.length := by rw [hz]; simp
    have hle2 : (e ++ [y]).length ≤ b.length := by rw [hw2]; simp
    have hde : e.length = d.length := by omega
    have hs : (((d ++ [x]).length : Int) - 1) = (d.length : Int) := by omega
    have hge : decide ((d.length : Int) ≥ 0) = true := decide_eq_true (by omega)
    have hlt1 : ((d.length : Int) < (a.length : Int)) = True := eq_true (by omega)
    have hlt2 : ((d.length : Int) < (b.length : Int)) = True := eq_true (by omega)
    have hg1 := zv7 hz
    have hg2 := zv7 hw2
    rw [hde] at hg2
    have hw : IntKind.i64.wrap ((d.length : Int) - 1) = (d.length : Int) - 1 := i64_in _ (by omega)
    rw [List.reverse_append, List.reverse_append, List.reverse_singleton, List.reverse_singleton, List.singleton_append, List.singleton_append, cmpGo] at hT
    simp only [zxH, go_sem, hs, hge, hlt1, hlt2, hg1, hg2, Int.toNat_natCast, icell]
    cases h3 : decide (x < y) with
    | true => rw [if_pos (of_decide_eq_true h3)] at hT; simp only [go_sem]; exact hT
    | false =>
     rw [if_neg (of_decide_eq_false h3)] at hT
     simp only [go_sem, hge, hlt1, hlt2, hg1, hg2, Int.toNat_natCast, icell]
     cases h4 : decide (x > y) with
     | true => rw [if_pos (of_decide_eq_true h4)] at hT; simp only [go_sem]; exact hT
     | false =>
      rw [if_neg (of_decide_eq_false h4)] at hT
      simp only [go_sem, hw]
      exact ⟨(d, e), zzc (by simp only [go_sem, oS]), ⟨⟨[x] ++ z, by rw [hz, List.append_assoc]⟩, ⟨[y] ++ w, by rw [hw2, List.append_assoc]⟩, hde.symm, hT⟩, by simp⟩
end Go.Abs
end
section
namespace Go.Abs
theorem zJz (n : Int) : IntKind.u64.wrap n = n % 18446744073709551616 := by
 simp only [IntKind.wrap, IntKind.signed, IntKind.bits, Bool.false_and, Bool.false_eq_true, if_false]
 rfl
theorem u64_in (n : Int) (h : 0 ≤ n ∧ n ≤ 18446744073709551615) : IntKind.u64.wrap n = n := by
 rw [zJz]; omega
theorem yvb {n : Int} (h1 : -9223372036854775808 ≤ n) (h : n < 0) : IntKind.u64.wrap (0 - IntKind.u64.wrap n) = (n.natAbs : Int) := by
 rw [zJz, zJz]; omega
theorem zWC : ∀ (k n : Nat), n < 10000 ^ k → (digs n).length ≤ k
 | 0, n, h => by
  have : n = 0 := by simpa using h
  subst this; rw [zzC]; simp
 | k + 1, n, h => by
  by_cases h0 : n = 0
  ·subst h0; rw [zzC]; simp
  ·rw [zzQ h0, lC]
   have := zWC k (n / 10000) (Nat.div_lt_of_lt_mul (by rw [Nat.pow_succ, Nat.mul_comm] at h; exact h))
   omega
variable {E : AEnv} (Z : Sys E)
include Z
theorem yzQ (n : Int) (h1 : -9223372036854775808 ≤ n) (h2 : n ≤ 9223372036854775807) : E.C zXw [.one (.int .i64 n)] (.agg (bigZ n).cells) := by
 refine Z.zXw _ _ ⟨bl rfl, ?_⟩
 unfold bigZ BigT.cells
 try simp only []
 have hl := zWC 5 n.natAbs (by omega)
 simp only [zKC, go_sem]
 cases h0 : decide (n < 0) with
 | true =>
  have hw := yvb h1 (of_decide_eq_true h0)
  simp only [go_sem, hw]
  refine zzo (fun s : List Int × Nat => ⟨[(0, .d (.int .i64 n)), (2, .ptr 2 0), (3, .d (.int .u64 s.2)), (4, .own 4 1 (s.1.map icell))], [(2, [.d (.bool false), .full []])], [(4, true)]⟩) (fun s => s.1 ++ digs s.2 = digs n.natAbs ∧ s.2 ≤ 9223372036854775808) (fun s => s.2) ([], n.natAbs) ?_ ⟨rfl, by omega⟩ ?_
  ·exact zxc 4 4 1 [] [(4, 4)] rfl (by simp) rfl (by simp only [Ent0, go_sem, cN, oS, mN, lN, nZ])
  ·rintro ⟨a, m⟩ ⟨h, hb⟩
   simp only at h hb
   have hal : a.length ≤ 5 := by have := congrArg List.length h; simp only [lA] at this; omega
   by_cases hm : m = 0
   ·subst hm
    rw [zzC, List.append_nil] at h
    simp only [zx5, go_sem, nZ]
    exact ⟨h0, by rw [h]⟩
   ·have hgt : decide ((m : Int) > 0) = true := decide_eq_true (by omega)
    have ht : (m : Int).tmod 10000 = ((m % 10000 : Nat) : Int) := zZ8 m 10000
    have hq : (m : Int).tdiv 10000 = ((m / 10000 : Nat) : Int) := (Int.ofNat_tdiv m 10000).symm
    have hw1 : IntKind.u64.wrap ((m / 10000 : Nat) : Int) = ((m / 10000 : Nat) : Int) := u64_in _ (by omega)
    have hw2 : IntKind.i64.wrap ((m % 10000 : Nat) : Int) = ((m % 10000 : Nat) : Int) := i64_in _ (by omega)
    simp only [zx5, go_sem, hgt, ht, hq, hw1, hw2]
    refine ⟨by decide, ⟨by simp, by omega, by omega⟩, by decide, (a ++ [((m % 10000 : Nat) : Int)], m / 10000), zzs [(4, 20)] ?_, ⟨by rw [← h, zzQ hm, List.append_assoc]; rfl, by simp only []; omega⟩, by simp only []; omega⟩
    simp only [go_sem, cN, oS, mA, mC, mN, icell]
    try simp
 | false =>
  have hw : IntKind.u64.wrap n = (n.natAbs : Int) := (u64_in n (by have := of_decide_eq_false h0; omega)).trans (by have := of_decide_eq_false h0; omega)
  simp only [go_sem, hw]
  refine zzo (fun s : List Int × Nat => ⟨[(0, .d (.int .i64 n)), (2, .ptr 2 0), (3, .d (.int .u64 s.2)), (4, .own 4 1 (s.1.map icell))], [(2, [.d (.bool false), .full []])], [(4, true)]⟩) (fun s => s.1 ++ digs s.2 = digs n.natAbs ∧ s.2 ≤ 9223372036854775808) (fun s => s.2) ([], n.natAbs) ?_ ⟨rfl, by omega⟩ ?_
  ·exact zxc 4 4 1 [] [(4, 4)] rfl (by simp) rfl (by simp only [Ent0, go_sem, cN, oS, mN, lN, nZ])
  ·rintro ⟨a, m⟩ ⟨h, hb⟩
   simp only at h hb
   have hal : a.length ≤ 5 := by have := congrArg List.length h; simp only [lA] at this; omega
   by_cases hm : m = 0
   ·subst hm
    rw [zzC, List.append_nil] at h
    simp only [zx5, go_sem, nZ]
    exact ⟨h0, by rw [h]⟩
   ·have hgt : decide ((m : Int) > 0) = true := decide_eq_true (by omega)
    have ht : (m : Int).tmod 10000 = ((m % 10000 : Nat) : Int) := zZ8 m 10000
    have hq : (m : Int).tdiv 10000 = ((m / 10000 : Nat) : Int) := (Int.ofNat_tdiv m 10000).symm
    have hw1 : IntKind.u64.wrap ((m / 10000 : Nat) : Int) = ((m / 10000 : Nat) : Int) := u64_in _ (by omega)
    have hw2 : IntKind.i64.wrap ((m % 10000 : Nat) : Int) = ((m % 10000 : Nat) : Int) := i64_in _ (by omega)
    simp only [zx5, go_sem, hgt, ht, hq, hw1, hw2]
    refine ⟨by decide, ⟨by simp, by omega, by omega⟩, by decide, (a ++ [((m % 10000 : Nat) : Int)], m / 10000), zzs [(4, 20)] ?_, ⟨by rw [← h, zzQ hm, List.append_assoc]; rfl, by simp only []; omega⟩, by simp only []; omega⟩
    simp only [go_sem, cN, oS, mA, mC, mN, icell]
    try simp
end Go.Abs
end
section
namespace Go.Abs
def subL : List Int → List Int → List Int
 | x :: a, y :: b => (x - y) :: subL a b
 | a, [] => a
 | [], _ => []
def acs (l : List Int) : List AV := l.map fun x => .d (.int .i64 x)
theorem zj6 : ∀ l : List Int, List.map AV.d (l.map icell).flatten = acs l
 | [] => rfl
 | x :: l => by
  have := zj6 l
  simp only [mC, List.flatten_cons, mA, this, acs, icell, mN, List.singleton_append]
theorem zkF (n : Nat) (c : AV) : (List.replicate n [c]).flatten = List.replicate n c := by
 induction n with
 | zero => rfl
 | succ n ih => rw [List.replicate_succ, List.flatten_cons, ih]; rfl
theorem zQp : ∀ {a b : List Int}, b.length ≤ a.length → (subL a b).length = a.length
 | x :: a, y :: b, h => by simp only [subL, lC]; rw [zQp (by simpa using h)]
 | a, [], _ => by cases a <;> rfl
 | [], y :: b, h => by simp at h
theorem zQq : ∀ {a b : List Int}, b.length ≤ a.length → val (subL a b) = val a - val b
 | x :: a, y :: b, h => by simp only [subL, val]; rw [zQq (by simpa using h)]; omega
 | a, [], _ => by cases a <;> simp [subL, val]
 | [], y :: b, h => by simp at h
theorem zVs : ∀ {a d : List Int} {y : Int}, d.length < a.length → ∃ x p r, subL a d = p ++ x :: r ∧ p.length = d.length ∧ subL a (d ++ [y]) = p ++ (x - y) :: r ∧ x ∈ a
 | x :: a, [], y, _ => ⟨x, [], a, rfl, rfl, by cases a <;> rfl, by simp⟩
 | z :: a, w :: d, y, h => by
  obtain ⟨x, p, r, h1, h2, h3, h4⟩ := zVs (a := a) (d := d) (y := y) (by simpa using h)
  exact ⟨x, (z - w) :: p, r, by simp only [subL, h1, List.cons_append], by simp [h2], by simp only [List.cons_append, subL, h3], by simp [h4]⟩
 | [], d, y, h => by simp at h
def SDig (x : Int) : Prop := -9999 ≤ x ∧ x ≤ 9999
theorem zQo : ∀ {a b : List Int}, (∀ d ∈ a, Digit d) → (∀ d ∈ b, Digit d) → ∀ d ∈ subL a b, SDig d
 | x :: a, y :: b, ha, hb => by
  have h1 := ha x (by simp)
  have h2 := hb y (by simp)
  have h3 := zQo (a := a) (b := b) (fun d h => ha d (by simp [h])) (fun d h => hb d (by simp [h]))
  unfold Digit at h1 h2
  intro d hd
  rcases List.mem_cons.1 hd with rfl | hd
  ·unfold SDig; omega
  ·exact h3 d hd
 | a, [], ha, _ => by
  have : subL a [] = a := by cases a <;> rfl
  rw [this]; intro d hd
  have h1 := ha d hd
  unfold Digit at h1
  unfold SDig; omega
 | [], y :: b, _, _ => by simp [subL]
theorem zxE (l : List Int) : (acs l).length = l.length := by simp [acs]
theorem zz8 {l p r : List Int} {x : Int} {n : Nat} (h : l = p ++ x :: r) (hn : p.length = n) : List.take 1 (List.drop n (acs l)) = [.d (.int .i64 x)] := by
 subst h hn; simp [acs]
theorem zxp {l p r : List Int} {x y : Int} {n : Nat} (h : l = p ++ x :: r) (hn : p.length = n) : List.take n (acs l) ++ [.d (.int .i64 y)] ++ List.drop (n + 1) (acs l) = acs (p ++ y :: r) := by
 subst h hn
 simp [acs, List.drop_append]
theorem zzg (m : Mem) (mp : TMap) (l : List Int) : EntCs m mp (acs l) (acs l) = True := by
 induction l with
 | nil => simp [acs, EntCs]
 | cons x l ih => simp only [acs] at ih; simp [acs, EntCs, EntC, ih]
theorem zzX {l p r : List Int} {x : Int} {n : Nat} (h : l = p ++ x :: r) (hn : p.length = n) : (n + 1 ≤ (acs l).length) = True := by
 subst h hn; simp [acs]
def Carry : List Int → Prop
 | [] => True
 | x :: r => -10000 ≤ x ∧ x ≤ 9999 ∧ ∀ d ∈ r, SDig d
theorem zvq : ∀ {l : List Int}, (∀ d ∈ l, Digit d) → val l < 10000 ^ l.length
 | [], _ => by simp [val]
 | d :: l, h => by
  have h1 := h d (by simp)
  have h2 := zvq (l := l) fun x hx => h x (by simp [hx])
  unfold Digit at h1
  rw [val, lC, Int.pow_succ]; omega
theorem zQH {p : List Int} {x : Int} (hp : ∀ d ∈ p, Digit d) (hx : x < 0) (hv : 0 ≤ val (p ++ [x])) : False := by
 rw [zzu] at hv
 have h1 := zvq hp
 simp only [val] at hv
 have h2 : (10000 : Int) ^ p.length * (x + 10000 * 0) ≤ 10000 ^ p.length * (-1) := Int.mul_le_mul_of_nonneg_left (by omega) (Int.le_of_lt (Int.pow_pos (by decide)))
 omega
theorem yzX {p r : List Int} {x y : Int} : val (p ++ [x + 10000] ++ (y - 1) :: r) = val (p ++ x :: y :: r) := by
 rw [List.append_assoc, zzu p, zzu p]
 have : val ([x + 10000] ++ (y - 1) :: r) = val (x :: y :: r) := by simp only [List.singleton_append, val]; omega
 rw [this]
theorem zvu : ∀ p : List Int, chunk 1 p.length (p.map fun x => D.int .i64 x) = p.map icell
 | [] => rfl
 | x :: p => by
  have := zvu p
  simp only [lC, mC, chunk, List.take_succ_cons, List.take_zero, List.drop_succ_cons, List.drop_zero, this, icell]
theorem zqs (m : Mem) (k : Nat) : ∀ p : List Int, (acs p).mapM (AV.toD m (k + 1)) = some (p.map fun x => D.int .i64 x)
 | [] => rfl
 | x :: p => by
  have := zqs m k p
  unfold acs at *
  rw [mC, List.mapM_cons, this]; rfl
theorem zvY {m : Mem} {p : List Int} {n s cap : Nat} (hm : getM m s = some (acs p)) (hn : p.length = n) : toCVs m 3 [.vec s 1 0 n cap] = some [.one (.lst (p.map icell))] := by
 subst hn
 have h1 : ((acs p).drop 0).take (p.length * 1) = acs p := by rw [List.drop_zero, Nat.mul_one, ← zxE p, List.take_length]
 have h2 : 0 + p.length * 1 ≤ (acs p).length := by rw [zxE]; omega
 simp only [toCVs, AV.toCV, AV.toD, hm, if_pos h2, h1, zqs, zvu]
variable {E : AEnv} (Z : Sys E)
include Z
theorem zKf {a b : List Int} (ha : ∀ d ∈ a, Digit d) (hb : ∀ d ∈ b, Digit d) (hl : b.length ≤ a.length) (hv : val b ≤ val a) (h200 : a.length ≤ 400) : E.C zx2 [.one (.lst (a.map icell)), .one (.lst (b.map icell))] (.one (.lst ((digs (val a - val b).toNat).map icell))) := by
 refine Z.zx2 _ _ ⟨bl rfl, ?_⟩
 generalize hR : digs (val a - val b).toNat = R
 simp only [zZe, go_sem]
 intro _
 have hd : List.drop (0 + a.length * 1) (List.replicate a.length (AV.d (D.int IntKind.i64 0))) = [] := by simp
 rw [zj6, zkF, List.length_replicate, hd, List.append_nil]
 refine ⟨by omega, by omega, ?_⟩
 intro _
 refine zzh b (fun _ => True) (fun done rest => ⟨[(17, .d (.int .i64 done.length)), (16, .d (.int .i64 b.length)), (15, .d (.lst (b.map icell))), (5, .vec 11 1 0 a.length a.length)], [(11, acs (subL a done))], []⟩) ?_ trivial ?_ ?_
 ·have h0 : subL a [] = a := by cases a <;> rfl
  exact zzc (by simp only [go_sem, oS, h0, zzg])
 ·intro done y r hbl _
  have hlt := zzw hbl
  have hda : done.length < a.length := by omega
  obtain ⟨x, p, q, e1, e2, e3, e4⟩ := zVs (y := y) hda
  have hy : Digit y := hb y (by rw [hbl]; simp)
  have hx := ha x e4
  unfold Digit at hx hy
  have hw : IntKind.i64.wrap ((done.length : Int) + 1) = ((done.length + 1 : Nat) : Int) := zzd (by omega)
  have hw2 : IntKind.i64.wrap (x - y) = x - y := i64_in _ (by omega)
  have hlta : ((done.length : Int) < (a.length : Int)) = True := eq_true (by omega)
  have hg := zz8 e1 e2
  have hst := zxp (y := x - y) e1 e2
  have hro := zzX e1 e2
  simp only [zwI, go_sem, getD_at hbl, hlt, hlta, icell, hw, Int.toNat_natCast, Nat.mul_one, zA, hg, hro, hw2, hst]
  exact zzc (by simp only [go_sem, oS, lA, lC, lN, zA, e3, zzg])
 ·intro _
  simp only [zwI, go_sem, Int.lt_irrefl, decide_false]
  intro _
  have hn : (subL a b).length = a.length := zQp hl
  have hsv : val (subL a b) = val a - val b := zQq hl
  have hsd := zQo ha hb
  refine zze fun K hK => ?_
  refine zzo (fun s : List Int × List Int => ⟨[(32, .d (.int .i64 s.1.length)), (31, .d (.int .i64 a.length)), (5, .vec 11 1 0 a.length a.length)], [(11, acs (s.1 ++ s.2))], []⟩) (fun s => (∀ d ∈ s.1, Digit d) ∧ Carry s.2 ∧ val (s.1 ++ s.2) = val a - val b ∧ s.1.length + s.2.length = a.length) (fun s => s.2.length) ([], subL a b) ?_ ⟨by simp, ?_, hsv, by simp [hn]⟩ ?_
  ·exact zzc (by simp only [go_sem, oS, lN, nZ, List.nil_append, zzg])
  ·cases h0 : subL a b with
   | nil => trivial
   | cons x r =>
    rw [h0] at hsd
    have := hsd x (by simp)
    unfold SDig at this
    exact ⟨by omega, by omega, fun d hd => hsd d (by simp [hd])⟩
  ·rintro ⟨p, q⟩ ⟨g1, g2, g3, g4⟩
   simp only at g1 g2 g3 g4
   cases q with
   | nil =>
    have hpl : p.length = a.length := by simpa using g4
    rw [List.append_nil] at g3
    have ht := zwh g1
    rw [g3, hR] at ht
    have htr := zk6 Z p
    rw [ht] at htr
    simp only [zwH, go_sem, hpl, Int.lt_irrefl, decide_false, List.append_nil, hK]
    refine zZT (zvY rfl hpl) rfl rfl htr ?_
    simp only [go_sem, St.noBox]
   | cons x r =>
    have hlt : (p.length : Int) < (a.length : Int) := by simp at g4; omega
    have hd : decide ((p.length : Int) < (a.length : Int)) = true := decide_eq_true hlt
    have hw : IntKind.i64.wrap ((p.length : Int) + 1) = ((p.length + 1 : Nat) : Int) := zzd (by omega)
    obtain ⟨c1, c2, c3⟩ := g2
    have hg := zz8 (l := p ++ x :: r) rfl rfl
    have hst := fun y => zxp (l := p ++ x :: r) (y := y) rfl rfl
    have hro := zzX (l := p ++ x :: r) rfl rfl
    simp only [zwH, go_sem, hd, hlt, hw, Int.toNat_natCast, Nat.mul_one, zA, hg, hro]
    cases hx : decide (x < 0) with
    | false =>
     have hx' := of_decide_eq_false hx
     simp only [go_sem, hw]
     refine ⟨(p ++ [x], r), zzc (by simp only [go_sem, oS, lA, lC, lN, zA, List.append_assoc, List.singleton_append, zzg]), ⟨?_, ?_, ?_, ?_⟩, ?_⟩
     ·intro d hd
      rcases List.mem_append.1 hd with h | h
      ·exact g1 d h
      ·rw [List.mem_singleton.1 h]; unfold Digit; omega
     ·cases r with
      | nil => trivial
      | cons y r =>
       have := c3 y (by simp)
       unfold SDig at this
       exact ⟨by omega, by omega, fun d hd => c3 d (by simp [hd])⟩
     ·rw [List.append_assoc]; exact g3
     ·simp at g4 ⊢; omega
     ·simp
    | true =>
     have hx' := of_decide_eq_true hx
     have hw2 : IntKind.i64.wrap (x + 10000) = x + 10000 := i64_in _ (by omega)
     cases r with
     | nil => exact (zQH g1 hx' (by rw [g3]; omega)).elim
     | cons y r =>
     have hlt2 : (((p.length + 1 : Nat) : Int) < (a.length : Int)) = True := eq_true (by simp at g4; omega)
     have hy := c3 y (by simp)
     unfold SDig at hy
     have hw3 : IntKind.i64.wrap (y - 1) = y - 1 := i64_in _ (by omega)
     have he : p ++ (x + 10000) :: y :: r = (p ++ [x + 10000]) ++ y :: r := by simp
     have hpl : (p ++ [x + 10000]).length = p.length + 1 := by simp
     have hg2 := zz8 he hpl
     have hst2 := zxp (y := y - 1) he hpl
     have hro2 := zzX he hpl
     simp only [go_sem, hlt, hlt2, Int.toNat_natCast, Nat.mul_one, zA, hg, hro, hw2, hst, hw, hg2, hst2, hro2, hw3]
     refine ⟨(p ++ [x + 10000], (y - 1) :: r), zzc (by simp only [go_sem, oS, hpl, zzg]), ⟨?_, ?_, ?_, ?_⟩, ?_⟩
     ·intro d hd
      rcases List.mem_append.1 hd with h | h
      ·exact g1 d h
      ·rw [List.mem_singleton.1 h]; unfold Digit; omega
     ·exact ⟨by omega, by omega, fun d hd => c3 d (by simp [hd])⟩
     ·exact yzX.trans g3
     ·simp at g4 ⊢; omega
     ·simp
end Go.Abs
end
section
namespace Go.Abs
def sumL : List Int → List Int → List Int
 | x :: a, y :: b => (x + y) :: sumL a b
 | a, [] => a
 | [], _ => []
theorem zW0 : ∀ {a b : List Int}, b.length ≤ a.length → (sumL a b).length = a.length
 | x :: a, y :: b, h => by simp only [sumL, lC]; rw [zW0 (by simpa using h)]
 | a, [], _ => by cases a <;> rfl
 | [], y :: b, h => by simp at h
theorem zW1 : ∀ {a b : List Int}, b.length ≤ a.length → val (sumL a b) = val a + val b
 | x :: a, y :: b, h => by simp only [sumL, val]; rw [zW1 (by simpa using h)]; omega
 | a, [], _ => by cases a <;> simp [sumL, val]
 | [], y :: b, h => by simp at h
theorem zXb : ∀ {a d : List Int} {y : Int}, d.length < a.length → ∃ x p r, sumL a d = p ++ x :: r ∧ p.length = d.length ∧ sumL a (d ++ [y]) = p ++ (x + y) :: r ∧ x ∈ a
 | x :: a, [], y, _ => ⟨x, [], a, rfl, rfl, by cases a <;> rfl, by simp⟩
 | z :: a, w :: d, y, h => by
  obtain ⟨x, p, r, h1, h2, h3, h4⟩ := zXb (a := a) (d := d) (y := y) (by simpa using h)
  exact ⟨x, (z + w) :: p, r, by simp only [sumL, h1, List.cons_append], by simp [h2], by simp only [List.cons_append, sumL, h3], by simp [h4]⟩
 | [], d, y, h => by simp at h
def UDig (x : Int) : Prop := 0 ≤ x ∧ x ≤ 19998
theorem zWZ : ∀ {a b : List Int}, (∀ d ∈ a, Digit d) → (∀ d ∈ b, Digit d) → ∀ d ∈ sumL a b, UDig d
 | x :: a, y :: b, ha, hb => by
  have h1 := ha x (by simp)
  have h2 := hb y (by simp)
  have h3 := zWZ (a := a) (b := b) (fun d h => ha d (by simp [h])) (fun d h => hb d (by simp [h]))
  unfold Digit at h1 h2
  intro d hd
  rcases List.mem_cons.1 hd with rfl | hd
  ·unfold UDig; omega
  ·exact h3 d hd
 | a, [], ha, _ => by
  have : sumL a [] = a := by cases a <;> rfl
  rw [this]; intro d hd
  have h1 := ha d hd
  unfold Digit at h1
  unfold UDig; omega
 | [], y :: b, _, _ => by simp [sumL]
def CarryU : List Int → Prop
 | [] => True
 | x :: r => 0 ≤ x ∧ x ≤ 19999 ∧ ∀ d ∈ r, UDig d
theorem zXy {p r : List Int} {x y : Int} : val (p ++ [x - 10000] ++ (y + 1) :: r) = val (p ++ x :: y :: r) := by
 rw [List.append_assoc, zzu p, zzu p]
 have : val ([x - 10000] ++ (y + 1) :: r) = val (x :: y :: r) := by simp only [List.singleton_append, val]; omega
 rw [this]
theorem zYh {p : List Int} {x : Int} (hp : ∀ d ∈ p, Digit d) (hv : val (p ++ [x]) < 10000 ^ p.length * 2) : x < 2 := by
 rw [zzu] at hv
 have h1 := zxo hp
 simp only [val] at hv
 rcases Int.lt_or_le x 2 with h | h
 ·exact h
 ·have h2 : (10000 : Int) ^ p.length * 2 ≤ 10000 ^ p.length * (x + 10000 * 0) := Int.mul_le_mul_of_nonneg_left (by omega) (Int.le_of_lt (Int.pow_pos (by decide)))
  omega
theorem zXt (a b : List Int) : acs (a ++ b) = acs a ++ acs b := by simp [acs]
theorem zJO {a : List Int} (ha : ∀ d ∈ a, Digit d) : ∀ d ∈ a ++ [0], Digit d := by
 intro d hd
 rcases List.mem_append.1 hd with h | h
 ·exact ha d h
 ·rw [List.mem_singleton.1 h]; unfold Digit; omega
theorem zja {m n : Nat} (h : m ≤ n) : (10000 : Int) ^ m ≤ 10000 ^ n := by
 obtain ⟨k, rfl⟩ := Nat.exists_eq_add_of_le h
 clear h
 induction k with
 | zero => exact Int.le_refl _
 | succ k ih =>
  have hp : (0 : Int) < 10000 ^ (m + k) := Int.pow_pos (by decide)
  rw [← Nat.add_assoc, Int.pow_succ]
  omega
variable {E : AEnv} (Z : Sys E)
include Z
theorem zVF {a b : List Int} (ha : ∀ d ∈ a, Digit d) (hb : ∀ d ∈ b, Digit d) (h200 : a.length ≤ 400) (h201 : b.length ≤ 400) : E.C zv1 [.one (.lst (a.map icell)), .one (.lst (b.map icell))] (.one (.lst ((digs (val a + val b).toNat).map icell))) := by
 refine Z.zv1 _ _ ⟨bl rfl, ?_⟩
 generalize hR : digs (val a + val b).toNat = R
 have ha0 := zJO ha
 have hb0 := zJO hb
 have b1 := zvq ha
 have b2 := zvq hb
 generalize hV : val a + val b = V at hR
 simp only [zYt, go_sem]
 intro _ _
 cases hc : decide ((a.length : Int) < (b.length : Int)) with
 | true =>
 have hc' := of_decide_eq_true hc
 have hV3 : V < 10000 ^ b.length * 2 := by have := zja (m := a.length) (n := b.length) (by omega); omega
 simp only [go_sem]
 have hl : a.length ≤ b.length := by omega
 try intro _
 have hw0 : IntKind.i64.wrap ((b.length : Int) + 1) = ((b.length + 1 : Nat) : Int) := zzd (by omega)
 simp only [hw0, go_sem, Int.toNat_natCast]
 have hd : List.drop (0 + b.length * 1) (List.replicate (b.length + 1) (AV.d (D.int IntKind.i64 0))) = acs [0] := by simp [acs]
 have ht : List.take (b.length + 1) (b.map icell) = b.map icell := List.take_of_length_le (by simp)
 try rw [ht]
 rw [zj6, zkF, List.length_replicate]
 try rw [lM]
 rw [hd, ← zXt]
 refine ⟨by omega, by omega, ?_⟩
 try intro _
 refine zze fun K0 hK0 => ?_
 refine zzh a (fun _ => True) (fun done rest => ⟨[(25, .d (.int .i64 done.length)), (24, .d (.int .i64 a.length)), (23, .d (.lst (a.map icell))), (5, .vec 19 1 0 (b.length + 1) (b.length + 1)), (0, .d (.lst (b.map icell)))], [(19, acs (sumL (b ++ [0]) done))], []⟩) ?_ trivial ?_ ?_
 ·have h0 : sumL (b ++ [0]) [] = b ++ [0] := by cases b <;> rfl
  exact zzc (by simp only [go_sem, oS, h0, zzg])
 ·intro done y r hbl _
  have hlt := zzw hbl
  have hda : done.length < (b ++ [0]).length := by simp; omega
  obtain ⟨x, p, q, e1, e2, e3, e4⟩ := zXb (y := y) hda
  have hy : Digit y := ha y (by rw [hbl]; simp)
  have hx := hb0 x e4
  unfold Digit at hx hy
  have hw : IntKind.i64.wrap ((done.length : Int) + 1) = ((done.length + 1 : Nat) : Int) := zzd (by omega)
  have hw2 : IntKind.i64.wrap (x + y) = x + y := i64_in _ (by omega)
  have hlta : ((done.length : Int) < ((b.length + 1 : Nat) : Int)) = True := eq_true (by omega)
  have hg := zz8 e1 e2
  have hst := zxp (y := x + y) e1 e2
  have hro := zzX e1 e2
  simp only [zy7, go_sem, getD_at hbl, hlt, hlta, icell, hw, Int.toNat_natCast, Nat.mul_one, zA, hg, hro, hw2, hst]
  exact zzc (by simp only [go_sem, oS, lA, lC, lN, zA, e3, zzg])
 ·intro _
  simp only [zy7, go_sem, Int.lt_irrefl, decide_false, hK0]
  try intro _
  have hn : (sumL (b ++ [0]) a).length = b.length + 1 := by rw [zW0 (by simp; omega)]; simp
  have hsv : val (sumL (b ++ [0]) a) = V := by rw [zW1 (by simp; omega), zzu]; simp only [val]; omega
  have hsd := zWZ hb0 ha
  refine zze fun K hK => ?_
  refine zzo (fun s : List Int × List Int => ⟨[(40, .d (.int .i64 s.1.length)), (39, .d (.int .i64 b.length)), (5, .vec 19 1 0 (b.length + 1) (b.length + 1))], [(19, acs (s.1 ++ s.2))], []⟩) (fun s => (∀ d ∈ s.1, Digit d) ∧ CarryU s.2 ∧ val (s.1 ++ s.2) = V ∧ s.1.length + s.2.length = b.length + 1 ∧ 1 ≤ s.2.length) (fun s => s.2.length) ([], sumL (b ++ [0]) a) ?_ ⟨by simp, ?_, hsv, by simp [hn], by simp only []; omega⟩ ?_
  ·exact zzc (by simp only [go_sem, oS, lN, nZ, List.nil_append, zzg])
  ·cases h0 : sumL (b ++ [0]) a with
   | nil => trivial
   | cons x r =>
    rw [h0] at hsd
    have := hsd x (by simp)
    unfold UDig at this
    exact ⟨by omega, by omega, fun d hd => hsd d (by simp [hd])⟩
  ·rintro ⟨p, q⟩ ⟨g1, g2, g3, g4, g5⟩
   simp only at g1 g2 g3 g4 g5
   rcases Nat.lt_or_ge p.length b.length with hpl | hpl
   ·cases q with
    | nil => simp at g4; omega
    | cons x q =>
    cases q with
    | nil => simp at g4; omega
    | cons y r =>
    have hlt : (p.length : Int) < (b.length : Int) := by omega
    have hd : decide ((p.length : Int) < (b.length : Int)) = true := decide_eq_true hlt
    have hlt1 : ((p.length : Int) < ((b.length + 1 : Nat) : Int)) = True := eq_true (by omega)
    have hlt2 : (((p.length + 1 : Nat) : Int) < ((b.length + 1 : Nat) : Int)) = True := eq_true (by omega)
    have hw : IntKind.i64.wrap ((p.length : Int) + 1) = ((p.length + 1 : Nat) : Int) := zzd (by omega)
    obtain ⟨c1, c2, c3⟩ := g2
    have hy := c3 y (by simp)
    unfold UDig at hy
    have hg := zz8 (l := p ++ x :: y :: r) rfl rfl
    have hst := fun z => zxp (l := p ++ x :: y :: r) (y := z) rfl rfl
    have hro := zzX (l := p ++ x :: y :: r) rfl rfl
    simp only [zy6, go_sem, hd, hlt1, hw, Int.toNat_natCast, Nat.mul_one, zA, hg, hro]
    cases hx : decide (x ≥ 10000) with
    | false =>
     have hx' := of_decide_eq_false hx
     simp only [go_sem, hw]
     refine ⟨(p ++ [x], y :: r), zzc (by simp only [go_sem, oS, lA, lC, lN, zA, List.append_assoc, List.singleton_append, zzg]), ⟨?_, ?_, ?_, ?_, ?_⟩, ?_⟩
     ·intro d hd
      rcases List.mem_append.1 hd with h | h
      ·exact g1 d h
      ·rw [List.mem_singleton.1 h]; unfold Digit; omega
     ·exact ⟨by omega, by omega, fun d hd => c3 d (by simp [hd])⟩
     ·rw [List.append_assoc]; exact g3
     ·simp at g4 ⊢; omega
     ·simp
     ·simp
    | true =>
     have hx' := of_decide_eq_true hx
     have hw2 : IntKind.i64.wrap (x - 10000) = x - 10000 := i64_in _ (by omega)
     have hw3 : IntKind.i64.wrap (y + 1) = y + 1 := i64_in _ (by omega)
     have he : p ++ (x - 10000) :: y :: r = (p ++ [x - 10000]) ++ y :: r := by simp
     have hpl : (p ++ [x - 10000]).length = p.length + 1 := by simp
     have hg2 := zz8 he hpl
     have hst2 := zxp (y := y + 1) he hpl
     have hro2 := zzX he hpl
     simp only [go_sem, hlt1, hlt2, Int.toNat_natCast, Nat.mul_one, zA, hg, hro, hw2, hst, hw, hg2, hst2, hro2, hw3]
     refine ⟨(p ++ [x - 10000], (y + 1) :: r), zzc (by simp only [go_sem, oS, hpl, zzg]), ⟨?_, ?_, ?_, ?_, ?_⟩, ?_⟩
     ·intro d hd
      rcases List.mem_append.1 hd with h | h
      ·exact g1 d h
      ·rw [List.mem_singleton.1 h]; unfold Digit; omega
     ·exact ⟨by omega, by omega, fun d hd => c3 d (by simp [hd])⟩
     ·exact zXy.trans g3
     ·simp at g4 ⊢; omega
     ·simp
     ·simp
   ·cases q with
    | nil =>
     have hdig : False := by simp at g5
     exact hdig.elim
    | cons x q =>
    have hq : q = [] := List.eq_nil_of_length_eq_zero (by simp at g4; omega)
    subst hq
    have hpl2 : p.length = b.length := by simp at g4; omega
    have hx := g2.1
    have hx2 := zYh (x := x) g1 (by rw [g3, hpl2]; exact hV3)
    have ht := zwh (l := p ++ [x]) (fun d hd => by
     rcases List.mem_append.1 hd with h | h
     ·exact g1 d h
     ·rw [List.mem_singleton.1 h]; unfold Digit; omega)
    rw [g3, hR] at ht
    have htr := zk6 Z (p ++ [x])
    rw [ht] at htr
    have hnl : (p ++ [x]).length = b.length + 1 := by simp [hpl2]
    simp only [zy6, go_sem, hpl2, Int.lt_irrefl, decide_false, hK]
    refine zZT (zvY rfl hnl) rfl rfl htr ?_
    simp only [go_sem, St.noBox]
 | false =>
 have hc' := of_decide_eq_false hc
 have hV2 : V < 10000 ^ a.length * 2 := by have := zja (m := b.length) (n := a.length) (by omega); omega
 simp only [go_sem]
 have hl : b.length ≤ a.length := by omega
 try intro _
 have hw0 : IntKind.i64.wrap ((a.length : Int) + 1) = ((a.length + 1 : Nat) : Int) := zzd (by omega)
 simp only [hw0, go_sem, Int.toNat_natCast]
 have hd : List.drop (0 + a.length * 1) (List.replicate (a.length + 1) (AV.d (D.int IntKind.i64 0))) = acs [0] := by simp [acs]
 have ht : List.take (a.length + 1) (a.map icell) = a.map icell := List.take_of_length_le (by simp)
 try rw [ht]
 rw [zj6, zkF, List.length_replicate]
 try rw [lM]
 rw [hd, ← zXt]
 refine ⟨by omega, by omega, ?_⟩
 try intro _
 refine zze fun K0 hK0 => ?_
 refine zzh b (fun _ => True) (fun done rest => ⟨[(25, .d (.int .i64 done.length)), (24, .d (.int .i64 b.length)), (23, .d (.lst (b.map icell))), (5, .vec 19 1 0 (a.length + 1) (a.length + 1)), (0, .d (.lst (a.map icell)))], [(19, acs (sumL (a ++ [0]) done))], []⟩) ?_ trivial ?_ ?_
 ·have h0 : sumL (a ++ [0]) [] = a ++ [0] := by cases a <;> rfl
  exact zzc (by simp only [go_sem, oS, h0, zzg])
 ·intro done y r hbl _
  have hlt := zzw hbl
  have hda : done.length < (a ++ [0]).length := by simp; omega
  obtain ⟨x, p, q, e1, e2, e3, e4⟩ := zXb (y := y) hda
  have hy : Digit y := hb y (by rw [hbl]; simp)
  have hx := ha0 x e4
  unfold Digit at hx hy
  have hw : IntKind.i64.wrap ((done.length : Int) + 1) = ((done.length + 1 : Nat) : Int) := zzd (by omega)
  have hw2 : IntKind.i64.wrap (x + y) = x + y := i64_in _ (by omega)
  have hlta : ((done.length : Int) < ((a.length + 1 : Nat) : Int)) = True := eq_true (by omega)
  have hg := zz8 e1 e2
  have hst := zxp (y := x + y) e1 e2
  have hro := zzX e1 e2
  simp only [zy7, go_sem, getD_at hbl, hlt, hlta, icell, hw, Int.toNat_natCast, Nat.mul_one, zA, hg, hro, hw2, hst]
  exact zzc (by simp only [go_sem, oS, lA, lC, lN, zA, e3, zzg])
 ·intro _
  simp only [zy7, go_sem, Int.lt_irrefl, decide_false, hK0]
  try intro _
  have hn : (sumL (a ++ [0]) b).length = a.length + 1 := by rw [zW0 (by simp; omega)]; simp
  have hsv : val (sumL (a ++ [0]) b) = V := by rw [zW1 (by simp; omega), zzu]; simp only [val]; omega
  have hsd := zWZ ha0 hb
  refine zze fun K hK => ?_
  refine zzo (fun s : List Int × List Int => ⟨[(40, .d (.int .i64 s.1.length)), (39, .d (.int .i64 a.length)), (5, .vec 19 1 0 (a.length + 1) (a.length + 1))], [(19, acs (s.1 ++ s.2))], []⟩) (fun s => (∀ d ∈ s.1, Digit d) ∧ CarryU s.2 ∧ val (s.1 ++ s.2) = V ∧ s.1.length + s.2.length = a.length + 1 ∧ 1 ≤ s.2.length) (fun s => s.2.length) ([], sumL (a ++ [0]) b) ?_ ⟨by simp, ?_, hsv, by simp [hn], by simp only []; omega⟩ ?_
  ·exact zzc (by simp only [go_sem, oS, lN, nZ, List.nil_append, zzg])
  ·cases h0 : sumL (a ++ [0]) b with
   | nil => trivial
   | cons x r =>
    rw [h0] at hsd
    have := hsd x (by simp)
    unfold UDig at this
    exact ⟨by omega, by omega, fun d hd => hsd d (by simp [hd])⟩
  ·rintro ⟨p, q⟩ ⟨g1, g2, g3, g4, g5⟩
   simp only at g1 g2 g3 g4 g5
   rcases Nat.lt_or_ge p.length a.length with hpl | hpl
   ·cases q with
    | nil => simp at g4; omega
    | cons x q =>
    cases q with
    | nil => simp at g4; omega
    | cons y r =>
    have hlt : (p.length : Int) < (a.length : Int) := by omega
    have hd : decide ((p.length : Int) < (a.length : Int)) = true := decide_eq_true hlt
    have hlt1 : ((p.length : Int) < ((a.length + 1 : Nat) : Int)) = True := eq_true (by omega)
    have hlt2 : (((p.length + 1 : Nat) : Int) < ((a.length + 1 : Nat) : Int)) = True := eq_true (by omega)
    have hw : IntKind.i64.wrap ((p.length : Int) + 1) = ((p.length + 1 : Nat) : Int) := zzd (by omega)
    obtain ⟨c1, c2, c3⟩ := g2
    have hy := c3 y (by simp)
    unfold UDig at hy
    have hg := zz8 (l := p ++ x :: y :: r) rfl rfl
    have hst := fun z => zxp (l := p ++ x :: y :: r) (y := z) rfl rfl
    have hro := zzX (l := p ++ x :: y :: r) rfl rfl
    simp only [zy6, go_sem, hd, hlt1, hw, Int.toNat_natCast, Nat.mul_one, zA, hg, hro]
    cases hx : decide (x ≥ 10000) with
    | false =>
     have hx' := of_decide_eq_false hx
     simp only [go_sem, hw]
     refine ⟨(p ++ [x], y :: r), zzc (by simp only [go_sem, oS, lA, lC, lN, zA, List.append_assoc, List.singleton_append, zzg]), ⟨?_, ?_, ?_, ?_, ?_⟩, ?_⟩
     ·intro d hd
      rcases List.mem_append.1 hd with h | h
      ·exact g1 d h
      ·rw [List.mem_singleton.1 h]; unfold Digit; omega
     ·exact ⟨by omega, by omega, fun d hd => c3 d (by simp [hd])⟩
     ·rw [List.append_assoc]; exact g3
     ·simp at g4 ⊢; omega
     ·simp
     ·simp
    | true =>
     have hx' := of_decide_eq_true hx
     have hw2 : IntKind.i64.wrap (x - 10000) = x - 10000 := i64_in _ (by omega)
     have hw3 : IntKind.i64.wrap (y + 1) = y + 1 := i64_in _ (by omega)
     have he : p ++ (x - 10000) :: y :: r = (p ++ [x - 10000]) ++ y :: r := by simp
     have hpl : (p ++ [x - 10000]).length = p.length + 1 := by simp
     have hg2 := zz8 he hpl
     have hst2 := zxp (y := y + 1) he hpl
     have hro2 := zzX he hpl
     simp only [go_sem, hlt1, hlt2, Int.toNat_natCast, Nat.mul_one, zA, hg, hro, hw2, hst, hw, hg2, hst2, hro2, hw3]
     refine ⟨(p ++ [x - 10000], (y + 1) :: r), zzc (by simp only [go_sem, oS, hpl, zzg]), ⟨?_, ?_, ?_, ?_, ?_⟩, ?_⟩
     ·intro d hd
      rcases List.mem_append.1 hd with h | h
      ·exact g1 d h
      ·rw [List.mem_singleton.1 h]; unfold Digit; omega
     ·exact ⟨by omega, by omega, fun d hd => c3 d (by simp [hd])⟩
     ·exact zXy.trans g3
     ·simp at g4 ⊢; omega
     ·simp
     ·simp
   ·cases q with
    | nil =>
     have hdig : False := by simp at g5
     exact hdig.elim
    | cons x q =>
    have hq : q = [] := List.eq_nil_of_length_eq_zero (by simp at g4; omega)
    subst hq
    have hpl2 : p.length = a.length := by simp at g4; omega
    have hx := g2.1
    have hx2 := zYh (x := x) g1 (by rw [g3, hpl2]; exact hV2)
    have ht := zwh (l := p ++ [x]) (fun d hd => by
     rcases List.mem_append.1 hd with h | h
     ·exact g1 d h
     ·rw [List.mem_singleton.1 h]; unfold Digit; omega)
    rw [g3, hR] at ht
    have htr := zk6 Z (p ++ [x])
    rw [ht] at htr
    have hnl : (p ++ [x]).length = a.length + 1 := by simp [hpl2]
    simp only [zy6, go_sem, hpl2, Int.lt_irrefl, decide_false, hK]
    refine zZT (zvY rfl hnl) rfl rfl htr ?_
    simp only [go_sem, St.noBox]
end Go.Abs
end
section
namespace Go.Abs
def sgnI (z : Int) : Int := if z < 0 then -1 else if z > 0 then 1 else 0
theorem zJu {z : Int} (h : z < 0) : sgnI z = -1 := if_pos h
theorem zJv {z : Int} (h : z > 0) : sgnI z = 1 := by unfold sgnI; rw [if_neg (by omega), if_pos h]
theorem yyp {p q : List Int} {x y : Int} (hp : ∀ d ∈ p, Digit d) (hq : ∀ d ∈ q, Digit d) (hl : p.length = q.length) (h : x < y) : val (p ++ [x]) < val (q ++ [y]) := by
 rw [zzu, zzu, hl]
 have h1 := zvq hp
 have h2 := zxo hq
 rw [hl] at h1
 have h3 : (10000 : Int) ^ q.length * (x + 1) ≤ 10000 ^ q.length * y := Int.mul_le_mul_of_nonneg_left (by omega) (Int.le_of_lt (Int.pow_pos (by decide)))
 rw [Int.mul_add, Int.mul_one] at h3
 simp only [val, Int.mul_zero, Int.add_zero]
 omega
theorem zKm : ∀ (n : Nat) (p q : List Int), p.length = n → q.length = n → (∀ d ∈ p, Digit d) → (∀ d ∈ q, Digit d) → cmpGo p.reverse q.reverse = sgnI (val p - val q)
 | 0, p, q, h1, h2, _, _ => by
  have e1 := List.eq_nil_of_length_eq_zero h1
  have e2 := List.eq_nil_of_length_eq_zero h2
  subst e1 e2; rfl
 | n + 1, p, q, h1, h2, hp, hq => by
  rcases zzJ p with rfl | ⟨d, x, rfl⟩
  ·simp at h1
  rcases zzJ q with rfl | ⟨e, y, rfl⟩
  ·simp at h2
  have hd : ∀ z ∈ d, Digit z := fun z hz => hp z (by simp [hz])
  have he : ∀ z ∈ e, Digit z := fun z hz => hq z (by simp [hz])
  have l1 : d.length = n := by simpa using h1
  have l2 : e.length = n := by simpa using h2
  rw [List.reverse_append, List.reverse_append, List.reverse_singleton, List.reverse_singleton, List.singleton_append, List.singleton_append, cmpGo]
  by_cases h : x < y
  ·have := yyp hd he (l1.trans l2.symm) h
   rw [if_pos h, zJu (by omega)]
  ·by_cases h' : x > y
   ·have := yyp he hd (l2.trans l1.symm) h'
    rw [if_neg h, if_pos h', zJv (by omega)]
   ·have hxy : x = y := by omega
    subst hxy
    rw [if_neg h, if_neg h', zKm n d e l1 l2 hd he, zzu, zzu, l1, l2]
    congr 1; omega
theorem zQe {l : List Int} (h : Norm l) (hn : l ≠ []) : (10000 : Int) ^ (l.length - 1) ≤ val l := by
 rcases zzJ l with rfl | ⟨d, x, rfl⟩
 ·exact absurd rfl hn
 ·have h1 := h.1 x (by simp)
  have h2 := h.2 x (by simp)
  have h3 := zxo (l := d) fun z hz => h.1 z (by simp [hz])
  unfold Digit at h1
  have h4 : (10000 : Int) ^ d.length * 1 ≤ 10000 ^ d.length * x := Int.mul_le_mul_of_nonneg_left (by omega) (Int.le_of_lt (Int.pow_pos (by decide)))
  rw [zzu, show (d ++ [x]).length - 1 = d.length by simp]
  simp only [val, Int.mul_zero, Int.add_zero]
  omega
theorem yyA {a b : List Int} (ha : Norm a) (hb : Norm b) (h : a.length < b.length) : val a < val b := by
 have h1 := zvq ha.1
 have h2 := zQe hb (by intro h0; rw [h0] at h; simp at h)
 have h3 := zja (m := a.length) (n := b.length - 1) (by omega)
 omega
theorem zWB {a b : List Int} (ha : Norm a) (hb : Norm b) : cmpD a b = sgnI (val a - val b) := by
 unfold cmpD
 by_cases h : a.length = b.length
 ·rw [if_neg (by omega)]
  exact zKm a.length a b rfl h.symm ha.1 hb.1
 ·rw [if_pos h]
  by_cases h2 : a.length < b.length
  ·have := yyA ha hb h2
   rw [if_pos h2, zJu (by omega)]
  ·have := yyA hb ha (by omega)
   rw [if_neg h2, zJv (by omega)]
def fitsZ (z : Int) : Prop := (digs z.natAbs).length ≤ 200
theorem yz2 (n : Nat) (h : n ≠ 0) : lastD (digs n) ≠ 0 := by
 intro h0
 rcases zzJ (digs n) with he | ⟨d, y, he⟩
 ·rw [zzQ h] at he; cases he
 ·have := (zy4 n).2 y (by rw [he]; simp)
  rw [he, zqU] at h0
  exact this h0
theorem zXh {z : Int} (h : fitsZ z) : validB (bigZ z) = true := by
 unfold validB bigZ
 unfold fitsZ at h
 simp only []
 have h1 : decide (((digs z.natAbs).length : Int) > 200) = false := decide_eq_false (by omega)
 have h2 : (digs z.natAbs).all digB = true := by
  rw [List.all_eq_true]
  intro d hd
  have := zzG _ d hd
  unfold Digit at this
  simp [digB]; omega
 rw [h1, h2, Bool.false_or, Bool.and_true]
 by_cases h0 : z = 0
 ·subst h0
  have : digs (0 : Int).natAbs = [] := zzC
  rw [this]; rfl
 ·have h3 : digs z.natAbs ≠ [] := by rw [zzQ (by omega)]; simp
  have h4 : ((digs z.natAbs).length : Int) ≠ 0 := fun h => h3 (List.eq_nil_of_length_eq_zero (by omega))
  have h5 := yz2 z.natAbs (by omega)
  simp [h5]
  exact .inl h3
theorem zWX {n : Bool} {z : Int} (h : z ≠ 0 → n = decide (z < 0)) : signB n (digs z.natAbs) = fitB z := by
 unfold signB fitB
 cases h1 : decide (((digs z.natAbs).length : Int) > 200) with
 | true => rfl
 | false =>
  simp only [Bool.false_eq_true, if_false]
  by_cases h0 : z = 0
  ·subst h0
   have : digs (0 : Int).natAbs = [] := zzC
   rw [bigZ, this]; rfl
  ·have h4 : ((digs z.natAbs).length : Int) ≠ 0 := by rw [zzQ (by omega)]; simp; omega
   rw [if_neg (by simpa using h4), bigZ, h h0]
theorem ykh (m n : Nat) : decide (sgnI ((m : Int) - n) ≥ 0) = decide (n ≤ m) := by
 unfold sgnI
 by_cases h : n ≤ m
 ·rw [decide_eq_true h, if_neg (by omega)]
  split <;> rfl
 ·rw [decide_eq_false h, if_pos (by omega)]; rfl
theorem add_same {x y : Int} (h : decide (x < 0) = decide (y < 0)) : x.natAbs + y.natAbs = (x + y).natAbs ∧ (x + y ≠ 0 → decide (x < 0) = decide (x + y < 0)) := by
 by_cases h1 : x < 0
 ·have h2 : y < 0 := by rw [decide_eq_true h1] at h; exact of_decide_eq_true h.symm
  exact ⟨by omega, fun _ => by rw [decide_eq_true h1, decide_eq_true (by omega)]⟩
 ·have h2 : ¬y < 0 := by rw [decide_eq_false h1] at h; exact of_decide_eq_false h.symm
  exact ⟨by omega, fun _ => by rw [decide_eq_false h1, decide_eq_false (by omega)]⟩
theorem zZQ {x y : Int} (h : decide (x < 0) ≠ decide (y < 0)) (h2 : y.natAbs ≤ x.natAbs) : ((x.natAbs : Int) - y.natAbs).toNat = (x + y).natAbs ∧ (x + y ≠ 0 → decide (x < 0) = decide (x + y < 0)) := by
 by_cases h1 : x < 0
 ·have h3 : ¬y < 0 := fun h3 => h (by rw [decide_eq_true h1, decide_eq_true h3])
  exact ⟨by omega, fun _ => by rw [decide_eq_true h1, decide_eq_true (by omega)]⟩
 ·have h3 : y < 0 := by
    rcases Int.lt_or_le y 0 with h3 | h3
    ·exact h3
    ·exact absurd (by rw [decide_eq_false h1, decide_eq_false (by omega)]) h
  exact ⟨by omega, fun _ => by rw [decide_eq_false h1, decide_eq_false (by omega)]⟩
theorem zvw {m n : Nat} (h : n ≤ m) : (digs n).length ≤ (digs m).length := by
 rcases Nat.lt_or_ge (digs m).length (digs n).length with h1 | h1
 ·have := yyA (zy4 m) (zy4 n) h1
  rw [zzx, zzx] at this
  omega
 ·exact h1
variable {E : AEnv} (Z : Sys E)
include Z
theorem zj2 {m n : Nat} (h : n ≤ m) (hm : (digs m).length ≤ 200) : E.C zx2 [.one (.lst ((digs m).map icell)), .one (.lst ((digs n).map icell))] (.one (.lst ((digs ((m : Int) - n).toNat).map icell))) := by
 have := zKf Z (zzG m) (zzG n) (zvw h) (by rw [zzx, zzx]; omega) (by omega)
 rwa [zzx, zzx] at this
theorem zQB {x y : Int} (hx : fitsZ x) (hy : fitsZ y) : E.C zqJ [.one (.bool (decide (x < 0))), .one (.lst ((digs x.natAbs).map icell)), .one (.bool (decide (y < 0))), .one (.lst ((digs y.natAbs).map icell))] (resB (fitB (x + y))) := by
 unfold fitsZ at hx hy
 have hp := zVF Z (zzG x.natAbs) (zzG y.natAbs) (by omega) (by omega)
 rw [zzx, zzx, ← Int.natCast_add, Int.toNat_natCast] at hp
 have hc := zkx Z (digs x.natAbs) (digs y.natAbs)
 rw [zWB (zy4 _) (zy4 _), zzx, zzx] at hc
 have hge := ykh x.natAbs y.natAbs
 refine Z.zqJ _ _ ⟨bl rfl, ?_⟩
 have hsame := add_same (x := x) (y := y)
 have hd1 := zZQ (x := x) (y := y)
 have hd2 := zZQ (x := y) (y := x)
 have hs := fun n z (h : z ≠ 0 → n = decide (z < 0)) => (zWX h) ▸ zjW Z n (digs z.natAbs)
 generalize hF : fitB (x + y) = F
 obtain ⟨⟨f1, f2⟩, f3⟩ := F
 generalize decide (x < 0) = sx at *
 generalize decide (y < 0) = sy at *
 simp only [resB, BigT.cells]
 simp only [zXG, go_sem]
 by_cases h0 : sx = sy
 ·obtain ⟨e1, e2⟩ := hsame h0
  rw [e1] at hp
  have hs := hs sx (x + y) e2
  rw [hF] at hs
  simp only [resB, BigT.cells] at hs
  have hb : (sx == sy) = true := by simp [h0]
  simp only [hb, go_sem]
  refine zzb hp ?_
  simp only [go_sem]
  refine zzb hs ?_
  simp only [go_sem]
  try exact ⟨⟨rfl, rfl⟩, rfl⟩
 ·have hb : (sx == sy) = false := by simp [h0]
  simp only [hb, go_sem]
  refine zzb hc ?_
  simp only [go_sem, hge]
  cases hd : decide (y.natAbs ≤ x.natAbs) with
  | true =>
   have hd' := of_decide_eq_true hd
   obtain ⟨e1, e2⟩ := hd1 h0 hd'
   have hm := zj2 Z hd' hx
   rw [e1] at hm
   have hs := hs sx (x + y) e2
   rw [hF] at hs
   simp only [resB, BigT.cells] at hs
   simp only [go_sem]
   refine zzb hm ?_
   simp only [go_sem]
   refine zzb hs ?_
   simp only [go_sem]
   try exact ⟨⟨rfl, rfl⟩, rfl⟩
  | false =>
   have hd' := of_decide_eq_false hd
   obtain ⟨e1, e2⟩ := hd2 (Ne.symm h0) (by omega)
   have hm := zj2 Z (m := y.natAbs) (n := x.natAbs) (by omega) hy
   rw [e1] at hm
   have hs := hs sy (y + x) e2
   rw [Int.add_comm y x, hF] at hs
   rw [Int.add_comm y x] at hm
   simp only [resB, BigT.cells] at hs
   simp only [go_sem]
   refine zzb hm ?_
   simp only [go_sem]
   refine zzb hs ?_
   simp only [go_sem]
   try exact ⟨⟨rfl, rfl⟩, rfl⟩
theorem zv5 {x : Int} (hx : fitsZ x) : E.C zz7 [.agg (bigZ x).cells] (.one (.lst ((digs x.natAbs).map icell))) := by
 have := zWx Z (bigZ x)
 rwa [zXh hx, if_pos rfl] at this
theorem zQz {x y : Int} (hx : fitsZ x) (hy : fitsZ y) : E.C zqH [.agg (bigZ x).cells, .agg (bigZ y).cells] (resB (fitB (x + y))) := by
 have h1 := zv5 Z hx
 have h2 := zv5 Z hy
 have h3 := zQB Z hx hy
 refine Z.zqH _ _ ⟨bl rfl, ?_⟩
 generalize fitB (x + y) = F at *
 obtain ⟨⟨f1, f2⟩, f3⟩ := F
 simp only [bigZ, resB, BigT.cells] at *
 simp only [zXE, go_sem]
 refine ⟨_, h1, ?_⟩
 simp only [go_sem]
 refine ⟨_, h2, ?_⟩
 simp only [go_sem]
 refine ⟨_, h3, ?_⟩
 simp only [go_sem]
 try exact ⟨⟨rfl, rfl⟩, rfl⟩
theorem zXv {x y : Int} (hx : fitsZ x) (hy : fitsZ y) : E.C zjv [.agg (bigZ x).cells, .agg (bigZ y).cells] (.one (.int .i64 (sgnI (x - y)))) := by
 have h1 := zv5 Z hx
 have h2 := zv5 Z hy
 have c1 := zkx Z (digs x.natAbs) (digs y.natAbs)
 have c2 := zkx Z (digs y.natAbs) (digs x.natAbs)
 rw [zWB (zy4 _) (zy4 _), zzx, zzx] at c1 c2
 have k1 : x < 0 → decide (((digs x.natAbs).length : Int) > 0) = true := fun h => decide_eq_true (by rw [zzQ (by omega)]; simp)
 have k2 : y < 0 → decide (((digs y.natAbs).length : Int) > 0) = true := fun h => decide_eq_true (by rw [zzQ (by omega)]; simp)
 refine Z.zjv _ _ ⟨bl rfl, ?_⟩
 simp only [bigZ, resB, BigT.cells] at *
 by_cases hx0 : x < 0
 ·have d1 := decide_eq_true hx0
  have k1 := k1 hx0
  by_cases hy0 : y < 0
  ·have d2 := decide_eq_true hy0
   have k2 := k2 hy0
   have e : ((y.natAbs : Nat) : Int) - x.natAbs = x - y := by omega
   rw [e] at c2
   rw [d1] at h1
   rw [d2] at h2
   simp only [zkG, go_sem, d1, d2]
   refine ⟨_, h1, ?_⟩
   simp only [go_sem]
   refine ⟨_, h2, ?_⟩
   simp only [go_sem, k1, k2]
   try intro _ _
   try refine zzb c2 ?_
   try simp only [go_sem]
  ·have d2 := decide_eq_false hy0
   have e : sgnI (x - y) = -1 := zJu (by omega)
   rw [d1] at h1
   rw [d2] at h2
   simp only [zkG, go_sem, d1, d2, e]
   refine ⟨_, h1, ?_⟩
   simp only [go_sem]
   refine ⟨_, h2, ?_⟩
   simp only [go_sem, k1]
   try intro _
 ·have d1 := decide_eq_false hx0
  by_cases hy0 : y < 0
  ·have d2 := decide_eq_true hy0
   have k2 := k2 hy0
   have e : sgnI (x - y) = 1 := zJv (by omega)
   rw [d1] at h1
   rw [d2] at h2
   simp only [zkG, go_sem, d1, d2, e]
   refine ⟨_, h1, ?_⟩
   simp only [go_sem]
   refine ⟨_, h2, ?_⟩
   simp only [go_sem, k2]
   try intro _
  ·have d2 := decide_eq_false hy0
   have e : ((x.natAbs : Nat) : Int) - y.natAbs = x - y := by omega
   rw [e] at c1
   rw [d1] at h1
   rw [d2] at h2
   simp only [zkG, go_sem, d1, d2]
   refine ⟨_, h1, ?_⟩
   simp only [go_sem]
   refine ⟨_, h2, ?_⟩
   simp only [go_sem]
   try refine zzb c1 ?_
   try simp only [go_sem]
end Go.Abs
end
section
namespace Go.Abs
def okI (z : Int) : Bool := !decide (((digs z.natAbs).length : Int) > 200)
theorem zyU {z : Int} : okI z = true ↔ fitsZ z := by unfold okI fitsZ; simp; omega
theorem ykF {z : Int} (h : okI z = true) : fitB z = (bigZ z, true) := by
 unfold okI at h; unfold fitB; rw [if_neg (by simpa using h)]
theorem ykE {z : Int} (h : okI z = false) : fitB z = (⟨false, []⟩, false) := by
 unfold okI at h; unfold fitB; rw [if_pos (by simpa using h)]
theorem zyE : okI 0 = true := by unfold okI; rw [Int.natAbs_zero, zzC]; rfl
theorem zjV : bigZ 0 = ⟨false, []⟩ := by unfold bigZ; rw [Int.natAbs_zero, zzC]; rfl
theorem zkE {z : Int} (h : inRange z = true) : fitsZ z := by
 rw [zzm] at h
 unfold fitsZ
 have h1 := zvw (m := 1000000000000) (n := z.natAbs) (by omega)
 have h2 : (digs 1000000000000).length = 4 := by
  rw [zzQ (by omega), zzQ (by omega), zzQ (by omega), zzQ (by omega)]
  simp only [Nat.reduceDiv, zzC, lC, lN]
 omega
def zOf (a : BigT) : Int := if a.neg then -val a.ds else val a.ds
theorem zQt {a : BigT} (h : validB a = true) : fitsZ (zOf a) ∧ a = bigZ (zOf a) := by
 obtain ⟨n, l⟩ := a
 unfold validB at h
 simp only [Bool.and_eq_true, Bool.not_eq_true', Bool.or_eq_false_iff, decide_eq_false_iff_not, Bool.and_eq_false_iff, List.all_eq_true] at h
 obtain ⟨⟨⟨h1, h2⟩, h3⟩, h4⟩ := h
 have hd : ∀ d ∈ l, Digit d := fun d hd => by
  have := h4 d hd
  unfold digB at this
  simp at this
  exact this
 have hn : Norm l := ⟨hd, fun y hy => by
  rcases h3 with h3 | h3
  ·have : l ≠ [] := fun e => by rw [e] at hy; cases hy
   have := List.length_pos_iff.2 this
   omega
  ·intro e
   subst e
   unfold lastD at h3
   rw [hy] at h3
   simp at h3⟩
 have hv := zYS hn
 have hp := zxo hd
 have hneg : n = true → l ≠ [] := fun e he => by
  subst e; subst he
  simp at h2
 unfold zOf fitsZ bigZ
 simp only
 cases n with
 | false =>
  simp only [Bool.false_eq_true, if_false]
  have e : (val l).natAbs = (val l).toNat := by omega
  rw [e, ← hv]
  exact ⟨by omega, by rw [decide_eq_false (by omega)]⟩
 | true =>
  have hpos := Norm.pos hn (hneg rfl)
  simp only [if_true]
  have e : (-val l).natAbs = (val l).toNat := by omega
  rw [e, ← hv]
  exact ⟨by omega, by rw [decide_eq_true (by omega)]⟩
def zeroB : BigT := ⟨false, []⟩
abbrev Op3 := Nat × Int × Int
def stepA (s : List Int) (o : Op3) : Option (List Int) := if okI (o.2.1 * o.2.2) && okI (s.getD o.1 0 + o.2.1 * o.2.2) then some (s.set o.1 (s.getD o.1 0 + o.2.1 * o.2.2)) else none
def accF : List Int → List Op3 → Option (List Int)
 | s, [] => some s
 | s, o :: l => match stepA s o with
  | some s' => accF s' l
  | none => none
theorem zVC (s : List Int) (a b : List Op3) : accF s (a ++ b) = match accF s a with | some s' => accF s' b | none => none := by
 induction a generalizing s with
 | nil => rfl
 | cons o a ih =>
  rw [List.cons_append, accF, accF]
  cases stepA s o with
  | none => rfl
  | some s' => exact ih s'
def coefN (cs : List Coef) (s : Str) : Int := match cs.find? (fun c => c.name == s) with | some c => c.n | none => 0
def opP (V : List Str) (m : Int) (r : Row) : List Op3 := r.lin.coefs.map (fun c => (ixL V c.name, m, c.n)) ++ [(V.length, m, r.lin.c)]
def opQ (V : List Str) (m : Int) (r : Row) : List Op3 := (List.range V.length).map (fun k => (k, m, coefN r.lin.coefs (V.getD k []))) ++ [(V.length, m, r.lin.c)]
def opsP (V : List Str) (l : List (Int × Row)) : List Op3 := l.flatMap fun p => opP V p.1 p.2
def opsQ (V : List Str) (l : List (Int × Row)) : List Op3 := l.flatMap fun p => opQ V p.1 p.2
def AllOk (s : List Int) : Prop := ∀ x ∈ s, okI x = true
theorem zQn {s s' : List Int} {o : Op3} (h : stepA s o = some s') (hs : AllOk s) : AllOk s' ∧ s'.length = s.length := by
 unfold stepA at h
 split at h
 ·rename_i hc
  simp only [Bool.and_eq_true] at hc
  cases h
  refine ⟨fun x hx => ?_, by simp⟩
  rcases List.mem_or_eq_of_mem_set hx with hx | hx
  ·exact hs x hx
  ·rw [hx]; exact hc.2
 ·cases h
theorem zvs : ∀ {l : List Op3} {s s' : List Int}, accF s l = some s' → AllOk s → AllOk s' ∧ s'.length = s.length
 | [], s, s', h, hs => by cases h; exact ⟨hs, rfl⟩
 | o :: l, s, s', h, hs => by
  rw [accF] at h
  split at h
  ·rename_i s1 h1
   obtain ⟨h2, h3⟩ := zQn h1 hs
   obtain ⟨h4, h5⟩ := zvs h h2
   exact ⟨h4, by omega⟩
  ·cases h
theorem yyl {s : List Int} (hs : AllOk s) (i : Nat) : okI (s.getD i 0) = true := by
 rw [List.getD_eq_getElem?_getD]
 cases h : s[i]? with
 | none => exact zyE
 | some x => exact hs x (List.mem_of_getElem? h)
theorem zQl (s : List Int) (i : Nat) : s.set i (s.getD i 0) = s := by
 rcases Nat.lt_or_ge i s.length with h | h
 ·have : s.getD i 0 = s[i] := by rw [List.getD_eq_getElem?_getD, List.getElem?_eq_getElem h]; rfl
  rw [this, List.set_getElem_self]
 ·exact List.set_eq_of_length_le h
def nz (o : Op3) : Bool := o.2.2 != 0
theorem zk3 : ∀ {l : List Op3} {s : List Int}, AllOk s → accF s l = accF s (l.filter nz)
 | [], _, _ => rfl
 | o :: l, s, hs => by
  rw [List.filter_cons]
  cases hz : nz o with
  | true =>
   simp only [if_true]
   rw [accF, accF]
   cases h : stepA s o with
   | none => rfl
   | some s' => exact zk3 (zQn h hs).1
  | false =>
   simp only [Bool.false_eq_true, if_false]
   have h0 : o.2.2 = 0 := by unfold nz at hz; simpa using hz
   have h1 : stepA s o = some s := by
    unfold stepA
    rw [h0, Int.mul_zero, zyE, Int.add_zero, yyl hs, zQl]; rfl
   rw [accF, h1]
   exact zk3 hs
theorem yyT : ∀ {a b : List Op3}, a.Pairwise (fun x y => x.1 < y.1) → b.Pairwise (fun x y => x.1 < y.1) → (∀ x, x ∈ a ↔ x ∈ b) → a = b
 | [], [], _, _, _ => rfl
 | [], y :: b, _, _, h => absurd ((h y).2 (by simp)) (by simp)
 | x :: a, [], _, _, h => absurd ((h x).1 (by simp)) (by simp)
 | x :: a, y :: b, ha, hb, h => by
  obtain ⟨ha1, ha2⟩ := List.pairwise_cons.1 ha
  obtain ⟨hb1, hb2⟩ := List.pairwise_cons.1 hb
  have hxy : x = y := by
   rcases List.mem_cons.1 ((h x).1 (by simp)) with h1 | h1
   ·exact h1
   ·rcases List.mem_cons.1 ((h y).2 (by simp)) with h2 | h2
    ·exact h2.symm
    ·exact absurd (Nat.lt_trans (ha1 y h2) (hb1 x h1)) (Nat.lt_irrefl _)
  subst hxy
  congr 1
  refine yyT ha2 hb2 fun z => ⟨fun hz => ?_, fun hz => ?_⟩
  ·rcases List.mem_cons.1 ((h z).1 (by simp [hz])) with h1 | h1
   ·subst h1; exact absurd (ha1 z hz) (Nat.lt_irrefl _)
   ·exact h1
  ·rcases List.mem_cons.1 ((h z).2 (by simp [hz])) with h1 | h1
   ·subst h1; exact absurd (hb1 z hz) (Nat.lt_irrefl _)
   ·exact h1
theorem yyx {x y : Str} (h : leS x y = false) : y < x := by
 unfold leS at h
 rw [Go.Proofs.bytesLess_eq, Bool.or_eq_false_iff] at h
 simp only [decide_eq_false_iff_not, beq_eq_false_iff_ne, ne_eq] at h
 exact zYM h.1 (fun e => h.2 e.symm)
theorem zKn : ∀ {l : List Coef} {p : Option Coef}, coefE p l = 0 → (l.Pairwise fun x y => x.name < y.name) ∧ (∀ c ∈ l, c.n ≠ 0 ∧ inRange c.n = true) ∧ ∀ q, p = some q → ∀ c ∈ l, q.name < c.name
 | [], _, _ => ⟨List.Pairwise.nil, by simp, by simp⟩
 | x :: r, p, h => by
  rw [coefE] at h
  cases hx : (errC p x == 0) with
  | false => rw [hx] at h; simp at h; rw [h] at hx; simp at hx
  | true =>
   rw [hx] at h
   simp only [if_true] at h
   obtain ⟨h1, h2, h3⟩ := zKn h
   have hx0 : errC p x = 0 := by simpa using hx
   unfold errC at hx0
   split at hx0
   ·cases hx0
   ·split at hx0
    ·cases hx0
    ·rename_i hn
     have hn : x.n ≠ 0 ∧ inRange x.n = true := by simpa using hn
     have h3x := h3 x rfl
     refine ⟨List.pairwise_cons.2 ⟨h3x, h1⟩, fun c hc => ?_, fun q hq c hc => ?_⟩
     ·rcases List.mem_cons.1 hc with rfl | hc
      ·exact hn
      ·exact h2 c hc
     ·subst hq
      simp only at hx0
      split at hx0
      ·cases hx0
      ·rename_i hle
       have hlt := yyx (by simpa using hle)
       rcases List.mem_cons.1 hc with rfl | hc
       ·exact hlt
       ·exact ltT hlt (h3x c hc)
theorem zve {a : Lin} (h : linE a = 0) : (a.coefs.Pairwise fun x y => x.name < y.name) ∧ (∀ c ∈ a.coefs, c.n ≠ 0 ∧ inRange c.n = true) ∧ inRange a.c = true := by
 unfold linE at h
 split at h
 ·cases h
 ·cases hc : (coefE none a.coefs == 0) with
  | false => rw [hc] at h; simp at h; rw [h] at hc; simp at hc
  | true =>
   rw [hc] at h
   simp only [if_true] at h
   obtain ⟨h1, h2, _⟩ := zKn (by simpa using hc)
   refine ⟨h1, h2, ?_⟩
   cases hr : inRange a.c with
   | true => rfl
   | false => rw [hr] at h; cases h
theorem yvl {V : List Str} {x y : Str} (hV : Inc V) (hx : x ∈ V) (hy : y ∈ V) (h : x < y) : ixL V x < ixL V y := by
 obtain ⟨p, q, e1⟩ := List.append_of_mem hx
 have h1 := zX2 e1 hV
 obtain ⟨i1, i2⟩ := zql (e1 ▸ hV)
 have hyq : y ∈ q := by
  rw [e1] at hy
  rcases List.mem_append.1 hy with hy | hy
  ·exact absurd (ltT h (i1 y hy)) (ltI x)
  ·rcases List.mem_cons.1 hy with hy | hy
   ·subst hy; exact absurd h (ltI y)
   ·exact hy
 obtain ⟨q1, q2, e2⟩ := List.append_of_mem hyq
 have h2 := zX2 (l := V) (p := p ++ x :: q1) (q := q2) (x := y) (by rw [e1, e2]; simp) hV
 rw [h1, h2]; simp
theorem ykK {V : List Str} {k : Nat} (hV : Inc V) (h : k < V.length) : ixL V (V.getD k []) = k := by
 obtain ⟨p, z, q, e1, e2⟩ := zyi h
 have : V.getD k [] = z := by rw [e1, ← e2]; simp
 rw [this, zX2 e1 hV, e2]
theorem zWJ {V : List Str} {x : Str} (hV : Inc V) (hx : x ∈ V) : ixL V x < V.length ∧ V.getD (ixL V x) [] = x := by
 obtain ⟨p, q, e1⟩ := List.append_of_mem hx
 rw [zX2 e1 hV]
 constructor
 ·rw [e1]; simp
 ·rw [e1]; simp
theorem yzY {cs : List Coef} (h : cs.Pairwise fun x y => x.name < y.name) {c : Coef} (hc : c ∈ cs) : coefN cs c.name = c.n := by
 induction cs with
 | nil => cases hc
 | cons x cs ih =>
  obtain ⟨h1, h2⟩ := List.pairwise_cons.1 h
  unfold coefN
  rw [List.find?_cons]
  rcases List.mem_cons.1 hc with rfl | hc
  ·simp
  ·have hne : (x.name == c.name) = false := by
     rw [beq_eq_false_iff_ne]; intro e
     have := h1 c hc
     rw [e] at this; exact ltI _ this
   rw [hne]
   exact ih h2 hc
theorem zQK {cs : List Coef} {s : Str} (h : coefN cs s ≠ 0) : ∃ c ∈ cs, c.name = s ∧ c.n = coefN cs s := by
 unfold coefN at *
 split at h
 ·rename_i c hc
  have := List.find?_some hc
  exact ⟨c, List.mem_of_find?_eq_some hc, by simpa using this, rfl⟩
 ·exact absurd rfl h
theorem yk1 {V : List Str} {m : Int} {r : Row} (hV : Inc V) (hl : linE r.lin = 0) (hn : ∀ c ∈ r.lin.coefs, c.name ∈ V) : (opP V m r).filter nz = (opQ V m r).filter nz := by
 obtain ⟨h1, h2, _⟩ := zve hl
 unfold opP opQ
 rw [List.filter_append, List.filter_append]
 congr 1
 refine yyT ?_ ?_ ?_
 ·refine List.Pairwise.filter _ (List.pairwise_map.2 (h1.imp_of_mem fun {a b} ha hb hab => ?_))
  exact yvl hV (hn a ha) (hn b hb) hab
 ·refine List.Pairwise.filter _ (List.pairwise_map.2 ?_)
  exact List.pairwise_lt_range
 ·intro x
  simp only [List.mem_filter, List.mem_map, List.mem_range]
  constructor
  ·rintro ⟨⟨c, hc, rfl⟩, hz⟩
   obtain ⟨g1, g2⟩ := zWJ hV (hn c hc)
   exact ⟨⟨ixL V c.name, g1, by rw [g2, yzY h1 hc]⟩, hz⟩
  ·rintro ⟨⟨k, hk, rfl⟩, hz⟩
   have hne : coefN r.lin.coefs (V.getD k []) ≠ 0 := by unfold nz at hz; simpa using hz
   obtain ⟨c, hc, e1, e2⟩ := zQK hne
   exact ⟨⟨c, hc, by rw [e1, ykK hV hk, e2]⟩, hz⟩
theorem zJV {α β : Type} {f g : α → List β} : ∀ {l : List α}, (∀ x ∈ l, f x = g x) → l.flatMap f = l.flatMap g
 | [], _ => rfl
 | x :: l, h => by rw [List.flatMap_cons, List.flatMap_cons, h x (by simp), zJV fun y hy => h y (by simp [hy])]
theorem ywz {V : List Str} {l : List (Int × Row)} {s : List Int} (hV : Inc V) (hl : ∀ p ∈ l, linE p.2.lin = 0) (hn : ∀ p ∈ l, ∀ c ∈ p.2.lin.coefs, c.name ∈ V) (hs : AllOk s) : accF s (opsP V l) = accF s (opsQ V l) := by
 rw [zk3 hs, zk3 (l := opsQ V l) hs]
 congr 1
 unfold opsP opsQ
 rw [List.filter_flatMap, List.filter_flatMap]
 refine zJV ?_
 intro p hp
 exact yk1 hV (hl p hp) (hn p hp)
def dot : List Int → List Int → Int
 | x :: s, y :: t => x * y + dot s t
 | _, _ => 0
theorem yz5 : ∀ {s t : List Int} {i : Nat} {v : Int}, i < s.length → s.length = t.length → dot (s.set i v) t = dot s t + (v - s.getD i 0) * t.getD i 0
 | [], _, i, _, h, _ => by simp at h
 | _ :: _, [], _, _, _, h => by simp at h
 | x :: s, y :: t, 0, v, _, _ => by
  simp only [List.set_cons_zero, dot, List.getD_cons_zero, Int.sub_mul]; omega
 | x :: s, y :: t, i + 1, v, h, h2 => by
  simp only [List.set_cons_succ, dot, List.getD_cons_succ]
  rw [yz5 (by simpa using h) (by simpa using h2)]; omega
theorem zJQ : ∀ {s t : List Int}, (∀ x ∈ s, x = 0) → dot s t = 0
 | [], t, _ => by cases t <;> rfl
 | _ :: _, [], _ => rfl
 | x :: s, y :: t, h => by
  rw [dot, h x (by simp), Int.zero_mul, zJQ fun z hz => h z (by simp [hz])]; rfl
theorem zJP : ∀ {s t : List Int} {c y : Int}, s.length = t.length → (∀ x ∈ s, x = 0) → dot (s ++ [c]) (t ++ [y]) = c * y
 | [], [], c, y, _, _ => by simp [dot]
 | _ :: _, [], _, _, h, _ => by simp at h
 | [], _ :: _, _, _, h, _ => by simp at h
 | x :: s, z :: t, c, y, h, h0 => by
  rw [List.cons_append, List.cons_append, dot, h0 x (by simp), Int.zero_mul, zJP (by simpa using h) fun z hz => h0 z (by simp [hz])]; omega
def opsVal (t : List Int) : List Op3 → Int
 | [] => 0
 | o :: l => o.2.1 * o.2.2 * t.getD o.1 0 + opsVal t l
theorem zJG {t : List Int} : ∀ {l : List Op3} {s s' : List Int}, accF s l = some s' → s.length = t.length → (∀ o ∈ l, o.1 < s.length) → dot s' t = dot s t + opsVal t l
 | [], s, s', h, _, _ => by cases h; simp [opsVal]
 | o :: l, s, s', h, hl, ho => by
  rw [accF] at h
  split at h
  ·rename_i s1 h1
   unfold stepA at h1
   split at h1
   ·cases h1
    rw [zJG h (by simpa using hl) (fun o' ho' => by simpa using ho o' (by simp [ho'])), yz5 (ho o (by simp)) hl, opsVal]
    have : s.getD o.1 0 + o.2.1 * o.2.2 - s.getD o.1 0 = o.2.1 * o.2.2 := by omega
    rw [this]; omega
   ·cases h1
  ·cases h
theorem zqw (t : List Int) (a b : List Op3) : opsVal t (a ++ b) = opsVal t a + opsVal t b := by
 induction a with
 | nil => simp [opsVal]
 | cons o a ih => rw [List.cons_append, opsVal, opsVal, ih]; omega
def linV (f : Str → Int) (a : Lin) : Int := (a.coefs.map fun c => c.n * f c.name).foldr (· + ·) 0 + a.c
theorem yk0 {V : List Str} {f : Str → Int} {m : Int} {r : Row} (hV : Inc V) (hn : ∀ c ∈ r.lin.coefs, c.name ∈ V) : opsVal (V.map f ++ [1]) (opP V m r) = m * linV f r.lin := by
 unfold opP linV
 rw [zqw]
 have e1 : ∀ cs : List Coef, (∀ c ∈ cs, c.name ∈ V) → opsVal (V.map f ++ [1]) (cs.map fun c => (ixL V c.name, m, c.n)) = m * (cs.map fun c => c.n * f c.name).foldr (· + ·) 0 := by
  intro cs
  induction cs with
  | nil => intro _; simp [opsVal]
  | cons c cs ih =>
   intro hc
   obtain ⟨g1, g2⟩ := zWJ hV (hc c (by simp))
   have e : (V.map f ++ [1]).getD (ixL V c.name) 0 = f c.name := by
    rw [List.getD_eq_getElem?_getD, List.getElem?_append_left (by simpa using g1), List.getElem?_map, List.getElem?_eq_getElem g1]
    rw [List.getD_eq_getElem?_getD, List.getElem?_eq_getElem g1] at g2
    simp at g2 ⊢; rw [g2]
   rw [mC, opsVal, ih fun d hd => hc d (by simp [hd]), mC, List.foldr_cons, e, Int.mul_add, Int.mul_assoc]
 rw [e1 _ hn, opsVal, opsVal]
 have e2 : (V.map f ++ [1]).getD V.length 0 = 1 := by
  have : V.length = (V.map f).length := by simp
  rw [this]; simp
 simp only [e2]
 rw [Int.mul_add]; omega
theorem yvm {V : List Str} {l : List (Int × Row)} (hV : Inc V) (hn : ∀ p ∈ l, ∀ c ∈ p.2.lin.coefs, c.name ∈ V) : ∀ o ∈ opsP V l, o.1 < V.length + 1 := by
 intro o ho
 unfold opsP at ho
 obtain ⟨p, hp, ho⟩ := List.mem_flatMap.1 ho
 unfold opP at ho
 rcases List.mem_append.1 ho with ho | ho
 ·obtain ⟨c, hc, rfl⟩ := List.mem_map.1 ho
  have := (zWJ hV (hn p hp c hc)).1
  simp only; omega
 ·rw [List.mem_singleton.1 ho]; simp
theorem zQP {V : List Str} {l : List (Int × Row)} {s : List Int} {c : Int} {f : Str → Int} (hV : Inc V) (hn : ∀ p ∈ l, ∀ c ∈ p.2.lin.coefs, c.name ∈ V) (hm : ∀ p ∈ l, p.2.eq = false → 0 ≤ p.1)
  (hacc : accF (List.replicate (V.length + 1) 0) (opsP V l) = some (s ++ [c])) (hs : ∀ x ∈ s, x = 0) (hc : 0 < c) : ∃ p ∈ l, ¬ (if p.2.eq then linV f p.2.lin = 0 else linV f p.2.lin ≤ 0) := by
 apply Classical.byContradiction
 intro hno
 have hall : ∀ p ∈ l, (if p.2.eq then linV f p.2.lin = 0 else linV f p.2.lin ≤ 0) := fun p hp => Classical.byContradiction fun h => hno ⟨p, hp, h⟩
 have hlen := (zvs hacc (fun x hx => by rw [(List.mem_replicate.1 hx).2]; exact zyE)).2
 have h1 := zJG (t := V.map f ++ [1]) hacc (by simp) (fun o ho => by simpa using yvm hV hn o ho)
 rw [zJP (by simp at hlen ⊢; omega) hs, zJQ (fun x hx => (List.mem_replicate.1 hx).2)] at h1
 have h2 : ∀ l : List (Int × Row), (∀ p ∈ l, ∀ c ∈ p.2.lin.coefs, c.name ∈ V) → (∀ p ∈ l, p.2.eq = false → 0 ≤ p.1) → (∀ p ∈ l, (if p.2.eq then linV f p.2.lin = 0 else linV f p.2.lin ≤ 0)) → opsVal (V.map f ++ [1]) (opsP V l) ≤ 0 := by
  intro l
  induction l with
  | nil => intro _ _ _; simp [opsP, opsVal]
  | cons p l ih =>
   intro g1 g2 g3
   have i1 := ih (fun q hq => g1 q (by simp [hq])) (fun q hq => g2 q (by simp [hq])) (fun q hq => g3 q (by simp [hq]))
   unfold opsP at i1 ⊢
   rw [List.flatMap_cons, zqw, yk0 hV (g1 p (by simp))]
   have g3p := g3 p (by simp)
   have : p.1 * linV f p.2.lin ≤ 0 := by
    cases he : p.2.eq with
    | true => rw [he] at g3p; simp only [if_true] at g3p; rw [g3p]; simp
    | false =>
     rw [he] at g3p
     simp only [Bool.false_eq_true, if_false] at g3p
     exact Int.mul_nonpos_of_nonneg_of_nonpos (g2 p (by simp) he) g3p
   omega
 have := h2 l hn hm hall
 omega
end Go.Abs
end
section
namespace Go.Abs
theorem zZ3 (m : Nat) : ∀ n : Nat, (10000 : Int) ^ (m + n) = 10000 ^ m * 10000 ^ n
 | 0 => by simp
 | n + 1 => by rw [← Nat.add_assoc, Int.pow_succ, Int.pow_succ, zZ3 m n, Int.mul_assoc]
theorem ywp {p q : List Int} {d c t V : Int} (h : val (p ++ d :: q) + 10000 ^ p.length * c = V) : val ((p ++ [(c + (d + t)) % 10000]) ++ q) + 10000 ^ (p.length + 1) * ((c + (d + t)) / 10000) = V + 10000 ^ p.length * t := by
 rw [← h, List.append_assoc, zzu p, zzu p, Int.pow_succ, Int.mul_assoc]
 simp only [List.singleton_append, val]
 have e : ((c + (d + t)) % 10000 + 10000 * val q) + 10000 * ((c + (d + t)) / 10000) = (d + 10000 * val q) + c + t := by omega
 have e2 := congrArg (fun z => (10000 : Int) ^ p.length * z) e
 simp only [Int.mul_add] at e2 ⊢
 omega
theorem ywo (i : Nat) (x e : Int) (d : List Int) : (10000 : Int) ^ i * (x * val (d ++ [e])) = 10000 ^ i * (x * val d) + 10000 ^ (i + d.length) * (x * e) := by
 rw [zzu, zZ3, Int.mul_add, Int.mul_add]
 simp only [val, Int.mul_zero, Int.add_zero]
 rw [Int.mul_left_comm x, ← Int.mul_assoc (10000 ^ i) (10000 ^ d.length)]
theorem zXg : ∀ k : Nat, val (List.replicate k 0) = 0
 | 0 => rfl
 | k + 1 => by rw [List.replicate_succ, val, zXg k]; rfl
theorem zYi {c d x e : Int} (hc : 0 ≤ c ∧ c ≤ 9999) (hd : Digit d) (hx : Digit x) (he : Digit e) : 0 ≤ x * e ∧ x * e ≤ 99980001 ∧ 0 ≤ (c + (d + x * e)) / 10000 ∧ (c + (d + x * e)) / 10000 ≤ 9999 := by
 unfold Digit at hd hx he
 have h1 : 0 ≤ x * e := Int.mul_nonneg hx.1 he.1
 have h2 : x * e ≤ 9999 * 9999 := Int.mul_le_mul (by omega) (by omega) he.1 (by omega)
 generalize x * e = t at *
 omega
theorem yyj {x y : Int} : x * y ≠ 0 → (decide (x < 0) != decide (y < 0)) = decide (x * y < 0) := by
 intro h
 have hx : x ≠ 0 := fun h0 => h (by rw [h0, Int.zero_mul])
 have hy : y ≠ 0 := fun h0 => h (by rw [h0, Int.mul_zero])
 rcases Int.lt_or_lt_of_ne hx with h1 | h1 <;> rcases Int.lt_or_lt_of_ne hy with h2 | h2
 ·have := Int.mul_pos_of_neg_of_neg h1 h2
  rw [decide_eq_true h1, decide_eq_true h2, decide_eq_false (by omega)]; rfl
 ·have := Int.mul_neg_of_neg_of_pos h1 h2
  rw [decide_eq_true h1, decide_eq_false (by omega : ¬y < 0), decide_eq_true this]; rfl
 ·have := Int.mul_neg_of_pos_of_neg h1 h2
  rw [decide_eq_false (by omega : ¬x < 0), decide_eq_true h2, decide_eq_true this]; rfl
 ·have := Int.mul_pos h1 h2
  rw [decide_eq_false (by omega : ¬x < 0), decide_eq_false (by omega : ¬y < 0), decide_eq_false (by omega)]; rfl
structure MulS where
 d : List Int
 r : List Int
 p : List Int
 q : List Int
 c : Int
end Go.Abs
end
section
namespace Go.Abs
theorem ykl (n : Nat) : List.replicate n (AV.d (D.int IntKind.i64 0)) = acs (List.replicate n 0) := by simp [acs]
theorem ykA (n : Nat) : ∀ d ∈ List.replicate n (0 : Int), Digit d := by
 intro d hd
 rw [(List.mem_replicate.1 hd).2]; unfold Digit; omega
theorem yva {m : Mem} {p : List Int} {n s cap : Nat} (hm : getM m s = some (acs p)) (hn : p.length = n) : AV.toD m 3 (.vec s 1 0 n cap) = some (.lst (p.map icell)) := by
 subst hn
 have h1 : ((acs p).drop 0).take (p.length * 1) = acs p := by rw [List.drop_zero, Nat.mul_one, ← zxE p, List.take_length]
 have h2 : 0 + p.length * 1 ≤ (acs p).length := by rw [zxE]; omega
 simp only [AV.toD, hm, if_pos h2, h1, zqs, zvu]
variable {E : AEnv} (Z : Sys E)
include Z
theorem zQA {x y : Int} (hx : fitsZ x) (hy : fitsZ y) : E.C zqI [.agg (bigZ x).cells, .agg (bigZ y).cells] (resB (fitB (x * y))) := by
 have h1 := zv5 Z hx
 have h2 := zv5 Z hy
 have hsg := zWX (n := decide (x < 0) != decide (y < 0)) (z := x * y) yyj
 have hvx := zzx x.natAbs
 have hvy := zzx y.natAbs
 have hda := zzG x.natAbs
 have hdb := zzG y.natAbs
 unfold fitsZ at hx hy
 refine Z.zqI _ _ ⟨bl rfl, ?_⟩
 have hxy : (x.natAbs : Int) * y.natAbs = ((x * y).natAbs : Nat) := by rw [Int.natAbs_mul]; rfl
 simp only [bigZ, resB, BigT.cells] at *
 generalize digs x.natAbs = a at *
 generalize digs y.natAbs = b at *
 rw [← hvx, ← hvy] at hxy
 have hs := zjW Z (decide (x < 0) != decide (y < 0)) (digs (x * y).natAbs)
 rw [hsg] at hs
 generalize fitB (x * y) = F at *
 obtain ⟨⟨f1, f2⟩, f3⟩ := F
 generalize (x * y).natAbs = M at *
 generalize decide (x < 0) = sx at *
 generalize decide (y < 0) = sy at *
 simp only [resB, BigT.cells] at hs
 simp only [zXF, go_sem]
 refine ⟨_, h1, ?_⟩
 simp only [go_sem]
 refine ⟨_, h2, ?_⟩
 simp only [go_sem]
 intro _ _
 have hw : IntKind.i64.wrap ((a.length : Int) + b.length) = ((a.length + b.length : Nat) : Int) := (i64_in _ (by omega)).trans (by omega)
 rw [hw, Int.toNat_natCast, zkF, ykl]
 refine ⟨⟨by omega, by omega, by omega⟩, ?_⟩
 intro _
 have hn : a.length + b.length = b.length + a.length := Nat.add_comm _ _
 refine zze fun K0 hK0 => ?_
 refine zzo (fun s : List Int × List Int × List Int => ⟨[(26, .d (.int .i64 s.1.length)), (25, .d (.int .i64 a.length)), (24, .d (.lst (a.map icell))), (8, .vec 23 1 0 (a.length + b.length) (a.length + b.length)), (7, .d (.lst (b.map icell))), (4, .ptr 4 0), (3, .ptr 3 0), (2, .ptr 2 0)],
  [(23, acs (s.2.2 ++ List.replicate s.2.1.length 0)), (4, [.d (.bool false), .full []]), (3, [.d (.bool sy), .d (.lst (b.map icell))]), (2, [.d (.bool sx), .d (.lst (a.map icell))])], []⟩)
  (fun s => s.1 ++ s.2.1 = a ∧ (∀ d ∈ s.2.2, Digit d) ∧ s.2.2.length = s.1.length + b.length ∧ val s.2.2 = val s.1 * val b) (fun s => s.2.1.length) ([], a, List.replicate b.length 0) ?_ ⟨rfl, ykA _, by simp, by rw [zXg]; simp [val]⟩ ?_
 ·exact zzc (by simp only [go_sem, oS, lN, nZ, List.replicate_append_replicate, hn, zzg])
 ·rintro ⟨d, r, u⟩ ⟨g1, g2, g3, g4⟩
  simp only at g1 g2 g3 g4
  cases r with
  | nil =>
   rw [List.append_nil] at g1
   subst g1
   have ht := zwh g2
   rw [g4, hxy, Int.toNat_natCast] at ht
   have htr := zk6 Z u
   rw [ht] at htr
   have hul : u.length = d.length + b.length := g3
   simp only [zva, go_sem, Int.lt_irrefl, decide_false, hK0, lN, List.replicate_zero, List.append_nil]
   refine yvk [23] rfl ?_
   have hf := yva (m := [(23, acs u)]) (s := 23) (cap := d.length + b.length) rfl g3
   simp only [St.frzBox, frzIn, AV.namesIn, memIn, memOut, List.contains_cons, cN, Nat.reduceBEq, Bool.or_false, Bool.false_eq_true, if_true, if_false, hf]
   simp only [go_sem]
   refine ⟨_, htr, ?_⟩
   simp only [go_sem]
   refine ⟨_, hs, ?_⟩
   simp only [go_sem]
  | cons v r =>
   have hal : d.length + (r.length + 1) = a.length := by rw [← g1]; simp
   have hlt : ((d.length : Int) < (a.length : Int)) = True := eq_true (by omega)
   have hdd : decide ((d.length : Int) < (a.length : Int)) = true := decide_eq_true (by omega)
   have hw1 : IntKind.i64.wrap ((d.length : Int) + 1) = ((d.length + 1 : Nat) : Int) := zzd (by omega)
   have hv : Digit v := hda v (by rw [← g1]; simp)
   simp only [zva, go_sem, hdd, hlt, getD_at g1.symm, icell]
   intro _
   refine zze fun K hK => ?_
   refine zzo (fun s : MulS => ⟨[(33, .d (.int .i64 s.d.length)), (32, .d (.int .i64 b.length)), (31, .d (.lst (b.map icell))), (9, .d (.int .i64 d.length)), (10, .d (.int .i64 v)), (11, .d (.int .i64 s.c)), (26, .d (.int .i64 d.length)), (25, .d (.int .i64 a.length)), (24, .d (.lst (a.map icell))), (8, .vec 23 1 0 (a.length + b.length) (a.length + b.length)), (7, .d (.lst (b.map icell))), (4, .ptr 4 0), (3, .ptr 3 0), (2, .ptr 2 0)],
    [(23, acs (s.p ++ (s.q ++ List.replicate (r.length + 1) 0))), (4, [.d (.bool false), .full []]), (3, [.d (.bool sy), .d (.lst (b.map icell))]), (2, [.d (.bool sx), .d (.lst (a.map icell))])], []⟩)
    (fun s => s.d ++ s.r = b ∧ (∀ z ∈ s.p, Digit z) ∧ (∀ z ∈ s.q, Digit z) ∧ s.p.length = d.length + s.d.length ∧ s.q.length = s.r.length ∧ (0 ≤ s.c ∧ s.c ≤ 9999) ∧ val (s.p ++ s.q) + 10000 ^ s.p.length * s.c = val u + 10000 ^ d.length * (v * val s.d))
    (fun s => s.r.length) ⟨[], b, u.take d.length, u.drop d.length, 0⟩ ?_ ⟨rfl, fun z hz => g2 z (List.mem_of_mem_take hz), fun z hz => g2 z (List.mem_of_mem_drop hz), by simp; omega, by simp; omega, ⟨by simp, by simp⟩, by simp [val, List.take_append_drop]⟩ ?_
   ·have hu : List.take d.length u ++ (List.drop d.length u ++ List.replicate (r.length + 1) 0) = u ++ List.replicate (r.length + 1) 0 := by rw [← List.append_assoc, List.take_append_drop]
    exact zzc (by simp only [go_sem, oS, lN, nZ, hu, lC, zzg])
   ·rintro ⟨e, f, p, q, c⟩ ⟨k1, k2, k3, k4, k5, k6, k7⟩
    simp only at k1 k2 k3 k4 k5 k6 k7
    cases f with
    | nil =>
     have hq : q = [] := List.eq_nil_of_length_eq_zero (by simpa using k5)
     subst hq
     rw [List.append_nil] at k1
     subst k1
     have hlt2 : (((d.length + e.length : Nat) : Int) < ((a.length + e.length : Nat) : Int)) = True := eq_true (by omega)
     have hw2 : IntKind.i64.wrap ((d.length : Int) + (e.length : Int)) = ((d.length + e.length : Nat) : Int) := (i64_in _ (by omega)).trans (by omega)
     have hw3 : IntKind.i64.wrap (0 + c) = c := (i64_in _ (by omega)).trans (by omega)
     have he : p ++ List.replicate (r.length + 1) 0 = p ++ 0 :: List.replicate r.length 0 := by rw [List.replicate_succ]
     have hg := zz8 he k4
     have hst := zxp (y := c) he k4
     have hro := zzX he k4
     simp only [zk9, go_sem, Int.lt_irrefl, decide_false, hK]
     try intro _
     simp only [go_sem, hw2, hlt2, Int.toNat_natCast, Nat.mul_one, zA, hg, hro, hw3, hst, hw1]
     refine ⟨(d ++ [v], r, p ++ [c]), zzc ?_, ⟨?_, ?_, ?_, ?_⟩, ?_⟩
     ·simp only [go_sem, oS, lA, lC, lN, zA, List.append_assoc, List.singleton_append, zzg]
     ·rw [← g1, List.append_assoc]; rfl
     ·intro z hz
      rcases List.mem_append.1 hz with h | h
      ·exact k2 z h
      ·rw [List.mem_singleton.1 h]; unfold Digit; omega
     ·simp; omega
     ·rw [List.append_nil] at k7
      have e1 : val (p ++ [c]) = val p + 10000 ^ p.length * c := by rw [zzu]; simp [val]
      have e2 : val (d ++ [v]) = val d + 10000 ^ d.length * v := by rw [zzu]; simp [val]
      rw [e1, k7, g4, e2, Int.add_mul, Int.mul_assoc]
     ·simp
    | cons w f =>
     cases q with
     | nil => simp at k5
     | cons z q =>
     have hel : e.length + (f.length + 1) = b.length := by rw [← k1]; simp
     have hz := k3 z (by simp)
     have hwd : Digit w := hdb w (by rw [← k1]; simp)
     obtain ⟨m1, m2, m3, m4⟩ := zYi k6 hz hv hwd
     have hlt2 : ((e.length : Int) < (b.length : Int)) = True := eq_true (by omega)
     have hdd2 : decide ((e.length : Int) < (b.length : Int)) = true := decide_eq_true (by omega)
     have hlt3 : (((d.length + e.length : Nat) : Int) < ((a.length + b.length : Nat) : Int)) = True := eq_true (by omega)
     have hw2 : IntKind.i64.wrap ((d.length : Int) + (e.length : Int)) = ((d.length + e.length : Nat) : Int) := (i64_in _ (by omega)).trans (by omega)
     have hw5 : IntKind.i64.wrap ((e.length : Int) + 1) = ((e.length + 1 : Nat) : Int) := zzd (by omega)
     have hz' := hz
     unfold Digit at hz'
     have hstep := ywp (t := v * w) k7
     have hsn := ywo d.length v w e
     rw [← k4] at hsn
     have hwm : IntKind.i64.wrap (v * w) = v * w := i64_in _ (by omega)
     generalize ht : v * w = t at *
     have hwa : IntKind.i64.wrap (z + t) = z + t := i64_in _ (by omega)
     have hwb : IntKind.i64.wrap (c + (z + t)) = c + (z + t) := i64_in _ (by omega)
     have htm : (c + (z + t)).tmod 10000 = (c + (z + t)) % 10000 := Int.tmod_eq_emod_of_nonneg (by omega)
     have htd : (c + (z + t)).tdiv 10000 = (c + (z + t)) / 10000 := Int.tdiv_eq_ediv_of_nonneg (by omega)
     have hwq : IntKind.i64.wrap ((c + (z + t)) / 10000) = (c + (z + t)) / 10000 := i64_in _ (by omega)
     have he : p ++ z :: (q ++ List.replicate (r.length + 1) 0) = p ++ z :: (q ++ List.replicate (r.length + 1) 0) := rfl
     have hg := zz8 he k4
     have hst := zxp (y := (c + (z + t)) % 10000) he k4
     have hro := zzX he k4
     simp only [zk9, go_sem, ht, hdd2, hlt2, getD_at k1.symm, icell, hw2, hlt3, Int.toNat_natCast, Nat.mul_one, zA, hg, hro, hwm, hwa, hwb, htm, htd, hwq, hst, hw5]
     try simp only [ne_eq, true_and, and_true, Int.reduceEq, not_false_eq_true]
     have hp' : (p ++ [(c + (z + t)) % 10000]).length = p.length + 1 := by simp
     refine ⟨⟨e ++ [w], f, p ++ [(c + (z + t)) % 10000], q, (c + (z + t)) / 10000⟩, zzc ?_, ⟨?_, ?_, ?_, ?_, ?_, ⟨m3, m4⟩, ?_⟩, ?_⟩
     ·simp only [go_sem, oS, lA, lC, lN, zA, List.append_assoc, List.singleton_append, zzg]
     ·rw [← k1, List.append_assoc]; rfl
     ·intro g hg
      rcases List.mem_append.1 hg with h | h
      ·exact k2 g h
      ·rw [List.mem_singleton.1 h]; unfold Digit; omega
     ·exact fun g hg => k3 g (by simp [hg])
     ·simp; omega
     ·simpa using k5
     ·rw [hp', hstep, hsn, Int.add_assoc]
     ·simp
end Go.Abs
end
section
namespace Go.Abs
theorem yxN {α : Type} {f : α → Bool} {a r : List α} {x : α} (ha : ∀ y ∈ a, f y = false) : (a ++ x :: r).findIdx? f = if f x = true then some a.length else (r.findIdx? f).map (· + (a.length + 1)) := by
 induction a with
 | nil => rw [List.nil_append, List.findIdx?_cons]; cases f x <;> simp
 | cons y a ih =>
  rw [List.cons_append, List.findIdx?_cons, ha y (by simp), ih fun z hz => ha z (by simp [hz])]
  cases f x
  ·simp only [Bool.false_eq_true, if_false, Option.map_map, lC]
   congr 1
  ·simp
def ixB {α : Type} (f : α → Bool) (l : List α) : Int := match l.findIdx? f with
 | some i => i
 | none => -1
theorem ykI {α : Type} (f : α → Bool) (l : List α) : decide (ixB f l ≥ 0) = l.any f := by
 unfold ixB
 cases h : l.findIdx? f with
 | none =>
  have := List.findIdx?_eq_none_iff.1 h
  have : l.any f = false := by rw [List.any_eq_false]; intro y hy; rw [this y hy]; simp
  rw [this]; rfl
 | some i =>
  obtain ⟨hi, h1, _⟩ := List.findIdx?_eq_some_iff_getElem.1 h
  have : l.any f = true := by rw [List.any_eq_true]; exact ⟨l[i], List.getElem_mem hi, h1⟩
  rw [this]; simp
theorem ykJ {α : Type} {f : α → Bool} {l a r : List α} {x : α} (hl : l = a ++ x :: r) (ha : ∀ y ∈ a, f y = false) (hx : f x = true) : ixB f l = a.length := by
 unfold ixB; rw [hl, yxN ha, if_pos hx]
theorem ywg {α : Type} {f : α → Bool} {l : List α} (h : ∀ y ∈ l, f y = false) : ixB f l = -1 := by
 unfold ixB; rw [List.findIdx?_eq_none_iff.2 h]
theorem ykn {α : Type} (p : α → Bool) (l : List α) : (!l.any fun x => !p x) = l.all p := by
 induction l with
 | nil => rfl
 | cons x l ih => rw [List.any_cons, List.all_cons, Bool.not_or, Bool.not_not, ih]
variable {E : AEnv} (Z : Sys E)
include Z
theorem ywh (fid : FuncId) (caps : List D) (f : BigT → Bool) (l : List BigT) (hf : ∀ x ∈ l, E.C fid (.agg x.cells :: caps.map .one) (.one (.bool (f x)))) : E.C zzp [.one (.lst (l.map BigT.cells)), .one (.clo fid caps)] (.one (.int .i64 (ixB f l))) := by
 refine Z.zzp _ _ ⟨bl rfl, ?_⟩
 generalize hR : ixB f l = R
 simp only [zz3, go_sem, lM]
 intro hlen
 refine zzh l (fun done => ∀ y ∈ done, f y = false) (fun done rest => ⟨[(8, .d (.int .i64 done.length)), (7, .d (.int .i64 l.length)), (0, .d (.lst (l.map BigT.cells))), (1, .d (.clo fid caps))], [], []⟩) ?_ (by simp) ?_ ?_
 ·exact zzc (by simp only [go_sem])
 ·intro done x r hl hI
  have hx := zzj (f := BigT.cells) hl rfl
  have hlt := zzw hl
  have hw : IntKind.i64.wrap ((done.length : Int) + 1) = ((done.length + 1 : Nat) : Int) := zzd (by omega)
  have hfx := hf x (by rw [hl]; simp)
  simp only [BigT.cells] at hfx
  simp only [zzB, go_sem, hx, hlt, BigT.cells]
  refine zzb hfx ?_
  cases e : f x with
  | true =>
   rw [ykJ hl hI e] at hR
   simp only [go_sem] at hR ⊢
   exact hR
  | false =>
   simp only [go_sem, hw, lA]
   exact ⟨zzc (by simp only [go_sem, lA]), zxF hI e⟩
 ·intro hI
  rw [ywg hI] at hR
  simp only [zzB, go_sem, lM, ← hR]
theorem yzF (fid : FuncId) (caps : List D) (f : BigT → Bool) (l : List BigT) (hf : ∀ x ∈ l, E.C fid (.agg x.cells :: caps.map .one) (.one (.bool (f x)))) : E.C zzl [.one (.lst (l.map BigT.cells)), .one (.clo fid caps)] (.one (.bool (l.any f))) := by
 have h := ywh Z fid caps f l hf
 refine Z.zzl _ _ ⟨bl rfl, ?_⟩
 rw [← ykI]
 simp only [zzV, go_sem]
 refine zzb h ?_
 simp only [go_sem, ge_iff_le]
theorem zYs (fid : FuncId) (p : Bool) (x : BigT) (hf : E.C fid [.agg x.cells] (.one (.bool p))) : E.C zyo [.agg x.cells, .one (.ref [.clo fid []])] (.one (.bool (!p))) := by
 refine Z.zyo _ _ ⟨bl rfl, ?_⟩
 simp only [BigT.cells] at *
 simp only [zvB, go_sem]
 refine zzb hf ?_
 simp only [go_sem]
theorem zj4 (fid : FuncId) (p : BigT → Bool) (l : List BigT) (hf : ∀ x ∈ l, E.C fid [.agg x.cells] (.one (.bool (p x)))) : E.C zxG [.one (.lst (l.map BigT.cells)), .one (.clo fid [])] (.one (.bool (l.all p))) := by
 have h := yzF Z zyo [.ref [.clo fid []]] (fun x => !p x) l fun x hx => zYs Z fid (p x) x (hf x hx)
 refine Z.zxG _ _ ⟨bl rfl, ?_⟩
 rw [← ykn]
 simp only [zqb, go_sem]
 refine zJN (cvs := [.one (.lst (l.map BigT.cells)), .one (.clo zyo [.ref [.clo fid []]])]) rfl rfl rfl h ?_
 simp only [go_sem]
theorem zXl {z : Int} (hz : fitsZ z) : E.C zxf [.agg (bigZ z).cells] (.one (.bool (z == 0))) := by
 have h := zXv Z hz (zyU.1 zyE)
 refine Z.zxf _ _ ⟨bl rfl, ?_⟩
 rw [zjV, Int.sub_zero] at h
 have hs : (sgnI z == 0) = (z == 0) := by
  unfold sgnI
  by_cases h1 : z < 0
  ·rw [if_pos h1, Bool.eq_iff_iff]; simp; omega
  ·rw [if_neg h1]
   by_cases h2 : z > 0
   ·rw [if_pos h2, Bool.eq_iff_iff]; simp; omega
   ·rw [if_neg h2, Bool.eq_iff_iff]; simp; omega
 simp only [BigT.cells, mN] at *
 simp only [zjn, go_sem]
 refine zzb h ?_
 simp only [go_sem, hs]
end Go.Abs
end
section
namespace Go.Abs
def zc (z : Int) : List AV := [.d (.bool (decide (z < 0))), .d (.lst ((digs z.natAbs).map icell))]
def zcs (l : List Int) : List AV := l.flatMap zc
theorem zjN : ∀ l : List Int, (zcs l).length = l.length * 2
 | [] => rfl
 | x :: l => by
  have := zjN l
  unfold zcs at *
  rw [List.flatMap_cons, lA, this, lC]; simp [zc]; omega
theorem zW7 (a b : List Int) : zcs (a ++ b) = zcs a ++ zcs b := by simp [zcs]
theorem zwt (x : Int) (l : List Int) : zcs (x :: l) = zc x ++ zcs l := by simp [zcs]
theorem zW9 {l p q : List Int} {x : Int} {n : Nat} (h : l = p ++ x :: q) (hn : p.length = n) : List.take 2 (List.drop (n * 2) (zcs l)) = [.d (.bool (decide (x < 0))), .d (.lst ((digs x.natAbs).map icell))] := by
 subst h hn
 rw [zW7, zwt, ← zjN p, List.drop_left]
 rfl
theorem yxw {l p q : List Int} {x y : Int} {n : Nat} (h : l = p ++ x :: q) (hn : p.length = n) : List.take (n * 2) (zcs l) ++ [.d (.bool (decide (y < 0))), .d (.lst ((digs y.natAbs).map icell))] ++ List.drop (n * 2 + 2) (zcs l) = zcs (p ++ y :: q) := by
 subst h hn
 rw [zW7, zW7, zwt, zwt, ← zjN p, List.take_left, List.append_assoc]
 congr 1
 rw [List.drop_append]
 have h1 : List.drop ((zcs p).length + 2) (zcs p) = [] := List.drop_eq_nil_of_le (by omega)
 rw [h1, List.nil_append]
 have h2 : (zcs p).length + 2 - (zcs p).length = 2 := by omega
 rw [h2]
 rfl
theorem zW8 {l p q : List Int} {x : Int} {n : Nat} (h : l = p ++ x :: q) (hn : p.length = n) : n * 2 + 2 ≤ (zcs l).length := by
 subst h hn
 rw [zjN]; simp; omega
theorem zwG (m1 : Mem) (mp : TMap) (l : List Int) : EntCs m1 mp (zcs l) (zcs l) = True := by
 induction l with
 | nil => rfl
 | cons x l ih => rw [zwt]; simp [zc, EntCs, EntC, ih]
def addP (s : List Int) (i : Nat) (m n : Int) : List Int × Bool :=
 let p := if okI (m * n) then m * n else 0
 (s.set i (if okI (s.getD i 0 + p) then s.getD i 0 + p else 0), okI (m * n) && okI (s.getD i 0 + p))
theorem zYb {s : List Int} {i : Nat} {m n : Int} : stepA s (i, m, n) = if (addP s i m n).2 then some (addP s i m n).1 else none := by
 unfold stepA addP
 simp only
 cases h1 : okI (m * n) with
 | false => simp
 | true =>
  simp only [if_true, Bool.true_and]
  cases h2 : okI (s.getD i 0 + m * n) <;> simp
theorem yxB (s : List Int) (i : Nat) (m n : Int) : (addP s i m n).1.length = s.length := by simp [addP]
theorem zVW (z : Int) : fitB z = (bigZ (if okI z then z else 0), okI z) := by
 cases h : okI z with
 | true => rw [ykF h]; rfl
 | false => rw [ykE h]; simp only [Bool.false_eq_true, if_false, zjV]
theorem yyi (z : Int) : fitsZ (if okI z then z else 0) := by
 split
 ·rename_i h; exact zyU.1 h
 ·exact zyU.1 zyE
variable {E : AEnv} (Z : Sys E)
include Z
set_option maxHeartbeats 2000000 in
theorem zZa {i : Nat} {m n : Int} {s p q : List Int} {x : Int} {N : Nat} (hm : fitsZ m) (hn : inRange n = true) (hs : AllOk s) (he : s = p ++ x :: q) (hp : p.length = i) (hN : s.length = N) :
  E.C zzK [] (.bx [.d (.int .i64 i), .agg ((bigZ m).cells.map .d), .d (.int .i64 n), .ptr 1000 0, .ptr 1001 0] [(1000, [.vec 1002 2 0 N N]), (1001, [.d (.bool true)]), (1002, zcs s)] [] (.tup [])
   [(1000, [.vec 1002 2 0 N N]), (1001, [.d (.bool (addP s i m n).2)]), (1002, zcs (addP s i m n).1)] []) := by
 have hx : okI x = true := hs x (by rw [he]; simp)
 have hnr := hn
 rw [zzm] at hnr
 have hO := yzQ Z n (by omega) (by omega)
 have hM := zQA Z hm (zkE hn)
 have hgx : s.getD i 0 = x := by rw [he, ← hp]; simp
 have hset : ∀ y, s.set i y = p ++ y :: q := fun y => by rw [he, ← hp]; simp
 have hA := fun y (hy : fitsZ y) => zQz Z (zyU.1 hx) hy
 have hiN : i < N := by rw [← hN, he, ← hp]; simp
 have hlt : ((i : Int) < (N : Int)) = True := eq_true (by omega)
 have hg := zW9 he hp
 have hro := zW8 he hp
 have hst := fun y => yxw (y := y) he hp
 refine Z.zzK _ _ ⟨bl rfl, bl rfl, rfl, ?_⟩
 unfold addP
 simp only [hgx, hset]
 rw [zVW] at hM
 have hA := hA _ (yyi (m * n))
 rw [zVW] at hA
 generalize hmn : okI (m * n) = b1 at *
 generalize (if b1 = true then m * n else 0) = w at *
 generalize hxw : okI (x + w) = b2 at *
 generalize (if b2 = true then x + w else 0) = v at *
 simp only [resB, BigT.cells, bigZ, mC, mN] at *
 simp only [zwK, go_sem, initA, mC, mN]
 refine ⟨_, hO, ?_⟩
 simp only [go_sem]
 refine ⟨_, hM, ?_⟩
 simp only [go_sem, hlt, Int.toNat_natCast, zA, hg, hro]
 refine ⟨_, hA, ?_⟩
 simp only [go_sem, hlt, Int.toNat_natCast, zA, hg, hro, hst]
 cases b1 <;> cases b2 <;> simp only [go_sem] <;> exact zzc (by simp only [go_sem, oS, zwG])
end Go.Abs
end
section
namespace Go.Abs
def bz (z : Int) : List D := [.bool (decide (z < 0)), .lst ((digs z.natAbs).map icell)]
theorem yxO (z : Int) : (bigZ z).cells = bz z := rfl
theorem ykz (l : List Int) : (∀ e ∈ l.map bz, e.length = 2) = True := zyT (f := bz) (fun _ => rfl) l
attribute [go_sem] ykz
def zds (l : List Int) : List D := l.flatMap bz
theorem zWL (m : Mem) (k : Nat) : ∀ p : List Int, (zcs p).mapM (AV.toD m (k + 1)) = some (zds p)
 | [] => rfl
 | x :: p => by
  have := zWL m k p
  rw [zwt, zc, List.cons_append, List.cons_append, List.nil_append, List.mapM_cons, List.mapM_cons, this]; rfl
theorem zYm : ∀ p : List Int, chunk 2 p.length (zds p) = p.map bz
 | [] => rfl
 | x :: p => by
  have := zYm p
  simp only [zds, lC, mC, List.flatMap_cons, bz, chunk, List.cons_append, List.nil_append, List.take_succ_cons, List.take_zero, List.drop_succ_cons, List.drop_zero] at *
  rw [this]
theorem zVB (σ τ : TMap) (l : List Int) : Matches σ τ (zcs l) (zcs l) = True := by
 induction l with
 | nil => rfl
 | cons x l ih => rw [zwt, zc]; simp only [List.cons_append, List.nil_append, Matches, Match1, Match0, AV.toD, true_and, ih]
theorem yy3 (σ τ : TMap) (l : List Int) : (zcs l).map (AV.ren1 σ τ) = zcs l := by
 induction l with
 | nil => rfl
 | cons x l ih => rw [zwt, mA, ih]; rfl
theorem ywj (l : List Int) : (zcs l).all keep1 = true := by
 induction l with
 | nil => rfl
 | cons x l ih => rw [zwt, List.all_append, ih]; rfl
theorem zJ5 (l : List Int) : isMp (zcs l) = false := by cases l <;> rfl
theorem zXC (m1 : Mem) (mp : TMap) (n : Nat) : EntCs m1 mp (List.replicate n [AV.d (.bool false), AV.full []]).flatten (zcs (List.replicate n 0)) = True := by
 induction n with
 | zero => rfl
 | succ n ih =>
  rw [List.replicate_succ, List.replicate_succ, List.flatten_cons, zwt, zc]
  simp only [List.cons_append, List.nil_append, EntCs, EntC, Int.natAbs_zero, zzC, mN, ih, Int.lt_irrefl, decide_false, and_self]
def badR (p : Row × Int) : Bool := !p.1.eq && decide (p.2 < 0)
def zerosL (n : Nat) : List Int := List.replicate n 0
def farV (l : List Row) (ms : List Int) : Option (List Int) := accF (zerosL ((varsR l).length + 1)) (opsP (varsR l) (ms.zip l))
def combZ (l : List Row) (ms : List Int) : List Int × Int × Int :=
 if (l.zip ms).any badR then ([], 0, 2)
 else if sysE l != 0 then ([], 0, sysE l)
 else match farV l ms with
  | none => ([], 0, 7)
  | some s => (s.take (varsR l).length, s.getD (varsR l).length 0, 0)
def combS (l : List Row) (m : List BigT) : List Int × Int × Int := if (l.length : Int) != m.length || !m.all validB then ([], 0, 6) else combZ l (m.map zOf)
def resC (r : List Int × Int × Int) : CV := .tup [.one (.lst (r.1.map bz)), .agg (bz r.2.1), .one (.int .i64 r.2.2)]
theorem zVv {m : List BigT} (h : m.all validB = true) : m.map BigT.cells = (m.map zOf).map bz ∧ ∀ z ∈ m.map zOf, fitsZ z := by
 rw [List.all_eq_true] at h
 constructor
 ·rw [List.map_map]
  refine List.map_congr_left fun a ha => ?_
  have := (zQt (h a ha)).2
  show a.cells = bz (zOf a)
  rw [← yxO, ← this]
 ·intro z hz
  obtain ⟨a, ha, rfl⟩ := List.mem_map.1 hz
  exact (zQt (h a ha)).1
structure ComS where
 d : List (Int × Row)
 r : List (Int × Row)
 s : List Int
structure Com1 where
 d : List Coef
 r : List Coef
 s : List Int
theorem yyP (V : List Str) (d : List (Int × Row)) (x : Int × Row) : opsP V (d ++ [x]) = opsP V d ++ opP V x.1 x.2 := by simp [opsP]
theorem zWq {s : List Int} {o : Op3} : accF s [o] = stepA s o := by
 rw [accF]; cases stepA s o <;> rfl
theorem zx0 {s0 s : List Int} {a : List Op3} (h : accF s0 a = some s) (b : List Op3) : accF s0 (a ++ b) = accF s b := by rw [zVC, h]
theorem zJF {s0 s : List Int} {a : List Op3} (h : accF s0 a = some s) {i : Nat} {m n : Int} : accF s0 (a ++ [(i, m, n)]) = if (addP s i m n).2 then some (addP s i m n).1 else none := by
 rw [zx0 h, zWq, zYb]
theorem zKa {s0 s : List Int} {a b : List Op3} {o : Op3} (h : accF s0 a = some s) (ho : stepA s o = none) : accF s0 (a ++ (o :: b)) = none := by
 rw [zx0 h, accF, ho]
end Go.Abs
end
section
namespace Go.Abs
theorem okAddC {st : St} {az as0 : List AV} {N : Nat} {s s' : List Int} {b' : Bool} (h11 : getM st.mem 11 = some [.vec 61 2 0 N N]) (h12 : getM st.mem 12 = some [.d (.bool true)]) (h61 : getM st.mem 61 = some (zcs s))
  (hv : MatchVs [(1000, 11), (1001, 12), (1002, 61)] [] az as0) :
  okB st az ⟨[(1000, 11), (1001, 12), (1002, 61)], [], [], as0, [(1000, [.vec 1002 2 0 N N]), (1001, [.d (.bool true)]), (1002, zcs s)], [(1000, [.vec 1002 2 0 N N]), (1001, [.d (.bool b')]), (1002, zcs s')], .tup []⟩ := by
 refine ⟨hv, ?_, ?_, rfl, rfl, rfl, rfl, ?_, ?_, trivial, rfl, rfl⟩
 ·refine ⟨⟨rfl, by decide, ?_⟩, ⟨rfl, by decide, ?_⟩, ⟨rfl, by decide, ?_⟩, trivial⟩
  ·simp only [h11]; exact ⟨rfl, trivial⟩
  ·simp only [h12]; exact ⟨rfl, trivial⟩
  ·simp only [h61]
   split
   ·rename_i e; have := zJ5 s; rw [e] at this; cases this
   ·exact of_eq_true (zVB _ _ _)
 ·trivial
 ·simp only [mC, mN, zJ5]; rfl
 ·intro q hq
  simp only [List.mem_cons, List.not_mem_nil, or_false] at hq
  rcases hq with rfl | rfl | rfl
  ·rfl
  ·rfl
  ·exact ywj _
theorem zwi : bz 0 = [.bool false, .lst []] := by unfold bz; rw [Int.natAbs_zero, zzC]; rfl
variable {E : AEnv} (Z : Sys E)
include Z
set_option maxHeartbeats 8000000 in
theorem zqT (hU : UnionLaw E) (l : List Row) (m : List BigT) : E.C zyx [.one (.lst (l.map Row.cells)), .one (.lst (m.map BigT.cells))] (resC (combS l m)) := by
 have hV := zj4 Z zx1 validB m fun x _ => zZc Z x
 have hC := zvp Z hU l
 have hN := zY7 Z hU l
 refine Z.zyx _ _ ⟨bl rfl, ?_⟩
 generalize hR : combS l m = R
 unfold combS at hR
 try simp only [resC]
 simp only [zkH, go_sem]
 intro _ _
 cases c1 : ((l.length : Int) != (m.length : Int)) with
 | true =>
  rw [c1] at hR; simp only [Bool.true_or, if_true] at hR; subst hR
  simp only [go_sem]
  refine ⟨.one (.bool false), ?_⟩
  simp only [go_sem, zwi, mN]
 | false =>
 rw [c1] at hR
 simp only [go_sem]
 refine zzb hV ?_
 cases c2 : m.all validB with
 | false =>
  rw [c2] at hR; simp only [go_sem, if_true] at hR; subst hR
  simp only [go_sem, zwi, mN]
 | true =>
 obtain ⟨v1, v2⟩ := zVv c2
 rw [c2] at hR
 simp only [go_sem] at hR
 have hml : (m.map zOf).length = m.length := by simp
 rw [v1]
 generalize m.map zOf = ms at *
 clear hV v1
 have hll : l.length = ms.length := by have := c1; simp at this; omega
 unfold combZ at hR
 simp only [go_sem]
 intro _
 refine zze fun K hK => ?_
 have hzl : (l.zip ms).length = l.length := by rw [List.length_zip]; omega
 generalize hz : l.zip ms = zs at *
 refine zzh zs (fun done => ∀ p ∈ done, badR p = false) (fun done rest => ⟨[(33, .d (.int .i64 done.length)), (32, .d (.int .i64 l.length)), (31, .d (.lst (l.map Row.cells))), (0, .d (.lst (l.map Row.cells))), (1, .d (.lst (ms.map bz))), (5, .ptr 5 0)], [(5, [.d (.bool false), .full []])], []⟩) ?_ (by simp) ?_ ?_
 ·exact zzc (by simp only [go_sem, oS, lN, nZ])
 ·intro done x r hl2 hI
  obtain ⟨fd, fr, sd, sr, e1, e2, e3, e4⟩ := zki (hz.trans hl2)
  have hx := zzj (f := Row.cells) e1 e3
  have hy := zzj (f := bz) e2 e4
  have hlt := zzw hl2
  rw [hzl] at hlt
  have hlt2 : ((done.length : Int) < (l.length : Int)) = True := eq_true hlt
  have hlt3 : ((done.length : Int) < (ms.length : Int)) = True := eq_true (by omega)
  have hd : decide ((done.length : Int) < (l.length : Int)) = true := decide_eq_true hlt
  have hw : IntKind.i64.wrap ((done.length : Int) + 1) = ((done.length + 1 : Nat) : Int) := zzd (by omega)
  have hany : badR x = true → zs.any badR = true := fun hb => by rw [hl2]; simp [hb]
  obtain ⟨⟨⟨cs, k⟩, q⟩, z⟩ := x
  simp only [Row.cells, bz] at hx hy
  have hok : badR (⟨⟨cs, k⟩, q⟩, z) = false → ∀ p ∈ done ++ [((⟨⟨cs, k⟩, q⟩ : Row), z)], badR p = false := fun hb p hp => by
   rcases List.mem_append.1 hp with h | h
   ·exact hI p h
   ·rw [List.mem_singleton.1 h]; exact hb
  simp only [zyZ, go_sem, hx, hy, hlt2, hd, hlt3]
  cases q with
  | true =>
   simp only [go_sem, hw]
   exact ⟨zzc (by simp only [go_sem, oS, lA, lC, lN, zA]), hok rfl⟩
  | false =>
   cases hneg : decide (z < 0) with
   | true =>
    have hb : badR (⟨⟨cs, k⟩, false⟩, z) = true := by unfold badR; rw [hneg]; rfl
    rw [hany hb] at hR
    simp only [if_true] at hR
    subst hR
    simp only [go_sem, hK, zwi, mN]
   | false =>
    have hb : badR (⟨⟨cs, k⟩, false⟩, z) = false := by unfold badR; rw [hneg]; rfl
    simp only [go_sem, hw]
    exact ⟨zzc (by simp only [go_sem, oS, lA, lC, lN, zA]), hok hb⟩
 ·intro hI
  have hany : zs.any badR = false := by rw [List.any_eq_false]; intro p hp; rw [hI p hp]; simp
  rw [hany] at hR
  simp only [go_sem] at hR
  simp only [zyZ, go_sem, hzl, hK]
  refine zzb hC ?_
  simp only [go_sem]
  cases c3 : (sysE l != 0) with
  | true =>
   rw [c3] at hR
   simp only [if_true] at hR
   subst hR
   simp only [go_sem, zwi, mN]
  | false =>
  rw [c3] at hR
  simp only [go_sem] at hR
  have h0 : sysE l = 0 := by simpa using c3
  obtain ⟨s1, s2, s3⟩ := zXc h0
  have hv0 : vars0 l = varsR l := by unfold vars0; rw [c3]; rfl
  rw [hv0] at hN
  have hVI := zvN l
  have hVm := fun r (hr : r ∈ l) c (hc : c ∈ r.lin.coefs) => (zqt (l := l) (x := c.name)).2 ⟨r, hr, c, hc, rfl⟩
  have hLr := zZ4 s2
  unfold farV at hR
  generalize varsR l = V at *
  simp only [go_sem]
  refine zzb hN ?_
  simp only [go_sem, lM]
  have hw1 : IntKind.i64.wrap ((V.length : Int) + 1) = ((V.length + 1 : Nat) : Int) := zzd (by omega)
  rw [hw1, Int.toNat_natCast]
  intro _
  refine ⟨⟨by omega, by omega, by omega⟩, ?_⟩
  intro _
  clear hK K hI hany hC hN
  refine zze fun K hK => ?_
  generalize hz2 : ms.zip l = zs2 at *
  have hzl2 : zs2.length = l.length := by rw [← hz2, List.length_zip]; omega
  refine zzo (fun s : ComS => ⟨[(65, .d (.int .i64 s.d.length)), (64, .d (.int .i64 l.length)), (63, .d (.lst (l.map Row.cells))), (13, .clo zzK [.ptr 11 0, .ptr 12 0]), (12, .ptr 12 0), (11, .ptr 11 0), (10, .d (.lst (V.map scell))), (0, .d (.lst (l.map Row.cells))), (1, .d (.lst (ms.map bz))), (5, .ptr 5 0)],
   [(12, [.d (.bool true)]), (11, [.vec 61 2 0 (V.length + 1) (V.length + 1)]), (61, zcs s.s), (5, [.d (.bool false), .full []])], []⟩)
   (fun s => s.d ++ s.r = zs2 ∧ accF (zerosL (V.length + 1)) (opsP V s.d) = some s.s) (fun s => s.r.length) ⟨[], zs2, zerosL (V.length + 1)⟩ ?_ ⟨rfl, rfl⟩ ?_
  ·exact zzc (by simp only [go_sem, oS, lN, nZ, zerosL, zXC])
  ·rintro ⟨d, r, s⟩ ⟨g1, g2⟩
   simp only at g1 g2
   obtain ⟨hsok, hsl⟩ := zvs g2 (fun x hx => by rw [(List.mem_replicate.1 hx).2]; exact zyE)
   have hsl : s.length = V.length + 1 := by rw [hsl]; simp [zerosL]
   cases r with
   | nil =>
    rw [List.append_nil] at g1
    subst g1
    rw [g2] at hR
    simp only at hR
    obtain ⟨t, c, q, e1, e2⟩ := zyi (l := s) (i := V.length) (by omega)
    have hq : q = [] := by
     have := congrArg List.length e1
     simp at this
     exact List.eq_nil_of_length_eq_zero (by omega)
    subst hq
    have hg := zW9 e1 e2
    have hro := zW8 e1 e2
    have hR2 : (t, c, (0 : Int)) = R := by rw [← hR, e1, ← e2]; simp
    subst hR2
    have hlt : ((V.length : Int) < ((V.length + 1 : Nat) : Int)) = True := eq_true (by omega)
    simp only [zyY, go_sem, hzl2, Int.lt_irrefl, decide_false, hK]
    simp only [go_sem, lM, hlt, Int.toNat_natCast, zA, hg, hro]
    have htk : List.take (V.length * 2) (zcs s) = zcs t := by
     rw [e1, zW7, ← e2, ← zjN t, List.take_left]
    have hle : (V.length * 2 ≤ (zcs s).length) = True := eq_true (by omega)
    have hch : chunk 2 V.length (zds t) = t.map bz := by rw [← e2]; exact zYm t
    simp only [ite_self, Nat.sub_zero, zA, List.drop_zero, htk, hle, if_true, zWL, hch]
    exact ⟨by omega, rfl⟩
   | cons x r =>
    obtain ⟨fd, fr, sd, sr, e1, e2, e3, e4⟩ := zki (hz2.trans g1.symm)
    have hx := zzj (f := Row.cells) e2 e4
    have hy := zzj (f := bz) e1 e3
    have hdl : d.length < l.length := by rw [← hzl2, ← g1]; simp
    have hlt2 : ((d.length : Int) < (l.length : Int)) = True := eq_true (by omega)
    have hlt3 : ((d.length : Int) < (ms.length : Int)) = True := eq_true (by omega)
    have hd : decide ((d.length : Int) < (l.length : Int)) = true := decide_eq_true (by omega)
    have hw : IntKind.i64.wrap ((d.length : Int) + 1) = ((d.length + 1 : Nat) : Int) := zzd (by omega)
    have hxl : x.2 ∈ l := by rw [e2]; simp
    have hxm : fitsZ x.1 := v2 x.1 (by rw [e1]; simp)
    have hLx := hLr x.2 hxl
    have hVx := hVm x.2 hxl
    obtain ⟨hc1, hc2, hc3⟩ := zve hLx
    have hcl := zxe hLx
    have hfail : ∀ (a b : List Op3) (o : Op3) (s1 : List Int), opP V x.1 x.2 = a ++ o :: b → accF s a = some s1 → stepA s1 o = none → R = ([], 0, 7) := fun a b o s1 h1 h2 h3 => by
     have : accF (zerosL (V.length + 1)) (opsP V zs2) = none := by
      rw [← g1]
      have : opsP V (d ++ x :: r) = opsP V d ++ (a ++ (o :: (b ++ opsP V r))) := by
       have : opsP V (d ++ x :: r) = opsP V d ++ (opP V x.1 x.2 ++ opsP V r) := by simp [opsP]
       rw [this, h1]; simp
      rw [this, zx0 g2]
      exact zKa h2 h3
     rw [this] at hR
     exact hR.symm
    have hdone : opsP V (d ++ [x]) = opsP V d ++ opP V x.1 x.2 := yyP V d x
    obtain ⟨z, ⟨⟨cs, k⟩, q⟩⟩ := x
    simp only [Row.cells, bz] at hx hy
    simp only at hxm hLx hVx hc1 hc2 hc3 hcl
    simp only [zyY, go_sem, hx, hlt2, hd]
    intro _
    refine zze fun K1 hK1 => ?_
    refine zzo (fun s : Com1 => ⟨[(74, .d (.int .i64 s.d.length)), (73, .d (.int .i64 cs.length)), (72, .d (.lst (cs.map Coef.cells))), (14, .d (.int .i64 d.length)), (15, .ptr 15 0), (65, .d (.int .i64 d.length)), (64, .d (.int .i64 l.length)), (63, .d (.lst (l.map Row.cells))), (13, .clo zzK [.ptr 11 0, .ptr 12 0]), (12, .ptr 12 0), (11, .ptr 11 0), (10, .d (.lst (V.map scell))), (0, .d (.lst (l.map Row.cells))), (1, .d (.lst (ms.map bz))), (5, .ptr 5 0)],
     [(15, [.d (.lst (cs.map Coef.cells)), .d (.int .i64 k), .d (.bool q)]), (12, [.d (.bool true)]), (11, [.vec 61 2 0 (V.length + 1) (V.length + 1)]), (61, zcs s.s), (5, [.d (.bool false), .full []])], []⟩)
     (fun s1 => s1.d ++ s1.r = cs ∧ accF s (s1.d.map fun c => (ixL V c.name, z, c.n)) = some s1.s) (fun s => s.r.length) ⟨[], cs, s⟩ ?_ ⟨rfl, rfl⟩ ?_
    ·exact zzc (by simp only [go_sem, oS, lN, nZ, zwG])
    ·rintro ⟨cd, cr, u⟩ ⟨k1, k2⟩
     simp only at k1 k2
     obtain ⟨huok, hul⟩ := zvs k2 hsok
     rw [hsl] at hul
     cases cr with
     | nil =>
      rw [List.append_nil] at k1
      subst k1
      obtain ⟨p1, x1, q1, f1, f2⟩ := zyi (l := u) (i := V.length) (by omega)
      have hadd := zZa Z (i := V.length) (m := z) (n := k) hxm hc3 huok f1 f2 hul
      simp only [zyX, go_sem, Int.lt_irrefl, decide_false, hK1, hlt3, hy, lM]
      refine zWz ⟨[(1000, 11), (1001, 12), (1002, 61)], [], [], [.d (.int .i64 V.length), .agg ((bz z).map .d), .d (.int .i64 k), .ptr 1000 0, .ptr 1001 0], _, _, .tup []⟩ hadd rfl rfl (okAddC rfl rfl rfl ⟨rfl, ⟨rfl, rfl, trivial⟩, rfl, rfl, rfl, trivial⟩) ?_
      have hlast := zJF (s0 := s) (a := cd.map fun c => (ixL V c.name, z, c.n)) k2 (i := V.length) (m := z) (n := k)
      have hal := yxB u V.length z k
      simp only [afterB, renMem, getTM, if_true, Option.getD_some, newAll, killAll, List.nil_append, List.singleton_append, CV.toAV0, AV.ren0, AV.ren1, go_sem, mC, mN, List.cons_append, hw, yy3]
      cases hb : (addP u V.length z k).2 with
      | true =>
       rw [hb] at hlast
       simp only [if_true] at hlast
       simp only [go_sem, hw]
       refine ⟨⟨d ++ [(z, ⟨⟨cd, k⟩, q⟩)], r, (addP u V.length z k).1⟩, zzc (by simp only [go_sem, oS, lA, lC, lN, zA, zwG]), ⟨?_, ?_⟩, by simp⟩
       ·rw [← g1, List.append_assoc]; rfl
       ·rw [hdone, zx0 g2]; exact hlast
      | false =>
       have hst : stepA u (V.length, z, k) = none := by rw [zYb, hb]; rfl
       have hRf := hfail _ [] _ u rfl k2 hst
       subst hRf
       simp only [go_sem, hK, zwi, mN]
     | cons c cr =>
      have hcc := zzj (f := Coef.cells) k1.symm rfl
      have hcm : c ∈ cs := by rw [← k1]; simp
      have hcd : cd.length < cs.length := by rw [← k1]; simp
      have hlt4 : ((cd.length : Int) < (cs.length : Int)) = True := eq_true (by omega)
      have hd4 : decide ((cd.length : Int) < (cs.length : Int)) = true := decide_eq_true (by omega)
      have hw4 : IntKind.i64.wrap ((cd.length : Int) + 1) = ((cd.length + 1 : Nat) : Int) := zzd (by omega)
      have hB := zQG Z V c.name (by omega) hVI (hVx c hcm)
      have hix := (zWJ hVI (hVx c hcm)).1
      obtain ⟨p1, x1, q1, f1, f2⟩ := zyi (l := u) (i := ixL V c.name) (by omega)
      have hadd := zZa Z (i := ixL V c.name) (m := z) (n := c.n) hxm (hc2 c hcm).2 huok f1 f2 hul
      have hlast := zJF (s0 := s) (a := cd.map fun c => (ixL V c.name, z, c.n)) k2 (i := ixL V c.name) (m := z) (n := c.n)
      have hop : opP V z ⟨⟨cs, k⟩, q⟩ = (cd.map fun c => (ixL V c.name, z, c.n)) ++ (ixL V c.name, z, c.n) :: ((cr.map fun c => (ixL V c.name, z, c.n)) ++ [(V.length, z, k)]) := by
       unfold opP; simp only; rw [← k1]; simp
      have hstep := zYb (s := u) (i := ixL V c.name) (m := z) (n := c.n)
      obtain ⟨cn, cv⟩ := c
      simp only [Coef.cells] at hcc hB
      simp only [zyX, go_sem, hcc, hlt4, hd4]
      refine zzb hB ?_
      simp only [go_sem, hlt3, hy]
      refine zWz ⟨[(1000, 11), (1001, 12), (1002, 61)], [], [], [.d (.int .i64 (ixL V cn)), .agg ((bz z).map .d), .d (.int .i64 cv), .ptr 1000 0, .ptr 1001 0], _, _, .tup []⟩ hadd rfl rfl (okAddC rfl rfl rfl ⟨rfl, ⟨rfl, rfl, trivial⟩, rfl, rfl, rfl, trivial⟩) ?_
      simp only [afterB, renMem, getTM, if_true, Option.getD_some, newAll, killAll, List.nil_append, List.singleton_append, CV.toAV0, AV.ren0, AV.ren1, go_sem, mC, mN, List.cons_append, yy3]
      cases hb : (addP u (ixL V cn) z cv).2 with
      | true =>
       rw [hb] at hlast
       simp only [if_true] at hlast
       simp only [go_sem, hw4]
       refine ⟨⟨cd ++ [⟨cn, cv⟩], cr, (addP u (ixL V cn) z cv).1⟩, zzc (by simp only [go_sem, oS, lA, lC, lN, zA, zwG]), ⟨?_, ?_⟩, by simp⟩
       ·rw [← k1, List.append_assoc]; rfl
       ·rw [mA]; exact hlast
      | false =>
       rw [hb] at hstep
       have hRf := hfail _ _ _ u hop k2 hstep
       subst hRf
       simp only [go_sem, hK1, hK, zwi, mN]
end Go.Abs
end
section
namespace Go.Abs
theorem zW6 (z : Int) : zOf (bigZ z) = z := by
 unfold zOf bigZ
 simp only [zzx]
 by_cases h : z < 0
 ·rw [decide_eq_true h, if_pos rfl]; omega
 ·rw [decide_eq_false h, if_neg (by simp)]; omega
def farS (l : List Row) (m : List BigT) : Bool := (combS l m).2.2 == 0 && (combS l m).1.all (fun z => z == 0) && decide ((combS l m).2.1 > 0)
theorem yxU (l : List Row) (ms : List Int) : (∀ z ∈ (combZ l ms).1, fitsZ z) ∧ fitsZ (combZ l ms).2.1 := by
 have h0 : fitsZ 0 := zyU.1 zyE
 unfold combZ
 split
 ·exact ⟨by simp, h0⟩
 ·split
  ·exact ⟨by simp, h0⟩
  ·unfold farV
   split
   ·exact ⟨by simp, h0⟩
   ·rename_i s hs
    have hok := (zvs hs (fun x hx => by rw [(List.mem_replicate.1 hx).2]; exact zyE)).1
    exact ⟨fun z hz => zyU.1 (hok z (List.mem_of_mem_take hz)), zyU.1 (yyl hok _)⟩
theorem yxT (l : List Row) (m : List BigT) : (∀ z ∈ (combS l m).1, fitsZ z) ∧ fitsZ (combS l m).2.1 := by
 unfold combS
 split
 ·exact ⟨by simp, zyU.1 zyE⟩
 ·exact yxU _ _
theorem yvP (c : Int) : decide (sgnI (c - 0) > 0) = decide (c > 0) := by
 unfold sgnI
 rw [Int.sub_zero]
 by_cases h1 : c < 0
 ·rw [if_pos h1, decide_eq_false (by omega), decide_eq_false (by omega)]
 ·rw [if_neg h1]
  by_cases h2 : c > 0
  ·rw [if_pos h2, decide_eq_true h2]; rfl
  ·rw [if_neg h2, decide_eq_false h2]; rfl
variable {E : AEnv} (Z : Sys E)
include Z
theorem zYr (hU : UnionLaw E) (l : List Row) (m : List BigT) : E.C zxj [.one (.lst (l.map Row.cells)), .one (.lst (m.map BigT.cells))] (.one (.bool (farS l m))) := by
 have hC := zqT Z hU l m
 obtain ⟨k1, k2⟩ := yxT l m
 refine Z.zxj _ _ ⟨bl rfl, ?_⟩
 unfold farS
 generalize combS l m = R at *
 obtain ⟨s, c, e⟩ := R
 simp only at k1 k2
 have hA := zj4 Z zxf (fun a => zOf a == 0) (s.map bigZ) fun x hx => by
  obtain ⟨z, hz, rfl⟩ := List.mem_map.1 hx
  rw [zW6]; exact zXl Z (k1 z hz)
 have e1 : (s.map bigZ).map BigT.cells = s.map bz := by rw [List.map_map]; rfl
 have e2 : (s.map bigZ).all (fun a => zOf a == 0) = s.all fun z => z == 0 := by
  rw [List.all_map]; congr 1; funext z; simp [zW6]
 rw [e1, e2] at hA
 have hM := zXv Z k2 (zyU.1 zyE)
 rw [zjV] at hM
 have hs := yvP c
 simp only [resC] at hC
 simp only [BigT.cells, bigZ, mN] at hM
 have hbz : bz c = [.bool (decide (c < 0)), .lst ((digs c.natAbs).map icell)] := rfl
 rw [hbz] at hC
 simp only [zvA, go_sem]
 refine zzb hC ?_
 simp only [go_sem]
 cases c1 : (e == 0) with
 | false =>
  refine ⟨.one (.bool false), ?_⟩
  simp only [go_sem]
  refine ⟨.one (.int .i64 0), ?_⟩
  simp only [go_sem]
 | true =>
  refine ⟨_, fun _ => hA, ?_⟩
  simp only [go_sem]
  cases c2 : s.all (fun z => z == 0) with
  | false =>
   refine ⟨.one (.int .i64 0), ?_⟩
   simp only [go_sem]
  | true =>
   refine ⟨_, fun _ => hM, ?_⟩
   simp only [go_sem, hs]
end Go.Abs
end
section
namespace Go.Abs
variable {E : AEnv} (Z : Sys E)
include Z
theorem zK5 (a b : List Int) : E.C zkS [.one (.lst (a.map icell)), .one (.lst (b.map icell))] (.one (.int .i64 (cmpD a b))) := by
 refine Z.zkS _ _ ⟨bl rfl, ?_⟩
 generalize hR : cmpD a b = R
 unfold cmpD at hR
 simp only [zZm, go_sem]
 intro ha hb
 cases h1 : (a.length : Int) != (b.length : Int) with
 | true =>
  have h1' : a.length ≠ b.length := by have := bne_iff_ne.1 h1; omega
  rw [if_pos h1'] at hR
  simp only [go_sem]
  intro _ _
  cases h2 : decide ((a.length : Int) < (b.length : Int)) with
  | true => rw [if_pos (by have := of_decide_eq_true h2; omega)] at hR; simp only [go_sem]; exact hR
  | false => rw [if_neg (by have := of_decide_eq_false h2; omega)] at hR; simp only [go_sem]; exact hR
 | false =>
  have h1' : a.length = b.length := by have : (a.length : Int) = b.length := by simpa using h1
                                       omega
  rw [if_neg (by omega)] at hR
  simp only [go_sem]
  intro _
  have hw : IntKind.i64.wrap ((a.length : Int) - 1) = (a.length : Int) - 1 := i64_in _ (by omega)
  rw [hw]
  refine zzo (fun s : List Int × List Int => ⟨[(5, .d (.int .i64 ((s.1.length : Int) - 1))), (0, .d (.lst (a.map icell))), (1, .d (.lst (b.map icell)))], [], []⟩) (fun s => (∃ z, a = s.1 ++ z) ∧ (∃ z, b = s.2 ++ z) ∧ s.1.length = s.2.length ∧ cmpGo s.1.reverse s.2.reverse = R) (fun s => s.1.length) (a, b) ?_ ⟨⟨[], by simp⟩, ⟨[], by simp⟩, h1', hR⟩ ?_
  ·exact zzc (by simp only [go_sem, oS])
  ·rintro ⟨p, q⟩ ⟨⟨z, hz⟩, ⟨w, hw2⟩, hl, hT⟩
   simp only at hz hw2 hl hT
   rcases zzJ p with rfl | ⟨d, x, rfl⟩
   ·have hq : q = [] := List.eq_nil_of_length_eq_zero (by simpa using hl.symm)
    subst hq
    have h0 : decide ((0 : Int) - 1 ≥ 0) = false := by decide
    have hR2 : R = 0 := hT.symm
    subst hR2
    simp only [zwO, go_sem, lN, nZ, h0]
    try rfl
   ·rcases zzJ q with rfl | ⟨e, y, rfl⟩
    ·simp at hl
    have hlen : (d ++ [x]).length = d.length + 1 := by simp
    have hlen2 : (e ++ [y]).length = e.length + 1 := by simp
    have hle : (d ++ [x]).length ≤ a.length := by rw [hz]; simp
    have hle2 : (e ++ [y]).length ≤ b.length := by rw [hw2]; simp
    have hde : e.length = d.length := by omega
    have hs : (((d ++ [x]).length : Int) - 1) = (d.length : Int) := by omega
    have hge : decide ((d.length : Int) ≥ 0) = true := decide_eq_true (by omega)
    have hlt1 : ((d.length : Int) < (a.length : Int)) = True := eq_true (by omega)
    have hlt2 : ((d.length : Int) < (b.length : Int)) = True := eq_true (by omega)
    have hg1 := zv7 hz
    have hg2 := zv7 hw2
    rw [hde] at hg2
    have hw : IntKind.i64.wrap ((d.length : Int) - 1) = (d.length : Int) - 1 := i64_in _ (by omega)
    rw [List.reverse_append, List.reverse_append, List.reverse_singleton, List.reverse_singleton, List.singleton_append, List.singleton_append, cmpGo] at hT
    simp only [zwO, go_sem, hs, hge, hlt1, hlt2, hg1, hg2, Int.toNat_natCast, icell]
    cases h3 : decide (x < y) with
    | true => rw [if_pos (of_decide_eq_true h3)] at hT; simp only [go_sem]; exact hT
    | false =>
     rw [if_neg (of_decide_eq_false h3)] at hT
     simp only [go_sem, hge, hlt1, hlt2, hg1, hg2, Int.toNat_natCast, icell]
     cases h4 : decide (x > y) with
     | true => rw [if_pos (of_decide_eq_true h4)] at hT; simp only [go_sem]; exact hT
     | false =>
      rw [if_neg (of_decide_eq_false h4)] at hT
      simp only [go_sem, hw]
      exact ⟨(d, e), zzc (by simp only [go_sem, oS]), ⟨⟨[x] ++ z, by rw [hz, List.append_assoc]⟩, ⟨[y] ++ w, by rw [hw2, List.append_assoc]⟩, hde.symm, hT⟩, by simp⟩
theorem zvS (a : BigT) : E.C zwd [.agg a.cells] (.one (.bool (validB a))) := by
 refine Z.zwd _ _ ⟨bl rfl, ?_⟩
 generalize hR : validB a = R
 obtain ⟨n, l⟩ := a
 unfold validB at hR
 simp only [BigT.cells] at *
 by_cases hl0 : l = []
 ·have hlen : l.length = 0 := by rw [hl0]; rfl
  have hgt : decide ((l.length : Int) > 0) = false := decide_eq_false (by omega)
  have hne : ((l.length : Int) == 0) = true := beq_iff_eq.2 (by omega)
  have h24 : decide ((l.length : Int) > 200) = false := decide_eq_false (by omega)
  have hg : ∀ k, (l.map icell).getD k [] = [] := fun k => by rw [hl0]; simp
  clear hl0
  simp only [hgt, hne, h24, Bool.false_and, Bool.true_and, Bool.or_false, Bool.false_or] at hR
  cases n with
  | true =>
   simp only [go_sem] at hR
   simp only [zx8, go_sem, hgt, hne, h24, hg]
   try intro _
   exact hR
  | false =>
   simp only [go_sem] at hR
   simp only [zx8, go_sem, hgt, hne, h24, hg]
   intro _
   refine zzh l (fun done => done.all digB = true) (fun done rest => ⟨[(4, .d (.int .i64 done.length)), (3, .d (.int .i64 l.length)), (1, .ptr 1 0)], [(1, [.d (.bool false), .d (.lst (l.map icell))])], []⟩) ?_ rfl ?_ ?_
   ·exact zzc (by simp only [go_sem, oS])
   ·intro done x r hl hI
    have hlt := zzw hl
    have hw : IntKind.i64.wrap ((done.length : Int) + 1) = ((done.length + 1 : Nat) : Int) := zzd (by omega)
    have hS : (decide (x < 0) || decide (x ≥ 10000)) = true → false = R := by
     intro hx
     rw [← hR, hl, List.all_append, List.all_cons]
     unfold digB; rw [hx]; simp
    have hT : (decide (x < 0) || decide (x ≥ 10000)) = false → (done ++ [x]).all digB = true := by
     intro hx
     rw [List.all_append, hI, List.all_cons]
     unfold digB; rw [hx]; rfl
    simp only [zyM, go_sem, getD_at hl, hlt, icell]
    cases e1 : decide (x < 0) with
    | true => simp only [e1, go_sem] at hS hT ⊢; exact hS
    | false =>
     simp only [e1, go_sem] at hS hT ⊢
     cases e2 : decide (x ≥ 10000) with
     | true => simp only [e2, go_sem] at hS hT ⊢; exact hS
     | false =>
      simp only [e2, go_sem, hw] at hS hT ⊢
      refine ⟨zzc (by simp only [go_sem, oS, lA, lC, lN, zA]), ?_⟩
      exact hT
   ·intro hI
    have hz : ((l.length : Int) < (l.length : Int)) = False := eq_false (by omega)
    rw [hI] at hR
    simp only [zyM, go_sem, Int.lt_irrefl, decide_false]
    exact hR
 ·obtain ⟨d, y, hl0⟩ := (zzJ l).resolve_left hl0
  have hlen : l.length = d.length + 1 := by rw [hl0]; simp
  have hlast : lastD l = y := by rw [hl0, zqU]
  have hgt : decide ((l.length : Int) > 0) = true := decide_eq_true (by omega)
  have hne : ((l.length : Int) == 0) = false := beq_eq_false_iff_ne.2 (by omega)
  have hg : (l.map icell).getD d.length [] = icell y := by rw [hl0]; exact zJ0 d y
  have hlt : ((d.length : Int) < (l.length : Int)) = True := eq_true (by omega)
  simp only [hlast, hgt, hne, Bool.false_and, Bool.true_and, Bool.or_false] at hR
  cases h24 : decide ((l.length : Int) > 200) with
  | true =>
   simp only [h24, go_sem] at hR
   subst hR
   simp only [zx8, go_sem, hgt, hne, h24]
   intro hb
   have hw : IntKind.i64.wrap ((l.length : Int) - 1) = (d.length : Int) := (i64_in _ (by omega)).trans (by omega)
   simp only [go_sem, hw, hg, hlt, Int.toNat_natCast, icell]
  | false =>
   have h24' : (l.length : Int) ≤ 200 := by simpa using h24
   have hw : IntKind.i64.wrap ((l.length : Int) - 1) = (d.length : Int) := (i64_in _ (by omega)).trans (by omega)
   simp only [h24, go_sem] at hR
   simp only [zx8, go_sem, hgt, hne, h24, hw, hg, hlt, Int.toNat_natCast, icell]
   intro _
   cases hy : y == 0 with
   | true => simp only [hy, go_sem] at hR ⊢; exact hR
   | false =>
   simp only [hy, go_sem] at hR ⊢
   refine zzh l (fun done => done.all digB = true) (fun done rest => ⟨[(4, .d (.int .i64 done.length)), (3, .d (.int .i64 l.length)), (1, .ptr 1 0)], [(1, [.d (.bool n), .d (.lst (l.map icell))])], []⟩) ?_ rfl ?_ ?_
   ·exact zzc (by simp only [go_sem, oS])
   ·intro done x r hl hI
    have hlt := zzw hl
    have hw : IntKind.i64.wrap ((done.length : Int) + 1) = ((done.length + 1 : Nat) : Int) := zzd (by omega)
    have hS : (decide (x < 0) || decide (x ≥ 10000)) = true → false = R := by
     intro hx
     rw [← hR, hl, List.all_append, List.all_cons]
     unfold digB; rw [hx]; simp
    have hT : (decide (x < 0) || decide (x ≥ 10000)) = false → (done ++ [x]).all digB = true := by
     intro hx
     rw [List.all_append, hI, List.all_cons]
     unfold digB; rw [hx]; rfl
    simp only [zyM, go_sem, getD_at hl, hlt, icell]
    cases e1 : decide (x < 0) with
    | true => simp only [e1, go_sem] at hS hT ⊢; exact hS
    | false =>
     simp only [e1, go_sem] at hS hT ⊢
     cases e2 : decide (x ≥ 10000) with
     | true => simp only [e2, go_sem] at hS hT ⊢; exact hS
     | false =>
      simp only [e2, go_sem, hw] at hS hT ⊢
      refine ⟨zzc (by simp only [go_sem, oS, lA, lC, lN, zA]), ?_⟩
      exact hT
   ·intro hI
    have hz : ((l.length : Int) < (l.length : Int)) = False := eq_false (by omega)
    rw [hI] at hR
    simp only [zyM, go_sem, Int.lt_irrefl, decide_false]
    exact hR
theorem zWT (a : BigT) : E.C zyA [.agg a.cells] (.one (.lst ((if validB a then a.ds else []).map icell))) := by
 have hV := zvS Z a
 refine Z.zyA _ _ ⟨bl rfl, ?_⟩
 generalize hR : (if validB a then a.ds else []) = R
 obtain ⟨n, l⟩ := a
 simp only [BigT.cells] at *
 simp only [zqf, go_sem]
 try intro _
 refine zzb hV ?_
 cases hv : validB ⟨n, l⟩ <;> simp only [hv, go_sem, Bool.false_eq_true, if_false, if_true] at hR ⊢ <;> subst hR <;> rfl
theorem zkv (l : List Int) (k : Nat) (hk : k ≤ 1000) : E.C zxC [.one (.lst (l.map icell)), .one (.int .i64 k)] (.one (.int .i64 (l.getD k 0))) := by
 refine Z.zxC _ _ ⟨bl rfl, ?_⟩
 rcases Nat.lt_or_ge k l.length with h | h
 ·have h1 : decide ((k : Int) ≥ (l.length : Int)) = false := decide_eq_false (by omega)
  have h2 : ((k : Int) < (l.length : Int)) = True := eq_true (by omega)
  have h3 : (l.map icell).getD k [] = icell (l.getD k 0) := by simp [h, List.getD_eq_getElem?_getD]
  simp only [zvG, go_sem, h1, h2, h3, Int.toNat_natCast, icell]
  try (intro _; trivial)
 ·have h1 : decide ((k : Int) ≥ (l.length : Int)) = true := decide_eq_true (by omega)
  have h3 : l.getD k 0 = 0 := by simp [h, List.getD_eq_getElem?_getD]
  simp only [zvG, go_sem, h1, h3]
  try (intro _; trivial)
end Go.Abs
end
section
namespace Go.Abs
variable {E : AEnv} (Z : Sys E)
include Z
theorem zvh (l : List Int) (hl1 : l.length ≤ 1000) : E.C zwr [.one (.lst (l.map icell))] (.one (.lst ((trimZ l).map icell))) := by
 refine Z.zwr _ _ ⟨bl rfl, ?_⟩
 generalize hR : trimZ l = R
 simp only [zYx, go_sem]
 intro hb
 refine zzo (fun s : List Int => ⟨[(3, .d (.int .i64 s.length)), (0, .d (.lst (l.map icell)))], [], []⟩) (fun s => (∃ z, l = s ++ z) ∧ trimZ s = R) (fun s => s.length) l ?_ ⟨⟨[], by simp⟩, hR⟩ ?_
 ·exact zzc (by simp only [go_sem, oS])
 ·rintro s ⟨⟨z, hz⟩, hT⟩
  have hle : s.length ≤ l.length := by rw [hz]; simp
  have htk : (l.map icell).take s.length = s.map icell := by rw [hz, mA, List.take_left' (by simp)]
  rcases zzJ s with rfl | ⟨d, y, rfl⟩
  ·have h0 : decide ((0 : Int) > 0) = false := rfl
   have hn : (-1 : Int).toNat = 0 := rfl
   have hle0 : ((0 : Int) ≤ (l.length : Int)) = True := eq_true (by omega)
   have hR2 : R = [] := hT.symm
   rw [List.nil_append] at hz
   subst hR2
   have hz2 := hz
   cases z with
   | nil =>
    subst hz2
    simp only [zxV, go_sem, lN, nZ, h0, zk1, hn, hle0, mN, List.getD_nil]
    simp
   | cons x z =>
    have hg : (l.map icell).getD 0 [] = icell x := by rw [hz2]; rfl
    simp only [zxV, go_sem, lN, nZ, h0, zk1, hn, hle0, mN, hg, icell]
    exact ⟨by simp, by simp, by decide⟩
  ·have hlen : (d ++ [y]).length = d.length + 1 := by simp
   have hgt : decide (((d ++ [y]).length : Int) > 0) = true := decide_eq_true (by omega)
   have hw : IntKind.i64.wrap (((d ++ [y]).length : Int) - 1) = (d.length : Int) := (i64_in _ (by omega)).trans (by omega)
   have hlt : ((d.length : Int) < (l.length : Int)) = True := eq_true (by omega)
   have hg := zv7 hz
   simp only [zxV, go_sem, hgt, hw, hlt, hg, Int.toNat_natCast, icell]
   cases hy : y == 0 with
   | true =>
    have hy0 : y = 0 := by simpa using hy
    subst hy0
    rw [zXf] at hT
    simp only [go_sem, BEq.rfl]
    exact ⟨d, zzc (by simp only [go_sem, oS]), ⟨⟨[0] ++ z, by rw [hz, List.append_assoc]⟩, hT⟩, by omega⟩
   | false =>
    rw [zWm (by simpa using hy)] at hT
    subst hT
    simp only [hy, go_sem]
    rw [htk]
    refine ⟨by omega, ⟨by simp, fun e he => ?_, ?_, ?_⟩, rfl⟩
    ·obtain ⟨_, _, rfl⟩ := List.mem_map.1 he; rfl
    ·rw [lM]; omega
    ·rw [lM]; omega
theorem zYY (a : BigT) : E.C zzH [.agg a.cells] (.one (.bool (validB a && a.neg))) := by
 have hV := zvS Z a
 refine Z.zzH _ _ ⟨bl rfl, ?_⟩
 obtain ⟨n, l⟩ := a
 simp only [BigT.cells] at *
 simp only [zvH, go_sem]
 try intro _
 refine zzb hV ?_
 cases validB ⟨n, l⟩ <;> simp only [go_sem]
theorem zqy (n : Bool) (l : List Int) (hl1 : l.length ≤ 1000) : E.C zyV [.one (.bool n), .one (.lst (l.map icell))] (resB (signB n (trimZ l))) := by
 have ht := zvh Z l hl1
 refine Z.zyV _ _ ⟨bl rfl, ?_⟩
 generalize trimZ l = m at *
 have hs : signB n m = signB n m := rfl
 conv at hs => rhs; unfold signB
 generalize signB n m = q at *
 simp only [resB, BigT.cells]
 simp only [zqg, go_sem]
 refine zzb ht ?_
 simp only [go_sem]
 try intro _
 cases h1 : decide ((m.length : Int) > 200) with
 | true => simp only [h1, go_sem] at hs ⊢; subst hs; exact ⟨⟨rfl, rfl⟩, rfl⟩
 | false =>
 simp only [h1, go_sem] at hs ⊢
 intro _
 cases m with
 | nil => subst hs; cases n <;> exact ⟨⟨rfl, rfl⟩, rfl⟩
 | cons z m =>
  have h2 : ((((z :: m).length : Nat) : Int) == 0) = false := beq_eq_false_iff_ne.2 (by simp; omega)
  have h3 : decide ((((z :: m).length : Nat) : Int) > 0) = true := decide_eq_true (by simp)
  rw [h2] at hs
  rw [h3]
  subst hs
  exact ⟨⟨by simp, rfl⟩, rfl⟩
end Go.Abs
end
section
namespace Go.Abs
variable {E : AEnv} (Z : Sys E)
include Z
theorem zYX (n : Int) (h1 : -9223372036854775808 ≤ n) (h2 : n ≤ 9223372036854775807) : E.C zZE [.one (.int .i64 n)] (.agg (bigZ n).cells) := by
 refine Z.zZE _ _ ⟨bl rfl, ?_⟩
 unfold bigZ BigT.cells
 try simp only []
 have hl := zWC 5 n.natAbs (by omega)
 generalize hsg : decide (n < 0) = sg
 simp only [zKG, go_sem, hsg]
 refine zzo (fun s : List Int × Int => ⟨[(0, .d (.int .i64 s.2)), (2, .ptr 2 0), (4, .d (.bool sg)), (3, .own 3 1 (s.1.map icell))], [(2, [.d (.bool false), .full []])], [(3, true)]⟩) (fun s => s.1 ++ digs s.2.natAbs = digs n.natAbs ∧ s.2.natAbs ≤ 9223372036854775808) (fun s => s.2.natAbs) ([], n) ?_ ⟨rfl, by simp only []; omega⟩ ?_
 ·exact zxc 3 3 1 [] [(3, 3)] rfl (by simp) rfl (by simp only [Ent0, go_sem, cN, oS, mN])
 ·rintro ⟨a, m⟩ ⟨h, hb⟩
  simp only at h hb
  have hal : a.length ≤ 5 := by have := congrArg List.length h; simp only [lA] at this; omega
  by_cases hm : m = 0
  ·subst hm
   have h0 : ((0 : Int) != 0) = false := rfl
   rw [show (0 : Int).natAbs = 0 from rfl, zzC, List.append_nil] at h
   simp only [zkp, go_sem, h0]
   exact by rw [h]
  ·have h0 : (m != 0) = true := by simpa using hm
   have hd := zzQ (n := m.natAbs) (by omega)
   have hq : (m.tdiv 10000).natAbs = m.natAbs / 10000 := by rw [Int.natAbs_tdiv]; rfl
   have hr : (m.tmod 10000).natAbs = m.natAbs % 10000 := by rw [Int.natAbs_tmod]; rfl
   have hwq : IntKind.i64.wrap (m.tdiv 10000) = m.tdiv 10000 := i64_in _ (by omega)
   have hdn2 : decide (((m.natAbs % 10000 : Nat) : Int) < 0) = false := decide_eq_false (by omega)
   by_cases hneg : m.tmod 10000 < 0
   ·have hdn := decide_eq_true hneg
    have hw : IntKind.i64.wrap (0 - m.tmod 10000) = ((m.natAbs % 10000 : Nat) : Int) := (i64_in _ (by omega)).trans (by omega)
    simp only [zkp, go_sem, h0, hdn, hdn2, hw, hwq]
    refine ⟨by decide, ⟨by simp, by omega, by omega⟩, by decide, (a ++ [((m.natAbs % 10000 : Nat) : Int)], m.tdiv 10000), zzs [(3, 19)] ?_, ⟨by rw [← h, hd, hq, List.append_assoc]; rfl, by simp only [hq]; omega⟩, by simp only [hq]; omega⟩
    simp only [go_sem, cN, oS, mA, mC, mN, icell, hwq]
   ·have hdn := decide_eq_false hneg
    have hw : m.tmod 10000 = ((m.natAbs % 10000 : Nat) : Int) := by omega
    simp only [zkp, go_sem, h0, hdn, hdn2, hw, hwq]
    refine ⟨by decide, ⟨by simp, by omega, by omega⟩, by decide, (a ++ [((m.natAbs % 10000 : Nat) : Int)], m.tdiv 10000), zzs [(3, 19)] ?_, ⟨by rw [← h, hd, hq, List.append_assoc]; rfl, by simp only [hq]; omega⟩, by simp only [hq]; omega⟩
    simp only [go_sem, cN, oS, mA, mC, mN, icell, hwq]
end Go.Abs
end
section
namespace Go.Abs
theorem zji (o : List Int) (t : Int) : val (o ++ [t]) = val o + 10000 ^ o.length * t := by
 rw [zzu]; simp [val]
theorem zZ9 (b : List Int) (i : Nat) : val (b.take (i + 1)) = val (b.take i) + 10000 ^ i * b.getD i 0 := by
 rcases Nat.lt_or_ge i b.length with h | h
 ·rw [List.take_succ_eq_append_getElem h, zji, List.length_take, Nat.min_eq_left (by omega)]
  simp [List.getD_eq_getElem?_getD, h]
 ·rw [List.take_of_length_le (by omega), List.take_of_length_le h]
  simp [List.getD_eq_getElem?_getD, h]
theorem zQ6 {o d b : List Int} {c x y t c1 : Int} (h : val o - 10000 ^ o.length * c = val d - val (b.take d.length)) (hl : o.length = d.length) (hy : y = b.getD d.length 0) (ht : t - 10000 * c1 = x - y - c) :
  val (o ++ [t]) - 10000 ^ (o ++ [t]).length * c1 = val (d ++ [x]) - val (b.take (d ++ [x]).length) := by
 have e1 : (o ++ [t]).length = d.length + 1 := by simp [hl]
 have e2 : (d ++ [x]).length = d.length + 1 := by simp
 rw [e1, e2, zji, zji, zZ9, ← hy, hl, Int.pow_succ, Int.mul_assoc]
 rw [hl] at h
 have e3 := congrArg (fun z => (10000 : Int) ^ d.length * z) ht
 simp only [Int.mul_sub] at e3
 omega
theorem zZV {b : List Int} (hb : ∀ d ∈ b, Digit d) (i : Nat) : Digit (b.getD i 0) := by
 rcases Nat.lt_or_ge i b.length with h | h
 ·have : b.getD i 0 = b[i] := by simp [List.getD_eq_getElem?_getD, h]
  rw [this]; exact hb _ (List.getElem_mem h)
 ·have : b.getD i 0 = 0 := by simp [List.getD_eq_getElem?_getD, h]
  rw [this]; unfold Digit; omega
variable {E : AEnv} (Z : Sys E)
include Z
theorem zK4 {a b : List Int} (ha : ∀ d ∈ a, Digit d) (hb : ∀ d ∈ b, Digit d) (hl : b.length ≤ a.length) (hv : val b ≤ val a) (h200 : a.length ≤ 400) : E.C zwe [.one (.lst (a.map icell)), .one (.lst (b.map icell))] (.one (.lst ((digs (val a - val b).toNat).map icell))) := by
 refine Z.zwe _ _ ⟨bl rfl, ?_⟩
 generalize hR : digs (val a - val b).toNat = R
 simp only [zZl, go_sem]
 refine zze fun K hK => ?_
 refine zzo (fun s : MulS => ⟨[(0, .d (.lst (a.map icell))), (1, .d (.lst (b.map icell))), (7, .d (.int .i64 s.d.length)), (6, .d (.int .i64 s.c)), (5, .own 5 1 (s.p.map icell))], [], [(5, true)]⟩)
  (fun s => s.d ++ s.r = a ∧ (∀ z ∈ s.p, Digit z) ∧ s.p.length = s.d.length ∧ (0 ≤ s.c ∧ s.c ≤ 1) ∧ val s.p - 10000 ^ s.p.length * s.c = val s.d - val (b.take s.d.length)) (fun s => s.r.length) ⟨[], a, [], [], 0⟩ ?_ ⟨rfl, by simp, rfl, by simp, by simp [val]⟩ ?_
 ·exact zxc 5 5 1 [] [(5, 5)] rfl (by simp) rfl (by simp only [Ent0, go_sem, cN, oS, mN, lN, nZ])
 ·rintro ⟨d, r, o, q, c⟩ ⟨g1, g2, g3, g4, g5⟩
  simp only at g1 g2 g3 g4 g5
  cases r with
  | nil =>
   rw [List.append_nil] at g1
   subst g1
   rw [List.take_of_length_le hl] at g5
   have hlt := zvq g2
   have hc : c = 0 := by
    rcases Int.lt_or_le c 1 with h | h
    ·omega
    ·have : c = 1 := by omega
     subst this; omega
   subst hc
   have ht := zwh g2
   rw [show val o = val d - val b by omega, hR] at ht
   have htr := zvh Z o (by omega)
   rw [ht] at htr
   simp only [zwN, go_sem, Int.lt_irrefl, decide_false, hK]
   intro _
   refine ⟨_, htr, ?_⟩
   simp only [go_sem]
  | cons x r =>
   have hal : d.length + (r.length + 1) = a.length := by rw [← g1]; simp
   have hlt : ((d.length : Int) < (a.length : Int)) = True := eq_true (by omega)
   have hdd : decide ((d.length : Int) < (a.length : Int)) = true := decide_eq_true (by omega)
   have hw1 : IntKind.i64.wrap ((d.length : Int) + 1) = ((d.length + 1 : Nat) : Int) := zzd (by omega)
   have hx : Digit x := ha x (by rw [← g1]; simp)
   have hd := zkv Z b d.length (by omega)
   have hy := zZV hb d.length
   have hst := fun t c1 => zQ6 (x := x) (t := t) (c1 := c1) g5 g3 rfl
   generalize b.getD d.length 0 = y at *
   unfold Digit at hx hy
   have hwa : IntKind.i64.wrap (x - y) = x - y := i64_in _ (by omega)
   have hwb : IntKind.i64.wrap (x - y - c) = x - y - c := i64_in _ (by omega)
   simp only [zwN, go_sem, hdd, hlt, getD_at g1.symm, icell, Int.toNat_natCast]
   try intro _
   refine ⟨_, hd, ?_⟩
   simp only [go_sem, hwa, hwb]
   have hwc : IntKind.i64.wrap (x - y - c + 10000) = x - y - c + 10000 := i64_in _ (by omega)
   have hol : o.length ≤ 400 := by omega
   cases hneg : decide (x - y - c < 0) with
   | true =>
    have hneg' := of_decide_eq_true hneg
    have hs1 := hst (x - y - c + 10000) 1 (by omega)
    simp only [go_sem, hwc, hw1]
    refine ⟨⟨by simp, by omega, by omega⟩, ⟨d ++ [x], r, o ++ [x - y - c + 10000], [], 1⟩, zzs [(5, 32)] ?_, ⟨by rw [← g1, List.append_assoc]; rfl, ?_, by simp [g3], by simp, hs1⟩, by simp⟩
    ·simp only [go_sem, cN, oS, mA, mC, mN, icell, hw1, lA, lC, lN, zA]
    ·intro z hz
     rcases List.mem_append.1 hz with h | h
     ·exact g2 z h
     ·rw [List.mem_singleton.1 h]; unfold Digit; omega
   | false =>
    have hneg' := of_decide_eq_false hneg
    have hs1 := hst (x - y - c) 0 (by omega)
    simp only [go_sem, hw1]
    refine ⟨⟨by simp, by omega, by omega⟩, ⟨d ++ [x], r, o ++ [x - y - c], [], 0⟩, zzs [(5, 32)] ?_, ⟨by rw [← g1, List.append_assoc]; rfl, ?_, by simp [g3], by simp, hs1⟩, by simp⟩
    ·simp only [go_sem, cN, oS, mA, mC, mN, icell, hw1, lA, lC, lN, zA]
    ·intro z hz
     rcases List.mem_append.1 hz with h | h
     ·exact g2 z h
     ·rw [List.mem_singleton.1 h]; unfold Digit; omega
end Go.Abs
end
section
namespace Go.Abs
theorem yyW {o a b : List Int} {i : Nat} {c x y t c1 : Int} (h : val o + 10000 ^ o.length * c = val (a.take i) + val (b.take i)) (hl : o.length = i) (hx : x = a.getD i 0) (hy : y = b.getD i 0) (ht : t + 10000 * c1 = x + y + c) :
  val (o ++ [t]) + 10000 ^ (o ++ [t]).length * c1 = val (a.take (i + 1)) + val (b.take (i + 1)) := by
 have e1 : (o ++ [t]).length = i + 1 := by simp [hl]
 rw [e1, zji, zZ9, zZ9, ← hx, ← hy, hl, Int.pow_succ, Int.mul_assoc]
 rw [hl] at h
 have e3 := congrArg (fun z => (10000 : Int) ^ i * z) ht
 simp only [Int.mul_add] at e3
 omega
variable {E : AEnv} (Z : Sys E)
include Z
theorem zJc {a b : List Int} (ha : ∀ d ∈ a, Digit d) (hb : ∀ d ∈ b, Digit d) (h200 : a.length ≤ 400) (h201 : b.length ≤ 400) : E.C zjb [.one (.lst (a.map icell)), .one (.lst (b.map icell))] (.one (.lst ((digs (val a + val b).toNat).map icell))) := by
 refine Z.zjb _ _ ⟨bl rfl, ?_⟩
 generalize hR : digs (val a + val b).toNat = R
 simp only [zYw, go_sem]
 refine zze fun K hK => ?_
 refine zzo (fun s : List Int × Int => ⟨[(0, .d (.lst (a.map icell))), (1, .d (.lst (b.map icell))), (7, .d (.int .i64 s.1.length)), (6, .d (.int .i64 s.2)), (5, .own 5 1 (s.1.map icell))], [], [(5, true)]⟩)
  (fun s => (∀ z ∈ s.1, Digit z) ∧ (0 ≤ s.2 ∧ s.2 ≤ 1) ∧ s.1.length ≤ 401 ∧ val s.1 + 10000 ^ s.1.length * s.2 = val (a.take s.1.length) + val (b.take s.1.length) ∧ (s.1.length = 401 → s.2 = 0)) (fun s => 2 * (402 - s.1.length) + s.2.toNat) ([], 0) ?_ ⟨by simp, by simp, by simp, by simp [val], by simp⟩ ?_
 ·exact zxc 5 5 1 [] [(5, 5)] rfl (by simp) rfl (by simp only [Ent0, go_sem, cN, oS, mN, lN, nZ])
 ·rintro ⟨o, c⟩ ⟨g2, g4, g6, g5, g7⟩
  simp only at g2 g4 g5 g6 g7
  by_cases hend : a.length ≤ o.length ∧ b.length ≤ o.length ∧ c = 0
  ·obtain ⟨q1, q2, q3⟩ := hend
   subst q3
   rw [List.take_of_length_le q1, List.take_of_length_le q2] at g5
   have ht := zwh g2
   rw [show val o = val a + val b by omega, hR] at ht
   have htr := zvh Z o (by omega)
   rw [ht] at htr
   have d1 : decide ((o.length : Int) < (a.length : Int)) = false := decide_eq_false (by omega)
   have d2 : decide ((o.length : Int) < (b.length : Int)) = false := decide_eq_false (by omega)
   have d3 : decide ((0 : Int) > 0) = false := rfl
   simp only [zy8, go_sem, d1, d2, d3, hK]
   repeat intro _
   refine ⟨_, htr, ?_⟩
   simp only [go_sem]
  ·have hw1 : IntKind.i64.wrap ((o.length : Int) + 1) = ((o.length + 1 : Nat) : Int) := zzd (by omega)
   have hd1 := zkv Z a o.length (by omega)
   have hd2 := zkv Z b o.length (by omega)
   have hx := zZV ha o.length
   have hy := zZV hb o.length
   have hst := fun t c1 => yyW (t := t) (c1 := c1) g5 rfl rfl rfl
   have hz : o.length = 401 → False := by
    intro h; exact hend ⟨by omega, by omega, g7 h⟩
   have hz2 : o.length = 400 → a.getD o.length 0 = 0 ∧ b.getD o.length 0 = 0 := by
    intro h; constructor <;> (rw [List.getD_eq_getElem?_getD, List.getElem?_eq_none (by omega)]; rfl)
   generalize a.getD o.length 0 = x at *
   generalize b.getD o.length 0 = y at *
   unfold Digit at hx hy
   have hwa : IntKind.i64.wrap (x + y) = x + y := i64_in _ (by omega)
   have hwb : IntKind.i64.wrap (x + y + c) = x + y + c := i64_in _ (by omega)
   have htm : (x + y + c).tmod 10000 = (x + y + c) % 10000 := Int.tmod_eq_emod_of_nonneg (by omega)
   have htd : (x + y + c).tdiv 10000 = (x + y + c) / 10000 := Int.tdiv_eq_ediv_of_nonneg (by omega)
   have hs1 := hst ((x + y + c) % 10000) ((x + y + c) / 10000) (by omega)
   have hwq : IntKind.i64.wrap ((x + y + c) / 10000) = (x + y + c) / 10000 := i64_in _ (by omega)
   have hol : (o ++ [(x + y + c) % 10000]).length = o.length + 1 := by simp
   have fin : ∀ st2 : St, Ent st2 ⟨[(0, .d (.lst (a.map icell))), (1, .d (.lst (b.map icell))), (7, .d (.int .i64 (o ++ [(x + y + c) % 10000]).length)), (6, .d (.int .i64 ((x + y + c) / 10000))), (5, .own 5 1 ((o ++ [(x + y + c) % 10000]).map icell))], [], [(5, true)]⟩ →
     ∃ a' : List Int × Int, Ent st2 ⟨[(0, .d (.lst (a.map icell))), (1, .d (.lst (b.map icell))), (7, .d (.int .i64 a'.1.length)), (6, .d (.int .i64 a'.2)), (5, .own 5 1 (a'.1.map icell))], [], [(5, true)]⟩ ∧ ((∀ z ∈ a'.1, Digit z) ∧ (0 ≤ a'.2 ∧ a'.2 ≤ 1) ∧ a'.1.length ≤ 401 ∧ val a'.1 + 10000 ^ a'.1.length * a'.2 = val (a.take a'.1.length) + val (b.take a'.1.length) ∧ (a'.1.length = 401 → a'.2 = 0)) ∧ 2 * (402 - a'.1.length) + a'.2.toNat < 2 * (402 - o.length) + c.toNat := by
    intro st2 he
    refine ⟨(o ++ [(x + y + c) % 10000], (x + y + c) / 10000), he, ⟨?_, by simp only []; omega, by simp only [hol]; omega, by simp only [hol] at hs1 ⊢; exact hs1, ?_⟩, by simp only [hol]; omega⟩
    ·intro z hz
     rcases List.mem_append.1 hz with h | h
     ·exact g2 z h
     ·rw [List.mem_singleton.1 h]; unfold Digit; omega
    ·simp only [hol]
     intro h
     have := hz2 (by omega)
     omega
   cases d1 : decide ((o.length : Int) < (a.length : Int)) with
   | true =>
    simp only [zy8, go_sem, d1]
    repeat intro _
    refine ⟨_, hd1, ?_⟩
    simp only [go_sem]
    refine ⟨_, hd2, ?_⟩
    simp only [go_sem, hwa, hwb, htm, htd, hwq, hw1]
    refine ⟨by decide, ⟨by simp, by omega, by omega⟩, by decide, fin _ (zzs [(5, 38)] ?_)⟩
    simp only [go_sem, cN, oS, mA, mC, mN, icell, lA, lC, lN, zA]
   | false =>
    cases d2 : decide ((o.length : Int) < (b.length : Int)) with
    | true =>
     simp only [zy8, go_sem, d1, d2]
     repeat intro _
     refine ⟨_, hd1, ?_⟩
     simp only [go_sem]
     refine ⟨_, hd2, ?_⟩
     simp only [go_sem, hwa, hwb, htm, htd, hwq, hw1]
     refine ⟨by decide, ⟨by simp, by omega, by omega⟩, by decide, fin _ (zzs [(5, 38)] ?_)⟩
     simp only [go_sem, cN, oS, mA, mC, mN, icell, lA, lC, lN, zA]
    | false =>
     have d3 : decide (c > 0) = true := decide_eq_true (by have := of_decide_eq_false d1; have := of_decide_eq_false d2; omega)
     simp only [zy8, go_sem, d1, d2, d3]
     repeat intro _
     refine ⟨_, hd1, ?_⟩
     simp only [go_sem]
     refine ⟨_, hd2, ?_⟩
     simp only [go_sem, hwa, hwb, htm, htd, hwq, hw1]
     refine ⟨by decide, ⟨by simp, by omega, by omega⟩, by decide, fin _ (zzs [(5, 38)] ?_)⟩
     simp only [go_sem, cN, oS, mA, mC, mN, icell, lA, lC, lN, zA]
end Go.Abs
end
section
namespace Go.Abs
theorem zVo {n : Bool} {z : Int} (h : z ≠ 0 → n = decide (z < 0)) : signB n (trimZ (digs z.natAbs)) = fitB z := by
 rw [zwh (zzG _), zzx, Int.toNat_natCast, zWX h]
theorem zKq (k : Nat) {m n : Nat} (hm : (digs m).length ≤ k) (hn : (digs n).length ≤ k) : (digs (m + n)).length ≤ k + 1 := by
 rcases Nat.lt_or_ge (k + 1) (digs (m + n)).length with h | h
 ·have h1 := zvq (zzG m)
  have h2 := zvq (zzG n)
  have h3 := zja hm
  have h4 := zja hn
  have h5 := zQe (zy4 (m + n)) (by intro h0; rw [h0] at h; simp at h)
  have h6 := zja (m := k + 1) (n := (digs (m + n)).length - 1) (by omega)
  rw [zzx] at h1 h2 h5
  rw [Int.pow_succ] at h6
  have h7 : (0 : Int) < 10000 ^ k := Int.pow_pos (by decide)
  omega
 ·exact h
variable {E : AEnv} (Z : Sys E)
include Z
theorem neg_Z {x : Int} (hx : fitsZ x) : E.C zzH [.agg (bigZ x).cells] (.one (.bool (decide (x < 0)))) := by
 have := zYY Z (bigZ x)
 rwa [zXh hx, Bool.true_and] at this
theorem zj1 {x : Int} (hx : fitsZ x) : E.C zyA [.agg (bigZ x).cells] (.one (.lst ((digs x.natAbs).map icell))) := by
 have := zWT Z (bigZ x)
 rwa [zXh hx, if_pos rfl] at this
theorem zjl {m n : Nat} (h : n ≤ m) (hm : (digs m).length ≤ 200) : E.C zwe [.one (.lst ((digs m).map icell)), .one (.lst ((digs n).map icell))] (.one (.lst ((digs ((m : Int) - n).toNat).map icell))) := by
 have := zK4 Z (zzG m) (zzG n) (zvw h) (by rw [zzx, zzx]; omega) (by omega)
 rwa [zzx, zzx] at this
theorem yze {x y : Int} (hx : fitsZ x) (hy : fitsZ y) : E.C zq6 [.agg (bigZ x).cells, .agg (bigZ y).cells] (resB (fitB (x + y))) := by
 have n1 := neg_Z Z hx
 have n2 := neg_Z Z hy
 have h1 := zj1 Z hx
 have h2 := zj1 Z hy
 unfold fitsZ at hx hy
 have hp := zJc Z (zzG x.natAbs) (zzG y.natAbs) (by omega) (by omega)
 rw [zzx, zzx, ← Int.natCast_add, Int.toNat_natCast] at hp
 have hc := zK5 Z (digs x.natAbs) (digs y.natAbs)
 rw [zWB (zy4 _) (zy4 _), zzx, zzx] at hc
 have hge := ykh x.natAbs y.natAbs
 refine Z.zq6 _ _ ⟨bl rfl, ?_⟩
 have hsame := add_same (x := x) (y := y)
 have hd1 := zZQ (x := x) (y := y)
 have hd2 := zZQ (x := y) (y := x)
 have hs := fun n z (h : z ≠ 0 → n = decide (z < 0)) (hl : (digs z.natAbs).length ≤ 1000) => (zVo h) ▸ zqy Z n (digs z.natAbs) hl
 generalize hF : fitB (x + y) = F
 obtain ⟨⟨f1, f2⟩, f3⟩ := F
 simp only [bigZ, BigT.cells] at *
 generalize decide (x < 0) = sx at *
 generalize decide (y < 0) = sy at *
 try simp only [resB, BigT.cells]
 simp only [zXP, go_sem]
 refine ⟨_, h1, ?_⟩
 simp only [go_sem]
 refine ⟨_, h2, ?_⟩
 simp only [go_sem]
 refine ⟨_, n1, ?_⟩
 simp only [go_sem]
 refine ⟨_, n2, ?_⟩
 simp only [go_sem]
 by_cases h0 : sx = sy
 ·obtain ⟨e1, e2⟩ := hsame h0
  have hlen := zKq 200 hx hy
  rw [e1] at hp hlen
  have hs := hs sx (x + y) e2 (by omega)
  rw [hF] at hs
  try simp only [resB, BigT.cells] at hs
  have hb : (sx == sy) = true := by simp [h0]
  simp only [hb, go_sem]
  refine ⟨_, n1, ?_⟩
  simp only [go_sem]
  refine ⟨_, hp, ?_⟩
  simp only [go_sem]
  refine ⟨_, hs, ?_⟩
  simp only [go_sem]
  try exact ⟨⟨rfl, rfl⟩, rfl⟩
 ·have hb : (sx == sy) = false := by simp [h0]
  simp only [hb, go_sem]
  refine ⟨_, hc, ?_⟩
  simp only [go_sem, hge]
  cases hd : decide (y.natAbs ≤ x.natAbs) with
  | true =>
   have hd' := of_decide_eq_true hd
   obtain ⟨e1, e2⟩ := hd1 h0 hd'
   have hm := zjl Z hd' hx
   have hlen := zvw (m := x.natAbs) (n := (x + y).natAbs) (by omega)
   rw [e1] at hm
   have hs := hs sx (x + y) e2 (by omega)
   rw [hF] at hs
   try simp only [resB, BigT.cells] at hs
   simp only [go_sem]
   refine ⟨_, n1, ?_⟩
   simp only [go_sem]
   refine ⟨_, hm, ?_⟩
   simp only [go_sem]
   refine ⟨_, hs, ?_⟩
   simp only [go_sem]
   try exact ⟨⟨rfl, rfl⟩, rfl⟩
  | false =>
   have hd' := of_decide_eq_false hd
   obtain ⟨e1, e2⟩ := hd2 (Ne.symm h0) (by omega)
   have hm := zjl Z (m := y.natAbs) (n := x.natAbs) (by omega) hy
   have hlen := zvw (m := y.natAbs) (n := (y + x).natAbs) (by omega)
   rw [e1] at hm
   have hs := hs sy (y + x) e2 (by omega)
   rw [Int.add_comm y x, hF] at hs
   rw [Int.add_comm y x] at hm
   try simp only [resB, BigT.cells] at hs
   simp only [go_sem]
   refine ⟨_, n2, ?_⟩
   simp only [go_sem]
   refine ⟨_, hm, ?_⟩
   simp only [go_sem]
   refine ⟨_, hs, ?_⟩
   simp only [go_sem]
   try exact ⟨⟨rfl, rfl⟩, rfl⟩
end Go.Abs
end
section
namespace Go.Abs
theorem yvd {p q : List Int} {z t : Int} : val (p ++ t :: q) = val (p ++ z :: q) + 10000 ^ p.length * (t - z) := by
 rw [zzu, zzu]; simp only [val, Int.mul_add, Int.mul_sub]; omega
theorem yzy {p q b : List Int} {i j : Nat} {z c x W : Int} (h : val (p ++ z :: q) + 10000 ^ (i + j) * c = W + 10000 ^ i * (x * val (b.take j))) (hp : p.length = i + j) :
  val (p ++ ((z + x * b.getD j 0 + c) % 10000) :: q) + 10000 ^ (i + (j + 1)) * ((z + x * b.getD j 0 + c) / 10000) = W + 10000 ^ i * (x * val (b.take (j + 1))) := by
 have e : (z + x * b.getD j 0 + c) % 10000 - z + 10000 * ((z + x * b.getD j 0 + c) / 10000) = c + x * b.getD j 0 := by omega
 have e2 := congrArg (fun w => (10000 : Int) ^ (i + j) * w) e
 have e3 : (10000 : Int) ^ i * (x * val (b.take (j + 1))) = 10000 ^ i * (x * val (b.take j)) + 10000 ^ (i + j) * (x * b.getD j 0) := by
  rw [zZ9, zZ3, Int.mul_add, Int.mul_add, Int.mul_left_comm x, ← Int.mul_assoc (10000 ^ i) (10000 ^ j)]
 rw [e3, yvd (z := z), hp, ← Nat.add_assoc, Int.pow_succ, Int.mul_assoc]
 simp only [Int.mul_add] at e2
 omega
variable {E : AEnv} (Z : Sys E)
include Z
theorem zK6 {a b : List Int} (ha : ∀ d ∈ a, Digit d) (hb : ∀ d ∈ b, Digit d) (h200 : a.length ≤ 200) (h201 : b.length ≤ 200) : E.C zkT [.one (.lst (a.map icell)), .one (.lst (b.map icell))] (.one (.lst ((digs (val a * val b).toNat).map icell))) := by
 refine Z.zkT _ _ ⟨bl rfl, ?_⟩
 generalize hR : digs (val a * val b).toNat = R
 simp only [zZn, go_sem]
 intro _ _
 have hw : IntKind.i64.wrap ((a.length : Int) + b.length) = ((a.length + b.length : Nat) : Int) := (i64_in _ (by omega)).trans (by omega)
 rw [hw, Int.toNat_natCast, zkF]
 have hrep : List.replicate (a.length + b.length) (AV.d (D.int IntKind.i64 0)) = acs (List.replicate (a.length + b.length) 0) := by simp [acs]
 rw [hrep]
 refine ⟨⟨by omega, by omega, by omega⟩, ?_⟩
 refine zze fun K0 hK0 => ?_
 refine zzo (fun s : List Int × List Int × List Int => ⟨[(6, .d (.int .i64 s.1.length)), (0, .d (.lst (a.map icell))), (1, .d (.lst (b.map icell))), (5, .vec 15 1 0 (a.length + b.length) (a.length + b.length))], [(15, acs s.2.2)], []⟩)
  (fun s => s.1 ++ s.2.1 = a ∧ (∀ d ∈ s.2.2, Digit d) ∧ s.2.2.length = a.length + b.length ∧ val s.2.2 = val s.1 * val b) (fun s => s.2.1.length) ([], a, List.replicate (a.length + b.length) 0) ?_ ⟨rfl, fun d hd => by rw [(List.mem_replicate.1 hd).2]; unfold Digit; omega, by simp, by rw [zXg]; simp [val]⟩ ?_
 ·exact zzc (by simp only [go_sem, oS, lN, nZ, zzg])
 ·rintro ⟨d, r, L⟩ ⟨g1, g2, g3, g4⟩
  simp only at g1 g2 g3 g4
  cases r with
  | nil =>
   rw [List.append_nil] at g1
   subst g1
   have ht := zwh g2
   rw [g4, hR] at ht
   have htr := zvh Z L (by omega)
   rw [ht] at htr
   simp only [zwP, go_sem, Int.lt_irrefl, decide_false, hK0]
   repeat intro _
   refine zZT (zvY rfl g3) rfl rfl htr ?_
   simp only [go_sem, St.noBox]
  | cons x r =>
   have hal : d.length + (r.length + 1) = a.length := by rw [← g1]; simp
   have hdd : decide ((d.length : Int) < (a.length : Int)) = true := decide_eq_true (by omega)
   simp only [zwP, go_sem, hdd]
   intro _
   have hx : Digit x := ha x (by rw [← g1]; simp)
   have hlt : ((d.length : Int) < (a.length : Int)) = True := eq_true (by omega)
   have hw1 : IntKind.i64.wrap ((d.length : Int) + 1) = ((d.length + 1 : Nat) : Int) := zzd (by omega)
   refine zze fun K hK => ?_
   refine zzo (fun s : Nat × List Int × Int => ⟨[(8, .d (.int .i64 s.1)), (7, .d (.int .i64 s.2.2)), (6, .d (.int .i64 d.length)), (0, .d (.lst (a.map icell))), (1, .d (.lst (b.map icell))), (5, .vec 15 1 0 (a.length + b.length) (a.length + b.length))], [(15, acs s.2.1)], []⟩)
    (fun s => (∀ z ∈ s.2.1, Digit z) ∧ s.2.1.length = a.length + b.length ∧ (0 ≤ s.2.2 ∧ s.2.2 ≤ 9999) ∧ s.1 ≤ b.length + 1 ∧ (s.1 = b.length + 1 → s.2.2 = 0) ∧ val s.2.1 + 10000 ^ (d.length + s.1) * s.2.2 = val d * val b + 10000 ^ d.length * (x * val (b.take s.1))) (fun s => b.length + 2 - s.1) (0, L, 0) ?_ ⟨g2, g3, by simp, by simp, by simp, by simp [val, g4]⟩ ?_
   ·exact zzc (by simp only [go_sem, oS, nZ, zzg])
   ·rintro ⟨j, M, c⟩ ⟨k1, k2, k3, k4, k5, k6⟩
    simp only at k1 k2 k3 k4 k5 k6
    by_cases hend : b.length ≤ j ∧ c = 0
    ·obtain ⟨q1, q2⟩ := hend
     subst q2
     rw [List.take_of_length_le q1] at k6
     have d1 : decide ((j : Int) < (b.length : Int)) = false := decide_eq_false (by omega)
     have d2 : decide ((0 : Int) > 0) = false := rfl
     simp only [zxx, go_sem, d1, d2, hK, hw1]
     repeat intro _
     refine ⟨(d ++ [x], r, M), zzc (by simp only [go_sem, oS, lA, lC, lN, zA, zzg]), ⟨by rw [← g1, List.append_assoc]; rfl, k1, k2, ?_⟩, by simp⟩
     show val M = val (d ++ [x]) * val b
     rw [zji, Int.add_mul, Int.mul_assoc]
     omega
    ·have hj : j ≤ b.length := by
       rcases Nat.lt_or_ge b.length j with h | h
       ·exact absurd ⟨by omega, k5 (by omega)⟩ hend
       ·exact h
     obtain ⟨p, z, q, e1, e2⟩ : ∃ p z q, M = p ++ z :: q ∧ p.length = d.length + j := by
      have hlt2 : d.length + j < M.length := by omega
      exact ⟨M.take (d.length + j), M[d.length + j], M.drop (d.length + j + 1), by rw [List.getElem_cons_drop, List.take_append_drop], by rw [List.length_take]; omega⟩
     have hz : Digit z := k1 z (by rw [e1]; simp)
     have hdg := zkv Z b j (by omega)
     have hy := zZV hb j
     have hstep := yzy (e1 ▸ k6) e2
     obtain ⟨m1, m2, m3, m4⟩ := zYi k3 hz hx hy
     have hg := zz8 e1 e2
     have hst := fun t => zxp (y := t) e1 e2
     have hro := zzX e1 e2
     have hlt3 : (((d.length + j : Nat) : Int) < ((a.length + b.length : Nat) : Int)) = True := eq_true (by omega)
     have hw2 : IntKind.i64.wrap ((d.length : Int) + (j : Int)) = ((d.length + j : Nat) : Int) := (i64_in _ (by omega)).trans (by omega)
     have hw5 : IntKind.i64.wrap ((j : Int) + 1) = ((j + 1 : Nat) : Int) := zzd (by omega)
     have hyz : j = b.length → b.getD j 0 = 0 := by
      intro h; rw [List.getD_eq_getElem?_getD, List.getElem?_eq_none (by omega)]; rfl
     generalize b.getD j 0 = y at *
     have hend2 : j = b.length → 0 < c := by
      intro h
      rcases Int.lt_or_le 0 c with h' | h'
      ·exact h'
      ·exact absurd ⟨by omega, by omega⟩ hend
     have hwm : IntKind.i64.wrap (x * y) = x * y := i64_in _ (by omega)
     unfold Digit at hz
     have hco : c + (z + x * y) = z + x * y + c := by omega
     rw [hco] at m3 m4
     generalize htt : x * y = t at *
     have hwa : IntKind.i64.wrap (z + t) = z + t := i64_in _ (by omega)
     have hwb : IntKind.i64.wrap (z + t + c) = z + t + c := i64_in _ (by omega)
     have htm : (z + t + c).tmod 10000 = (z + t + c) % 10000 := Int.tmod_eq_emod_of_nonneg (by omega)
     have htd : (z + t + c).tdiv 10000 = (z + t + c) / 10000 := Int.tdiv_eq_ediv_of_nonneg (by omega)
     have hwq : IntKind.i64.wrap ((z + t + c) / 10000) = (z + t + c) / 10000 := i64_in _ (by omega)
     have hlen : (p ++ ((z + t + c) % 10000) :: q).length = a.length + b.length := by rw [← k2, e1]; simp
     have hdig : ∀ g ∈ p ++ ((z + t + c) % 10000) :: q, Digit g := by
      intro g hg
      rcases List.mem_append.1 hg with h | h
      ·exact k1 g (by rw [e1]; simp [h])
      ·rcases List.mem_cons.1 h with h | h
       ·rw [h]; unfold Digit; omega
       ·exact k1 g (by rw [e1]; simp [h])
     have hzero : j + 1 = b.length + 1 → (z + t + c) / 10000 = 0 := by
      intro h
      have hj2 : j = b.length := by omega
      rw [List.take_of_length_le (by omega)] at hstep
      have hbound : val d * val b + 10000 ^ d.length * (x * val b) < 10000 ^ (d.length + (j + 1)) := by
       have v1 : val d * val b + 10000 ^ d.length * (x * val b) = val (d ++ [x]) * val b := by rw [zji, Int.add_mul, Int.mul_assoc]
       have hdx : ∀ g ∈ d ++ [x], Digit g := fun g hg => by
        rcases List.mem_append.1 hg with h | h
        ·exact ha g (by rw [← g1]; simp [h])
        ·rw [List.mem_singleton.1 h]; exact hx
       have v2 : val (d ++ [x]) < 10000 ^ (d.length + 1) := by
        have := zvq hdx
        simpa using this
       have v3 := zvq hb
       have v4 : 0 ≤ val b := zxo hb
       have v5 : d.length + (j + 1) = (d.length + 1) + b.length := by omega
       rw [v1, v5, zZ3]
       exact Int.lt_of_le_of_lt (Int.mul_le_mul_of_nonneg_right (Int.le_of_lt v2) v4) (Int.mul_lt_mul_of_pos_left v3 (Int.pow_pos (by omega)))
      have hn := zxo hdig
      have hP : 0 < (10000 : Int) ^ (d.length + (j + 1)) := Int.pow_pos (by omega)
      generalize (10000 : Int) ^ (d.length + (j + 1)) = PP at *
      rcases Int.lt_or_le 0 ((z + t + c) / 10000) with h' | h'
      ·have : PP * 1 ≤ PP * ((z + t + c) / 10000) := Int.mul_le_mul_of_nonneg_left h' (by omega)
       omega
      ·omega
     cases d1 : decide ((j : Int) < (b.length : Int)) with
     | true =>
      simp only [zxx, go_sem, d1, hw2, hlt, hlt3, Int.toNat_natCast, Nat.mul_one, zA, hg, hro, getD_at g1.symm, icell]
      repeat intro _
      refine ⟨_, hdg, ?_⟩
      simp only [go_sem, htt, hwm, hwa, hwb, htm, htd, hwq, hw2, hlt3, Int.toNat_natCast, Nat.mul_one, zA, hro, hst, hw5]
      try simp only [ne_eq, true_and, and_true, Int.reduceEq, not_false_eq_true]
      exact ⟨(j + 1, p ++ ((z + t + c) % 10000) :: q, (z + t + c) / 10000), zzc (by simp only [go_sem, oS, zzg]), ⟨hdig, hlen, ⟨m3, m4⟩, by omega, hzero, hstep⟩, by simp only; omega⟩
     | false =>
      have d2 : decide (c > 0) = true := decide_eq_true (hend2 (by have := of_decide_eq_false d1; omega))
      simp only [zxx, go_sem, d1, d2, hw2, hlt, hlt3, Int.toNat_natCast, Nat.mul_one, zA, hg, hro, getD_at g1.symm, icell]
      repeat intro _
      refine ⟨_, hdg, ?_⟩
      simp only [go_sem, htt, hwm, hwa, hwb, htm, htd, hwq, hw2, hlt3, Int.toNat_natCast, Nat.mul_one, zA, hro, hst, hw5]
      try simp only [ne_eq, true_and, and_true, Int.reduceEq, not_false_eq_true]
      exact ⟨(j + 1, p ++ ((z + t + c) % 10000) :: q, (z + t + c) / 10000), zzc (by simp only [go_sem, oS, zzg]), ⟨hdig, hlen, ⟨m3, m4⟩, by omega, hzero, hstep⟩, by simp only; omega⟩
end Go.Abs
end
section
namespace Go.Abs
theorem zYp : ∀ {k n : Nat}, n < 10000 ^ k → (digs n).length ≤ k
 | 0, n, h => by
  have : n = 0 := by simpa using h
  rw [this, zzC]; simp
 | k + 1, n, h => by
  by_cases h0 : n = 0
  ·rw [h0, zzC]; simp
  ·rw [zzQ h0, lC]
   have := zYp (k := k) (n := n / 10000) (Nat.div_lt_of_lt_mul (by rw [Nat.mul_comm, ← Nat.pow_succ]; exact h))
   omega
theorem yz3 (n : Nat) : n < 10000 ^ (digs n).length := by
 have := zvq (zzG n)
 rw [zzx] at this
 exact Int.ofNat_lt.1 (by simpa using this)
theorem zKr {m n a b : Nat} (hm : (digs m).length ≤ a) (hn : (digs n).length ≤ b) : (digs (m * n)).length ≤ a + b := by
 refine zYp ?_
 have h1 := yz3 m
 have h2 := yz3 n
 have h3 : (10000 : Nat) ^ (digs m).length ≤ 10000 ^ a := Nat.pow_le_pow_right (by omega) hm
 have h4 : (10000 : Nat) ^ (digs n).length ≤ 10000 ^ b := Nat.pow_le_pow_right (by omega) hn
 rw [Nat.pow_add]
 exact Nat.mul_lt_mul'' (Nat.lt_of_lt_of_le h1 h3) (Nat.lt_of_lt_of_le h2 h4)
variable {E : AEnv} (Z : Sys E)
include Z
theorem yzf {x y : Int} (hx : fitsZ x) (hy : fitsZ y) : E.C zq7 [.agg (bigZ x).cells, .agg (bigZ y).cells] (resB (fitB (x * y))) := by
 have n1 := neg_Z Z hx
 have n2 := neg_Z Z hy
 have h1 := zj1 Z hx
 have h2 := zj1 Z hy
 unfold fitsZ at hx hy
 have hp := zK6 Z (zzG x.natAbs) (zzG y.natAbs) (by omega) (by omega)
 have hxy : ((x.natAbs : Int) * y.natAbs).toNat = (x * y).natAbs := by rw [Int.natAbs_mul, ← Int.natCast_mul, Int.toNat_natCast]
 rw [zzx, zzx, hxy] at hp
 have hlen := zKr hx hy
 rw [← Int.natAbs_mul] at hlen
 have hs := (zVo (n := decide (x < 0) != decide (y < 0)) (z := x * y) yyj) ▸ zqy Z (decide (x < 0) != decide (y < 0)) (digs (x * y).natAbs) (by omega)
 refine Z.zq7 _ _ ⟨bl rfl, ?_⟩
 generalize hF : fitB (x * y) = F at *
 obtain ⟨⟨f1, f2⟩, f3⟩ := F
 simp only [bigZ, BigT.cells] at *
 generalize decide (x < 0) = sx at *
 generalize decide (y < 0) = sy at *
 try simp only [resB, BigT.cells] at *
 simp only [zXQ, go_sem]
 refine ⟨_, n1, ?_⟩
 simp only [go_sem]
 refine ⟨_, n2, ?_⟩
 simp only [go_sem]
 refine ⟨_, h1, ?_⟩
 simp only [go_sem]
 refine ⟨_, h2, ?_⟩
 simp only [go_sem]
 refine ⟨_, hp, ?_⟩
 simp only [go_sem]
 refine ⟨_, hs, ?_⟩
 simp only [go_sem]
end Go.Abs
end
section
namespace Go.Abs
def plusZ (s m n : Int) : Int × Bool := (if okI (m * n) && okI (s + m * n) then s + m * n else 0, okI (m * n) && okI (s + m * n))
theorem yzZ {a r : List Coef} {x : Coef} {s : Str} (h : ∀ y ∈ a, (y.name == s) = false) (hx : (x.name == s) = true) : coefN (a ++ x :: r) s = x.n := by
 unfold coefN
 rw [List.find?_append, List.find?_eq_none.2 (fun y hy => by rw [h y hy]; simp), List.find?_cons, hx]; rfl
theorem yz0 {a : List Coef} {s : Str} (h : ∀ y ∈ a, (y.name == s) = false) : coefN a s = 0 := by
 unfold coefN
 rw [List.find?_eq_none.2 (fun y hy => by rw [h y hy]; simp)]
def resZ (r : Int × Bool) : CV := .tup [.agg (bz r.1), .one (.bool r.2)]
variable {E : AEnv} (Z : Sys E)
include Z
theorem zqz (a : Lin) (s : Str) : E.C zym [.agg a.cells, .one (.str s)] (.one (.int .i64 (coefN a.coefs s))) := by
 refine Z.zym _ _ ⟨bl rfl, ?_⟩
 obtain ⟨cs, k⟩ := a
 generalize hR : coefN cs s = R
 simp only [Lin.cells]
 simp only [zkq, go_sem]
 refine zze fun K hK => ?_
 refine zzh cs (fun done => ∀ y ∈ done, (y.name == s) = false) (fun done rest => ⟨[(5, .d (.int .i64 done.length)), (1, .d (.str s)), (2, .ptr 2 0)], [(2, [.d (.lst (cs.map Coef.cells)), .d (.int .i64 k)])], []⟩) ?_ (by simp) ?_ ?_
 ·exact zzc (by simp only [go_sem, oS, lN, nZ])
 ·intro done x r hl hI
  have hlt := zzw hl
  have hx := zzj (f := Coef.cells) hl rfl
  have hd : decide ((done.length : Int) < (cs.length : Int)) = true := decide_eq_true hlt
  obtain ⟨xn, xv⟩ := x
  simp only [Coef.cells] at hx
  simp only [zyN, go_sem, hlt, hd, hx, lM]
  intro hlen
  have hw : IntKind.i64.wrap ((done.length : Int) + 1) = ((done.length + 1 : Nat) : Int) := zzd (by omega)
  cases hc : (xn == s) with
  | true =>
   have := yzZ (r := r) (x := ⟨xn, xv⟩) hI hc
   rw [← hl, hR] at this
   subst this
   simp only [go_sem, hK]
  | false =>
   simp only [go_sem, hw]
   exact ⟨zzc (by simp only [go_sem, oS, lA, lC, lN, zA]), fun y hy => by
    rcases List.mem_append.1 hy with h | h
    ·exact hI y h
    ·rw [List.mem_singleton.1 h]; exact hc⟩
 ·intro hI
  rw [yz0 hI] at hR
  subst hR
  simp only [zyN, go_sem, Int.lt_irrefl, decide_false, hK, lM]
  try intro _
  try simp only [go_sem]
theorem zY0 {s m n : Int} (hs : fitsZ s) (hm : fitsZ m) (hn : inRange n = true) : E.C zvi [.agg (bz s), .agg (bz m), .one (.int .i64 n)] (resZ (plusZ s m n)) := by
 have hnr := hn
 rw [zzm] at hnr
 have hO := zYX Z n (by omega) (by omega)
 have hM := yzf Z hm (zkE hn)
 have hA := fun y (hy : fitsZ y) => yze Z hs hy
 refine Z.zvi _ _ ⟨bl rfl, ?_⟩
 unfold plusZ
 have hA := fun h => hA (m * n) (zyU.1 h)
 rw [zVW] at hM hA
 generalize m * n = w at *
 cases h1 : okI w with
 | false =>
  rw [h1] at hM
  simp only [resB, zjV, BigT.cells, bigZ, bz, mN, Bool.false_eq_true, if_false] at *
  simp only [zjy, go_sem]
  refine ⟨_, hO, ?_⟩
  simp only [go_sem]
  refine ⟨_, hM, ?_⟩
  simp only [go_sem, Int.natAbs_zero, zzC, mN, Int.lt_irrefl, decide_false]
 | true =>
  have hA := hA h1
  rw [h1] at hM
  generalize okI (s + w) = b2 at *
  simp only [resB, BigT.cells, bigZ, bz, if_true, Bool.true_and] at *
  simp only [zjy, go_sem]
  refine ⟨_, hO, ?_⟩
  simp only [go_sem]
  refine ⟨_, hM, ?_⟩
  simp only [go_sem]
  refine zzb hA ?_
  simp only [go_sem]
end Go.Abs
end
section
namespace Go.Abs
structure ComQ where
 d : List (Int × Row)
 r : List (Int × Row)
 t : List Int
 c : Int
theorem yyQ (V : List Str) (d : List (Int × Row)) (x : Int × Row) : opsQ V (d ++ [x]) = opsQ V d ++ opQ V x.1 x.2 := by simp [opsQ]
theorem ywS {t : List Int} {c : Int} {k : Nat} {m n : Int} (hk : k < t.length) : stepA (t ++ [c]) (k, m, n) = if (plusZ (t.getD k 0) m n).2 then some (t.set k (plusZ (t.getD k 0) m n).1 ++ [c]) else none := by
 unfold stepA plusZ
 simp only
 have h1 : (t ++ [c]).getD k 0 = t.getD k 0 := by
  rw [List.getD_eq_getElem?_getD, List.getElem?_append_left hk, List.getD_eq_getElem?_getD]
 rw [h1]
 cases okI (m * n) && okI (t.getD k 0 + m * n) with
 | false => simp
 | true =>
  simp only [if_true]
  rw [List.set_append_left _ _ hk]
theorem yxj {t : List Int} {c : Int} {k : Nat} {m n : Int} (hk : t.length = k) : stepA (t ++ [c]) (k, m, n) = if (plusZ c m n).2 then some (t ++ [(plusZ c m n).1]) else none := by
 subst hk
 unfold stepA plusZ
 simp only
 have h1 : (t ++ [c]).getD t.length 0 = c := by simp
 rw [h1]
 cases okI (m * n) && okI (c + m * n) with
 | false => simp
 | true => simp
theorem yxi {t p q : List Int} {x y : Int} {k : Nat} (h : t = p ++ x :: q) (hp : p.length = k) : t.set k y = p ++ y :: q := by subst h hp; simp
theorem yyo {t p q : List Int} {x : Int} {k : Nat} (h : t = p ++ x :: q) (hp : p.length = k) : t.getD k 0 = x := by subst h hp; simp
theorem zKO : inRange 0 = true := by decide
theorem zVQ {cs : List Coef} (h : ∀ c ∈ cs, inRange c.n = true) (s : Str) : inRange (coefN cs s) = true := by
 unfold coefN
 split
 ·rename_i c hc
  exact h c (List.mem_of_find?_eq_some hc)
 ·exact zKO
variable {E : AEnv} (Z : Sys E)
include Z
set_option maxHeartbeats 8000000 in
theorem zXq (l : List Row) (m : List BigT) : E.C zxR [.one (.lst (l.map Row.cells)), .one (.lst (m.map BigT.cells))] (resC (combS l m)) := by
 have hVd := fun x => zvS Z x
 have hC := zZG Z l
 have hN := zJf Z l
 refine Z.zxR _ _ ⟨bl rfl, ?_⟩
 generalize hR : combS l m = R
 unfold combS at hR
 try simp only [resC]
 simp only [zjr, go_sem]
 intro _ _
 cases c1 : ((l.length : Int) != (m.length : Int)) with
 | true =>
  rw [c1] at hR; simp only [Bool.true_or, if_true] at hR; subst hR
  simp only [go_sem, zwi, mN]
 | false =>
 rw [c1] at hR
 simp only [go_sem]
 refine zze fun K hK => ?_
 refine zzh m (fun done => ∀ p ∈ done, validB p = true) (fun done rest => ⟨[(7, .d (.int .i64 done.length)), (0, .d (.lst (l.map Row.cells))), (1, .d (.lst (m.map BigT.cells))), (5, .ptr 5 0)], [(5, [.d (.bool false), .full []])], []⟩) ?_ (by simp) ?_ ?_
 ·exact zzc (by simp only [go_sem, oS, lN, nZ])
 ·intro done x r hl2 hI
  have hlt := zzw hl2
  have hx := zzj (f := BigT.cells) hl2 rfl
  have hd : decide ((done.length : Int) < (m.length : Int)) = true := decide_eq_true hlt
  have hw : IntKind.i64.wrap ((done.length : Int) + 1) = ((done.length + 1 : Nat) : Int) := zzd (by omega)
  have hVx := hVd x
  have hall : validB x = false → m.all validB = false := fun h => by rw [hl2]; simp [h]
  simp only [BigT.cells] at hVx
  simp only [zxM, go_sem, hlt, hd, hx, lM, BigT.cells]
  try intro _
  refine zzb hVx ?_
  cases hv : validB x with
  | false =>
   rw [hall hv] at hR
   simp only [Bool.not_false, Bool.or_true, if_true] at hR
   subst hR
   simp only [go_sem, hK, zwi, mN]
  | true =>
   simp only [go_sem, hw]
   exact ⟨zzc (by simp only [go_sem, oS, lA, lC, lN, zA]), zxF hI hv⟩
 ·intro hI
  have c2 : m.all validB = true := List.all_eq_true.2 hI
  obtain ⟨v1, v2⟩ := zVv c2
  rw [c2] at hR
  simp only [go_sem] at hR
  have hml : (m.map zOf).length = m.length := by simp
  have hmc : (m.map BigT.cells).length = m.length := by simp
  simp only [zxM, go_sem, Int.lt_irrefl, decide_false, hK, lM]
  try intro _
  rw [v1]
  generalize m.map zOf = ms at *
  clear v1 hK K hI hVd
  have hll : l.length = ms.length := by have := c1; simp at this; omega
  unfold combZ at hR
  refine zze fun K hK => ?_
  have hzl : (l.zip ms).length = l.length := by rw [List.length_zip]; omega
  generalize hz : l.zip ms = zs at *
  refine zzh zs (fun done => ∀ p ∈ done, badR p = false) (fun done rest => ⟨[(8, .d (.int .i64 done.length)), (0, .d (.lst (l.map Row.cells))), (1, .d (.lst (ms.map bz))), (5, .ptr 5 0)], [(5, [.d (.bool false), .full []])], []⟩) ?_ (by simp) ?_ ?_
  ·exact zzc (by simp only [go_sem, oS, lN, nZ])
  ·intro done x r hl2 hI
   obtain ⟨fd, fr, sd, sr, e1, e2, e3, e4⟩ := zki (hz.trans hl2)
   have hx := zzj (f := Row.cells) e1 e3
   have hy := zzj (f := bz) e2 e4
   have hlt := zzw hl2
   rw [hzl] at hlt
   have hlt2 : ((done.length : Int) < (l.length : Int)) = True := eq_true hlt
   have hlt3 : ((done.length : Int) < (ms.length : Int)) = True := eq_true (by omega)
   have hd : decide ((done.length : Int) < (ms.length : Int)) = true := decide_eq_true (by omega)
   have hw : IntKind.i64.wrap ((done.length : Int) + 1) = ((done.length + 1 : Nat) : Int) := zzd (by omega)
   have hany : badR x = true → zs.any badR = true := fun hb => by rw [hl2]; simp [hb]
   obtain ⟨⟨⟨cs, k⟩, q⟩, z⟩ := x
   simp only [Row.cells, bz] at hx hy
   have hok : badR (⟨⟨cs, k⟩, q⟩, z) = false → ∀ p ∈ done ++ [((⟨⟨cs, k⟩, q⟩ : Row), z)], badR p = false := fun hb p hp => by
    rcases List.mem_append.1 hp with h | h
    ·exact hI p h
    ·rw [List.mem_singleton.1 h]; exact hb
   simp only [zxL, go_sem, hx, hy, hlt2, hd, hlt3, lM]
   try intro _
   cases q with
   | true =>
    simp only [go_sem, hw]
    exact ⟨zzc (by simp only [go_sem, oS, lA, lC, lN, zA]), hok rfl⟩
   | false =>
    cases hneg : decide (z < 0) with
    | true =>
     have hb : badR (⟨⟨cs, k⟩, false⟩, z) = true := by unfold badR; rw [hneg]; rfl
     rw [hany hb] at hR
     simp only [if_true] at hR
     subst hR
     simp only [go_sem, hK, zwi, mN]
    | false =>
     have hb : badR (⟨⟨cs, k⟩, false⟩, z) = false := by unfold badR; rw [hneg]; rfl
     simp only [go_sem, hw]
     exact ⟨zzc (by simp only [go_sem, oS, lA, lC, lN, zA]), hok hb⟩
  ·intro hI
   have hany : zs.any badR = false := by rw [List.any_eq_false]; intro p hp; rw [hI p hp]; simp
   rw [hany] at hR
   simp only [go_sem] at hR
   have hzm : zs.length = ms.length := by omega
   simp only [zxL, go_sem, hzm, Int.lt_irrefl, decide_false, hK, lM]
   try intro _
   refine zzb hC ?_
   simp only [go_sem]
   cases c3 : (sysE l != 0) with
   | true =>
    rw [c3] at hR
    simp only [if_true] at hR
    subst hR
    simp only [go_sem, zwi, mN]
   | false =>
   rw [c3] at hR
   simp only [go_sem] at hR
   have h0 : sysE l = 0 := by simpa using c3
   obtain ⟨s1, s2, s3⟩ := zXc h0
   have hv0 : vars0 l = varsR l := by unfold vars0; rw [c3]; rfl
   rw [hv0] at hN
   have hVI := zvN l
   have hVm := fun r (hr : r ∈ l) c (hc : c ∈ r.lin.coefs) => (zqt (l := l) (x := c.name)).2 ⟨r, hr, c, hc, rfl⟩
   have hLr := zZ4 s2
   unfold farV at hR
   generalize varsR l = V at *
   have hsame : accF (zerosL (V.length + 1)) (opsP V (ms.zip l)) = accF (zerosL (V.length + 1)) (opsQ V (ms.zip l)) :=
    ywz hVI (fun p hp => hLr p.2 (List.of_mem_zip hp).2) (fun p hp => hVm p.2 (List.of_mem_zip hp).2) (fun x hx => by rw [(List.mem_replicate.1 hx).2]; exact zyE)
   rw [hsame] at hR
   clear hsame
   simp only [go_sem]
   refine zzb hN ?_
   simp only [go_sem, lM, Int.toNat_natCast]
   intro _
   refine ⟨⟨by omega, by omega⟩, ?_⟩
   clear hK K hI hany hC hN
   refine zze fun K hK => ?_
   generalize hz2 : ms.zip l = zs2 at *
   have hzl2 : zs2.length = l.length := by rw [← hz2, List.length_zip]; omega
   refine zzo (fun s : ComQ => ⟨[(13, .d (.int .i64 s.d.length)), (11, .vec 68 2 0 V.length V.length), (12, .ptr 12 0), (10, .d (.lst (V.map scell))), (0, .d (.lst (l.map Row.cells))), (1, .d (.lst (ms.map bz))), (5, .ptr 5 0)],
    [(68, zcs s.t), (12, [.d (.bool (decide (s.c < 0))), .d (.lst ((digs s.c.natAbs).map icell))]), (5, [.d (.bool false), .full []])], []⟩)
    (fun s => s.d ++ s.r = zs2 ∧ accF (zerosL (V.length + 1)) (opsQ V s.d) = some (s.t ++ [s.c]) ∧ s.t.length = V.length) (fun s => s.r.length) ⟨[], zs2, zerosL V.length, 0⟩ ?_ ⟨rfl, by show some (zerosL (V.length + 1)) = _; rw [zerosL, zerosL, List.replicate_succ'], by simp [zerosL]⟩ ?_
   ·exact zzc (by simp only [go_sem, oS, lN, nZ, zerosL, zXC, Int.natAbs_zero, zzC, mN, Int.lt_irrefl, decide_false])
   ·rintro ⟨d, r, t, c⟩ ⟨g1, g2, g3⟩
    simp only at g1 g2 g3
    obtain ⟨hsok, _⟩ := zvs g2 (fun x hx => by rw [(List.mem_replicate.1 hx).2]; exact zyE)
    cases r with
    | nil =>
     rw [List.append_nil] at g1
     subst g1
     rw [g2] at hR
     simp only at hR
     have hR2 : (t, c, (0 : Int)) = R := by rw [← hR, ← g3]; simp
     subst hR2
     have htk : List.take (V.length * 2) (zcs t) = zcs t := by rw [← g3, ← zjN t, List.take_length]
     have hle : (V.length * 2 ≤ (zcs t).length) = True := eq_true (by rw [zjN]; omega)
     have hch : chunk 2 V.length (zds t) = t.map bz := by rw [← g3]; exact zYm t
     simp only [zxK, go_sem, hzl2, Int.lt_irrefl, decide_false, hK, lM]
     try intro _
     simp only [go_sem, zA, List.drop_zero, htk, hle, if_true, zWL, hch]
     try rfl
    | cons x r =>
     obtain ⟨fd, fr, sd, sr, e1, e2, e3, e4⟩ := zki (hz2.trans g1.symm)
     have hx := zzj (f := Row.cells) e2 e4
     have hy := zzj (f := bz) e1 e3
     have hdl : d.length < l.length := by rw [← hzl2, ← g1]; simp
     have hlt2 : ((d.length : Int) < (l.length : Int)) = True := eq_true (by omega)
     have hlt3 : ((d.length : Int) < (ms.length : Int)) = True := eq_true (by omega)
     have hd : decide ((d.length : Int) < (l.length : Int)) = true := decide_eq_true (by omega)
     have hw : IntKind.i64.wrap ((d.length : Int) + 1) = ((d.length + 1 : Nat) : Int) := zzd (by omega)
     have hxl : x.2 ∈ l := by rw [e2]; simp
     have hxm : fitsZ x.1 := v2 x.1 (by rw [e1]; simp)
     obtain ⟨hc1, hc2, hc3⟩ := zve (hLr x.2 hxl)
     have hfail : ∀ (a b : List Op3) (o : Op3) (s1 : List Int), opQ V x.1 x.2 = a ++ o :: b → accF (t ++ [c]) a = some s1 → stepA s1 o = none → R = ([], 0, 7) := fun a b o s1 h1 h2 h3 => by
      have : accF (zerosL (V.length + 1)) (opsQ V zs2) = none := by
       rw [← g1]
       have : opsQ V (d ++ x :: r) = opsQ V d ++ (a ++ (o :: (b ++ opsQ V r))) := by
        have : opsQ V (d ++ x :: r) = opsQ V d ++ (opQ V x.1 x.2 ++ opsQ V r) := by simp [opsQ]
        rw [this, h1]; simp
       rw [this, zx0 g2]
       exact zKa h2 h3
      rw [this] at hR
      exact hR.symm
     have hdone : opsQ V (d ++ [x]) = opsQ V d ++ opQ V x.1 x.2 := yyQ V d x
     obtain ⟨z, ⟨⟨cs, k⟩, q⟩⟩ := x
     simp only [Row.cells, bz] at hx hy
     simp only at hxm hc1 hc2 hc3
     have hcoef := fun s => zqz Z ⟨cs, k⟩ s
     have hrng := zVQ (cs := cs) fun y hy => (hc2 y hy).2
     simp only [Lin.cells] at hcoef
     simp only [zxK, go_sem, hd, lM]
     try intro _
     refine zze fun K1 hK1 => ?_
     refine zzo (fun s : Nat × List Int => ⟨[(14, .d (.int .i64 s.1)), (13, .d (.int .i64 d.length)), (11, .vec 68 2 0 V.length V.length), (12, .ptr 12 0), (10, .d (.lst (V.map scell))), (0, .d (.lst (l.map Row.cells))), (1, .d (.lst (ms.map bz))), (5, .ptr 5 0)],
      [(68, zcs s.2), (12, [.d (.bool (decide (c < 0))), .d (.lst ((digs c.natAbs).map icell))]), (5, [.d (.bool false), .full []])], []⟩)
      (fun s1 => s1.1 ≤ V.length ∧ accF (t ++ [c]) ((List.range s1.1).map fun k => (k, z, coefN cs (V.getD k []))) = some (s1.2 ++ [c]) ∧ s1.2.length = V.length) (fun s => V.length - s.1) (0, t) ?_ ⟨Nat.zero_le _, rfl, g3⟩ ?_
     ·exact zzc (by simp only [go_sem, oS, nZ, zwG])
     ·rintro ⟨j, u⟩ ⟨k0, k1, k2⟩
      simp only at k0 k1 k2
      obtain ⟨huok, _⟩ := zvs k1 hsok
      rcases Nat.lt_or_ge j V.length with hj | hj
      ·have hdj : decide ((j : Int) < (V.length : Int)) = true := decide_eq_true (by omega)
       have hltj : ((j : Int) < (V.length : Int)) = True := eq_true (by omega)
       have hwj : IntKind.i64.wrap ((j : Int) + 1) = ((j + 1 : Nat) : Int) := zzd (by omega)
       obtain ⟨p1, x1, q1, f1, f2⟩ := zyi (l := u) (i := j) (by omega)
       obtain ⟨p2, v, q2, f3, f4⟩ := zyi hj
       have hnm := zzj (f := scell) f3 f4
       have hvj : V.getD j [] = v := by rw [f3, ← f4]; simp
       have hg := zW9 f1 f2
       have hro := zW8 f1 f2
       have hst := fun y => yxw (y := y) f1 f2
       have hx1 : fitsZ x1 := zyU.1 (huok x1 (by rw [f1]; simp))
       have hP := zY0 Z hx1 hxm (hrng v)
       have hstep := ywS (t := u) (c := c) (k := j) (m := z) (n := coefN cs v) (by omega)
       rw [yyo f1 f2, yxi f1 f2] at hstep
       have hop : opQ V z ⟨⟨cs, k⟩, q⟩ = ((List.range j).map fun k => (k, z, coefN cs (V.getD k []))) ++ (j, z, coefN cs v) :: (((List.range' (j + 1) (V.length - (j + 1))).map fun k => (k, z, coefN cs (V.getD k []))) ++ [(V.length, z, k)]) := by
        unfold opQ
        simp only
        have er : List.range V.length = List.range j ++ j :: List.range' (j + 1) (V.length - (j + 1)) := by
         rw [List.range_eq_range', List.range_eq_range']
         have : V.length = j + (V.length - (j + 1) + 1) := by omega
         conv => lhs; rw [this, ← List.range'_append_1, List.range'_succ, zA]
        rw [er, mA, mC, hvj, List.append_assoc]; rfl
       have hk1 := zx0 k1 [(j, z, coefN cs v)]
       rw [zWq, hstep] at hk1
       generalize hpz : plusZ x1 z (coefN cs v) = P at *
       obtain ⟨w, ok⟩ := P
       simp only [resZ, bz] at hP
       simp only at hk1 hstep
       simp only [zxJ, go_sem, hdj, hltj, Int.toNat_natCast, zA, hg, hro, hlt2, hlt3, hx, hy, hnm, scell, lM]
       try intro _
       refine ⟨_, hcoef v, ?_⟩
       simp only [go_sem]
       refine ⟨_, hP, ?_⟩
       simp only [go_sem]
       cases ok with
       | true =>
        simp only [if_true] at hk1
        simp only [go_sem, hltj, Int.toNat_natCast, zA, hro, hst, hwj]
        refine ⟨(j + 1, p1 ++ w :: q1), zzc (by simp only [go_sem, oS, zwG]), ⟨hj, ?_, ?_⟩, by simp only; omega⟩
        ·simp only
         rw [List.range_succ, mA, mC, mN, hvj]; exact hk1
        ·rw [← k2, f1]; simp
       | false =>
        have hRf := hfail _ _ _ _ hop k1 hstep
        subst hRf
        simp only [go_sem, hK1, hK, zwi, mN]
      ·obtain rfl : j = V.length := by omega
       have hP := zY0 Z (zyU.1 (huok c (by simp))) hxm hc3
       have hstep := yxj (t := u) (c := c) (k := V.length) (m := z) (n := k) k2
       have hop : opQ V z ⟨⟨cs, k⟩, q⟩ = ((List.range V.length).map fun k => (k, z, coefN cs (V.getD k []))) ++ (V.length, z, k) :: [] := rfl
       have hk1 := zx0 k1 [(V.length, z, k)]
       rw [zWq, hstep] at hk1
       generalize hpz : plusZ c z k = P at *
       obtain ⟨w, ok⟩ := P
       simp only [resZ, bz] at hP
       simp only at hk1 hstep
       simp only [zxJ, go_sem, Int.lt_irrefl, decide_false, hK1, hlt2, hlt3, hx, hy, lM]
       try intro _
       refine ⟨_, hP, ?_⟩
       simp only [go_sem]
       cases ok with
       | true =>
        simp only [if_true] at hk1
        simp only [go_sem, hw]
        refine ⟨⟨d ++ [(z, ⟨⟨cs, k⟩, q⟩)], r, u, w⟩, zzc (by simp only [go_sem, oS, lA, lC, lN, zA, zwG]), ⟨?_, ?_, k2⟩, by simp⟩
        ·rw [← g1, List.append_assoc]; rfl
        ·rw [hdone, zx0 g2, hop]; exact hk1
       | false =>
        have hRf := hfail _ _ _ _ hop k1 hstep
        subst hRf
        simp only [go_sem, hK, zwi, mN]
end Go.Abs
end
section
namespace Go.Abs
theorem zZU (z : Int) : ((digs z.natAbs).length : Int) > 0 ↔ z ≠ 0 := by
 by_cases h : z = 0
 ·subst h; rw [Int.natAbs_zero, zzC]; simp
 ·rw [zzQ (by omega)]; simp [h]
variable {E : AEnv} (Z : Sys E)
include Z
theorem zVc (l : List Row) (m : List BigT) : E.C zkX [.one (.lst (l.map Row.cells)), .one (.lst (m.map BigT.cells))] (.one (.bool (farS l m))) := by
 have hC := zXq Z l m
 refine Z.zkX _ _ ⟨bl rfl, ?_⟩
 generalize hR : farS l m = B
 unfold farS at hR
 generalize combS l m = R at *
 obtain ⟨s, c, e⟩ := R
 simp only at hR
 simp only [resC] at hC
 have hbz : bz c = [.bool (decide (c < 0)), .lst ((digs c.natAbs).map icell)] := rfl
 rw [hbz] at hC
 have tail : ∀ b : Bool, b = (s.all fun z => z == 0) → (e == 0) = true → decide (c > 0) = true → b = B := fun b h1 h2 h3 => by rw [h1, ← hR, h2, h3]; simp
 simp only [zZw, go_sem]
 refine zzb hC ?_
 simp only [go_sem, lM]
 cases c1 : (e != 0) with
 | true =>
  have : B = false := by rw [← hR]; simp at c1; simp [c1]
  subst this
  simp only [go_sem]
 | false =>
 have he : (e == 0) = true := by simpa using c1
 simp only [go_sem]
 cases c2 : decide (c < 0) with
 | true =>
  have : B = false := by rw [← hR]; simp at c2; simp; intros; omega
  subst this
  simp only [go_sem]
 | false =>
 simp only [go_sem]
 intro _
 cases c3 : (((digs c.natAbs).length : Int) == 0) with
 | true =>
  have : B = false := by
   have h0 : ¬ (c ≠ 0) := fun h => by
    have := (zZU c).2 h
    simp at c3
    rw [c3] at this; simp at this
   rw [← hR]; simp; intros; omega
  subst this
  simp only [go_sem]
 | false =>
 have hcp : decide (c > 0) = true := by
  have h0 : c ≠ 0 := (zZU c).1 (by have := beq_eq_false_iff_ne.1 c3; omega)
  simp at c2 ⊢; omega
 simp only [go_sem]
 refine zze fun K hK => ?_
 refine zzh s (fun done => ∀ y ∈ done, (y == 0) = true) (fun done rest => ⟨[(8, .d (.int .i64 done.length)), (5, .d (.lst (s.map bz)))], [], []⟩) ?_ (by simp) ?_ ?_
 ·exact zzc (by simp only [go_sem, oS, lN, nZ])
 ·intro done x r hl hI
  have hlt := zzw hl
  have hx := zzj (f := bz) hl rfl
  have hd : decide ((done.length : Int) < (s.length : Int)) = true := decide_eq_true hlt
  simp only [bz] at hx
  simp only [zwY, go_sem, hlt, hd, hx, lM]
  intro hlen
  have hw : IntKind.i64.wrap ((done.length : Int) + 1) = ((done.length + 1 : Nat) : Int) := zzd (by omega)
  intro _
  cases c4 : decide (((digs x.natAbs).length : Int) > 0) with
  | true =>
   have hx0 : (x == 0) = false := by have := (zZU x).1 (of_decide_eq_true c4); simpa using this
   have := tail false (by rw [hl]; simp [hx0]) he hcp
   subst this
   simp only [go_sem, hK]
  | false =>
   have hx0 : (x == 0) = true := by
    have := of_decide_eq_false c4
    by_cases h : x = 0
    ·simp [h]
    ·exact absurd ((zZU x).2 h) this
   simp only [go_sem, hw]
   exact ⟨zzc (by simp only [go_sem, oS, lA, lC, lN, zA]), zxF hI hx0⟩
 ·intro hI
  have := tail true (List.all_eq_true.2 hI).symm he hcp
  subst this
  simp only [zwY, go_sem, Int.lt_irrefl, decide_false, hK, lM]
  try intro _
  try simp only [go_sem]
end Go.Abs
end
