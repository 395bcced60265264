/-
  CONTRACTS: what the functions answer, as plain Lean functions, each by evaluation at the abstract machine.
-/
import Derived.KernelRfl
import Derived.Lib.ItoaLen
import Derived.Sort.Walk0
import Derived.Test.YtmlihiihcbmaoaaGreatDoorFns
set_option linter.unusedSimpArgs false
set_option linter.unusedVariables false
set_option linter.unusedSectionVars false
set_option maxRecDepth 100000
section
namespace Go.Abs
namespace Pred
mutual
def nodes : Pred → Int
 | .mk _ _ _ ks => nodess 1 ks
def nodess (a : Int) : List Pred → Int
 | [] => a
 | k :: ks => nodess (IntKind.i64.wrap (a + nodes k)) ks
end
theorem yxB (a : Int) (ks : List Pred) : nodess a ks = ks.foldl (fun a k => IntKind.i64.wrap (a + nodes k)) a := by
 induction ks generalizing a with
 | nil => simp [nodess]
 | cons k ks ih => simp [nodess, ih]
theorem zXz (p : Pred) : nodes p = p.kids.foldl (fun a k => IntKind.i64.wrap (a + nodes k)) 1 := by cases p; simp [nodes, kids, yxB]
end Pred
theorem zK1 {E : AEnv} (Z : Sys E) (p : Pred) : E.C zwz [.agg (Pred.cells p)] (.one (.int .i64 p.nodes)) := by
 induction p using Pred.ind with
 | h o s n ks ih =>
 refine Z.zwz _ _ ⟨bl rfl, ?_⟩
 rw [Pred.zzd, Pred.zXz]
 simp only [zZO, go_sem, Pred.kids]
 intro hlen
 refine zzf ks (fun _ => True) (fun done rest => ⟨[(9, .d (.int .i64 done.length)), (8, .d (.int .i64 (ks.map Pred.cells).length)), (7, .d (.lst (ks.map Pred.cells))), (3, .d (.int .i64 (done.foldl (fun a k => IntKind.i64.wrap (a + Pred.nodes k)) 1)))], [], []⟩) ?_ trivial ?_ ?_
 ·exact zzc (by simp only [go_sem, nZ, List.foldl_nil])
 ·intro done k r hl _
  have hk' := ih k (by rw [hl]; simp)
  have hlt := zzi hl
  have hw : IntKind.i64.wrap ((done.length : Int) + 1) = ((done.length + 1 : Nat) : Int) := zze (by omega)
  have hx : (ks.map Pred.cells).getD done.length [] = Pred.cells k := by rw [hl]; exact zy7 _ _ _ _ _
  simp only [zw8, go_sem, hlt, hx]
  refine zzb hk' ?_
  simp only [go_sem, hw, lA, List.foldl_append, List.foldl_cons, List.foldl_nil]
  exact zzc (by simp only [go_sem])
 ·simp only [zw8, go_sem, forall_const]
end Go.Abs
end
section
namespace Go.Abs
def isSmall (n : Int) : Bool := decide (97 ≤ n) && decide (n ≤ 122)
def isCapital (n : Int) : Bool := decide (65 ≤ n) && decide (n ≤ 90)
def isDigit (n : Int) : Bool := decide (48 ≤ n) && decide (n ≤ 57)
def isSized (s : List UInt8) : Bool := decide ((s.length : Int) ≥ 1) && decide ((s.length : Int) ≤ 24)
def cutAt : List UInt8 → List UInt8 × List UInt8 × Bool
 | [] => ([], [], false)
 | c :: s => if c.toNat = 46 then ([], s, true) else (c :: (cutAt s).1, (cutAt s).2.1, (cutAt s).2.2)
theorem zQP : ∀ {s : List UInt8}, (∀ c ∈ s, c.toNat ≠ 46) → cutAt s = (s, [], false)
 | [], _ => rfl
 | c :: s, h => by simp [cutAt, h c (by simp), zQP (s := s) fun x hx => h x (by simp [hx])]
theorem zQO : ∀ {a : List UInt8} {c : UInt8} {b : List UInt8}, (∀ c ∈ a, c.toNat ≠ 46) → c.toNat = 46 → cutAt (a ++ c :: b) = (a, b, true)
 | [], c, b, _, hc => by simp [cutAt, hc]
 | x :: a, c, b, h, hc => by simp [cutAt, h x (by simp), zQO (a := a) (fun x hx => h x (by simp [hx])) hc]
def alnum (n : Int) : Bool := !(!isSmall n && !isCapital n && !isDigit n)
variable {E : AEnv} (Z : Sys E)
include Z
theorem zwN (n : Int) : E.C zyW [.one (.int .u8 n)] (.one (.bool (isSmall n))) := by
 refine Z.zyW _ _ ⟨bl rfl, ?_⟩
 simp only [zq9, go_sem, isSmall]
theorem zjS (n : Int) : E.C zyV [.one (.int .u8 n)] (.one (.bool (isCapital n))) := by
 refine Z.zyV _ _ ⟨bl rfl, ?_⟩
 simp only [zjJ, go_sem, isCapital]
theorem zvH (n : Int) : E.C zxg [.one (.int .u8 n)] (.one (.bool (isDigit n))) := by
 refine Z.zxg _ _ ⟨bl rfl, ?_⟩
 simp only [zq7, go_sem, isDigit]
theorem zvI (s : List UInt8) : E.C zxh [.one (.str s)] (.one (.bool (isSized s))) := by
 refine Z.zxh _ _ ⟨bl rfl, ?_⟩
 simp only [zq8, go_sem, isSized]
theorem zY8 (s : List UInt8) : E.C zkX [.one (.str s)] (.tup [.one (.str (cutAt s).1), .one (.str (cutAt s).2.1), .one (.bool (cutAt s).2.2)]) := by
 refine Z.zkX _ _ ⟨bl rfl, ?_⟩
 simp only [zYJ, go_sem]
 refine zzf s (fun done => ∀ c ∈ done, c.toNat ≠ 46) (fun done rest => ⟨[(0, .d (.str s)), (5, .d (.int .i64 done.length))], [], []⟩) ?_ (by simp) ?_ ?_
 ·exact zzc (by simp only [go_sem, nZ])
 ·intro done c r hl hI
  have hlt := zzi hl
  have hx : s.getD done.length 0 = c := zkV _ _ _ _ hl
  simp only [zkD, go_sem, hlt, hx]
  intro hlen
  have hw : IntKind.i64.wrap ((done.length : Int) + 1) = ((done.length + 1 : Nat) : Int) := zze (by omega)
  by_cases hc : c.toNat = 46
  ·have h1 : (((c.toNat : Nat) : Int) == 46) = true := by simp [hc]
   simp only [go_sem, h1, hw]
   rw [hl, zQO hI hc]
   simp
   omega
  ·have h1 : (((c.toNat : Nat) : Int) == 46) = false := by simp; omega
   simp only [go_sem, h1, hw, lA]
   refine ⟨zzc (by simp only [go_sem]), ?_⟩
   intro x hx
   rcases List.mem_append.1 hx with hx | hx
   ·exact hI x hx
   ·simp at hx; subst hx; exact hc
 ·intro hI
  simp only [zkD, go_sem, zQP hI]
theorem zwW (s : List UInt8) : E.C zzX [.one (.str s)] (.one (.bool (s.all fun c => alnum c.toNat))) := by
 refine Z.zzX _ _ ⟨bl rfl, ?_⟩
 simp only [zwR, go_sem]
 refine zzf s (fun done => done.all (fun c => alnum c.toNat) = true) (fun done rest => ⟨[(0, .d (.str s)), (3, .d (.int .i64 done.length))], [], []⟩) ?_ (by simp) ?_ ?_
 ·exact zzc (by simp only [go_sem, nZ])
 ·intro done c r hl hI
  have hlt := zzi hl
  have hx : s.getD done.length 0 = c := zkV _ _ _ _ hl
  simp only [zyI, go_sem, hlt, hx]
  intro hlen
  have hw : IntKind.i64.wrap ((done.length : Int) + 1) = ((done.length + 1 : Nat) : Int) := zze (by omega)
  refine zzb (zwN Z _) ?_
  simp only [go_sem, hw, hlt, hx]
  refine zz2 (zjS Z _) ?_
  simp only [go_sem, hw, hlt, hx]
  refine zz2 (zvH Z _) ?_
  simp only [go_sem, hw, hlt, hx]
  cases h1 : (!isSmall c.toNat && !isCapital c.toNat && !isDigit c.toNat) with
  | false =>
   have hc : alnum c.toNat = true := by rw [alnum, h1]; rfl
   simp only [go_sem, h1, hw, lA, List.all_append, List.all_cons, List.all_nil, hI, hc]
   exact zzc (by simp only [go_sem])
  | true =>
   have hc : alnum c.toNat = false := by rw [alnum, h1]; rfl
   simp only [go_sem, h1, hl, List.all_append, List.all_cons, hc, Bool.false_and, Bool.and_false]
 ·intro hI
  simp only [zyI, go_sem, hI]
end Go.Abs
end
section
namespace Go.Abs
def scan (bad : Nat → Int → Bool) : Nat → List UInt8 → Bool
 | _, [] => true
 | i, c :: s => !bad i c.toNat && scan bad (i + 1) s
theorem zjF (bad : Nat → Int → Bool) : ∀ (a : List UInt8) (i : Nat) (b : List UInt8), scan bad i (a ++ b) = (scan bad i a && scan bad (i + a.length) b)
 | [], i, b => by simp [scan]
 | c :: a, i, b => by simp only [List.cons_append, scan, zjF bad a, lC, Bool.and_assoc]; congr 3; omega
def badWord (i : Nat) (n : Int) : Bool := !isSmall n && ((i : Int) == 0 || (!isDigit n && n != 95))
def badName (_ : Nat) (n : Int) : Bool := !isSmall n && !isDigit n && n != 95
def kws : List (List UInt8) := [[97, 110, 100], [97, 115, 115, 117, 109, 101], [98, 111, 111, 108], [98, 111, 117, 110, 100], [99, 97, 115, 101], [99, 101, 108, 108], [99, 108, 97, 115, 115], [100, 97, 116, 97], [100, 101, 102], [100, 105, 118], [101, 108, 115, 101], [101, 110, 100], [102, 97, 108, 115, 101], [102, 111, 114, 97, 108, 108], [102, 117, 110], [103, 101, 116], [105, 102], [105, 110], [105, 110, 115, 116], [105, 110, 116], [105, 110, 118, 97, 114, 105, 97, 110, 116], [108, 101, 116], [109, 97, 116, 99, 104], [109, 101, 97, 115, 117, 114, 101], [109, 101, 116, 114, 105, 99], [109, 111, 100], [109, 117], [110, 101, 119], [110, 111, 116], [111, 102], [111, 114], [113, 117, 97, 108], [114, 101, 102, 108, 101, 99, 116], [115, 101, 116], [116, 104, 101, 110], [116, 114, 117, 101], [117, 115, 101], [118], [118, 97, 108], [116, 97, 103], [119, 104, 101, 114, 101], [119, 105, 116, 104]]
def isName (s : List UInt8) : Bool := isSized s && isSmall (s.getD 0 0).toNat && !kws.contains s && scan badName 1 (s.drop 1)
def isTitle (s : List UInt8) : Bool := isSized s && isCapital (s.getD 0 0).toNat && (s.all fun c => alnum c.toNat) && (s != [73, 110, 116] && s != [66, 111, 111, 108] && s != [67, 101, 108, 108] && s != [70, 117, 110])
variable {E : AEnv} (Z : Sys E)
include Z
theorem zKZ (s : List UInt8) : E.C zku [.one (.str s)] (.one (.bool (scan badWord 0 s))) := by
 refine Z.zku _ _ ⟨bl rfl, ?_⟩
 simp only [zZL, go_sem]
 refine zzf s (fun done => scan badWord 0 done = true) (fun done rest => ⟨[(0, .d (.str s)), (3, .d (.int .i64 done.length))], [], []⟩) ?_ rfl ?_ ?_
 ·exact zzc (by simp only [go_sem, nZ])
 ·intro done c r hl hI
  have hlt := zzi hl
  have hx : s.getD done.length 0 = c := zkV _ _ _ _ hl
  simp only [zw6, go_sem, hlt, hx]
  intro hlen
  have hw : IntKind.i64.wrap ((done.length : Int) + 1) = ((done.length + 1 : Nat) : Int) := zze (by omega)
  refine zzb (zwN Z _) ?_
  simp only [go_sem, hw, hlt, hx]
  refine zz2 (zvH Z _) ?_
  simp only [go_sem, hw, hlt, hx]
  cases h1 : badWord done.length c.toNat with
  | false =>
   have h2 := h1
   rw [badWord] at h2
   simp only [go_sem, h2, hw, lA, zjF, scan, hI, h1, zA, Bool.not_false]
   refine ⟨?_, ?_, zzc (by simp only [go_sem])⟩ <;> (cases isSmall (c.toNat : Int) <;> cases isDigit (c.toNat : Int) <;> cases ((done.length : Int) == 0) <;> simp)
  | true =>
   have h2 := h1
   rw [badWord] at h2
   simp only [go_sem, h2, hl, zjF, scan, h1, zA, Bool.not_true, Bool.false_and, Bool.and_false]
   refine ⟨?_, ?_⟩ <;> (cases isSmall (c.toNat : Int) <;> cases isDigit (c.toNat : Int) <;> cases ((done.length : Int) == 0) <;> simp)
 ·intro hI
  simp only [zw6, go_sem, hI]
theorem zXj (hG : E.G 0 = some (kws.map .str)) (s : List UInt8) : E.C zxu [.one (.str s)] (.one (.bool (kws.contains s))) := by
 refine Z.zxu _ _ ⟨bl rfl, ?_⟩
 have h1 : (kws.map D.str).take 42 = kws.map D.str := rfl
 have h2 : 42 ≤ kws.length := bl rfl
 simp only [zjI, go_sem, hG, h1]
 refine ⟨h2, ?_⟩
 refine zzf kws (fun done => done.contains s = false) (fun done rest => ⟨[(0, .d (.str s)), (6, .d (.int .i64 done.length)), (5, .agg ((kws.map .str).map .d))], [], []⟩) ?_ rfl ?_ ?_
 ·exact zzc (by simp only [go_sem, nZ])
 ·intro done c r hl hI
  have hlt : (done.length : Int) < 42 := zzi hl
  have hx : ((kws.map D.str).map AV.d).getD done.length .undef = .d (.str c) := by rw [hl]; simp
  have hlt2 : (done.length : Int) < kws.length := zzi hl
  have hw : IntKind.i64.wrap ((done.length : Int) + 1) = ((done.length + 1 : Nat) : Int) := zze (by omega)
  simp only [zxR, go_sem, hlt, hx, hlt2, hw]
  cases h1 : (c == s) with
  | false =>
   simp only [go_sem, h1, hw, lA]
   refine ⟨hlt, zzc (by simp only [go_sem]), ?_⟩
   have h1 : (s == c) = false := by rw [← h1]; exact BEq.comm
   simp only [List.contains_eq_any_beq, List.any_append, List.any_cons, List.any_nil, Bool.or_false] at hI ⊢
   rw [hI, h1]; rfl
  | true =>
   simp only [go_sem, h1]
   refine ⟨hlt, ?_⟩
   have h1 : c = s := by simpa using h1
   subst h1
   rw [hl]
   simp
 ·intro hI
  have hlt : (decide ((kws.length : Int) < 42)) = false := rfl
  simp only [zxR, go_sem, hI, hlt]
end Go.Abs
end
section
namespace Go.Abs
theorem zWk {s : List UInt8} (h : isSized s = true) : 0 < s.length := by
 simp only [isSized, Bool.and_eq_true, decide_eq_true_eq] at h; omega
variable {E : AEnv} (Z : Sys E)
include Z
theorem zKY (hG : E.G 0 = some (kws.map .str)) (s : List UInt8) : E.C zkt [.one (.str s)] (.one (.bool (isName s))) := by
 refine Z.zkt _ _ ⟨bl rfl, ?_⟩
 simp only [zZK, go_sem]
 refine zzb (zvI Z s) ?_
 cases h0 : isSized s with
 | false =>
  have hr : isName s = false := by simp [isName, h0]
  simp only [go_sem, hr]
  refine ⟨.one (.bool false), ?_⟩
  simp only [go_sem, hr]
  refine ⟨.one (.bool false), ?_⟩
  simp only [go_sem, hr]
 | true =>
  have hpos := zWk h0
  have hpos' : ((0 : Int) < s.length) = True := eq_true (by omega)
  simp only [go_sem, hpos', Bool.not_true, Int.toNat_zero]
  refine zzb (zwN Z _) ?_
  cases h1 : isSmall (s.getD 0 0).toNat with
  | false =>
   have hr : isName s = false := by simp only [isName, h0, h1]; rfl
   simp only [go_sem, hr, Bool.not_false, Bool.not_true]
   refine ⟨.one (.bool false), ?_⟩
   simp only [go_sem, hr, Bool.not_false, Bool.not_true, Bool.or_true, Bool.or_false, Bool.or_self]
  | true =>
   simp only [go_sem, Bool.not_false, Bool.not_true, Bool.or_self]
   refine zzb (zXj Z hG s) ?_
   cases h2 : kws.contains s with
   | true =>
    have hr : isName s = false := by simp only [isName, h0, h1, h2]; rfl
    simp only [go_sem, hr, Bool.not_false, Bool.not_true, Bool.or_true, Bool.or_false, Bool.or_self, Bool.false_or]
   | false =>
    have hr : isName s = scan badName 1 (s.drop 1) := by simp only [isName, h0, h1, h2]; rfl
    obtain ⟨c0, t, rfl⟩ : ∃ c0 t, s = c0 :: t := by cases s with | nil => simp at hpos | cons c t => exact ⟨c, t, rfl⟩
    simp only [go_sem, hr, Bool.not_false, Bool.not_true, Bool.or_true, Bool.or_false, Bool.or_self]
    refine zzf t (fun done => scan badName 1 done = true) (fun done rest => ⟨[(0, .d (.str (c0 :: t))), (3, .d (.int .i64 (1 + done.length : Nat)))], [], []⟩) ?_ rfl ?_ ?_
    ·exact zzc (by simp only [go_sem, Nat.add_zero]; trivial)
    ·intro done c r hl hI
     have hlt : (((1 + done.length : Nat) : Int) < ((t.length + 1 : Nat) : Int)) = True := eq_true (by rw [hl]; simp; omega)
     have hx : (c0 :: t).getD (1 + done.length) 0 = c := by rw [hl, Nat.add_comm]; simp
     simp only [zw5, go_sem, hlt, hx]
     intro hlen
     have hw : IntKind.i64.wrap (((1 + done.length : Nat) : Int) + 1) = ((1 + done.length + 1 : Nat) : Int) := zze (by simp only [eq_iff_iff, iff_true] at hlt; omega)
     refine zzb (zwN Z _) ?_
     simp only [go_sem, hw, hlt, hx]
     refine zz2 (zvH Z _) ?_
     simp only [go_sem, hw, hlt, hx]
     cases h1 : badName (1 + done.length) c.toNat with
     | false =>
      have h2 := h1
      rw [badName] at h2
      simp only [go_sem, h2, hw, lA, zjF, scan, hI, h1, Bool.not_false]
      exact zzc (by simp only [go_sem, Nat.add_assoc])
     | true =>
      have h2 := h1
      rw [badName] at h2
      simp only [go_sem, h2, hl, zjF, scan, h1, Bool.not_true, Bool.false_and, Bool.and_false]
    ·intro hI
     have hge : decide (((1 + t.length : Nat) : Int) < ((t.length + 1 : Nat) : Int)) = false := by rw [Nat.add_comm]; simp
     simp only [zw5, go_sem, hge, List.drop_succ_cons, hI]
theorem zWT (s : List UInt8) : E.C zww [.one (.str s)] (.one (.bool (isTitle s))) := by
 refine Z.zww _ _ ⟨bl rfl, ?_⟩
 simp only [zZa, go_sem]
 refine zzb (zvI Z s) ?_
 cases h0 : isSized s with
 | false =>
  have hr : isTitle s = false := by simp [isTitle, h0]
  simp only [go_sem, hr]
  refine ⟨.one (.bool false), ?_⟩
  simp only [go_sem, hr]
  refine ⟨.one (.bool false), ?_⟩
  simp only [go_sem, hr]
 | true =>
  have hpos := zWk h0
  have hpos' : ((0 : Int) < s.length) = True := eq_true (by omega)
  simp only [go_sem, hpos', Int.toNat_zero]
  refine zzb (zjS Z _) ?_
  cases h1 : isCapital (s.getD 0 0).toNat with
  | false =>
   have hr : isTitle s = false := by simp only [isTitle, h0, h1]; rfl
   simp only [go_sem, hr]
   refine ⟨.one (.bool false), ?_⟩
   simp only [go_sem, hr]
  | true =>
   simp only [go_sem]
   refine zzb (zwW Z s) ?_
   cases h2 : (s.all fun c => alnum c.toNat) with
   | false =>
    have hr : isTitle s = false := by simp only [isTitle, h0, h1, h2]; rfl
    simp only [go_sem, hr]
   | true =>
    simp only [go_sem, isTitle, h0, h1, h2, bne]
end Go.Abs
end
section
namespace Go.Abs
def okPart (s : List UInt8) : Bool := !(!isSized s || (!(s.all fun c => alnum c.toNat) && !scan badWord 0 s))
theorem zjY : ∀ (s : List UInt8), (cutAt s).2.2 = true → (cutAt s).2.1.length < s.length
 | [], h => by simp [cutAt] at h
 | c :: s, h => by
  simp only [cutAt] at h ⊢
  split
  ·simp
  ·rename_i hc
   rw [if_neg hc] at h
   have := zjY s h
   simp only [lC]; omega
def parts (s : List UInt8) : Bool := if h : (cutAt s).2.2 = true then okPart (cutAt s).1 && parts (cutAt s).2.1 else okPart (cutAt s).1
termination_by s.length
decreasing_by exact zjY s h
def isCore (s : List UInt8) : Bool :=
 !decide ((s.length : Int) > 120) && (!(!isName (cutAt s).1 && !isTitle (cutAt s).1 && ((cutAt s).1 != [118] || !(cutAt s).2.2))) && (if (cutAt s).2.2 then parts (cutAt s).2.1 else true)
variable {E : AEnv} (Z : Sys E)
include Z
theorem zjv (hG : E.G 0 = some (kws.map .str)) (s : List UInt8) : E.C zx1 [.one (.str s)] (.one (.int .i64 (if isCore s then 0 else 3))) := by
 refine Z.zx1 _ _ ⟨bl rfl, ?_⟩
 simp only [zZI, go_sem]
 intro hlen
 cases h0 : decide ((s.length : Int) > 120) with
 | true => simp only [go_sem, isCore, h0]
 | false =>
  simp only [go_sem, isCore, h0]
  refine zzb (zY8 Z s) ?_
  have hdec := zjY s
  revert hdec
  generalize cutAt s = cc
  obtain ⟨a, b, m⟩ := cc
  intro hdec
  simp only [go_sem]
  refine zzb (zKY Z hG a) ?_
  simp only [go_sem]
  refine zz2 (zWT Z a) ?_
  simp only [go_sem]
  have ob : ∀ (p q x y : Bool), ((p && q) = true → (p = true ∧ (!x && y) = true) → (p && q) = true) := by simp
  cases h1 : (!isName a && !isTitle a && (a != [118] || !m)) with
  | true =>
   rw [bne] at h1
   simp only [go_sem, h1]
   cases isName a <;> cases isTitle a <;> cases (a == [118]) <;> simp
  | false =>
   rw [bne] at h1
   simp only [go_sem, h1]
   refine ⟨?_, ?_⟩
   ·cases isName a <;> cases isTitle a <;> cases (a == [118]) <;> simp
   generalize hR : (if m = true then parts b else true) = R
   refine yxv (fun x : List UInt8 × Bool => ⟨[(4, .d (.str x.1)), (5, .d (.bool x.2))], [], []⟩) (fun x => R = (if x.2 = true then parts x.1 else true)) (fun x => if x.2 = true then x.1.length + 1 else 0) (b, m) ?_ hR.symm ?_
   ·exact zzc (by simp only [go_sem])
   ·rintro ⟨b', m'⟩ hI
    cases m' with
    | false =>
     simp only [zw4, go_sem]
     simp only [Bool.false_eq_true, if_false] at hI
     simp only [hI, if_true]
    | true =>
     simp only [if_true] at hI
     rw [parts] at hI
     simp only [zw4, go_sem]
     refine zzb (zY8 Z b') ?_
     have hdec := zjY b'
     revert hdec hI
     generalize cutAt b' = cc
     obtain ⟨a1, b1, m1⟩ := cc
     intro hI hdec
     simp only at hI hdec
     simp only [go_sem]
     refine zzb (zvI Z a1) ?_
     simp only [go_sem]
     refine zz2 (zwW Z a1) ?_
     simp only [go_sem]
     refine zz2 (zKZ Z a1) ?_
     simp only [go_sem]
     cases h1 : (!isSized a1 || (!(a1.all fun c => alnum c.toNat) && !scan badWord 0 a1)) with
     | true =>
      have h2 : okPart a1 = false := by rw [okPart, h1]; rfl
      have h3 : R = false := by rw [hI, h2]; simp
      simp only [go_sem, h1, h3]
      cases isSized a1 <;> cases (a1.all fun c => alnum c.toNat) <;> simp
     | false =>
      have h2 : okPart a1 = true := by rw [okPart, h1]; rfl
      simp only [go_sem, h1]
      refine ⟨?_, ?_, (b1, m1), zzc (by simp only [go_sem]), ?_, ?_⟩
      ·cases isSized a1 <;> cases (a1.all fun c => alnum c.toNat) <;> simp
      ·cases isSized a1 <;> cases (a1.all fun c => alnum c.toNat) <;> simp
      ·rw [hI, h2]; cases m1 <;> simp
      ·cases m1 with
       | false => simp
       | true => have := hdec rfl; simp; omega
end Go.Abs
end
section
namespace Go.Abs
def findIx (s : List UInt8) : Nat → List (List UInt8) → Int
 | _, [] => -1
 | i, x :: l => if x = s then i else findIx s (i + 1) l
theorem zZq (s : List UInt8) : ∀ (l : List (List UInt8)) (i : Nat), s ∉ l → findIx s i l = -1
 | [], _, _ => rfl
 | x :: l, i, h => by
  simp only [List.mem_cons, not_or] at h
  rw [findIx, if_neg (fun e => h.1 e.symm), zZq s l (i + 1) h.2]
theorem zqD (s : List UInt8) : ∀ (a : List (List UInt8)) (i : Nat) (b : List (List UInt8)), s ∉ a → findIx s i (a ++ b) = findIx s (i + a.length) b
 | [], i, b, _ => by simp
 | x :: a, i, b, h => by
  simp only [List.mem_cons, not_or] at h
  rw [List.cons_append, findIx, if_neg (fun e => h.1 e.symm), zqD s a (i + 1) b h.2, lC]
  congr 1; omega
theorem zYl (s : List UInt8) : ∀ (l : List (List UInt8)) (i : Nat), decide (findIx s i l ≥ 0) = l.contains s
 | [], i => by simp [findIx]
 | x :: l, i => by
  rw [findIx]
  by_cases h : x = s
  ·subst h; simp
  ·have h' : (s == x) = false := by simpa using fun e => h e.symm
   rw [if_neg h, zYl s l (i + 1), List.contains_cons, h', Bool.false_or]
def isOpNamed (n : Int) : Bool := n == 3 || n == 4 || n == 5
def inRange (n : Int) : Bool := decide (n ≥ -1000000000000) && decide (n ≤ 1000000000000)
variable {E : AEnv} (Z : Sys E)
include Z
theorem zx4 (n : Int) : E.C zxl [.one (.int .u8 n)] (.one (.bool (isSmall n))) := by
 refine Z.zxl _ _ ⟨bl rfl, ?_⟩
 simp only [zYS, go_sem, isSmall, ge_iff_le]
theorem zvK (n : Int) : E.C zxk [.one (.int .u8 n)] (.one (.bool (isCapital n))) := by
 refine Z.zxk _ _ ⟨bl rfl, ?_⟩
 simp only [zZe, go_sem, isCapital, ge_iff_le]
theorem zvo (n : Int) : E.C zwj [.one (.int .u8 n)] (.one (.bool (isDigit n))) := by
 refine Z.zwj _ _ ⟨bl rfl, ?_⟩
 simp only [zYQ, go_sem, isDigit, ge_iff_le]
theorem yxC (n : Int) : E.C zKv [.one (.int .i64 n)] (.one (.bool (inRange n))) := by
 refine Z.zKv _ _ ⟨bl rfl, ?_⟩
 simp only [zVD, go_sem, inRange]
theorem yxL (n : Int) : E.C zKw [.one (.int .i64 n)] (.one (.bool (inRange n))) := by
 refine Z.zKw _ _ ⟨bl rfl, ?_⟩
 simp only [zVE, go_sem, inRange]
theorem zZ4 (n : Int) : E.C zwB [.one (.int .i64 n)] (.one (.bool (isOpNamed n))) := by
 refine Z.zwB _ _ ⟨bl rfl, ?_⟩
 simp only [zZP, go_sem, isOpNamed]
 cases (n == 3) <;> cases (n == 4) <;> simp
theorem zJb (n : Int) : E.C zv8 [.one (.int .i64 n)] (.one (.bool (isOpNamed n))) := by
 refine Z.zv8 _ _ ⟨bl rfl, ?_⟩
 simp only [zY0, go_sem, isOpNamed]
 cases (n == 3) <;> cases (n == 4) <;> simp
theorem zWx (l : List (List UInt8)) (s : List UInt8) : E.C zjx [.one (.lst (l.map fun k => [.str k])), .one (.str s)] (.one (.int .i64 (findIx s 0 l))) := by
 refine Z.zjx _ _ ⟨bl rfl, ?_⟩
 simp only [zXS, go_sem]
 intro hlen
 refine zzf l (fun done => s ∉ done) (fun done rest => ⟨[(8, .d (.int .i64 done.length)), (7, .d (.int .i64 l.length)), (0, .d (.lst (l.map fun k => [.str k]))), (1, .d (.str s))], [], []⟩) ?_ (by simp) ?_ ?_
 ·exact zzc (by simp only [go_sem, nZ])
 ·intro done k r hl hI
  have hlt := zzi hl
  have hw : IntKind.i64.wrap ((done.length : Int) + 1) = ((done.length + 1 : Nat) : Int) := zze (by omega)
  have hx : (l.map fun k => [D.str k]).getD done.length [] = [.str k] := by rw [hl]; exact zy7 _ _ _ _ _
  have hls : (∀ e ∈ l.map fun k => [D.str k], e.length = 1) = True := eq_true (by simp)
  simp only [zvs, go_sem, hlt, hx, hls]
  cases h1 : (k == s) with
  | true =>
   simp only [go_sem]
   have h1 : k = s := by simpa using h1
   rw [hl, zqD s done 0 _ hI, findIx, if_pos h1, zA]
  | false =>
   simp only [go_sem, hw, lA]
   refine ⟨zzc (by simp only [go_sem]), ?_⟩
   have h1 : k ≠ s := by simpa using h1
   simp only [List.mem_append, List.mem_singleton, not_or]
   exact ⟨hI, fun e => h1 e.symm⟩
 ·intro hI
  simp only [zvs, go_sem, zZq s l 0 hI]
theorem zWy : E.C zx3 [] (.one (.lst (kws.map fun k => [.str k]))) := by
 refine Z.zx3 _ _ ⟨bl rfl, ?_⟩
 simp only [zj3, go_sem, kws]
theorem zWV (s : List UInt8) : E.C zwF [.one (.str s)] (.one (.bool (kws.contains s))) := by
 refine Z.zwF _ _ ⟨bl rfl, ?_⟩
 simp only [zZd, go_sem]
 refine zzb (zWy Z) ?_
 simp only [go_sem]
 refine zzb (zWx Z kws s) ?_
 simp only [go_sem, zYl]
end Go.Abs
end
section
namespace Go.Abs
namespace Pred
mutual
def depth : Pred → Int
 | .mk _ _ _ ks => IntKind.i64.wrap (depths 0 ks + 1)
def depths (a : Int) : List Pred → Int
 | [] => a
 | k :: ks => depths (if depth k > a then depth k else a) ks
end
theorem yyZ (a : Int) (ks : List Pred) : depths a ks = ks.foldl (fun a k => if depth k > a then depth k else a) a := by
 induction ks generalizing a with
 | nil => simp [depths]
 | cons k ks ih => simp [depths, ih]
theorem zXt (p : Pred) : depth p = IntKind.i64.wrap (p.kids.foldl (fun a k => if depth k > a then depth k else a) 0 + 1) := by cases p; simp [depth, kids, yyZ]
end Pred
def kidsOf (n : Int) : Int × Int := if n == 1 || n == 2 || n == 3 then (0, 0) else if n == 4 || n == 5 then (1, 24) else if n == 9 || n == 14 then (1, 1) else (2, 2)
def kidsOk (n m : Int) : Bool := if n == 1 || n == 2 || n == 3 then m == 0 else if n == 4 || n == 5 then decide (m ≥ 1) && decide (m ≤ 24) else if n == 9 || n == 14 then m == 1 else m == 2
variable {E : AEnv} (Z : Sys E)
include Z
theorem zV0 (n : Int) : E.C zv0 [.one (.int .i64 n)] (.tup [.one (.int .i64 (kidsOf n).1), .one (.int .i64 (kidsOf n).2)]) := by
 refine Z.zv0 _ _ ⟨bl rfl, ?_⟩
 cases h1 : (n == 1) <;> cases h2 : (n == 2) <;> cases h3 : (n == 3) <;> cases h4 : (n == 4) <;> cases h5 : (n == 5) <;> cases h9 : (n == 9) <;> cases h14 : (n == 14) <;>
  first
  | (exfalso; simp at *; omega)
  | simp only [zYL, go_sem, kidsOf, h1, h2, h3, h4, h5, h9, h14]
theorem zQf (n m : Int) : E.C zqQ [.one (.int .i64 n), .one (.int .i64 m)] (.one (.bool (kidsOk n m))) := by
 refine Z.zqQ _ _ ⟨bl rfl, ?_⟩
 cases h1 : (n == 1) <;> cases h2 : (n == 2) <;> cases h3 : (n == 3) <;> cases h4 : (n == 4) <;> cases h5 : (n == 5) <;> cases h9 : (n == 9) <;> cases h14 : (n == 14) <;>
  first
  | (exfalso; simp at *; omega)
  | simp only [zX2, go_sem, kidsOk, h1, h2, h3, h4, h5, h9, h14]
theorem zK0 (p : Pred) : E.C zwy [.agg (Pred.cells p)] (.one (.int .i64 p.depth)) := by
 induction p using Pred.ind with
 | h o s n ks ih =>
 refine Z.zwy _ _ ⟨bl rfl, ?_⟩
 rw [Pred.zzd, Pred.zXt]
 simp only [zZN, go_sem, Pred.kids]
 intro hlen
 refine zzf ks (fun _ => True) (fun done rest => ⟨[(9, .d (.int .i64 done.length)), (8, .d (.int .i64 (ks.map Pred.cells).length)), (7, .d (.lst (ks.map Pred.cells))), (3, .d (.int .i64 (done.foldl (fun a k => if Pred.depth k > a then Pred.depth k else a) 0)))], [], []⟩) ?_ trivial ?_ ?_
 ·exact zzc (by simp only [go_sem, nZ, List.foldl_nil])
 ·intro done k r hl _
  have hk' := ih k (by rw [hl]; simp)
  have hlt := zzi hl
  have hw : IntKind.i64.wrap ((done.length : Int) + 1) = ((done.length + 1 : Nat) : Int) := zze (by omega)
  have hx : (ks.map Pred.cells).getD done.length [] = Pred.cells k := by rw [hl]; exact zy7 _ _ _ _ _
  simp only [zw7, go_sem, hlt, hx]
  refine zzb hk' ?_
  simp only [go_sem, hw, lA, List.foldl_append, List.foldl_cons, List.foldl_nil]
  exact zzc (by simp only [go_sem])
 ·simp only [zw7, go_sem, forall_const]
theorem zV8 (p : Pred) : E.C zk0 [.agg (Pred.cells p)] (.one (.int .i64 p.depth)) := by
 induction p using Pred.ind with
 | h o s n ks ih =>
 refine Z.zk0 _ _ ⟨bl rfl, ?_⟩
 rw [Pred.zzd, Pred.zXt]
 simp only [zYX, go_sem, Pred.kids]
 intro hlen
 refine zzf ks (fun _ => True) (fun done rest => ⟨[(9, .d (.int .i64 done.length)), (8, .d (.int .i64 (ks.map Pred.cells).length)), (7, .d (.lst (ks.map Pred.cells))), (3, .d (.int .i64 (done.foldl (fun a k => if Pred.depth k > a then Pred.depth k else a) 0)))], [], []⟩) ?_ trivial ?_ ?_
 ·exact zzc (by simp only [go_sem, nZ, List.foldl_nil])
 ·intro done k r hl _
  have hk' := ih k (by rw [hl]; simp)
  have hlt := zzi hl
  have hw : IntKind.i64.wrap ((done.length : Int) + 1) = ((done.length + 1 : Nat) : Int) := zze (by omega)
  have hx : (ks.map Pred.cells).getD done.length [] = Pred.cells k := by rw [hl]; exact zy7 _ _ _ _ _
  simp only [zkI, go_sem, hlt, hx]
  refine zzb hk' ?_
  simp only [go_sem, hw, lA, List.foldl_append, List.foldl_cons, List.foldl_nil]
  exact zzc (by simp only [go_sem])
 ·simp only [zkI, go_sem, forall_const]
theorem zqn (p : Pred) : E.C zwk [.agg (Pred.cells p)] (.one (.int .i64 p.nodes)) := by
 induction p using Pred.ind with
 | h o s n ks ih =>
 refine Z.zwk _ _ ⟨bl rfl, ?_⟩
 rw [Pred.zzd, Pred.zXz]
 simp only [zYZ, go_sem, Pred.kids]
 intro hlen
 refine zzf ks (fun _ => True) (fun done rest => ⟨[(9, .d (.int .i64 done.length)), (8, .d (.int .i64 (ks.map Pred.cells).length)), (7, .d (.lst (ks.map Pred.cells))), (3, .d (.int .i64 (done.foldl (fun a k => IntKind.i64.wrap (a + Pred.nodes k)) 1)))], [], []⟩) ?_ trivial ?_ ?_
 ·exact zzc (by simp only [go_sem, nZ, List.foldl_nil])
 ·intro done k r hl _
  have hk' := ih k (by rw [hl]; simp)
  have hlt := zzi hl
  have hw : IntKind.i64.wrap ((done.length : Int) + 1) = ((done.length + 1 : Nat) : Int) := zze (by omega)
  have hx : (ks.map Pred.cells).getD done.length [] = Pred.cells k := by rw [hl]; exact zy7 _ _ _ _ _
  simp only [zkJ, go_sem, hlt, hx]
  refine zzb hk' ?_
  simp only [go_sem, hw, lA, List.foldl_append, List.foldl_cons, List.foldl_nil]
  exact zzc (by simp only [go_sem])
 ·simp only [zkJ, go_sem, forall_const]
end Go.Abs
end
section
namespace Go.Abs
variable {E : AEnv} (Z : Sys E)
include Z
theorem zV4 (s : List UInt8) : E.C zv3 [.one (.str s)] (.one (.int .i64 (if isName s then 0 else 3))) := by
 refine Z.zv3 _ _ ⟨bl rfl, ?_⟩
 simp only [zYO, go_sem]
 intro hlen
 cases h0 : decide ((s.length : Int) < 1) with
 | true =>
  have hz : isSized s = false := by simp only [isSized, Bool.and_eq_false_iff, decide_eq_false_iff_not]; left; simp only [decide_eq_true_eq] at h0; omega
  have hr : isName s = false := by simp only [isName, hz]; rfl
  simp only [go_sem, hr]
  refine ⟨.one (.bool false), ?_⟩
  simp only [go_sem, hr]
  refine ⟨.one (.bool false), ?_⟩
  simp only [go_sem, hr]
 | false =>
  simp only [decide_eq_false_iff_not] at h0
  have hpos' : ((0 : Int) < s.length) = True := eq_true (by omega)
  simp only [go_sem, hlen]
  cases h24 : decide ((s.length : Int) > 24) with
  | true =>
   have hz : isSized s = false := by simp only [isSized, Bool.and_eq_false_iff, decide_eq_false_iff_not]; right; simp only [decide_eq_true_eq] at h24; omega
   have hr : isName s = false := by simp only [isName, hz]; rfl
   simp only [go_sem, hr]
   refine ⟨.one (.bool false), ?_⟩
   simp only [go_sem, hr]
   refine ⟨.one (.bool false), ?_⟩
   simp only [go_sem, hr]
  | false =>
   have hz : isSized s = true := by simp only [isSized, Bool.and_eq_true, decide_eq_true_eq]; simp only [decide_eq_false_iff_not] at h24; omega
   simp only [go_sem, hpos', Int.toNat_zero]
   refine zzb (zx4 Z _) ?_
   cases h1 : isSmall (s.getD 0 0).toNat with
   | false =>
    have hr : isName s = false := by simp only [isName, hz, h1]; rfl
    simp only [go_sem, hr]
    refine ⟨.one (.bool false), ?_⟩
    simp only [go_sem, hr]
   | true =>
    simp only [go_sem]
    refine zzb (zWV Z s) ?_
    cases h2 : kws.contains s with
    | true =>
     have hr : isName s = false := by simp only [isName, hz, h1, h2]; rfl
     simp only [go_sem, hr]
    | false =>
     have hr : isName s = scan badName 1 (s.drop 1) := by simp only [isName, hz, h1, h2]; rfl
     have h3 : scan badName 1 (s.drop 1) = scan badName 0 s := by
      cases s with
      | nil => rfl
      | cons c t =>
       have h1 : isSmall c.toNat = true := h1
       simp [scan, badName, h1]
     rw [hr, h3]
     simp only [go_sem]
     intro _
     refine zzf s (fun done => scan badName 0 done = true) (fun done rest => ⟨[(0, .d (.str s)), (24, .d (.int .i64 done.length)), (23, .d (.int .i64 s.length))], [], []⟩) ?_ rfl ?_ ?_
     ·exact zzc (by simp only [go_sem, nZ])
     ·intro done c r hl hI
      have hlt := zzi hl
      have hx : s.getD done.length 0 = c := zkV _ _ _ _ hl
      have hw : IntKind.i64.wrap ((done.length : Int) + 1) = ((done.length + 1 : Nat) : Int) := zze (by omega)
      simp only [zkE, go_sem, hlt, hx]
      refine zzb (zx4 Z _) ?_
      simp only [go_sem, hw, hlt, hx]
      refine zz2 (zvo Z _) ?_
      simp only [go_sem, hw, hlt, hx]
      cases h1 : badName done.length c.toNat with
      | false =>
       have h2 := h1
       rw [badName] at h2
       simp only [go_sem, h2, hw, lA, zjF, scan, hI, h1, zA]
       exact zzc (by simp only [go_sem])
      | true =>
       have h2 := h1
       rw [badName] at h2
       simp only [go_sem, h2, hl, zjF, scan, h1, zA]
     ·intro hI
      simp only [zkE, go_sem, hI]
end Go.Abs
end
section
namespace Go.Abs
variable {E : AEnv} (Z : Sys E)
include Z
theorem zV5 (s : List UInt8) : E.C zv4 [.one (.str s)] (.one (.int .i64 (if isTitle s then 0 else 3))) := by
 refine Z.zv4 _ _ ⟨bl rfl, ?_⟩
 simp only [zYP, go_sem]
 intro hlen
 cases h0 : decide ((s.length : Int) < 1) with
 | true =>
  have hz : isSized s = false := by simp only [isSized, Bool.and_eq_false_iff, decide_eq_false_iff_not]; left; simp only [decide_eq_true_eq] at h0; omega
  have hr : isTitle s = false := by simp only [isTitle, hz]; rfl
  simp only [go_sem, hr]
  refine ⟨.one (.bool false), ?_⟩
  simp only [go_sem, hr]
 | false =>
  simp only [decide_eq_false_iff_not] at h0
  have hpos' : ((0 : Int) < s.length) = True := eq_true (by omega)
  simp only [go_sem, hlen]
  cases h24 : decide ((s.length : Int) > 24) with
  | true =>
   have hz : isSized s = false := by simp only [isSized, Bool.and_eq_false_iff, decide_eq_false_iff_not]; right; simp only [decide_eq_true_eq] at h24; omega
   have hr : isTitle s = false := by simp only [isTitle, hz]; rfl
   simp only [go_sem, hr]
   refine ⟨.one (.bool false), ?_⟩
   simp only [go_sem, hr]
  | false =>
   have hz : isSized s = true := by simp only [isSized, Bool.and_eq_true, decide_eq_true_eq]; simp only [decide_eq_false_iff_not] at h24; omega
   simp only [go_sem, hpos', Int.toNat_zero]
   refine zzb (zvK Z _) ?_
   cases h1 : isCapital (s.getD 0 0).toNat with
   | false =>
    have hr : isTitle s = false := by simp only [isTitle, hz, h1]; rfl
    simp only [go_sem, hr]
   | true =>
    cases e1 : (s == [73, 110, 116]) <;> cases e2 : (s == [66, 111, 111, 108]) <;> cases e3 : (s == [67, 101, 108, 108]) <;> cases e4 : (s == [70, 117, 110])
    case false.false.false.false =>
     have hr : isTitle s = s.all fun c => alnum c.toNat := by simp only [isTitle, hz, h1, bne, e1, e2, e3, e4]; simp
     rw [hr]
     simp only [go_sem, e1, e2, e3, e4]
     intro _
     refine zzf s (fun done => done.all (fun c => alnum c.toNat) = true) (fun done rest => ⟨[(0, .d (.str s)), (36, .d (.int .i64 done.length)), (35, .d (.int .i64 s.length))], [], []⟩) ?_ rfl ?_ ?_
     ·exact zzc (by simp only [go_sem, nZ])
     ·intro done c r hl hI
      have hlt := zzi hl
      have hx : s.getD done.length 0 = c := zkV _ _ _ _ hl
      have hw : IntKind.i64.wrap ((done.length : Int) + 1) = ((done.length + 1 : Nat) : Int) := zze (by omega)
      simp only [zkF, go_sem, hlt, hx]
      refine zzb (zx4 Z _) ?_
      simp only [go_sem, hw, hlt, hx]
      refine zz2 (zvK Z _) ?_
      simp only [go_sem, hw, hlt, hx]
      refine zz2 (zvo Z _) ?_
      simp only [go_sem, hw, hlt, hx]
      cases h1 : (!isSmall c.toNat && !isCapital c.toNat && !isDigit c.toNat) with
      | false =>
       have hc : alnum c.toNat = true := by rw [alnum, h1]; rfl
       simp only [go_sem, hw, lA, List.all_append, List.all_cons, List.all_nil, hI, hc]
       exact zzc (by simp only [go_sem])
      | true =>
       have hc : alnum c.toNat = false := by rw [alnum, h1]; rfl
       simp only [go_sem, hl, List.all_append, List.all_cons, hc]
     ·intro hI
      simp only [zkF, go_sem, hI]
    all_goals
     have hr : isTitle s = false := by simp only [isTitle, hz, h1, bne, e1, e2, e3, e4]; simp
     simp only [go_sem, hr, e1, e2, e3, e4]
end Go.Abs
end
section
namespace Go.Abs
def alnum2 (n : Int) : Bool := isSmall n || isCapital n || isDigit n
def wordc2 (n : Int) : Bool := isSmall n || isDigit n || n == 95
theorem ywg (n : Int) : alnum n = alnum2 n := by simp only [alnum, alnum2]; cases isSmall n <;> cases isCapital n <;> cases isDigit n <;> rfl
theorem zKG : ∀ (s : List UInt8) (i : Nat), scan badWord (i + 1) s = s.all fun c => wordc2 c.toNat
 | [], _ => rfl
 | c :: s, i => by
  have h0 : (((i + 1 : Nat) : Int) == 0) = false := by simp; omega
  simp only [scan, List.all_cons, zKG s (i + 1), badWord, wordc2, h0, bne]
  cases isSmall c.toNat <;> cases isDigit c.toNat <;> cases ((c.toNat : Int) == 95) <;> rfl
theorem yx1 (c : UInt8) (s : List UInt8) : scan badWord 0 (c :: s) = (isSmall c.toNat && (c :: s).all fun c => wordc2 c.toNat) := by
 simp only [scan, zKG, badWord, List.all_cons, wordc2, nZ, beq_self_eq_true, Bool.true_or, Bool.and_true, Bool.not_not]
 cases isSmall c.toNat <;> simp
variable {E : AEnv} (Z : Sys E)
include Z
theorem zJ8 (s : List UInt8) : E.C zqK [.one (.str s)] (.one (.bool (okPart s))) := by
 refine Z.zqK _ _ ⟨bl rfl, ?_⟩
 simp only [zXT, go_sem]
 intro hlen
 cases h0 : decide ((s.length : Int) < 1) with
 | true =>
  have hz : isSized s = false := by simp only [isSized, Bool.and_eq_false_iff, decide_eq_false_iff_not]; left; simp only [decide_eq_true_eq] at h0; omega
  have hr : okPart s = false := by simp only [okPart, hz]; rfl
  simp only [go_sem, hr]
 | false =>
  simp only [decide_eq_false_iff_not] at h0
  have hpos' : ((0 : Int) < s.length) = True := eq_true (by omega)
  simp only [go_sem, hlen]
  cases h24 : decide ((s.length : Int) > 24) with
  | true =>
   have hz : isSized s = false := by simp only [isSized, Bool.and_eq_false_iff, decide_eq_false_iff_not]; right; simp only [decide_eq_true_eq] at h24; omega
   have hr : okPart s = false := by simp only [okPart, hz]; rfl
   simp only [go_sem, hr]
  | false =>
   have hz : isSized s = true := by simp only [isSized, Bool.and_eq_true, decide_eq_true_eq]; simp only [decide_eq_false_iff_not] at h24; omega
   have hr : okPart s = ((s.all fun c => alnum2 c.toNat) || (isSmall (s.getD 0 0).toNat && s.all fun c => wordc2 c.toNat)) := by
    obtain ⟨c0, t, rfl⟩ : ∃ c0 t, s = c0 :: t := by cases s with | nil => simp at h0 | cons c t => exact ⟨c, t, rfl⟩
    simp only [okPart, hz, yx1, ywg, List.getD_cons_zero]
    cases ((c0 :: t).all fun c => alnum2 c.toNat) <;> cases (isSmall c0.toNat && (c0 :: t).all fun c => wordc2 c.toNat) <;> rfl
   simp only [go_sem, hpos', Int.toNat_zero]
   refine zzb (zx4 Z _) ?_
   simp only [go_sem, hr]
   intro _
   generalize isSmall (s.getD 0 0).toNat = w0
   refine zzf s (fun _ => True) (fun done rest => ⟨[(0, .d (.str s)), (19, .d (.int .i64 done.length)), (18, .d (.int .i64 s.length)), (3, .d (.bool (done.all fun c => alnum2 c.toNat))), (4, .d (.bool (w0 && done.all fun c => wordc2 c.toNat)))], [], []⟩) ?_ trivial ?_ ?_
   ·exact zzc (by simp only [go_sem, nZ, List.all_nil])
   ·intro done c r hl _
    have hlt := zzi hl
    have hx : s.getD done.length 0 = c := zkV _ _ _ _ hl
    have hw : IntKind.i64.wrap ((done.length : Int) + 1) = ((done.length + 1 : Nat) : Int) := zze (by omega)
    simp only [zvt, go_sem, hlt, hx]
    refine zz2 (zx4 Z _) ?_
    simp only [go_sem, hw, hlt, hx]
    refine zz2 (zvK Z _) ?_
    simp only [go_sem, hw, hlt, hx]
    refine ⟨by simp +contextual, ?_⟩
    refine zz2 (zvo Z _) ?_
    simp only [go_sem, hw, hlt, hx]
    refine ⟨by simp +contextual, ?_⟩
    refine zz2 (zx4 Z _) ?_
    simp only [go_sem, hw, hlt, hx]
    refine zz2 (zvo Z _) ?_
    simp only [go_sem, hw, hlt, hx, lA, List.all_append, List.all_cons, List.all_nil]
    refine ⟨by simp +contextual, by simp +contextual, zzc (by simp only [go_sem, lA, List.all_append, List.all_cons, List.all_nil, alnum2, wordc2, Bool.and_assoc])⟩
   ·intro _
    simp only [zvt, go_sem]
    cases (s.all fun c => alnum2 c.toNat) <;> simp
end Go.Abs
end
section
namespace Go.Abs
structure PSt where
 out : List (List UInt8)
 beg : Nat
 pre : List UInt8
def PSt.step (p : PSt) (c : UInt8) : PSt := if c.toNat = 46 then ⟨p.out ++ [p.pre.drop p.beg], p.pre.length + 1, p.pre ++ [c]⟩ else ⟨p.out, p.beg, p.pre ++ [c]⟩
def pst (l : List UInt8) : PSt := l.foldl PSt.step ⟨[], 0, []⟩
theorem yxJ (l : List UInt8) (c : UInt8) : pst (l ++ [c]) = (pst l).step c := by simp [pst]
theorem yxK : ∀ (l : List UInt8) (p : PSt), (l.foldl PSt.step p).pre = p.pre ++ l
 | [], p => by simp
 | c :: l, p => by
  rw [List.foldl_cons, yxK l]
  unfold PSt.step
  split <;> simp
theorem zJ6 : ∀ (l : List UInt8) (p : PSt), p.beg ≤ p.pre.length → (l.foldl PSt.step p).beg ≤ p.pre.length + l.length
 | [], p, h => by simpa using h
 | c :: l, p, h => by
  rw [List.foldl_cons]
  have := zJ6 l (p.step c) (by unfold PSt.step; split <;> simp <;> omega)
  have e : (p.step c).pre.length = p.pre.length + 1 := by unfold PSt.step; split <;> simp
  rw [e] at this
  simp only [lC]; omega
theorem zJ7 : ∀ (l : List UInt8) (p : PSt), (l.foldl PSt.step p).out.length ≤ p.out.length + l.length
 | [], p => by simp
 | c :: l, p => by
  rw [List.foldl_cons]
  have := zJ7 l (p.step c)
  have e : (p.step c).out.length ≤ p.out.length + 1 := by unfold PSt.step; split <;> simp
  simp only [lC]; omega
def partsOf (s : List UInt8) : List (List UInt8) := (pst s).out ++ [s.drop (pst s).beg]
variable {E : AEnv} (Z : Sys E)
include Z
theorem zV6 (s : List UInt8) (hs : s.length ≤ 1000) : E.C zv5 [.one (.str s)] (.one (.lst ((partsOf s).map fun k => [.str k]))) := by
 refine Z.zv5 _ _ ⟨bl rfl, ?_⟩
 simp only [zYR, go_sem]
 intro hlen
 refine zzf s (fun _ => True) (fun done rest => ⟨[(0, .d (.str s)), (8, .d (.int .i64 done.length)), (7, .d (.int .i64 s.length)), (3, .own 3 1 ((pst done).out.map fun k => [.str k])), (4, .d (.int .i64 (pst done).beg))], [], [(3, true)]⟩) ?_ trivial ?_ ?_
 ·exact zwJ 3 3 1 [] [(3, 3)] rfl (by simp) rfl (by simp only [Ent0, go_sem, cN, pst, List.foldl_nil, nZ])
 ·intro done c r hl _
  have hlt := zzi hl
  have hx : s.getD done.length 0 = c := zkV _ _ _ _ hl
  have hw : IntKind.i64.wrap ((done.length : Int) + 1) = ((done.length + 1 : Nat) : Int) := zze (by omega)
  have hpre : (pst done).pre = done := by simp [pst, yxK]
  have hbeg : (pst done).beg ≤ done.length := by simpa [pst] using zJ6 done ⟨[], 0, []⟩ (Nat.le_refl _)
  have hout : (pst done).out.length ≤ done.length := by simpa [pst] using zJ7 done ⟨[], 0, []⟩
  have htake : s.take done.length = done := by rw [hl]; simp
  simp only [zkG, go_sem, hlt, hx]
  by_cases hc : c.toNat = 46
  ·have h1 : (((c.toNat : Nat) : Int) == 46) = true := by simp [hc]
   simp only [go_sem, h1, hw, htake]
   have hd : done.length ≤ 1000 := by omega
   refine ⟨by omega, ⟨by simp, by omega, by omega⟩, zzo [(3, 21)] ?_⟩
   simp only [go_sem, yxJ, PSt.step, if_pos hc, lA, mA, hpre, cN]
  ·have h1 : (((c.toNat : Nat) : Int) == 46) = false := by simp; omega
   simp only [go_sem, h1, hw, yxJ, PSt.step, if_neg hc, lA]
   exact zzo [(3, 3)] (by simp only [go_sem, cN])
 ·intro _
  have hbeg : (pst s).beg ≤ s.length := by simpa [pst] using zJ6 s ⟨[], 0, []⟩ (Nat.le_refl _)
  have hout : (pst s).out.length ≤ s.length := by simpa [pst] using zJ7 s ⟨[], 0, []⟩
  simp only [zkG, go_sem]
  refine ⟨by omega, ⟨by simp, by omega, by omega⟩, ?_⟩
  simp [partsOf]
end Go.Abs
end
section
namespace Go.Abs
def splitW : List UInt8 → List UInt8 → List (List UInt8)
 | acc, [] => [acc]
 | acc, c :: s => if c.toNat = 46 then acc :: splitW [] s else splitW (acc ++ [c]) s
theorem zV3 : ∀ (s : List UInt8) (p : PSt), p.beg ≤ p.pre.length → (s.foldl PSt.step p).out ++ [(p.pre ++ s).drop (s.foldl PSt.step p).beg] = p.out ++ splitW (p.pre.drop p.beg) s
 | [], p, _ => by simp [splitW]
 | c :: s, p, h => by
  have e : p.pre ++ c :: s = (p.step c).pre ++ s := by unfold PSt.step; split <;> simp
  rw [List.foldl_cons, e, zV3 s (p.step c) (by unfold PSt.step; split <;> simp <;> omega)]
  rw [splitW.eq_2]
  unfold PSt.step
  by_cases hc : c.toNat = 46
  ·simp only [if_pos hc]; simp
  ·simp only [if_neg hc]
   rw [List.drop_append_of_le_length h]
theorem yzW (s : List UInt8) : partsOf s = splitW [] s := by
 have := zV3 s ⟨[], 0, []⟩ (Nat.le_refl _)
 simpa [partsOf, pst] using this
theorem zqX : ∀ (s acc : List UInt8), splitW acc s = (acc ++ (cutAt s).1) :: (if (cutAt s).2.2 = true then splitW [] (cutAt s).2.1 else [])
 | [], acc => by simp [splitW, cutAt]
 | c :: s, acc => by
  rw [splitW.eq_2, cutAt.eq_2]
  by_cases hc : c.toNat = 46
  ·simp [hc]
  ·simp only [if_neg hc]; rw [zqX s]; simp
theorem zJ4 (s : List UInt8) : parts s = (splitW [] s).all okPart := by
 induction hn : s.length using Nat.strongRecOn generalizing s with
 | ind n ih =>
  rw [parts, zqX]
  by_cases h : (cutAt s).2.2 = true
  ·have := ih _ (by rw [← hn]; exact zjY s h) (cutAt s).2.1 rfl
   simp [h, this]
  ·simp [h]
end Go.Abs
end
section
namespace Go.Abs
theorem yx3 (acc s : List UInt8) : 0 < (splitW acc s).length := by rw [zqX]; simp
variable {E : AEnv} (Z : Sys E)
include Z
theorem zwE (s : List UInt8) : E.C zxQ [.one (.str s)] (.one (.int .i64 (if isCore s then 0 else 3))) := by
 refine Z.zxQ _ _ ⟨bl rfl, ?_⟩
 simp only [zXR, go_sem]
 intro hlen
 cases h0 : decide ((s.length : Int) > 120) with
 | true => simp only [go_sem, isCore, h0]
 | false =>
  have hs : s.length ≤ 1000 := by simp only [decide_eq_false_iff_not] at h0; omega
  have hp : partsOf s = (cutAt s).1 :: (if (cutAt s).2.2 = true then splitW [] (cutAt s).2.1 else []) := by rw [yzW, zqX]; simp
  simp only [go_sem, isCore, h0]
  refine zzb (zV6 Z s hs) ?_
  rw [hp]
  have hq := zJ4 (cutAt s).2.1
  have hne := yx3 [] (cutAt s).2.1
  rw [hq]
  generalize splitW [] (cutAt s).2.1 = t at *
  generalize (cutAt s).1 = a at *
  generalize (cutAt s).2.2 = m at *
  have hlast : (if m = true then t.all okPart else true) = (if m = true then t else []).all okPart := by cases m <;> rfl
  have hm : (!m) = ((((if m = true then t else []).length + 1 : Nat) : Int) == 1) := by
   cases m
   ·rfl
   ·have : ((((t.length + 1 : Nat) : Int)) == 1) = false := by
      rw [beq_eq_false_iff_ne]; omega
    exact this.symm
  rw [hlast, hm]
  generalize (if m = true then t else []) = u
  have hls : (∀ e ∈ [D.str a] :: u.map fun k => [D.str k], e.length = 1) = True := eq_true (by intro e he; simp only [List.mem_cons, List.mem_map] at he; rcases he with rfl | ⟨k, _, rfl⟩ <;> rfl)
  have h00 : ((0 : Int) < ((u.length + 1 : Nat) : Int)) = True := eq_true (by omega)
  simp only [go_sem, hls, h00, Int.toNat_zero]
  refine zzb (zV4 Z a) ?_
  have hcn : ((if isName a = true then (0 : Int) else 3) != 0) = !isName a := by cases isName a <;> rfl
  have hct : ((if isTitle a = true then (0 : Int) else 3) != 0) = !isTitle a := by cases isTitle a <;> rfl
  simp only [go_sem, hls, h00, Int.toNat_zero, hcn]
  refine zz2 (zV5 Z a) ?_
  simp only [go_sem, hls, h00, Int.toNat_zero, hct]
  intro hlen2
  refine ⟨?_, ?_⟩
  ·cases isName a <;> cases isTitle a <;> cases (a == [118]) <;> simp
  have h11 : ((1 : Int) ≤ ((u.length + 1 : Nat) : Int)) = True := eq_true (by omega)
  have hd : (Int.toNat 1) = 1 := rfl
  have h01 : ((0 : Int) ≤ 1) = True := eq_true (by omega)
  simp only [bne]
  by_cases hb : (!isName a && !isTitle a && (!(a == [118]) || ((u.length + 1 : Nat) : Int) == 1)) = true
  ·simp only [hb, go_sem]
  ·simp only [Bool.not_eq_true] at hb
   simp only [hb, go_sem, h11, hd, h01]
   intro _
   refine zzf u (fun done => done.all okPart = true) (fun done rest => ⟨[(37, .d (.int .i64 done.length)), (36, .d (.int .i64 u.length)), (35, .d (.lst (u.map fun k => [.str k])))], [], []⟩) ?_ rfl ?_ ?_
   ·exact zzc (by simp only [go_sem, nZ])
   ·intro done k r hl hI
    have hlt := zzi hl
    have hw : IntKind.i64.wrap ((done.length : Int) + 1) = ((done.length + 1 : Nat) : Int) := zze (by omega)
    have hx : (u.map fun k => [D.str k]).getD done.length [] = [.str k] := by rw [hl]; exact zy7 _ _ _ _ _
    have hlu : (∀ e ∈ u.map fun k => [D.str k], e.length = 1) = True := eq_true (by intro e he; simp only [List.mem_map] at he; rcases he with ⟨k, _, rfl⟩; rfl)
    simp only [zvr, go_sem, hlt, hx, hlu]
    refine zzb (zJ8 Z k) ?_
    cases hk : okPart k with
    | true =>
     simp only [go_sem, hw, lA, List.all_append, List.all_cons, List.all_nil, hI, hk]
     exact zzc (by simp only [go_sem])
    | false => simp only [go_sem, hl, List.all_append, List.all_cons, hk]
   ·intro hI
    simp only [zvr, go_sem, hI]
end Go.Abs
end
section
namespace Go.Abs
def sV : List UInt8 := [118]
def sTag : List UInt8 := [116, 97, 103]
def sVal : List UInt8 := [118, 97, 108]
def calledOk (o : Int) (s : List UInt8) : Bool := if o == 3 then s == sV || isCore s else if o == 4 then s == sTag || s == sVal || isCore s else if o == 5 then isCore s else true
variable {E : AEnv} (Z : Sys E)
include Z
theorem zK4 (p : Pred) : E.C zkv [.agg (Pred.cells p)] (.one (.bool (calledOk p.op p.name))) := by
 obtain ⟨o, s, n, ks⟩ := p
 refine Z.zkv _ _ ⟨bl rfl, ?_⟩
 rw [Pred.zzd]
 have hc : ((if isCore s = true then (0 : Int) else 3) == 0) = isCore s := by cases isCore s <;> rfl
 by_cases h3 : (o == 3) = true
 ·simp only [zwe, go_sem, Pred.op, Pred.name, h3, calledOk]
  refine zz2 (zwE Z s) ?_
  simp only [go_sem, hc, sV]
  cases (s == [118]) <;> simp
 ·simp only [Bool.not_eq_true] at h3
  by_cases h4 : (o == 4) = true
  ·simp only [zwe, go_sem, Pred.op, Pred.name, h3, h4, calledOk]
   refine ⟨by simp +contextual, ?_⟩
   refine zz2 (zwE Z s) ?_
   simp only [go_sem, hc, sTag, sVal]
   cases (s == [116, 97, 103] || s == [118, 97, 108]) <;> simp
  ·simp only [Bool.not_eq_true] at h4
   by_cases h5 : (o == 5) = true
   ·simp only [zwe, go_sem, Pred.op, Pred.name, h3, h4, h5, calledOk]
    refine zzb (zwE Z s) ?_
    simp only [go_sem, hc]
   ·simp only [Bool.not_eq_true] at h5
    simp only [zwe, go_sem, Pred.op, Pred.name, h3, h4, h5, calledOk]
end Go.Abs
end
section
namespace Go.Abs
theorem gR1 {b : Bool} {p : Prop} : (b = true → b = true ∧ p) = (b = true → p) := by cases b <;> simp
theorem gR2 {b : Bool} : (b = true → b = true) = True := by simp
theorem gR3 {b x : Bool} : (b = true → x = true → (b && x) = true) = True := by cases b <;> cases x <;> simp
theorem gR4 {b : Bool} : (b = false → (!b) = true) = True := by cases b <;> simp
theorem gR5 {b x : Bool} : (b = true → x = false → (b && !x) = true) = True := by cases b <;> cases x <;> simp
theorem gR6 {b x : Bool} {p : Prop} : (b = true → (x = true → (b && x) = true) ∧ p) = (b = true → p) := by cases b <;> cases x <;> simp
theorem gR7 {b x : Bool} {p : Prop} : (b = true → (x = false → (b && !x) = true) ∧ p) = (b = true → p) := by cases b <;> cases x <;> simp
theorem gR8 {b x : Bool} : ((b && x) = true → b = true) = True := by cases b <;> cases x <;> simp
theorem gR9 {b x : Bool} {p : Prop} : ((b && x) = true → b = true ∧ p) = ((b && x) = true → p) := by cases b <;> cases x <;> simp
theorem gR10 {b x : Bool} {p : Prop} : ((b && x) = true → x = true ∧ p) = ((b && x) = true → p) := by cases b <;> cases x <;> simp
theorem gR11 {b x : Bool} : ((b && x) = true → x = true) = True := by cases b <;> cases x <;> simp
theorem gR12 {b : Bool} {p : Prop} : (b = true → (b && b) = true ∧ p) = (b = true → p) := by cases b <;> simp
theorem gR13 {b x : Bool} {p : Prop} : ((b && x) = true → (b && (b && x)) = true ∧ p) = ((b && x) = true → p) := by cases b <;> cases x <;> simp
theorem gR14 {b x : Bool} {p : Prop} : ((b && x) = true → (b && x && b) = true ∧ p) = ((b && x) = true → p) := by cases b <;> cases x <;> simp
theorem gR15 {b x : Bool} : ((b && x) = true → (b && (b && x)) = true) = True := by cases b <;> cases x <;> simp
attribute [go_sem] gR1 gR2 gR3 gR4 gR5 gR6 gR7 gR8 gR9 gR10 gR11 gR12 gR13 gR14 gR15 Int.cast_ofNat_Int Int.natCast_one List.getD_nil nZ false_and and_false Int.toNat_zero Int.toNat_one Bool.false_eq_true Bool.true_eq_false
theorem zYC {v : Bool} {E : AEnv} {f : FuncId} {args : List CV} {r : CV} {b : Bool} {g : Option Bool} {d : Option Nat} {K : St → Prop} {st : St} {az : List AV} (h : E.C f args r) (hk : callK v g d K st az r) : ∃ r, (b = true → E.C f args r) ∧ callK v g d K st az r := ⟨r, fun _ => h, hk⟩
theorem zy8 {v : Bool} {E : AEnv} {f : FuncId} {args : List CV} {r : CV} {b : Bool} {g : Option Bool} {d : Option Nat} {K : St → Prop} {st : St} {az : List AV} (h : b = true → E.C f args r) (hk : callK v g d K st az r) : ∃ r, (b = true → E.C f args r) ∧ callK v g d K st az r := ⟨r, h, hk⟩
theorem call_no {v : Bool} {E : AEnv} {f : FuncId} {args : List CV} (r : CV) {g : Option Bool} {d : Option Nat} {K : St → Prop} {st : St} {az : List AV} (hk : callK v g d K st az r) : ∃ r, (False → E.C f args r) ∧ callK v g d K st az r := ⟨r, fun h => h.elim, hk⟩
attribute [go_sem_proc] Int.reduceToNat Int.reduceLT Int.reduceLE Int.reduceEq Nat.reduceSub
end Go.Abs
end
section
namespace Go.Abs
def nodeE (o : Int) (s : List UInt8) (n : Int) (ks : List Pred) : Int :=
 if decide (o < 1) || decide (o > 18) || !s == [] && !isOpNamed o || n != 0 && !(o == 1 || o == 2) || !kidsOk o ks.length then 1
 else if o == 1 && !inRange n || o == 2 && (decide (n < 0) || decide (n > 1)) then 2
 else if !calledOk o s then 3
 else if o == 8 && ((ks.map Pred.op).getD 0 0) != 1 then 6
 else 0
theorem yw7 {o : Int} {s : List UInt8} {n : Int} {ks : List Pred} (h : ¬ (decide (o < 1) || decide (o > 18) || !s == [] && !isOpNamed o || n != 0 && !(o == 1 || o == 2) || !kidsOk o ks.length) = true) (ho : (o == 8) = true) : ∃ a b, ks = [a, b] := by
 have ho : o = 8 := by simpa using ho
 subst ho
 have h2 : kidsOk 8 (ks.length : Int) = true := by
  simp only [Bool.or_eq_true, not_or] at h
  simpa using h.2
 have h3 : ks.length = 2 := by simp [kidsOk] at h2; omega
 match ks, h3 with
 | [a, b], _ => exact ⟨a, b, rfl⟩
variable {E : AEnv} (Z : Sys E)
include Z
theorem zQg (o : Int) (s : List UInt8) (n : Int) (ks : List Pred) : E.C zqR [.agg (Pred.cells (.mk o s n ks))] (.one (.int .i64 (nodeE o s n ks))) := by
 have hcal := zK4 Z (.mk o s n ks)
 refine Z.zqR _ _ ⟨bl rfl, ?_⟩
 rw [Pred.zzd] at *
 generalize hR : nodeE o s n ks = R
 simp only [zX3, go_sem, Pred.op, Pred.name, Pred.n, Pred.kids] at hcal ⊢
 refine zYC (zJb Z o) ?_
 simp only [go_sem]
 intro hlen
 refine zYC (zQf Z o _) ?_
 simp only [go_sem]
 split
 ·rename_i h1; rw [← hR, nodeE, if_pos h1]
 rename_i h1
 refine zYC (yxL Z n) ?_
 simp only [go_sem]
 split
 ·rename_i h2; rw [← hR, nodeE, if_neg h1, if_pos h2]
 rename_i h2
 refine zzb hcal ?_
 simp only [go_sem]
 split
 ·rename_i h3; rw [← hR, nodeE, if_neg h1, if_neg h2, if_pos h3]
 rename_i h3
 by_cases ho : (o == 8) = true
 ·obtain ⟨a, b, rfl⟩ := yw7 h1 ho
  simp only [go_sem, ho, Pred.zzd a]
  rw [← hR, nodeE, if_neg h1, if_neg h2, if_neg h3, ho]
  simp only [go_sem]
  cases (a.op != 1) <;> rfl
 ·rw [Bool.not_eq_true] at ho
  cases ks <;> (simp only [go_sem, ho, Pred.zzd]; rw [← hR, nodeE, if_neg h1, if_neg h2, if_neg h3, ho]; rfl)
end Go.Abs
end
section
namespace Go.Abs
def nodeP (o : Int) (s : List UInt8) (n : Int) (ks : List Pred) : Int :=
 if decide (o < 1) || decide (o > 18) then 1
 else if !isOpNamed o && !s == [] || o != 1 && o != 2 && n != 0 || decide ((ks.length : Int) < (kidsOf o).1) || decide ((ks.length : Int) > (kidsOf o).2) then 1
 else if o == 1 && !inRange n || o == 2 && n != 0 && n != 1 then 2
 else if isOpNamed o && (if isCore s = true then (0 : Int) else 3) != 0 && !(o == 3 && s == sV) && !(o == 4 && (s == sTag || s == sVal)) then 3
 else if o == 8 && ((ks.map Pred.op).getD 0 0) != 1 then 6
 else 0
theorem zKt {o : Int} {s : List UInt8} {n : Int} {ks : List Pred} (h1 : ¬(decide (o < 1) || decide (o > 18)) = true)
  (h2 : ¬(!isOpNamed o && !s == [] || o != 1 && o != 2 && n != 0 || decide ((ks.length : Int) < (kidsOf o).1) || decide ((ks.length : Int) > (kidsOf o).2)) = true) (h3 : ¬(o == 1 && !inRange n || o == 2 && n != 0 && n != 1) = true) :
  nodeP o s n ks = if isOpNamed o && (if isCore s = true then (0 : Int) else 3) != 0 && (!(o == 3 && s == sV) && !(o == 4 && (s == sTag || s == sVal))) then 3 else if o == 8 && ((ks.map Pred.op).getD 0 0) != 1 then 6 else 0 := by
 rw [nodeP, if_neg h1, if_neg h2, if_neg h3, Bool.and_assoc]
theorem yxr (o : Int) (m : Nat) : (decide ((m : Int) < (kidsOf o).1) || decide ((m : Int) > (kidsOf o).2)) = !kidsOk o m := by
 unfold kidsOf kidsOk
 split
 ·rw [Bool.eq_iff_iff]; simp; omega
 ·split
  ·rw [Bool.eq_iff_iff]; simp
  ·split
   ·rw [Bool.eq_iff_iff]; simp; omega
   ·rw [Bool.eq_iff_iff]; simp; omega
theorem fin3 {A B : Bool} {R t x : Int} {p : Prop} (hk : R = if A && B then x else t) (hp : t = R → p) : if A = true then (if B = true then x = R else p) else p := by
 cases A <;> cases B <;> simp_all
theorem yw8 (o : Int) (s : List UInt8) (n : Int) (ks : List Pred) : nodeP o s n ks = nodeE o s n ks := by
 unfold nodeP nodeE
 have e2 : (n != 0 && !(o == 1 || o == 2)) = (o != 1 && o != 2 && n != 0) := by
  simp only [bne]; cases (o == 1) <;> cases (o == 2) <;> cases (n == 0) <;> rfl
 have e3 : (decide (n < 0) || decide (n > 1)) = (n != 0 && n != 1) := by
  rw [Bool.eq_iff_iff]; simp; omega
 have e4 : (isOpNamed o && (if isCore s = true then (0 : Int) else 3) != 0 && !(o == 3 && s == sV) && !(o == 4 && (s == sTag || s == sVal))) = !calledOk o s := by
  unfold isOpNamed calledOk
  by_cases h3 : o = 3
  ·subst h3; cases isCore s <;> cases (s == sV) <;> simp
  ·by_cases h4 : o = 4
   ·subst h4; cases isCore s <;> cases (s == sTag || s == sVal) <;> simp
   ·by_cases h5 : o = 5
    ·subst h5; cases isCore s <;> simp
    ·simp [h3, h4, h5]
 rw [e4, e3, e2, Bool.and_comm (!s == []), ← yxr, ← Bool.and_assoc]
 cases (decide (o < 1) || decide (o > 18)) <;> simp only [Bool.true_or, Bool.false_or, Bool.false_eq_true, if_true, if_false, Bool.or_assoc]
theorem yxy {o : Int} {s : List UInt8} {n : Int} {ks : List Pred} (h2 : ¬(!isOpNamed o && !s == [] || o != 1 && o != 2 && n != 0 || decide ((ks.length : Int) < (kidsOf o).1) || decide ((ks.length : Int) > (kidsOf o).2)) = true) (ho : (o == 8) = true) : ∃ a b, ks = [a, b] := by
 have ho : o = 8 := by simpa using ho
 subst ho
 have h3 : ks.length = 2 := by simp [kidsOf] at h2; omega
 match ks, h3 with
 | [a, b], _ => exact ⟨a, b, rfl⟩
variable {E : AEnv} (Z : Sys E)
include Z
theorem pred_node_ev' (hG : E.G 0 = some (kws.map .str)) (o : Int) (s : List UInt8) (n : Int) (ks : List Pred) : E.C zkY [.agg (Pred.cells (.mk o s n ks))] (.one (.int .i64 (nodeP o s n ks))) := by
 refine Z.zkY _ _ ⟨bl rfl, ?_⟩
 rw [Pred.zzd]
 generalize hR : nodeP o s n ks = R
 simp only [zYM, go_sem, Pred.op, Pred.name, Pred.n, Pred.kids]
 split
 ·rename_i h1; rw [← hR, nodeP, if_pos h1]
 rename_i h1
 refine zzb (zV0 Z o) ?_
 simp only [go_sem]
 refine zzb (zZ4 Z o) ?_
 simp only [go_sem]
 intro hlen1 hlen2
 split
 ·rename_i h2; rw [← hR, nodeP, if_neg h1, if_pos h2]
 rename_i h2
 refine zYC (yxC Z n) ?_
 simp only [go_sem]
 split
 ·rename_i h3; rw [← hR, nodeP, if_neg h1, if_neg h2, if_pos h3]
 rename_i h3
 refine zzb (zZ4 Z o) ?_
 simp only [go_sem]
 refine zYC (zjv Z hG s) ?_
 simp only [go_sem]
 by_cases ho : (o == 8) = true
 ·obtain ⟨a, b, rfl⟩ := yxy h2 ho
  simp only [go_sem, ho, Pred.zzd a]
  have key := zKt h1 h2 h3
  rw [hR, ho] at key
  simp only [go_sem, sV, sTag, sVal] at key
  refine fin3 key fun h => ?_
  cases hC : (a.op != 1) <;> simp_all
 ·rw [Bool.not_eq_true] at ho
  have key := zKt h1 h2 h3
  rw [hR, ho] at key
  simp only [go_sem, sV, sTag, sVal] at key
  cases ks <;> (simp only [go_sem, ho, Pred.zzd]; exact fin3 key fun h => h)
theorem zV1 (hG : E.G 0 = some (kws.map .str)) (o : Int) (s : List UInt8) (n : Int) (ks : List Pred) : E.C zkY [.agg (Pred.cells (.mk o s n ks))] (.one (.int .i64 (nodeE o s n ks))) := yw8 o s n ks ▸ pred_node_ev' Z hG o s n ks
end Go.Abs
end
section
namespace Go.Abs
namespace Pred
def formE : Pred → Int
 | .mk o s n ks => if nodeE o s n ks != 0 then nodeE o s n ks else formEs ks
where formEs : List Pred → Int
 | [] => 0
 | k :: ks => if formE k != 0 then formE k else formEs ks
theorem yzF {a b : List Pred} {k : Pred} (ha : ∀ x ∈ a, formE x = 0) : formE.formEs (a ++ k :: b) = if formE k != 0 then formE k else formE.formEs b := by
 induction a with
 | nil => rfl
 | cons x a ih =>
  rw [List.cons_append, formE.formEs, ha x (by simp)]
  exact ih fun y hy => ha y (by simp [hy])
theorem zKf {a : List Pred} (ha : ∀ x ∈ a, formE x = 0) : formE.formEs a = 0 := by
 induction a with
 | nil => rfl
 | cons x a ih =>
  rw [formE.formEs, ha x (by simp)]
  exact ih fun y hy => ha y (by simp [hy])
theorem zZS (o : Int) (s : List UInt8) (n : Int) (ks : List Pred) : formE (.mk o s n ks) = if nodeE o s n ks != 0 then nodeE o s n ks else formE.formEs ks := by rw [formE]
def checkE (p : Pred) : Int := if decide (nodes p > 400) then 7 else if decide (depth p > 40) then 8 else formE p
end Pred
theorem zyb {α : Type} {P : α → Prop} {a : List α} {k : α} (ha : ∀ x ∈ a, P x) (hk : P k) : ∀ x ∈ a ++ [k], P x := by
 intro x hx; rcases List.mem_append.1 hx with h | h
 ·exact ha x h
 ·simp at h; subst h; exact hk
theorem zzA {ks a r : List Pred} {k : Pred} (hl : ks = a ++ k :: r) : (ks.map Pred.cells).getD a.length [] = Pred.cells k := by rw [hl]; exact zy7 _ _ _ _ _
variable {E : AEnv} (Z : Sys E)
include Z
theorem zQe (p : Pred) : E.C zjz [.agg (Pred.cells p)] (.one (.int .i64 p.formE)) := by
 induction p using Pred.ind with
 | h o s n ks ih =>
 have hn := zQg Z o s n ks
 refine Z.zjz _ _ ⟨bl rfl, ?_⟩
 rw [Pred.zzd] at *
 generalize hR : Pred.formE (.mk o s n ks) = R
 rw [Pred.zZS] at hR
 simp only [zX1, go_sem, Pred.op, Pred.name, Pred.n, Pred.kids] at hn ⊢
 refine zzb hn ?_
 simp only [go_sem]
 cases h1 : (nodeE o s n ks != 0) with
 | true => simp only [h1, go_sem] at hR ⊢; exact hR
 | false =>
 simp only [h1, go_sem] at hR ⊢
 intro hlen
 refine zzf ks (fun done => ∀ x ∈ done, x.formE = 0) (fun done rest => ⟨[(15, .d (.int .i64 done.length)), (14, .d (.int .i64 ks.length)), (13, .d (.lst (ks.map Pred.cells)))], [], []⟩) ?_ (by simp) ?_ ?_
 ·exact zzc (by simp only [go_sem])
 ·intro done k r hl hI
  have hk' := ih k (by rw [hl]; simp)
  have hlt := zzi hl
  have hw : IntKind.i64.wrap ((done.length : Int) + 1) = ((done.length + 1 : Nat) : Int) := zze (by omega)
  simp only [zvz, go_sem, hlt, zzA hl]
  refine zzb hk' ?_
  rw [hl, Pred.yzF hI] at hR
  cases h2 : (k.formE != 0) with
  | true => simp only [h2, go_sem] at hR ⊢; exact hR
  | false =>
   simp only [go_sem, h2, hw, lA]
   exact ⟨zzc (by simp only [go_sem]), zyb hI (by simpa using h2)⟩
 ·intro hI
  rw [Pred.zKf hI] at hR
  simp only [zvz, go_sem, hR]
theorem zXa (p : Pred) : E.C zkZ [.agg (Pred.cells p)] (.one (.int .i64 p.checkE)) := by
 have h1 := zqn Z p
 have h2 := zV8 Z p
 have h3 := zQe Z p
 refine Z.zkZ _ _ ⟨bl rfl, ?_⟩
 generalize hR : Pred.checkE p = R
 unfold Pred.checkE at hR
 rw [Pred.zzd] at *
 simp only [zYW, go_sem]
 refine zzb h1 ?_
 simp only [go_sem]
 split
 ·rename_i h; rw [if_pos h] at hR; exact hR
 rename_i h; rw [if_neg h] at hR
 refine zzb h2 ?_
 simp only [go_sem]
 split
 ·rename_i h; rw [if_pos h] at hR; exact hR
 rename_i h; rw [if_neg h] at hR
 refine zzb h3 ?_
 simp only [go_sem, hR]
end Go.Abs
end
section
namespace Go.Abs
namespace Pred
def pre : Pred → List Pred
 | .mk o s n ks => .mk o s n ks :: pres ks
where pres : List Pred → List Pred
 | [] => []
 | k :: ks => pre k ++ pres ks
theorem zZ2 (o : Int) (s : List UInt8) (n : Int) (ks : List Pred) : pre (.mk o s n ks) = .mk o s n ks :: pre.pres ks := by rw [pre]
theorem yze (a b : List Pred) : pre.pres (a ++ b) = pre.pres a ++ pre.pres b := by
 induction a with
 | nil => rfl
 | cons k a ih => simp [pre.pres, ih]
def err (p : Pred) : Int := nodeE p.op p.name p.n p.kids
def first : List Pred → Int
 | [] => 0
 | p :: l => if err p != 0 then err p else first l
theorem yxb (a b : List Pred) : first (a ++ b) = if first a != 0 then first a else first b := by
 induction a with
 | nil => rfl
 | cons k a ih =>
  by_cases h : (err k != 0) = true
  ·have e1 : first (k :: a) = err k := by rw [first, if_pos h]
   have e2 : first (k :: (a ++ b)) = err k := by rw [first, if_pos h]
   simp only [List.cons_append, e1, e2, h, if_true]
  ·have e1 : first (k :: a) = first a := by rw [first, if_neg h]
   have e2 : first (k :: (a ++ b)) = first (a ++ b) := by rw [first, if_neg h]
   simp only [List.cons_append, e1, e2, ih]
theorem zZs (p : Pred) : formE p = first (pre p) := by
 induction p using Pred.ind with
 | h o s n ks ih =>
 rw [zZS, zZ2, first]
 have : formE.formEs ks = first (pre.pres ks) := by
  induction ks with
  | nil => rfl
  | cons k ks ih2 =>
   rw [formE.formEs, pre.pres, yxb, ih k (by simp), ih2 fun x hx => ih x (by simp [hx])]
 rw [this]; rfl
theorem yxc {a b : List Pred} {k : Pred} (ha : ∀ x ∈ a, err x = 0) : first (a ++ k :: b) = if err k != 0 then err k else first b := by
 induction a with
 | nil => rfl
 | cons x a ih =>
  rw [List.cons_append, first, ha x (by simp)]
  exact ih fun y hy => ha y (by simp [hy])
theorem yxa {a : List Pred} (ha : ∀ x ∈ a, err x = 0) : first a = 0 := by
 induction a with
 | nil => rfl
 | cons x a ih =>
  rw [first, ha x (by simp)]
  exact ih fun y hy => ha y (by simp [hy])
end Pred
def yields (l : List Pred) : List (List CV) := l.map fun q => [.agg (Pred.cells q)]
theorem yyg {l : List Pred} {a b : List (List CV)} {x : List CV} (h : yields l = a ++ x :: b) : ∃ a' p b', l = a' ++ p :: b' ∧ a = yields a' ∧ x = [.agg (Pred.cells p)] := by
 obtain ⟨a', r, h1, h2, h3⟩ := List.map_eq_append_iff.1 h
 obtain ⟨p, b', h4, h5, h6⟩ := List.map_eq_cons_iff.1 h3
 exact ⟨a', p, b', by rw [h1, h4], h2.symm, h5.symm⟩
theorem yyO : ∀ (p q : Pred), Pred.cells p = Pred.cells q → p = q := by
 intro p
 induction p using Pred.ind with
 | h o s n ks ih =>
 intro q h
 obtain ⟨o', s', n', ks'⟩ := q
 rw [Pred.zzd, Pred.zzd] at h
 simp only [Pred.op, Pred.name, Pred.n, Pred.kids, List.cons.injEq, D.int.injEq, D.str.injEq, D.lst.injEq, true_and, and_true] at h
 obtain ⟨rfl, rfl, rfl, h4⟩ := h
 have : ks = ks' := by
  induction ks generalizing ks' with
  | nil => cases ks' with | nil => rfl | cons _ _ => cases h4
  | cons k ks ih2 =>
   cases ks' with
   | nil => cases h4
   | cons k' ks' =>
    simp only [mC, List.cons.injEq] at h4
    rw [ih k (by simp) k' h4.1, ih2 (fun x hx => ih x (by simp [hx])) ks' h4.2]
 rw [this]
theorem zKI {a b : List Pred} (h : yields a = yields b) : a = b := by
 induction a generalizing b with
 | nil => cases b with | nil => rfl | cons _ _ => cases h
 | cons x a ih =>
  cases b with
  | nil => cases h
  | cons y b =>
   simp only [yields, mC, List.cons.injEq, CV.agg.injEq, and_true] at h
   rw [yyO x y h.1, ih h.2]
variable {E : AEnv} (Z : Sys E)
include Z
theorem zWU (p : Pred) : E.C zwA [.agg (Pred.cells p)] (.one (.clo zzY [.ref (Pred.cells p)])) := by
 refine Z.zwA _ _ ⟨bl rfl, ?_⟩
 rw [Pred.zzd]
 simp only [zZb, go_sem]
 try rfl
theorem zZ3 (hG : E.G 0 = some (kws.map .str)) (hIt : ∀ p, E.It zzY [.ref (Pred.cells p)] (yields p.pre)) (p : Pred) : E.C zxv [.agg (Pred.cells p)] (.one (.int .i64 p.checkE)) := by
 have h1 := zK1 Z p
 have h2 := zK0 Z p
 have h3 := zWU Z p
 have hit := hIt p
 refine Z.zxv _ _ ⟨bl rfl, ?_⟩
 generalize hR : Pred.checkE p = R
 unfold Pred.checkE at hR
 rw [Pred.zZs] at hR
 rw [Pred.zzd] at *
 simp only [zZM, go_sem]
 refine zzb h1 ?_
 simp only [go_sem]
 split
 ·rename_i h; rw [if_pos h] at hR; simp only [go_sem, hR]
 rename_i h; rw [if_neg h] at hR
 refine zzb h2 ?_
 simp only [go_sem]
 split
 ·rename_i h; rw [if_pos h] at hR; simp only [go_sem, hR]
 rename_i h; rw [if_neg h] at hR
 refine zzb h3 ?_
 simp only [go_sem]
 refine ykO hit (fun a => ∃ l, a = yields l ∧ ∀ x ∈ l, Pred.err x = 0) (fun _ => ⟨[(2, .ptr 2 0)], [(2, [.d (.int .i64 0)])], []⟩) ?_ ⟨[], rfl, by simp⟩ ?_ ?_
 ·exact zzc (by simp only [go_sem, oS])
 ·intro a x b hx ⟨l, hl, hI⟩
  obtain ⟨a', q, b', e1, rfl, rfl⟩ := yyg hx
  obtain rfl := zKI hl
  refine ⟨rfl, ?_⟩
  obtain ⟨o, s, n, ks⟩ := q
  have hn := zV1 Z hG o s n ks
  rw [Pred.zzd] at hn ⊢
  rw [e1, Pred.yxc hI] at hR
  simp only [zjK, zjL, go_sem, Pred.op, Pred.name, Pred.n, Pred.kids] at hn ⊢
  refine zzb hn ?_
  simp only [go_sem]
  have he : Pred.err (.mk o s n ks) = nodeE o s n ks := rfl
  rw [he] at hR
  cases h2 : (nodeE o s n ks != 0) with
  | true => simp only [h2, go_sem] at hR ⊢; simp only [go_sem, hR]
  | false =>
   simp only [go_sem]
   exact ⟨zzc (by simp only [go_sem, oS]), a' ++ [.mk o s n ks], by simp [yields, Pred.zzd, Pred.op, Pred.name, Pred.n, Pred.kids], zyb hI (by rw [he]; simpa using h2)⟩
 ·rintro ⟨l, hl, hI⟩
  obtain rfl := zKI hl
  rw [Pred.yxa hI] at hR
  simp only [go_sem, hR]
end Go.Abs
end
section
namespace Go.Abs
open Go.RowKit
variable {T : Nat → Option Ty} {P : Program} {G : Nat → Option (List D)}
variable {l : Nat} {J : List (List CV) → World → Safe → Prop} {Jx : World → Safe → Prop}
theorem zXu {fn : Func} {fa : FnA} (h : trFn T fn = some fa) : (fn.name == "runtime.NumGoroutine") = false ∧ ∃ cd, fn.body = some cd ∧ tr T fn.ntmps cd = some fa.ac ∧ fn.results.toList.mapM (trRes T) = some fa.rs ∧ fn.ntmps = fa.n := by
 simp only [trFn] at h
 split at h
 ·cases h
 ·rename_i hname
  simp only [Option.bind_eq_bind, Option.pure_def, Option.bind_eq_some_iff, Option.some.injEq] at h
  obtain ⟨cd, hcd, ac, hac, rs, hrs, rfl⟩ := h
  exact ⟨by simpa using hname, cd, hcd, hac, hrs, rfl⟩
theorem zJs (hT : ∀ t ty, T t = some ty → chkTy P t ty = true) {fn : Func} {N k : Nat} {cd : Code} {W1 : World} {S1 : Safe} {st : St} {tmps : Array Value} {w : World} {S : Safe} {ρ : Rho} (hrs : fn.results.toList.mapM (trRes T) = some [.t k]) (h : tr T N cd = some (.seq (.reg [(none, .mv k (.c (.d (.bool false))))]) .ret))
  (hs : Sim (baseC P W1 S1 N (fun _ => none)) st tmps w S ρ) (hm : st.mem = []) {R : Ending → World → Prop} (hR : ∀ w' S', Grows W1 S1 w' S' → R (.returned (.bool false)) w') {Q : Exit → Act → World → Prop} (hQ : ∀ a w, LeavesInM Fence.wide 0 P fn a.tmps R a.defers .returning w → Q .ret a w) {m : Nat} :
  cd.wpIn (FR none) m P Q ⟨tmps, []⟩ w := by
 obtain ⟨x, y, rfl, hx, hy⟩ := zzV h
 obtain rfl := zJt hy
 refine wpIn_seq (zvp (K := fun s => getS s.slots k = .d (.bool false) ∧ s.mem = []) hT hx hs ?_ ?_)
 ·simp only [go_sem, hm]
 ·rintro st' tm w' S' ρ' hs' ⟨h1, h2⟩
  refine wpIn_ret (hQ _ _ ⟨_, yzf hT hrs hs' h2 h1, hR _ _ hs'.grows⟩)
theorem yye (hT : ∀ t ty, T t = some ty → chkTy P t ty = true) {L : List Pred} (hY : YCtx P G l (yields L) J Jx) {fn : Func} (hrs : fn.results.toList.mapM (trRes T) = some [.t 4]) (hN : fn.ntmps = 23) {ks : List Pred} (hlen : (ks.length : Int) ≤ 9223372036854775807)
  (ih : ∀ k ∈ ks, EvY P (yields L) J Jx zxx [CV.agg k.cells, CV.one (D.yl l)] (yields k.pre)) {body : Code} (hbody : tr T fn.ntmps body = some zka) {a b : List (List CV)} (hxs : yields L = a ++ yields (Pred.pre.pres ks) ++ b) {W0 : World} {S0 : Safe}
  {RR : Ending → World → Prop} (hRR : ∀ w' S', Jx w' S' → RR (.returned (.bool false)) w') {R : Exit → Act → World → Prop} (hstop : ∀ a w, LeavesInM Fence.wide 0 P fn a.tmps RR a.defers .returning w → R .ret a w)
  (hexit : ∀ W' S3 st tm w S' ρ, J (a ++ yields (Pred.pre.pres ks)) W' S3 → Keeps W0 S0 W' S3 → Sim (baseC P W' S3 fn.ntmps G) st tm w S' ρ → st.mem = [] → R (.exit 0) ⟨tm, []⟩ w) :
  ∀ (rest done : List Pred), ks = done ++ rest → ∀ (W' : World) (S3 : Safe) (tm : Array Value) (w : World) (S' : Safe) (ρ : Rho), J (a ++ yields (Pred.pre.pres done)) W' S3 → Keeps W0 S0 W' S3 →
   Sim (baseC P W' S3 fn.ntmps G) (pureSt [(14, .int .i64 done.length), (13, .int .i64 ks.length), (12, .lst (ks.map Pred.cells)), (1, .yl l)]) tm w S' ρ →
   Inside (FR none) 0 P body R ⟨tm, []⟩ w := by
 unfold zka at hbody
 obtain ⟨z0, z1, rfl, k0, k1⟩ := zzV hbody
 obtain ⟨z2, z3, rfl, k2, k3⟩ := zzV k1
 obtain ⟨z4, z5, rfl, k4, k5⟩ := zzV k3
 obtain ⟨zg, zy, zz, rfl, kg, ky, kz⟩ := zqv k2
 obtain rfl := zZz ky
 obtain rfl := zQy kz
 obtain ⟨z6, rfl, k6⟩ := zXC k4
 obtain ⟨z7, z8, rfl, k7, k8⟩ := zzV k6
 obtain ⟨z9, z10, rfl, k9, k10⟩ := zzV k8
 obtain ⟨vg, vy, vz, rfl, vk, vky, vkz⟩ := zqv k10
 obtain rfl := zZz vkz
 have hd : ∀ d, d < 23 → d < fn.ntmps := fun d hd => by rw [hN]; exact hd
 intro rest
 induction rest with
 | nil =>
  intro done hdone W' S3 tm w S' ρ hJ' hk' hs
  have hdone : ks = done := by simpa using hdone
  subst hdone
  refine zwT (wpIn_seq (zvp (K := fun z => getS z.slots 15 = .d (.bool false) ∧ z.mem = []) hT k0 hs ?_ ?_))
  ·simp only [go_sem, pureSt]
  rintro st1 tm1 w1 S1 ρ1 hs1 ⟨h15, hm⟩
  refine wpIn_seq (zvR kg hs1 (b := false) (by simp [ev, ev0, h15, AV.strip]) (by simp [gd, ev0, h15, AV.grd]) (fun h => by cases h) (fun _ => wpIn_exit ?_))
  exact hexit _ _ _ _ _ _ _ hJ' hk' hs1 hm
 | cons k rest ihr =>
  intro done hdone W' S3 tm w S' ρ hJ' hk' hs
  have hlt := zzi hdone
  have hw : IntKind.i64.wrap ((done.length : Int) + 1) = ((done.length + 1 : Nat) : Int) := zze (by omega)
  refine zwT (wpIn_seq (zvp (K := fun z => z = ⟨[(15, .d (.bool true)), (14, .d (.int .i64 done.length)), (13, .d (.int .i64 ks.length)), (12, .d (.lst (ks.map Pred.cells))), (1, .d (.yl l))], [], []⟩) hT k0 hs ?_ ?_))
  ·simp only [go_sem, pureSt, hlt]
  rintro _ tm1 w1 S1 ρ1 hs1 rfl
  refine wpIn_seq (zvR kg hs1 (b := true) rfl rfl (fun _ => wpIn_skip ?_) (fun h => by cases h))
  refine wpIn_seq (wpIn_block (wpIn_seq (zvp (K := fun z => ∃ sl mm, z = ⟨(6, .ptr 6 0) :: sl, (6, (Pred.cells k).map .d) :: mm, []⟩ ∧ getS sl 14 = .d (.int .i64 done.length) ∧ getS sl 13 = .d (.int .i64 ks.length) ∧ getS sl 12 = .d (.lst (ks.map Pred.cells)) ∧ getS sl 1 = .d (.yl l)) hT k7 hs1 ?_ ?_)))
  ·simp only [go_sem, hlt, zzA hdone]
   exact ⟨_, _, rfl, rfl, rfl, rfl, rfl⟩
  rintro _ tm2 w2 S2 ρ2 hs2 ⟨sl, mm, rfl, h14, h13, h12, h1⟩
  refine wpIn_seq ?_
  obtain ⟨id, ops, rfl, hops, hok⟩ := zXg k9
  obtain ⟨hlen', hget⟩ := zye hops
  have hsz : ops.size = 4 := by simpa using hlen'.symm
  refine wpIn_region ?_
  have hr : List.range ops.size = List.range' 0 2 ++ [2, 3] := by rw [hsz]; rfl
  rw [hr]
  refine zqj (c := baseC P W' S3 fn.ntmps G) (E := quietE G) rfl (fun _ _ _ h => h.elim) hT hops (fun o ho d hd => ⟨zvJ hok ho hd, rfl⟩) (FR.fw none) 0 _
   (K := fun z => z = ⟨(19, .d (.yl l)) :: (18, .agg ((Pred.cells k).map .d)) :: (6, .ptr 6 0) :: sl, (6, (Pred.cells k).map .d) :: mm, []⟩) [2, 3] 2 0 (by omega) ?_ hs2 ?_
  case refine_2 =>
   rw [Pred.zzd]
   simp only [go_sem, h1]
  rintro ⟨tm3, ds3⟩ w3 ⟨hds, st3, S4, ρ3, hs3, rfl⟩
  simp only at hds
  subst hds
  obtain ⟨gi2, i2, hl2, htg2, hti2⟩ := hget 2 ops[2] (by simp [hsz])
  obtain ⟨gi3, i3, hl3, htg3, hti3⟩ := hget 3 ops[3] (by simp [hsz])
  simp only [go_sem, Prod.mk.injEq] at hl2 hl3
  obtain ⟨rfl, rfl⟩ := hl2
  rw [wpOpsIn_cons]
  have h4 : 3 + 1 ≤ ops.size := by omega
  have hkm : k ∈ ks := by rw [hdone]; simp
  have hys : yields (Pred.pre.pres ks) = yields (Pred.pre.pres done) ++ (yields k.pre ++ yields (Pred.pre.pres rest)) := by
   rw [hdone, Pred.yze, Pred.pre.pres]; simp [yields]
  refine zxs (ops := ops) (k := 2) (o := ops[2]) (by simp [hsz]) htg2 (ykH hY (a := a ++ yields (Pred.pre.pres done)) (ys := yields k.pre) (b := yields (Pred.pre.pres rest) ++ b) (by rw [hxs, hys]; simp) hJ' hs3 hti2 (hd _ (by omega)) rfl rfl rfl
   (cvs := [.agg (Pred.cells k), .one (.yl l)]) ?_ (ih k hkm) [(14, .int .i64 done.length), (13, .int .i64 ks.length), (12, .lst (ks.map Pred.cells)), (1, .yl l)] ?_ ?_ ?_)
  ·simp only [go_sem]
  ·intro q hq
   simp only [List.mem_cons, List.not_mem_nil, or_false] at hq
   rcases hq with rfl | rfl | rfl | rfl <;> simp only [go_sem, h14, h13, h12, h1]
  rotate_left
  ·
   intro W8 S8 ρ8 hx8 hs8
   refine zqj (c := baseC P W8 S8 fn.ntmps fun _ => none) (E := quietE fun _ => none) rfl (fun _ _ _ h => h.elim) hT hops (fun o ho d hd => ⟨zvJ hok ho hd, rfl⟩) (FR.fw none) 0 _
    (K := fun z => getS z.slots 21 = .d (.bool true) ∧ z.mem = []) [] 1 3 h4 ?_ hs8 ?_
   case refine_2 => simp only [go_sem, pureSt]
   rintro ⟨tm4, ds4⟩ w4 ⟨hds, st4, S4, ρ4, hs4, h10, hm⟩
   simp only at hds
   subst hds
   refine zvR vk hs4 (b := true) (by simp [ev, ev0, h10, AV.strip]) (by simp [gd, ev0, h10, AV.grd]) (fun _ => ?_) (fun h => by cases h)
   refine zJs hT hrs vky hs4 hm (fun w' S' hg => hRR _ _ (hY.growx _ _ _ _ hx8 hg)) (fun a w h => ?_)
   exact hstop a w h
  intro W8 S8 ρ8 hJ8 hk8 hs8
  refine zqj (c := baseC P W8 S8 fn.ntmps G) (E := quietE G) rfl (fun _ _ _ h => h.elim) hT hops (fun o ho d hd => ⟨zvJ hok ho hd, rfl⟩) (FR.fw none) 0 _
    (K := fun z => z = ⟨(21, .d (.bool false)) :: (20, .d (.bool true)) :: (pureSt [(14, .int .i64 done.length), (13, .int .i64 ks.length), (12, .lst (ks.map Pred.cells)), (1, .yl l)]).slots, [], []⟩) [] 1 3 h4 ?_ hs8 ?_
  case refine_2 => simp only [go_sem, pureSt]
  rintro ⟨tm4, ds4⟩ w4 ⟨hds, st4, S4, ρ4, hs4, rfl⟩
  simp only at hds
  subst hds
  refine zvR vk hs4 (b := false) rfl rfl (fun h => by cases h) (fun _ => wpIn_skip ?_)
  refine zvp (K := fun z => ∃ sl, z = ⟨(14, .d (.int .i64 (done.length + 1 : Nat))) :: sl, [], []⟩ ∧ getS sl 13 = .d (.int .i64 ks.length) ∧ getS sl 12 = .d (.lst (ks.map Pred.cells)) ∧ getS sl 1 = .d (.yl l)) hT k5 hs4 ?_ ?_
  ·simp only [go_sem, pureSt, hw]
   exact ⟨_, rfl, rfl, rfl, rfl⟩
  rintro _ tm5 w5 S5 ρ5 hs5 ⟨sl5, rfl, g13, g12, g1⟩
  obtain ⟨ρ6, hs6⟩ := Ent.sound hs5 (st1 := pureSt [(14, .int .i64 (done ++ [k]).length), (13, .int .i64 ks.length), (12, .lst (ks.map Pred.cells)), (1, .yl l)]) (zzc (by simp only [go_sem, pureSt, g13, g12, g1, lA]))
  have hkk : Keeps W' S3 w3 _ := hs3.grows.keeps (hY.live _ _ _ hJ')
  exact ihr (done ++ [k]) (by simp [hdone]) W8 S8 tm5 w5 S5 ρ6 (by rw [Pred.yze, Pred.pre.pres, Pred.pre.pres]; simpa [yields] using hJ8) ((hk'.trans hkk).trans hk8) hs6
theorem yky (hT : ∀ t ty, T t = some ty → chkTy P t ty = true) {L : List Pred} (hY : YCtx P G l (yields L) J Jx) {fn : Func} (hf : P.funcs[zxx]? = some fn) (htr : trFn T fn = some zkm) (p : Pred) :
  EvY P (yields L) J Jx zxx [.agg (Pred.cells p), .one (.yl l)] (yields p.pre) := by
 induction p using Pred.ind with
 | h o s n ks ih =>
 obtain ⟨hname, cd, hcd, hac, hrs, hN⟩ := zXu htr
 refine ⟨⟨fn, hf, hname, by simp [hcd]⟩, ?_⟩
 intro a b W S cargs hxs hJ hargs
 refine callsIn_wide.1 (callsIn_of_wp_marks (n := 0) hf hcd trivial ?_)
 have hs0 := zqG (P := P) (G := G) (fn := fn) (by rw [hN]; exact bl rfl) (hY.live _ _ _ hJ) (hY.glob _ _ _ hJ) hargs
 change Sim (baseC P W S fn.ntmps G) _ _ _ _ _ at hs0
 obtain ⟨x0, y0, rfl, h0, hac⟩ := zzV hac
 obtain ⟨x1, y1, rfl, h1, hac⟩ := zzV hac
 obtain ⟨x2, y2, rfl, h2, h3⟩ := zzV hac
 obtain ⟨x1a, x1b, rfl, h1a, h1b⟩ := zzV h1
 obtain ⟨x2a, x2b, rfl, h2a, h2b⟩ := zzV h2
 obtain ⟨x3a, x3b, rfl, h3a, h3b⟩ := zzV h3
 obtain rfl := zJt h3b
 obtain ⟨cg, cy, cz, rfl, hcg, hcy, hcz⟩ := zqv h1b
 obtain rfl := zZz hcz
 have hd : ∀ d, d < 23 → d < fn.ntmps := fun d hd => by rw [hN]; exact hd
 rw [Pred.zzd] at hargs hs0
 simp only [Pred.op, Pred.name, Pred.n, Pred.kids] at hargs hs0
 generalize hcs : ([D.int .i64 o, D.str s, D.int .i64 n, D.lst (ks.map Pred.cells)] : List D) = pc at hargs hs0
 refine wpIn_seq (zvp (K := fun z => z = ⟨[(4, .d (.bool false)), (2, .ptr 2 0), (0, .agg (pc.map .d)), (1, .d (.yl l))], [(2, pc.map .d)], []⟩) hT h0 hs0 ?_ ?_)
 ·subst hcs; simp only [go_sem]
 rintro _ tm1 w1 S1 ρ1 hs1 rfl
 refine wpIn_seq ?_
 refine wpIn_seq ?_
 obtain ⟨id, ops, rfl, hops, hok⟩ := zXg h1a
 obtain ⟨hlen, hget⟩ := zye hops
 have hsz : ops.size = 4 := by simpa using hlen.symm
 refine wpIn_region ?_
 have hr : List.range ops.size = List.range' 0 2 ++ [2, 3] := by rw [hsz]; rfl
 rw [hr]
 refine zqj (c := baseC P W S fn.ntmps G) (E := quietE G) rfl (fun _ _ _ h => h.elim) hT hops (fun o ho d hd => ⟨zvJ hok ho hd, rfl⟩) (FR.fw none) 0 _
  (K := fun z => z = ⟨[(8, .agg (pc.map .d)), (7, .d (.yl l)), (4, .d (.bool false)), (2, .ptr 2 0), (0, .agg (pc.map .d)), (1, .d (.yl l))], [(2, pc.map .d)], []⟩) [2, 3] 2 0 (by omega) ?_ hs1 ?_
 case refine_2 =>
  subst hcs
  simp only [go_sem]
 rintro ⟨tm2, ds2⟩ w2 ⟨hds, st2, S2, ρ2, hs2, rfl⟩
 simp only at hds
 subst hds
 obtain ⟨gi2, i2, hl2, htg2, hti2⟩ := hget 2 ops[2] (by simp [hsz])
 obtain ⟨gi3, i3, hl3, htg3, hti3⟩ := hget 3 ops[3] (by simp [hsz])
 simp only [go_sem, Prod.mk.injEq] at hl2 hl3
 obtain ⟨rfl, rfl⟩ := hl2
 rw [wpOpsIn_cons]
 have hpre : yields (Pred.mk o s n ks).pre = [.agg pc] :: yields (Pred.pre.pres ks) := by
  rw [Pred.zZ2, yields, mC, Pred.zzd]
  simp only [Pred.op, Pred.name, Pred.n, Pred.kids, hcs]; rfl
 rw [hpre] at hxs
 have h4 : 3 + 1 ≤ ops.size := by omega
 refine zxs (ops := ops) (k := 2) (o := ops[2]) (by simp [hsz]) htg2 (ykB hY (x := [.agg pc]) (b := yields (Pred.pre.pres ks) ++ b) (by simpa using hxs) hJ hs2 hti2 (hd _ (by omega)) rfl rfl rfl ?_ [(2, .ref pc), (1, .yl l), (4, .bool false)] ?_ ?_ ?_)
 ·simp only [go_sem]
 ·subst hcs
  intro q hq
  simp only [List.mem_cons, List.not_mem_nil, or_false] at hq
  rcases hq with rfl | rfl | rfl
  ·simp only [go_sem, List.mapM_cons, List.mapM_nil, Option.bind_eq_bind, Option.bind_some, Option.pure_def]
  ·rfl
  ·rfl
 rotate_left
 ·
  intro W' S3 ρ3 hx3 hs3
  refine zqj (c := baseC P W' S3 fn.ntmps fun _ => none) (E := quietE fun _ => none) rfl (fun _ _ _ h => h.elim) hT hops (fun o ho d hd => ⟨zvJ hok ho hd, rfl⟩) (FR.fw none) 0 _
   (K := fun z => getS z.slots 10 = .d (.bool true) ∧ z.mem = []) [] 1 3 h4 ?_ hs3 ?_
  case refine_2 => simp only [go_sem, pureSt]
  rintro ⟨tm4, ds4⟩ w4 ⟨hds, st4, S4, ρ4, hs4, h10, hm⟩
  simp only at hds
  subst hds
  refine zvR hcg hs4 (b := true) (by simp [ev, ev0, h10, AV.strip]) (by simp [gd, ev0, h10, AV.grd]) (fun _ => ?_) (fun h => by cases h)
  refine zJs hT hrs hcy hs4 hm (fun w' S' hg => .inr ⟨rfl, S', hY.growx _ _ _ _ hx3 hg⟩) (fun _ _ h => h)
 intro W' S3 ρ3 hJ3 hk3 hs3
 refine zqj (c := baseC P W' S3 fn.ntmps G) (E := quietE G) rfl (fun _ _ _ h => h.elim) hT hops (fun o ho d hd => ⟨zvJ hok ho hd, rfl⟩) (FR.fw none) 0 _
   (K := fun z => z = ⟨[(10, .d (.bool false)), (9, .d (.bool true)), (2, .d (.ref pc)), (1, .d (.yl l)), (4, .d (.bool false))], [], []⟩) [] 1 3 h4 ?_ hs3 ?_
 case refine_2 => simp only [go_sem, pureSt]
 rintro ⟨tm4, ds4⟩ w4 ⟨hds, st4, S4, ρ4, hs4, rfl⟩
 simp only at hds
 subst hds
 refine zvR hcg hs4 (b := false) rfl rfl (fun h => by cases h) (fun _ => wpIn_skip ?_)
 refine wpIn_seq ?_
 refine wpIn_seq ?_
 refine zvp (K := fun z => (ks.length : Int) ≤ 9223372036854775807 ∧ ∃ sl, z = ⟨(14, .d (.int .i64 0)) :: (13, .d (.int .i64 ks.length)) :: (12, .d (.lst (ks.map Pred.cells))) :: sl, [], []⟩ ∧ getS sl 1 = .d (.yl l)) hT h2a hs4 ?_ ?_
 ·subst hcs
  simp only [go_sem]
  intro hlen
  exact ⟨hlen, _, rfl, rfl⟩
 rintro _ tm5 w5 S5 ρ5 hs5 ⟨hlen, sl5, rfl, hsl5⟩
 obtain ⟨xl0, rfl, h2c⟩ := zXC h2b
 obtain ⟨xl, rfl, h2d⟩ := yx7 h2c
 refine wpIn_block (zvM ?_)
 obtain ⟨ρ6, hs6⟩ := Ent.sound hs5 (st1 := pureSt [(14, .int .i64 (0 : Nat)), (13, .int .i64 ks.length), (12, .lst (ks.map Pred.cells)), (1, .yl l)]) (zzc (by simp only [go_sem, pureSt, hsl5]))
 refine yye hT hY hrs hN hlen ih h2d (a := a ++ [[.agg pc]]) (b := b) (by rw [hxs]; simp) (W0 := W) (S0 := S) (RR := _) (fun w' S' hx => .inr ⟨rfl, S', hx⟩) (fun a w h => h) ?_ ks [] rfl W' S3 tm5 w5 S5 ρ6 (by simpa [Pred.pre.pres, yields] using hJ3) ((hs2.grows.keeps (hY.live _ _ _ hJ)).trans hk3) hs6
 intro W7 S7 st7 tm7 w7 S7' ρ7 hJ7 hk7 hs7 hm7
 refine wpIn_seq (zvp (K := fun z => getS z.slots 4 = .d (.bool true) ∧ z.mem = []) hT h3a hs7 ?_ ?_)
 ·simp only [go_sem, hm7]
 rintro st8 tm8 w8 S8 ρ8 hs8 ⟨h8, hm8⟩
 refine wpIn_ret ⟨_, yzf hT hrs hs8 hm8 h8, .inl ⟨rfl, S8, ?_, hk7.trans (hs8.grows.keeps (hY.live _ _ _ hJ7))⟩⟩
 rw [hpre]
 exact hY.grow _ W7 S7 w8 S8 (by simpa using hJ7) hs8.grows
theorem zJB (hT : ∀ t ty, T t = some ty → chkTy P t ty = true) {fv : Func} (hfv : P.funcs[zxx]? = some fv) (htrv : trFn T fv = some zkm) {fn : Func} (hf : P.funcs[zzY]? = some fn) (htr : trFn T fn = some zxN) (p : Pred) :
  ItOk P G zzY [.ref (Pred.cells p)] (yields p.pre) := by
 obtain ⟨hname, cd, hcd, hac, hrs, hN⟩ := zXu htr
 refine ⟨⟨fn, hf, hname, by simp [hcd]⟩, ?_⟩
 intro l w S cs J0 Jx0 Y0 hlive hglob hcs hgrow hgrowx hlk hlx hyield hJ0'
 obtain ⟨J, hJe⟩ : ∃ J : List (List CV) → World → Safe → Prop, J = fun pre W S1 => ∃ Y, J0 pre W S1 Y := ⟨_, rfl⟩
 obtain ⟨Jx, hJxe⟩ : ∃ Jx : World → Safe → Prop, Jx = fun W S1 => ∃ Y, Jx0 W S1 Y := ⟨_, rfl⟩
 have hJ0 : J [] w S := by rw [hJe]; exact ⟨Y0, hJ0'⟩
 have hY : YCtx P G l (yields p.pre) J Jx := by rw [hJe, hJxe]; exact YCtx.of rfl hglob hgrow hgrowx hlk hlx hyield
 refine callsIn_wide.1 (callsIn_of_wp_marks (n := 0) hf hcd trivial ?_)
 have hargs : RepCL w S [.one (.yl l), .one (.ref (Pred.cells p))] ((#[.func (.yield l) #[] #[]] : Array Value) ++ cs.toArray).toList := by
  obtain ⟨v, r, h1, h2, h3⟩ := hcs
  simp only [RepL] at h3
  subst h3
  subst h1
  exact ⟨_, _, rfl, rfl, _, _, rfl, h2, rfl⟩
 have hs0 := zqG (P := P) (G := G) (fn := fn) (by rw [hN]; exact bl rfl) hlive hglob hargs
 change Sim (baseC P w S fn.ntmps G) _ _ _ _ _ at hs0
 obtain ⟨id, ops, rfl, hops, hok⟩ := zXg hac
 obtain ⟨hlen', hget⟩ := zye hops
 have hsz : ops.size = 3 := by simpa using hlen'.symm
 refine wpIn_region ?_
 have hr : List.range ops.size = List.range' 0 2 ++ [2] := by rw [hsz]; rfl
 rw [hr]
 refine zqj (c := baseC P w S fn.ntmps G) (E := quietE G) rfl (fun _ _ _ h => h.elim) hT hops (fun o ho d hd => ⟨zvJ hok ho hd, rfl⟩) (FR.fw none) 0 _
   (K := fun z => z = ⟨[(4, .d (.yl l)), (3, .agg ((Pred.cells p).map .d)), (0, .d (.yl l)), (1, .d (.ref (Pred.cells p)))], [], []⟩) [2] 2 0 (by omega) ?_ hs0 ?_
 case refine_2 =>
  rw [Pred.zzd]
  simp only [go_sem]
 rintro ⟨tm3, ds3⟩ w3 ⟨hds, st3, S4, ρ3, hs3, rfl⟩
 simp only at hds
 subst hds
 obtain ⟨gi2, i2, hl2, htg2, hti2⟩ := hget 2 ops[2] (by simp [hsz])
 simp only [zxN, go_sem, Prod.mk.injEq] at hl2
 obtain ⟨rfl, rfl⟩ := hl2
 rw [wpOpsIn_cons]
 have hres : ∀ tm w, (results fn tm).run P w = .ok (.tuple #[]) w := by
  intro tm w
  have : fn.results = #[] := by
   have hrs' : fn.results.toList.mapM (trRes T) = some [] := hrs
   cases hc : fn.results.toList with
   | nil => exact Array.toList_eq_nil_iff.1 hc
   | cons x xs =>
    rw [hc] at hrs'
    simp only [List.mapM_cons, Option.bind_eq_bind, Option.bind_eq_some_iff, Option.pure_def, Option.some.injEq] at hrs'
    obtain ⟨_, _, _, _, h⟩ := hrs'
    cases h
  rw [zx7, this]
  simp
 refine zxs (ops := ops) (k := 2) (o := ops[2]) (by simp [hsz]) htg2 (ykH hY (a := []) (ys := yields p.pre) (b := []) (by simp) hJ0 hs3 hti2 (by rw [hN]; exact bl rfl) rfl rfl rfl
   (cvs := [.agg (Pred.cells p), .one (.yl l)]) ?_ (yky hT hY hfv htrv p) [] (fun q hq => by cases hq) ?_ ?_)
 ·rw [Pred.zzd]; simp only [go_sem]
 ·intro W8 S8 ρ8 hJ8 hk8 hs8
  rw [hJe] at hJ8
  exact ⟨_, hres _ _, _, rfl, .inl ⟨S8, by simpa using hJ8⟩⟩
 ·intro W8 S8 ρ8 hx8 hs8
  rw [hJxe] at hx8
  exact ⟨_, hres _ _, _, rfl, .inr ⟨S8, hx8⟩⟩
end Go.Abs
end
section
namespace Go.Abs
abbrev Str := List UInt8
structure SVar where
 name : Str
 sort : Str
def SVar.cells (v : SVar) : List D := [.str v.name, .str v.sort]
def scell (s : Str) : List D := [.str s]
structure SSym where
 name : Str
 args : List Str
 res : Str
def SSym.cells (v : SSym) : List D := [.str v.name, .lst (v.args.map scell), .str v.res]
structure SHole where
 name : Str
 params : List SVar
def SHole.cells (v : SHole) : List D := [.str v.name, .lst (v.params.map SVar.cells)]
structure SEnv where
 vars : List SVar
 syms : List SSym
 holes : List SHole
def SEnv.cells (v : SEnv) : List D := [.lst (v.vars.map SVar.cells), .lst (v.syms.map SSym.cells), .lst (v.holes.map SHole.cells)]
theorem zxO {α : Type} {f : α → List D} {k : Nat} (h : ∀ x, (f x).length = k) (l : List α) : (∀ e ∈ l.map f, e.length = k) = True := eq_true (by
 intro e he; obtain ⟨p, _, rfl⟩ := List.mem_map.1 he; exact h p)
theorem SVar.lens (l : List SVar) : (∀ e ∈ l.map SVar.cells, e.length = 2) = True := zxO (f := SVar.cells) (fun _ => rfl) l
theorem SSym.lens (l : List SSym) : (∀ e ∈ l.map SSym.cells, e.length = 3) = True := zxO (f := SSym.cells) (fun _ => rfl) l
theorem SHole.lens (l : List SHole) : (∀ e ∈ l.map SHole.cells, e.length = 2) = True := zxO (f := SHole.cells) (fun _ => rfl) l
theorem zje (l : List Str) : (∀ e ∈ l.map scell, e.length = 1) = True := zxO (f := scell) (fun _ => rfl) l
attribute [go_sem] SVar.lens SSym.lens SHole.lens zje
theorem getD_at {α β : Type} {f : α → β} {l a r : List α} {x : α} {d : β} (hl : l = a ++ x :: r) : (l.map f).getD a.length d = f x := by rw [hl]; exact zy7 _ _ _ _ _
theorem yxs (n : Nat) : ((n + 1 : Nat) : Int) - 1 = n := by omega
def findVar (l : List SVar) (s : Str) : Str × Bool := match l.reverse.find? (fun v => v.name == s) with
 | some v => (v.sort, true)
 | none => ([], false)
theorem zjn {α : Type} {p : α → Bool} {a r : List α} {x : α} (ha : ∀ y ∈ a, p y = false) : (a ++ x :: r).find? p = if p x = true then some x else r.find? p := by
 induction a with
 | nil => simp only [List.nil_append, List.find?]; cases p x <;> rfl
 | cons y a ih => rw [List.cons_append, List.find?, ha y (by simp)]; exact ih fun z hz => ha z (by simp [hz])
theorem zqE {α : Type} {p : α → Bool} {a : List α} (ha : ∀ y ∈ a, p y = false) : a.find? p = none := by
 rw [List.find?_eq_none]; intro x hx; rw [ha x hx]; simp
theorem zKk {n : Int} (h1 : -9223372036854775808 ≤ n) (h2 : n ≤ 9223372036854775807) : IntKind.i64.wrap n = n := i64_in n ⟨h1, h2⟩
variable {E : AEnv} (Z : Sys E)
include Z
theorem zQw (v : SEnv) (s : Str) : E.C zqW [.agg v.cells, .one (.str s)] (.tup [.one (.str (findVar v.vars s).1), .one (.bool (findVar v.vars s).2)]) := by
 refine Z.zqW _ _ ⟨bl rfl, ?_⟩
 generalize hR : findVar v.vars s = R
 simp only [zWc, SEnv.cells, go_sem]
 intro hlen
 have hw : IntKind.i64.wrap ((v.vars.length : Int) - 1) = (v.vars.length : Int) - 1 := zKk (by omega) (by omega)
 rw [hw]
 refine zzf v.vars.reverse (fun done => ∀ y ∈ done, (y.name == s) = false) (fun done rest => ⟨[(6, .d (.int .i64 ((rest.length : Int) - 1))), (2, .ptr 2 0), (1, .d (.str s))], [(2, v.cells.map .d)], []⟩) ?_ (by simp) ?_ ?_
 ·exact zzc (by simp only [go_sem, SEnv.cells, List.length_reverse, oS])
 ·intro done x r hl hI
  have hl2 : v.vars = r.reverse ++ x :: done.reverse := by have := congrArg List.reverse hl; simpa using this
  have hx : (v.vars.map SVar.cells).getD r.length [] = x.cells := by have := getD_at (f := SVar.cells) (d := []) hl2; simpa using this
  have hlt : (r.length : Int) < v.vars.length := by rw [hl2]; simp; omega
  have hge : decide ((r.length : Int) ≥ 0) = true := by simp
  have hw2 : IntKind.i64.wrap ((r.length : Int) - 1) = (r.length : Int) - 1 := zKk (by omega) (by omega)
  unfold findVar at hR
  rw [hl, zjn hI] at hR
  simp only [zvF, go_sem, yxs, hge, SEnv.cells, hx, hlt, SVar.cells, hw2]
  cases h1 : (x.name == s) with
  | true => simp only [h1, go_sem] at hR ⊢; simp only [← hR, and_self]
  | false =>
   simp only [go_sem]
   exact ⟨zzc (by simp only [go_sem, oS, SEnv.cells]), zyb hI h1⟩
 ·intro hI
  unfold findVar at hR
  rw [zqE hI] at hR
  simp only [zvF, go_sem, ← hR, Int.reduceNeg, Int.zero_sub, ge_iff_le, Int.reduceSub, Int.zero_sub, Int.reduceLE]
theorem yzY (v : SEnv) (s : Str) : E.C zYt [.agg v.cells, .one (.str s)] (.tup [.one (.str (findVar v.vars s).1), .one (.bool (findVar v.vars s).2)]) := by
 refine Z.zYt _ _ ⟨bl rfl, ?_⟩
 generalize hR : findVar v.vars s = R
 simp only [zW9, SEnv.cells, go_sem]
 intro hlen
 have hw : IntKind.i64.wrap ((v.vars.length : Int) - 1) = (v.vars.length : Int) - 1 := zKk (by omega) (by omega)
 rw [hw]
 refine zzf v.vars.reverse (fun done => ∀ y ∈ done, (y.name == s) = false) (fun done rest => ⟨[(6, .d (.int .i64 ((rest.length : Int) - 1))), (2, .ptr 2 0), (1, .d (.str s))], [(2, v.cells.map .d)], []⟩) ?_ (by simp) ?_ ?_
 ·exact zzc (by simp only [go_sem, SEnv.cells, List.length_reverse, oS])
 ·intro done x r hl hI
  have hl2 : v.vars = r.reverse ++ x :: done.reverse := by have := congrArg List.reverse hl; simpa using this
  have hx : (v.vars.map SVar.cells).getD r.length [] = x.cells := by have := getD_at (f := SVar.cells) (d := []) hl2; simpa using this
  have hlt : (r.length : Int) < v.vars.length := by rw [hl2]; simp; omega
  have hge : decide ((r.length : Int) ≥ 0) = true := by simp
  have hw2 : IntKind.i64.wrap ((r.length : Int) - 1) = (r.length : Int) - 1 := zKk (by omega) (by omega)
  unfold findVar at hR
  rw [hl, zjn hI] at hR
  simp only [zjo, go_sem, yxs, hge, SEnv.cells, hx, hlt, SVar.cells, hw2]
  cases h1 : (x.name == s) with
  | true => simp only [h1, go_sem] at hR ⊢; simp only [← hR, and_self]
  | false =>
   simp only [go_sem]
   exact ⟨zzc (by simp only [go_sem, oS, SEnv.cells]), zyb hI h1⟩
 ·intro hI
  unfold findVar at hR
  rw [zqE hI] at hR
  simp only [zjo, go_sem, ← hR, Int.reduceNeg, Int.zero_sub, ge_iff_le, Int.reduceSub, Int.zero_sub, Int.reduceLE]
end Go.Abs
end
section
namespace Go.Abs
def sInt : Str := [73, 110, 116]
def sBool : Str := [66, 111, 111, 108]
def sCell : Str := [67, 101, 108, 108]
def findSym (l : List SSym) (s : Str) : SSym × Bool := if s == sTag then (⟨sTag, [], sInt⟩, true) else if s == sVal then (⟨sVal, [sCell], sInt⟩, true) else
 match l.find? (fun v => v.name == s) with
 | some v => (v, true)
 | none => (⟨[], [], []⟩, false)
def findHole (l : List SHole) (s : Str) : SHole × Bool := match l.find? (fun v => v.name == s) with
 | some v => (v, true)
 | none => (⟨[], []⟩, false)
theorem zvm {α : Type} {b done : List α} (h : b.take done.length = done) (hlt : done.length < b.length) : ∃ y r', b = done ++ y :: r' := by
 have := List.take_append_drop done.length b
 rw [h, List.drop_eq_getElem_cons hlt] at this
 exact ⟨_, _, this.symm⟩
def Small (n : Nat) : Prop := n ≤ 1048576
structure SEnv.Ok (v : SEnv) : Prop where
 syms : ∀ s ∈ v.syms, Small s.args.length
 holes : ∀ h ∈ v.holes, Small h.params.length
variable {E : AEnv} (Z : Sys E)
include Z
theorem zKN (l : List Str) (hl : Small l.length) : E.C zzv [.one (.lst (l.map scell))] (.one (.lst (l.map scell))) := by
 refine Z.zzv _ _ ⟨bl rfl, ?_⟩
 unfold Small at hl
 have h1 : l.length * 16 ≤ 2 ^ 46 := by omega
 have h2 : l.length ≤ 9223372036854775807 := by omega
 simp only [zyu, go_sem]
 intro b hb
 cases b with
 | true => simp only [go_sem]; exact congrArg D.lst (hb rfl).symm
 | false => simp only [go_sem, List.not_mem_nil, false_implies, implies_true, zA, h1, h2]
theorem zVu (l : List SVar) (hl : Small l.length) : E.C zzz [.one (.lst (l.map SVar.cells))] (.one (.lst (l.map SVar.cells))) := by
 refine Z.zzz _ _ ⟨bl rfl, ?_⟩
 unfold Small at hl
 have h1 : l.length * 32 ≤ 2 ^ 46 := by omega
 have h2 : l.length ≤ 9223372036854775807 := by omega
 simp only [zyJ, go_sem]
 intro b hb
 cases b with
 | true => simp only [go_sem]; exact congrArg D.lst (hb rfl).symm
 | false => simp only [go_sem, List.not_mem_nil, false_implies, implies_true, zA, h1, h2]
theorem zJp (v : SEnv) (hv : v.Ok) (s : Str) : E.C zjf [.agg v.cells, .one (.str s)] (.tup [.agg (findSym v.syms s).1.cells, .one (.bool (findSym v.syms s).2)]) := by
 refine Z.zjf _ _ ⟨bl rfl, ?_⟩
 generalize hR : findSym v.syms s = R
 unfold findSym at hR
 simp only [zY5, SEnv.cells, go_sem]
 cases h1 : (s == [116, 97, 103]) with
 | true => simp only [sTag, h1, go_sem] at hR ⊢; simp only [← hR, SSym.cells, sInt, mN, and_self]
 | false =>
 simp only [go_sem]
 cases h2 : (s == [118, 97, 108]) with
 | true => simp only [sTag, sVal, h1, h2, go_sem] at hR ⊢; simp only [← hR, SSym.cells, sInt, sCell, scell, mC, mN, and_self]
 | false =>
 simp only [sTag, sVal, h1, h2, go_sem] at hR ⊢
 intro hlen
 refine zzf v.syms (fun done => ∀ y ∈ done, (y.name == s) = false) (fun done rest => ⟨[(19, .d (.int .i64 done.length)), (18, .d (.int .i64 v.syms.length)), (17, .d (.lst (v.syms.map SSym.cells))), (1, .d (.str s)), (4, .ptr 4 0)], [(4, [.d (.str []), .full [], .d (.str [])])], []⟩) ?_ (by simp) ?_ ?_
 ·exact zzc (by simp only [go_sem, oS])
 ·intro done x r hl hI
  have hx := getD_at (f := SSym.cells) (d := []) hl
  have hlt := zzi hl
  have hw : IntKind.i64.wrap ((done.length : Int) + 1) = ((done.length + 1 : Nat) : Int) := zze (by omega)
  rw [hl, zjn hI] at hR
  simp only [zkS, go_sem, hx, hlt, SSym.cells]
  cases h1 : (x.name == s) with
  | true =>
   simp only [h1, go_sem] at hR ⊢
   refine zzb (zKN Z _ (hv.syms x (by rw [hl]; simp))) ?_
   simp only [go_sem]
   simp only [← hR, SSym.cells, and_self]
  | false =>
   simp only [go_sem, hw, lA]
   exact ⟨zzc (by simp only [go_sem, oS]), zyb hI h1⟩
 ·intro hI
  rw [zqE hI] at hR
  simp only [zkS, go_sem]
  simp only [← hR, SSym.cells, mN, and_self]
theorem zJq (v : SEnv) (hv : v.Ok) (s : Str) : E.C zjg [.agg v.cells, .one (.str s)] (.tup [.agg (findHole v.holes s).1.cells, .one (.bool (findHole v.holes s).2)]) := by
 refine Z.zjg _ _ ⟨bl rfl, ?_⟩
 generalize hR : findHole v.holes s = R
 unfold findHole at hR
 simp only [zY6, SEnv.cells, go_sem]
 intro hlen
 refine zzf v.holes (fun done => ∀ y ∈ done, (y.name == s) = false) (fun done rest => ⟨[(11, .d (.int .i64 done.length)), (10, .d (.int .i64 v.holes.length)), (9, .d (.lst (v.holes.map SHole.cells))), (1, .d (.str s)), (4, .ptr 4 0)], [(4, [.d (.str []), .full []])], []⟩) ?_ (by simp) ?_ ?_
 ·exact zzc (by simp only [go_sem, oS])
 ·intro done x r hl hI
  have hx := getD_at (f := SHole.cells) (d := []) hl
  have hlt := zzi hl
  have hw : IntKind.i64.wrap ((done.length : Int) + 1) = ((done.length + 1 : Nat) : Int) := zze (by omega)
  rw [hl, zjn hI] at hR
  simp only [zkT, go_sem, hx, hlt, SHole.cells]
  cases h1 : (x.name == s) with
  | true =>
   simp only [h1, go_sem] at hR ⊢
   refine zzb (zVu Z _ (hv.holes x (by rw [hl]; simp))) ?_
   simp only [go_sem]
   simp only [← hR, SHole.cells, and_self]
  | false =>
   simp only [go_sem, hw, lA]
   exact ⟨zzc (by simp only [go_sem, oS]), zyb hI h1⟩
 ·intro hI
  rw [zqE hI] at hR
  simp only [zkT, go_sem]
  simp only [← hR, SHole.cells, mN, and_self]
theorem zJ9 (v : SEnv) (s : Str) : E.C zqL [.agg v.cells, .one (.str s)] (.tup [.agg (findSym v.syms s).1.cells, .one (.bool (findSym v.syms s).2)]) := by
 refine Z.zqL _ _ ⟨bl rfl, ?_⟩
 generalize hR : findSym v.syms s = R
 unfold findSym at hR
 simp only [zXU, SEnv.cells, go_sem]
 cases h1 : (s == [116, 97, 103]) with
 | true => simp only [sTag, h1, go_sem] at hR ⊢; simp only [← hR, SSym.cells, sInt, mN, and_self]
 | false =>
 simp only [go_sem]
 cases h2 : (s == [118, 97, 108]) with
 | true => simp only [sTag, sVal, h1, h2, go_sem] at hR ⊢; simp only [← hR, SSym.cells, sInt, sCell, scell, mC, mN, and_self]
 | false =>
 simp only [sTag, sVal, h1, h2, go_sem] at hR ⊢
 refine zzf v.syms (fun done => ∀ y ∈ done, (y.name == s) = false) (fun done rest => ⟨[(6, .d (.int .i64 done.length)), (2, .ptr 2 0), (1, .d (.str s)), (4, .ptr 4 0)], [(2, [.d (.lst (v.vars.map SVar.cells)), .d (.lst (v.syms.map SSym.cells)), .d (.lst (v.holes.map SHole.cells))]), (4, [.d (.str []), .full [], .d (.str [])])], []⟩) ?_ (by simp) ?_ ?_
 ·exact zzc (by simp only [go_sem, oS])
 ·intro done x r hl hI
  have hx := getD_at (f := SSym.cells) (d := []) hl
  have hlt := zzi hl
  rw [hl, zjn hI] at hR
  simp only [zvu, go_sem, hx, hlt, SSym.cells]
  intro hlen
  have hw : IntKind.i64.wrap ((done.length : Int) + 1) = ((done.length + 1 : Nat) : Int) := zze (by omega)
  cases h1 : (x.name == s) with
  | true =>
   simp only [h1, go_sem, hx, hlt] at hR ⊢
   simp only [← hR, SSym.cells, and_self]
  | false =>
   simp only [go_sem, hw, lA]
   exact ⟨zzc (by simp only [go_sem, oS]), zyb hI h1⟩
 ·intro hI
  rw [zqE hI] at hR
  simp only [zvu, go_sem]
  intro _
  simp only [← hR, SSym.cells, mN, and_self]
theorem zQa (v : SEnv) (s : Str) : E.C zqM [.agg v.cells, .one (.str s)] (.tup [.agg (findHole v.holes s).1.cells, .one (.bool (findHole v.holes s).2)]) := by
 refine Z.zqM _ _ ⟨bl rfl, ?_⟩
 generalize hR : findHole v.holes s = R
 unfold findHole at hR
 simp only [zXV, SEnv.cells, go_sem]
 refine zzf v.holes (fun done => ∀ y ∈ done, (y.name == s) = false) (fun done rest => ⟨[(6, .d (.int .i64 done.length)), (2, .ptr 2 0), (1, .d (.str s)), (4, .ptr 4 0)], [(2, [.d (.lst (v.vars.map SVar.cells)), .d (.lst (v.syms.map SSym.cells)), .d (.lst (v.holes.map SHole.cells))]), (4, [.d (.str []), .full []])], []⟩) ?_ (by simp) ?_ ?_
 ·exact zzc (by simp only [go_sem, oS])
 ·intro done x r hl hI
  have hx := getD_at (f := SHole.cells) (d := []) hl
  have hlt := zzi hl
  rw [hl, zjn hI] at hR
  simp only [zvv, go_sem, hx, hlt, SHole.cells]
  intro hlen
  have hw : IntKind.i64.wrap ((done.length : Int) + 1) = ((done.length + 1 : Nat) : Int) := zze (by omega)
  cases h1 : (x.name == s) with
  | true =>
   simp only [h1, go_sem, hx, hlt] at hR ⊢
   simp only [← hR, SHole.cells, and_self]
  | false =>
   simp only [go_sem, hw, lA]
   exact ⟨zzc (by simp only [go_sem, oS]), zyb hI h1⟩
 ·intro hI
  rw [zqE hI] at hR
  simp only [zvv, go_sem]
  intro _
  simp only [← hR, SHole.cells, mN, and_self]
theorem zXm (a b : List Str) : E.C zxy [.one (.lst (a.map scell)), .one (.lst (b.map scell))] (.one (.bool (a == b))) := by
 refine Z.zxy _ _ ⟨bl rfl, ?_⟩
 simp only [zjO, go_sem]
 intro hl1 hl2
 by_cases hlen : a.length = b.length
 ·have h1 : ((a.length : Int) != (b.length : Int)) = false := by simp [hlen]
  simp only [h1, go_sem]
  refine zzf a (fun done => b.take done.length = done) (fun done rest => ⟨[(5, .d (.int .i64 done.length)), (0, .d (.lst (a.map scell))), (1, .d (.lst (b.map scell)))], [], []⟩) ?_ (by simp) ?_ ?_
  ·exact zzc (by simp only [go_sem])
  ·intro done x r hl hI
   obtain ⟨y, r', hb⟩ := zvm hI (by rw [← hlen, hl]; simp)
   have hx := getD_at (f := scell) (d := []) hl
   have hy := getD_at (f := scell) (d := []) hb
   have hlt := zzi hl
   have hlt2 := zzi hb
   have hw : IntKind.i64.wrap ((done.length : Int) + 1) = ((done.length + 1 : Nat) : Int) := zze (by omega)
   simp only [zxU, go_sem, hx, hy, hlt, hlt2, scell]
   intro _
   cases h2 : (x == y) with
   | true =>
    have : x = y := by simpa using h2
    subst this
    simp only [go_sem, hw, lA]
    exact ⟨zzc (by simp only [go_sem]), by rw [hb, show done ++ x :: r' = (done ++ [x]) ++ r' by simp]; exact List.take_left' (by simp)⟩
   | false =>
    simp only [go_sem]
    symm
    simp only [beq_eq_false_iff_ne, ne_eq] at h2 ⊢
    intro e
    rw [hl, hb] at e
    exact h2 (List.cons.inj (List.append_cancel_left e)).1
  ·intro hI
   have : a = b := by rw [← hI, hlen, List.take_length]
   subst this
   simp only [zxU, go_sem, BEq.rfl, implies_true]
 ·have h1 : ((a.length : Int) != (b.length : Int)) = true := by simp; omega
  have h2 : (a == b) = false := by simp; intro h; exact hlen (by rw [h])
  simp only [h1, h2, go_sem]
end Go.Abs
end
section
namespace Go.Abs
def plainS (s : Str) : Bool := s == sInt || s == sBool || s == sCell
def allS (l : List Str) (s : Str) : Bool := l.all (· == s)
def opS (o : Int) (l : List Str) : Str × Int :=
 if o == 6 || o == 7 || o == 8 || o == 9 then (if allS l sInt then (sInt, 0) else ([], 11))
 else if o == 12 || o == 13 then (if allS l sInt then (sBool, 0) else ([], 11))
 else if o == 10 || o == 11 then (if l.getD 0 [] == l.getD 1 [] then (sBool, 0) else ([], 11))
 else if allS l sBool then (sBool, 0) else ([], 11)
def appS (v : SEnv) (s : Str) (l : List Str) : Str × Int :=
 if !(findSym v.syms s).2 then ([], 5)
 else if s == sTag then (if (l.length : Int) != 1 then ([], 13) else if plainS (l.getD 0 []) then ([], 11) else (sInt, 0))
 else if (l.length : Int) != (findSym v.syms s).1.args.length then ([], 13)
 else if !(l == (findSym v.syms s).1.args) then ([], 11) else ((findSym v.syms s).1.res, 0)
def holeS (v : SEnv) (s : Str) (l : List Str) : Str × Int :=
 if !(findHole v.holes s).2 then ([], 5)
 else if (l.length : Int) != (findHole v.holes s).1.params.length then ([], 13)
 else if !(l == (findHole v.holes s).1.params.map SVar.sort) then ([], 11) else (sBool, 0)
def two (r : Str × Int) : CV := .tup [.one (.str r.1), .one (.int .i64 r.2)]
theorem yyr {l a r : List Str} {x s : Str} (hl : l = a ++ x :: r) (ha : ∀ y ∈ a, (y == s) = true) : allS l s = ((x == s) && allS r s) := by
 rw [hl]; unfold allS
 rw [List.all_append, List.all_cons, List.all_eq_true.2 ha, Bool.true_and]
theorem yyp {a : List Str} {s : Str} (ha : ∀ y ∈ a, (y == s) = true) : allS a s = true := List.all_eq_true.2 ha
theorem yxx {α β : Type} {f : α → β} {l : List α} {a b : List β} {x : β} (h : l.map f = a ++ x :: b) : ∃ a' y b', l = a' ++ y :: b' ∧ a'.map f = a ∧ x = f y := by
 obtain ⟨a', r, h1, h2, h3⟩ := List.map_eq_append_iff.1 h
 obtain ⟨p, b', h4, h5, h6⟩ := List.map_eq_cons_iff.1 h3
 exact ⟨a', p, b', by rw [h1, h4], h2, h5.symm⟩
variable {E : AEnv} (Z : Sys E)
include Z
theorem zXo (s : Str) : E.C zxD [.one (.str s)] (.one (.bool (plainS s))) := by
 refine Z.zxD _ _ ⟨bl rfl, ?_⟩
 simp only [zjR, go_sem, plainS, sInt, sBool, sCell]
theorem zKy (l : List Str) (s : Str) : E.C zqo [.one (.lst (l.map scell)), .one (.str s)] (.one (.bool (allS l s))) := by
 refine Z.zqo _ _ ⟨bl rfl, ?_⟩
 generalize hR : allS l s = R
 simp only [zKb, go_sem]
 refine zzf l (fun done => ∀ y ∈ done, (y == s) = true) (fun done rest => ⟨[(5, .d (.int .i64 done.length)), (0, .d (.lst (l.map scell))), (1, .d (.str s))], [], []⟩) ?_ (by simp) ?_ ?_
 ·exact zzc (by simp only [go_sem])
 ·intro done x r hl hI
  have hx := getD_at (f := scell) (d := []) hl
  have hlt := zzi hl
  rw [yyr hl hI] at hR
  simp only [zjq, go_sem, hx, hlt, scell]
  intro hlen
  have hw : IntKind.i64.wrap ((done.length : Int) + 1) = ((done.length + 1 : Nat) : Int) := zze (by omega)
  cases h1 : (x == s) with
  | true =>
   simp only [h1, go_sem, hw, lA]
   exact ⟨zzc (by simp only [go_sem]), zyb hI h1⟩
  | false => simp only [h1, go_sem] at hR ⊢; exact hR
 ·intro hI
  rw [yyp hI] at hR
  subst hR
  simp only [zjq, go_sem, implies_true]
theorem zZk (s : Str) : E.C zxr [.one (.str s)] (.one (.clo zya [.ref [.str s]])) := by
 refine Z.zxr _ _ ⟨bl rfl, ?_⟩
 simp only [zZh, go_sem]
 all_goals rfl
theorem zjT (l : List Str) (s : Str) : E.C zya [.one (.lst (l.map scell)), .one (.ref [.str s])] (.one (.bool (allS l s))) := by
 refine Z.zya _ _ ⟨bl rfl, ?_⟩
 generalize hR : allS l s = R
 simp only [zjQ, go_sem]
 intro hlen
 refine zzf l (fun done => ∀ y ∈ done, (y == s) = true) (fun done rest => ⟨[(8, .d (.int .i64 done.length)), (7, .d (.int .i64 l.length)), (6, .d (.lst (l.map scell))), (1, .d (.ref [.str s]))], [], []⟩) ?_ (by simp) ?_ ?_
 ·exact zzc (by simp only [go_sem])
 ·intro done x r hl hI
  have hx := getD_at (f := scell) (d := []) hl
  have hlt := zzi hl
  have hw : IntKind.i64.wrap ((done.length : Int) + 1) = ((done.length + 1 : Nat) : Int) := zze (by omega)
  rw [yyr hl hI] at hR
  simp only [zxV, go_sem, hx, hlt, scell]
  cases h1 : (x == s) with
  | true =>
   simp only [h1, go_sem, hw, lA]
   exact ⟨zzc (by simp only [go_sem]), zyb hI h1⟩
  | false => simp only [h1, go_sem] at hR ⊢; exact hR
 ·intro hI
  rw [yyp hI] at hR
  subst hR
  simp only [zxV, go_sem]
theorem zZy (l : List Str) (hl : 2 ≤ l.length) : E.C zyk [.one (.lst (l.map scell))] (.one (.bool (l.getD 0 [] == l.getD 1 []))) := by
 match l, hl with
 | a :: b :: r, _ =>
  refine Z.zyk _ _ ⟨bl rfl, ?_⟩
  have h := zje (a :: b :: r)
  have h1 : (0 : Int) < ((r.length + 1 + 1 : Nat) : Int) := by omega
  have h2 : (1 : Int) < ((r.length + 1 + 1 : Nat) : Int) := by omega
  simp only [mC] at h
  simp only [zkU, go_sem, h, scell, h1, h2] at h ⊢
def ruleS (o : Int) : D × Str :=
 if o == 6 || o == 7 || o == 8 || o == 9 then (.clo zya [.ref [.str sInt]], sInt)
 else if o == 12 || o == 13 then (.clo zya [.ref [.str sInt]], sBool)
 else if o == 10 || o == 11 then (.clo zyk [], sBool)
 else (.clo zya [.ref [.str sBool]], sBool)
theorem zYx (o : Int) : E.C zy2 [.one (.int .i64 o)] (.agg [(ruleS o).1, .str (ruleS o).2]) := by
 refine Z.zy2 _ _ ⟨bl rfl, ?_⟩
 generalize hR : ruleS o = R
 unfold ruleS at hR
 have ha := zZk Z sInt
 have hb := zZk Z sBool
 simp only [sInt, sBool] at ha hb hR
 simp only [zvY, go_sem]
 cases h6 : (o == 6) <;> cases h7 : (o == 7) <;> cases h8 : (o == 8) <;> cases h9 : (o == 9) <;> cases h12 : (o == 12) <;> cases h13 : (o == 13) <;> cases h10 : (o == 10) <;> cases h11 : (o == 11) <;>
  first
  | (exfalso; simp at *; omega)
  | (simp only [go_sem, h6, h7, h8, h9, h10, h11, h12, h13] at hR ⊢; first | (refine zzb ha ?_; simp only [go_sem, ← hR]) | (refine zzb hb ?_; simp only [go_sem, ← hR]) | simp only [go_sem, ← hR])
theorem zYd (v : SEnv) (hv : v.Ok) (s : Str) (l : List Str) : E.C zyN [.agg v.cells, .one (.str s), .one (.lst (l.map scell))] (two (appS v s l)) := by
 have hf := zJp Z v hv s
 refine Z.zyN _ _ ⟨bl rfl, ?_⟩
 generalize hR : appS v s l = R
 unfold appS at hR
 try unfold two
 rw [SEnv.cells] at *
 simp only [zvj, go_sem]
 refine zzb hf ?_
 have htag : (s == sTag) = true → (findSym v.syms s).1.res = sInt := by intro h; unfold findSym; rw [if_pos h]
 generalize findSym v.syms s = q at *
 obtain ⟨⟨qn, qa, qr⟩, qb⟩ := q
 simp only [go_sem, SSym.cells] at hR ⊢
 cases qb with
 | false => simp only [go_sem] at hR ⊢; simp only [go_sem, ← hR]
 | true =>
 simp only [go_sem] at hR ⊢
 cases h1 : (s == sTag) with
 | true =>
  have h1' := h1
  simp only [sTag] at h1'
  have hq := htag h1
  simp only at hq
  simp only [go_sem, h1, h1'] at hR ⊢
  intro hlen
  cases h2 : ((l.length : Int) != 1) with
  | true => simp only [go_sem, h2] at hR ⊢; simp only [go_sem, ← hR]
  | false =>
   simp only [go_sem, h2] at hR ⊢
   have h3 : l.length = 1 := by simp at h2; omega
   match l, h3 with
   | [x], _ =>
    simp only [go_sem, scell] at hR ⊢
    refine zzb (zXo Z x) ?_
    cases h4 : plainS x <;> simp only [go_sem, h4] at hR ⊢ <;> simp only [go_sem, ← hR, hq]
 | false =>
  have h1' := h1
  simp only [sTag] at h1'
  simp only [go_sem, h1, h1'] at hR ⊢
  intro hlen hlen2
  by_cases h2 : l.length = qa.length
  ·have h3 : ((l.length : Int) != (qa.length : Int)) = false := by simp [h2]
   simp only [go_sem, h3] at hR ⊢
   intro _
   refine zzf l (fun done => qa.take done.length = done) (fun done rest => ⟨[(39, .d (.int .i64 done.length)), (38, .d (.int .i64 l.length)), (37, .d (.lst (l.map scell))), (8, .ptr 8 0)], [(8, [.d (.str qn), .d (.lst (qa.map scell)), .d (.str qr)])], []⟩) ?_ (by simp) ?_ ?_
   ·exact zzc (by simp only [go_sem, oS])
   ·intro done x r hl hI
    obtain ⟨y, r', hb⟩ := zvm hI (by rw [← h2, hl]; simp)
    have hx := getD_at (f := scell) (d := []) hl
    have hy := getD_at (f := scell) (d := []) hb
    have hlt := zzi hl
    have hlt2 := zzi hb
    have hw : IntKind.i64.wrap ((done.length : Int) + 1) = ((done.length + 1 : Nat) : Int) := zze (by omega)
    simp only [zxe, go_sem, hx, hy, hlt, hlt2, scell]
    cases h4 : (x == y) with
    | true =>
     have : x = y := by simpa using h4
     subst this
     simp only [go_sem, hw, lA]
     exact ⟨zzc (by simp only [go_sem, oS]), by rw [hb, show done ++ x :: r' = (done ++ [x]) ++ r' by simp]; exact List.take_left' (by simp)⟩
    | false =>
     have h5 : (l == qa) = false := by
      simp only [beq_eq_false_iff_ne, ne_eq] at h4 ⊢
      intro e
      rw [hl, hb] at e
      exact h4 (List.cons.inj (List.append_cancel_left e)).1
     simp only [go_sem, h5] at hR ⊢
     simp only [go_sem, ← hR]
   ·intro hI
    have h5 : l = qa := by rw [← hI, h2, List.take_length]
    subst h5
    simp only [go_sem, BEq.rfl] at hR
    simp only [zxe, go_sem, ← hR]
  ·have h3 : ((l.length : Int) != (qa.length : Int)) = true := by simp; omega
   simp only [go_sem, h3] at hR ⊢
   simp only [go_sem, ← hR]
theorem zYw (v : SEnv) (hv : v.Ok) (s : Str) (l : List Str) : E.C zy1 [.agg v.cells, .one (.str s), .one (.lst (l.map scell))] (two (holeS v s l)) := by
 have hf := zJq Z v hv s
 refine Z.zy1 _ _ ⟨bl rfl, ?_⟩
 generalize hR : holeS v s l = R
 unfold holeS at hR
 try unfold two
 rw [SEnv.cells] at *
 simp only [zvX, go_sem]
 refine zzb hf ?_
 generalize findHole v.holes s = q at *
 obtain ⟨⟨qn, qa⟩, qb⟩ := q
 simp only [go_sem, SHole.cells] at hR ⊢
 cases qb with
 | false => simp only [go_sem] at hR ⊢; simp only [go_sem, ← hR]
 | true =>
 simp only [go_sem] at hR ⊢
 intro hlen hlen2
 by_cases h2 : l.length = qa.length
 ·have h3 : ((l.length : Int) != (qa.length : Int)) = false := by simp [h2]
  simp only [go_sem, h3] at hR ⊢
  intro _
  refine zzf l (fun done => (qa.map SVar.sort).take done.length = done) (fun done rest => ⟨[(28, .d (.int .i64 done.length)), (27, .d (.int .i64 l.length)), (26, .d (.lst (l.map scell))), (8, .ptr 8 0)], [(8, [.d (.str qn), .d (.lst (qa.map SVar.cells))])], []⟩) ?_ (by simp) ?_ ?_
  ·exact zzc (by simp only [go_sem, oS])
  ·intro done x r hl hI
   obtain ⟨y0, r0, hb0⟩ := zvm hI (by rw [lM, ← h2, hl]; simp)
   obtain ⟨da, y, r', hb, hda, rfl⟩ := yxx hb0
   have hx := getD_at (f := scell) (d := []) hl
   have hy := getD_at (f := SVar.cells) (d := []) hb
   have hdl : da.length = done.length := by rw [← hda]; simp
   rw [hdl] at hy
   have hlt := zzi hl
   have hlt2 := zzi hb
   rw [hdl] at hlt2
   have hw : IntKind.i64.wrap ((done.length : Int) + 1) = ((done.length + 1 : Nat) : Int) := zze (by omega)
   simp only [zxG, go_sem, hx, hy, hlt, hlt2, scell, SVar.cells]
   cases h4 : (x == y.sort) with
   | true =>
    have hxy : x = y.sort := by simpa using h4
    simp only [go_sem, hw, lA]
    exact ⟨zzc (by simp only [go_sem, oS]), by rw [hb0, ← hxy, show done ++ x :: r0 = (done ++ [x]) ++ r0 by simp]; exact List.take_left' (by simp)⟩
   | false =>
    have h5 : (l == qa.map SVar.sort) = false := by
     simp only [beq_eq_false_iff_ne, ne_eq] at h4 ⊢
     intro e
     rw [hl, hb0] at e
     exact h4 (List.cons.inj (List.append_cancel_left e)).1
    simp only [go_sem, h5] at hR ⊢
    simp only [go_sem, ← hR]
  ·intro hI
   have h5 : (l == qa.map SVar.sort) = true := by
    have e : (qa.map SVar.sort).take l.length = qa.map SVar.sort := List.take_of_length_le (by rw [lM, h2]; exact Nat.le_refl _)
    rw [beq_iff_eq]; exact hI.symm.trans e
   simp only [go_sem, h5] at hR
   simp only [zxG, go_sem, ← hR, sBool]
 ·have h3 : ((l.length : Int) != (qa.length : Int)) = true := by simp; omega
  simp only [go_sem, h3] at hR ⊢
  simp only [go_sem, ← hR]
end Go.Abs
end
section
namespace Go.Abs
def nodeS (v : SEnv) (o : Int) (s : Str) (l : List Str) : Str × Int :=
 if o == 1 then (sInt, 0) else if o == 2 then (sBool, 0)
 else if o == 3 then (if !(findVar v.vars s).2 then ([], 5) else ((findVar v.vars s).1, 0))
 else if o == 4 then appS v s l else if o == 5 then holeS v s l else opS o l
theorem ywa {α : Type} {l : List α} (h : 2 ≤ l.length) : ∃ a b r, l = a :: b :: r := by
 match l, h with
 | a :: b :: r, _ => exact ⟨a, b, r, rfl⟩
variable {E : AEnv} (Z : Sys E)
include Z
theorem yz0 (v : SEnv) (s : Str) (l : List Str) : E.C zYv [.agg v.cells, .one (.str s), .one (.lst (l.map scell))] (two (appS v s l)) := by
 have hf := zJ9 Z v s
 refine Z.zYv _ _ ⟨bl rfl, ?_⟩
 generalize hR : appS v s l = R
 unfold appS at hR
 try unfold two
 rw [SEnv.cells] at *
 simp only [zKc, go_sem]
 refine zzb hf ?_
 have htag : (s == sTag) = true → (findSym v.syms s).1.res = sInt := by intro h; unfold findSym; rw [if_pos h]
 generalize findSym v.syms s = q at *
 obtain ⟨⟨qn, qa, qr⟩, qb⟩ := q
 simp only [go_sem, SSym.cells] at hR ⊢
 cases qb with
 | false => simp only [go_sem] at hR ⊢; simp only [go_sem, ← hR]
 | true =>
 simp only [go_sem] at hR ⊢
 cases h1 : (s == sTag) with
 | true =>
  have h1' := h1
  simp only [sTag] at h1'
  simp only [go_sem, h1, h1'] at hR ⊢
  intro hlen
  cases h2 : ((l.length : Int) != 1) with
  | true => simp only [go_sem, h2] at hR ⊢; simp only [go_sem, ← hR]
  | false =>
   simp only [go_sem, h2] at hR ⊢
   have h3 : l.length = 1 := by simp at h2; omega
   match l, h3 with
   | [x], _ =>
    simp only [go_sem, scell, plainS, sInt, sBool, sCell] at hR ⊢
    have hb : ∀ b : Bool, (b = false → (0 : Int) < 1) = True := fun b => eq_true fun _ => by omega
    have hb2 : ∀ b : Bool, (b = true → (0 : Int) < 1) = True := fun b => eq_true fun _ => by omega
    try simp only [hb, hb2, go_sem]
    cases h4 : (x == [73, 110, 116] || x == [66, 111, 111, 108] || x == [67, 101, 108, 108]) <;> simp only [go_sem, h4] at hR ⊢ <;> simp only [go_sem, ← hR] <;> simp
 | false =>
  have h1' := h1
  simp only [sTag] at h1'
  simp only [go_sem, h1, h1'] at hR ⊢
  intro hlen hlen2
  cases h2 : ((l.length : Int) != qa.length) with
  | true => simp only [go_sem, h2] at hR ⊢; simp only [go_sem, ← hR]
  | false =>
   simp only [go_sem, h2] at hR ⊢
   refine zzb (zXm Z l qa) ?_
   cases h3 : (l == qa) <;> simp only [go_sem, h3] at hR ⊢ <;> simp only [go_sem, ← hR]
theorem zXn (o : Int) (l : List Str) (hl : (o == 10 || o == 11) = true → 2 ≤ l.length) : E.C zxz [.one (.int .i64 o), .one (.lst (l.map scell))] (two (opS o l)) := by
 have h1 := zKy Z l sInt
 have h2 := zKy Z l sBool
 refine Z.zxz _ _ ⟨bl rfl, ?_⟩
 generalize hR : opS o l = R
 unfold opS at hR
 try unfold two
 simp only [zjP, go_sem]
 simp only [sInt, sBool] at hR h1 h2
 cases h6 : (o == 6 || o == 7 || o == 8 || o == 9) with
 | true =>
  simp only [h6, go_sem] at hR
  cases e6 : (o == 6) <;> cases e7 : (o == 7) <;> cases e8 : (o == 8) <;> cases e9 : (o == 9) <;> first | (exfalso; simp_all; done) | skip
  all_goals
   simp only [go_sem]
   refine zzb h1 ?_
   cases h3 : allS l [73, 110, 116] <;> simp only [go_sem, h3] at hR ⊢ <;> simp only [go_sem, ← hR]
 | false =>
  have e6 : (o == 6) = false := by cases h : (o == 6) <;> simp_all
  have e7 : (o == 7) = false := by cases h : (o == 7) <;> simp_all
  have e8 : (o == 8) = false := by cases h : (o == 8) <;> simp_all
  have e9 : (o == 9) = false := by cases h : (o == 9) <;> simp_all
  simp only [h6, e6, e7, e8, e9, go_sem] at hR ⊢
  cases e10 : (o == 10) <;> cases e11 : (o == 11) <;> cases e12 : (o == 12) <;> cases e13 : (o == 13) <;> first | (exfalso; simp_all; done) | skip
  all_goals
   simp only [e10, e11, e12, e13, go_sem] at hR hl ⊢
  all_goals first
   | (refine zzb h1 ?_; cases h3 : allS l [73, 110, 116] <;> simp only [go_sem, h3] at hR ⊢ <;> simp only [go_sem, ← hR])
   | (refine zzb h2 ?_; cases h3 : allS l [66, 111, 111, 108] <;> simp only [go_sem, h3] at hR ⊢ <;> simp only [go_sem, ← hR])
   | (obtain ⟨a, b, r, rfl⟩ := ywa hl
      have hlt1 : (0 : Int) < ((r.length + 1 + 1 : Nat) : Int) := by omega
      have hlt2 : (1 : Int) < ((r.length + 1 + 1 : Nat) : Int) := by omega
      have hln := zje (a :: b :: r)
      simp only [mC] at hln
      simp only [go_sem, hlt1, hlt2, scell] at hR hln ⊢
      try simp only [hln, go_sem]
      cases h3 : (a == b) <;> simp only [go_sem, h3] at hR ⊢ <;> simp only [go_sem, ← hR])
theorem zQk (v : SEnv) (s : Str) (l : List Str) : E.C zqU [.agg v.cells, .one (.str s), .one (.lst (l.map scell))] (two (holeS v s l)) := by
 have hf := zQa Z v s
 refine Z.zqU _ _ ⟨bl rfl, ?_⟩
 generalize hR : holeS v s l = R
 unfold holeS at hR
 try unfold two
 rw [SEnv.cells] at *
 simp only [zX8, go_sem]
 refine zzb hf ?_
 generalize findHole v.holes s = q at *
 obtain ⟨⟨qn, qa⟩, qb⟩ := q
 simp only [go_sem, SHole.cells] at hR ⊢
 cases qb with
 | false => simp only [go_sem] at hR ⊢; simp only [go_sem, ← hR]
 | true =>
 simp only [go_sem] at hR ⊢
 intro hlen hlen2
 by_cases h2 : l.length = qa.length
 ·have h3 : ((l.length : Int) != (qa.length : Int)) = false := by simp [h2]
  simp only [go_sem, h3] at hR ⊢
  refine zzf l (fun done => (qa.map SVar.sort).take done.length = done) (fun done rest => ⟨[(10, .d (.int .i64 done.length)), (2, .d (.lst (l.map scell))), (8, .ptr 8 0)], [(8, [.d (.str qn), .d (.lst (qa.map SVar.cells))])], []⟩) ?_ (by simp) ?_ ?_
  ·exact zzc (by simp only [go_sem, oS])
  ·intro done x r hl hI
   obtain ⟨y0, r0, hb0⟩ := zvm hI (by rw [lM, ← h2, hl]; simp)
   obtain ⟨da, y, r', hb, hda, rfl⟩ := yxx hb0
   have hx := getD_at (f := scell) (d := []) hl
   have hy := getD_at (f := SVar.cells) (d := []) hb
   have hdl : da.length = done.length := by rw [← hda]; simp
   rw [hdl] at hy
   have hlt := zzi hl
   have hlt2 := zzi hb
   rw [hdl] at hlt2
   have hw : IntKind.i64.wrap ((done.length : Int) + 1) = ((done.length + 1 : Nat) : Int) := zze (by omega)
   simp only [zvB, go_sem, hx, hy, hlt, hlt2, scell, SVar.cells]
   intro _
   cases h4 : (x == y.sort) with
   | true =>
    have hxy : x = y.sort := by simpa using h4
    simp only [go_sem, hw, lA]
    exact ⟨zzc (by simp only [go_sem, oS]), by rw [hb0, ← hxy, show done ++ x :: r0 = (done ++ [x]) ++ r0 by simp]; exact List.take_left' (by simp)⟩
   | false =>
    have h5 : (l == qa.map SVar.sort) = false := by
     simp only [beq_eq_false_iff_ne, ne_eq] at h4 ⊢
     intro e
     rw [hl, hb0] at e
     exact h4 (List.cons.inj (List.append_cancel_left e)).1
    simp only [go_sem, h5] at hR ⊢
    simp only [go_sem, ← hR]
  ·intro hI
   have h5 : (l == qa.map SVar.sort) = true := by
    have e : (qa.map SVar.sort).take l.length = qa.map SVar.sort := List.take_of_length_le (by rw [lM, h2]; exact Nat.le_refl _)
    rw [beq_iff_eq]; exact hI.symm.trans e
   simp only [go_sem, h5] at hR
   simp only [zvB, go_sem, ← hR, sBool, implies_true]
 ·have h3 : ((l.length : Int) != (qa.length : Int)) = true := by simp; omega
  simp only [go_sem, h3] at hR ⊢
  simp only [go_sem, ← hR]
end Go.Abs
end
section
namespace Go.Abs
variable {E : AEnv} (Z : Sys E)
include Z
theorem zWO (v : SEnv) (hv : v.Ok) (o : Int) (s : Str) (n : Int) (ks : List Pred) (l : List Str) (hl : (o == 10 || o == 11) = true → 2 ≤ l.length) :
  E.C zx8 [.agg v.cells, .agg (Pred.cells (.mk o s n ks)), .one (.lst (l.map scell))] (two (nodeS v o s l)) := by
 have hvar := zQw Z v s
 have happ := zYd Z v hv s l
 have hfil := zYw Z v hv s l
 have hrul := zYx Z o
 have hal1 := zjT Z l sInt
 have hal2 := zjT Z l sBool
 refine Z.zx8 _ _ ⟨bl rfl, ?_⟩
 generalize hR : nodeS v o s l = R
 unfold nodeS at hR
 unfold two at *
 rw [SEnv.cells] at *
 rw [Pred.zzd]
 simp only [zqe, go_sem, Pred.op, Pred.name, Pred.n, Pred.kids]
 cases h1 : (o == 1) with
 | true => simp only [h1, go_sem, sInt] at hR ⊢; simp only [go_sem, ← hR]
 | false =>
 cases h2 : (o == 2) with
 | true => simp only [h1, h2, go_sem, sBool] at hR ⊢; simp only [go_sem, ← hR]
 | false =>
 cases h3 : (o == 3) with
 | true =>
  simp only [h1, h2, h3, go_sem] at hR ⊢
  refine zzb hvar ?_
  simp only [go_sem]
  cases h : (findVar v.vars s).2 <;> simp only [h, go_sem] at hR ⊢ <;> simp only [go_sem, ← hR]
 | false =>
 cases h4 : (o == 4) with
 | true =>
  simp only [h1, h2, h3, h4, go_sem] at hR ⊢
  refine zzb happ ?_
  simp only [go_sem, hR]
 | false =>
 cases h5 : (o == 5) with
 | true =>
  simp only [h1, h2, h3, h4, h5, go_sem] at hR ⊢
  refine zzb hfil ?_
  simp only [go_sem, hR]
 | false =>
 simp only [h1, h2, h3, h4, h5, go_sem] at hR ⊢
 refine zzb hrul ?_
 unfold opS at hR
 unfold ruleS
 cases h6 : (o == 6 || o == 7 || o == 8 || o == 9) with
 | true =>
  simp only [h6, go_sem] at hR ⊢
  refine zzb hal1 ?_
  cases h : allS l sInt <;> simp only [h, go_sem] at hR ⊢ <;> simp only [go_sem, ← hR]
 | false =>
 cases h7 : (o == 12 || o == 13) with
 | true =>
  simp only [h6, h7, go_sem] at hR ⊢
  refine zzb hal1 ?_
  cases h : allS l sInt <;> simp only [h, go_sem] at hR ⊢ <;> simp only [go_sem, ← hR]
 | false =>
 cases h8 : (o == 10 || o == 11) with
 | true =>
  simp only [h6, h7, h8, go_sem] at hR hl ⊢
  refine zzb (zZy Z l hl) ?_
  cases h : (l.getD 0 [] == l.getD 1 []) <;> simp only [h, go_sem] at hR ⊢ <;> simp only [go_sem, ← hR]
 | false =>
  simp only [h6, h7, h8, go_sem] at hR ⊢
  refine zzb hal2 ?_
  cases h : allS l sBool <;> simp only [h, go_sem] at hR ⊢ <;> simp only [go_sem, ← hR]
end Go.Abs
end
section
namespace Go.Abs
def ofS (v : SEnv) : Pred → Str × Int
 | .mk o s n ks => if errs ks != 0 then ([], errs ks) else nodeS v o s (sorts ks)
where
 errs : List Pred → Int
 | [] => 0
 | k :: ks => if (ofS v k).2 != 0 then (ofS v k).2 else errs ks
 sorts : List Pred → List Str
 | [] => []
 | k :: ks => (ofS v k).1 :: sorts ks
theorem yzd (v : SEnv) (o : Int) (s : Str) (n : Int) (ks : List Pred) : ofS v (.mk o s n ks) = if ofS.errs v ks != 0 then ([], ofS.errs v ks) else nodeS v o s (ks.map fun k => (ofS v k).1) := by
 rw [ofS]
 have : ofS.sorts v ks = ks.map fun k => (ofS v k).1 := by
  induction ks with
  | nil => rfl
  | cons k ks ih => rw [ofS.sorts, ih]; rfl
 rw [this]
theorem zQS {v : SEnv} {a b : List Pred} {k : Pred} (ha : ∀ x ∈ a, (ofS v x).2 = 0) : ofS.errs v (a ++ k :: b) = if (ofS v k).2 != 0 then (ofS v k).2 else ofS.errs v b := by
 induction a with
 | nil => rfl
 | cons x a ih => rw [List.cons_append, ofS.errs, ha x (by simp)]; exact ih fun y hy => ha y (by simp [hy])
theorem zKP {v : SEnv} {a : List Pred} (ha : ∀ x ∈ a, (ofS v x).2 = 0) : ofS.errs v a = 0 := by
 induction a with
 | nil => rfl
 | cons x a ih => rw [ofS.errs, ha x (by simp)]; exact ih fun y hy => ha y (by simp [hy])
def NodeOk (q : Pred) : Prop := ((q.op == 10 || q.op == 11) = true → 2 ≤ q.kids.length) ∧ q.kids.length ≤ 24
def Arity (p : Pred) : Prop := ∀ q ∈ p.pre, NodeOk q
theorem Arity.kid {o : Int} {s : Str} {n : Int} {ks : List Pred} (h : Arity (.mk o s n ks)) {k : Pred} (hk : k ∈ ks) : Arity k := by
 intro q hq
 refine h q ?_
 rw [Pred.zZ2]
 refine List.mem_cons_of_mem _ ?_
 clear h
 induction ks with
 | nil => cases hk
 | cons x ks ih =>
  rw [Pred.pre.pres, List.mem_append]
  rcases List.mem_cons.1 hk with rfl | hk
  ·exact .inl hq
  ·exact .inr (ih hk)
theorem Arity.top {o : Int} {s : Str} {n : Int} {ks : List Pred} (h : Arity (.mk o s n ks)) : NodeOk (.mk o s n ks) := h _ (by rw [Pred.zZ2]; simp)
theorem zYm : ∀ {l : List Pred}, Pred.first l = 0 → ∀ q ∈ l, Pred.err q = 0
 | [], _, q, hq => by cases hq
 | p :: l, h, q, hq => by
  rw [Pred.first] at h
  by_cases hp : (Pred.err p != 0) = true
  ·rw [if_pos hp] at h; simp [h] at hp
  ·rw [if_neg hp] at h
   rcases List.mem_cons.1 hq with rfl | hq
   ·simpa using hp
   ·exact zYm h q hq
theorem yzS {q : Pred} (h : Pred.err q = 0) : NodeOk q := by
 obtain ⟨o, s, n, ks⟩ := q
 change nodeE o s n ks = 0 at h
 unfold nodeE at h
 by_cases h1 : (decide (o < 1) || decide (o > 18) || !s == [] && !isOpNamed o || n != 0 && !(o == 1 || o == 2) || !kidsOk o ks.length) = true
 ·rw [if_pos h1] at h; cases h
 ·simp only [Bool.or_eq_true, not_or] at h1
  have hk : kidsOk o ks.length = true := by simpa using h1.2
  unfold kidsOk at hk
  refine ⟨fun ho => ?_, ?_⟩ <;> simp only [Pred.op, Pred.kids] at *
  ·split at hk
   ·simp at ho; simp_all; omega
   ·split at hk
    ·simp at ho; simp_all; omega
    ·split at hk
     ·simp at ho; simp_all; omega
     ·simp at hk; omega
  ·split at hk
   ·simp at hk; simp [hk]
   ·split at hk
    ·simp at hk; omega
    ·split at hk <;> (simp at hk; omega)
theorem zQF {p : Pred} (h : Pred.formE p = 0) : Arity p := by
 rw [Pred.zZs] at h
 exact fun q hq => yzS (zYm h q hq)
variable {E : AEnv} (Z : Sys E)
include Z
theorem zWN (v : SEnv) (hv : v.Ok) {b7 b2 : Nat} (h7 : E.G b7 = some [.clo zzU [.gp b7 0, .gp b2 0]]) (h2 : E.G b2 = some v.cells) (p : Pred) (hp : Arity p) :
  E.C zzU [.agg p.cells, .one (.gp b7 0), .one (.gp b2 0)] (two (ofS v p)) := by
 induction p using Pred.ind with
 | h o s n ks ih =>
 have hn := fun l hl => zWO Z v hv o s n ks l hl
 refine Z.zzU _ _ ⟨bl rfl, ?_⟩
 generalize hR : ofS v (.mk o s n ks) = R
 rw [yzd] at hR
 unfold two at *
 rw [SEnv.cells] at *
 rw [Pred.zzd] at *
 simp only [zqd, go_sem, Pred.op, Pred.name, Pred.n, Pred.kids] at hn ⊢
 intro hlen
 have hk24 := hp.top.2
 simp only [Pred.kids] at hk24
 refine zzf ks (fun done => ∀ x ∈ done, (ofS v x).2 = 0) (fun done rest => ⟨[(14, .d (.int .i64 done.length)), (13, .d (.int .i64 ks.length)), (12, .d (.lst (ks.map Pred.cells))), (1, .d (.gp b7 0)), (2, .d (.gp b2 0)), (3, .ptr 3 0), (6, .own 6 1 ((done.map fun k => (ofS v k).1).map scell))], [(3, [.d (.int .i64 o), .d (.str s), .d (.int .i64 n), .d (.lst (ks.map Pred.cells))])], [(6, true)]⟩) ?_ (by simp) ?_ ?_
 ·exact zwJ 6 6 1 [] [(6, 6)] rfl (by simp) rfl (by simp only [Ent0, go_sem, cN, oS])
 ·intro done k r hl hI
  have hk' := ih k (by rw [hl]; simp) (hp.kid (by rw [hl]; simp))
  have hlt := zzi hl
  have hw : IntKind.i64.wrap ((done.length : Int) + 1) = ((done.length + 1 : Nat) : Int) := zze (by omega)
  rw [hl, zQS hI, ← hl] at hR
  have hd : done.length ≤ 24 := by omega
  have ha1 : (done.length + 1) * 16 ≤ 2 ^ 46 := by omega
  have ha2 : done.length + 1 ≤ 9223372036854775807 := by omega
  simp only [zwg, go_sem, hlt, zzA hl, h7]
  refine zzb hk' ?_
  simp only [go_sem]
  cases h3 : ((ofS v k).2 != 0) with
  | true => simp only [h3, go_sem] at hR ⊢; simp only [go_sem, ← hR]
  | false =>
   simp only [go_sem, hw, lA, zje, lM]
   refine ⟨⟨by simp, ha1, by omega⟩, zzo [(6, 30)] ?_, zyb hI (by simpa using h3)⟩
   simp only [go_sem, cN, oS, mA, scell]
 ·intro hI
  rw [zKP hI] at hR
  have hR : nodeS v o s (ks.map fun k => (ofS v k).1) = R := hR
  simp only [zwg, go_sem, h2]
  refine zzb (hn _ (by rw [lM]; exact hp.top.1)) ?_
  simp only [go_sem, hR]
end Go.Abs
end
section
namespace Go.Abs
structure Fam (X : (Nat → Option (List D)) → AEnv) : Prop where
 sys : ∀ G, Sys (X G)
 G : ∀ G, (X G).G = G
 it : ∀ G p, (X G).It zzY [.ref (Pred.cells p)] (yields p.pre)
def OfS (v : SEnv) (p : Pred) : Str × Int := if p.checkE != 0 then ([], p.checkE) else ofS v p
theorem zwK {p : Pred} (h : p.checkE = 0) : p.formE = 0 := by
 unfold Pred.checkE at h
 by_cases h1 : decide (p.nodes > 400) = true
 ·rw [if_pos h1] at h; cases h
 ·rw [if_neg h1] at h
  by_cases h2 : decide (p.depth > 40) = true
  ·rw [if_pos h2] at h; cases h
  ·rw [if_neg h2] at h; exact h
theorem zVc {X : (Nat → Option (List D)) → AEnv} (F : Fam X) (ZF : ∀ G bs dep args r, BodyF X bs dep G zwf args r → (X G).C zxC args r) {G : Nat → Option (List D)} (hG : G 0 = some (kws.map .str)) (v : SEnv) (hv : v.Ok) (p : Pred) :
  (X G).C zxC [.agg v.cells, .agg p.cells] (two (OfS v p)) := by
 have hc := zZ3 (F.sys G) (by rw [F.G]; exact hG) (F.it G) p
 refine ZF G [2, 7] 4 _ _ ⟨bl rfl, ?_⟩
 generalize hR : OfS v p = R
 unfold OfS at hR
 unfold two at *
 have hvc : v.cells = [.lst (v.vars.map SVar.cells), .lst (v.syms.map SSym.cells), .lst (v.holes.map SHole.cells)] := rfl
 have key : p.checkE = 0 → ∀ G' b7 b2, G' b7 = some [.clo zzU [.gp b7 0, .gp b2 0]] → G' b2 = some v.cells → (X G').C zzU [.agg p.cells, .one (.gp b7 0), .one (.gp b2 0)] (two (ofS v p)) := fun h0 G' b7 b2 h7 h2 =>
  zWN (F.sys G') v hv (by rw [F.G]; exact h7) (by rw [F.G]; exact h2) p (zQF (zwK h0))
 rw [hvc] at *
 obtain ⟨o, s, n, ks⟩ := p
 rw [Pred.zzd] at *
 simp only [zwf, awpF, go_sem, Pred.op, Pred.name, Pred.n, Pred.kids] at hc key ⊢
 refine zzb hc ?_
 simp only [go_sem]
 cases h1 : ((Pred.mk o s n ks).checkE != 0) with
 | true => simp only [h1, go_sem] at hR ⊢; simp only [go_sem, ← hR]
 | false =>
 simp only [h1, go_sem] at hR
 simp only [awpF, go_sem]
 intro b2 hb2
 refine ⟨_, _, rfl, rfl, ?_⟩
 simp only [awpF, St.frz, frzSlots, frzMem, AV.frz, AV.frzs, go_sem]
 intro b7 hb7
 have hne : b2 ≠ b7 := by
  rintro rfl
  have := hb7 [.lst (v.vars.map SVar.cells), .lst (v.syms.map SSym.cells), .lst (v.holes.map SHole.cells)] (by simp [Go.Abs.ext])
  cases this
 refine ⟨_, [.clo zzU [.gp b7 0, .gp b2 0]], rfl, rfl, ?_⟩
 have k7 : (ext (ext G b2 [.lst (v.vars.map SVar.cells), .lst (v.syms.map SSym.cells), .lst (v.holes.map SHole.cells)]) b7 [.clo zzU [.gp b7 0, .gp b2 0]]) b7 = some [.clo zzU [.gp b7 0, .gp b2 0]] := by simp [Go.Abs.ext]
 have k2 : (ext (ext G b2 [.lst (v.vars.map SVar.cells), .lst (v.syms.map SSym.cells), .lst (v.holes.map SHole.cells)]) b7 [.clo zzU [.gp b7 0, .gp b2 0]]) b2 = some [.lst (v.vars.map SVar.cells), .lst (v.syms.map SSym.cells), .lst (v.holes.map SHole.cells)] := by simp [Go.Abs.ext, hne]
 have hk := key (by simpa using h1) _ b7 b2 k7 k2
 simp only [F.G, k7, go_sem]
 unfold two at hk
 refine zzb hk ?_
 simp only [go_sem, hR]
end Go.Abs
end
section
namespace Go.Abs
namespace Pred
def same : Pred → Pred → Bool
 | .mk o s n ks, .mk o' s' n' ks' => o == o' && s == s' && n == n' && sames ks ks'
where sames : List Pred → List Pred → Bool
 | [], [] => true
 | k :: ks, k' :: ks' => same k k' && sames ks ks'
 | _, _ => false
theorem zVa (o : Int) (s : Str) (n : Int) (ks : List Pred) (o' : Int) (s' : Str) (n' : Int) (ks' : List Pred) : same (.mk o s n ks) (.mk o' s' n' ks') = (o == o' && s == s' && n == n' && same.sames ks ks') := by rw [same]
theorem zjE : ∀ (a b : Pred), same a b = true ↔ a = b := by
 intro a
 induction a using Pred.ind with
 | h o s n ks ih =>
 intro b
 obtain ⟨o', s', n', ks'⟩ := b
 have hk : ∀ l', same.sames ks l' = true ↔ ks = l' := by
  induction ks with
  | nil => intro l'; cases l' <;> simp [same.sames]
  | cons k ks ih2 =>
   intro l'
   cases l' with
   | nil => simp [same.sames]
   | cons k' l' => simp only [same.sames, Bool.and_eq_true, List.cons.injEq, ih k (by simp) k', ih2 (fun x hx => ih x (by simp [hx])) l']
 rw [zVa]
 simp only [Bool.and_eq_true, beq_iff_eq, hk, Pred.mk.injEq, and_assoc]
theorem zJn : ∀ (a b : List Pred), same.sames a b = true ↔ a = b
 | [], [] => by simp [same.sames]
 | [], _ :: _ => by simp [same.sames]
 | _ :: _, [] => by simp [same.sames]
 | x :: a, y :: b => by simp only [same.sames, Bool.and_eq_true, List.cons.injEq, zjE, zJn a b]
theorem zqr (a : Pred) : same a a = true := (zjE a a).2 rfl
theorem zk6 : ∀ {a b l l' : List Pred}, a.length = b.length → same.sames (a ++ l) (b ++ l') = (same.sames a b && same.sames l l')
 | [], [], l, l', _ => by simp [same.sames]
 | x :: a, y :: b, l, l', h => by simp only [List.cons_append, same.sames, zk6 (a := a) (b := b) (by simpa using h), Bool.and_assoc]
 | [], _ :: _, _, _, h => by simp at h
 | _ :: _, [], _, _, h => by simp at h
theorem zWL : ∀ {a b : List Pred}, a.length ≠ b.length → same.sames a b = false := by
 intro a b h
 rw [Bool.eq_false_iff]
 intro e
 exact h (by rw [(zJn a b).1 e])
end Pred
theorem zKL {α : Type} {b : List α} {n : Nat} (h : n < b.length) : ∃ bd y r, b = bd ++ y :: r ∧ bd.length = n := by
 have := List.take_append_drop n b
 rw [List.drop_eq_getElem_cons h] at this
 exact ⟨_, _, _, this.symm, by simp; omega⟩
theorem zKR {b bd r : List Pred} {y : Pred} {n : Nat} (hb : b = bd ++ y :: r) (hn : bd.length = n) : (b.map Pred.cells).getD n [] = Pred.cells y := by subst hn; exact zzA hb
def zeroP : Pred := .mk 0 [] 0 []
def trueP : Pred := .mk 2 [] 1 []
def falseP : Pred := .mk 2 [] 0 []
theorem yx0 (o : Int) (s : Str) (n : Int) (ks : List Pred) : (Pred.mk o s n ks).same zeroP = (o == 0 && s == [] && n == 0 && (ks.length : Int) == 0) := by
 unfold zeroP
 rw [Pred.zVa]
 congr 1
 cases ks with
 | nil => rfl
 | cons k ks => simp [Pred.same.sames]; omega
variable {E : AEnv} (Z : Sys E)
include Z
theorem zK3 (a b : List Pred) (h : ∀ x ∈ a, ∀ y, E.C zyy [.agg (Pred.cells x), .agg (Pred.cells y)] (.one (.bool (x.same y)))) :
  E.C zz4 [.one (.lst (a.map Pred.cells)), .one (.lst (b.map Pred.cells)), .one (.clo zyy [])] (.one (.bool (Pred.same.sames a b))) := by
 refine Z.zz4 _ _ ⟨bl rfl, ?_⟩
 generalize hR : Pred.same.sames a b = R
 simp only [zwm, go_sem]
 intro hl1 hl2
 by_cases hlen : a.length = b.length
 ·have h1 : ((a.length : Int) != (b.length : Int)) = false := by simp [hlen]
  simp only [h1, go_sem]
  intro _
  refine zzf a (fun done => Pred.same.sames done (b.take done.length) = true) (fun done rest => ⟨[(15, .d (.int .i64 done.length)), (14, .d (.int .i64 a.length)), (2, .d (.clo zyy [])), (0, .d (.lst (a.map Pred.cells))), (1, .d (.lst (b.map Pred.cells)))], [], []⟩) ?_ (by simp [Pred.same.sames]) ?_ ?_
  ·exact zzc (by simp only [go_sem])
  ·intro done x r hl hI
   obtain ⟨bd, y, r', hb, hbl⟩ := zKL (b := b) (n := done.length) (by rw [← hlen, hl]; simp)
   have htk : b.take done.length = bd := by rw [hb]; exact List.take_left' hbl
   have hlt := zzi hl
   have hlt2 := zzi hb
   rw [hbl] at hlt2
   have hw : IntKind.i64.wrap ((done.length : Int) + 1) = ((done.length + 1 : Nat) : Int) := zze (by omega)
   rw [htk] at hI
   rw [hl, hb, Pred.zk6 hbl.symm, hI, Pred.same.sames, Bool.true_and] at hR
   simp only [zyB, go_sem, zzA hl, zKR hb hbl, hlt, hlt2]
   refine zzb (h x (by rw [hl]; simp) y) ?_
   cases h2 : x.same y with
   | true =>
    simp only [go_sem, hw, lA]
    refine ⟨zzc (by simp only [go_sem]), ?_⟩
    have ht2 : b.take (done.length + 1) = bd ++ [y] := by rw [hb, show bd ++ y :: r' = (bd ++ [y]) ++ r' by simp]; exact List.take_left' (by simp [hbl])
    rw [ht2, Pred.zk6 hbl.symm, hI]
    simp [Pred.same.sames, h2]
   | false => simp only [h2, go_sem] at hR ⊢; exact hR
  ·intro hI
   rw [hlen, List.take_length] at hI
   rw [hI] at hR
   subst hR
   simp only [zyB, go_sem]
 ·have h1 : ((a.length : Int) != (b.length : Int)) = true := by simp; omega
  rw [Pred.zWL hlen] at hR
  simp only [h1, go_sem, hR]
theorem zwY (a : Pred) : ∀ b, E.C zyy [.agg (Pred.cells a), .agg (Pred.cells b)] (.one (.bool (a.same b))) := by
 induction a using Pred.ind with
 | h o s n ks ih =>
 intro b
 obtain ⟨o', s', n', ks'⟩ := b
 have he := zK3 Z ks ks' ih
 refine Z.zyy _ _ ⟨bl rfl, ?_⟩
 rw [Pred.zzd, Pred.zzd, Pred.zVa]
 simp only [zYK, go_sem, Pred.op, Pred.name, Pred.n, Pred.kids]
 refine zYC he ?_
 simp only [go_sem]
theorem zxm (a : Pred) : ∀ b, E.C zyF [.agg (Pred.cells a), .agg (Pred.cells b)] (.one (.bool (a.same b))) := by
 induction a using Pred.ind with
 | h o s n a ih =>
 intro b
 obtain ⟨o', s', n', b⟩ := b
 refine Z.zyF _ _ ⟨bl rfl, ?_⟩
 generalize hR : Pred.same (.mk o s n a) (.mk o' s' n' b) = R
 rw [Pred.zVa] at hR
 rw [Pred.zzd, Pred.zzd]
 simp only [zXY, go_sem, Pred.op, Pred.name, Pred.n, Pred.kids]
 intro hl1 hl2
 cases h0 : (o != o' || !s == s' || n != n') with
 | true =>
  have : (o == o' && s == s' && n == n') = false := by
   rw [Bool.eq_false_iff]; intro e; simp only [Bool.and_eq_true, beq_iff_eq] at e; simp [e.1.1, e.1.2, e.2] at h0
  rw [this] at hR
  simp only [go_sem] at hR
  simp only [go_sem, hR]
 | false =>
 have : (o == o' && s == s' && n == n') = true := by
  simp at h0; simp [h0.1.1, h0.1.2, h0.2]
 rw [this, Bool.true_and] at hR
 by_cases hlen : a.length = b.length
 ·have h1 : ((a.length : Int) != (b.length : Int)) = false := by simp [hlen]
  simp only [h1, go_sem]
  intro _
  refine zzf a (fun done => Pred.same.sames done (b.take done.length) = true) (fun done rest => ⟨[(37, .d (.int .i64 done.length)), (36, .d (.int .i64 a.length)), (2, .ptr 2 0), (3, .ptr 3 0)],
   [(2, [.d (.int .i64 o), .d (.str s), .d (.int .i64 n), .d (.lst (a.map Pred.cells))]), (3, [.d (.int .i64 o'), .d (.str s'), .d (.int .i64 n'), .d (.lst (b.map Pred.cells))])], []⟩) ?_ (by simp [Pred.same.sames]) ?_ ?_
  ·exact zzc (by simp only [go_sem, oS])
  ·intro done x r hl hI
   obtain ⟨bd, y, r', hb, hbl⟩ := zKL (b := b) (n := done.length) (by rw [← hlen, hl]; simp)
   have htk : b.take done.length = bd := by rw [hb]; exact List.take_left' hbl
   have hlt := zzi hl
   have hlt2 := zzi hb
   rw [hbl] at hlt2
   have hw : IntKind.i64.wrap ((done.length : Int) + 1) = ((done.length + 1 : Nat) : Int) := zze (by omega)
   rw [htk] at hI
   rw [hl, hb, Pred.zk6 hbl.symm, hI, Pred.same.sames, Bool.true_and] at hR
   simp only [zvx, go_sem, zzA hl, zKR hb hbl, hlt, hlt2]
   refine zzb (ih x (by rw [hl]; simp) y) ?_
   cases h2 : x.same y with
   | true =>
    simp only [go_sem, hw, lA]
    refine ⟨zzc (by simp only [go_sem, oS]), ?_⟩
    have ht2 : b.take (done.length + 1) = bd ++ [y] := by rw [hb, show bd ++ y :: r' = (bd ++ [y]) ++ r' by simp]; exact List.take_left' (by simp [hbl])
    rw [ht2, Pred.zk6 hbl.symm, hI]
    simp [Pred.same.sames, h2]
   | false => simp only [h2, go_sem] at hR ⊢; exact hR
  ·intro hI
   rw [hlen, List.take_length] at hI
   rw [hI] at hR
   subst hR
   simp only [zvx, go_sem]
 ·have h1 : ((a.length : Int) != (b.length : Int)) = true := by simp; omega
  rw [Pred.zWL hlen] at hR
  simp only [h1, go_sem, hR]
theorem zjB (a b : List Pred) : E.C zkn [.one (.lst (a.map Pred.cells)), .one (.lst (b.map Pred.cells))] (.one (.bool (Pred.same.sames a b))) := by
 have h := zxm Z
 refine Z.zkn _ _ ⟨bl rfl, ?_⟩
 generalize hR : Pred.same.sames a b = R
 simp only [zX6, go_sem]
 intro hl1 hl2
 by_cases hlen : a.length = b.length
 ·have h1 : ((a.length : Int) != (b.length : Int)) = false := by simp [hlen]
  simp only [h1, go_sem]
  refine zzf a (fun done => Pred.same.sames done (b.take done.length) = true) (fun done rest => ⟨[(5, .d (.int .i64 done.length)), (0, .d (.lst (a.map Pred.cells))), (1, .d (.lst (b.map Pred.cells)))], [], []⟩) ?_ (by simp [Pred.same.sames]) ?_ ?_
  ·exact zzc (by simp only [go_sem])
  ·intro done x r hl hI
   obtain ⟨bd, y, r', hb, hbl⟩ := zKL (b := b) (n := done.length) (by rw [← hlen, hl]; simp)
   have htk : b.take done.length = bd := by rw [hb]; exact List.take_left' hbl
   have hlt := zzi hl
   have hlt2 := zzi hb
   rw [hbl] at hlt2
   have hw : IntKind.i64.wrap ((done.length : Int) + 1) = ((done.length + 1 : Nat) : Int) := zze (by omega)
   rw [htk] at hI
   rw [hl, hb, Pred.zk6 hbl.symm, hI, Pred.same.sames, Bool.true_and] at hR
   simp only [zvA, go_sem, zzA hl, zKR hb hbl, hlt, hlt2]
   intro _
   refine zzb (h x y) ?_
   cases h2 : x.same y with
   | true =>
    simp only [go_sem, hw, lA]
    refine ⟨zzc (by simp only [go_sem]), ?_⟩
    have ht2 : b.take (done.length + 1) = bd ++ [y] := by rw [hb, show bd ++ y :: r' = (bd ++ [y]) ++ r' by simp]; exact List.take_left' (by simp [hbl])
    rw [ht2, Pred.zk6 hbl.symm, hI]
    simp [Pred.same.sames, h2]
   | false => simp only [h2, go_sem] at hR ⊢; exact hR
  ·intro hI
   rw [hlen, List.take_length] at hI
   rw [hI] at hR
   subst hR
   simp only [zvA, go_sem, implies_true]
 ·have h1 : ((a.length : Int) != (b.length : Int)) = true := by simp; omega
  rw [Pred.zWL hlen] at hR
  simp only [h1, go_sem, hR]
theorem zQj (p : Pred) : E.C zqT [.agg (Pred.cells p)] (.one (.bool (p.same zeroP))) := by
 refine Z.zqT _ _ ⟨bl rfl, ?_⟩
 obtain ⟨o, s, n, ks⟩ := p
 rw [yx0, Pred.zzd]
 simp only [zX7, go_sem, Pred.op, Pred.name, Pred.n, Pred.kids, implies_true]
end Go.Abs
end
section
namespace Go.Abs
theorem zkx {st st1 : St} (s i t sz : Nat) (cs : List AV) (es : List (List D)) (mp : TMap) (h0 : getM st.mem s = some cs) (h1 : cs[i]? = some (.full es)) (h2 : ∀ e ∈ es, e.length = sz) (h3 : getT st.tk t = none)
  (h : Ent0 mp { st with mem := (s, cs.set i (.own t sz es)) :: st.mem, tk := (t, true) :: st.tk } st1) : Ent st st1 := ⟨[(.m s i, t, sz)], mp, _, ⟨_, ⟨cs, es, h0, h1, h2, h3, rfl⟩, rfl⟩, h⟩
def AllN (P : Pred → Prop) (p : Pred) : Prop := ∀ q ∈ p.pre, P q
theorem AllN.kid {P : Pred → Prop} {o : Int} {s : Str} {n : Int} {ks : List Pred} (h : AllN P (.mk o s n ks)) {k : Pred} (hk : k ∈ ks) : AllN P k := by
 intro q hq
 refine h q ?_
 rw [Pred.zZ2]
 refine List.mem_cons_of_mem _ ?_
 clear h
 induction ks with
 | nil => cases hk
 | cons x ks ih =>
  rw [Pred.pre.pres, List.mem_append]
  rcases List.mem_cons.1 hk with rfl | hk
  ·exact .inl hq
  ·exact .inr (ih hk)
theorem AllN.top {P : Pred → Prop} {o : Int} {s : Str} {n : Int} {ks : List Pred} (h : AllN P (.mk o s n ks)) : P (.mk o s n ks) := h _ (by rw [Pred.zZ2]; simp)
def Tame : Pred → Prop := AllN fun q => Small q.kids.length
variable {E : AEnv} (Z : Sys E)
include Z
theorem zZj (p : Pred) (hp : Tame p) : E.C zxi [.agg (Pred.cells p)] (.agg (Pred.cells p)) := by
 induction p using Pred.ind with
 | h o s n ks ih =>
 refine Z.zxi _ _ ⟨bl rfl, ?_⟩
 rw [Pred.zzd]
 have hk : Small ks.length := hp.top
 unfold Small at hk
 simp only [zZc, go_sem, Pred.op, Pred.name, Pred.n, Pred.kids]
 intro hlen
 refine zzf ks (fun _ => True) (fun done rest => ⟨[(16, .d (.int .i64 done.length)), (15, .d (.int .i64 ks.length)), (14, .d (.lst (ks.map Pred.cells))), (3, .ptr 3 0), (2, .ptr 2 0)], [(3, [.d (.int .i64 o), .d (.str s), .d (.int .i64 n), .own 3 4 (done.map Pred.cells)]), (2, [.d (.int .i64 0), .d (.str []), .d (.int .i64 0), .full []])], [(3, true)]⟩) ?_ trivial ?_ ?_
 ·exact zkx 3 3 3 4 _ [] [(3, 3)] rfl rfl (by simp) rfl (by simp only [Ent0, go_sem, cN, oS])
 ·intro done k r hl _
  have hk' := ih k (by rw [hl]; simp) (hp.kid (by rw [hl]; simp))
  have hlt := zzi hl
  have hw : IntKind.i64.wrap ((done.length : Int) + 1) = ((done.length + 1 : Nat) : Int) := zze (by omega)
  have hd : done.length < ks.length := by omega
  have ha1 : (done.length + 1) * 56 ≤ 2 ^ 46 := by omega
  simp only [zwq, go_sem, hlt, zzA hl]
  refine zzb hk' ?_
  simp only [go_sem, hw, lA, lM, mA, Pred.zzB]
  refine ⟨⟨by simp [Pred.zzu], ha1, by omega⟩, zzo [(3, 25)] ?_⟩
  simp only [go_sem, cN, oS]
 ·intro _
  simp only [zwq, go_sem]
theorem zXl (b : Bool) : E.C zxw [.one (.bool b)] (.agg (Pred.cells (if b then trueP else falseP))) := by
 refine Z.zxw _ _ ⟨bl rfl, ?_⟩
 cases b <;> simp only [zjM, go_sem, trueP, falseP, Pred.zzd, Pred.op, Pred.name, Pred.n, Pred.kids]
def voidP (p : Pred) : Bool := p.same zeroP || p.same trueP
theorem zV2 (p : Pred) : E.C zv1 [.agg (Pred.cells p)] (.one (.bool (voidP p))) := by
 have h0 := zwY Z p zeroP
 have h1 := zwY Z p trueP
 have h2 := zXl Z true
 refine Z.zv1 _ _ ⟨bl rfl, ?_⟩
 unfold voidP
 simp only [if_true] at h2
 rw [Pred.zzd p] at *
 have e0 : Pred.cells zeroP = [.int .i64 0, .str [], .int .i64 0, .lst []] := by rw [Pred.zzd]; rfl
 have e1 : Pred.cells trueP = [.int .i64 2, .str [], .int .i64 1, .lst []] := by rw [Pred.zzd]; rfl
 rw [e0] at h0
 rw [e1] at h1 h2
 simp only [zYN, go_sem]
 refine zzb h0 ?_
 simp only [go_sem]
 refine zYC h2 ?_
 simp only [go_sem]
 refine zYC h1 ?_
 simp only [go_sem]
end Go.Abs
end
section
namespace Go.Abs
def p2 (o : Int) (a b : Pred) : Pred := .mk o [] 0 [a, b]
theorem zwx {α : Type} {l : List α} (h : l.length = 2) : ∃ a b, l = [a, b] := by
 match l, h with
 | [a, b], _ => exact ⟨a, b, rfl⟩
theorem zzn {E : AEnv} {c : AC} {K : AX → St → Prop} {F : St} (h : ∀ K', K' = K → awp E (.loop c) K' F) : awp E (.loop c) K F := h K rfl
def andStp (x : Pred × Bool) (p : Pred) : Pred × Bool := if voidP p then x else if x.2 then (.mk 15 [] 0 [x.1, p], true) else (p, true)
def andGo (l : List Pred) : Pred × Bool := l.foldl andStp (trueP, false)
def isFalse (p : Pred) : Bool := !voidP p && p.same falseP
def andP (l : List Pred) : Pred := if l.any isFalse then falseP else (andGo l).1
theorem zw3 {E : AEnv} {a b : AC} {Q : AX → St → Prop} {st : St} (h : ∀ N, N = awp E b Q → awp E a (seqK N Q) st) : awp E (.seq a b) Q st := h _ rfl
end Go.Abs
end
section
namespace Go.Abs
mutual
def Pred.sz : Pred → Nat
 | .mk _ s _ ks => 1 + ((s.length + 1) + (1 + ((Pred.szs ks + 1) + 0))) + 1
def Pred.szs : List Pred → Nat
 | [] => 0
 | k :: ks => Pred.sz k + Pred.szs ks
end
theorem Pred.yjl (ks : List Pred) : Pred.szs ks = (ks.map Pred.sz).sum := by
 induction ks with
 | nil => simp [Pred.szs]
 | cons k ks ih => simp [Pred.szs, ih]
namespace Pred
mutual
def cnt : Pred → Nat
 | .mk _ _ _ ks => cnts ks + 1
def cnts : List Pred → Nat
 | [] => 0
 | k :: ks => cnt k + cnts ks
end
mutual
def dep : Pred → Nat
 | .mk _ _ _ ks => deps ks + 1
def deps : List Pred → Nat
 | [] => 0
 | k :: ks => max (dep k) (deps ks)
end
theorem yvQ {ks : List Pred} {k : Pred} (h : k ∈ ks) : cnt k ≤ cnts ks := by
 induction ks with
 | nil => cases h
 | cons x ks ih =>
  rw [cnts]
  rcases List.mem_cons.1 h with rfl | h
  ·omega
  ·have := ih h; omega
theorem zW5 (p : Pred) : cnt p ≤ sz p := by
 induction p using Pred.ind with
 | h o s n ks ih =>
 have : ∀ l : List Pred, (∀ k ∈ l, cnt k ≤ sz k) → cnts l ≤ szs l := by
  intro l
  induction l with
  | nil => intro _; exact Nat.le_refl _
  | cons x l ih2 =>
   intro h
   have h1 := h x (by simp)
   have h2 := ih2 fun k hk => h k (by simp [hk])
   rw [szs, cnts]; omega
 rw [sz, cnt]
 have := this ks ih
 omega
end Pred
theorem yy1 {v : SEnv} {ks : List Pred} (h : ofS.errs v ks = 0) : ∀ k ∈ ks, (ofS v k).2 = 0 := by
 induction ks with
 | nil => intro k hk; cases hk
 | cons x ks ih =>
  rw [ofS.errs] at h
  intro k hk
  by_cases h1 : ((ofS v x).2 != 0) = true
  ·rw [if_pos h1] at h; rw [h] at h1; cases h1
  ·rw [if_neg h1] at h
   rcases List.mem_cons.1 hk with rfl | hk
   ·simpa using h1
   ·exact ih h k hk
end Go.Abs
end
section
namespace Go.Abs
def BoolS (v : SEnv) (p : Pred) : Int := if p.same zeroP then 0 else if (OfS v p).2 == 0 && !(OfS v p).1 == sBool then 11 else (OfS v p).2
variable {E : AEnv} (Z : Sys E)
include Z
theorem yxN (v : SEnv) (p : Pred) (hp : Arity p) : E.C zWA [.agg v.cells, .agg p.cells] (two (ofS v p)) := by
 induction p using Pred.ind with
 | h o s n ks ih =>
 have hvar := yzY Z v s
 have happ := fun l => yz0 Z v s l
 have hhol := fun l => zQk Z v s l
 have hop := fun l hl => zXn Z o l hl
 refine Z.zWA _ _ ⟨bl rfl, ?_⟩
 generalize hR : ofS v (.mk o s n ks) = R
 rw [yzd] at hR
 unfold two at *
 rw [SEnv.cells] at *
 rw [Pred.zzd] at *
 simp only [zVG, go_sem, Pred.op, Pred.name, Pred.n, Pred.kids]
 have hk24 := hp.top.2
 simp only [Pred.kids] at hk24
 refine zzf ks (fun done => ∀ x ∈ done, (ofS v x).2 = 0) (fun done rest => ⟨[(7, .d (.int .i64 done.length)), (3, .ptr 3 0), (2, .ptr 2 0), (6, .own 6 1 ((done.map fun k => (ofS v k).1).map scell))],
  [(2, [.d (.lst (v.vars.map SVar.cells)), .d (.lst (v.syms.map SSym.cells)), .d (.lst (v.holes.map SHole.cells))]), (3, [.d (.int .i64 o), .d (.str s), .d (.int .i64 n), .d (.lst (ks.map Pred.cells))])], [(6, true)]⟩) ?_ (by simp) ?_ ?_
 ·exact zwJ 6 6 1 [] [(6, 6)] rfl (by simp) rfl (by simp only [Ent0, go_sem, cN, oS])
 ·intro done k r hl hI
  have hk' := ih k (by rw [hl]; simp) (hp.kid (by rw [hl]; simp))
  have hlt := zzi hl
  rw [hl, zQS hI, ← hl] at hR
  have hd : done.length ≤ 24 := by omega
  have hw : IntKind.i64.wrap ((done.length : Int) + 1) = ((done.length + 1 : Nat) : Int) := zze (by omega)
  have ha1 : (done.length + 1) * 16 ≤ 2 ^ 46 := by omega
  simp only [zj6, go_sem, hlt, zzA hl]
  intro _
  refine zzb hk' ?_
  simp only [go_sem]
  cases h3 : ((ofS v k).2 != 0) with
  | true => simp only [h3, go_sem] at hR ⊢; simp only [go_sem, ← hR]
  | false =>
   simp only [go_sem, hw, lA, zje, lM]
   refine ⟨⟨by simp, ha1, by omega⟩, zzo [(6, 35)] ?_, zyb hI (by simpa using h3)⟩
   simp only [go_sem, cN, oS, mA, scell]
 ·intro hI
  rw [zKP hI] at hR
  have hR : nodeS v o s (ks.map fun k => (ofS v k).1) = R := hR
  unfold nodeS at hR
  simp only [zj6, go_sem]
  intro _
  cases h1 : (o == 1) with
  | true => simp only [h1, go_sem, sInt] at hR ⊢; simp only [go_sem, ← hR]
  | false =>
  cases h2 : (o == 2) with
  | true => simp only [h1, h2, go_sem, sBool] at hR ⊢; simp only [go_sem, ← hR]
  | false =>
  cases h3 : (o == 3) with
  | true =>
   simp only [h1, h2, h3, go_sem] at hR ⊢
   refine zzb hvar ?_
   simp only [go_sem]
   cases h : (findVar v.vars s).2 <;> simp only [h, go_sem] at hR ⊢ <;> simp only [go_sem, ← hR]
  | false =>
  cases h4 : (o == 4) with
  | true =>
   simp only [h1, h2, h3, h4, go_sem] at hR ⊢
   refine zzb (happ _) ?_
   simp only [go_sem, hR]
  | false =>
  cases h5 : (o == 5) with
  | true =>
   simp only [h1, h2, h3, h4, h5, go_sem] at hR ⊢
   refine zzb (hhol _) ?_
   simp only [go_sem, hR]
  | false =>
  simp only [h1, h2, h3, h4, h5, go_sem] at hR ⊢
  refine zzb (hop _ (by rw [lM]; exact hp.top.1)) ?_
  simp only [go_sem, hR]
theorem yxM (v : SEnv) (p : Pred) : E.C zKx [.agg v.cells, .agg p.cells] (two (OfS v p)) := by
 have hc := zXa Z p
 have ho := fun h => yxN Z v p h
 refine Z.zKx _ _ ⟨bl rfl, ?_⟩
 generalize hR : OfS v p = R
 unfold OfS at hR
 unfold two at *
 rw [SEnv.cells] at *
 have key : p.checkE = 0 → Arity p := fun h => zQF (zwK h)
 rw [Pred.zzd] at *
 simp only [zVF, go_sem]
 refine zzb hc ?_
 simp only [go_sem]
 cases h1 : (p.checkE != 0) with
 | true => simp only [h1, go_sem] at hR ⊢; simp only [go_sem, ← hR]
 | false =>
  simp only [h1, go_sem] at hR ⊢
  refine zzb (ho (key (by simpa using h1))) ?_
  simp only [go_sem, hR]
theorem zQi (v : SEnv) (p : Pred) : E.C zqS [.agg v.cells, .agg p.cells] (.one (.int .i64 (BoolS v p))) := by
 have h0 := zQj Z p
 have h1 := yxM Z v p
 refine Z.zqS _ _ ⟨bl rfl, ?_⟩
 generalize hR : BoolS v p = R
 unfold BoolS at hR
 unfold two at *
 rw [SEnv.cells] at *
 rw [Pred.zzd] at *
 simp only [zX5, go_sem]
 refine zzb h0 ?_
 cases c0 : p.same zeroP with
 | true => simp only [c0, go_sem] at hR ⊢; simp only [go_sem, ← hR]
 | false =>
 simp only [c0, go_sem] at hR ⊢
 refine zzb h1 ?_
 simp only [sBool] at hR
 simp only [go_sem]
 by_cases c1 : (OfS v p).2 = 0
 ·have : ((OfS v p).2 != 0) = false := by simp [c1]
  have c2 : ((OfS v p).2 == 0) = true := by simp [c1]
  simp only [this, c2, go_sem] at hR ⊢
  cases c3 : ((OfS v p).1 == [66, 111, 111, 108]) <;> simp only [c3, go_sem] at hR ⊢ <;> simp only [← hR, c1]
 ·have : ((OfS v p).2 != 0) = true := by simp [c1]
  have c2 : ((OfS v p).2 == 0) = false := by simp [c1]
  simp only [this, c2, go_sem] at hR ⊢
  exact hR
theorem zqt (v : SEnv) (p : Pred) (hOf : E.C zxC [.agg v.cells, .agg p.cells] (two (OfS v p))) : E.C zyO [.agg v.cells, .agg p.cells] (.one (.int .i64 (BoolS v p))) := by
 have h0 := zwY Z p zeroP
 refine Z.zyO _ _ ⟨bl rfl, ?_⟩
 generalize hR : BoolS v p = R
 unfold BoolS at hR
 unfold two at *
 rw [SEnv.cells] at *
 rw [Pred.zzd p] at *
 have e0 : Pred.cells zeroP = [.int .i64 0, .str [], .int .i64 0, .lst []] := by rw [Pred.zzd]; rfl
 rw [e0] at h0
 simp only [zqc, go_sem]
 refine zzb h0 ?_
 cases c0 : p.same zeroP with
 | true => simp only [c0, go_sem] at hR ⊢; simp only [go_sem, ← hR]
 | false =>
 simp only [c0, go_sem] at hR ⊢
 refine zzb hOf ?_
 simp only [sBool] at hR
 simp only [go_sem]
 cases c1 : ((OfS v p).2 == 0 && !(OfS v p).1 == [66, 111, 111, 108]) <;> simp only [c1, go_sem] at hR ⊢ <;> simp only [← hR]
end Go.Abs
end
section
namespace Go.Abs
structure Coef where
 name : Str
 n : Int
def Coef.cells (v : Coef) : List D := [.str v.name, .int .i64 v.n]
def icell (n : Int) : List D := [.int .i64 n]
structure Fact where
 name : Str
 args : List Int
 res : Int
def Fact.cells (v : Fact) : List D := [.str v.name, .lst (v.args.map icell), .int .i64 v.res]
theorem Coef.lens (l : List Coef) : (∀ e ∈ l.map Coef.cells, e.length = 2) = True := zxO (f := Coef.cells) (fun _ => rfl) l
theorem Fact.lens (l : List Fact) : (∀ e ∈ l.map Fact.cells, e.length = 3) = True := zxO (f := Fact.cells) (fun _ => rfl) l
theorem yzI (l : List Int) : (∀ e ∈ l.map icell, e.length = 1) = True := zxO (f := icell) (fun _ => rfl) l
attribute [go_sem] Coef.lens Fact.lens yzI
variable {E : AEnv} (Z : Sys E)
include Z
end Go.Abs
end
section
namespace Go.Abs
def Good : Pred → Prop := AllN fun q => Pred.err q = 0
theorem Good.kid {o : Int} {s : Str} {n : Int} {ks : List Pred} (h : Good (.mk o s n ks)) {k : Pred} (hk : k ∈ ks) : Good k := AllN.kid h hk
theorem Good.top {o : Int} {s : Str} {n : Int} {ks : List Pred} (h : Good (.mk o s n ks)) : (1 ≤ o ∧ o ≤ 18) ∧ kidsOk o ks.length = true ∧ (o ≠ 1 → o ≠ 2 → n = 0) ∧ (isOpNamed o = false → s = []) := by
 have h := AllN.top h
 change nodeE o s n ks = 0 at h
 unfold nodeE at h
 by_cases h1 : (decide (o < 1) || decide (o > 18) || !s == [] && !isOpNamed o || n != 0 && !(o == 1 || o == 2) || !kidsOk o ks.length) = true
 ·rw [if_pos h1] at h; cases h
 ·simp only [Bool.or_eq_true, not_or, decide_eq_true_eq, Bool.and_eq_true, Bool.not_eq_true', bne_iff_ne, ne_eq, Bool.or_eq_false_iff, beq_eq_false_iff_ne, not_and] at h1
  obtain ⟨⟨⟨⟨a1, a2⟩, a3⟩, a4⟩, a5⟩ := h1
  refine ⟨⟨by omega, by omega⟩, by simpa using a5, fun e1 e2 => ?_, fun e => ?_⟩
  ·by_cases hn : n = 0
   ·exact hn
   ·exact absurd e2 (fun e2 => a4 hn e1 e2)
  ·by_cases hs : s = []
   ·exact hs
   ·exact absurd e (a3 (by simpa using hs))
variable {E : AEnv} (Z : Sys E)
include Z
end Go.Abs
end
section
namespace Go.Abs
def I64 (n : Int) : Prop := -9223372036854775808 ≤ n ∧ n ≤ 9223372036854775807
variable {E : AEnv} (Z : Sys E)
include Z
end Go.Abs
end
section
namespace Go.Abs
def pn (k : Int) : Pred := .mk 1 [] k []
end Go.Abs
end
section
namespace Go.Abs
theorem zWQ : Pred.cells trueP = [.int .i64 2, .str [], .int .i64 1, .lst []] := by rw [Pred.zzd]; rfl
theorem zZB : Pred.cells zeroP = [.int .i64 0, .str [], .int .i64 0, .lst []] := by rw [Pred.zzd]; rfl
theorem yyf : voidP falseP = false := by decide +kernel
theorem yzL (p : Pred) : isFalse p = p.same falseP := by
 unfold isFalse
 cases h : p.same falseP with
 | false => simp
 | true => rw [(Pred.zjE _ _).1 h, yyf]; rfl
def subAll (names : List Str) (by' : List Pred) : Pred → Pred
 | .mk o s n ks => if o == 3 && (decide (findIx s 0 names ≥ 0) && decide (findIx s 0 names < by'.length)) then by'.getD (findIx s 0 names).toNat zeroP else .mk o s n (subs ks)
where
 subs : List Pred → List Pred
 | [] => []
 | k :: ks => subAll names by' k :: subs ks
theorem zk9 (names : List Str) (by' : List Pred) (o : Int) (s : Str) (n : Int) (ks : List Pred) : subAll names by' (.mk o s n ks) =
  if o == 3 && (decide (findIx s 0 names ≥ 0) && decide (findIx s 0 names < by'.length)) then by'.getD (findIx s 0 names).toNat zeroP else .mk o s n (ks.map (subAll names by')) := by
 rw [subAll]
 have : subAll.subs names by' ks = ks.map (subAll names by') := by
  induction ks with
  | nil => rfl
  | cons k ks ih => rw [subAll.subs, ih]; rfl
 rw [this]
theorem zWg (l : List Pred) (i : Nat) (h : i < l.length) : (l.map Pred.cells).getD i [] = Pred.cells (l.getD i zeroP) := by
 simp [List.getD_eq_getElem?_getD, h]
theorem zqC (p : Pred) : List.drop 4 (p.cells.map AV.d) = [] := List.drop_eq_nil_of_le (by simp [Pred.zzu])
variable {E : AEnv} (Z : Sys E)
include Z
theorem zQc : E.C zqO [] (.agg (Pred.cells trueP)) := by
 refine Z.zqO _ _ ⟨bl rfl, ?_⟩
 rw [zWQ]
 simp only [zXZ, go_sem]
theorem zQd (p : Pred) : E.C zqP [.agg (Pred.cells p)] (.one (.bool (voidP p))) := by
 have h0 := zxm Z p zeroP
 have h1 := zxm Z p trueP
 have h2 := zQc Z
 refine Z.zqP _ _ ⟨bl rfl, ?_⟩
 generalize hR : voidP p = R
 unfold voidP at hR
 rw [Bool.or_comm] at hR
 rw [zZB] at h0
 rw [zWQ] at h1 h2
 rw [Pred.zzd p] at *
 simp only [zX0, go_sem]
 refine zzb h2 ?_
 simp only [go_sem]
 refine zzb h1 ?_
 simp only [go_sem]
 refine zy8 (fun _ => h0) ?_
 simp only [go_sem, hR]
theorem zQh (o : Int) (s : Str) (n : Int) (ks l : List Pred) : E.C zjA [.agg (Pred.cells (.mk o s n ks)), .one (.lst (l.map Pred.cells))] (.agg (Pred.cells (.mk o s n l))) := by
 refine Z.zjA _ _ ⟨bl rfl, ?_⟩
 rw [Pred.zzd, Pred.zzd]
 simp only [zX4, go_sem, Pred.op, Pred.name, Pred.n, Pred.kids]
theorem zWz (names : List Str) (by' : List Pred) (p : Pred) (hp : Tame p) : E.C zxn [.agg p.cells, .one (.lst (names.map fun k => [.str k])), .one (.lst (by'.map Pred.cells))] (.agg (subAll names by' p).cells) := by
 induction p using Pred.ind with
 | h o s n ks ih =>
 have hk : Small ks.length := hp.top
 unfold Small at hk
 have hfind := zWx Z names s
 have hwith := zQh Z o s n ks (ks.map (subAll names by'))
 refine Z.zxn _ _ ⟨bl rfl, ?_⟩
 generalize hR : subAll names by' (.mk o s n ks) = R
 rw [zk9] at hR
 generalize findIx s 0 names = ix at *
 rw [Pred.zzd (.mk o s n ks)] at *
 have hrs : zkK.rs = [.c 6 true 4] := rfl
 have tail : ∀ (st : St), (o == 3 && (decide (ix ≥ 0) && decide (ix < by'.length))) = false → getS st.slots 3 = .ptr 3 0 → getS st.slots 6 = .ptr 6 0 → getS st.slots 1 = .d (.lst (names.map fun k => [.str k])) → getS st.slots 2 = .d (.lst (by'.map Pred.cells)) → st.mem = [(6, [.d (.int .i64 0), .d (.str []), .d (.int .i64 0), .full []]), (3, [.d (.int .i64 o), .d (.str s), .d (.int .i64 n), .d (.lst (ks.map Pred.cells))])] → st.tk = [] →
   ∀ N, N = awp E (.seq (.reg [(none, .mv 8 (.c (.full [])))]) (.seq (.seq (.reg [(none, .fa 30 3 (.t 3)), (none, .ld 31 false 1 (.t 30)), (none, .len 32 false (.t 31)), (none, .mv 33 (.c (.d (.int .i64 0))))]) (.block 0 (.loop zy6))) (.seq (.reg [(none, .ld 45 true 4 (.t 3)), (none, .mv 46 (.t 8)), (none, .call (some 47) (.c (.d (.clo zjA []))) [.t 45, .t 46]), (none, .st 4 (.t 6) (.t 47))]) (.ret)))) (retK zkK.rs (.agg (Pred.cells R))) → N st := by
  intro st hc e3 e6 e1 e2 em et N hN
  rw [hc] at hR
  obtain ⟨sl, mm, tk⟩ := st
  simp only at e3 e6 e1 e2 em et
  subst em; subst et
  rw [hN]
  simp only [go_sem, e3, e6, e1, e2]
  intro hlen
  refine zzn fun K' hK => ?_
  refine zzf ks (fun _ => True) (fun done rest => ⟨[(33, .d (.int .i64 done.length)), (32, .d (.int .i64 ks.length)), (31, .d (.lst (ks.map Pred.cells))), (8, .own 8 4 ((done.map (subAll names by')).map Pred.cells)), (1, .d (.lst (names.map fun k => [.str k]))), (2, .d (.lst (by'.map Pred.cells))), (3, .ptr 3 0), (6, .ptr 6 0)], [(6, [.d (.int .i64 0), .d (.str []), .d (.int .i64 0), .full []]), (3, [.d (.int .i64 o), .d (.str s), .d (.int .i64 n), .d (.lst (ks.map Pred.cells))])], [(8, true)]⟩) ?_ trivial ?_ ?_
  ·exact zwJ 8 8 4 [] [(8, 8)] rfl (by simp) rfl (by simp only [Ent0, go_sem, cN, oS, e3, e6, e1, e2])
  ·intro done k r hl _
   have hk' := ih k (by rw [hl]; simp) (hp.kid (by rw [hl]; simp))
   have hlt := zzi hl
   have hw : IntKind.i64.wrap ((done.length : Int) + 1) = ((done.length + 1 : Nat) : Int) := zze (by omega)
   have ha1 : (done.length + 1) * 56 ≤ 2 ^ 46 := by omega
   simp only [zy6, go_sem, hlt, zzA hl]
   refine zzb hk' ?_
   simp only [go_sem, hw, lA, lM, mA, Pred.zzB]
   refine ⟨⟨by simp [Pred.zzu], ha1, by omega⟩, zzo [(8, 43)] ?_⟩
   simp only [go_sem, cN, oS]
  ·intro _
   simp only [zy6, go_sem, hK, Pred.op, Pred.name, Pred.n, Pred.kids] at hwith hR ⊢
   refine zzb hwith ?_
   simp only [go_sem, hrs, ← hR]
 refine zw3 fun N0 h0 => ?_
 simp only [go_sem, Pred.op, Pred.name, Pred.n, Pred.kids]
 rw [h0]
 refine zw3 fun N1 h1 => ?_
 cases c3 : (o == 3) with
 | false =>
  simp only [go_sem, c3]
  exact tail _ (by rw [c3]; rfl) rfl rfl rfl rfl rfl rfl N1 h1
 | true =>
  simp only [go_sem, c3]
  refine zzb hfind ?_
  simp only [go_sem]
  intro _
  cases c4 : (decide (ix ≥ 0) && decide (ix < by'.length)) with
  | false =>
   simp only [go_sem]
   exact tail _ (by rw [c3, c4]; rfl) rfl rfl rfl rfl rfl rfl N1 h1
  | true =>
   simp only [c3, c4, go_sem] at hR ⊢
   simp only [Bool.and_eq_true, decide_eq_true_eq] at c4
   have hlt : ix.toNat < by'.length := by omega
   have hge : (0 ≤ ix) = True := eq_true (by omega)
   have hlt' : (ix < (by'.length : Int)) = True := eq_true c4.2
   simp only [hge, hlt', zWg _ _ hlt, go_sem, hrs, hR]
end Go.Abs
end
section
namespace Go.Abs
theorem AllN.mk {P : Pred → Prop} {o : Int} {s : Str} {n : Int} {ks : List Pred} (h : P (.mk o s n ks)) (hk : ∀ k ∈ ks, AllN P k) : AllN P (.mk o s n ks) := by
 intro q hq
 rw [Pred.zZ2] at hq
 have hq' := List.mem_cons.1 hq
 clear hq
 rcases hq' with rfl | hq
 ·exact h
 ·clear h
  revert hq
  induction ks with
  | nil => intro hq; cases hq
  | cons x ks ih =>
   intro hq
   rw [Pred.pre.pres, List.mem_append] at hq
   rcases hq with hq | hq
   ·exact hk x (by simp) q hq
   ·exact ih (fun k hk' => hk k (by simp [hk'])) hq
theorem Pred.yk8 (p : Pred) : 1 ≤ p.cnt := by cases p; rw [Pred.cnt]; omega
theorem Pred.yw4 (ks : List Pred) : ks.length ≤ Pred.cnts ks := by
 induction ks with
 | nil => simp
 | cons k ks ih => rw [Pred.cnts, lC]; have := Pred.yk8 k; omega
theorem zz6 (p : Pred) (h : p.cnt ≤ 1048576) : Tame p := by
 induction p using Pred.ind with
 | h o s n ks ih =>
 rw [Pred.cnt] at h
 refine AllN.mk ?_ fun k hk => ih k hk ?_
 ·have := Pred.yw4 ks
  show Small ks.length
  unfold Small; omega
 ·have := Pred.yvQ hk; omega
end Go.Abs
end
section
namespace Go.Abs
def fv : List CV → List (List D)
 | [.agg (.int _ o :: .str s :: _)] => if o == 3 then [[.str s]] else []
 | _ => []
variable {E : AEnv} (Z : Sys E)
include Z
theorem zqs (l : List Str) (s : Str) : E.C zzx [.one (.lst (l.map fun k => [.str k])), .one (.str s)] (.one (.int .i64 (findIx s 0 l))) := by
 refine Z.zzx _ _ ⟨bl rfl, ?_⟩
 simp only [zyY, go_sem]
 intro hlen
 refine zzf l (fun done => s ∉ done) (fun done rest => ⟨[(8, .d (.int .i64 done.length)), (7, .d (.int .i64 l.length)), (0, .d (.lst (l.map fun k => [.str k]))), (1, .d (.str s))], [], []⟩) ?_ (by simp) ?_ ?_
 ·exact zzc (by simp only [go_sem])
 ·intro done k r hl hI
  have hlt := zzi hl
  have hw : IntKind.i64.wrap ((done.length : Int) + 1) = ((done.length + 1 : Nat) : Int) := zze (by omega)
  have hx : (l.map fun k => [D.str k]).getD done.length [] = [.str k] := by rw [hl]; exact zy7 _ _ _ _ _
  have hls : (∀ e ∈ l.map fun k => [D.str k], e.length = 1) = True := eq_true (by simp)
  simp only [zz1, go_sem, hlt, hx, hls]
  cases h1 : (s == k) with
  | true =>
   simp only [go_sem]
   have h1 : k = s := by simpa using (beq_iff_eq.1 h1).symm
   rw [hl, zqD s done 0 _ hI, findIx, if_pos h1, zA]
  | false =>
   simp only [go_sem, hw, lA]
   refine ⟨zzc (by simp only [go_sem]), ?_⟩
   have h1 : s ≠ k := by simpa using h1
   simp only [List.mem_append, List.mem_singleton, not_or]
   exact ⟨hI, h1⟩
 ·intro hI
  simp only [zz1, go_sem, zZq s l 0 hI]
theorem zKX (l : List Str) (s : Str) : E.C zks [.one (.lst (l.map fun k => [.str k])), .one (.str s)] (.one (.int .i64 (findIx s 0 l))) := by
 have h := zqs Z l s
 refine Z.zks _ _ ⟨bl rfl, ?_⟩
 simp only [zZJ, go_sem]
 refine zzb h ?_
 simp only [go_sem]
theorem zXk (names : List Str) (by' : List Pred) (hb : ∀ b ∈ by', Tame b) (p : Pred) (hp : Tame p) : E.C zyX [.agg p.cells, .one (.lst (names.map fun k => [.str k])), .one (.lst (by'.map Pred.cells))] (.agg (subAll names by' p).cells) := by
 induction p using Pred.ind with
 | h o s n ks ih =>
 have hk : Small ks.length := hp.top
 unfold Small at hk
 have hfind := zKX Z names s
 have hcp := fun q hq => zZj Z q hq
 refine Z.zyX _ _ ⟨bl rfl, ?_⟩
 generalize hR : subAll names by' (.mk o s n ks) = R
 rw [zk9] at hR
 generalize findIx s 0 names = ix at *
 rw [Pred.zzd (.mk o s n ks)] at *
 have hrs : zw9.rs = [.c 6 true 4] := rfl
 have tail : ∀ (st : St), (o == 3 && (decide (ix ≥ 0) && decide (ix < by'.length))) = false → getS st.slots 3 = .ptr 3 0 → getS st.slots 6 = .ptr 6 0 → getS st.slots 1 = .d (.lst (names.map fun k => [.str k])) → getS st.slots 2 = .d (.lst (by'.map Pred.cells)) → st.mem = [(6, [.d (.int .i64 0), .d (.str []), .d (.int .i64 0), .full []]), (3, [.d (.int .i64 o), .d (.str s), .d (.int .i64 n), .d (.lst (ks.map Pred.cells))])] → st.tk = [] →
   ∀ N, N = awp E (.seq (.reg [(none, .fa 31 0 (.t 3)), (none, .ld 32 false 1 (.t 31)), (none, .fa 33 1 (.t 3)), (none, .ld 34 false 1 (.t 33)), (none, .fa 35 2 (.t 3)), (none, .ld 36 false 1 (.t 35)), (none, .build 37 [.d (.int .i64 0), .d (.str []), .d (.int .i64 0), .full []] [(0, 1, .t 32), (1, 1, .t 34), (2, 1, .t 36)]), (none, .alloc 8 [.d (.int .i64 0), .d (.str []), .d (.int .i64 0), .full []]), (none, .st 4 (.t 8) (.t 37))]) (.seq (.seq (.reg [(none, .fa 38 3 (.t 3)), (none, .ld 39 false 1 (.t 38)), (none, .len 40 false (.t 39)), (none, .mv 41 (.c (.d (.int .i64 0))))]) (.block 0 (.loop zyT))) (.seq (.reg [(none, .ld 55 true 4 (.t 8)), (none, .st 4 (.t 6) (.t 55))]) (.ret)))) (retK zw9.rs (.agg (Pred.cells R))) → N st := by
  intro st hc e3 e6 e1 e2 em et N hN
  rw [hc] at hR
  obtain ⟨sl, mm, tk⟩ := st
  simp only at e3 e6 e1 e2 em et
  subst em; subst et
  rw [hN]
  simp only [go_sem, e3, e6, e1, e2]
  intro hlen
  refine zzn fun K' hK => ?_
  refine zzf ks (fun _ => True) (fun done rest => ⟨[(41, .d (.int .i64 done.length)), (40, .d (.int .i64 ks.length)), (39, .d (.lst (ks.map Pred.cells))), (8, .ptr 8 0), (1, .d (.lst (names.map fun k => [.str k]))), (2, .d (.lst (by'.map Pred.cells))), (3, .ptr 3 0), (6, .ptr 6 0)], [(8, [.d (.int .i64 o), .d (.str s), .d (.int .i64 n), .own 8 4 ((done.map (subAll names by')).map Pred.cells)]), (6, [.d (.int .i64 0), .d (.str []), .d (.int .i64 0), .full []]), (3, [.d (.int .i64 o), .d (.str s), .d (.int .i64 n), .d (.lst (ks.map Pred.cells))])], [(8, true)]⟩) ?_ trivial ?_ ?_
  ·exact zkx 8 3 8 4 _ [] [(8, 8)] rfl rfl (by simp) rfl (by simp only [Ent0, go_sem, cN, oS, e3, e6, e1, e2])
  ·intro done k r hl _
   have hk' := ih k (by rw [hl]; simp) (hp.kid (by rw [hl]; simp))
   have hlt := zzi hl
   have hw : IntKind.i64.wrap ((done.length : Int) + 1) = ((done.length + 1 : Nat) : Int) := zze (by omega)
   have ha1 : (done.length + 1) * 56 ≤ 2 ^ 46 := by omega
   simp only [zyT, go_sem, hlt, zzA hl]
   refine zzb hk' ?_
   simp only [go_sem, hw, lA, lM, mA, Pred.zzB]
   refine ⟨⟨by simp [Pred.zzu], ha1, by omega⟩, zzo [(8, 52)] ?_⟩
   simp only [go_sem, cN, oS]
  ·intro _
   simp only [zyT, go_sem, hK, Pred.op, Pred.name, Pred.n, Pred.kids] at hR ⊢
   rw [← hR]
   simp only [go_sem, hrs, Pred.zzd (.mk o s n (ks.map (subAll names by'))), Pred.op, Pred.name, Pred.n, Pred.kids]
 refine zw3 fun N0 h0 => ?_
 simp only [go_sem, Pred.op, Pred.name, Pred.n, Pred.kids]
 rw [h0]
 refine zw3 fun N1 h1 => ?_
 cases c3 : (o == 3) with
 | false =>
  simp only [go_sem, c3]
  exact tail _ (by rw [c3]; rfl) rfl rfl rfl rfl rfl rfl N1 h1
 | true =>
  simp only [go_sem, c3]
  refine zzb hfind ?_
  simp only [go_sem]
  intro _
  cases c4 : (decide (ix ≥ 0) && decide (ix < by'.length)) with
  | false =>
   simp only [go_sem]
   exact tail _ (by rw [c3, c4]; rfl) rfl rfl rfl rfl rfl rfl N1 h1
  | true =>
   simp only [c3, c4, go_sem] at hR ⊢
   simp only [Bool.and_eq_true, decide_eq_true_eq] at c4
   have hlt : ix.toNat < by'.length := by omega
   have hge : (0 ≤ ix) = True := eq_true (by omega)
   have hlt' : (ix < (by'.length : Int)) = True := eq_true c4.2
   have hq := hcp R (by
    rw [← hR, List.getD_eq_getElem?_getD, List.getElem?_eq_getElem hlt]
    exact hb _ (List.getElem_mem hlt))
   simp only [hge, hlt', zWg _ _ hlt, go_sem, hR]
   refine zzb hq ?_
   simp only [go_sem, hrs]
end Go.Abs
end
section
namespace Go.Abs
namespace Pred
end Pred
theorem zVx {v : SEnv} {o : Int} {s : Str} {n : Int} {ks : List Pred} (h : (ofS v (.mk o s n ks)).2 = 0) : (∀ k ∈ ks, (ofS v k).2 = 0) ∧ ofS v (.mk o s n ks) = nodeS v o s (ks.map fun k => (ofS v k).1) := by
 rw [yzd] at h ⊢
 by_cases he : (ofS.errs v ks != 0) = true
 ·rw [if_pos he] at h
  simp at he
  exact absurd h he
 ·rw [if_neg he] at h ⊢
  exact ⟨yy1 (by simpa using he), rfl⟩
theorem zWt {v : SEnv} {o : Int} {s : Str} {n : Int} {ks : List Pred} (h : ∀ k ∈ ks, (ofS v k).2 = 0) : ofS v (.mk o s n ks) = nodeS v o s (ks.map fun k => (ofS v k).1) := by
 rw [yzd, zKP h]; rfl
theorem yvP {v : SEnv} {p : Pred} (h : (OfS v p).2 = 0) : p.checkE = 0 ∧ (ofS v p).2 = 0 ∧ OfS v p = ofS v p := by
 unfold OfS at h ⊢
 by_cases hc : (p.checkE != 0) = true
 ·rw [if_pos hc] at h; simp at hc; exact absurd h hc
 ·rw [if_neg hc] at h ⊢; exact ⟨by simpa using hc, h, rfl⟩
theorem yyl {v : SEnv} {p : Pred} (h : p.checkE = 0) : OfS v p = ofS v p := by
 unfold OfS; rw [h]; rfl
end Go.Abs
end
section
namespace Go.Abs
theorem zJ1 {o : Int} {s : Str} {n : Int} {ks : List Pred} {q : Pred} : q ∈ Pred.pre (.mk o s n ks) ↔ q = .mk o s n ks ∨ ∃ k ∈ ks, q ∈ k.pre := by
 rw [Pred.zZ2, List.mem_cons]
 refine or_congr Iff.rfl ?_
 induction ks with
 | nil => simp [Pred.pre.pres]
 | cons k ks ih => rw [Pred.pre.pres, List.mem_append, ih]; simp
def hasP (l : List Pred) (p : Pred) : Bool := l.any fun y => p.same y
theorem zqF {l : List Pred} {p : Pred} : hasP l p = true ↔ p ∈ l := by
 unfold hasP
 rw [List.any_eq_true]
 exact ⟨fun ⟨y, hy, h⟩ => (Pred.zjE _ _).1 h ▸ hy, fun h => ⟨p, h, Pred.zqr p⟩⟩
theorem zjd (a b : Pred) : a.same b = b.same a := by
 rw [Bool.eq_iff_iff, Pred.zjE, Pred.zjE]; exact eq_comm
theorem zKS {done r l : List Pred} {k p : Pred} (hl : l = done ++ k :: r) (h : ∀ y ∈ done, p.same y = false) : hasP l p = if p.same k then true else hasP r p := by
 subst hl
 unfold hasP
 rw [List.any_append, List.any_cons]
 have : done.any (fun y => p.same y) = false := by
  rw [List.any_eq_false]; intro y hy; rw [h y hy]; simp
 rw [this, Bool.false_or]
 cases p.same k <;> rfl
theorem zWh {l : List Pred} {p : Pred} (h : ∀ y ∈ l, p.same y = false) : hasP l p = false := by
 unfold hasP; rw [List.any_eq_false]; intro y hy; rw [h y hy]; simp
def innerP (t : Int) : Pred → List Pred → List Pred
 | .mk o s n ks, l => if o == t && !hasP (inners ks l) (.mk o s n ks) then inners ks l ++ [.mk o s n ks] else inners ks l
where
 inners : List Pred → List Pred → List Pred
 | [], l => l
 | k :: ks, l => inners ks (innerP t k l)
theorem zJX (t : Int) (ks l : List Pred) : innerP.inners t ks l = ks.foldl (fun l k => innerP t k l) l := by
 induction ks generalizing l with
 | nil => rw [innerP.inners]; rfl
 | cons k ks ih => rw [innerP.inners, ih]; rfl
theorem zWj (t o : Int) (s : Str) (n : Int) (ks l : List Pred) : innerP t (.mk o s n ks) l =
  if o == t && !hasP (ks.foldl (fun l k => innerP t k l) l) (.mk o s n ks) then ks.foldl (fun l k => innerP t k l) l ++ [.mk o s n ks] else ks.foldl (fun l k => innerP t k l) l := by
 rw [innerP, zJX]
theorem zvG (t : Int) : ∀ (ks l : List Pred), (∀ k ∈ ks, ∀ l, (innerP t k l).length ≤ l.length + k.cnt) → (ks.foldl (fun l k => innerP t k l) l).length ≤ l.length + Pred.cnts ks
 | [], l, _ => by simp
 | k :: ks, l, h => by
  rw [List.foldl_cons, Pred.cnts]
  have h1 := zvG t ks (innerP t k l) fun y hy => h y (by simp [hy])
  have h2 := h k (by simp) l
  omega
theorem zKl (t : Int) (p : Pred) : ∀ l, (innerP t p l).length ≤ l.length + p.cnt := by
 induction p using Pred.ind with
 | h o s n ks ih =>
 intro l
 have h := zvG t ks l ih
 rw [zWj, Pred.cnt]
 split
 ·rw [lA, List.length_singleton]; omega
 ·omega
def splitP : Pred → List Pred
 | .mk o s n [a, b] => if o == 15 then splitP a ++ splitP b else if voidP (.mk o s n [a, b]) then [] else [.mk o s n [a, b]]
 | p => if voidP p then [] else [p]
theorem zjh (s : Str) (n : Int) (a b : Pred) : splitP (.mk 15 s n [a, b]) = splitP a ++ splitP b := by rw [splitP]; rfl
theorem zk8 {o : Int} {s : Str} {n : Int} {ks : List Pred} (h : (o == 15 && (ks.length : Int) == 2) = false) : splitP (.mk o s n ks) = if voidP (.mk o s n ks) then [] else [.mk o s n ks] := by
 match ks with
 | [] => rw [splitP]; intro _ _ _ _ _ h; cases h
 | [a] => rw [splitP]; intro _ _ _ _ _ h; cases h
 | [a, b] =>
  have ho : (o == 15) = false := by
   have e : (((([a, b] : List Pred).length : Nat) : Int) == 2) = true := rfl
   rw [e, Bool.and_true] at h; exact h
  rw [splitP, ho]; rfl
 | a :: b :: c :: r => rw [splitP]; intro _ _ _ _ _ h; cases h
end Go.Abs
end
section
namespace Go.Abs
structure SSol where
 name : Str
 pred : Pred
def SSol.cells (v : SSol) : List D := .str v.name :: v.pred.cells
theorem sub_one {x : Str} {b : Pred} {o : Int} {s : Str} {n : Int} {ks : List Pred} : subAll [x] [b] (.mk o s n ks) = if o == 3 && s == x then b else .mk o s n (ks.map (subAll [x] [b])) := by
 rw [zk9]
 have e : (decide (findIx s 0 [x] ≥ 0) && decide (findIx s 0 [x] < (([b] : List Pred).length : Int))) = (s == x) := by
  unfold findIx
  by_cases h : x = s
  ·subst h; simp
  ·simp only [h, if_false, beq_eq_false_iff_ne.2 (fun e : s = x => h e.symm)]
   unfold findIx
   rfl
 rw [e]
 by_cases h : (o == 3 && s == x) = true
 ·rw [if_pos h, if_pos h]
  have hs : s = x := by simp at h; exact h.2
  subst hs
  unfold findIx
  simp
 ·rw [if_neg h, if_neg h]
theorem yxw {l : List Pred} {f : Pred → Pred} (h : ∀ k ∈ l, f k = k) : l.map f = l := by
 induction l with
 | nil => rfl
 | cons k l ih => rw [mC, h k (by simp), ih fun y hy => h y (by simp [hy])]
def Vars : Pred → Prop := AllN fun q => q.op = 3 → q.kids = [] ∧ q.n = 0
theorem sub_self {x : Str} (p : Pred) (h : Vars p) : subAll [x] [.mk 3 x 0 []] p = p := by
 induction p using Pred.ind with
 | h o s n ks ih =>
 rw [sub_one]
 by_cases hc : (o == 3 && s == x) = true
 ·rw [if_pos hc]
  simp at hc
  obtain ⟨rfl, rfl⟩ := hc
  obtain ⟨h1, h2⟩ := h.top rfl
  simp only [Pred.kids, Pred.n] at h1 h2
  rw [h1, h2]
 ·rw [if_neg hc, yxw fun k hk => ih k hk (h.kid hk)]
end Go.Abs
end
section
namespace Go.Abs
theorem zZF (a b : List Pred) : Pred.cnts (a ++ b) = Pred.cnts a + Pred.cnts b := by
 induction a with
 | nil => simp [Pred.cnts]
 | cons x a ih => rw [List.cons_append, Pred.cnts, Pred.cnts, ih]; omega
end Go.Abs
end
section
namespace Go.Abs
variable {E : AEnv} (Z : Sys E)
include Z
theorem yzZ (l : List Pred) (p : Pred) : E.C zYu [.one (.lst (l.map Pred.cells)), .agg p.cells] (.one (.bool (hasP l p))) := by
 have hs := zxm Z
 refine Z.zYu _ _ ⟨bl rfl, ?_⟩
 generalize hR : hasP l p = R
 obtain ⟨o, s, n, ks⟩ := p
 have hs := fun k => hs k (.mk o s n ks)
 rw [Pred.zzd (.mk o s n ks)] at *
 simp only [zKa, go_sem, Pred.op, Pred.name, Pred.n, Pred.kids] at hs ⊢
 intro hlen
 refine zzf l (fun done => ∀ y ∈ done, (Pred.mk o s n ks).same y = false) (fun done rest => ⟨[(9, .d (.int .i64 done.length)), (8, .d (.int .i64 l.length)), (7, .d (.lst (l.map Pred.cells))), (3, .ptr 3 0)], [(3, [.d (.int .i64 o), .d (.str s), .d (.int .i64 n), .d (.lst (ks.map Pred.cells))])], []⟩) ?_ (by simp) ?_ ?_
 ·exact zzc (by simp only [go_sem, oS])
 ·intro done k r hl hI
  have hlt := zzi hl
  have hw : IntKind.i64.wrap ((done.length : Int) + 1) = ((done.length + 1 : Nat) : Int) := zze (by omega)
  rw [zKS hl hI, zjd] at hR
  simp only [zjp, go_sem, hlt, zzA hl, lM, zqC]
  refine zzb (hs k) ?_
  cases c0 : k.same (Pred.mk o s n ks) with
  | true =>
   simp only [c0, go_sem] at hR ⊢
   exact hR
  | false =>
   simp only [go_sem, hw, lA]
   exact ⟨zzc (by simp only [go_sem, oS]), zyb hI (by rw [zjd]; exact c0)⟩
 ·intro hI
  rw [zWh hI] at hR
  simp only [zjp, go_sem, ← hR]
end Go.Abs
end
section
namespace Go.Abs
theorem zwH (p : Pred) : (splitP p).length ≤ p.cnt := by
 induction p using Pred.ind with
 | h o s n ks ih =>
 cases hc : (o == 15 && (ks.length : Int) == 2) with
 | true =>
  obtain ⟨ho, hk⟩ := Bool.and_eq_true_iff.1 hc
  have hk2 : ((ks.length : Nat) : Int) = 2 := by simpa using hk
  obtain ⟨a, b, rfl⟩ := zwx (l := ks) (by omega)
  have ho : o = 15 := by simpa using ho
  subst ho
  rw [zjh, lA]
  have h1 := ih a (by simp)
  have h2 := ih b (by simp)
  simp only [Pred.cnt, Pred.cnts]
  omega
 | false =>
  rw [zk8 hc, Pred.cnt]
  split <;> simp
variable {E : AEnv} (Z : Sys E)
include Z
theorem zWW (t : Int) (p : Pred) : ∀ l : List Pred, l.length + p.cnt ≤ 1073741824 → E.C zxX [.agg p.cells, .one (.int .i64 t), .one (.lst (l.map Pred.cells))] (.own (some 2) 4 ((innerP t p l).map Pred.cells)) := by
 induction p using Pred.ind with
 | h o s n ks ih =>
 intro l hn
 have hhas := fun l => yzZ Z l (.mk o s n ks)
 refine Z.zxX _ _ ⟨bl rfl, ?_⟩
 have hlenK := zvG t
 generalize hR : innerP t (.mk o s n ks) l = R
 rw [zWj] at hR
 rw [Pred.cnt] at hn
 rw [Pred.zzd (.mk o s n ks)] at *
 have hrs : zvy.rs = [.t 6] := rfl
 simp only [zvy, go_sem, Pred.op, Pred.name, Pred.n, Pred.kids] at hhas ⊢
 intro hlen
 refine zzn fun K' hK => ?_
 refine zzf ks (fun _ => True) (fun done rest => ⟨[(12, .d (.int .i64 done.length)), (11, .d (.int .i64 ks.length)), (10, .d (.lst (ks.map Pred.cells))), (1, .d (.int .i64 t)), (2, .own 2 4 ((done.foldl (fun l k => innerP t k l) l).map Pred.cells)), (3, .ptr 3 0)], [(3, [.d (.int .i64 o), .d (.str s), .d (.int .i64 n), .d (.lst (ks.map Pred.cells))])], [(2, true)]⟩) ?_ trivial ?_ ?_
 ·exact zzo [(2, 2)] (by simp only [go_sem, cN, oS, List.foldl_nil])
 ·intro done k r hl _
  have hk' := ih k (by rw [hl]; simp) (done.foldl (fun l k => innerP t k l) l) (by
   have h1 := hlenK done l fun k _ l => zKl t k l
   have h2 : Pred.cnts ks = Pred.cnts done + (k.cnt + Pred.cnts r) := by rw [hl, zZF, Pred.cnts]
   omega)
  have hlt := zzi hl
  have hw : IntKind.i64.wrap ((done.length : Int) + 1) = ((done.length + 1 : Nat) : Int) := zze (by omega)
  simp only [zwr, go_sem, hlt, zzA hl, lM, zqC]
  refine zzb hk' ?_
  simp only [go_sem, hw, lA]
  refine zzo [(2, 19)] ?_
  simp only [go_sem, cN, oS, List.foldl_append, List.foldl_cons, List.foldl_nil]
 ·intro _
  have h1 := hlenK ks l fun k _ l => zKl t k l
  generalize ks.foldl (fun l k => innerP t k l) l = m at *
  simp only [zwr, go_sem, hK]
  cases c0 : (o == t) with
  | false =>
   simp only [c0, go_sem] at hR ⊢
   refine ⟨.one (.bool false), ?_⟩
   simp only [go_sem, hrs, hR]
  | true =>
   simp only [c0, go_sem] at hR ⊢
   refine zzb (hhas m) ?_
   simp only [go_sem]
   cases c1 : hasP m (.mk o s n ks) with
   | true =>
    simp only [c1, go_sem] at hR ⊢
    simp only [hrs, hR, go_sem]
   | false =>
    simp only [c1, go_sem] at hR ⊢
    have ha : (m.length + 1) * 56 ≤ 2 ^ 46 := by omega
    simp only [go_sem, lM, Pred.zzB, ha]
    refine ⟨⟨by simp, by omega⟩, ?_⟩
    rw [← hR]
    simp only [hrs, go_sem, mA, mC, mN, Pred.zzd (.mk o s n ks), Pred.op, Pred.name, Pred.n, Pred.kids]
theorem zV9 (p : Pred) (hn : p.cnt ≤ 1073741824) : E.C zv7 [.agg p.cells] (.one (.lst ((innerP 5 p []).map Pred.cells))) := by
 have h := zWW Z 5 p [] (by simpa using hn)
 refine Z.zv7 _ _ ⟨bl rfl, ?_⟩
 generalize innerP 5 p [] = R at *
 rw [Pred.zzd p] at *
 simp only [zYY, go_sem]
 refine zzb h ?_
 simp only [go_sem, List.not_mem_nil, false_implies, implies_true]
theorem zK2 (p : Pred) (hp : Tame p) (hn : p.cnt ≤ 1073741824) : E.C zx2 [.agg p.cells] (.own none 4 ((splitP p).map Pred.cells)) := by
 induction p using Pred.ind with
 | h o s n ks ih =>
 have hv := zV2 Z (.mk o s n ks)
 have hcp := zZj Z _ hp
 refine Z.zx2 _ _ ⟨bl rfl, ?_⟩
 have hrs : zkl.rs = [.t 2] := rfl
 cases hc : (o == 15 && (ks.length : Int) == 2) with
 | true =>
  obtain ⟨ho, hk⟩ := Bool.and_eq_true_iff.1 hc
  have hk2 : ((ks.length : Nat) : Int) = 2 := by simpa using hk
  obtain ⟨a, b, rfl⟩ := zwx (l := ks) (by omega)
  have ho : o = 15 := by simpa using ho
  subst ho
  have hla := zwH a
  have hlb := zwH b
  simp only [Pred.cnt, Pred.cnts] at hn
  have ha := ih a (by simp) (hp.kid (by simp)) (by omega)
  have hb := ih b (by simp) (hp.kid (by simp)) (by omega)
  have hcl : Pred.cells (.mk 15 s n [a, b]) = [.int .i64 15, .str s, .int .i64 n, .lst [a.cells, b.cells]] := by rw [Pred.zzd]; rfl
  rw [zjh, hcl]
  generalize splitP a = A at *
  generalize splitP b = B at *
  have h4 : (∀ e ∈ [a.cells, b.cells], e.length = 4) = True := eq_true (by simp [Pred.zzu])
  have o1 : (A.length + B.length) * 56 ≤ 2 ^ 46 := by omega
  have o2 : A.length + B.length ≤ 9223372036854775807 := by omega
  simp only [zkl, go_sem, beq_self_eq_true, h4, Int.ofNat_eq_natCast]
  refine zzb ha ?_
  simp only [go_sem, h4]
  refine zzb hb ?_
  simp only [go_sem, h4, lM, Pred.zzB, o1, o2, hrs, mA]
 | false =>
  rw [zk8 hc]
  rw [Pred.zzd (.mk o s n ks)] at *
  simp only [zkl, go_sem, Pred.op, Pred.name, Pred.n, Pred.kids] at hv hcp ⊢
  intro _
  simp only [hc, go_sem]
  refine zzb hv ?_
  cases c1 : voidP (.mk o s n ks) with
  | true =>
   simp only [go_sem, hrs, List.not_mem_nil, false_implies, implies_true]
  | false =>
   simp only [go_sem]
   refine zzb hcp ?_
   simp only [go_sem, hrs, Pred.zzd (.mk o s n ks), Pred.op, Pred.name, Pred.n, Pred.kids]
   simp
theorem zJa (p : Pred) (hn : p.cnt ≤ 1073741824) : E.C zw1 [.agg p.cells] (.one (.lst ((splitP p).map Pred.cells))) := by
 induction p using Pred.ind with
 | h o s n ks ih =>
 have hv := zQd Z (.mk o s n ks)
 refine Z.zw1 _ _ ⟨bl rfl, ?_⟩
 have hrs : zvi.rs = [.t 2] := rfl
 cases hc : (o == 15 && (ks.length : Int) == 2) with
 | true =>
  obtain ⟨ho, hk⟩ := Bool.and_eq_true_iff.1 hc
  have hk2 : ((ks.length : Nat) : Int) = 2 := by simpa using hk
  obtain ⟨a, b, rfl⟩ := zwx (l := ks) (by omega)
  have ho : o = 15 := by simpa using ho
  subst ho
  have hla := zwH a
  have hlb := zwH b
  simp only [Pred.cnt, Pred.cnts] at hn
  have ha := ih a (by simp) (by omega)
  have hb := ih b (by simp) (by omega)
  have hcl : Pred.cells (.mk 15 s n [a, b]) = [.int .i64 15, .str s, .int .i64 n, .lst [a.cells, b.cells]] := by rw [Pred.zzd]; rfl
  rw [zjh, hcl]
  generalize splitP a = A at *
  generalize splitP b = B at *
  have h4 : (∀ e ∈ [a.cells, b.cells], e.length = 4) = True := eq_true (by simp [Pred.zzu])
  have o0 : A.length * 56 ≤ 2 ^ 46 := by omega
  have o1 : (A.length + B.length) * 56 ≤ 2 ^ 46 := by omega
  have o2 : A.length + B.length ≤ 9223372036854775807 := by omega
  have o3 : A.length ≤ 9223372036854775807 := by omega
  simp only [zvi, go_sem, beq_self_eq_true, h4, Int.ofNat_eq_natCast]
  refine zzb ha ?_
  simp only [go_sem, h4, lM, Pred.zzB, o0, o3, List.not_mem_nil, false_implies, implies_true, zA]
  refine zzb hb ?_
  simp only [go_sem, h4, lM, Pred.zzB, o1, o2, hrs, mA]
 | false =>
  rw [zk8 hc]
  rw [Pred.zzd (.mk o s n ks)] at *
  simp only [zvi, go_sem, Pred.op, Pred.name, Pred.n, Pred.kids] at hv ⊢
  intro _
  simp only [hc, go_sem]
  refine zzb hv ?_
  cases c1 : voidP (.mk o s n ks) with
  | true =>
   simp only [go_sem, hrs, mN]
  | false =>
   simp only [go_sem, hrs, Pred.zzd (.mk o s n ks), Pred.op, Pred.name, Pred.n, Pred.kids]
end Go.Abs
end
section
namespace Go.Abs
theorem SSol.lens (l : List SSol) : (∀ e ∈ l.map SSol.cells, e.length = 5) = True := zxO (f := SSol.cells) (fun s => by simp [SSol.cells, Pred.zzu]) l
attribute [go_sem] SSol.lens
variable {E : AEnv} (Z : Sys E)
include Z
end Go.Abs
end
section
namespace Go.Abs
theorem and_false {l done r : List Pred} {k : Pred} (hl : l = done ++ k :: r) (hk : k.same falseP = true) : andP l = falseP := by
 unfold andP
 have : l.any isFalse = true := by
  rw [hl, List.any_append, List.any_cons, yzL, hk]; simp
 rw [if_pos this]
end Go.Abs
end
section
namespace Go.Abs
structure SQual where
 name : Str
 vars : List SVar
 body : Pred
def SQual.cells (q : SQual) : List D := .str q.name :: .lst (q.vars.map SVar.cells) :: q.body.cells
theorem SQual.len (q : SQual) : q.cells.length = 6 := by simp [SQual.cells, Pred.zzu]
def noVar : SVar := ⟨[], []⟩
def pv_q (s : Str) : Pred := .mk 3 s 0 []
theorem zyj (s : Str) : (pv_q s).cells = [.int .i64 3, .str s, .int .i64 0, .lst []] := by rw [Pred.zzd]; rfl
def byOf (ps : List SVar) (l : List Nat) : List Pred := l.map fun k => pv_q (ps.getD k noVar).name
def usedOf (n : Nat) (l : List Nat) : List Bool := (List.range n).map fun k => !(k == 0) && l.contains k
def chI (ps : List SVar) : List SVar → List Nat → List (List Nat)
 | [], l => [l]
 | v :: rem, l => (List.range' 1 (ps.length - 1)).flatMap fun k => if l.contains k || !((ps.getD k noVar).sort == v.sort) then [] else chI ps rem (l ++ [k])
theorem zXH (ps : List SVar) (l : List Nat) (k : Nat) : byOf ps (l ++ [k]) = byOf ps l ++ [pv_q (ps.getD k noVar).name] := by simp [byOf]
theorem zji (n : Nat) (l : List Nat) : (usedOf n l).length = n := by simp [usedOf]
theorem yyc {n k : Nat} (l : List Nat) (h0 : k ≠ 0) (h : k < n) : (usedOf n l)[k]? = some (l.contains k) := by
 have h1 : (k == 0) = false := by simpa using h0
 simp [usedOf, h, h1]
theorem yyd {n k : Nat} {l : List Nat} (h0 : k ≠ 0) : (usedOf n l).set k true = usedOf n (l ++ [k]) := by
 apply List.ext_getElem?
 intro i
 rw [List.getElem?_set]
 simp only [usedOf, lM, List.length_range, List.getElem?_map]
 by_cases hi : i < n
 ·by_cases hk : k = i
  ·subst hk
   have h1 : (k == 0) = false := by simpa using h0
   simp [hi, h1]
  ·have hk' : ¬ i = k := fun e => hk e.symm
   simp [hi, hk, hk']
 ·simp [hi]
  omega
theorem zJu {n k : Nat} {l : List Nat} (h : l.contains k = false) : (usedOf n (l ++ [k])).set k false = usedOf n l := by
 apply List.ext_getElem?
 intro i
 rw [List.getElem?_set]
 simp only [usedOf, lM, List.length_range, List.getElem?_map]
 by_cases hi : i < n
 ·by_cases hk : k = i
  ·subst hk
   simp at h
   simp [hi, h]
  ·have hk' : ¬ i = k := fun e => hk e.symm
   simp [hi, hk, hk']
 ·simp [hi]
  omega
def roomC (es : List Pred) (cap : Nat) : List AV := (es.map Pred.cells).flatten.map AV.d ++ List.replicate (cap * 4 - es.length * 4) .undef
theorem flat4 (es : List Pred) : (es.map Pred.cells).flatten.length = es.length * 4 := by
 induction es with
 | nil => rfl
 | cons e es ih => simp [Pred.zzu, ih, Nat.add_mul, Nat.add_comm]
theorem zJk {es : List Pred} {cap : Nat} (h : es.length ≤ cap) : (roomC es cap).length = cap * 4 := by
 simp only [roomC, lA, lM, flat4, List.length_replicate]; omega
end Go.Abs
end
section
namespace Go.Abs
open Go.RowKit
variable {T : Nat → Option Ty} {P : Program} {G : Nat → Option (List D)} {E : AEnv} {l base : Nat} {xs : List (List CV)} {J : Option (List (List CV)) → World → Safe → (Nat → Prop) → Prop} {o : Option (List (List CV))} {pn : List (Nat × Nat)} {z : World × Safe}
def chCaps (q : SQual) (h : SHole) : List AV := [.d (.ref q.cells), .ptr 1003 0, .ptr 1005 0, .d (.ref h.cells), .ptr 1004 0, .ptr 1006 0]
def chMu (l : Nat) (q : SQual) (h : SHole) (c u : List Nat) (s cap : Nat) : Mem :=
 [(s, roomC (byOf h.params c) cap), (1003, [.d (.yl l)]), (1004, [.vec 1010 1 0 h.params.length h.params.length]), (1010, (usedOf h.params.length u).map fun b => .d (.bool b)), (1005, [.vec s 4 0 c.length cap]), (1006, [.clo zzh (chCaps q h)])]
abbrev chM (l : Nat) (q : SQual) (h : SHole) (c : List Nat) (s cap : Nat) : Mem := chMu l q h c c s cap
def chFx : List Nat := [1003, 1004, 1005, 1006, 1010]
def chY (ps : List SVar) (rows : List (List Nat)) : List (List CV) := rows.map fun r => [.one (.lst ((byOf ps r).map Pred.cells))]
def chPost (l : Nat) (q : SQual) (h : SHole) (c : List Nat) (m1 : Mem) : Prop := ∃ s cap, (s < 1003 ∨ 1010 < s) ∧ c.length ≤ cap ∧ cap ≤ 9223372036854775807 ∧ m1 = chM l q h c s cap
def CloneLaw (E : AEnv) : Prop := ∀ (es : List Pred) (cap : Nat), es.length < 1048576 → es.length ≤ cap → E.C zzl [] (.bx [.vec 1000 4 0 es.length cap] [(1000, roomC es cap)] [] (.one (.lst (es.map Pred.cells))) [(1000, roomC es cap)] [])
theorem zWp (σ τ : TMap) : ∀ (ds : List D), Matches σ τ (ds.map .d) (ds.map .d)
 | [] => trivial
 | _ :: ds => ⟨rfl, zWp σ τ ds⟩
theorem zZv {σ τ : TMap} : ∀ {a b c d : List AV}, Matches σ τ a b → Matches σ τ c d → Matches σ τ (a ++ c) (b ++ d)
 | [], [], _, _, _, h => h
 | _ :: _, _ :: _, _, _, h, h' => ⟨h.1, zZv h.2 h'⟩
 | [], _ :: _, _, _, h, _ => h.elim
 | _ :: _, [], _, _, h, _ => h.elim
theorem zju (σ τ : TMap) : ∀ n, Matches σ τ (List.replicate n .undef) (List.replicate n .undef)
 | 0 => trivial
 | n + 1 => ⟨rfl, zju σ τ n⟩
theorem zY7 (σ τ : TMap) (es : List Pred) (cap : Nat) : Matches σ τ (roomC es cap) (roomC es cap) := zZv (zWp σ τ _) (zju σ τ _)
theorem yz6 (es : List Pred) (cap : Nat) : (roomC es cap).all keep1 = true := by
 simp only [roomC, List.all_append, Bool.and_eq_true, List.all_eq_true]
 refine ⟨fun a ha => ?_, fun a ha => ?_⟩
 ·obtain ⟨d, _, rfl⟩ := List.mem_map.1 ha; rfl
 ·rw [(List.mem_replicate.1 ha).2]; rfl
theorem zKE (es : List Pred) (cap : Nat) : isMp (roomC es cap) = false := by
 have : ∀ cs : List AV, cs.all keep1 = true → isMp cs = true → ∃ k e kvs, cs = [.mp k e kvs] := fun cs _ h => zyi.1 h
 cases h : isMp (roomC es cap) with
 | false => rfl
 | true =>
  obtain ⟨k, e, kvs, h2⟩ := zyi.1 h
  have hm : AV.mp k e kvs ∈ roomC es cap := by rw [h2]; simp
  simp only [roomC, List.mem_append, List.mem_map, List.mem_replicate] at hm
  rcases hm with ⟨_, _, e⟩ | ⟨_, e⟩ <;> cases e
theorem matchMem1 {st : St} {τ σ0 : TMap} {s0 s : Nat} {cs : List AV} (h1 : 1000 ≤ s0) (hm : getM st.mem s = some cs) (hmt : Matches σ0 τ cs cs) (hnm : isMp cs = false) : MatchMem st τ σ0 [(s0, s)] [(s0, cs)] := by
 refine ⟨⟨rfl, h1, ?_⟩, trivial⟩
 simp only [hm]
 split
 ·cases hnm
 ·exact hmt
theorem yxX (σ τ : TMap) (es : List Pred) (cap : Nat) : (roomC es cap).map (AV.ren1 σ τ) = roomC es cap := by
 simp only [roomC, mA, List.map_map, List.map_replicate]
 rfl
theorem ykG {l : Nat} {q : SQual} {h : SHole} {c : List Nat} {m1 : Mem} (hp : chPost l q h c m1) : ∀ s ∈ chFx, ∃ cs, getM m1 s = some cs ∧ isMp cs = false := by
 obtain ⟨s, cap, hs, _, _, rfl⟩ := hp
 have e1 : ∀ k, (1003 ≤ k ∧ k ≤ 1010) → (s = k) = False := fun k hk => eq_false (by omega)
 intro k hk
 simp only [chFx, List.mem_cons, List.not_mem_nil, or_false] at hk
 rcases hk with rfl | rfl | rfl | rfl | rfl <;> simp only [chMu, getM, e1 _ (by omega : 1003 ≤ (1003 : Nat) ∧ (1003 : Nat) ≤ 1010), e1 _ (by omega : 1003 ≤ (1004 : Nat) ∧ (1004 : Nat) ≤ 1010), e1 _ (by omega : 1003 ≤ (1005 : Nat) ∧ (1005 : Nat) ≤ 1010), e1 _ (by omega : 1003 ≤ (1006 : Nat) ∧ (1006 : Nat) ≤ 1010), e1 _ (by omega : 1003 ≤ (1010 : Nat) ∧ (1010 : Nat) ≤ 1010), if_false] <;> refine ⟨_, rfl, ?_⟩
 all_goals try rfl
 cases hu : isMp ((usedOf h.params.length c).map fun b => AV.d (.bool b)) with
 | false => rfl
 | true =>
  obtain ⟨k, e, kvs, h2⟩ := zyi.1 hu
  have hm : AV.mp k e kvs ∈ (usedOf h.params.length c).map fun b => AV.d (.bool b) := by rw [h2]; simp
  obtain ⟨_, _, e⟩ := List.mem_map.1 hm
  cases e
theorem ywy (hY : YB P G l xs base J) (hG : E.G = G) (hC : ∀ f args r, E.C f args r → Ev P G f args r) (hT : ∀ t ty, T t = some ty → chkTy P t ty = true) (hm : P.follows .mixedOrders = true) (hcl : CloneLaw E) {N : Nat} {cd : Code} {q : SQual} {h : SHole} {c : List Nat}
  (htr : tr T N cd = some (.regd [(none, .ld 16 false 1 (.t 2)), (none, .ld 17 false 1 (.t 3)), (none, .call (some 18) (.c (.d (.clo zzl []))) [.t 17]), (none, .call (some 19) (.t 16) [.t 18]), (none, .mv 8 (.t 19))])) (hN : 20 ≤ N)
  {a b : List (List CV)} (hxs : xs = a ++ chY h.params [c] ++ b) {s cap : Nat} (hs100 : (s < 1003 ∨ 1010 < s)) (hcap : c.length ≤ cap) (hsm : c.length < 1048576) {sl : List (Nat × AV)} {tm : Array Value} {w : World} {S : Safe} {ρ : Rho} (h2 : getS sl 2 = .ptr 1003 0) (h3 : getS sl 3 = .ptr 1005 0)
  (hs : YSim P G N pn z base J (some a) ⟨sl, chM l q h c s cap, []⟩ tm w S ρ) {m : Nat} {R : Exit → Act → World → Prop}
  (hR : ∀ (bb : Bool) sl' tm' w' S' ρ', YSim P G N pn z base J (if bb then some (a ++ chY h.params [c]) else none) ⟨sl', chM l q h c s cap, []⟩ tm' w' S' ρ' → getS sl' 8 = .d (.bool bb) → R .normal ⟨tm', []⟩ w') : cd.wpIn (FR none) m P R ⟨tm, []⟩ w := by
 obtain ⟨id, ops, rfl, hops, hok, hdok⟩ := yx8 htr
 obtain ⟨hlen, hget⟩ := zye hops
 have hsz : ops.size = 5 := by simpa using hlen.symm
 have hed := hdok
 simp only [dok, Bool.and_eq_true] at hed
 have e1 : ∀ k, (1003 ≤ k ∧ k ≤ 1010) → (s = k) = False := fun k hk => eq_false (by omega)
 have e3 := e1 1003 (by omega)
 have e5 := e1 1005 (by omega)
 refine wpIn_region_any hm ?_
 have hs0 : YSim P G N pn z base J (some a) ⟨sl, chM l q h c s cap, []⟩ tm w.drew S ρ := by
  obtain ⟨X, Y, g1, g2, g3, g4⟩ := hs
  exact ystep hY g2 g3 (g1.grow ((Below.refl _ _).drew) (fun _ _ hs => hs) (fun _ _ hs => .inl hs) (fun b o hs => g1.live b o hs)) g4
 have hfalse : ∀ i, (Array.replicate ops.size false).getD i false = false := by
  intro i
  simp only [Array.getD_eq_getD_getElem?, Array.getElem?_replicate]
  split <;> rfl
 refine yyu hed.1.1 m R (fun listed act w => act.defers = [] ∧ ∃ sl S ρ, (getS sl 2 = .ptr 1003 0 ∧ getS sl 3 = .ptr 1005 0) ∧
   ((listed.getD 3 false = false ∧ listed.getD 4 false = false ∧ YSim P G N pn z base J (some a) ⟨sl, chM l q h c s cap, []⟩ act.tmps w S ρ ∧ (listed.getD 0 false = true → getS sl 16 = .d (.yl l)) ∧ (listed.getD 1 false = true → getS sl 17 = .vec s 4 0 c.length cap) ∧ (listed.getD 2 false = true → getS sl 18 = .d (.lst ((byOf h.params c).map Pred.cells)))) ∨
    (listed.getD 3 false = true ∧ listed.getD 4 false = false ∧ ∃ bb : Bool, YSim P G N pn z base J (if bb then some (a ++ chY h.params [c]) else none) ⟨sl, chM l q h c s cap, []⟩ act.tmps w S ρ ∧ getS sl 19 = .d (.bool bb)) ∨
    (listed.getD 4 false = true ∧ ∃ bb : Bool, YSim P G N pn z base J (if bb then some (a ++ chY h.params [c]) else none) ⟨sl, chM l q h c s cap, []⟩ act.tmps w S ρ ∧ getS sl 8 = .d (.bool bb)))) ?_ ?_ ops.size _ (by simp) ?_ ?_ ?_
 ·rintro listed ⟨tm, ds⟩ w hsz' hall ⟨hd, sl, S, ρ, _, h4 | h4 | h4⟩
  ·rw [hall 3 (by omega)] at h4; cases h4.1
  ·rw [hall 4 (by omega)] at h4; cases h4.2.1
  ·obtain ⟨_, bb, h5, h6⟩ := h4
   simp only at hd
   subst hd
   exact hR bb _ _ _ _ _ h5 h6
 ·rintro listed ⟨tm, ds⟩ w i hsz' hin hi1 hedg hclo hl' ⟨hd, sl, S, ρ, ⟨k2, k3⟩, hcase⟩ K hK
  simp only at hd
  subst hd
  have hlo : List.length _ = ops.toList.length := hlen
  have hap : ∀ {j i : Nat}, apart (([(none, .ld 16 false 1 (.t 2)), (none, .ld 17 false 1 (.t 3)), (none, .call (some 18) (.c (.d (.clo zzl []))) [.t 17]), (none, .call (some 19) (.t 16) [.t 18]), (none, .mv 8 (.t 19))] : List (Option (Nat × Bool) × I)).getD j default) (([(none, .ld 16 false 1 (.t 2)), (none, .ld 17 false 1 (.t 3)), (none, .call (some 18) (.c (.d (.clo zzl []))) [.t 17]), (none, .call (some 19) (.t 16) [.t 18]), (none, .mv 8 (.t 19))] : List (Option (Nat × Bool) × I)).getD i default) = false → j < i → i < 5 → EdgesIn ops.toList (fun i => listed.getD i false) i → listed.getD j false = true :=
   fun ha hji hi he => ywE hdok hlo hclo he hji (by simp only [Array.length_toList]; omega) ha
  have q43 : listed.getD 4 false = true → listed.getD 3 false = true := fun e => hap (j := 3) (i := 4) rfl (by omega) (by omega) (hclo 4 e)
  have q32 : listed.getD 3 false = true → listed.getD 2 false = true := fun e => hap (j := 2) (i := 3) rfl (by omega) (by omega) (hclo 3 e)
  have q30 : listed.getD 3 false = true → listed.getD 0 false = true := fun e => hap (j := 0) (i := 3) rfl (by omega) (by omega) (hclo 3 e)
  have q21 : listed.getD 2 false = true → listed.getD 1 false = true := fun e => hap (j := 1) (i := 2) rfl (by omega) (by omega) (hclo 2 e)
  have no : ∀ {b : Bool}, b = false → b = true → False := fun e e' => by rw [e] at e'; cases e'
  have hi5 : i = 0 ∨ i = 1 ∨ i = 2 ∨ i = 3 ∨ i = 4 := by omega
  rcases hi5 with rfl | rfl | rfl | rfl | rfl
  ·
   rcases hcase with ⟨g3, g4, hs, g5, g6, g7⟩ | ⟨g3, g4, _⟩ | ⟨g4, _⟩
   ·refine y_op hY hG hC hT hops hok hin hs (K := fun st' => st' = ⟨(16, .d (.yl l)) :: sl, chM l q h c s cap, []⟩) ?_ ?_
    ·simp only [go_sem, List.getD_cons_zero, k2, chMu, e3]
    ·rintro _ tm' w' S' ρ' hs' rfl
     refine hK _ _ ⟨rfl, _, S', ρ', ⟨by simp only [go_sem, k2], by simp only [go_sem, k3]⟩, .inl ⟨by rw [hl']; simp [g3], by rw [hl']; simp [g4], hs', fun _ => by simp only [go_sem], fun e => ?_, fun e => ?_⟩⟩
     ·rw [hl'] at e
      simp only [go_sem]
      exact g6 (by simpa using e)
     ·rw [hl'] at e
      simp only [go_sem]
      exact g7 (by simpa using e)
   ·exact (no hi1 (q30 g3)).elim
   ·exact (no hi1 (q30 (q43 g4))).elim
  ·
   rcases hcase with ⟨g3, g4, hs, g5, g6, g7⟩ | ⟨g3, g4, _⟩ | ⟨g4, _⟩
   ·refine y_op hY hG hC hT hops hok hin hs (K := fun st' => st' = ⟨(17, .vec s 4 0 c.length cap) :: sl, chM l q h c s cap, []⟩) ?_ ?_
    ·simp only [go_sem, List.getD_cons_zero, List.getD_cons_succ, k3, chMu, e5]
    ·rintro _ tm' w' S' ρ' hs' rfl
     refine hK _ _ ⟨rfl, _, S', ρ', ⟨by simp only [go_sem, k2], by simp only [go_sem, k3]⟩, .inl ⟨by rw [hl']; simp [g3], by rw [hl']; simp [g4], hs', fun e => ?_, fun _ => by simp only [go_sem], fun e => ?_⟩⟩
     ·rw [hl'] at e
      simp only [go_sem]
      exact g5 (by simpa using e)
     ·rw [hl'] at e
      simp only [go_sem]
      exact g7 (by simpa using e)
   ·exact (no hi1 (q21 (q32 g3))).elim
   ·exact (no hi1 (q21 (q32 (q43 g4)))).elim
  ·
   rcases hcase with ⟨g3, g4, hs, g5, g6, g7⟩ | ⟨g3, g4, _⟩ | ⟨g4, _⟩
   ·have k17 := g6 (hap (j := 1) (i := 2) rfl (by omega) (by omega) hedg)
    have hb := hcl (byOf h.params c) cap (by simpa [byOf] using hsm) (by simpa [byOf] using hcap)
    have hbl : (byOf h.params c).length = c.length := by simp [byOf]
    rw [hbl] at hb
    refine y_op hY hG hC hT hops hok hin hs (K := fun st' => st' = ⟨(18, .d (.lst ((byOf h.params c).map Pred.cells))) :: sl, (s, roomC (byOf h.params c) cap) :: chM l q h c s cap, []⟩) ?_ ?_
    ·simp only [go_sem, List.getD_cons_zero, List.getD_cons_succ, k17]
     refine zQJ ⟨[(1000, s)], [], [], [.vec 1000 4 0 c.length cap], [(1000, roomC (byOf h.params c) cap)], [(1000, roomC (byOf h.params c) cap)], .one (.lst ((byOf h.params c).map Pred.cells))⟩ hb ?_ ?_ ?_ ?_
     ·rfl
     ·simp only [go_sem, k17]
     ·exact ⟨⟨rfl, trivial⟩, matchMem1 (by omega) (by simp [chMu, getM]) (zY7 _ _ _ _) (zKE _ _), trivial, rfl, rfl, rfl, rfl, rfl, fun p hp => (by rw [List.mem_singleton.1 hp]; exact yz6 _ _), trivial, rfl, rfl⟩
     ·simp only [afterB, renMem, yxX, getTM, if_true, Option.getD_some, newAll, killAll, List.nil_append, List.singleton_append, CV.toAV0, AV.ren0]
    ·rintro _ tm' w' S' ρ' hs' rfl
     have hs'' := hs'.eq (st1 := ⟨(18, .d (.lst ((byOf h.params c).map Pred.cells))) :: sl, chM l q h c s cap, []⟩) ⟨fun _ => rfl, fun k => by
      simp only [chMu, getM]
      split <;> rfl, fun _ => rfl⟩
     refine hK _ _ ⟨rfl, _, S', ρ', ⟨by simp only [go_sem, k2], by simp only [go_sem, k3]⟩, .inl ⟨by rw [hl']; simp [g3], by rw [hl']; simp [g4], hs'', fun e => ?_, fun e => ?_, fun _ => by simp only [go_sem]⟩⟩
     ·rw [hl'] at e
      simp only [go_sem]
      exact g5 (by simpa using e)
     ·rw [hl'] at e
      simp only [go_sem]
      exact g6 (by simpa using e)
   ·exact (no hi1 (q32 g3)).elim
   ·exact (no hi1 (q32 (q43 g4))).elim
  ·
   rcases hcase with ⟨g3, g4, hs, g5, g6, g7⟩ | ⟨g3, g4, _⟩ | ⟨g4, _⟩
   ·have k16 := g5 (hap (j := 0) (i := 3) rfl (by omega) (by omega) hedg)
    have k18 := g7 (hap (j := 2) (i := 3) rfl (by omega) (by omega) hedg)
    obtain ⟨gi, ii, hgii, htg, hti⟩ := hget 3 ops[3] (by simp [hin])
    simp only [List.getElem?_cons_succ, List.getElem?_cons_zero, Option.some.injEq, Prod.mk.injEq] at hgii
    obtain ⟨rfl, rfl⟩ := hgii
    refine zxs (ops := ops) (k := 3) (o := ops[3]) (by simp [hin]) htg (yvF hY (a := a) (b := b) (x := [.one (.lst ((byOf h.params c).map Pred.cells))]) (by rw [hxs]; simp [chY]) hs hti (by omega) ?_ ?_ ?_ ?_ ?_)
    ·simp only [go_sem, k16]
    ·simp only [go_sem, k16]
    ·simp only [go_sem, k18]
    ·simp only [go_sem, k18]
    ·rintro bb W' S2 tm' hs'
     exact hK _ _ ⟨rfl, (19, .d (.bool bb)) :: sl, S2, _, ⟨by simp only [go_sem, k2], by simp only [go_sem, k3]⟩, .inr (.inl ⟨by rw [hl']; simp, by rw [hl']; simp [g4], bb, by simpa [chY, St.put] using hs', by simp only [go_sem]⟩)⟩
   ·exact (no hi1 g3).elim
   ·exact (no hi1 (q43 g4)).elim
  ·
   rcases hcase with ⟨g3, g4, hs, g5, g6, g7⟩ | ⟨g3, g4, bb, hs, g5⟩ | ⟨g4, _⟩
   ·exact (no g3 (hap (j := 3) (i := 4) rfl (by omega) (by omega) hedg)).elim
   ·refine y_op hY hG hC hT hops hok hin hs (K := fun st' => st' = ⟨(8, .d (.bool bb)) :: sl, chM l q h c s cap, []⟩) ?_ ?_
    ·simp only [go_sem, List.getD_cons_zero, List.getD_cons_succ, g5]
    ·rintro _ tm' w' S' ρ' hs' rfl
     exact hK _ _ ⟨rfl, _, S', ρ', ⟨by simp only [go_sem, k2], by simp only [go_sem, k3]⟩, .inr (.inr ⟨by rw [hl']; simp, bb, hs', by simp only [go_sem]⟩)⟩
   ·exact (no hi1 g4).elim
 ·refine Nat.le_trans (List.length_filter_le _ _) (by simp)
 ·intro k hk
  simp only [hfalse] at hk; cases hk
 ·refine ⟨rfl, sl, S, ρ, ⟨h2, h3⟩, .inl ⟨hfalse _, hfalse _, hs0, fun e => ?_, fun e => ?_, fun e => ?_⟩⟩
  all_goals (rw [hfalse] at e; cases e)
end Go.Abs
end
section
namespace Go.Abs
open Go.RowKit
variable {T : Nat → Option Ty} {P : Program} {G : Nat → Option (List D)} {E : AEnv} {l base : Nat} {xs : List (List CV)} {J : Option (List (List CV)) → World → Safe → (Nat → Prop) → Prop} {o : Option (List (List CV))} {pn : List (Nat × Nat)} {z : World × Safe}
def chSl (q : SQual) (h : SHole) (i k : Nat) : List (Nat × AV) := [(9, .d (.int .i64 k)), (0, .d (.int .i64 i)), (1, .d (.ref q.cells)), (2, .ptr 1003 0), (3, .ptr 1005 0), (4, .d (.ref h.cells)), (5, .ptr 1004 0), (6, .ptr 1006 0)]
def chF (ps : List SVar) (v : SVar) (rem : List SVar) (c : List Nat) (k : Nat) : List (List Nat) := if c.contains k || !((ps.getD k noVar).sort == v.sort) then [] else chI ps rem (c ++ [k])
theorem zQM (ps : List SVar) (v : SVar) (rem : List SVar) (c : List Nat) : chI ps (v :: rem) c = (List.range' 1 (ps.length - 1)).flatMap (chF ps v rem c) := rfl
theorem zQL (ps : List SVar) (v : SVar) (rem : List SVar) (c : List Nat) {k : Nat} (hk : 1 ≤ k) : (List.range' 1 k).flatMap (chF ps v rem c) = (List.range' 1 (k - 1)).flatMap (chF ps v rem c) ++ chF ps v rem c k := by
 have : List.range' 1 k = List.range' 1 (k - 1) ++ [k] := by
  have := List.range'_concat (s := 1) (n := k - 1) (step := 1)
  rw [show k - 1 + 1 = k by omega] at this
  rw [this]; congr 2; omega
 rw [this, List.flatMap_append]; simp
theorem zJN (ps : List SVar) (a b : List (List Nat)) : chY ps (a ++ b) = chY ps a ++ chY ps b := by simp [chY]
theorem zYn {ps : List SVar} {k : Nat} (h : k < ps.length) : (ps.map SVar.cells).getD k [] = (ps.getD k noVar).cells := by simp [List.getD_eq_getElem?_getD, h]
theorem yregE (hY : YB P G l xs base J) (hG : E.G = G) (hC : ∀ f args r, E.C f args r → Ev P G f args r) (hT : ∀ t ty, T t = some ty → chkTy P t ty = true) (hm : P.follows .mixedOrders = true) {N : Nat} {cd : Code} {ac : AC} (htr : tr T N cd = some ac) (hcd : ∃ id ops draw, cd = .region id ops draw)
  {st : St} {tm : Array Value} {w : World} {S : Safe} {ρ : Rho} (h : YSim P G N pn z base J o st tm w S ρ) {m : Nat} {R : Exit → Act → World → Prop} (st1 : St → Prop) (hq : awp E ac (fun x s => x = .normal ∧ ∃ s1, Ent s s1 ∧ st1 s1) st) (hR : ∀ s1 tm' w' S' ρ', YSim P G N pn z base J o s1 tm' w' S' ρ' → st1 s1 → R .normal ⟨tm', []⟩ w') : cd.wpIn (FR none) m P R ⟨tm, []⟩ w := by
 obtain ⟨id, ops, draw, hcd⟩ := hcd
 refine yreg hY hG hC hT hm htr hcd h hq ?_
 rintro st' tm' w' S' ρ' hs ⟨s1, he, h1⟩
 obtain ⟨ρ1, hs1⟩ := hs.ent he
 exact hR _ _ _ _ _ hs1 h1
theorem yzB (m1 : Mem) (mp : TMap) (es : List Pred) (cap : Nat) : EntCs m1 mp (roomC es cap) (roomC es cap) = True := by
 refine eq_true (zxK (zZo m1 mp _) ?_)
 generalize cap * 4 - es.length * 4 = n
 have := zjm m1 mp (cs := List.replicate n AV.undef) (fun a ha => by rw [(List.mem_replicate.1 ha).2]; rfl)
 rwa [List.length_replicate] at this
theorem yzC (m1 : Mem) (mp : TMap) (us : List Bool) : EntCs m1 mp (us.map fun b => .d (.bool b)) (us.map fun b => .d (.bool b)) = True := by
 refine eq_true ?_
 have := zZo m1 mp (us.map D.bool)
 rwa [List.map_map] at this
attribute [go_sem] yzB yzC
theorem zK8 {es : List Pred} {cap : Nat} : ∀ a ∈ roomC es cap, a.isMp = false := by
 intro a ha
 simp only [roomC, List.mem_append, List.mem_map, List.mem_replicate] at ha
 rcases ha with ⟨d, _, rfl⟩ | ⟨_, rfl⟩ <;> rfl
theorem yz7 (es : List Pred) (cap : Nat) : (roomC es cap).take (es.length * 4) = (es.map Pred.cells).flatten.map AV.d := by
 rw [roomC, List.take_append_of_le_length (by rw [lM, flat4]; exact Nat.le_refl _)]
 exact List.take_of_length_le (by rw [lM, flat4]; exact Nat.le_refl _)
theorem zYA {es : List Pred} {A1 : List AV} {cap : Nat} (hA : A1.take (es.length * 4) = (es.map Pred.cells).flatten.map AV.d) (hlen : A1.length = cap * 4) (hu : ∀ a ∈ A1, a.isMp = false) (hn : es.length + 1 ≤ cap) (s : Str) (m1 : Mem) :
  EntCs m1 [] (A1.take (es.length * 4) ++ [.d (.int .i64 3), .d (.str s), .d (.int .i64 0), .full []] ++ A1.drop (es.length * 4 + 4)) (roomC (es ++ [pv_q s]) cap) = True := by
 refine eq_true ?_
 have e1 : roomC (es ++ [pv_q s]) cap = (es.map Pred.cells).flatten.map AV.d ++ [.d (.int .i64 3), .d (.str s), .d (.int .i64 0), .d (.lst [])] ++ List.replicate (A1.drop (es.length * 4 + 4)).length .undef := by
  simp only [roomC, mA, List.flatten_append, mC, mN, List.flatten_cons, List.flatten_nil, List.append_nil, zyj, lA, List.length_singleton, List.length_drop, hlen]
  congr 2
  omega
 rw [e1, hA]
 exact zxK (zxK (zZo m1 [] _) ⟨rfl, rfl, rfl, rfl, trivial⟩) (zjm m1 [] fun a ha => hu a (List.mem_of_mem_drop ha))
theorem yz8 {es : List Pred} {p : Pred} {cap : Nat} (hn : es.length + 1 ≤ cap) (m1 : Mem) : EntCs m1 [] (roomC (es ++ [p]) cap) (roomC es cap) = True := by
 refine eq_true ?_
 have e1 : roomC (es ++ [p]) cap = (es.map Pred.cells).flatten.map AV.d ++ (p.cells.map AV.d ++ List.replicate (cap * 4 - (es.length + 1) * 4) .undef) := by
  simp [roomC]
 have e2 : roomC es cap = (es.map Pred.cells).flatten.map AV.d ++ List.replicate (p.cells.map AV.d ++ List.replicate (cap * 4 - (es.length + 1) * 4) AV.undef).length .undef := by
  simp only [roomC, lA, lM, Pred.zzu, List.length_replicate]
  congr 2
  omega
 rw [e1, e2]
 refine zxK (zZo m1 [] _) (zjm m1 [] fun a ha => ?_)
 simp only [List.mem_append, List.mem_map, List.mem_replicate] at ha
 rcases ha with ⟨d, _, rfl⟩ | ⟨_, rfl⟩ <;> rfl
theorem yyR (q : SQual) (h : SHole) (i k : Nat) (x1 x2 x3 : AV) (j : Nat) : getS (chSl q h i k) j = .undef ∨ (getS (chSl q h i k) j = getS ((63, x1) :: (62, x2) :: (61, x3) :: chSl q h i k) j ∧ keepY chFx (getS (chSl q h i k) j)) := by
 by_cases h9 : j = 9
 ·subst h9; exact .inr ⟨rfl, trivial⟩
 by_cases h0 : j = 0
 ·subst h0; exact .inr ⟨rfl, trivial⟩
 by_cases h1 : j = 1
 ·subst h1; exact .inr ⟨rfl, trivial⟩
 by_cases h2 : j = 2
 ·subst h2; exact .inr ⟨rfl, by show (1003 : Nat) ∈ chFx; simp [chFx]⟩
 by_cases h3 : j = 3
 ·subst h3; exact .inr ⟨rfl, by show (1005 : Nat) ∈ chFx; simp [chFx]⟩
 by_cases h4 : j = 4
 ·subst h4; exact .inr ⟨rfl, trivial⟩
 by_cases h5 : j = 5
 ·subst h5; exact .inr ⟨rfl, by show (1004 : Nat) ∈ chFx; simp [chFx]⟩
 by_cases h6 : j = 6
 ·subst h6; exact .inr ⟨rfl, by show (1006 : Nat) ∈ chFx; simp [chFx]⟩
 left
 simp only [chSl, getS, if_neg (Ne.symm h9), if_neg (Ne.symm h0), if_neg (Ne.symm h1), if_neg (Ne.symm h2), if_neg (Ne.symm h3), if_neg (Ne.symm h4), if_neg (Ne.symm h5), if_neg (Ne.symm h6)]
theorem yzx {α : Type} {l : List α} {k : Nat} {x : α} (h : l[k]? = some x) : (l.drop k).take 1 = [x] := by
 obtain ⟨hk, hx⟩ := List.getElem?_eq_some_iff.1 h
 rw [List.drop_eq_getElem_cons hk, hx]; rfl
theorem yk7 (hY : YB P G l xs base J) (hG : E.G = G) (hC : ∀ f args r, E.C f args r → Ev P G f args r) (hT : ∀ t ty, T t = some ty → chkTy P t ty = true) (hm : P.follows .mixedOrders = true) {fn : Func} (hN : fn.ntmps = 75) {q : SQual} {h : SHole} {c : List Nat} {v : SVar} {rem : List SVar} (hv : q.vars[c.length]? = some v) (hsm : q.vars.length < 1048576) (hpl : h.params.length ≤ 1048576) (hpn : ∀ p ∈ pn, 1000 ≤ p.1) (hfx : ∀ s ∈ chFx, ∃ b, (s, b) ∈ pn)
  (ih : ∀ k s cap, (s < 1003 ∨ 1010 < s) → c.length + 1 ≤ cap → cap ≤ 9223372036854775807 → EvYB P G xs base J zzh (.d (.int .i64 ((c.length + 1 : Nat) : Int)) :: chCaps q h) (chM l q h (c ++ [k]) s cap) chFx (chY h.params (chI h.params rem (c ++ [k]))) (chPost l q h (c ++ [k])))
  {body : Code} (hbody : tr T fn.ntmps body = some zyn) {a b : List (List CV)} (hxs : xs = a ++ chY h.params (chI h.params (v :: rem) c) ++ b) {R : Exit → Act → World → Prop}
  (hstop : ∀ sl m1 tm w S ρ, YSim P G fn.ntmps pn z base J none ⟨sl, m1, []⟩ tm w S ρ → getS sl 8 = .d (.bool false) → chPost l q h c m1 → R .ret ⟨tm, []⟩ w)
  (hexit : ∀ sl m1 tm w S ρ, YSim P G fn.ntmps pn z base J (some (a ++ chY h.params (chI h.params (v :: rem) c))) ⟨sl, m1, []⟩ tm w S ρ → chPost l q h c m1 → R (.exit 0) ⟨tm, []⟩ w) :
  ∀ (m k : Nat), k + m = h.params.length → 1 ≤ k → ∀ (s cap : Nat) (tm : Array Value) (w : World) (S : Safe) (ρ : Rho), (s < 1003 ∨ 1010 < s) → c.length ≤ cap → cap ≤ 9223372036854775807 →
   YSim P G fn.ntmps pn z base J (some (a ++ chY h.params ((List.range' 1 (k - 1)).flatMap (chF h.params v rem c)))) ⟨chSl q h c.length k, chM l q h c s cap, []⟩ tm w S ρ → Inside (FR none) 0 P body R ⟨tm, []⟩ w := by
 unfold zyn at hbody
 obtain ⟨z0, z1, hbd, k0, k1⟩ := zzV hbody
 have hbw : ∀ (Q : Exit → Act → World → Prop) (a : Act) (w : World), (Code.seq z0 z1).wpIn (FR none) 0 P Q a w → body.wpIn (FR none) 0 P Q a w := by rw [hbd]; exact fun _ _ _ h => h
 clear hbody hbd
 obtain ⟨z2, z3, rfl, k2, k3⟩ := zzV k0
 obtain ⟨zg, zy, zz, rfl, kg, ky, kz⟩ := zqv k3
 obtain rfl := zZz ky
 obtain rfl := zQy kz
 obtain ⟨z4, z5, rfl, k4, k5⟩ := zzV k1
 obtain ⟨z6, rfl, k6⟩ := zXC k4
 obtain ⟨z7, z8, rfl, k7, k8⟩ := zzV k6
 obtain ⟨z9, z10, rfl, k9, k10⟩ := zzV k7
 obtain ⟨ug, uy, uz, rfl, uk, uky, ukz⟩ := zqv k10
 obtain rfl := zQy uky
 obtain rfl := zZz ukz
 obtain ⟨z11, z12, rfl, k11, k12⟩ := zzV k8
 obtain ⟨z13, z14, rfl, k13, k14⟩ := zzV k12
 obtain ⟨z15, z16, rfl, k15, k16⟩ := zzV k14
 obtain ⟨z17, z18, rfl, k17, k18⟩ := zzV k16
 obtain ⟨z19, z20, rfl, k19, k20⟩ := zzV k18
 obtain ⟨z21, z22, rfl, k21, k22⟩ := zzV k20
 obtain ⟨vg, vy, vz, rfl, vk, vky, vkz⟩ := zqv k22
 obtain rfl := zZz vkz
 obtain ⟨y0, y1, rfl, j0, j1⟩ := zzV vky
 obtain rfl := zJt j1
 have hqv : c.length < q.vars.length := (List.getElem?_eq_some_iff.1 hv).1
 intro m
 induction m with
 | zero =>
  intro k hk hk1 s cap tm w S ρ hs100 hcap hcap2 hs
  have e1 : ∀ j, (1003 ≤ j ∧ j ≤ 1010) → (s = j) = False := fun j hj => eq_false (by omega)
  have e3 := e1 1003 (by omega)
  have e4 := e1 1004 (by omega)
  have e5 := e1 1005 (by omega)
  have e6 := e1 1006 (by omega)
  have e10 := e1 1010 (by omega)
  have hkn : decide ((k : Int) < h.params.length) = false := by simp; omega
  refine zwT (hbw _ _ _ (wpIn_seq (wpIn_seq (yregE hY hG hC hT hm k2 (zy5 k2) hs (fun z => z = ⟨[(24, .d (.bool false))], chM l q h c s cap, []⟩) ?_ ?_))))
  ·simp only [go_sem, chSl, chMu, chCaps, SHole.cells, e3, e4, e5, e6, e10, lM]
   intro hlen
   refine ⟨_, zzc ?_, rfl⟩
   simp only [go_sem, e3, e4, e5, e6, e10, hkn, oS, Bool.and_self]
  ·rintro _ tm' w' S' ρ' hs' rfl
   refine ycond kg hs' (b := false) rfl rfl (fun e => by cases e) (fun _ => wpIn_exit ?_)
   refine hexit [(24, .d (.bool false))] _ tm' w' S' ρ' ?_ ⟨s, cap, hs100, hcap, hcap2, rfl⟩
   rw [zQM, show h.params.length - 1 = k - 1 by omega]
   exact hs'
 | succ m ihm =>
  intro k hk hk1 s cap tm w S ρ hs100 hcap hcap2 hs
  have e1 : ∀ j, (1003 ≤ j ∧ j ≤ 1010) → (s = j) = False := fun j hj => eq_false (by omega)
  have e3 := e1 1003 (by omega)
  have e4 := e1 1004 (by omega)
  have e5 := e1 1005 (by omega)
  have e6 := e1 1006 (by omega)
  have e10 := e1 1010 (by omega)
  have f5 : (1005 = s) = False := eq_false (by omega)
  have f10 : (1010 = s) = False := eq_false (by omega)
  have hkn' : k < h.params.length := by omega
  have hkn : decide ((k : Int) < h.params.length) = true := by simp; omega
  have hkn2 : ((k : Int) < (h.params.length : Int)) = True := eq_true (by omega)
  have hk0 : (0 ≤ (k : Int)) = True := eq_true (by omega)
  refine zwT (hbw _ _ _ (wpIn_seq (wpIn_seq (yregE hY hG hC hT hm k2 (zy5 k2) hs (fun z => z = ⟨(24, .d (.bool true)) :: chSl q h c.length k, chM l q h c s cap, []⟩) ?_ ?_))))
  ·simp only [go_sem, chSl, chMu, chCaps, SHole.cells, e3, e4, e5, e6, e10, lM]
   intro hlen
   refine ⟨_, zzc ?_, rfl⟩
   simp only [go_sem, e3, e4, e5, e6, e10, hkn, oS, Bool.and_self]
  rintro _ tm1 w1 S1 ρ1 hs1 rfl
  refine ycond kg hs1 (b := true) rfl rfl (fun _ => wpIn_skip ?_) (fun e => by cases e)
  have next : ∀ (x : List (List Nat)) (hx : chF h.params v rem c k = x) (n : Nat) (y : AV) (hn : n > 9) (s cap : Nat) (tm : Array Value) (w : World) (S : Safe) (ρ : Rho), (s < 1003 ∨ 1010 < s) → c.length ≤ cap → cap ≤ 9223372036854775807 →
    YSim P G fn.ntmps pn z base J (some (a ++ chY h.params ((List.range' 1 (k - 1)).flatMap (chF h.params v rem c)) ++ chY h.params x)) ⟨(n, y) :: chSl q h c.length k, chM l q h c s cap, []⟩ tm w S ρ → z5.wpIn (FR none) 0 P (Exit.then (Inside (FR none) 0 P body R) R) ⟨tm, []⟩ w := by
   intro x hx n y hn s cap tm w S ρ hs100 hcap hcap2 hs
   have e1 : ∀ j, (1003 ≤ j ∧ j ≤ 1010) → (s = j) = False := fun j hj => eq_false (by omega)
   have e3 := e1 1003 (by omega)
   have e4 := e1 1004 (by omega)
   have e5 := e1 1005 (by omega)
   have e6 := e1 1006 (by omega)
   have e10 := e1 1010 (by omega)
   have n0 : (n = 0) = False := eq_false (by omega)
   have n1 : (n = 1) = False := eq_false (by omega)
   have n2 : (n = 2) = False := eq_false (by omega)
   have n3 : (n = 3) = False := eq_false (by omega)
   have n4 : (n = 4) = False := eq_false (by omega)
   have n5 : (n = 5) = False := eq_false (by omega)
   have n6 : (n = 6) = False := eq_false (by omega)
   have n9 : (n = 9) = False := eq_false (by omega)
   have hw : IntKind.i64.wrap ((k : Int) + 1) = ((k + 1 : Nat) : Int) := zze (by omega)
   refine yregE hY hG hC hT hm k5 (zy5 k5) hs (fun z => z = ⟨chSl q h c.length (k + 1), chM l q h c s cap, []⟩) ?_ ?_
   ·simp only [go_sem, chSl, chMu, chCaps, n9, hw]
    refine ⟨_, zzc ?_, rfl⟩
    simp only [go_sem, e3, e4, e5, e6, e10, n0, n1, n2, n3, n4, n5, n6, n9, oS, Bool.and_self]
   ·rintro _ tm' w' S' ρ' hs' rfl
    refine ihm (k + 1) (by omega) (by omega) s cap tm' w' S' ρ' hs100 hcap hcap2 ?_
    rw [Nat.add_sub_cancel, zQL _ _ _ _ hk1, hx, zJN, ← List.append_assoc]
    exact hs'
  refine wpIn_seq (wpIn_block (wpIn_seq (wpIn_seq (yregE hY hG hC hT hm k9 (ykw k9) hs1 (fun z => z = ⟨(45, .d (.bool (c.contains k || !((h.params.getD k noVar).sort == v.sort)))) :: chSl q h c.length k, chM l q h c s cap, []⟩) ?_ ?_))))
  ·have hu : ((((usedOf h.params.length c).map fun b => AV.d (.bool b)).drop k).take 1) = [.d (.bool (c.contains k))] := yzx (by rw [List.getElem?_map, yyc c (by omega) hkn']; rfl)
   have hul : (k + 1 ≤ (usedOf h.params.length c).length) = True := eq_true (by rw [zji]; omega)
   have hvx : (q.vars.map SVar.cells).getD c.length [] = v.cells := by simp [List.getD_eq_getElem?_getD, hv]
   have hvl : ((c.length : Int) < (q.vars.length : Int)) = True := eq_true (by omega)
   have hv0 : (0 ≤ (c.length : Int)) = True := eq_true (by omega)
   simp only [go_sem, chSl, chMu, chCaps, SHole.cells, SQual.cells, e3, e4, e5, e6, e10, lM, hk0, hkn2, hu, hul, zA, Nat.mul_one, zYn hkn', hvx, hvl, hv0, SVar.cells]
   refine ⟨_, zzc ?_, rfl⟩
   simp only [go_sem, e3, e4, e5, e6, e10, oS, Bool.and_self]
  rintro _ tm2 w2 S2 ρ2 hs2 rfl
  cases hcd : (c.contains k || !((h.params.getD k noVar).sort == v.sort)) with
  | true =>
   refine ycond uk hs2 (b := true) (by simp only [go_sem, hcd]) rfl (fun _ => wpIn_exit ?_) (fun e => by cases e)
   refine next [] (by unfold chF; rw [if_pos hcd]) 45 (.d (.bool (c.contains k || !((h.params.getD k noVar).sort == v.sort)))) (by omega) s cap tm2 w2 S2 ρ2 hs100 hcap hcap2 ?_
   simpa [chY] using hs2
  | false =>
  refine ycond uk hs2 (b := false) (by simp only [go_sem, hcd]) rfl (fun e => by cases e) (fun _ => wpIn_skip ?_)
  have hnk : c.contains k = false := by
   simp only [Bool.or_eq_false_iff] at hcd; exact hcd.1
  refine wpIn_seq (yregE hY hG hC hT hm k11 (zy5 k11) hs2 (fun z => z = ⟨chSl q h c.length k, chMu l q h c (c ++ [k]) s cap, []⟩) ?_ ?_)
  ·have hul : (k + 1 ≤ (usedOf h.params.length c).length) = True := eq_true (by rw [zji]; omega)
   have hset : List.take k ((usedOf h.params.length c).map fun b => AV.d (.bool b)) ++ [AV.d (.bool true)] ++ List.drop (k + 1) ((usedOf h.params.length c).map fun b => AV.d (.bool b)) = (usedOf h.params.length (c ++ [k])).map fun b => .d (.bool b) := by
    rw [← yyd (by omega : k ≠ 0), List.map_set, List.set_eq_take_append_cons_drop, if_pos (by rw [lM, zji]; exact hkn')]
    simp
   simp only [go_sem, chSl, chMu, chCaps, e3, e4, e5, e6, e10, lM, hk0, hkn2, hul, zA, Nat.mul_one, hset]
   refine ⟨_, zzc ?_, rfl⟩
   simp only [go_sem, f5, f10, e3, e4, e5, e6, e10, oS, Bool.and_self]
  rintro _ tm3 w3 S3 ρ3 hs3 rfl
  refine wpIn_seq (yregE hY hG hC hT hm k13 (yvB k13) hs3 (fun z => ∃ s' cap', (s' < 1003 ∨ 1010 < s') ∧ c.length + 1 ≤ cap' ∧ cap' ≤ 9223372036854775807 ∧ z = ⟨chSl q h c.length k, chM l q h (c ++ [k]) s' cap', []⟩) ?_ ?_)
  ·refine (show awp E (.seq _ _) _ _ from zw3 fun N1 h1 => ?_)
   simp only [go_sem, chSl, chMu, chCaps, SHole.cells, e3, e4, e5, e6, e10, lM, hk0, hkn2, zA, zYn hkn', SVar.cells]
   rw [h1]
   refine zw3 fun N2 h2 => ?_
   have hrl : (roomC (byOf h.params c) cap).length = cap * 4 := zJk (by simpa [byOf] using hcap)
   have h4 : c.length + 1 < 1048577 := by omega
   have hbl : (byOf h.params c).length = c.length := by simp [byOf]
   have sn := zXH h.params c k
   have htk := yz7 (byOf h.params c) cap
   rw [hbl] at htk
   obtain ⟨s', hs1', hs2'⟩ : ∃ s', s' ≤ 59 ∧ s' ≠ s := by
    by_cases e : s = 59
    ·exact ⟨58, by omega, by omega⟩
    ·exact ⟨59, by omega, fun h => e h.symm⟩
   have g1 : ∀ j, (1003 ≤ j ∧ j ≤ 1010) → (s' = j) = False := fun j hj => eq_false (by omega)
   have g3 := g1 1003 (by omega)
   have g4 := g1 1004 (by omega)
   have g5 := g1 1005 (by omega)
   have g6 := g1 1006 (by omega)
   have g10 := g1 1010 (by omega)
   have i3 : (1003 = s') = False := eq_false (by omega)
   have i4 : (1004 = s') = False := eq_false (by omega)
   have i5 : (1005 = s') = False := eq_false (by omega)
   have i6 : (1006 = s') = False := eq_false (by omega)
   have i10 : (1010 = s') = False := eq_false (by omega)
   have is' : (s = s') = False := eq_false fun e => hs2' e.symm
   have hw0 : (0 ≤ (c.length : Int)) = True := eq_true (by omega)
   have hw1 : ((c.length : Int) < ((c.length + 1 : Nat) : Int)) = True := eq_true (by omega)
   have hcl : (c ++ [k]).length = c.length + 1 := by simp
   refine ykW (K := N2) (s' := s') (n := c.length) (cap := cap) (cs := roomC (byOf h.params c) cap) rfl rfl (by simp only [go_sem, f10]) rfl rfl (by rw [hrl]; exact Nat.le_refl _) (by omega) (by omega) (fun hroom => ?_) hs1' (by simp only [go_sem, i3, i4, i5, i6, i10, is']) (fun cap' hc1 hc2 => ?_)
   ·rw [h2]
    generalize hA1 : List.take (c.length * 4) (roomC (byOf h.params c) cap) ++ List.replicate 4 AV.undef ++ List.drop (c.length * 4 + 4) (roomC (byOf h.params c) cap) = A1
    have hA1l : A1.length = cap * 4 := by
     rw [← hA1]; simp only [lA, List.length_take, List.length_drop, List.length_replicate, hrl]; omega
    have hfit : (c.length * 4 + 4 ≤ A1.length) = True := eq_true (by rw [hA1l]; omega)
    have hE : ∀ m1, EntCs m1 [] (A1.take (c.length * 4) ++ [.d (.int .i64 3), .d (.str (h.params.getD k noVar).name), .d (.int .i64 0), .full []] ++ A1.drop (c.length * 4 + 4)) (roomC (byOf h.params (c ++ [k])) cap) = True := fun m1 => by
     have := zYA (es := byOf h.params c) (A1 := A1) (cap := cap) (by
      rw [hbl, ← hA1, ← htk, List.append_assoc, List.take_append_of_le_length (by rw [List.length_take, hrl]; omega)]
      rw [List.take_take, Nat.min_self]) hA1l (fun a ha => by
       rw [← hA1] at ha
       simp only [List.mem_append] at ha
       rcases ha with (ha | ha) | ha
       ·exact zK8 a (List.mem_of_mem_take ha)
       ·rw [(List.mem_replicate.1 ha).2]; rfl
       ·exact zK8 a (List.mem_of_mem_drop ha)) (by omega) (h.params.getD k noVar).name m1
     rw [hbl, ← sn] at this
     exact this
    simp only [go_sem, e3, e4, e5, e6, e10, f5, f10, hfit, hw0, hw1, zA]
    refine ⟨⟨⟨_, zzc ?_, s, cap, hs100, hroom, hcap2, rfl⟩, ⟨_, zzc ?_, s, cap, hs100, hroom, hcap2, rfl⟩⟩, ⟨_, zzc ?_, s, cap, hs100, hroom, hcap2, rfl⟩⟩ <;>
     simp only [go_sem, chSl, chMu, chCaps, SHole.cells, e3, e4, e5, e6, e10, f5, f10, hE, hcl, oS, Bool.and_self]
   ·rw [h2]
    generalize hA1 : List.take (c.length * 4) (roomC (byOf h.params c) cap) ++ List.replicate (cap' * 4 - c.length * 4) AV.undef = A1
    have hA1l : A1.length = cap' * 4 := by
     rw [← hA1]; simp only [lA, List.length_take, List.length_replicate, hrl]; omega
    have hfit : (c.length * 4 + 4 ≤ A1.length) = True := eq_true (by rw [hA1l]; omega)
    have hE : ∀ m1, EntCs m1 [] (A1.take (c.length * 4) ++ [.d (.int .i64 3), .d (.str (h.params.getD k noVar).name), .d (.int .i64 0), .full []] ++ A1.drop (c.length * 4 + 4)) (roomC (byOf h.params (c ++ [k])) cap') = True := fun m1 => by
     have := zYA (es := byOf h.params c) (A1 := A1) (cap := cap') (by
      rw [hbl, ← hA1, ← htk, List.take_append_of_le_length (by rw [List.length_take, hrl]; omega)]
      rw [List.take_take, Nat.min_self]) hA1l (fun a ha => by
       rw [← hA1] at ha
       simp only [List.mem_append] at ha
       rcases ha with ha | ha
       ·exact zK8 a (List.mem_of_mem_take ha)
       ·rw [(List.mem_replicate.1 ha).2]; rfl) (by omega) (h.params.getD k noVar).name m1
     rw [hbl, ← sn] at this
     exact this
    simp only [go_sem, e3, e4, e5, e6, e10, f5, f10, g3, g4, g5, g6, g10, i5, i10, hfit, hw0, hw1, zA]
    refine ⟨⟨⟨_, zzc ?_, s', cap', by omega, hc1, hc2, rfl⟩, ⟨_, zzc ?_, s', cap', by omega, hc1, hc2, rfl⟩⟩, ⟨_, zzc ?_, s', cap', by omega, hc1, hc2, rfl⟩⟩ <;>
     simp only [go_sem, chSl, chMu, chCaps, SHole.cells, e3, e4, e5, e6, e10, f5, f10, g3, g4, g5, g6, g10, i5, i10, is', hE, hcl, oS, Bool.and_self]
  rintro _ tm4 w4 S4 ρ4 hs4 ⟨s4, cap4, hs4a, hs4b, hs4c, rfl⟩
  have hF : chF h.params v rem c k = chI h.params rem (c ++ [k]) := by unfold chF; rw [hcd]; rfl
  obtain ⟨b', hb'⟩ : ∃ b', xs = (a ++ chY h.params ((List.range' 1 (k - 1)).flatMap (chF h.params v rem c))) ++ chY h.params (chI h.params rem (c ++ [k])) ++ b' := by
   refine ⟨chY h.params ((List.range' (k + 1) (h.params.length - 1 - k)).flatMap (chF h.params v rem c)) ++ b, ?_⟩
   have hr : List.range' 1 (h.params.length - 1) = List.range' 1 k ++ List.range' (k + 1) (h.params.length - 1 - k) := by
    have := List.range'_append (s := 1) (m := k) (n := h.params.length - 1 - k) (step := 1)
    rw [Nat.one_mul, show k + (h.params.length - 1 - k) = h.params.length - 1 by omega, Nat.add_comm 1 k] at this
    exact this.symm
   rw [hxs, zQM, hr, List.flatMap_append, zQL _ _ _ _ hk1, zJN, zJN, hF]
   simp only [List.append_assoc]
  refine wpIn_seq ?_
  obtain ⟨id, ops, rfl, hops, hok⟩ := zXg k15
  obtain ⟨hlen', hget⟩ := zye hops
  have hsz : ops.size = 5 := by simpa using hlen'.symm
  refine wpIn_region ?_
  have hr : List.range ops.size = List.range' 0 3 ++ [3, 4] := by rw [hsz]; rfl
  rw [hr]
  have hs4d : ∀ j, (1003 ≤ j ∧ j ≤ 1010) → (s4 = j) = False := fun j hj => eq_false (by omega)
  have d3 := hs4d 1003 (by omega)
  have d4 := hs4d 1004 (by omega)
  have d5 := hs4d 1005 (by omega)
  have d6 := hs4d 1006 (by omega)
  have d10 := hs4d 1010 (by omega)
  have hwc : IntKind.i64.wrap ((c.length : Int) + 1) = ((c.length + 1 : Nat) : Int) := zze (by omega)
  refine y_pre hY hG hC hT hops hok [3, 4] 3 0 (by omega) hs4 (K := fun z => z = ⟨(63, .d (.int .i64 ((c.length + 1 : Nat) : Int))) :: (62, .d (.int .i64 c.length)) :: (61, .clo zzh (chCaps q h)) :: chSl q h c.length k, chM l q h (c ++ [k]) s4 cap4, []⟩) ?_ ?_
  ·simp only [go_sem, chSl, chMu, d3, d4, d5, d6, d10, hwc]
  rintro _ tm5 w5 S5 ρ5 hs5 rfl
  obtain ⟨gi3, i3, hl3, htg3, hti3⟩ := hget 3 ops[3] (by simp [hsz])
  simp only [go_sem, Prod.mk.injEq] at hl3
  obtain ⟨rfl, rfl⟩ := hl3
  rw [wpOpsIn_cons]
  refine zxs (ops := ops) (k := 3) (o := ops[3]) (by simp [hsz]) htg3 (yjo hY hb' hs5 hti3 (by omega) (fid := zzh) (caps := chCaps q h) rfl rfl rfl (fx := chFx) (Post := chPost l q h (c ++ [k])) (ih k s4 cap4 hs4a hs4b hs4c) hpn hfx (fun m1 => ykG) (chSl q h c.length k) ?_ ?_)
  ·exact yyR q h c.length k _ _ _
  intro bb w6 S6 ρ6 tm6 m1 hs6 ⟨s6, cap6, hs6a, hs6b, hs6c, hm1⟩
  subst hm1
  have hs6d : ∀ j, (1003 ≤ j ∧ j ≤ 1010) → (s6 = j) = False := fun j hj => eq_false (by omega)
  have b3 := hs6d 1003 (by omega)
  have b4 := hs6d 1004 (by omega)
  have b5 := hs6d 1005 (by omega)
  have b6 := hs6d 1006 (by omega)
  have b10 := hs6d 1010 (by omega)
  have c5 : (1005 = s6) = False := eq_false (by omega)
  have c10 : (1010 = s6) = False := eq_false (by omega)
  have hcl : (c ++ [k]).length = c.length + 1 := by simp
  rw [hcl] at hs6b
  refine y_pre hY hG hC hT hops hok [] 1 4 (by omega) hs6 (K := fun z => z = ⟨(10, .d (.bool bb)) :: (64, .d (.bool bb)) :: chSl q h c.length k, chM l q h (c ++ [k]) s6 cap6, []⟩) ?_ ?_
  ·simp only [go_sem, chSl]
  rintro _ tm7 w7 S7 ρ7 hs7 rfl
  refine wpIn_seq (yregE hY hG hC hT hm k17 (zy5 k17) hs7 (fun z => z = ⟨(10, .d (.bool bb)) :: chSl q h c.length k, chMu l q h c (c ++ [k]) s6 cap6, []⟩) ?_ ?_)
  ·have hw1 : IntKind.i64.wrap (((c.length + 1 : Nat) : Int) - 1) = (c.length : Int) := by rw [i64_in _ (by omega)]; omega
   have hw2 : (((c.length + 1 : Nat) : Int) ≤ 9223372036854775807) = True := eq_true (by omega)
   have hw3 : (0 ≤ (c.length : Int)) = True := eq_true (by omega)
   have hw4 : ((c.length : Int) ≤ ((c.length + 1 : Nat) : Int)) = True := eq_true (by omega)
   have hE := fun m1 => yz8 (es := byOf h.params c) (p := pv_q (h.params.getD k noVar).name) (cap := cap6) (by simpa [byOf] using hs6b) m1
   simp only [← zXH] at hE
   simp only [go_sem, chSl, chMu, chCaps, b3, b4, b5, b6, b10, c5, c10, hcl, hw1, hw2, hw3, hw4, vecTo, Nat.sub_zero, Nat.zero_mul, zA, ite_self, Int.le_refl]
   refine ⟨_, zzc ?_, rfl⟩
   simp only [go_sem, b3, b4, b5, b6, b10, c5, c10, hE, oS, Bool.and_self]
  rintro _ tm8 w8 S8 ρ8 hs8 rfl
  refine wpIn_seq (yregE hY hG hC hT hm k19 (zy5 k19) hs8 (fun z => z = ⟨(10, .d (.bool bb)) :: chSl q h c.length k, chM l q h c s6 cap6, []⟩) ?_ ?_)
  ·have hul : (k + 1 ≤ (usedOf h.params.length (c ++ [k])).length) = True := eq_true (by rw [zji]; omega)
   have hset : List.take k ((usedOf h.params.length (c ++ [k])).map fun b => AV.d (.bool b)) ++ [AV.d (.bool false)] ++ List.drop (k + 1) ((usedOf h.params.length (c ++ [k])).map fun b => AV.d (.bool b)) = (usedOf h.params.length c).map fun b => .d (.bool b) := by
    rw [← zJu hnk, List.map_set, List.set_eq_take_append_cons_drop, if_pos (by rw [lM, zji]; exact hkn')]
    simp
   simp only [go_sem, chSl, chMu, chCaps, b3, b4, b5, b6, b10, lM, hk0, hkn2, hul, zA, Nat.mul_one, hset]
   refine ⟨_, zzc ?_, rfl⟩
   simp only [go_sem, b3, b4, b5, b6, b10, c5, c10, oS, Bool.and_self]
  rintro _ tm9 w9 S9 ρ9 hs9 rfl
  refine wpIn_seq (yregE hY hG hC hT hm k21 (zy5 k21) hs9 (fun z => z = ⟨(74, .d (.bool (!bb))) :: chSl q h c.length k, chM l q h c s6 cap6, []⟩) ?_ ?_)
  ·simp only [go_sem, chSl, chMu, chCaps]
   refine ⟨_, zzc ?_, rfl⟩
   simp only [go_sem, b3, b4, b5, b6, b10, c5, c10, oS, Bool.and_self]
  rintro _ tmA wA SA ρA hsA rfl
  cases bb with
  | true =>
   refine ycond vk hsA (b := false) rfl rfl (fun e => by cases e) (fun _ => wpIn_skip ?_)
   exact next (chI h.params rem (c ++ [k])) hF 74 (.d (.bool (!true))) (by omega) s6 cap6 tmA wA SA ρA hs6a (by omega) hs6c (by simpa using hsA)
  | false =>
   refine ycond vk hsA (b := true) rfl rfl (fun _ => ?_) (fun e => by cases e)
   refine wpIn_seq (yregE hY hG hC hT hm j0 (zy5 j0) hsA (fun z => z = ⟨[(8, .d (.bool false))], chM l q h c s6 cap6, []⟩) ?_ ?_)
   ·simp only [go_sem, chSl, chMu, chCaps]
    refine ⟨_, zzc ?_, rfl⟩
    simp only [go_sem, b3, b4, b5, b6, b10, c5, c10, oS, Bool.and_self]
   rintro _ tmB wB SB ρB hsB rfl
   exact wpIn_ret (hstop [(8, .d (.bool false))] _ tmB wB SB ρB hsB rfl ⟨s6, cap6, hs6a, by omega, hs6c, rfl⟩)
end Go.Abs
end
section
namespace Go.Abs
open Go.RowKit
variable {T : Nat → Option Ty} {P : Program} {G : Nat → Option (List D)} {E : AEnv} {l base : Nat} {xs : List (List CV)} {J : Option (List (List CV)) → World → Safe → (Nat → Prop) → Prop} {o : Option (List (List CV))} {pn : List (Nat × Nat)} {z : World × Safe}
theorem y_fin {N : Nat} {sl : List (Nat × AV)} {m1 : Mem} {tm : Array Value} {w : World} {S : Safe} {ρ : Rho} (h : YSim P G N pn z base J o ⟨sl, m1, []⟩ tm w S ρ) : YSim P G 0 pn z base J o ⟨[], m1, []⟩ #[] w S ρ := by
 obtain ⟨X, Y, hs, h1, h2⟩ := h
 exact ⟨X, Y, Sim.noSlots (c := cy P G N pn w S X) hs (fun _ => rfl), h1, h2⟩
theorem ch_ok (hY : YB P G l xs base J) (hG : E.G = G) (hC : ∀ f args r, E.C f args r → Ev P G f args r) (hT : ∀ t ty, T t = some ty → chkTy P t ty = true) (hm : P.follows .mixedOrders = true) (hcl : CloneLaw E) {fn : Func} (hf : P.funcs[zzh]? = some fn) (htr : trFn T fn = some zyg)
  {q : SQual} {h : SHole} (hsm : q.vars.length < 1048576) (hpl : h.params.length ≤ 1048576) (hp1 : 1 ≤ h.params.length) :
  ∀ (rem : List SVar) (c : List Nat) (s cap : Nat), q.vars.drop c.length = rem → c.length ≤ q.vars.length → (s < 1003 ∨ 1010 < s) → c.length ≤ cap → cap ≤ 9223372036854775807 →
   EvYB P G xs base J zzh (.d (.int .i64 (c.length : Int)) :: chCaps q h) (chM l q h c s cap) chFx (chY h.params (chI h.params rem c)) (chPost l q h c) := by
 obtain ⟨hname, cd, hcd, hac, hrs, hN⟩ := zXu htr
 have hN : fn.ntmps = 75 := hN
 intro rem
 induction rem with
 | nil =>
  intro c s cap hrem hle hs100 hcap hcap2
  refine ⟨⟨fn, hf, hname, by simp [hcd]⟩, ?_⟩
  intro a b pn z w S ρ cargs hxs hpn hfx hs hargs
  refine callsIn_wide.1 (callsIn_of_wp_marks (n := 0) hf hcd trivial ?_)
  have hs0 := ykS (fn := fn) (by rw [hN]; exact bl rfl) (by omega) hpn hs hargs
  obtain ⟨x0, y0, rfl, h0, hac1⟩ := zzV hac
  obtain ⟨x1, y1, rfl, h1, hac2⟩ := zzV hac1
  obtain ⟨x1a, x1b, rfl, h1a, h1b⟩ := zzV h1
  obtain ⟨cg, cy', cz', rfl, hcg, hcy, hcz⟩ := zqv h1b
  obtain ⟨x2, y2, rfl, h2, h3⟩ := zzV hcy
  obtain rfl := zJt h3
  have e1 : ∀ j, (1003 ≤ j ∧ j ≤ 1010) → (s = j) = False := fun j hj => eq_false (by omega)
  have e3 := e1 1003 (by omega)
  have e4 := e1 1004 (by omega)
  have e5 := e1 1005 (by omega)
  have e6 := e1 1006 (by omega)
  have e10 := e1 1010 (by omega)
  have hlen : c.length = q.vars.length := by
   have := List.drop_eq_nil_iff.1 hrem; omega
  have heq : ((c.length : Int) == (q.vars.length : Int)) = true := by rw [hlen]; simp
  refine wpIn_seq (yregE hY hG hC hT hm h0 (zy5 h0) hs0 (fun z => z = ⟨(8, .d (.bool false)) :: initA 0 (.d (.int .i64 (c.length : Int)) :: chCaps q h), chM l q h c s cap, []⟩) ?_ ?_)
  ·simp only [go_sem, chCaps, initA, chMu]
   refine ⟨_, zzc ?_, rfl⟩
   simp only [go_sem, e3, e4, e5, e6, e10, oS, Bool.and_self]
  rintro _ tm1 w1 S1 ρ1 hs1 rfl
  refine wpIn_seq (wpIn_seq (yregE hY hG hC hT hm h1a (zy5 h1a) hs1 (fun z => z = ⟨(15, .d (.bool true)) :: initA 0 (.d (.int .i64 (c.length : Int)) :: chCaps q h), chM l q h c s cap, []⟩) ?_ ?_))
  ·simp only [go_sem, chCaps, initA, chMu, SQual.cells, lM]
   intro _
   refine ⟨_, zzc ?_, rfl⟩
   simp only [go_sem, e3, e4, e5, e6, e10, heq, oS, Bool.and_self]
  rintro _ tm2 w2 S2 ρ2 hs2 rfl
  refine ycond hcg hs2 (b := true) rfl rfl (fun _ => ?_) (fun e => by cases e)
  refine wpIn_seq (ywy hY hG hC hT hm hcl h2 (by rw [hN]; omega) (a := a) (b := b) (by rw [hxs]; rfl) hs100 hcap (by omega) rfl rfl hs2 ?_)
  intro bb sl' tm' w' S' ρ' hs' h8
  exact wpIn_ret ⟨_, y_ret hT hrs hs' h8, bb, S', ρ', _, rfl, y_fin hs', s, cap, hs100, hcap, hcap2, rfl⟩
 | cons v rem ih =>
  intro c s cap hrem hle hs100 hcap hcap2
  refine ⟨⟨fn, hf, hname, by simp [hcd]⟩, ?_⟩
  intro a b pn z w S ρ cargs hxs hpn hfx hs hargs
  refine callsIn_wide.1 (callsIn_of_wp_marks (n := 0) hf hcd trivial ?_)
  have hs0 := ykS (fn := fn) (by rw [hN]; exact bl rfl) (by omega) hpn hs hargs
  obtain ⟨x0, y0, rfl, h0, hac1⟩ := zzV hac
  obtain ⟨x1, y1, rfl, h1, hac2⟩ := zzV hac1
  obtain ⟨x1a, x1b, rfl, h1a, h1b⟩ := zzV h1
  obtain ⟨cg, cy', cz', rfl, hcg, hcy, hcz⟩ := zqv h1b
  obtain rfl := zZz hcz
  obtain ⟨x4, y4, rfl, h4, h5⟩ := zzV hac2
  obtain ⟨x4a, x4b, rfl, h4a, h4b⟩ := zzV h4
  obtain ⟨x5, y5, rfl, h6, h7⟩ := zzV h5
  obtain rfl := zJt h7
  obtain ⟨xl0, rfl, h4c⟩ := zXC h4b
  obtain ⟨xl, rfl, h4d⟩ := yx7 h4c
  have e1 : ∀ j, (1003 ≤ j ∧ j ≤ 1010) → (s = j) = False := fun j hj => eq_false (by omega)
  have e3 := e1 1003 (by omega)
  have e4 := e1 1004 (by omega)
  have e5 := e1 1005 (by omega)
  have e6 := e1 1006 (by omega)
  have e10 := e1 1010 (by omega)
  have hlt : c.length < q.vars.length := by
   have := congrArg List.length hrem; simp at this; omega
  have hv : q.vars[c.length]? = some v := by
   have := congrArg (fun l => l[0]?) hrem; simpa using this
  have heq : ((c.length : Int) == (q.vars.length : Int)) = false := by simp; omega
  have hfx' : ∀ s ∈ chFx, ∃ b, (s, b) ∈ pn := fun s' hs' => by
   obtain ⟨X, Y, hsim, _⟩ := hs
   obtain ⟨cs, g1, g2⟩ := ykG (l := l) (q := q) (h := h) (c := c) ⟨s, cap, hs100, hcap, hcap2, rfl⟩ s' hs'
   obtain ⟨b, _, _, g3, _⟩ := hsim.mem s' cs g1 g2
   exact ⟨b, hfx s' b hs' g3⟩
  refine wpIn_seq (yregE hY hG hC hT hm h0 (zy5 h0) hs0 (fun z => z = ⟨(8, .d (.bool false)) :: initA 0 (.d (.int .i64 (c.length : Int)) :: chCaps q h), chM l q h c s cap, []⟩) ?_ ?_)
  ·simp only [go_sem, chCaps, initA, chMu]
   refine ⟨_, zzc ?_, rfl⟩
   simp only [go_sem, e3, e4, e5, e6, e10, oS, Bool.and_self]
  rintro _ tm1 w1 S1 ρ1 hs1 rfl
  refine wpIn_seq (wpIn_seq (yregE hY hG hC hT hm h1a (zy5 h1a) hs1 (fun z => z = ⟨(15, .d (.bool false)) :: initA 0 (.d (.int .i64 (c.length : Int)) :: chCaps q h), chM l q h c s cap, []⟩) ?_ ?_))
  ·simp only [go_sem, chCaps, initA, chMu, SQual.cells, lM]
   intro _
   refine ⟨_, zzc ?_, rfl⟩
   simp only [go_sem, e3, e4, e5, e6, e10, heq, oS, Bool.and_self]
  rintro _ tm2 w2 S2 ρ2 hs2 rfl
  refine ycond hcg hs2 (b := false) rfl rfl (fun e => by cases e) (fun _ => wpIn_skip ?_)
  refine wpIn_seq (wpIn_seq (yregE hY hG hC hT hm h4a (zy5 h4a) hs2 (fun z => z = ⟨chSl q h c.length 1, chM l q h c s cap, []⟩) ?_ ?_))
  ·simp only [go_sem, chCaps, initA, chMu, chSl]
   refine ⟨_, zzc ?_, rfl⟩
   simp only [go_sem, e3, e4, e5, e6, e10, oS, Bool.and_self, Int.natCast_one]
  rintro _ tm3 w3 S3 ρ3 hs3 rfl
  refine wpIn_block (zvM ?_)
  refine yk7 (z := z) hY hG hC hT hm hN hv hsm hpl hpn hfx' (fun k s' cap' i1 i2 i3 => ?_) h4d (a := a) (b := b) hxs ?_ ?_ (h.params.length - 1) 1 (by omega) (Nat.le_refl _) s cap tm3 w3 S3 ρ3 hs100 hcap hcap2 ?_
  ·have := ih (c ++ [k]) s' cap' (by rw [lA, List.length_singleton, ← List.drop_drop, hrem]; rfl) (by simp; omega) i1 (by simpa using i2) i3
   simpa using this
  ·intro sl m1 tm w S ρ hs h8 hpost
   exact ⟨_, y_ret hT hrs hs h8, false, S, ρ, m1, rfl, y_fin hs, hpost⟩
  ·intro sl m1 tm w S ρ hs hpost
   obtain ⟨s', cap', i1, i2, i3, rfl⟩ := hpost
   have d1 : ∀ j, (1003 ≤ j ∧ j ≤ 1010) → (s' = j) = False := fun j hj => eq_false (by omega)
   have d3 := d1 1003 (by omega)
   have d4 := d1 1004 (by omega)
   have d5 := d1 1005 (by omega)
   have d6 := d1 1006 (by omega)
   have d10 := d1 1010 (by omega)
   refine wpIn_seq (yregE hY hG hC hT hm h6 (zy5 h6) hs (fun z => z = ⟨[(8, .d (.bool true))], chM l q h c s' cap', []⟩) ?_ ?_)
   ·simp only [go_sem, chCaps, chMu]
    refine ⟨_, zzc ?_, rfl⟩
    simp only [go_sem, d3, d4, d5, d6, d10, oS, Bool.and_self]
   rintro _ tm' w' S' ρ' hs' rfl
   exact wpIn_ret ⟨_, y_ret hT hrs hs' rfl, true, S', ρ', _, rfl, y_fin hs', s', cap', i1, i2, i3, rfl⟩
  ·simpa [chY] using hs3
end Go.Abs
end
