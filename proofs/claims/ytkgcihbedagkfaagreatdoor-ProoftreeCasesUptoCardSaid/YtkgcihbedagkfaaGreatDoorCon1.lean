/-
  CONTRACTS: what the functions answer, as plain Lean functions, each by evaluation at the abstract machine.
-/
import Derived.KernelRfl
import Derived.Lib.ItoaLen
import Derived.Laws.AppendOwn
import Derived.Lib.OwnBridge
import Derived.Sort.OwnSorted
import Derived.Lib.SlicesCompact
import Derived.Sort.Walk0
import Derived.Test.YtkgcihbedagkfaaGreatDoorFns
set_option linter.unusedSimpArgs false
set_option linter.unusedVariables false
set_option linter.unusedSectionVars false
set_option maxRecDepth 100000
section
namespace Go.Abs
theorem gR1 {b : Bool} {p : Prop} : (b = true → b = true ∧ p) = (b = true → p) := by cases b <;> simp
theorem gR2 {b : Bool} : (b = true → b = true) = True := by simp
theorem gR3 {b x : Bool} : (b = true → x = true → (b && x) = true) = True := by cases b <;> cases x <;> simp
theorem gR4 {b : Bool} : (b = false → (!b) = true) = True := by cases b <;> simp
theorem gR5 {b x : Bool} : (b = true → x = false → (b && !x) = true) = True := by cases b <;> cases x <;> simp
theorem gR6 {b x : Bool} {p : Prop} : (b = true → (x = true → (b && x) = true) ∧ p) = (b = true → p) := by cases b <;> cases x <;> simp
theorem gR7 {b x : Bool} {p : Prop} : (b = true → (x = false → (b && !x) = true) ∧ p) = (b = true → p) := by cases b <;> cases x <;> simp
theorem gR8 {b x : Bool} : ((b && x) = true → b = true) = True := by cases b <;> cases x <;> simp
theorem gR9 {b x : Bool} {p : Prop} : ((b && x) = true → b = true ∧ p) = ((b && x) = true → p) := by cases b <;> cases x <;> simp
theorem gR10 {b x : Bool} {p : Prop} : ((b && x) = true → x = true ∧ p) = ((b && x) = true → p) := by cases b <;> cases x <;> simp
theorem gR11 {b x : Bool} : ((b && x) = true → x = true) = True := by cases b <;> cases x <;> simp
theorem gR12 {b : Bool} {p : Prop} : (b = true → (b && b) = true ∧ p) = (b = true → p) := by cases b <;> simp
theorem gR13 {b x : Bool} {p : Prop} : ((b && x) = true → (b && (b && x)) = true ∧ p) = ((b && x) = true → p) := by cases b <;> cases x <;> simp
theorem gR14 {b x : Bool} {p : Prop} : ((b && x) = true → (b && x && b) = true ∧ p) = ((b && x) = true → p) := by cases b <;> cases x <;> simp
theorem gR15 {b x : Bool} : ((b && x) = true → (b && (b && x)) = true) = True := by cases b <;> cases x <;> simp
attribute [go_sem] gR1 gR2 gR3 gR4 gR5 gR6 gR7 gR8 gR9 gR10 gR11 gR12 gR13 gR14 gR15 Int.cast_ofNat_Int Int.natCast_one List.getD_nil nZ false_and and_false Int.toNat_zero Int.toNat_one Bool.false_eq_true Bool.true_eq_false
theorem yw5 {v : Bool} {E : AEnv} {f : FuncId} {args : List CV} {r : CV} {b : Bool} {g : Option Bool} {d : Option Nat} {K : St → Prop} {st : St} {az : List AV} (h : E.C f args r) (hk : callK v g d K st az r) : ∃ r, (b = true → E.C f args r) ∧ callK v g d K st az r := ⟨r, fun _ => h, hk⟩
theorem zWA {v : Bool} {E : AEnv} {f : FuncId} {args : List CV} {r : CV} {b : Bool} {g : Option Bool} {d : Option Nat} {K : St → Prop} {st : St} {az : List AV} (h : b = true → E.C f args r) (hk : callK v g d K st az r) : ∃ r, (b = true → E.C f args r) ∧ callK v g d K st az r := ⟨r, h, hk⟩
theorem call_no {v : Bool} {E : AEnv} {f : FuncId} {args : List CV} (r : CV) {g : Option Bool} {d : Option Nat} {K : St → Prop} {st : St} {az : List AV} (hk : callK v g d K st az r) : ∃ r, (False → E.C f args r) ∧ callK v g d K st az r := ⟨r, fun h => h.elim, hk⟩
attribute [go_sem_proc] Int.reduceToNat Int.reduceLT Int.reduceLE Int.reduceEq Nat.reduceSub
end Go.Abs
end
section
namespace Go.Abs
theorem p0 : True := trivial
end Go.Abs
end
section
namespace Go.Abs
def isSmall (n : Int) : Bool := decide (97 ≤ n) && decide (n ≤ 122)
def isCapital (n : Int) : Bool := decide (65 ≤ n) && decide (n ≤ 90)
def isDigit (n : Int) : Bool := decide (48 ≤ n) && decide (n ≤ 57)
def isSized (s : List UInt8) : Bool := decide ((s.length : Int) ≥ 1) && decide ((s.length : Int) ≤ 24)
def cutAt : List UInt8 → List UInt8 × List UInt8 × Bool
 | [] => ([], [], false)
 | c :: s => if c.toNat = 46 then ([], s, true) else (c :: (cutAt s).1, (cutAt s).2.1, (cutAt s).2.2)
def alnum (n : Int) : Bool := !(!isSmall n && !isCapital n && !isDigit n)
variable {E : AEnv} (Z : Sys E)
include Z
end Go.Abs
end
section
namespace Go.Abs
def scan (bad : Nat → Int → Bool) : Nat → List UInt8 → Bool
 | _, [] => true
 | i, c :: s => !bad i c.toNat && scan bad (i + 1) s
def badWord (i : Nat) (n : Int) : Bool := !isSmall n && ((i : Int) == 0 || (!isDigit n && n != 95))
def badName (_ : Nat) (n : Int) : Bool := !isSmall n && !isDigit n && n != 95
def kws : List (List UInt8) := [[97, 110, 100], [97, 115, 115, 117, 109, 101], [98, 111, 111, 108], [98, 111, 117, 110, 100], [99, 97, 115, 101], [99, 101, 108, 108], [99, 108, 97, 115, 115], [100, 97, 116, 97], [100, 101, 102], [100, 105, 118], [101, 108, 115, 101], [101, 110, 100], [102, 97, 108, 115, 101], [102, 111, 114, 97, 108, 108], [102, 117, 110], [103, 101, 116], [105, 102], [105, 110], [105, 110, 115, 116], [105, 110, 116], [105, 110, 118, 97, 114, 105, 97, 110, 116], [108, 101, 116], [109, 97, 116, 99, 104], [109, 101, 97, 115, 117, 114, 101], [109, 101, 116, 114, 105, 99], [109, 111, 100], [109, 117], [110, 101, 119], [110, 111, 116], [111, 102], [111, 114], [113, 117, 97, 108], [114, 101, 102, 108, 101, 99, 116], [115, 101, 116], [116, 104, 101, 110], [116, 114, 117, 101], [117, 115, 101], [118], [118, 97, 108], [116, 97, 103], [119, 104, 101, 114, 101], [119, 105, 116, 104]]
def isName (s : List UInt8) : Bool := isSized s && isSmall (s.getD 0 0).toNat && !kws.contains s && scan badName 1 (s.drop 1)
def isTitle (s : List UInt8) : Bool := isSized s && isCapital (s.getD 0 0).toNat && (s.all fun c => alnum c.toNat) && (s != [73, 110, 116] && s != [66, 111, 111, 108] && s != [67, 101, 108, 108] && s != [70, 117, 110])
variable {E : AEnv} (Z : Sys E)
include Z
end Go.Abs
end
section
namespace Go.Abs
def okPart (s : List UInt8) : Bool := !(!isSized s || (!(s.all fun c => alnum c.toNat) && !scan badWord 0 s))
theorem zKp : ∀ (s : List UInt8), (cutAt s).2.2 = true → (cutAt s).2.1.length < s.length
 | [], h => by simp [cutAt] at h
 | c :: s, h => by
  simp only [cutAt] at h ⊢
  split
  ·simp
  ·rename_i hc
   rw [if_neg hc] at h
   have := zKp s h
   simp only [lC]; omega
def parts (s : List UInt8) : Bool := if h : (cutAt s).2.2 = true then okPart (cutAt s).1 && parts (cutAt s).2.1 else okPart (cutAt s).1
termination_by s.length
decreasing_by exact zKp s h
def isCore (s : List UInt8) : Bool :=
 !decide ((s.length : Int) > 120) && (!(!isName (cutAt s).1 && !isTitle (cutAt s).1 && ((cutAt s).1 != [118] || !(cutAt s).2.2))) && (if (cutAt s).2.2 then parts (cutAt s).2.1 else true)
variable {E : AEnv} (Z : Sys E)
include Z
end Go.Abs
end
section
namespace Go.Abs
def isOpNamed (n : Int) : Bool := n == 3 || n == 4 || n == 5
def inRange (n : Int) : Bool := decide (n ≥ -1000000000000) && decide (n ≤ 1000000000000)
variable {E : AEnv} (Z : Sys E)
include Z
theorem zwc (n : Int) : E.C zkQ [.one (.int .i64 n)] (.one (.bool (inRange n))) := by
 refine Z.zkQ _ _ ⟨bl rfl, ?_⟩
 simp only [zKE, go_sem, inRange]
theorem zxB (n : Int) : E.C zku [.one (.int .i64 n)] (.one (.bool (inRange n))) := by
 refine Z.zku _ _ ⟨bl rfl, ?_⟩
 simp only [zKF, go_sem, inRange]
end Go.Abs
end
section
namespace Go.Abs
namespace Pred
mutual
def depth : Pred → Int
 | .mk _ _ _ ks => IntKind.i64.wrap (depths 0 ks + 1)
def depths (a : Int) : List Pred → Int
 | [] => a
 | k :: ks => depths (if depth k > a then depth k else a) ks
end
end Pred
def kidsOk (n m : Int) : Bool := if n == 1 || n == 2 || n == 3 then m == 0 else if n == 4 || n == 5 then decide (m ≥ 1) && decide (m ≤ 24) else if n == 9 || n == 14 then m == 1 else m == 2
variable {E : AEnv} (Z : Sys E)
include Z
end Go.Abs
end
section
namespace Go.Abs
def sV : List UInt8 := [118]
def sTag : List UInt8 := [116, 97, 103]
def sVal : List UInt8 := [118, 97, 108]
def calledOk (o : Int) (s : List UInt8) : Bool := if o == 3 then s == sV || isCore s else if o == 4 then s == sTag || s == sVal || isCore s else if o == 5 then isCore s else true
variable {E : AEnv} (Z : Sys E)
include Z
end Go.Abs
end
section
namespace Go.Abs
def nodeE (o : Int) (s : List UInt8) (n : Int) (ks : List Pred) : Int :=
 if decide (o < 1) || decide (o > 18) || !s == [] && !isOpNamed o || n != 0 && !(o == 1 || o == 2) || !kidsOk o ks.length then 1
 else if o == 1 && !inRange n || o == 2 && (decide (n < 0) || decide (n > 1)) then 2
 else if !calledOk o s then 3
 else if o == 8 && ((ks.map Pred.op).getD 0 0) != 1 then 6
 else 0
variable {E : AEnv} (Z : Sys E)
include Z
end Go.Abs
end
section
namespace Go.Abs
namespace Pred
end Pred
theorem zxF {α : Type} {P : α → Prop} {a : List α} {k : α} (ha : ∀ x ∈ a, P x) (hk : P k) : ∀ x ∈ a ++ [k], P x := by
 intro x hx; rcases List.mem_append.1 hx with h | h
 ·exact ha x h
 ·simp at h; subst h; exact hk
theorem zYF {ks a r : List Pred} {k : Pred} (hl : ks = a ++ k :: r) : (ks.map Pred.cells).getD a.length [] = Pred.cells k := by rw [hl]; exact zv6 _ _ _ _ _
variable {E : AEnv} (Z : Sys E)
include Z
end Go.Abs
end
section
namespace Go.Abs
namespace Pred
def err (p : Pred) : Int := nodeE p.op p.name p.n p.kids
def first : List Pred → Int
 | [] => 0
 | p :: l => if err p != 0 then err p else first l
end Pred
variable {E : AEnv} (Z : Sys E)
include Z
end Go.Abs
end
section
namespace Go.Abs
abbrev Str := List UInt8
structure SVar where
 name : Str
 sort : Str
def SVar.cells (v : SVar) : List D := [.str v.name, .str v.sort]
def scell (s : Str) : List D := [.str s]
structure SSym where
 name : Str
 args : List Str
 res : Str
def SSym.cells (v : SSym) : List D := [.str v.name, .lst (v.args.map scell), .str v.res]
structure SHole where
 name : Str
 params : List SVar
def SHole.cells (v : SHole) : List D := [.str v.name, .lst (v.params.map SVar.cells)]
structure SEnv where
 vars : List SVar
 syms : List SSym
 holes : List SHole
def SEnv.cells (v : SEnv) : List D := [.lst (v.vars.map SVar.cells), .lst (v.syms.map SSym.cells), .lst (v.holes.map SHole.cells)]
theorem zyT {α : Type} {f : α → List D} {k : Nat} (h : ∀ x, (f x).length = k) (l : List α) : (∀ e ∈ l.map f, e.length = k) = True := eq_true (by
 intro e he; obtain ⟨p, _, rfl⟩ := List.mem_map.1 he; exact h p)
theorem SVar.lens (l : List SVar) : (∀ e ∈ l.map SVar.cells, e.length = 2) = True := zyT (f := SVar.cells) (fun _ => rfl) l
theorem SSym.lens (l : List SSym) : (∀ e ∈ l.map SSym.cells, e.length = 3) = True := zyT (f := SSym.cells) (fun _ => rfl) l
theorem SHole.lens (l : List SHole) : (∀ e ∈ l.map SHole.cells, e.length = 2) = True := zyT (f := SHole.cells) (fun _ => rfl) l
theorem yzv (l : List Str) : (∀ e ∈ l.map scell, e.length = 1) = True := zyT (f := scell) (fun _ => rfl) l
attribute [go_sem] SVar.lens SSym.lens SHole.lens yzv
theorem getD_at {α β : Type} {f : α → β} {l a r : List α} {x : α} {d : β} (hl : l = a ++ x :: r) : (l.map f).getD a.length d = f x := by rw [hl]; exact zv6 _ _ _ _ _
variable {E : AEnv} (Z : Sys E)
include Z
end Go.Abs
end
section
namespace Go.Abs
def Small (n : Nat) : Prop := n ≤ 1048576
structure SEnv.Ok (v : SEnv) : Prop where
 syms : ∀ s ∈ v.syms, Small s.args.length
 holes : ∀ h ∈ v.holes, Small h.params.length
variable {E : AEnv} (Z : Sys E)
include Z
end Go.Abs
end
section
namespace Go.Abs
namespace Pred
def same : Pred → Pred → Bool
 | .mk o s n ks, .mk o' s' n' ks' => o == o' && s == s' && n == n' && sames ks ks'
where sames : List Pred → List Pred → Bool
 | [], [] => true
 | k :: ks, k' :: ks' => same k k' && sames ks ks'
 | _, _ => false
theorem zJt (o : Int) (s : Str) (n : Int) (ks : List Pred) (o' : Int) (s' : Str) (n' : Int) (ks' : List Pred) : same (.mk o s n ks) (.mk o' s' n' ks') = (o == o' && s == s' && n == n' && same.sames ks ks') := by rw [same]
theorem ywN : ∀ (a b : Pred), same a b = true ↔ a = b := by
 intro a
 induction a using Pred.ind with
 | h o s n ks ih =>
 intro b
 obtain ⟨o', s', n', ks'⟩ := b
 have hk : ∀ l', same.sames ks l' = true ↔ ks = l' := by
  induction ks with
  | nil => intro l'; cases l' <;> simp [same.sames]
  | cons k ks ih2 =>
   intro l'
   cases l' with
   | nil => simp [same.sames]
   | cons k' l' => simp only [same.sames, Bool.and_eq_true, List.cons.injEq, ih k (by simp) k', ih2 (fun x hx => ih x (by simp [hx])) l']
 rw [zJt]
 simp only [Bool.and_eq_true, beq_iff_eq, hk, Pred.mk.injEq, and_assoc]
theorem zVm : ∀ (a b : List Pred), same.sames a b = true ↔ a = b
 | [], [] => by simp [same.sames]
 | [], _ :: _ => by simp [same.sames]
 | _ :: _, [] => by simp [same.sames]
 | x :: a, y :: b => by simp only [same.sames, Bool.and_eq_true, List.cons.injEq, ywN, zVm a b]
theorem zvV : ∀ {a b l l' : List Pred}, a.length = b.length → same.sames (a ++ l) (b ++ l') = (same.sames a b && same.sames l l')
 | [], [], l, l', _ => by simp [same.sames]
 | x :: a, y :: b, l, l', h => by simp only [List.cons_append, same.sames, zvV (a := a) (b := b) (by simpa using h), Bool.and_assoc]
 | [], _ :: _, _, _, h => by simp at h
 | _ :: _, [], _, _, h => by simp at h
theorem zVn : ∀ {a b : List Pred}, a.length ≠ b.length → same.sames a b = false := by
 intro a b h
 rw [Bool.eq_false_iff]
 intro e
 exact h (by rw [(zVm a b).1 e])
end Pred
theorem zJL {α : Type} {b : List α} {n : Nat} (h : n < b.length) : ∃ bd y r, b = bd ++ y :: r ∧ bd.length = n := by
 have := List.take_append_drop n b
 rw [List.drop_eq_getElem_cons h] at this
 exact ⟨_, _, _, this.symm, by simp; omega⟩
theorem zJZ {b bd r : List Pred} {y : Pred} {n : Nat} (hb : b = bd ++ y :: r) (hn : bd.length = n) : (b.map Pred.cells).getD n [] = Pred.cells y := by subst hn; exact zYF hb
variable {E : AEnv} (Z : Sys E)
include Z
theorem zWQ (a b : List Pred) (h : ∀ x ∈ a, ∀ y, E.C zyO [.agg (Pred.cells x), .agg (Pred.cells y)] (.one (.bool (x.same y)))) :
  E.C zzN [.one (.lst (a.map Pred.cells)), .one (.lst (b.map Pred.cells)), .one (.clo zyO [])] (.one (.bool (Pred.same.sames a b))) := by
 refine Z.zzN _ _ ⟨bl rfl, ?_⟩
 generalize hR : Pred.same.sames a b = R
 simp only [zxD, go_sem]
 intro hl1 hl2
 by_cases hlen : a.length = b.length
 ·have h1 : ((a.length : Int) != (b.length : Int)) = false := by simp [hlen]
  simp only [h1, go_sem]
  intro _
  refine zzh a (fun done => Pred.same.sames done (b.take done.length) = true) (fun done rest => ⟨[(15, .d (.int .i64 done.length)), (14, .d (.int .i64 a.length)), (2, .d (.clo zyO [])), (0, .d (.lst (a.map Pred.cells))), (1, .d (.lst (b.map Pred.cells)))], [], []⟩) ?_ (by simp [Pred.same.sames]) ?_ ?_
  ·exact zzc (by simp only [go_sem])
  ·intro done x r hl hI
   obtain ⟨bd, y, r', hb, hbl⟩ := zJL (b := b) (n := done.length) (by rw [← hlen, hl]; simp)
   have htk : b.take done.length = bd := by rw [hb]; exact List.take_left' hbl
   have hlt := zzw hl
   have hlt2 := zzw hb
   rw [hbl] at hlt2
   have hw : IntKind.i64.wrap ((done.length : Int) + 1) = ((done.length + 1 : Nat) : Int) := zzd (by omega)
   rw [htk] at hI
   rw [hl, hb, Pred.zvV hbl.symm, hI, Pred.same.sames, Bool.true_and] at hR
   simp only [zye, go_sem, zYF hl, zJZ hb hbl, hlt, hlt2]
   refine zzb (h x (by rw [hl]; simp) y) ?_
   cases h2 : x.same y with
   | true =>
    simp only [go_sem, hw, lA]
    refine ⟨zzc (by simp only [go_sem]), ?_⟩
    have ht2 : b.take (done.length + 1) = bd ++ [y] := by rw [hb, show bd ++ y :: r' = (bd ++ [y]) ++ r' by simp]; exact List.take_left' (by simp [hbl])
    rw [ht2, Pred.zvV hbl.symm, hI]
    simp [Pred.same.sames, h2]
   | false => simp only [h2, go_sem] at hR ⊢; exact hR
  ·intro hI
   rw [hlen, List.take_length] at hI
   rw [hI] at hR
   subst hR
   simp only [zye, go_sem]
 ·have h1 : ((a.length : Int) != (b.length : Int)) = true := by simp; omega
  rw [Pred.zVn hlen] at hR
  simp only [h1, go_sem, hR]
theorem zZD (a : Pred) : ∀ b, E.C zyO [.agg (Pred.cells a), .agg (Pred.cells b)] (.one (.bool (a.same b))) := by
 induction a using Pred.ind with
 | h o s n ks ih =>
 intro b
 obtain ⟨o', s', n', ks'⟩ := b
 have he := zWQ Z ks ks' ih
 refine Z.zyO _ _ ⟨bl rfl, ?_⟩
 rw [Pred.zzt, Pred.zzt, Pred.zJt]
 simp only [zZk, go_sem, Pred.op, Pred.name, Pred.n, Pred.kids]
 refine yw5 he ?_
 simp only [go_sem]
theorem zjG (a : Pred) : ∀ b, E.C zws [.agg (Pred.cells a), .agg (Pred.cells b)] (.one (.bool (a.same b))) := by
 induction a using Pred.ind with
 | h o s n a ih =>
 intro b
 obtain ⟨o', s', n', b⟩ := b
 refine Z.zws _ _ ⟨bl rfl, ?_⟩
 generalize hR : Pred.same (.mk o s n a) (.mk o' s' n' b) = R
 rw [Pred.zJt] at hR
 rw [Pred.zzt, Pred.zzt]
 simp only [zYy, go_sem, Pred.op, Pred.name, Pred.n, Pred.kids]
 intro hl1 hl2
 cases h0 : (o != o' || !s == s' || n != n') with
 | true =>
  have : (o == o' && s == s' && n == n') = false := by
   rw [Bool.eq_false_iff]; intro e; simp only [Bool.and_eq_true, beq_iff_eq] at e; simp [e.1.1, e.1.2, e.2] at h0
  rw [this] at hR
  simp only [go_sem] at hR
  simp only [go_sem, hR]
 | false =>
 have : (o == o' && s == s' && n == n') = true := by
  simp at h0; simp [h0.1.1, h0.1.2, h0.2]
 rw [this, Bool.true_and] at hR
 by_cases hlen : a.length = b.length
 ·have h1 : ((a.length : Int) != (b.length : Int)) = false := by simp [hlen]
  simp only [h1, go_sem]
  intro _
  refine zzh a (fun done => Pred.same.sames done (b.take done.length) = true) (fun done rest => ⟨[(37, .d (.int .i64 done.length)), (36, .d (.int .i64 a.length)), (2, .ptr 2 0), (3, .ptr 3 0)],
   [(2, [.d (.int .i64 o), .d (.str s), .d (.int .i64 n), .d (.lst (a.map Pred.cells))]), (3, [.d (.int .i64 o'), .d (.str s'), .d (.int .i64 n'), .d (.lst (b.map Pred.cells))])], []⟩) ?_ (by simp [Pred.same.sames]) ?_ ?_
  ·exact zzc (by simp only [go_sem, oS])
  ·intro done x r hl hI
   obtain ⟨bd, y, r', hb, hbl⟩ := zJL (b := b) (n := done.length) (by rw [← hlen, hl]; simp)
   have htk : b.take done.length = bd := by rw [hb]; exact List.take_left' hbl
   have hlt := zzw hl
   have hlt2 := zzw hb
   rw [hbl] at hlt2
   have hw : IntKind.i64.wrap ((done.length : Int) + 1) = ((done.length + 1 : Nat) : Int) := zzd (by omega)
   rw [htk] at hI
   rw [hl, hb, Pred.zvV hbl.symm, hI, Pred.same.sames, Bool.true_and] at hR
   simp only [zky, go_sem, zYF hl, zJZ hb hbl, hlt, hlt2]
   refine zzb (ih x (by rw [hl]; simp) y) ?_
   cases h2 : x.same y with
   | true =>
    simp only [go_sem, hw, lA]
    refine ⟨zzc (by simp only [go_sem, oS]), ?_⟩
    have ht2 : b.take (done.length + 1) = bd ++ [y] := by rw [hb, show bd ++ y :: r' = (bd ++ [y]) ++ r' by simp]; exact List.take_left' (by simp [hbl])
    rw [ht2, Pred.zvV hbl.symm, hI]
    simp [Pred.same.sames, h2]
   | false => simp only [h2, go_sem] at hR ⊢; exact hR
  ·intro hI
   rw [hlen, List.take_length] at hI
   rw [hI] at hR
   subst hR
   simp only [zky, go_sem]
 ·have h1 : ((a.length : Int) != (b.length : Int)) = true := by simp; omega
  rw [Pred.zVn hlen] at hR
  simp only [h1, go_sem, hR]
end Go.Abs
end
section
namespace Go.Abs
theorem zjQ {st st1 : St} (s i t sz : Nat) (cs : List AV) (es : List (List D)) (mp : TMap) (h0 : getM st.mem s = some cs) (h1 : cs[i]? = some (.full es)) (h2 : ∀ e ∈ es, e.length = sz) (h3 : getT st.tk t = none)
  (h : Ent0 mp { st with mem := (s, cs.set i (.own t sz es)) :: st.mem, tk := (t, true) :: st.tk } st1) : Ent st st1 := ⟨[(.m s i, t, sz)], mp, _, ⟨_, ⟨cs, es, h0, h1, h2, h3, rfl⟩, rfl⟩, h⟩
variable {E : AEnv} (Z : Sys E)
include Z
end Go.Abs
end
section
namespace Go.Abs
def p2 (o : Int) (a b : Pred) : Pred := .mk o [] 0 [a, b]
theorem zze {E : AEnv} {c : AC} {K : AX → St → Prop} {F : St} (h : ∀ K', K' = K → awp E (.loop c) K' F) : awp E (.loop c) K F := h K rfl
theorem zwf {E : AEnv} {a b : AC} {Q : AX → St → Prop} {st : St} (h : ∀ N, N = awp E b Q → awp E a (seqK N Q) st) : awp E (.seq a b) Q st := h _ rfl
end Go.Abs
end
section
namespace Go.Abs
mutual
def Pred.sz : Pred → Nat
 | .mk _ s _ ks => 1 + ((s.length + 1) + (1 + ((Pred.szs ks + 1) + 0))) + 1
def Pred.szs : List Pred → Nat
 | [] => 0
 | k :: ks => Pred.sz k + Pred.szs ks
end
theorem Pred.yvQ (ks : List Pred) : Pred.szs ks = (ks.map Pred.sz).sum := by
 induction ks with
 | nil => simp [Pred.szs]
 | cons k ks ih => simp [Pred.szs, ih]
namespace Pred
mutual
def cnt : Pred → Nat
 | .mk _ _ _ ks => cnts ks + 1
def cnts : List Pred → Nat
 | [] => 0
 | k :: ks => cnt k + cnts ks
end
theorem cnt_sz (p : Pred) : cnt p ≤ sz p := by
 induction p using Pred.ind with
 | h o s n ks ih =>
 have : ∀ l : List Pred, (∀ k ∈ l, cnt k ≤ sz k) → cnts l ≤ szs l := by
  intro l
  induction l with
  | nil => intro _; exact Nat.le_refl _
  | cons x l ih2 =>
   intro h
   have h1 := h x (by simp)
   have h2 := ih2 fun k hk => h k (by simp [hk])
   rw [szs, cnts]; omega
 rw [sz, cnt]
 have := this ks ih
 omega
end Pred
end Go.Abs
end
section
namespace Go.Abs
def res2 (r : Int × Bool) : CV := .tup [.one (.int .i64 r.1), .one (.bool r.2)]
def bnd (n : Int) : Int × Bool := if inRange n then (n, true) else (0, false)
def addI (a b : Int) : Int × Bool := if inRange a && inRange b then bnd (a + b) else (0, false)
def mulI (a b : Int) : Int × Bool := if inRange a && inRange b then bnd (a * b) else (0, false)
theorem zzm (n : Int) : inRange n = true ↔ -1000000000000 ≤ n ∧ n ≤ 1000000000000 := by simp [inRange]
theorem wrap_add {a b : Int} (ha : inRange a = true) (hb : inRange b = true) : IntKind.i64.wrap (a + b) = a + b := by
 rw [zzm] at ha hb; exact i64_in _ (by omega)
def absI (n : Int) : Int := if n ≥ 0 then n else -n
theorem zjR {n : Int} (h : n ≠ 0) : 0 < absI n := by unfold absI; split <;> omega
theorem yxz (a b : Int) : absI (a * b) = absI a * absI b := by
 have : ∀ n : Int, absI n = n.natAbs := fun n => by unfold absI; split <;> omega
 simp only [this, Int.natAbs_mul, Int.natCast_mul]
theorem zxN (n : Int) : inRange n = true ↔ absI n ≤ 1000000000000 := by
 rw [zzm]; unfold absI; split <;> omega
theorem yyX {a b : Int} (ha : a ≠ 0) : decide (absI b > (1000000000000 : Int).tdiv (absI a)) = !inRange (a * b) := by
 have hp := zjR ha
 have hq : (1000000000000 : Int).tdiv (absI a) = 1000000000000 / absI a := Int.tdiv_eq_ediv_of_nonneg (by omega)
 rw [hq]
 have h1 : (1000000000000 / absI a < absI b) ↔ 1000000000000 < absI b * absI a := Int.ediv_lt_iff_lt_mul hp
 have h2 : inRange (a * b) = true ↔ ¬ (1000000000000 < absI b * absI a) := by
  rw [zxN, yxz, Int.mul_comm]; omega
 cases h : inRange (a * b) with
 | true => rw [h] at h2; simp only [true_iff] at h2; simp; rw [← Int.not_lt, h1]; exact h2
 | false => rw [h] at h2; simp at h2; simp; rw [h1]; exact h2
variable {E : AEnv} (Z : Sys E)
include Z
theorem zXn (n : Int) (ok : Bool) : E.C zxQ [.one (.int .i64 n), .one (.bool ok)] (res2 (if ok then bnd n else (0, false))) := by
 refine Z.zxQ _ _ ⟨bl rfl, ?_⟩
 try unfold res2
 unfold bnd
 simp only [zjp, go_sem]
 refine zWA (fun _ => zwc Z n) ?_
 cases ok <;> cases h : inRange n <;> simp only [h, go_sem]
theorem zWS (n : Int) (ok : Bool) : E.C zwB [.one (.int .i64 n), .one (.bool ok)] (res2 (if ok then bnd n else (0, false))) := by
 refine Z.zwB _ _ ⟨bl rfl, ?_⟩
 try unfold res2
 unfold bnd
 simp only [zqe, go_sem]
 refine zWA (fun _ => zxB Z n) ?_
 cases ok <;> cases h : inRange n <;> simp only [h, go_sem]
theorem yzb (a b : Int) : E.C zq3 [.one (.int .i64 a), .one (.int .i64 b)] (res2 (addI a b)) := by
 have h1 := zWS Z (IntKind.i64.wrap (a + b)) (inRange a && inRange b)
 refine Z.zq3 _ _ ⟨bl rfl, ?_⟩
 unfold addI
 simp only [res2] at h1 ⊢
 simp only [zXL, go_sem]
 refine zzb (zxB Z a) ?_
 simp only [go_sem]
 refine yw5 (zxB Z b) ?_
 cases ha : inRange a <;> cases hb : inRange b <;> simp only [ha, hb, go_sem] at h1 ⊢ <;> refine zzb h1 ?_ <;> simp only [go_sem]
 simp only [wrap_add ha hb, and_self]
theorem zv9 {n : Int} (h : inRange n = true) : E.C zvf [.one (.int .i64 n)] (.one (.int .i64 (absI n))) := by
 refine Z.zvf _ _ ⟨bl rfl, ?_⟩
 rw [zzm] at h
 have hw : IntKind.i64.wrap (0 - n) = -n := by rw [i64_in _ (by omega)]; omega
 unfold absI
 simp only [zXK, go_sem, hw]
 by_cases h0 : n ≥ 0
 ·simp only [h0, go_sem]
 ·have h2 : ¬ (-n < 0) := by omega
  simp only [h0, h2, go_sem]
theorem zWc (a b : Int) : E.C zjE [.one (.int .i64 a), .one (.int .i64 b)] (res2 (mulI a b)) := by
 have h1 := zXn Z (IntKind.i64.wrap (a * b)) true
 refine Z.zjE _ _ ⟨bl rfl, ?_⟩
 unfold mulI
 simp only [res2] at h1 ⊢
 simp only [zXJ, go_sem]
 refine zzb (zwc Z a) ?_
 simp only [go_sem]
 refine zWA (fun _ => zwc Z b) ?_
 cases ha : inRange a <;> cases hb : inRange b <;> simp only [ha, hb, go_sem]
 by_cases ha0 : a = 0
 ·subst ha0; simp only [go_sem, beq_self_eq_true, Int.zero_mul]; simp [bnd, inRange]
 have ea : (a == 0) = false := by simpa using ha0
 by_cases hb0 : b = 0
 ·subst hb0; simp only [go_sem, beq_self_eq_true, ea, Int.mul_zero]; simp [bnd, inRange]
 have eb : (b == 0) = false := by simpa using hb0
 simp only [ea, eb, go_sem]
 refine zzb (zv9 Z hb) ?_
 simp only [go_sem]
 refine zzb (zv9 Z ha) ?_
 have hne : absI a ≠ 0 := by have := zjR ha0; omega
 have hw : IntKind.i64.wrap ((1000000000000 : Int).tdiv (absI a)) = (1000000000000 : Int).tdiv (absI a) := by
  rw [Int.tdiv_eq_ediv_of_nonneg (by omega)]
  have hp := zjR ha0
  have h0 : 0 ≤ (1000000000000 : Int) / absI a := Int.ediv_nonneg (by omega) (by omega)
  have h2 : (1000000000000 : Int) / absI a ≤ 1000000000000 := Int.ediv_le_self _ (by omega)
  exact i64_in _ (by omega)
 simp only [go_sem, hw, yyX ha0]
 refine ⟨hne, ?_⟩
 cases hr : inRange (a * b) with
 | false => simp only [go_sem, bnd, hr]
 | true =>
  have hwm : IntKind.i64.wrap (a * b) = a * b := i64_in _ (by rw [zzm] at hr; omega)
  rw [hwm] at h1 ⊢
  simp only [go_sem, hr]
  refine zzb h1 ?_
  simp only [go_sem, bnd, hr]
theorem zWe (a b : Int) : E.C zvR [.one (.int .i64 a), .one (.int .i64 b)] (res2 (mulI a b)) := by
 refine Z.zvR _ _ ⟨bl rfl, ?_⟩
 unfold mulI
 try simp only [res2]
 simp only [zXO, go_sem]
 refine zzb (zxB Z a) ?_
 simp only [go_sem]
 refine zWA (fun _ => zxB Z b) ?_
 cases ha : inRange a <;> cases hb : inRange b <;> simp only [ha, hb, go_sem]
 by_cases ha0 : a = 0
 ·subst ha0; simp only [go_sem, beq_self_eq_true, Int.zero_mul]; simp [bnd, inRange]
 have ea : (a == 0) = false := by simpa using ha0
 by_cases hb0 : b = 0
 ·subst hb0; simp only [go_sem, beq_self_eq_true, ea, Int.mul_zero]; simp [bnd, inRange]
 have eb : (b == 0) = false := by simpa using hb0
 have hq := yyX (b := a) hb0
 rw [Int.mul_comm b a] at hq
 have hneg : ∀ {n : Int}, inRange n = true → IntKind.i64.wrap (0 - n) = -n := fun h => by rw [zzm] at h; rw [i64_in _ (by omega)]; omega
 have hw : IntKind.i64.wrap ((1000000000000 : Int).tdiv (absI b)) = (1000000000000 : Int).tdiv (absI b) := by
  rw [Int.tdiv_eq_ediv_of_nonneg (by omega)]
  have hp := zjR hb0
  have h0 : 0 ≤ (1000000000000 : Int) / absI b := Int.ediv_nonneg (by omega) (by omega)
  have h2 : (1000000000000 : Int) / absI b ≤ 1000000000000 := Int.ediv_le_self _ (by omega)
  exact i64_in _ (by omega)
 have hne : absI b ≠ 0 := by have := zjR hb0; omega
 have ea2 : absI a = if a < 0 then -a else a := by unfold absI; split <;> split <;> omega
 have eb2 : absI b = if b < 0 then -b else b := by unfold absI; split <;> split <;> omega
 simp only [ea, eb, go_sem, hneg ha, hneg hb]
 have hfin : ∀ x y : Int, absI a = x → absI b = y → (decide (x > IntKind.i64.wrap ((1000000000000 : Int).tdiv y)) = !inRange (a * b)) ∧ y ≠ 0 := by
  rintro x y rfl rfl; rw [hw]; exact ⟨hq, hne⟩
 cases hr : inRange (a * b) with
 | false =>
  by_cases c1 : a < 0 <;> by_cases c2 : b < 0 <;> simp only [c1, c2, if_true, if_false] at ea2 eb2 <;> obtain ⟨f1, f2⟩ := hfin _ _ ea2 eb2 <;> rw [hr] at f1 <;> simp only [c1, c2, go_sem, f1, bnd, hr] <;> exact f2
 | true =>
  have hwm : IntKind.i64.wrap (a * b) = a * b := i64_in _ (by rw [zzm] at hr; omega)
  by_cases c1 : a < 0 <;> by_cases c2 : b < 0 <;> simp only [c1, c2, if_true, if_false] at ea2 eb2 <;> obtain ⟨f1, f2⟩ := hfin _ _ ea2 eb2 <;> rw [hr] at f1 <;> simp only [c1, c2, go_sem, f1, bnd, hr, hwm] <;> exact f2
end Go.Abs
end
section
namespace Go.Abs
structure Coef where
 name : Str
 n : Int
def Coef.cells (v : Coef) : List D := [.str v.name, .int .i64 v.n]
def icell (n : Int) : List D := [.int .i64 n]
structure Fact where
 name : Str
 args : List Int
 res : Int
def Fact.cells (v : Fact) : List D := [.str v.name, .lst (v.args.map icell), .int .i64 v.res]
theorem Coef.lens (l : List Coef) : (∀ e ∈ l.map Coef.cells, e.length = 2) = True := zyT (f := Coef.cells) (fun _ => rfl) l
theorem Fact.lens (l : List Fact) : (∀ e ∈ l.map Fact.cells, e.length = 3) = True := zyT (f := Fact.cells) (fun _ => rfl) l
theorem zQX (l : List Int) : (∀ e ∈ l.map icell, e.length = 1) = True := zyT (f := icell) (fun _ => rfl) l
attribute [go_sem] Coef.lens Fact.lens zQX
def findC (s : Str) : List Coef → Int × Bool
 | [] => (0, false)
 | c :: l => if c.name == s then (c.n, true) else findC s l
variable {E : AEnv} (Z : Sys E)
include Z
end Go.Abs
end
section
namespace Go.Abs
def I64 (n : Int) : Prop := -9223372036854775808 ≤ n ∧ n ≤ 9223372036854775807
variable {E : AEnv} (Z : Sys E)
include Z
end Go.Abs
end
section
namespace Go.Abs
def putS (l : List Str) (s : Str) : List Str := l.takeWhile (fun x => Op.bytesLess x s) ++ s :: (match l.dropWhile (fun x => Op.bytesLess x s) with | x :: r => if x == s then r else x :: r | [] => [])
theorem ykj {α : Type} {f : α → Bool} {done r : List α} {x : α} (h : ∀ y ∈ done, f y = true) (hx : f x = false) : (done ++ x :: r).takeWhile f = done ∧ (done ++ x :: r).dropWhile f = x :: r := by
 induction done with
 | nil => simp [hx]
 | cons y done ih =>
  obtain ⟨h1, h2⟩ := ih fun z hz => h z (by simp [hz])
  have hy := h y (by simp)
  simp only [List.cons_append, List.takeWhile_cons, List.dropWhile_cons, hy, if_true, h1, h2, and_self]
theorem yvR {α : Type} {f : α → Bool} {done : List α} (h : ∀ y ∈ done, f y = true) : done.takeWhile f = done ∧ done.dropWhile f = [] := by
 induction done with
 | nil => simp
 | cons y done ih =>
  obtain ⟨h1, h2⟩ := ih fun z hz => h z (by simp [hz])
  have hy := h y (by simp)
  simp only [List.takeWhile_cons, List.dropWhile_cons, hy, if_true, h1, h2, and_self]
theorem zQh {done r : List Str} {x s : Str} (h : ∀ y ∈ done, Op.bytesLess y s = true) (hx : Op.bytesLess x s = false) : putS (done ++ x :: r) s = done ++ s :: (if x == s then r else x :: r) := by
 obtain ⟨h1, h2⟩ := ykj (f := fun y => Op.bytesLess y s) (r := r) h hx
 unfold putS; rw [h1, h2]
theorem ywC {done : List Str} {s : Str} (h : ∀ y ∈ done, Op.bytesLess y s = true) : putS done s = done ++ [s] := by
 obtain ⟨h1, h2⟩ := yvR (f := fun y => Op.bytesLess y s) h
 unfold putS; rw [h1, h2]
theorem ywD (l : List Str) (s : Str) : (putS l s).length ≤ l.length + 1 := by
 have h := congrArg List.length (List.takeWhile_append_dropWhile (p := fun x => Op.bytesLess x s) (l := l))
 rw [lA] at h
 unfold putS
 rw [lA, lC]
 split
 ·rename_i x r hr
  rw [hr, lC] at h
  split <;> simp <;> omega
 ·rename_i hr
  rw [hr] at h
  simp at h ⊢; omega
theorem ywm (l : List Str) (s x : Str) : x ∈ putS l s ↔ x = s ∨ x ∈ l := by
 have h := List.takeWhile_append_dropWhile (p := fun x => Op.bytesLess x s) (l := l)
 unfold putS
 generalize l.takeWhile (fun x => Op.bytesLess x s) = t at *
 generalize l.dropWhile (fun x => Op.bytesLess x s) = d at *
 subst h
 cases d with
 | nil => simp [or_comm]
 | cons y r =>
  simp only
  by_cases hy : (y == s) = true
  ·rw [if_pos hy]
   have : y = s := by simpa using hy
   subst this
   simp only [List.mem_append, List.mem_cons]
   by_cases hx : x = y <;> simp [hx]
  ·rw [if_neg hy]
   simp only [List.mem_append, List.mem_cons]
   by_cases hx : x = s <;> simp [hx]
def uniS (a b : List Str) : List Str := b.foldl putS (a.foldl putS [])
theorem zqi (a acc : List Str) : (a.foldl putS acc).length ≤ acc.length + a.length := by
 induction a generalizing acc with
 | nil => simp
 | cons x a ih =>
  rw [List.foldl_cons, lC]
  have := ih (putS acc x)
  have := ywD acc x
  omega
theorem ywW (a b : List Str) : (uniS a b).length ≤ a.length + b.length := by
 unfold uniS
 have := zqi b (a.foldl putS [])
 have := zqi a []
 simp at this; omega
theorem zQd (a acc : List Str) (x : Str) : x ∈ a.foldl putS acc ↔ x ∈ a ∨ x ∈ acc := by
 induction a generalizing acc with
 | nil => simp
 | cons y a ih => rw [List.foldl_cons, ih, ywm, List.mem_cons]; by_cases h1 : x = y <;> simp [h1]
theorem ywn (a b : List Str) (x : Str) : x ∈ uniS a b ↔ x ∈ a ∨ x ∈ b := by unfold uniS; rw [zQd, zQd]; simp [or_comm]
theorem zXd (l : List Str) : (∀ e ∈ l.map (fun k => [D.str k]), e.length = 1) = True := zyT (f := fun k => [D.str k]) (fun _ => rfl) l
variable {E : AEnv} (Z : Sys E)
include Z
theorem yzg (l : List Str) (s : Str) (hl : l.length ≤ 1073741824) : E.C zjF [.one (.lst (l.map fun k => [.str k])), .one (.str s)] (.one (.lst ((putS l s).map fun k => [.str k]))) := by
 refine Z.zjF _ _ ⟨bl rfl, ?_⟩
 have hrs : zXR.rs = [.t 4] := rfl
 refine zwf fun N0 h0 => ?_
 simp only [go_sem]
 rw [h0]
 refine zwf fun N1 h1 => ?_
 simp only [go_sem]
 rw [h1]
 refine zwf fun N2 h2 => ?_
 simp only [go_sem]
 rw [h2]
 refine zwf fun N3 h3 => ?_
 have hls := zXd l
 have tail : ∀ (done rest : List Str) (st : St), l = done ++ rest → (∀ y ∈ done, Op.bytesLess y s = true) → (∀ x r, rest = x :: r → Op.bytesLess x s = false) → getS st.slots 5 = .own 5 1 (done.map fun k => [D.str k]) → getS st.slots 6 = .d (.int .i64 done.length) → getS st.slots 0 = .d (.lst (l.map fun k => [D.str k])) → getS st.slots 1 = .d (.str s) → st.mem = [] → st.tk = [(5, true)] → N3 st := by
  intro done rest st hd hI hr e5 e6 e0 e1 em et
  obtain ⟨sl, mm, tk⟩ := st
  simp only at e5 e6 e0 e1 em et
  subst em; subst et
  have hdl : done.length ≤ l.length := by rw [hd]; simp
  have i1 : (∀ e ∈ [[D.str s]], e.length = 1) = True := eq_true (by simp)
  have o1 : (done.length + 1) * 16 ≤ 2 ^ 46 := by omega
  have o2 : done.length + 1 ≤ 9223372036854775807 := by omega
  have hdd : (l.map fun k => [D.str k]).drop done.length = rest.map fun k => [D.str k] := by rw [← List.map_drop, hd, List.drop_left' rfl]
  rw [h3]
  simp only [go_sem, e5, e6, e0, e1, i1, o1, o2, lM]
  intro hlen
  cases rest with
  | nil =>
   rw [List.append_nil] at hd
   subst hd
   have hlt : ¬ ((l.length : Int) < l.length) := by omega
   have i2 : (∀ e ∈ ([] : List (List D)), e.length = 1) = True := eq_true (by simp)
   have o3 : (l.length + 1) * 16 ≤ 2 ^ 46 := by omega
   have hg0 : (l.map fun k => [D.str k]).getD l.length [] = [] := by simp
   have o2' : l.length ≤ 9223372036854775806 := by omega
   simp only [go_sem, mN, hlt, hdd, hls, i2, hg0, o2', lA, lM, o3, o2, hrs, ywC hI, mA, mC]
  | cons x r =>
   have hx := hr x r rfl
   have hlt := zzw hd
   have hww : IntKind.i64.wrap ((done.length : Int) + 1) = ((done.length + 1 : Nat) : Int) := zzd (by omega)
   have hg : (l.map fun k => [D.str k]).getD done.length [] = [.str x] := by rw [hd]; exact zv6 _ _ _ _ _
   have hll : l.length = done.length + (r.length + 1) := by rw [hd]; simp
   have hd1 : (l.map fun k => [D.str k]).drop (done.length + 1) = r.map fun k => [D.str k] := by
    rw [← List.map_drop, hd, show done ++ x :: r = (done ++ [x]) ++ r by simp, List.drop_left' (by simp)]
   cases hxs : (x == s) with
   | true =>
    have o3 : (done.length + 1 + r.length) * 16 ≤ 2 ^ 46 := by omega
    have o4 : done.length + 1 + r.length ≤ 9223372036854775807 := by omega
    have o5 : ((done.length + 1 : Nat) : Int) ≤ l.length := by omega
    have hpm : putS l s = done ++ s :: r := by rw [hd, zQh hI hx, hxs]; rfl
    simp only [go_sem, hlt, hg, hxs, hww, hls, hd1, Int.toNat_natCast, zXd, lA, lM, o3, o4, o5, hrs, hpm, mA, mC, List.append_assoc]
   | false =>
    have o3 : (done.length + 1 + (r.length + 1)) * 16 ≤ 2 ^ 46 := by omega
    have o4 : done.length + 1 + (r.length + 1) ≤ 9223372036854775807 := by omega
    have o5 : ((done.length : Nat) : Int) ≤ l.length := by omega
    have hpm : putS l s = done ++ s :: x :: r := by rw [hd, zQh hI hx, hxs]; rfl
    have i3 : (∀ e ∈ [D.str x] :: r.map (fun k => [D.str k]), e.length = 1) = True := eq_true (by simp)
    simp only [go_sem, hlt, hg, hxs, hls, hdd, i3, Int.toNat_natCast, zXd, lA, lM, o3, o4, o5, hrs, hpm, mA, mC, List.append_assoc]
 simp only [go_sem]
 refine zze fun K' hK => ?_
 refine zzh l (fun done => ∀ y ∈ done, Op.bytesLess y s = true) (fun done rest => ⟨[(6, .d (.int .i64 done.length)), (5, .own 5 1 (done.map fun k => [.str k])), (0, .d (.lst (l.map fun k => [.str k]))), (1, .d (.str s))], [], [(5, true)]⟩) ?_ (by simp) ?_ ?_
 ·exact zxc 5 5 1 [] [(5, 5)] rfl (by simp) rfl (by simp only [Ent0, go_sem, cN])
 ·intro done x r hd hI
  have hlt := zzw hd
  have hll : l.length = done.length + (r.length + 1) := by rw [hd]; simp
  have hww : IntKind.i64.wrap ((done.length : Int) + 1) = ((done.length + 1 : Nat) : Int) := zzd (by omega)
  have hg : (l.map fun k => [D.str k]).getD done.length [] = [.str x] := by rw [hd]; exact zv6 _ _ _ _ _
  have i1 : (∀ e ∈ [[D.str x]], e.length = 1) = True := eq_true (by simp)
  have o1 : (done.length + 1) * 16 ≤ 2 ^ 46 := by omega
  have o2 : done.length + 1 ≤ 9223372036854775807 := by omega
  simp only [zvd, go_sem, lM]
  intro _
  simp only [go_sem, hlt, hg, hls]
  cases hb : Op.bytesLess x s with
  | true =>
   simp only [go_sem, hlt, hg, hls, i1, o1, o2, hww, lM, lA, mA, mC, mN]
   exact ⟨by omega, zzs [(5, 25)] (by simp only [go_sem, cN]), zxF hI hb⟩
  | false =>
   simp only [go_sem, hK]
   exact tail done (x :: r) _ hd hI (fun x' r' e => by cases e; exact hb) rfl rfl rfl rfl rfl rfl
 ·intro hI
  have hlt : ¬ ((l.length : Int) < l.length) := by omega
  simp only [zvd, go_sem, lM]
  intro _
  have hg0 : (l.map fun k => [D.str k]).getD l.length [] = [] := by simp
  simp only [go_sem, hlt, hg0, hK]
  exact tail l [] _ (by simp) hI (fun x' r' e => by cases e) rfl rfl rfl rfl rfl rfl
theorem zK7 (a b : List Str) (hl : a.length + b.length ≤ 1073741824) : E.C zw7 [.one (.lst (a.map fun k => [.str k])), .one (.lst (b.map fun k => [.str k]))] (.one (.lst ((uniS a b).map fun k => [.str k]))) := by
 have hput := yzg Z
 refine Z.zw7 _ _ ⟨bl rfl, ?_⟩
 generalize hR : uniS a b = R
 unfold uniS at hR
 have hrs : zZo.rs = [.t 4] := rfl
 have la := zXd a
 have lb := zXd b
 refine zwf fun N0 h0 => ?_
 simp only [go_sem]
 rw [h0]
 refine zwf fun N1 h1 => ?_
 simp only [go_sem]
 rw [h1]
 refine zwf fun N2 h2 => ?_
 simp only [go_sem, lM]
 intro _
 refine zze fun K' hK => ?_
 refine zzh a (fun _ => True) (fun done rest => ⟨[(10, .d (.int .i64 done.length)), (9, .d (.int .i64 a.length)), (0, .d (.lst (a.map fun k => [.str k]))), (1, .d (.lst (b.map fun k => [.str k]))), (5, .d (.lst ((done.foldl putS []).map fun k => [.str k])))], [], []⟩) ?_ trivial ?_ ?_
 ·exact zzc (by simp only [go_sem, List.foldl_nil])
 ·intro done x r hd _
  have hlt := zzw hd
  have hll : a.length = done.length + (r.length + 1) := by rw [hd]; simp
  have hww : IntKind.i64.wrap ((done.length : Int) + 1) = ((done.length + 1 : Nat) : Int) := zzd (by omega)
  have hg : (a.map fun k => [D.str k]).getD done.length [] = [.str x] := by rw [hd]; exact zv6 _ _ _ _ _
  have hfl := zqi done []
  simp only [lN, zA] at hfl
  simp only [zwR, go_sem, hlt, hg, la, lM]
  refine zzb (hput _ x (by omega)) ?_
  simp only [go_sem, hww, lA, List.foldl_append, List.foldl_cons, List.foldl_nil]
  exact zzc (by simp only [go_sem])
 ·intro _
  have hfa := zqi a []
  simp only [lN, zA] at hfa
  generalize hA : a.foldl putS [] = A at *
  simp only [zwR, go_sem, hK]
  rw [h2]
  refine zwf fun N3 h3 => ?_
  simp only [go_sem, lM]
  intro _
  refine zze fun K2 hK2 => ?_
  refine zzh b (fun _ => True) (fun done rest => ⟨[(22, .d (.int .i64 done.length)), (21, .d (.int .i64 b.length)), (1, .d (.lst (b.map fun k => [.str k]))), (5, .d (.lst ((done.foldl putS A).map fun k => [.str k])))], [], []⟩) ?_ trivial ?_ ?_
  ·exact zzc (by simp only [go_sem, List.foldl_nil])
  ·intro done x r hd _
   have hlt := zzw hd
   have hll : b.length = done.length + (r.length + 1) := by rw [hd]; simp
   have hww : IntKind.i64.wrap ((done.length : Int) + 1) = ((done.length + 1 : Nat) : Int) := zzd (by omega)
   have hg : (b.map fun k => [D.str k]).getD done.length [] = [.str x] := by rw [hd]; exact zv6 _ _ _ _ _
   have hfl := zqi done A
   simp only [zwQ, go_sem, hlt, hg, lb, lM]
   refine zzb (hput _ x (by omega)) ?_
   simp only [go_sem, hww, lA, List.foldl_append, List.foldl_cons, List.foldl_nil]
   exact zzc (by simp only [go_sem])
  ·intro _
   simp only [zwQ, go_sem, hK2, h3, hrs, hR]
end Go.Abs
end
section
namespace Go.Abs
structure Lin where
 coefs : List Coef
 c : Int
def Lin.cells (a : Lin) : List D := [.lst (a.coefs.map Coef.cells), .int .i64 a.c]
theorem Lin.lens (l : List Lin) : (∀ e ∈ l.map Lin.cells, e.length = 2) = True := zyT (f := Lin.cells) (fun _ => rfl) l
attribute [go_sem] Lin.lens
def noLin : Lin := ⟨[], 0⟩
def leS (a b : Str) : Bool := Op.bytesLess a b || a == b
def errC (prev : Option Coef) (x : Coef) : Int :=
 if x.name == [] || decide ((x.name.length : Int) > 400) then 3
 else if x.n == 0 || !inRange x.n then 2
 else match prev with
  | none => 0
  | some p => if leS x.name p.name then 9 else 0
def coefE : Option Coef → List Coef → Int
 | _, [] => 0
 | p, x :: r => if errC p x == 0 then coefE (some x) r else errC p x
def linE (a : Lin) : Int := if decide ((a.coefs.length : Int) > 24) then 7 else if coefE none a.coefs == 0 then (if inRange a.c then 0 else 2) else coefE none a.coefs
theorem zXz {p : Option Coef} {d : List Coef} {x : Coef} (h : ∀ r, coefE none (d ++ r) = coefE p r) (hx : errC p x = 0) : ∀ r, coefE none ((d ++ [x]) ++ r) = coefE (some x) r := by
 intro r
 rw [List.append_assoc, h, List.singleton_append, coefE, hx]; rfl
def lastC (d : List Coef) : Option Coef := d.getLast?
theorem zwy (d : List Coef) (x : Coef) : lastC (d ++ [x]) = some x := by simp [lastC]
theorem zzJ {α : Type} (l : List α) : l = [] ∨ ∃ d y, l = d ++ [y] := by
 rcases List.eq_nil_or_concat l with h | ⟨d, y, h⟩
 ·exact .inl h
 ·exact .inr ⟨d, y, by rw [h, List.concat_eq_append]⟩
theorem yxt : IntKind.i64.wrap (0 + 1) = 1 := by decide
theorem zk1 : IntKind.i64.wrap (0 - 1) = -1 := by decide
theorem zzj {α : Type} {f : α → List D} {l a r : List α} {x : α} {n : Nat} (hl : l = a ++ x :: r) (hn : a.length = n) : (l.map f).getD n [] = f x := by subst hn; exact getD_at hl
theorem zQf {l d r : List Coef} {x y : Coef} (h : l = d ++ [y] ++ x :: r) : (l.map Coef.cells).getD d.length [] = y.cells := by
 subst h; simp
theorem zQg {d : List Coef} {y : Coef} (h : ((d ++ [y]).length : Int) ≤ 24) : IntKind.i64.wrap (((d ++ [y]).length : Int) - 1) = (d.length : Int) := by
 rw [lA] at *; simp at *; exact (i64_in _ (by omega)).trans (by omega)
variable {E : AEnv} (Z : Sys E)
include Z
theorem zyl (a : Lin) : E.C zzR [.agg a.cells] (.one (.int .i64 (linE a))) := by
 refine Z.zzR _ _ ⟨bl rfl, ?_⟩
 generalize hR : linE a = R
 obtain ⟨l, c⟩ := a
 have hc := zwc Z c
 unfold linE at hR
 simp only [Lin.cells] at *
 simp only [zvC, go_sem]
 intro _
 cases h24 : decide ((l.length : Int) > 24) with
 | true => simp only [h24, go_sem] at hR ⊢; exact hR
 | false =>
 simp only [h24, go_sem] at hR ⊢
 have h24' : (l.length : Int) ≤ 24 := by simpa using h24
 intro _
 refine zzh l (fun done => ∀ r, coefE none (done ++ r) = coefE (lastC done) r) (fun done rest => ⟨[(12, .d (.int .i64 done.length)), (11, .d (.int .i64 l.length)), (10, .d (.lst (l.map Coef.cells))), (1, .ptr 1 0)], [(1, [.d (.lst (l.map Coef.cells)), .d (.int .i64 c)])], []⟩) ?_ (fun r => rfl) ?_ ?_
 ·exact zzc (by simp only [go_sem, oS])
 ·intro done x r hl hI
  have hlt := zzw hl
  have hw : IntKind.i64.wrap ((done.length : Int) + 1) = ((done.length + 1 : Nat) : Int) := zzd (by omega)
  have hx := zwc Z x.n
  have hI2 := hI (x :: r)
  rw [← hl, coefE] at hI2
  have hE : ∀ e, errC (lastC done) x = e → e ≠ 0 → e = R := by
   intro e he hne
   rw [he, if_neg (by simpa using hne)] at hI2
   rw [hI2, if_neg (by simpa using hne)] at hR
   exact hR
  have hS := zXz hI (x := x)
  simp only [zxv, go_sem, getD_at hl, hlt, Coef.cells]
  try intro _
  cases e1 : (x.name == [] || decide ((x.name.length : Int) > 400)) with
  | true =>
   have := hE 3 (by unfold errC; rw [e1]; rfl) (by decide)
   cases e0 : (x.name == []) <;> simp only [e0, Bool.false_or, go_sem] at e1 ⊢ <;> try simp only [e1, go_sem]
   all_goals first | exact this | (intro _; exact this)
  | false =>
   have e1' := e1
   simp only [Bool.or_eq_false_iff] at e1
   simp only [e1.1, e1.2, go_sem, Bool.or_self]
   try intro _
   cases e2 : (x.n == 0) with
   | true =>
    simp only [go_sem]
    refine ⟨.one (.bool false), ?_⟩
    simp only [go_sem]
    exact hE 2 (by unfold errC; rw [e1', e2]; rfl) (by decide)
   | false =>
    simp only [go_sem]
    refine zzb hx ?_
    cases e3 : inRange x.n with
    | false =>
     simp only [go_sem]
     exact hE 2 (by unfold errC; rw [e1', e2, e3]; rfl) (by decide)
    | true =>
     simp only [go_sem]
     rcases zzJ done with rfl | ⟨d0, y, rfl⟩
     ·have he : errC (lastC []) x = 0 := by unfold errC; rw [e1', e2, e3]; rfl
      have h0 : (l.map Coef.cells).getD 0 [] = x.cells := getD_at hl
      simp only [go_sem, lN, nZ, yxt, zk1, h0, Coef.cells]
      refine ⟨zzc (by simp only [go_sem, oS, lA, lC, lN, zA, Int.natCast_one]), ?_⟩
      exact fun r2 => hS he r2
     ·have hp := zQf hl
      have hi := zQg (d := d0) (y := y) (by omega)
      have hgt : decide ((((d0 ++ [y]).length : Nat) : Int) > 0) = true := by simp
      have hr1 : ((d0.length : Int) < (l.length : Int)) = True := eq_true (by rw [lA] at hlt; simp at hlt; omega)
      simp only [go_sem, hgt, hi, hp, Int.toNat_natCast, Coef.cells, hr1]
      cases e4 : leS x.name y.name with
      | true =>
       have e4' := e4
       unfold leS at e4
       simp only [e4, go_sem]
       exact hE 9 (by unfold errC; rw [e1', e2, e3, zwy]; simp only [e4', go_sem]) (by decide)
      | false =>
       have he : errC (lastC (d0 ++ [y])) x = 0 := by unfold errC; rw [e1', e2, e3, zwy]; simp only [e4, go_sem]
       unfold leS at e4
       simp only [e4, go_sem, hw]
       refine ⟨zzc (by simp only [go_sem, oS, lA, lC, lN, zA]), ?_⟩
       intro r2; rw [zwy]; exact hS he r2
 ·intro hI
  have hz : coefE none l = 0 := by have := hI []; rw [List.append_nil] at this; rw [this]; rfl
  rw [hz] at hR
  simp only [zxv, go_sem]
  try intro _
  refine zzb hc ?_
  cases e3 : inRange c with
  | false => simp only [go_sem]; rw [e3] at hR; exact hR
  | true => simp only [go_sem]; rw [e3] at hR; exact hR
theorem zyP (a : Lin) : E.C zyw [.agg a.cells] (.one (.int .i64 (linE a))) := by
 refine Z.zyw _ _ ⟨bl rfl, ?_⟩
 generalize hR : linE a = R
 obtain ⟨l, c⟩ := a
 have hc := zxB Z c
 unfold linE at hR
 simp only [Lin.cells] at *
 simp only [zZp, go_sem]
 intro _
 cases h24 : decide ((l.length : Int) > 24) with
 | true => simp only [h24, go_sem] at hR ⊢; exact hR
 | false =>
 simp only [h24, go_sem] at hR ⊢
 have h24' : (l.length : Int) ≤ 24 := by simpa using h24
 refine zzh l (fun done => ∀ r, coefE none (done ++ r) = coefE (lastC done) r) (fun done rest => ⟨[(3, .d (.int .i64 done.length)), (1, .ptr 1 0)], [(1, [.d (.lst (l.map Coef.cells)), .d (.int .i64 c)])], []⟩) ?_ (fun r => rfl) ?_ ?_
 ·exact zzc (by simp only [go_sem, oS])
 ·intro done x r hl hI
  have hlt := zzw hl
  have hw : IntKind.i64.wrap ((done.length : Int) + 1) = ((done.length + 1 : Nat) : Int) := zzd (by omega)
  have hx := zxB Z x.n
  have hI2 := hI (x :: r)
  rw [← hl, coefE] at hI2
  have hE : ∀ e, errC (lastC done) x = e → e ≠ 0 → e = R := by
   intro e he hne
   rw [he, if_neg (by simpa using hne)] at hI2
   rw [hI2, if_neg (by simpa using hne)] at hR
   exact hR
  have hS := zXz hI (x := x)
  simp only [zwS, go_sem, getD_at hl, hlt, Coef.cells]
  try intro _
  cases e1 : (x.name == [] || decide ((x.name.length : Int) > 400)) with
  | true =>
   have := hE 3 (by unfold errC; rw [e1]; rfl) (by decide)
   cases e0 : (x.name == []) <;> simp only [e0, Bool.false_or, go_sem] at e1 ⊢ <;> try simp only [e1, go_sem]
   all_goals first | exact this | (intro _; exact this)
  | false =>
   have e1' := e1
   simp only [Bool.or_eq_false_iff] at e1
   simp only [e1.1, e1.2, go_sem, Bool.or_self]
   try intro _
   cases e2 : (x.n == 0) with
   | true =>
    simp only [go_sem]
    refine ⟨.one (.bool false), ?_⟩
    simp only [go_sem]
    exact hE 2 (by unfold errC; rw [e1', e2]; rfl) (by decide)
   | false =>
    simp only [go_sem]
    refine zzb hx ?_
    cases e3 : inRange x.n with
    | false =>
     simp only [go_sem]
     exact hE 2 (by unfold errC; rw [e1', e2, e3]; rfl) (by decide)
    | true =>
     simp only [go_sem]
     rcases zzJ done with rfl | ⟨d0, y, rfl⟩
     ·have he : errC (lastC []) x = 0 := by unfold errC; rw [e1', e2, e3]; rfl
      have h0 : (l.map Coef.cells).getD 0 [] = x.cells := getD_at hl
      simp only [go_sem, lN, nZ, yxt, zk1, h0, Coef.cells]
      refine ⟨zzc (by simp only [go_sem, oS, lA, lC, lN, zA, Int.natCast_one]), ?_⟩
      exact fun r2 => hS he r2
     ·have hp := zQf hl
      have hi := zQg (d := d0) (y := y) (by omega)
      have hgt : decide ((((d0 ++ [y]).length : Nat) : Int) > 0) = true := by simp
      have hr1 : ((d0.length : Int) < (l.length : Int)) = True := eq_true (by rw [lA] at hlt; simp at hlt; omega)
      simp only [go_sem, hgt, hi, hp, Int.toNat_natCast, Coef.cells, hr1]
      cases e4 : leS x.name y.name with
      | true =>
       have e4' := e4
       unfold leS at e4
       simp only [e4, go_sem]
       exact hE 9 (by unfold errC; rw [e1', e2, e3, zwy]; simp only [e4', go_sem]) (by decide)
      | false =>
       have he : errC (lastC (d0 ++ [y])) x = 0 := by unfold errC; rw [e1', e2, e3, zwy]; simp only [e4, go_sem]
       unfold leS at e4
       simp only [e4, go_sem, hw]
       refine ⟨zzc (by simp only [go_sem, oS, lA, lC, lN, zA]), ?_⟩
       intro r2; rw [zwy]; exact hS he r2
 ·intro hI
  have hz : coefE none l = 0 := by have := hI []; rw [List.append_nil] at this; rw [this]; rfl
  rw [hz] at hR
  simp only [zwS, go_sem]
  try intro _
  refine zzb hc ?_
  cases e3 : inRange c with
  | false => simp only [go_sem]; rw [e3] at hR; exact hR
  | true => simp only [go_sem]; rw [e3] at hR; exact hR
end Go.Abs
end
section
namespace Go.Abs
def resL (r : Lin × Bool) : CV := .tup [.agg r.1.cells, .one (.bool r.2)]
def rightL (x : Lin) : Lin × Bool := if linE x != 0 then (noLin, false) else (x, true)
def wAdd (a b : Int) : Int := IntKind.i64.wrap (a + b)
def addHd (x y : Coef) : List Coef := if wAdd x.n y.n != 0 then [⟨x.name, wAdd x.n y.n⟩] else []
def addGo : List Coef → List Coef → List Coef
 | [], b => b
 | a, [] => a
 | x :: a, y :: b => if Op.bytesLess x.name y.name then x :: addGo a (y :: b) else if Op.bytesLess y.name x.name then y :: addGo (x :: a) b else addHd x y ++ addGo a b
termination_by a b => a.length + b.length
def addL (a b : Lin) : Lin × Bool := if linE a != 0 || linE b != 0 then (noLin, false) else rightL ⟨addGo a.coefs b.coefs, wAdd a.c b.c⟩
theorem zwD (b : List Coef) : addGo [] b = b := by unfold addGo; rfl
theorem zwu (a : List Coef) : addGo a [] = a := by cases a <;> (unfold addGo; rfl)
theorem zqG (x y : Coef) (a b : List Coef) : addGo (x :: a) (y :: b) = if Op.bytesLess x.name y.name then x :: addGo a (y :: b) else if Op.bytesLess y.name x.name then y :: addGo (x :: a) b else addHd x y ++ addGo a b := by
 rw [addGo]
theorem zxe {a : Lin} (h : linE a = 0) : a.coefs.length ≤ 24 := by
 unfold linE at h
 split at h
 ·cases h
 ·rename_i h2; simp at h2; omega
structure AddS where
 ad : List Coef
 ar : List Coef
 bd : List Coef
 br : List Coef
 es : List Coef
structure AddS.Ok (l m : List Coef) (s : AddS) : Prop where
 a : l = s.ad ++ s.ar
 b : m = s.bd ++ s.br
 go : s.es ++ addGo s.ar s.br = addGo l m
 len : s.es.length ≤ s.ad.length + s.bd.length
variable {E : AEnv} (Z : Sys E)
include Z
theorem zYK (x : Lin) : E.C zxm [.agg x.cells] (resL (rightL x)) := by
 have h1 := zyl Z x
 refine Z.zxm _ _ ⟨bl rfl, ?_⟩
 generalize hR : rightL x = R
 unfold rightL at hR
 obtain ⟨l, c⟩ := x
 simp only [Lin.cells] at h1 ⊢
 simp only [zvF, go_sem]
 refine zzb h1 ?_
 cases c0 : (linE ⟨l, c⟩ != 0) with
 | true => rw [c0] at hR; subst hR; simp only [c0, go_sem, if_true]; exact ⟨rfl, rfl⟩
 | false => rw [c0] at hR; subst hR; simp only [c0, go_sem]
set_option maxHeartbeats 4000000 in
theorem zqr (a b : Lin) : E.C zxk [.agg a.cells, .agg b.cells] (resL (addL a b)) := by
 have ha := zyl Z a
 have hb := zyl Z b
 have hr := fun x => zYK Z x
 refine Z.zxk _ _ ⟨bl rfl, ?_⟩
 generalize hR : addL a b = R
 unfold addL at hR
 obtain ⟨l, c⟩ := a
 obtain ⟨m, d⟩ := b
 simp only [Lin.cells, resL] at ha hb hr ⊢
 simp only [zqc, go_sem]
 refine zzb ha ?_
 cases c0 : (linE ⟨l, c⟩ != 0) with
 | true =>
  rw [c0] at hR; subst hR
  simp only [c0, go_sem]
  refine ⟨.one (.int .i64 0), ?_⟩
  simp only [go_sem]
  exact ⟨rfl, rfl⟩
 | false =>
 simp only [c0, go_sem]
 refine zzb hb ?_
 cases c1 : (linE ⟨m, d⟩ != 0) with
 | true =>
  rw [c0, c1] at hR; subst hR
  simp only [c1, go_sem]
  exact ⟨rfl, rfl⟩
 | false =>
 rw [c0, c1] at hR
 have hl : l.length ≤ 24 := zxe (a := ⟨l, c⟩) (by simpa using c0)
 have hm : m.length ≤ 24 := zxe (a := ⟨m, d⟩) (by simpa using c1)
 have hr := hr ⟨addGo l m, wAdd c d⟩
 simp only [Bool.or_self, go_sem] at hR
 rw [hR] at hr
 simp only [c1, go_sem]
 refine zze fun K hK => ?_
 refine zzo (fun s : AddS => ⟨[(7, .d (.int .i64 s.ad.length)), (8, .d (.int .i64 s.bd.length)), (2, .ptr 2 0), (3, .ptr 3 0), (4, .ptr 4 0), (6, .ptr 6 0)],
  [(6, [.own 6 2 (s.es.map Coef.cells), .d (.int .i64 (wAdd c d))]), (4, [.full [], .d (.int .i64 0)]), (3, [.d (.lst (m.map Coef.cells)), .d (.int .i64 d)]), (2, [.d (.lst (l.map Coef.cells)), .d (.int .i64 c)])], [(6, true)]⟩)
  (AddS.Ok l m) (fun s => s.ar.length + s.br.length) ⟨[], l, [], m, []⟩ ?_ ⟨rfl, rfl, rfl, Nat.le_refl _⟩ ?_
 ·exact zjQ 6 0 6 2 _ [] [(6, 6)] rfl rfl (by simp) rfl (by simp only [Ent0, go_sem, cN, oS, mN, lN, nZ]; rfl)
 ·rintro ⟨ad, ar, bd, br, es⟩ ⟨h1, h2, h3, h4⟩
  simp only at h1 h2 h3 h4
  have hel : es.length ≤ 48 := by
   have := congrArg List.length h1
   have := congrArg List.length h2
   simp only [lA] at *
   omega
  have hw1 : IntKind.i64.wrap ((ad.length : Int) + 1) = ((ad.length + 1 : Nat) : Int) := zzd (by have := congrArg List.length h1; simp only [lA] at this; omega)
  have hw2 : IntKind.i64.wrap ((bd.length : Int) + 1) = ((bd.length + 1 : Nat) : Int) := zzd (by have := congrArg List.length h2; simp only [lA] at this; omega)
  cases ar with
  | nil =>
   have hi1 : decide ((ad.length : Int) < (l.length : Int)) = false := by simp [h1]
   have hq : ((ad.length : Int) == (l.length : Int)) = true := by simp [h1]
   have hx0 : (l.map Coef.cells).getD ad.length [] = [] := by rw [h1]; simp
   cases br with
   | nil =>
    have hi2 : decide ((bd.length : Int) < (m.length : Int)) = false := by simp [h2]
    rw [zwD, List.append_nil] at h3
    subst h3
    simp only [zzL, go_sem, hi1, hi2, hK]
    intro _ _
    refine zzb hr ?_
    simp only [go_sem]
   | cons y br =>
    have hlt : ((bd.length : Int) < (m.length : Int)) = True := eq_true (by rw [h2]; simp; omega)
    have hi2 : decide ((bd.length : Int) < (m.length : Int)) = true := decide_eq_true (of_eq_true hlt)
    have hy := zzj (f := Coef.cells) h2 rfl
    have hq2 : ((bd.length : Int) == (m.length : Int)) = false := by
     have : ¬ ((bd.length : Int) = (m.length : Int)) := by rw [h2]; simp; omega
     simpa using this
    rw [zwD] at h3
    simp only [zzL, go_sem, hi1, hi2, hq, hq2, hy, hx0, hlt, Coef.cells, lM]
    intros
    refine ⟨⟨by simp, by omega, by omega⟩, ⟨ad, [], bd ++ [y], br, es ++ [y]⟩, zzs [(6, 138)] ?_, ⟨h1, by rw [h2, List.append_assoc]; rfl, by rw [zwD, ← h3, List.append_assoc]; rfl, by simp only [lA, lC, lN] <;> omega⟩, by simp only [lC, lN] <;> omega⟩
    simp only [go_sem, cN, oS, lA, lC, lN, zA, mA, mC, mN, hw2, Coef.cells]
    try rfl
  | cons x ar =>
   have hlt1 : ((ad.length : Int) < (l.length : Int)) = True := eq_true (by rw [h1]; simp; omega)
   have hi1 : decide ((ad.length : Int) < (l.length : Int)) = true := decide_eq_true (of_eq_true hlt1)
   have hx := zzj (f := Coef.cells) h1 rfl
   have hq : ((ad.length : Int) == (l.length : Int)) = false := by
    have : ¬ ((ad.length : Int) = (l.length : Int)) := by rw [h1]; simp; omega
    simpa using this
   cases br with
   | nil =>
    have hi2 : decide ((bd.length : Int) < (m.length : Int)) = false := by simp [h2]
    have hq2 : ((bd.length : Int) == (m.length : Int)) = true := by simp [h2]
    have hy0 : (m.map Coef.cells).getD bd.length [] = [] := by rw [h2]; simp
    rw [zwu] at h3
    simp only [zzL, go_sem, hi1, hi2, hq, hq2, hy0, hx, hlt1, Coef.cells, lM]
    intros
    refine ⟨⟨by simp, by omega, by omega⟩, ⟨ad ++ [x], ar, bd, [], es ++ [x]⟩, zzs [(6, 105)] ?_, ⟨by rw [h1, List.append_assoc]; rfl, h2, by rw [zwu, ← h3, List.append_assoc]; rfl, by simp only [lA, lC, lN] <;> omega⟩, by simp only [lC, lN] <;> omega⟩
    simp only [go_sem, cN, oS, lA, lC, lN, zA, mA, mC, mN, hw1, Coef.cells]
    try rfl
   | cons y br =>
    have hlt2 : ((bd.length : Int) < (m.length : Int)) = True := eq_true (by rw [h2]; simp; omega)
    have hi2 : decide ((bd.length : Int) < (m.length : Int)) = true := decide_eq_true (of_eq_true hlt2)
    have hy := zzj (f := Coef.cells) h2 rfl
    have hq2 : ((bd.length : Int) == (m.length : Int)) = false := by
     have : ¬ ((bd.length : Int) = (m.length : Int)) := by rw [h2]; simp; omega
     simpa using this
    rw [zqG] at h3
    cases e1 : Op.bytesLess x.name y.name with
    | true =>
     rw [e1, if_pos rfl] at h3
     simp only [zzL, go_sem, hi1, hi2, hq, hq2, hy, hx, hlt1, hlt2, e1, Coef.cells, lM]
     intros
     refine ⟨⟨by simp, by omega, by omega⟩, ⟨ad ++ [x], ar, bd, y :: br, es ++ [x]⟩, zzs [(6, 105)] ?_, ⟨by rw [h1, List.append_assoc]; rfl, h2, by rw [← h3, List.append_assoc]; rfl, by simp only [lA, lC, lN] <;> omega⟩, by simp only [lC, lN] <;> omega⟩
     simp only [go_sem, cN, oS, lA, lC, lN, zA, mA, mC, mN, hw1, Coef.cells]
     try rfl
    | false =>
     rw [e1, if_neg (by decide)] at h3
     cases e2 : Op.bytesLess y.name x.name with
     | true =>
      rw [e2, if_pos rfl] at h3
      simp only [zzL, go_sem, hi1, hi2, hq, hq2, hy, hx, hlt1, hlt2, e1, e2, Coef.cells, lM]
      intros
      refine ⟨⟨by simp, by omega, by omega⟩, ⟨ad, x :: ar, bd ++ [y], br, es ++ [y]⟩, zzs [(6, 138)] ?_, ⟨h1, by rw [h2, List.append_assoc]; rfl, by rw [← h3, List.append_assoc]; rfl, by simp only [lA, lC, lN] <;> omega⟩, by simp only [lC, lN] <;> omega⟩
      simp only [go_sem, cN, oS, lA, lC, lN, zA, mA, mC, mN, hw2, Coef.cells]
      try rfl
     | false =>
      rw [e2, if_neg (by decide)] at h3
      unfold addHd wAdd at h3
      cases e3 : (IntKind.i64.wrap (x.n + y.n) != 0) with
      | true =>
       rw [e3, if_pos rfl] at h3
       simp only [zzL, go_sem, hi1, hi2, hq, hq2, hy, hx, hlt1, hlt2, e1, e2, e3, Coef.cells, lM]
       intros
       refine ⟨⟨by simp, by omega, by omega⟩, ⟨ad ++ [x], ar, bd ++ [y], br, es ++ [⟨x.name, IntKind.i64.wrap (x.n + y.n)⟩]⟩, zzs [(6, 63)] ?_, ⟨by rw [h1, List.append_assoc]; rfl, by rw [h2, List.append_assoc]; rfl, by rw [← h3, List.append_assoc]; try rfl, by simp only [lA, lC, lN] <;> omega⟩, by simp only [lC, lN] <;> omega⟩
       simp only [go_sem, cN, oS, lA, lC, lN, zA, mA, mC, mN, hw1, hw2, Coef.cells]
       try rfl
      | false =>
       rw [e3, if_neg (by decide), List.nil_append] at h3
       simp only [zzL, go_sem, hi1, hi2, hq, hq2, hy, hx, hlt1, hlt2, e1, e2, e3, Coef.cells, lM]
       intros
       refine ⟨⟨ad ++ [x], ar, bd ++ [y], br, es⟩, zzs [(6, 6)] ?_, ⟨by rw [h1, List.append_assoc]; rfl, by rw [h2, List.append_assoc]; rfl, h3, by simp only [lA, lC, lN] <;> omega⟩, by simp only [lC, lN] <;> omega⟩
       simp only [go_sem, cN, oS, lA, lC, lN, zA, mA, mC, mN, hw1, hw2, Coef.cells]
       try rfl
theorem zVb (x : Lin) : E.C zkW [.agg x.cells] (resL (rightL x)) := by
 have h1 := zyP Z x
 refine Z.zkW _ _ ⟨bl rfl, ?_⟩
 generalize hR : rightL x = R
 unfold rightL at hR
 obtain ⟨l, c⟩ := x
 simp only [Lin.cells] at h1 ⊢
 simp only [zZt, go_sem]
 refine zzb h1 ?_
 cases c0 : (linE ⟨l, c⟩ != 0) with
 | true => rw [c0] at hR; subst hR; simp only [c0, go_sem, if_true]; exact ⟨rfl, rfl⟩
 | false =>
  have hl : l.length ≤ 24 := zxe (a := ⟨l, c⟩) (by simpa using c0)
  rw [c0] at hR; subst hR; simp only [c0, go_sem, lM, lN]
  exact ⟨fun e he => (by cases he), by omega, by omega⟩
set_option maxHeartbeats 4000000 in
theorem yzh (a b : Lin) : E.C zjH [.agg a.cells, .agg b.cells] (resL (addL a b)) := by
 have ha := zyP Z a
 have hb := zyP Z b
 have hr := fun x => zVb Z x
 refine Z.zjH _ _ ⟨bl rfl, ?_⟩
 generalize hR : addL a b = R
 unfold addL at hR
 obtain ⟨l, c⟩ := a
 obtain ⟨m, d⟩ := b
 simp only [Lin.cells, resL] at ha hb hr ⊢
 simp only [zXS, go_sem]
 refine zzb ha ?_
 cases c0 : (linE ⟨l, c⟩ != 0) with
 | true =>
  rw [c0] at hR; subst hR
  simp only [c0, go_sem]
  refine ⟨.one (.int .i64 0), ?_⟩
  simp only [go_sem]
  exact ⟨rfl, rfl⟩
 | false =>
 simp only [c0, go_sem]
 refine zzb hb ?_
 cases c1 : (linE ⟨m, d⟩ != 0) with
 | true =>
  rw [c0, c1] at hR; subst hR
  simp only [c1, go_sem]
  exact ⟨rfl, rfl⟩
 | false =>
 rw [c0, c1] at hR
 have hl : l.length ≤ 24 := zxe (a := ⟨l, c⟩) (by simpa using c0)
 have hm : m.length ≤ 24 := zxe (a := ⟨m, d⟩) (by simpa using c1)
 have hr := hr ⟨addGo l m, wAdd c d⟩
 simp only [Bool.or_self, go_sem] at hR
 rw [hR] at hr
 simp only [c1, go_sem]
 refine zze fun K hK => ?_
 refine zzo (fun s : AddS => ⟨[(7, .d (.int .i64 s.ad.length)), (8, .d (.int .i64 s.bd.length)), (2, .ptr 2 0), (3, .ptr 3 0), (4, .ptr 4 0), (6, .ptr 6 0)],
  [(6, [.own 6 2 (s.es.map Coef.cells), .d (.int .i64 (wAdd c d))]), (4, [.full [], .d (.int .i64 0)]), (3, [.d (.lst (m.map Coef.cells)), .d (.int .i64 d)]), (2, [.d (.lst (l.map Coef.cells)), .d (.int .i64 c)])], [(6, true)]⟩)
  (AddS.Ok l m) (fun s => s.ar.length + s.br.length) ⟨[], l, [], m, []⟩ ?_ ⟨rfl, rfl, rfl, Nat.le_refl _⟩ ?_
 ·exact zjQ 6 0 6 2 _ [] [(6, 6)] rfl rfl (by simp) rfl (by simp only [Ent0, go_sem, cN, oS, mN, lN, nZ]; rfl)
 ·rintro ⟨ad, ar, bd, br, es⟩ ⟨h1, h2, h3, h4⟩
  simp only at h1 h2 h3 h4
  have hel : es.length ≤ 48 := by
   have := congrArg List.length h1
   have := congrArg List.length h2
   simp only [lA] at *
   omega
  have hw1 : IntKind.i64.wrap ((ad.length : Int) + 1) = ((ad.length + 1 : Nat) : Int) := zzd (by have := congrArg List.length h1; simp only [lA] at this; omega)
  have hw2 : IntKind.i64.wrap ((bd.length : Int) + 1) = ((bd.length + 1 : Nat) : Int) := zzd (by have := congrArg List.length h2; simp only [lA] at this; omega)
  cases ar with
  | nil =>
   have hi1 : decide ((ad.length : Int) < (l.length : Int)) = false := by simp [h1]
   have hq : ((ad.length : Int) == (l.length : Int)) = true := by simp [h1]
   have hx0 : (l.map Coef.cells).getD ad.length [] = [] := by rw [h1]; simp
   cases br with
   | nil =>
    have hi2 : decide ((bd.length : Int) < (m.length : Int)) = false := by simp [h2]
    rw [zwD, List.append_nil] at h3
    subst h3
    simp only [zz9, go_sem, hi1, hi2, hK]
    intro _ _
    refine zzb hr ?_
    simp only [go_sem]
   | cons y br =>
    have hlt : ((bd.length : Int) < (m.length : Int)) = True := eq_true (by rw [h2]; simp; omega)
    have hi2 : decide ((bd.length : Int) < (m.length : Int)) = true := decide_eq_true (of_eq_true hlt)
    have hy := zzj (f := Coef.cells) h2 rfl
    have hq2 : ((bd.length : Int) == (m.length : Int)) = false := by
     have : ¬ ((bd.length : Int) = (m.length : Int)) := by rw [h2]; simp; omega
     simpa using this
    rw [zwD] at h3
    simp only [zz9, go_sem, hi1, hi2, hq, hq2, hy, hx0, hlt, Coef.cells, lM]
    intros
    refine ⟨⟨by simp, by omega, by omega⟩, ⟨ad, [], bd ++ [y], br, es ++ [y]⟩, zzs [(6, 138)] ?_, ⟨h1, by rw [h2, List.append_assoc]; rfl, by rw [zwD, ← h3, List.append_assoc]; rfl, by simp only [lA, lC, lN] <;> omega⟩, by simp only [lC, lN] <;> omega⟩
    simp only [go_sem, cN, oS, lA, lC, lN, zA, mA, mC, mN, hw2, Coef.cells]
    try rfl
  | cons x ar =>
   have hlt1 : ((ad.length : Int) < (l.length : Int)) = True := eq_true (by rw [h1]; simp; omega)
   have hi1 : decide ((ad.length : Int) < (l.length : Int)) = true := decide_eq_true (of_eq_true hlt1)
   have hx := zzj (f := Coef.cells) h1 rfl
   have hq : ((ad.length : Int) == (l.length : Int)) = false := by
    have : ¬ ((ad.length : Int) = (l.length : Int)) := by rw [h1]; simp; omega
    simpa using this
   cases br with
   | nil =>
    have hi2 : decide ((bd.length : Int) < (m.length : Int)) = false := by simp [h2]
    have hq2 : ((bd.length : Int) == (m.length : Int)) = true := by simp [h2]
    have hy0 : (m.map Coef.cells).getD bd.length [] = [] := by rw [h2]; simp
    rw [zwu] at h3
    simp only [zz9, go_sem, hi1, hi2, hq, hq2, hy0, hx, hlt1, Coef.cells, lM]
    intros
    refine ⟨⟨by simp, by omega, by omega⟩, ⟨ad ++ [x], ar, bd, [], es ++ [x]⟩, zzs [(6, 105)] ?_, ⟨by rw [h1, List.append_assoc]; rfl, h2, by rw [zwu, ← h3, List.append_assoc]; rfl, by simp only [lA, lC, lN] <;> omega⟩, by simp only [lC, lN] <;> omega⟩
    simp only [go_sem, cN, oS, lA, lC, lN, zA, mA, mC, mN, hw1, Coef.cells]
    try rfl
   | cons y br =>
    have hlt2 : ((bd.length : Int) < (m.length : Int)) = True := eq_true (by rw [h2]; simp; omega)
    have hi2 : decide ((bd.length : Int) < (m.length : Int)) = true := decide_eq_true (of_eq_true hlt2)
    have hy := zzj (f := Coef.cells) h2 rfl
    have hq2 : ((bd.length : Int) == (m.length : Int)) = false := by
     have : ¬ ((bd.length : Int) = (m.length : Int)) := by rw [h2]; simp; omega
     simpa using this
    rw [zqG] at h3
    cases e1 : Op.bytesLess x.name y.name with
    | true =>
     rw [e1, if_pos rfl] at h3
     simp only [zz9, go_sem, hi1, hi2, hq, hq2, hy, hx, hlt1, hlt2, e1, Coef.cells, lM]
     intros
     refine ⟨⟨by simp, by omega, by omega⟩, ⟨ad ++ [x], ar, bd, y :: br, es ++ [x]⟩, zzs [(6, 105)] ?_, ⟨by rw [h1, List.append_assoc]; rfl, h2, by rw [← h3, List.append_assoc]; rfl, by simp only [lA, lC, lN] <;> omega⟩, by simp only [lC, lN] <;> omega⟩
     simp only [go_sem, cN, oS, lA, lC, lN, zA, mA, mC, mN, hw1, Coef.cells]
     try rfl
    | false =>
     rw [e1, if_neg (by decide)] at h3
     cases e2 : Op.bytesLess y.name x.name with
     | true =>
      rw [e2, if_pos rfl] at h3
      simp only [zz9, go_sem, hi1, hi2, hq, hq2, hy, hx, hlt1, hlt2, e1, e2, Coef.cells, lM]
      intros
      refine ⟨⟨by simp, by omega, by omega⟩, ⟨ad, x :: ar, bd ++ [y], br, es ++ [y]⟩, zzs [(6, 138)] ?_, ⟨h1, by rw [h2, List.append_assoc]; rfl, by rw [← h3, List.append_assoc]; rfl, by simp only [lA, lC, lN] <;> omega⟩, by simp only [lC, lN] <;> omega⟩
      simp only [go_sem, cN, oS, lA, lC, lN, zA, mA, mC, mN, hw2, Coef.cells]
      try rfl
     | false =>
      rw [e2, if_neg (by decide)] at h3
      unfold addHd wAdd at h3
      cases e3 : (IntKind.i64.wrap (x.n + y.n) != 0) with
      | true =>
       rw [e3, if_pos rfl] at h3
       simp only [zz9, go_sem, hi1, hi2, hq, hq2, hy, hx, hlt1, hlt2, e1, e2, e3, Coef.cells, lM]
       intros
       refine ⟨⟨by simp, by omega, by omega⟩, ⟨ad ++ [x], ar, bd ++ [y], br, es ++ [⟨x.name, IntKind.i64.wrap (x.n + y.n)⟩]⟩, zzs [(6, 63)] ?_, ⟨by rw [h1, List.append_assoc]; rfl, by rw [h2, List.append_assoc]; rfl, by rw [← h3, List.append_assoc]; try rfl, by simp only [lA, lC, lN] <;> omega⟩, by simp only [lC, lN] <;> omega⟩
       simp only [go_sem, cN, oS, lA, lC, lN, zA, mA, mC, mN, hw1, hw2, Coef.cells]
       try rfl
      | false =>
       rw [e3, if_neg (by decide), List.nil_append] at h3
       simp only [zz9, go_sem, hi1, hi2, hq, hq2, hy, hx, hlt1, hlt2, e1, e2, e3, Coef.cells, lM]
       intros
       refine ⟨⟨ad ++ [x], ar, bd ++ [y], br, es⟩, zzs [(6, 6)] ?_, ⟨by rw [h1, List.append_assoc]; rfl, by rw [h2, List.append_assoc]; rfl, h3, by simp only [lA, lC, lN] <;> omega⟩, by simp only [lC, lN] <;> omega⟩
       simp only [go_sem, cN, oS, lA, lC, lN, zA, mA, mC, mN, hw1, hw2, Coef.cells]
       try rfl
end Go.Abs
end
section
namespace Go.Abs
theorem zZ8 (p q : Nat) : (p : Int).tmod (q : Int) = ((p % q : Nat) : Int) := (Int.ofNat_tmod p q).symm
def gcdI (a b : Int) : Int := (Nat.gcd a.natAbs b.natAbs : Int)
theorem zWp (n : Int) : absI n = (n.natAbs : Int) := by unfold absI; split <;> omega
def divI (a b : Int) : Int × Bool := if !inRange a || !inRange b || b == 0 then (0, false) else (a / b, true)
theorem zj5 {a g : Int} (hg : 0 < g) : a / g = if a.tmod g != 0 && decide (a.tmod g < 0) then a.tdiv g - 1 else a.tdiv g := by
 have h1 := Int.mul_tdiv_add_tmod a g
 have h2 := Int.mul_ediv_add_emod a g
 have h3 := Int.emod_nonneg a (by omega : g ≠ 0)
 have h4 := Int.emod_lt_of_pos a hg
 have h5 := Int.tmod_lt_of_pos a hg
 have h6 : -g < a.tmod g := Int.neg_lt_of_neg_lt (by have := Int.tmod_lt_of_pos (-a) hg; rw [Int.neg_tmod] at this; exact this)
 have key : ∀ q r q' r' : Int, g * q + r = a → g * q' + r' = a → 0 ≤ r' → r' < g → (0 ≤ r ∧ r < g → q' = q) ∧ (r < 0 ∧ -g < r → q' = q - 1) := by
  intro q r q' r' e1 e2 e3 e4
  constructor
  ·rintro ⟨f1, f2⟩
   have : g * (q' - q) = r - r' := by rw [Int.mul_sub]; omega
   have h : q' - q = 0 := by
    rcases Int.lt_trichotomy (q' - q) 0 with h | h | h
    ·have := Int.mul_le_mul_of_nonneg_left (show q' - q ≤ -1 by omega) (show 0 ≤ g by omega); omega
    ·exact h
    ·have := Int.mul_le_mul_of_nonneg_left (show 1 ≤ q' - q by omega) (show 0 ≤ g by omega); omega
   omega
  ·rintro ⟨f1, f2⟩
   have : g * (q' - q) = r - r' := by rw [Int.mul_sub]; omega
   have h : q' - q = -1 := by
    rcases Int.lt_trichotomy (q' - q) (-1) with h | h | h
    ·have := Int.mul_le_mul_of_nonneg_left (show q' - q ≤ -2 by omega) (show 0 ≤ g by omega); omega
    ·exact h
    ·have := Int.mul_le_mul_of_nonneg_left (show 0 ≤ q' - q by omega) (show 0 ≤ g by omega); omega
   omega
 obtain ⟨k1, k2⟩ := key (a.tdiv g) (a.tmod g) (a / g) (a % g) h1 h2 h3 h4
 by_cases h : a.tmod g < 0
 ·rw [if_pos (by simp; omega)]; exact k2 ⟨h, h6⟩
 ·rw [if_neg (by simp; omega)]; exact k1 ⟨by omega, h5⟩
theorem yx9 {a g : Int} (hg : 0 < g) : a % g = if a.tmod g != 0 && decide (a.tmod g < 0) then a.tmod g + g else a.tmod g := by
 have h1 := Int.mul_tdiv_add_tmod a g
 have h2 := Int.mul_ediv_add_emod a g
 have h3 := zj5 (a := a) hg
 split at h3
 ·rename_i h; rw [if_pos h]; rw [h3, Int.mul_sub] at h2; omega
 ·rename_i h; rw [if_neg h]; rw [h3] at h2; omega
theorem zjh (a : Int) {g : Int} (hg : 0 < g) : -(absI a) ≤ a.tdiv g ∧ a.tdiv g ≤ absI a := by
 have : (a.tdiv g).natAbs ≤ a.natAbs := by rw [Int.natAbs_tdiv]; exact Nat.div_le_self _ _
 rw [zWp]; omega
theorem zWk (a : Int) {g : Int} (hg : 0 < g) : -g < a.tmod g ∧ a.tmod g < g := by
 have h5 := Int.tmod_lt_of_pos a hg
 have h6 := Int.tmod_lt_of_pos (-a) hg
 rw [Int.neg_tmod] at h6
 omega
theorem yxp (a : Int) {g : Int} (hg : 0 < g) : (a.tmod g != 0 && decide (a.tmod g < 0)) = (a.tmod g != 0 && decide (a < 0)) := by
 by_cases h : 0 ≤ a
 ·have := Int.tmod_nonneg g h
  have e1 : decide (a.tmod g < 0) = false := by simp; omega
  have e2 : decide (a < 0) = false := by simp; omega
  rw [e1, e2]
 ·have := Int.tmod_nonneg g (show 0 ≤ -a by omega)
  rw [Int.neg_tmod] at this
  have e2 : decide (a < 0) = true := by simp; omega
  rw [e2]
  by_cases h0 : a.tmod g = 0
  ·simp [h0]
  ·have e1 : decide (a.tmod g < 0) = true := by simp; omega
   rw [e1]
variable {E : AEnv} (Z : Sys E)
include Z
theorem zYW {n : Int} (h : inRange n = true) : E.C zvg [.one (.int .i64 n)] (.one (.int .i64 (absI n))) := by
 rw [zzm] at h
 refine Z.zvg _ _ ⟨bl rfl, ?_⟩
 have h1 : (n == -9223372036854775808) = false := by simp; omega
 have h2 : IntKind.i64.wrap (0 - n) = -n := (i64_in _ (by omega)).trans (by omega)
 simp only [zYv, go_sem, h1, h2]
 unfold absI
 cases h3 : decide (n < 0) with
 | true => simp only [go_sem]; rw [if_neg (by simpa using h3)]
 | false => simp only [go_sem]; rw [if_pos (by simpa using h3)]
theorem zQ9 {a b : Int} (ha : inRange a = true) (hb : inRange b = true) : E.C zq1 [.one (.int .i64 a), .one (.int .i64 b)] (.one (.int .i64 (gcdI a b))) := by
 have h1 := zv9 Z ha
 have h2 := zv9 Z hb
 refine Z.zq1 _ _ ⟨bl rfl, ?_⟩
 rw [zWp] at h1 h2
 unfold gcdI
 generalize hg : a.natAbs.gcd b.natAbs = g
 generalize a.natAbs = p at *
 generalize b.natAbs = q at *
 simp only [zXI, go_sem]
 refine zzb h1 ?_
 simp only [go_sem]
 refine zzb h2 ?_
 simp only [go_sem]
 refine zzo (fun s : Nat × Nat => ⟨[(0, .d (.int .i64 s.1)), (1, .d (.int .i64 s.2))], [], []⟩) (fun s => s.1.gcd s.2 = g) (fun s => s.2) (p, q) ?_ hg ?_
 ·exact zzc (by simp only [go_sem])
 ·rintro ⟨u, v⟩ h
  simp only at h
  cases v with
  | zero =>
   have h0 : ((0 : Int) != 0) = false := rfl
   rw [Nat.gcd_zero_right] at h
   simp only [zvb, go_sem, nZ, h0, h]
  | succ v =>
   have h0 : (((v + 1 : Nat) : Int) != 0) = true := by simp; omega
   have hm := zZ8 u (v + 1)
   simp only [zvb, go_sem, h0, hm]
   refine ⟨by omega, (v + 1, u % (v + 1)), zzc (by simp only [go_sem]), ?_, Nat.mod_lt _ (by omega)⟩
   show (v + 1).gcd (u % (v + 1)) = g
   rw [← h, Nat.gcd_comm u, Nat.gcd_rec (v + 1) u, Nat.gcd_comm]
theorem yzd {a b : Int} (ha : inRange a = true) (hb : inRange b = true) : E.C zq5 [.one (.int .i64 a), .one (.int .i64 b)] (.one (.int .i64 (gcdI a b))) := by
 have h1 := zYW Z ha
 have h2 := zYW Z hb
 refine Z.zq5 _ _ ⟨bl rfl, ?_⟩
 rw [zWp] at h1 h2
 unfold gcdI
 generalize hg : a.natAbs.gcd b.natAbs = g
 generalize a.natAbs = p at *
 generalize b.natAbs = q at *
 simp only [zXN, go_sem]
 refine zzb h1 ?_
 simp only [go_sem]
 refine zzb h2 ?_
 simp only [go_sem]
 refine zzo (fun s : Nat × Nat => ⟨[(0, .d (.int .i64 s.1)), (1, .d (.int .i64 s.2))], [], []⟩) (fun s => s.1.gcd s.2 = g) (fun s => s.2) (p, q) ?_ hg ?_
 ·exact zzc (by simp only [go_sem])
 ·rintro ⟨u, v⟩ h
  simp only at h
  cases v with
  | zero =>
   have h0 : decide (((0 : Nat) : Int) > 0) = false := rfl
   rw [Nat.gcd_zero_right] at h
   simp only [zvc, go_sem, h0, h]
  | succ v =>
   have h0 : decide (((v + 1 : Nat) : Int) > 0) = true := by simp <;> omega
   have hm := zZ8 u (v + 1)
   simp only [zvc, go_sem, h0, hm]
   refine ⟨by omega, (v + 1, u % (v + 1)), zzc (by simp only [go_sem]), ?_, Nat.mod_lt _ (by omega)⟩
   show (v + 1).gcd (u % (v + 1)) = g
   rw [← h, Nat.gcd_comm u, Nat.gcd_rec (v + 1) u, Nat.gcd_comm]
set_option linter.unnecessarySimpa false in
theorem zWO {a g : Int} (hg : 0 < g) : E.C zwz [.one (.int .i64 a), .one (.int .i64 g)] (.tup [.one (.int .i64 (divI a g).1), .one (.int .i64 (if (divI a g).2 then a % g else 0)), .one (.bool (divI a g).2)]) := by
 have h1 := zwc Z a
 have h2 := zwc Z g
 refine Z.zwz _ _ ⟨bl rfl, ?_⟩
 generalize hR : divI a g = R
 unfold divI at hR
 have h0 : (g == 0) = false := by simp; omega
 simp only [zqd, go_sem]
 refine zzb h1 ?_
 cases c1 : inRange a with
 | false =>
  simp only [c1, h0, go_sem] at hR ⊢
  refine ⟨.one (.bool true), ?_⟩
  simp only [go_sem]
  subst hR
  simp
 | true =>
  simp only [go_sem]
  refine zzb h2 ?_
  cases c2 : inRange g with
  | false =>
   simp only [c1, c2, h0, go_sem] at hR ⊢
   subst hR
   simp
  | true =>
   simp only [c1, c2, h0, go_sem] at hR ⊢
   have hab := (zxN a).1 c1
   rw [zzm] at c1 c2
   have hgn : decide (g < 0) = false := by simp; omega
   have e1 := zj5 (a := a) hg
   have e2 := yx9 (a := a) hg
   have ⟨b1, b2⟩ := zjh a hg
   have ⟨b3, b4⟩ := zWk a hg
   refine ⟨by omega, by omega, ?_⟩
   subst hR
   simp only [hgn, if_true]
   cases c3 : (a.tmod g != 0 && decide (a.tmod g < 0)) with
   | true =>
    rw [c3, if_pos rfl] at e1 e2
    have c4 : decide (a.tmod g < 0) = true := by simp only [Bool.and_eq_true] at c3; exact c3.2
    have c5 : (a.tmod g != 0) = true := by simp only [Bool.and_eq_true] at c3; exact c3.1
    simp only [c4, c5]
    rw [if_pos (by decide), e1, e2, i64_in (a.tdiv g) (by omega), i64_in _ (by omega), i64_in _ (by omega)]
    simp
   | false =>
    rw [c3, if_neg (by decide)] at e1 e2
    have c4 : (a.tmod g != 0 && !decide (a.tmod g < 0) == false) = false := by
     cases hd : decide (a.tmod g < 0) <;> rw [hd] at c3 <;> first | (simpa using c3) | simp
    rw [c4, if_neg (by decide), e1, e2, i64_in _ (by omega)]
    simp
theorem zQ8 {a g : Int} (hg : 0 < g) : E.C zq0 [.one (.int .i64 a), .one (.int .i64 g)] (res2 (divI a g)) := by
 have h1 := zWO Z (a := a) hg
 refine Z.zq0 _ _ ⟨bl rfl, ?_⟩
 try simp only [res2]
 simp only [zXH, go_sem]
 refine zzb h1 ?_
 simp only [go_sem]
set_option linter.unnecessarySimpa false in
theorem yzc {a g : Int} (hg : 0 < g) : E.C zq4 [.one (.int .i64 a), .one (.int .i64 g)] (res2 (divI a g)) := by
 have h1 := zxB Z a
 have h2 := zxB Z g
 refine Z.zq4 _ _ ⟨bl rfl, ?_⟩
 generalize hR : divI a g = R
 unfold divI at hR
 have h0 : (g == 0) = false := by simp; omega
 try simp only [res2]
 simp only [zXM, go_sem]
 refine zzb h1 ?_
 cases c1 : inRange a with
 | false =>
  simp only [c1, h0, go_sem] at hR ⊢
  refine ⟨.one (.bool true), ?_⟩
  simp only [go_sem]
  subst hR
  simp
 | true =>
  simp only [go_sem]
  refine zzb h2 ?_
  cases c2 : inRange g with
  | false =>
   simp only [c1, c2, h0, go_sem] at hR ⊢
   subst hR
   simp
  | true =>
   simp only [c1, c2, h0, go_sem] at hR ⊢
   have hab := (zxN a).1 c1
   rw [zzm] at c1 c2
   have hgn : decide (g < 0) = false := by simp; omega
   have e1 := zj5 (a := a) hg
   have ⟨b1, b2⟩ := zjh a hg
   have ⟨b3, b4⟩ := zWk a hg
   have hmul := Int.mul_tdiv_add_tmod a g
   have hq : IntKind.i64.wrap (a.tdiv g) = a.tdiv g := i64_in _ (by omega)
   have hm : IntKind.i64.wrap (a.tdiv g * g) = a.tdiv g * g := i64_in _ (by rw [Int.mul_comm]; omega)
   have hs := yxp a hg
   have hc := Int.mul_comm (a.tdiv g) g
   have hne : (a.tdiv g * g != a) = (a.tmod g != 0) := by
    rw [Bool.eq_iff_iff, bne_iff_ne, bne_iff_ne, hc]
    generalize g * a.tdiv g = t at *
    omega
   refine ⟨by omega, ?_⟩
   rw [hq, hm, hne, hgn]
   subst hR
   simp only
   cases c3 : (a.tmod g != 0 && decide (a.tmod g < 0)) with
   | true =>
    rw [c3, if_pos rfl] at e1
    rw [c3] at hs
    obtain ⟨c5, c4⟩ := (Bool.and_eq_true _ _ ▸ hs.symm : (a.tmod g != 0) = true ∧ decide (a < 0) = true)
    rw [c4, c5, if_pos (by decide), e1, i64_in (a.tdiv g - 1) (by omega)]
    simp
   | false =>
    rw [c3, if_neg (by decide)] at e1
    rw [c3] at hs
    have c4 : (a.tmod g != 0 && !decide (a < 0) == false) = false := by
     cases hd : decide (a < 0) <;> rw [hd] at hs <;> first | (simpa using hs.symm) | simp
    rw [c4, if_neg (by decide), e1]
    simp
end Go.Abs
end
section
namespace Go.Abs
def eachS (g : Coef → Coef) (ok : Coef → Bool) (l : List Coef) : List Coef × Bool := if l.all ok then (l.map g, true) else ([], false)
theorem zJH {α : Type} {ok : α → Bool} {l d r : List α} {x : α} (hl : l = d ++ x :: r) (hx : ok x = false) : l.all ok = false := by rw [hl]; simp [hx]
theorem zjT {α : Type} {ok : α → Bool} {l : List α} (h : ∀ y ∈ l, ok y = true) : l.all ok = true := by simpa using h
def gcdL (g : Int) (l : List Coef) : Int := l.foldl (fun g c => gcdI g c.n) g
theorem zKK (g : Int) (d : List Coef) (x : Coef) : gcdL g (d ++ [x]) = gcdI (gcdL g d) x.n := by simp [gcdL]
theorem zQV {a b : Int} (ha : inRange a = true) (hb : inRange b = true) : inRange (gcdI a b) = true := by
 rw [zzm] at *
 unfold gcdI
 by_cases h : b.natAbs = 0
 ·rw [h, Nat.gcd_zero_right]; omega
 ·have := Nat.gcd_le_right a.natAbs (Nat.pos_of_ne_zero h)
  omega
theorem zkN : ∀ {l : List Coef} {g : Int}, inRange g = true → (∀ c ∈ l, inRange c.n = true) → inRange (gcdL g l) = true
 | [], _, hg, _ => hg
 | c :: l, g, hg, h => zkN (l := l) (zQV hg (h c (by simp))) fun c' hc => h c' (by simp [hc])
theorem zk7 : ∀ {p : Option Coef} {l : List Coef}, coefE p l = 0 → ∀ c ∈ l, inRange c.n = true ∧ c.n ≠ 0
 | _, [], _ => by simp
 | p, x :: l, h => by
  rw [coefE] at h
  by_cases h1 : errC p x = 0
  ·rw [if_pos (by simpa using h1)] at h
   intro c hc
   rcases List.mem_cons.1 hc with rfl | hc
   ·unfold errC at h1
    split at h1
    ·cases h1
    ·split at h1
     ·cases h1
     ·rename_i h2; simp at h2; exact ⟨h2.2, h2.1⟩
   ·exact zk7 h c hc
  ·rw [if_neg (by simpa using h1)] at h; exact absurd h h1
theorem zv8 {a : Lin} (h : linE a = 0) : coefE none a.coefs = 0 ∧ inRange a.c = true := by
 unfold linE at h
 split at h
 ·cases h
 ·split at h
  ·rename_i h2
   refine ⟨by simpa using h2, ?_⟩
   split at h
   ·assumption
   ·cases h
  ·rename_i h2; simp at h2; exact absurd h h2
theorem zqV {a : Lin} (h : linE a = 0) : ∀ c ∈ a.coefs, inRange c.n = true := fun c hc => (zk7 (zv8 h).1 c hc).1
structure Row where
 lin : Lin
 eq : Bool
def Row.cells (r : Row) : List D := [.lst (r.lin.coefs.map Coef.cells), .int .i64 r.lin.c, .bool r.eq]
theorem Row.lens (l : List Row) : (∀ e ∈ l.map Row.cells, e.length = 3) = True := zyT (f := Row.cells) (fun _ => rfl) l
attribute [go_sem] Row.lens
def verdR (b : Bool) : Row := if b then ⟨noLin, false⟩ else ⟨⟨[], 1⟩, false⟩
attribute [go_sem] MatchVs MatchV Match1 Matches MatchMem noTwice isMp keep1 fresh1 afterB renMem AV.ren1 newAll killAll CV.isOwn retKB retB retB0 resCV0 resCVs0 initA Match0 Match0s AV.ren0 getTM keep0
variable {E : AEnv} (Z : Sys E)
include Z
theorem zqX (a : Lin) (g : Int) (hg : inRange g = true) (hr : ∀ c ∈ a.coefs, inRange c.n = true) : E.C zyz [.agg a.cells, .one (.int .i64 g)] (.one (.int .i64 (gcdL g a.coefs))) := by
 refine Z.zyz _ _ ⟨bl rfl, ?_⟩
 obtain ⟨l, c⟩ := a
 simp only [Lin.cells] at *
 simp only [zkK, go_sem]
 intro _
 refine zzh l (fun _ => True) (fun done rest => ⟨[(10, .d (.int .i64 done.length)), (9, .d (.int .i64 l.length)), (8, .d (.lst (l.map Coef.cells))), (1, .d (.int .i64 (gcdL g done)))], [], []⟩) ?_ trivial ?_ ?_
 ·exact zzc (by simp only [go_sem]; rfl)
 ·intro done x r hl _
  have hlt := zzw hl
  have hw : IntKind.i64.wrap ((done.length : Int) + 1) = ((done.length + 1 : Nat) : Int) := zzd (by omega)
  have h1 := zQ9 Z (zkN (l := done) hg fun c hc => hr c (by rw [hl]; simp [hc])) (hr x (by rw [hl]; simp))
  rw [zKK]
  simp only [zy0, go_sem, getD_at hl, hlt, Coef.cells]
  refine zzb h1 ?_
  simp only [go_sem, hw]
  exact zzc (by simp only [go_sem, lA, lC, lN, zA])
 ·intro _
  simp only [zy0, go_sem]
theorem zWU (a : Lin) (hr : ∀ c ∈ a.coefs, inRange c.n = true) : E.C zwC [.agg a.cells] (.one (.int .i64 (gcdL 0 a.coefs))) := by
 refine Z.zwC _ _ ⟨bl rfl, ?_⟩
 obtain ⟨l, c⟩ := a
 simp only [Lin.cells] at *
 simp only [zqh, go_sem]
 refine zzh l (fun _ => True) (fun done rest => ⟨[(4, .d (.int .i64 done.length)), (1, .ptr 1 0), (3, .d (.int .i64 (gcdL 0 done)))], [(1, [.d (.lst (l.map Coef.cells)), .d (.int .i64 c)])], []⟩) ?_ trivial ?_ ?_
 ·exact zzc (by simp only [go_sem, oS]; rfl)
 ·intro done x r hl _
  have hlt := zzw hl
  have h1 := yzd Z (zkN (l := done) (by decide : inRange 0 = true) fun c hc => hr c (by rw [hl]; simp [hc])) (hr x (by rw [hl]; simp))
  rw [zKK]
  simp only [zwk, go_sem, getD_at hl, hlt, Coef.cells]
  intro _
  have hw : IntKind.i64.wrap ((done.length : Int) + 1) = ((done.length + 1 : Nat) : Int) := zzd (by omega)
  refine zzb h1 ?_
  simp only [go_sem, hw]
  exact zzc (by simp only [go_sem, oS, lA, lC, lN, zA])
 ·intro _
  simp only [zwk, go_sem]
  try intro _
  try simp only [go_sem]
theorem zqY (b : Bool) : E.C zyh [.one (.bool b)] (.agg (verdR b).cells) := by
 refine Z.zyh _ _ ⟨bl rfl, ?_⟩
 cases b <;> simp only [zkL, go_sem] <;> rfl
theorem zQw (x : Coef) (k : Int) : E.C zyg [] (.bx [.agg (x.cells.map .d), .ptr 1000 0] [(1000, [.d (.int .i64 k)])] [] (.tup [.agg (Coef.mk x.name (mulI x.n k).1).cells, .one (.bool (mulI x.n k).2)]) [(1000, [.d (.int .i64 k)])] []) := by
 have h1 := zWc Z x.n k
 refine Z.zyg _ _ ⟨bl rfl, bl rfl, rfl, ?_⟩
 simp only [Coef.cells, res2] at *
 simp only [zkI, go_sem, initA, mC, mN]
 refine zzb h1 ?_
 simp only [go_sem]
 exact zzc (by simp only [go_sem, oS])
theorem yz7 (fid : FuncId) (kk : D) (g : Coef → Coef) (ok : Coef → Bool) (l : List Coef) (hsm : l.length ≤ 1000)
  (hf : ∀ x ∈ l, E.C fid [] (.bx [.agg (x.cells.map .d), .ptr 1000 0] [(1000, [.d kk])] [] (.tup [.agg (g x).cells, .one (.bool (ok x))]) [(1000, [.d kk])] [])) :
  E.C zzD [] (.bx [.d (.lst (l.map Coef.cells)), .clo fid [.ptr 1000 0]] [(1000, [.d kk])] [] (.tup [.one (.lst ((eachS g ok l).1.map Coef.cells)), .one (.bool (eachS g ok l).2)]) [(1000, [.d kk])] []) := by
 refine Z.zzD _ _ ⟨bl rfl, bl rfl, rfl, ?_⟩
 generalize hR : eachS g ok l = R
 unfold eachS at hR
 simp only [zxw, go_sem]
 intro _
 refine zzh l (fun done => ∀ y ∈ done, ok y = true) (fun done rest => ⟨[(13, .d (.int .i64 done.length)), (12, .d (.int .i64 l.length)), (11, .d (.lst (l.map Coef.cells))), (1, .clo fid [.ptr 1000 0]), (6, .own 6 2 ((done.map g).map Coef.cells))], [(1000, [.d kk])], [(6, true)]⟩) ?_ (by simp) ?_ ?_
 ·exact zxc 6 6 2 [] [(6, 6)] rfl (by simp) rfl (by simp only [Ent0, go_sem, cN, oS, mN, lN, nZ])
 ·intro done x r hl hI
  have hlt := zzw hl
  have hw : IntKind.i64.wrap ((done.length : Int) + 1) = ((done.length + 1 : Nat) : Int) := zzd (by omega)
  have hx := hf x (by rw [hl]; simp)
  have hdl : done.length < l.length := by rw [hl]; simp
  simp only [zz6, go_sem, getD_at hl, hlt, Coef.cells, mC, mN] at hx ⊢
  refine zWz ⟨[(1000, 1000)], [], [], _, _, _, _⟩ hx rfl rfl ?_ ?_
  ·simp only [okB, go_sem, List.cons_append, List.nil_append]
   exact ⟨rfl, rfl, fun p hp => by rw [List.mem_singleton.1 hp]; rfl⟩
  ·simp only [go_sem, List.cons_append, List.nil_append, Option.getD_some]
   cases e : ok x with
   | false =>
    rw [zJH hl e] at hR
    subst hR
    simp only [go_sem]
    exact zzc (by simp only [go_sem, oS])
   | true =>
    simp only [go_sem, hw, lM]
    refine ⟨⟨by simp, by omega, by omega⟩, zzs [(6, 28)] ?_, zxF hI e⟩
    simp only [go_sem, cN, oS, lA, lC, lN, zA, mA, mC, mN, Coef.cells]
 ·intro hI
  rw [zjT hI] at hR
  subst hR
  simp only [zz6, go_sem]
  exact zzc (by simp only [go_sem, oS])
end Go.Abs
end
section
namespace Go.Abs
open Go.RowKit Go.Sort Go.Proofs
def segs : Code → Option (List (Nat × Array Oper))
 | .ret => some []
 | .seq (.region i ops false) c => (segs c).map ((i, ops) :: ·)
 | _ => none
abbrev OpC := Option Tmp × Op × Option (Nat × Bool)
def opc (o : Oper) : OpC := (o.dst, o.op, o.guard)
theorem ywQ {c : Code} (h : segs c = some []) : c = .ret := by
 cases c with
 | ret => rfl
 | seq a b =>
  cases a with
  | region i ops d => cases d <;> simp [segs] at h
  | _ => simp [segs] at h
 | _ => simp [segs] at h
theorem yxg {c : Code} {i : Nat} {ops : Array Oper} {l : List (Nat × Array Oper)} (h : segs c = some ((i, ops) :: l)) : ∃ c', c = .seq (.region i ops false) c' ∧ segs c' = some l := by
 cases c with
 | seq a b =>
  cases a with
  | region i' ops' d =>
   cases d with
   | true => simp [segs] at h
   | false =>
    simp only [segs, Option.map_eq_some_iff] at h
    obtain ⟨l', h1, h2⟩ := h
    cases h2
    exact ⟨b, rfl, h1⟩
  | _ => simp [segs] at h
 | _ => simp [segs] at h
theorem zZ5 {c : Code} {x : List OpC} {xs : List (List OpC)} (h : (segs c).map (fun l => l.map fun p => p.2.toList.map opc) = some (x :: xs)) :
  ∃ i ops c', c = .seq (.region i ops false) c' ∧ ops.toList.map opc = x ∧ (segs c').map (fun l => l.map fun p => p.2.toList.map opc) = some xs := by
 cases hs : segs c with
 | none => rw [hs] at h; cases h
 | some l =>
  rw [hs] at h
  cases l with
  | nil => simp at h
  | cons p l =>
   obtain ⟨i, ops⟩ := p
   obtain ⟨c', h1, h2⟩ := yxg hs
   simp only [Option.map_some, mC, Option.some.injEq, List.cons.injEq] at h
   exact ⟨i, ops, c', h1, h.1, by rw [h2]; simp [h.2]⟩
theorem ywP {c : Code} (h : (segs c).map (fun l => l.map fun p => p.2.toList.map opc) = some []) : c = .ret := by
 cases hs : segs c with
 | none => rw [hs] at h; cases h
 | some l =>
  rw [hs] at h
  cases l with
  | nil => exact ywQ hs
  | cons p l => simp at h
section
variable {F : Fence} {n : Nat} {P : Program} {ops : Array Oper} {Q : Exit → Act → World → Prop} {k : Nat} {N : Act → World → Prop} {a : Act} {w : World}
theorem yyO {d : Option Tmp} {op : Op} {g : Option (Nat × Bool)} (ho : (ops.toList.map opc)[k]? = some (d, op, g)) : ∃ o, ops[k]? = some o ∧ o.dst = d ∧ o.op = op ∧ o.guard = g := by
 rw [List.getElem?_map, Array.getElem?_toList] at ho
 cases h : ops[k]? with
 | none => rw [h] at ho; cases ho
 | some o =>
  rw [h] at ho
  simp only [Option.map_some, Option.some.injEq, opc, Prod.mk.injEq] at ho
  exact ⟨o, rfl, ho.1, ho.2.1, ho.2.2⟩
theorem zxZ (hF : FW F) {d : Tmp} {op : Op} (ho : (ops.toList.map opc)[k]? = some (some d, op, none)) (hnd : ∀ c, op ≠ .defer c) {v : Value} {w' : World} (hrun : ∀ o : Oper, o.op = op → (execOp a.eval o).run P w = .ok (.value v) w')
  (hN : N { a with tmps := a.tmps.setIfInBounds d v } w') : wpOpIn F n P ops Q k N a w := by
 obtain ⟨o, h1, h2, h3, h4⟩ := yyO ho
 unfold wpOpIn
 simp only [h1]
 rw [if_pos (by simp [Region.wanted, h4])]
 refine zJB hF (fun c hc => hnd c (h3 ▸ hc)) ?_
 unfold Oper.wp
 rw [hrun o h3]
 simp only [Oper.upon_value, Act.put, h2]
 exact hN
theorem zVx (hF : FW F) {d : Tmp} {op : Op} (ho : (ops.toList.map opc)[k]? = some (some d, op, none)) (hnd : ∀ c, op ≠ .defer c) {f : FuncId} {args : Array Value} (hrun : ∀ o : Oper, o.op = op → (execOp a.eval o).run P w = .ok (.enter f args) w)
  {R : Ending → World → Prop} (hc : Calls P f args w R) (hN : ∀ e w', R e w' → ∃ v, e = .returned v ∧ N { a with tmps := a.tmps.setIfInBounds d v } w') : wpOpIn F n P ops Q k N a w := by
 obtain ⟨o, h1, h2, h3, h4⟩ := yyO ho
 unfold wpOpIn
 simp only [h1]
 rw [if_pos (by simp [Region.wanted, h4])]
 refine zJB hF (fun c hc => hnd c (h3 ▸ hc)) ?_
 unfold Oper.wp
 rw [hrun o h3, Oper.upon_enter]
 refine hc.mono ?_
 intro e w' hR
 obtain ⟨v, rfl, hN⟩ := hN e w' hR
 simp only [Act.put, h2]
 exact hN
theorem zYa {i : Nat} {l : List OpC} (hl : ops.toList.map opc = l) (h : wpOpsIn F n P ops Q (List.range l.length) a w) : (Code.region i ops false).wpIn F n P Q a w :=
 wpIn_region (by have : ops.size = l.length := by rw [← hl]; simp
                 rw [this]; exact h)
end
theorem yxk {w : World} {S : Safe} {s : List UInt8} {v : Value} (h : Rep w S (.str s) v) : v = encStr s ∧ s.length ≤ 9223372036854775807 := by
 obtain ⟨x, h1, h2, h3⟩ := h
 subst h1 h2
 exact ⟨by simp [encStr], by simpa using h3⟩
theorem zjL {w : World} {S : Safe} : ∀ {ss : List (List UInt8)} {l : List Value}, RepL w S (ss.map fun s => [D.str s]).flatten l → l = ss.map encStr ∧ ∀ s ∈ ss, s.length ≤ 9223372036854775807
 | [], l, h => by simp [RepL] at h; subst h; simp
 | s :: ss, l, h => by
  simp only [mC, List.flatten_cons, List.singleton_append] at h
  obtain ⟨v, r, h1, h2, h3⟩ := h
  obtain ⟨rfl, h4⟩ := yxk h2
  obtain ⟨h5, h6⟩ := zjL h3
  subst h1 h5
  exact ⟨rfl, by simpa using ⟨h4, h6⟩⟩
theorem zXi {w : World} {S : Safe} : ∀ {ss : List (List UInt8)}, (∀ s ∈ ss, s.length ≤ 9223372036854775807) → RepL w S (ss.map fun s => [D.str s]).flatten (ss.map encStr)
 | [], _ => by simp [RepL]
 | s :: ss, h => by
  simp only [mC, List.flatten_cons, List.singleton_append]
  exact ⟨_, _, rfl, ⟨_, rfl, by simp, by show s.toArray.size ≤ _; rw [List.size_toArray]; exact h s (by simp)⟩, zXi fun x hx => h x (by simp [hx])⟩
theorem yyU {P : Program} {w : World} {B t ty e : TypeId} {ie : TypeInfo} {z : Value} {eb : Nat} (hu : P.underlying t = some (.slice e)) (hie : P.info? e = some ie) (q1 : ie.size = 1) (q2 : ie.bytes = eb) (q4 : ie.zero = some z) (q5 : z.cells.size = 1)
  {v : Value} {xs : List Value} (hown : w.ownsRow B e 1 v xs.length xs) {v2 : Value} {es : List (List D)} {S : Safe} (hy : Rep w S (.lst es) v2) (hes : ∀ x ∈ es, x.length = 1) (hB : B ≤ w.heap.size) (h63 : xs.length + es.length ≤ maxLen) (hby : (xs.length + es.length) * eb ≤ 140737488355328) :
  ∃ v' w' l2, RepL w S es.flatten l2 ∧ (Builtin.append_ #[t, t] ty #[v, v2]).run P w = .ok v' w' ∧ w'.ownsRow B e 1 v' (xs ++ l2).length (xs ++ l2) ∧ w.grownBy w' v.ownBlock ∧ (v' = .slice none 0 0 → v = .slice none 0 0) := by
 obtain ⟨base2, cap2, rfl, _⟩ := id hy
 obtain ⟨_, hm, hcap2, hnil2, l2, hl2, hl2c⟩ := zxP hy
 have len2 : l2.length = es.length := by rw [RepL.length hl2, zyd hes, Nat.mul_one]
 cases base2 with
 | none =>
  have h0 : cap2 = 0 := hnil2 rfl
  have hes0 : es = [] := List.eq_nil_of_length_eq_zero (by omega)
  subst hes0
  have hl0 : l2 = [] := List.eq_nil_of_length_eq_zero (by simpa using len2)
  subst hl0
  refine ⟨v, w, [], hl2, ?_, by simpa using hown, ⟨rfl, rfl, rfl, Nat.le_refl _, fun _ _ _ => rfl⟩, id⟩
  rcases hown.2 with ⟨rfl, _⟩ | ⟨g, cap, cur, rfl, _, _, hn, _⟩
  ·exact zkf w t ty e ie hu hie none 0 0 (Nat.le_refl _) none cap2
  ·exact zkf w t ty e ie hu hie _ _ _ hn none cap2
 | some a2 =>
  obtain ⟨_, hc2⟩ := hl2c a2 rfl
  obtain ⟨v', w', h1, h2, h3, h4⟩ := run_append_own (P := P) w B t ty e ie z 1 eb hu hie q4 q1 q2 q5 (by omega) v xs.length xs hown a2 es.length cap2 l2 (by omega) (fun j u hj => (hc2 j u hj).1) (RepL.ones hl2) h63 hby hB
  exact ⟨v', w', l2, hl2, h1, by rw [lA, len2]; exact h2, h3, fun h => (h4.1 h).1⟩
def unionOps (t fs fc : Nat) : List (List OpC) :=
 [[(some 4, .assign (.const (.slice none 0 0)), none)],
  [(some 6, .buildSlice t 0 #[], none), (some 7, .move (.tmp 0), none), (some 8, .call ⟨.builtin .append, #[.tmp 6, .tmp 7], #[t, t]⟩, none), (some 9, .move (.tmp 1), none), (some 10, .call ⟨.builtin .append, #[.tmp 8, .tmp 9], #[t, t]⟩, none), (some 5, .assign (.tmp 10), none)],
  [(some 11, .move (.tmp 5), none), (some 12, .call ⟨.value (.func fs), #[.tmp 11], #[t]⟩, none)],
  [(some 13, .move (.tmp 5), none), (some 14, .call ⟨.value (.func fc), #[.tmp 13], #[t]⟩, none), (some 4, .assign (.tmp 14), none)]]
abbrev sorted (ss : List (List UInt8)) : List (List UInt8) := ss.mergeSort fun x y => decide (x ≤ y)
def SortLaw (P : Program) (f : FuncId) : Prop := ∀ (blk off cap : Nat) (ss : List (List UInt8)) (w : World), Holds encStr w blk off ss.toArray → blk < w.heap.size → ss.length < 4611686018427387904 →
    Calls P f #[.slice (some ⟨blk, off, none⟩) ss.length cap] w fun e w' => e = .returned (.tuple #[]) ∧ ∃ n os, w' = grow (putRow encStr (Sort.ahead w n) blk off (sorted ss).toArray) os
def CompactLaw (P : Program) (f : FuncId) : Prop := ∀ (blk off cap : Nat) (zs : List (List UInt8)) (w : World), Holds encStr w blk off zs.toArray → zs.length ≤ 9223372036854775807 → zs.length ≤ cap →
    Calls P f #[.slice (some ⟨blk, off, none⟩) zs.length cap] w fun e w' => e = .returned (.slice (some ⟨blk, off, none⟩) (Lib.compact zs).length cap) ∧ ∃ q, w' = putRow encStr (Sort.ahead w q) blk off (Lib.compact zs ++ List.replicate (zs.length - (Lib.compact zs).length) []).toArray
theorem zYn {zs : List (List UInt8)} {x : List UInt8} (h : x ∈ Lib.compact zs) : x ∈ zs := by
 unfold Lib.compact Lib.compactUpTo at h
 obtain ⟨i, hi, rfl⟩ := List.mem_map.1 h
 have := List.mem_range.1 (List.mem_filter.1 hi).1
 simp [getElem!_pos, this]
end Go.Abs
end
section
namespace Go.Abs
def unionS (a b : List Str) : List Str := Lib.compact (sorted (a ++ b))
theorem zV7 {zs : List Str} {x : Str} (h : x ∈ zs) : x ∈ Lib.compact zs := by
 obtain ⟨i, hi, hx⟩ := List.getElem_of_mem h
 have key : ∀ (n i : Nat) (hi : i < zs.length), i = n → zs[i] = x → x ∈ Lib.compact zs := by
  intro n
  induction n with
  | zero =>
   intro i hi hn hx
   subst hn
   refine List.mem_map.2 ⟨0, List.mem_filter.2 ⟨List.mem_range.2 hi, by simp [Lib.keeps]⟩, ?_⟩
   simp [getElem!_pos, hi, hx]
  | succ n ih =>
   intro i hi hn hx
   subst hn
   by_cases he : zs[n]'(by omega) = x
   ·exact ih n (by omega) rfl he
   ·refine List.mem_map.2 ⟨n + 1, List.mem_filter.2 ⟨List.mem_range.2 hi, ?_⟩, ?_⟩
    ·simp only [Lib.keeps, decide_eq_true_eq]
     refine .inr ?_
     simp [getElem!_pos, hi, show n < zs.length by omega, hx]
     exact fun h => he h.symm
    ·simp [getElem!_pos, hi, hx]
 exact key i i hi rfl hx
theorem zX8 {a b : List Str} {x : Str} : x ∈ unionS a b ↔ x ∈ a ∨ x ∈ b := by
 unfold unionS
 rw [← List.mem_append]
 exact ⟨fun h => List.mem_mergeSort.1 (zYn h), fun h => zV7 (List.mem_mergeSort.2 h)⟩
def UnionLaw (E : AEnv) : Prop := ∀ a b : List Str, a.length + b.length < 4398046511104 → E.C zjC [.one (.lst (a.map fun s => [.str s])), .one (.lst (b.map fun s => [.str s]))] (.one (.lst ((unionS a b).map fun s => [.str s])))
variable {E : AEnv} (Z : Sys E)
include Z
end Go.Abs
end
section
namespace Go.Abs
open Go.RowKit Go.Sort Go.Proofs
theorem zWP {F : Fence} {n : Nat} {P : Program} {ops : Array Oper} {Q : Exit → Act → World → Prop} {a : Act} {w : World} (h : Q .normal a w) : wpOpsIn F n P ops Q [] a w := h
theorem zQk {P : Program} {a : Act} {w : World} {x : Operand} {o : Oper} (ho : o.op = .move x) : (execOp a.eval o).run P w = .ok (.value (a.eval x)) w := by
 unfold execOp; simp [ho]
theorem zJr {P : Program} {a : Act} {w : World} {x : Operand} {o : Oper} (ho : o.op = .assign x) : (execOp a.eval o).run P w = .ok (.value (a.eval x)) w := by
 unfold execOp; simp [ho]
theorem yxc {P : Program} {a : Act} {w w' : World} {x y : Operand} {t : Nat} {v : Value} {o : Oper} (ho : o.op = .call ⟨.builtin .append, #[x, y], #[t, t]⟩) (h : ∀ ty, (Builtin.append_ #[t, t] ty #[a.eval x, a.eval y]).run P w = .ok v w') : (execOp a.eval o).run P w = .ok (.value v) w' := by
 unfold execOp; simp [ho, resolve, invoke, builtin, h]
theorem ykg {P : Program} {a : Act} {w : World} {x : Operand} {t : Nat} {f : FuncId} {o : Oper} (hen : Enters P f) (ho : o.op = .call ⟨.value (.func f), #[x], #[t]⟩) : (execOp a.eval o).run P w = .ok (.enter f #[a.eval x]) w := by
 obtain ⟨fn, hfn, hname, hbody⟩ := hen
 have hname' : ¬ fn.name = "runtime.NumGoroutine" := by simpa using hname
 have hbody' : ¬ fn.body = none := by intro e; simp [e] at hbody
 unfold execOp
 simp [ho, resolve, invoke, callFunc, Deferred.ofValue, Act.eval, hfn, hname', hbody']
theorem ywM {P : Program} {a : Act} {w : World} {t e : TypeId} {ie : TypeInfo} {o : Oper} (hu : P.underlying t = some (.slice e)) (hie : P.info? e = some ie) (ho : o.op = .buildSlice t 0 #[]) : (execOp a.eval o).run P w = .ok (.value (.slice (some ⟨w.heap.size, 0, none⟩) 0 0)) (w.alloc (.cells #[] e)) := by
 unfold execOp
 simp [ho, Instr.buildSlice, run_underlying hu, run_sizeOf hie, Instr.fill, newRow]
 congr 2
 exact Array.ext (by simp) (by simp)
theorem ykC {P : Program} {T : Nat → Option Ty} {fn : Func} {tmps : Array Value} {k : Nat} {w : World} (hres : fn.results.toList.mapM (trRes T) = some [.t k]) : (results fn tmps).run P w = .ok (tmps.getD k undef) w := by
 have hone : ∃ rv, fn.results.toList = [rv] ∧ trRes T rv = some (.t k) := by
  generalize fn.results.toList = l at hres
  cases l with
  | nil => simp at hres
  | cons rv l =>
   simp only [List.mapM_cons, Option.bind_eq_bind, Option.bind_eq_some_iff, Option.pure_def, Option.some.injEq] at hres
   obtain ⟨x', hx, xs, hxs, hrs⟩ := hres
   cases hrs
   cases l with
   | nil => exact ⟨rv, rfl, hx⟩
   | cons rv2 l =>
    simp only [List.mapM_cons, Option.bind_eq_bind, Option.bind_eq_some_iff, Option.pure_def, Option.some.injEq] at hxs
    obtain ⟨_, _, _, _, hxs⟩ := hxs
    cases hxs
 obtain ⟨rv, hrv, htx⟩ := hone
 cases rv with
 | tmp t =>
  simp only [trRes, Option.some.injEq, R.t.injEq] at htx
  subst htx
  rw [zk0, Array.mapM_eq_mapM_toList, hrv]
  simp only [List.mapM_cons, List.mapM_nil, Sem.run_bind, Sem.run_map, rvRun]
  simp
 | cell a t =>
  simp only [trRes, Option.bind_eq_bind, Option.bind_eq_some_iff] at htx
  obtain ⟨_, _, h⟩ := htx
  cases h
theorem zQ1 {P : Program} {fn : Func} {tmps : Array Value} {R : Ending → World → Prop} {w : World} {v : Value} (h1 : (results fn tmps).run P w = .ok v w) (h2 : R (.returned v) w) : LeavesInM Fence.wide 0 P fn tmps R [] .returning w := ⟨v, h1, h2⟩
theorem EvOwn.plain {P : Program} {G : Nat → Option (List D)} {f : FuncId} {args : List CV} {sz : Nat} {es : List (List D)} (h : EvOwn P G f args none sz es) : EvD P G f args (.one (.lst es)) := by
 refine ⟨h.1, fun w S cargs hl hg ha => ?_⟩
 refine (h.2 w S cargs [] hl hg ha rfl).mono ?_
 rintro e w' ⟨v, S', rfl, h1, _, _, hb, hk, hn, hv⟩
 have hn' : ∀ b, OwnX P w [] b → w.heap.size ≤ b := fun b h => by rcases h with h | ⟨h, _⟩; exact h; cases h
 exact ⟨v, S', rfl, h1, ⟨hb.os, hb.tape, hb.output, hb.size, fun k hk => hb.block k fun ho => by have := hn' k ho; omega⟩, fun b o hs => (hk b o hs).1, fun b o hs => (hn b o hs).imp id (hn' b), hv⟩
theorem ywX {P : Program} {G : Nat → Option (List D)} {f fs fc t : Nat} {eb : Nat} {zz : List AV} {T : Nat → Option Ty} {fn : Func} {cd : Code} (hf : P.funcs[f]? = some fn) (hname : (fn.name == "runtime.NumGoroutine") = false) (hcd : fn.body = some cd)
  (hseg : (segs cd).map (fun l => l.map fun p => p.2.toList.map opc) = some (unionOps t fs fc)) (hnt : fn.ntmps = 15) (hres : fn.results.toList.mapM (trRes T) = some [.t 4]) (hT : ∀ t ty, T t = some ty → chkTy P t ty = true) (ht : chkTy P t (.slice 1 eb zz) = true) (heb : eb ≤ 16)
  (hes : Enters P fs) (hec : Enters P fc) (hsort : SortLaw P fs) (hcomp : CompactLaw P fc) (sa sb : List (List UInt8)) (hlen : sa.length + sb.length < 4398046511104) :
  Ev P G f [.one (.lst (sa.map fun s => [.str s])), .one (.lst (sb.map fun s => [.str s]))] (.own none 1 ((Lib.compact (sorted (sa ++ sb))).map fun s => [.str s])) := by
 obtain ⟨e, ie, z, hu, hie, q1, q2, q3, q4, q5⟩ := zzv ht
 refine ⟨⟨fn, hf, hname, by simp [hcd]⟩, fun w S cargs X hlive hglob hargs hX => ?_⟩
 obtain rfl : X = [] := hX
 obtain ⟨va, r, e1, h1, vb, r2, rfl, h2, e3⟩ := hargs
 simp only [RepCL] at e3
 subst e3
 obtain rfl : cargs = #[va, vb] := by cases cargs; simp_all
 have h1 : Rep w S (.lst (sa.map fun s => [.str s])) va := h1
 have h2 : Rep w S (.lst (sb.map fun s => [.str s])) vb := h2
 have one : ∀ (l : List (List UInt8)), ∀ x ∈ (l.map fun s => [D.str s]), x.length = 1 := fun l x hx => by
  obtain ⟨s, _, rfl⟩ := List.mem_map.1 hx; rfl
 obtain ⟨i0, r0, c0, rfl, hl0, hseg⟩ := zZ5 hseg
 obtain ⟨i1, r1, c1, rfl, hl1, hseg⟩ := zZ5 hseg
 obtain ⟨i2, r2, c2, rfl, hl2, hseg⟩ := zZ5 hseg
 obtain ⟨i3, r3, c3, rfl, hl3, hseg⟩ := zZ5 hseg
 obtain rfl := ywP hseg
 refine callsIn_wide.1 (callsIn_of_wp_marks (n := 0) (R := GivesO P w S [] 1 _) hf hcd trivial ?_)
 have hT0 : #[va, vb] ++ Array.replicate (fn.ntmps - #[va, vb].size) undef = #[va, vb, undef, undef, undef, undef, undef, undef, undef, undef, undef, undef, undef, undef, undef] := by rw [hnt]; rfl
 rw [hT0]
 have hF : FW Fence.wide := FW.wide
 refine wpIn_seq (zYa hl0 ?_)
 show wpOpsIn _ _ _ _ _ [0] _ _
 rw [wpOpsIn_cons]
 refine zxZ hF (v := .slice none 0 0) (by rw [hl0]; rfl) (by simp) (fun o ho => zJr ho) ?_
 refine zWP ?_
 show Code.wpIn _ _ _ _ _ ⟨#[va, vb, undef, undef, .slice none 0 0, undef, undef, undef, undef, undef, undef, undef, undef, undef, undef], []⟩ _
 refine wpIn_seq (zYa hl1 ?_)
 show wpOpsIn _ _ _ _ _ [0, 1, 2, 3, 4, 5] _ _
 simp only [wpOpsIn_cons]
 refine zxZ hF (v := (.slice (some ⟨w.heap.size, 0, none⟩) 0 0)) (by rw [hl1]; rfl) (by simp) (fun o ho => ywM hu hie ho) ?_
 show wpOpIn _ _ _ _ _ _ _ ⟨#[va, vb, undef, undef, .slice none 0 0, undef, (.slice (some ⟨w.heap.size, 0, none⟩) 0 0), undef, undef, undef, undef, undef, undef, undef, undef], []⟩ _
 refine zxZ hF (v := va) (by rw [hl1]; rfl) (by simp) (fun o ho => zQk ho) ?_
 show wpOpIn _ _ _ _ _ _ _ ⟨#[va, vb, undef, undef, .slice none 0 0, undef, (.slice (some ⟨w.heap.size, 0, none⟩) 0 0), va, undef, undef, undef, undef, undef, undef, undef], []⟩ _
 have keep : ∀ {w' : World}, Below w.heap.size w w' → Keeps w S w' S := fun hb b o hs => by
  obtain ⟨v, hv⟩ := hlive b o hs
  exact ⟨hs, hb.cell (p := ⟨b, o, none⟩) (zyc hv)⟩
 have hb1 : Below w.heap.size w (w.alloc (.cells #[] e)) := (Below.refl _ _).alloc (Nat.le_refl _) _
 have own1 : (w.alloc (.cells #[] e)).ownsRow w.heap.size e 1 (.slice (some ⟨w.heap.size, 0, none⟩) 0 0) ([] : List Value).length [] :=
  ⟨rfl, .inr ⟨w.heap.size, 0, #[], rfl, Nat.le_refl _, heap_alloc_new w _, Nat.le_refl _, by unfold maxLen; omega, rfl, rfl⟩⟩
 obtain ⟨v8, w2, l2, hl2r, hrun2, own2, hg2, hn2⟩ := yyU (ty := t) (eb := eb) hu hie q1 q2 q4 q5 own1 (Rep.keep (keep hb1) _ _ h1) (one sa) (by have := hb1.size; exact this) (by simp only [lN, lM]; unfold maxLen; omega) (by
  simp only [lN, lM, zA]
  exact Nat.le_trans (Nat.mul_le_mul (Nat.le_of_lt (by omega : sa.length < 4398046511104)) heb) (by omega))
 obtain ⟨rfl, hsa⟩ := zjL hl2r
 have hb2 : Below w.heap.size w w2 := hb1.grown hg2 hb1.size (fun k hk => (own1.lt k hk).1)
 obtain ⟨v10, w3, l3, hl3r, hrun3, own3, hg3, hn3⟩ := yyU (ty := t) (eb := eb) hu hie q1 q2 q4 q5 own2 (Rep.keep (keep hb2) _ _ h2) (one sb) hb2.size (by simp only [lN, lM, List.nil_append]; unfold maxLen; omega) (by
  simp only [lN, lM, List.nil_append]
  exact Nat.le_trans (Nat.mul_le_mul (Nat.le_of_lt hlen) heb) (by omega))
 obtain ⟨rfl, hsb⟩ := zjL hl3r
 have hb3 : Below w.heap.size w w3 := hb2.grown hg3 hb2.size (fun k hk => (own2.lt k hk).1)
 simp only [List.nil_append] at own3 hn3 own2
 rw [← mA] at own3
 have hnn : v10 ≠ .slice none 0 0 := fun h => by have := hn2 (hn3 h); cases this
 obtain ⟨g, cap, rfl, hgB, hgw, hgc, hgm, _, hHold⟩ := Lib.holds_of_ownsRow own3 hnn
 have rty : ∀ (v v2 v' : Value) (wa wb : World), (∃ ty, (Builtin.append_ #[t, t] ty #[v, v2]).run P wa = .ok v' wb) → ∀ ty, (Builtin.append_ #[t, t] ty #[v, v2]).run P wa = .ok v' wb := fun v v2 v' wa wb ⟨ty, h⟩ ty' => h
 refine zxZ hF (v := v8) (by rw [hl1]; rfl) (by simp) (fun o ho => yxc (x := .tmp 6) (y := .tmp 7) ho (rty _ _ _ _ _ ⟨t, hrun2⟩)) ?_
 show wpOpIn _ _ _ _ _ _ _ ⟨#[va, vb, undef, undef, .slice none 0 0, undef, (.slice (some ⟨w.heap.size, 0, none⟩) 0 0), va, v8, undef, undef, undef, undef, undef, undef], []⟩ _
 refine zxZ hF (v := vb) (by rw [hl1]; rfl) (by simp) (fun o ho => zQk ho) ?_
 show wpOpIn _ _ _ _ _ _ _ ⟨#[va, vb, undef, undef, .slice none 0 0, undef, (.slice (some ⟨w.heap.size, 0, none⟩) 0 0), va, v8, vb, undef, undef, undef, undef, undef], []⟩ _
 refine zxZ hF (v := (.slice (some ⟨g, 0, none⟩) (List.map encStr (sa ++ sb)).length cap)) (by rw [hl1]; rfl) (by simp) (fun o ho => yxc (x := .tmp 8) (y := .tmp 9) ho (rty _ _ _ _ _ ⟨t, hrun3⟩)) ?_
 show wpOpIn _ _ _ _ _ _ _ ⟨#[va, vb, undef, undef, .slice none 0 0, undef, (.slice (some ⟨w.heap.size, 0, none⟩) 0 0), va, v8, vb, (.slice (some ⟨g, 0, none⟩) (List.map encStr (sa ++ sb)).length cap), undef, undef, undef, undef], []⟩ _
 refine zxZ hF (v := (.slice (some ⟨g, 0, none⟩) (List.map encStr (sa ++ sb)).length cap)) (by rw [hl1]; rfl) (by simp) (fun o ho => zJr ho) ?_
 refine zWP ?_
 show Code.wpIn _ _ _ _ _ ⟨#[va, vb, undef, undef, .slice none 0 0, (.slice (some ⟨g, 0, none⟩) (List.map encStr (sa ++ sb)).length cap), (.slice (some ⟨w.heap.size, 0, none⟩) 0 0), va, v8, vb, (.slice (some ⟨g, 0, none⟩) (List.map encStr (sa ++ sb)).length cap), undef, undef, undef, undef], []⟩ _
 refine wpIn_seq (zYa hl2 ?_)
 show wpOpsIn _ _ _ _ _ [0, 1] _ _
 simp only [wpOpsIn_cons]
 refine zxZ hF (v := (.slice (some ⟨g, 0, none⟩) (List.map encStr (sa ++ sb)).length cap)) (by rw [hl2]; rfl) (by simp) (fun o ho => zQk ho) ?_
 show wpOpIn _ _ _ _ _ _ _ ⟨#[va, vb, undef, undef, .slice none 0 0, (.slice (some ⟨g, 0, none⟩) (List.map encStr (sa ++ sb)).length cap), (.slice (some ⟨w.heap.size, 0, none⟩) 0 0), va, v8, vb, (.slice (some ⟨g, 0, none⟩) (List.map encStr (sa ++ sb)).length cap), (.slice (some ⟨g, 0, none⟩) (List.map encStr (sa ++ sb)).length cap), undef, undef, undef], []⟩ _
 have hlen3 : (List.map encStr (sa ++ sb)).length = (sa ++ sb).length := by simp
 refine zVx hF (by rw [hl2]; rfl) (by simp) (fun o ho => ykg hes ho) (R := fun e w' => e = .returned (.tuple #[]) ∧ ∃ n os, w' = grow (putRow encStr (Sort.ahead w3 n) g 0 (sorted (sa ++ sb)).toArray) os) ?_ ?_
 ·have := hsort g 0 cap (sa ++ sb) w3 hHold hgw (by rw [lA]; omega)
  rw [← hlen3] at this
  exact this
 rintro e' w4 ⟨rfl, nn, os, rfl⟩
 refine ⟨_, rfl, ?_⟩
 refine zWP ?_
 show Code.wpIn _ _ _ _ _ ⟨#[va, vb, undef, undef, .slice none 0 0, (.slice (some ⟨g, 0, none⟩) (List.map encStr (sa ++ sb)).length cap), (.slice (some ⟨w.heap.size, 0, none⟩) 0 0), va, v8, vb, (.slice (some ⟨g, 0, none⟩) (List.map encStr (sa ++ sb)).length cap), (.slice (some ⟨g, 0, none⟩) (List.map encStr (sa ++ sb)).length cap), .tuple #[], undef, undef], []⟩ _
 have hset : (sorted (sa ++ sb)).length = (sa ++ sb).length := by simp
 have hb4 : Below w.heap.size w (grow (putRow encStr (Sort.ahead w3 nn) g 0 (sorted (sa ++ sb)).toArray) os) := hb3.grown (grownBy_sorted _) hb3.size (fun k hk => by cases hk; exact hgB)
 obtain ⟨_, hshape⟩ := own3
 rcases hshape with ⟨h0, _⟩ | ⟨g', cap', cur, hv, _, hcell, hn3', hm3, hs3, ht3⟩
 ·exact absurd h0 hnn
 obtain ⟨rfl, rfl⟩ : g = g' ∧ cap = cap' := by cases hv; exact ⟨rfl, rfl⟩
 rw [hlen3] at hn3'
 have own4 := ownsRow_sorted (n := nn) (os := os) hset hgB hcell hn3' hm3 hs3
 rw [← hset] at own4
 obtain ⟨g', cap', hv', _, hg4, _, _, _, hHold4⟩ := Lib.holds_of_ownsRow own4 (by simp)
 obtain ⟨rfl, rfl⟩ : g = g' ∧ cap = cap' := by cases hv'; exact ⟨rfl, rfl⟩
 refine wpIn_seq (zYa hl3 ?_)
 show wpOpsIn _ _ _ _ _ [0, 1, 2] _ _
 simp only [wpOpsIn_cons]
 refine zxZ hF (v := (.slice (some ⟨g, 0, none⟩) (List.map encStr (sa ++ sb)).length cap)) (by rw [hl3]; rfl) (by simp) (fun o ho => zQk ho) ?_
 show wpOpIn _ _ _ _ _ _ _ ⟨#[va, vb, undef, undef, .slice none 0 0, (.slice (some ⟨g, 0, none⟩) (List.map encStr (sa ++ sb)).length cap), (.slice (some ⟨w.heap.size, 0, none⟩) 0 0), va, v8, vb, (.slice (some ⟨g, 0, none⟩) (List.map encStr (sa ++ sb)).length cap), (.slice (some ⟨g, 0, none⟩) (List.map encStr (sa ++ sb)).length cap), .tuple #[], (.slice (some ⟨g, 0, none⟩) (List.map encStr (sa ++ sb)).length cap), undef], []⟩ _
 refine zVx hF (by rw [hl3]; rfl) (by simp) (fun o ho => ykg hec ho) (R := fun e w' => e = .returned (.slice (some ⟨g, 0, none⟩) (Lib.compact (sorted (sa ++ sb))).length cap) ∧ ∃ q, w' = putRow encStr (Sort.ahead (grow (putRow encStr (Sort.ahead w3 nn) g 0 (sorted (sa ++ sb)).toArray) os) q) g 0 (Lib.compact (sorted (sa ++ sb)) ++ List.replicate ((sorted (sa ++ sb)).length - (Lib.compact (sorted (sa ++ sb))).length) []).toArray) ?_ ?_
 ·show Calls P fc #[.slice (some ⟨g, 0, none⟩) (List.map encStr (sa ++ sb)).length cap] _ _
  rw [← show (sorted (sa ++ sb)).length = (List.map encStr (sa ++ sb)).length from hset.trans hlen3.symm]
  exact hcomp g 0 cap (sorted (sa ++ sb)) _ hHold4 (by rw [hset, lA]; omega) (by rw [hset]; exact hn3')
 rintro e' w5 ⟨rfl, q, rfl⟩
 refine ⟨_, rfl, ?_⟩
 show wpOpIn _ _ _ _ _ _ _ ⟨#[va, vb, undef, undef, .slice none 0 0, (.slice (some ⟨g, 0, none⟩) (List.map encStr (sa ++ sb)).length cap), (.slice (some ⟨w.heap.size, 0, none⟩) 0 0), va, v8, vb, (.slice (some ⟨g, 0, none⟩) (List.map encStr (sa ++ sb)).length cap), (.slice (some ⟨g, 0, none⟩) (List.map encStr (sa ++ sb)).length cap), .tuple #[], (.slice (some ⟨g, 0, none⟩) (List.map encStr (sa ++ sb)).length cap), (.slice (some ⟨g, 0, none⟩) (Lib.compact (sorted (sa ++ sb))).length cap)], []⟩ _
 refine zxZ hF (v := (.slice (some ⟨g, 0, none⟩) (Lib.compact (sorted (sa ++ sb))).length cap)) (by rw [hl3]; rfl) (by simp) (fun o ho => zJr ho) ?_
 refine zWP ?_
 show Code.wpIn _ _ _ _ _ ⟨#[va, vb, undef, undef, (.slice (some ⟨g, 0, none⟩) (Lib.compact (sorted (sa ++ sb))).length cap), (.slice (some ⟨g, 0, none⟩) (List.map encStr (sa ++ sb)).length cap), (.slice (some ⟨w.heap.size, 0, none⟩) 0 0), va, v8, vb, (.slice (some ⟨g, 0, none⟩) (List.map encStr (sa ++ sb)).length cap), (.slice (some ⟨g, 0, none⟩) (List.map encStr (sa ++ sb)).length cap), .tuple #[], (.slice (some ⟨g, 0, none⟩) (List.map encStr (sa ++ sb)).length cap), (.slice (some ⟨g, 0, none⟩) (Lib.compact (sorted (sa ++ sb))).length cap)], []⟩ _
 refine wpIn_ret ?_
 have hcl : (Lib.compact (sorted (sa ++ sb))).length ≤ (sorted (sa ++ sb)).length := Lib.compact_length_le _
 have hb5 := Lib.below_putRow (enc := encStr) (q := q) (d := (Lib.compact (sorted (sa ++ sb)) ++ List.replicate ((sorted (sa ++ sb)).length - (Lib.compact (sorted (sa ++ sb))).length) []).toArray) hb4 hgB
 have own5 := Lib.ownsRow_putRow (q := q) (ys := Lib.compact (sorted (sa ++ sb)) ++ List.replicate ((sorted (sa ++ sb)).length - (Lib.compact (sorted (sa ++ sb))).length) []) own4 (by rw [lA, List.length_replicate]; omega) hcl
 rw [List.take_left' rfl] at own5
 generalize hW : putRow encStr (Sort.ahead (grow (putRow encStr (Sort.ahead w3 nn) g 0 (sorted (sa ++ sb)).toArray) os) q) g 0 (Lib.compact (sorted (sa ++ sb)) ++ List.replicate ((sorted (sa ++ sb)).length - (Lib.compact (sorted (sa ++ sb))).length) []).toArray = w5 at *
 have hcells := own5.cells (g := g) rfl
 have hsm : ∀ s ∈ Lib.compact (sorted (sa ++ sb)), s.length ≤ 9223372036854775807 := fun s hs => by
  have := List.mem_mergeSort.1 (zYn hs)
  rcases List.mem_append.1 this with h | h
  ·exact hsa s h
  ·exact hsb s h
 have hrep : Rep w5 (fun b o => S b o ∨ (b = g ∧ o < (Lib.compact (sorted (sa ++ sb))).length)) (.lst ((Lib.compact (sorted (sa ++ sb))).map fun s => [.str s])) (.slice (some ⟨g, 0, none⟩) (Lib.compact (sorted (sa ++ sb))).length cap) := by
  have := zxS (cap := cap) (b := g) (one (Lib.compact (sorted (sa ++ sb)))) (w := w5) (S := fun b o => S b o ∨ (b = g ∧ o < (Lib.compact (sorted (sa ++ sb))).length)) (zXi hsm) (fun j v hj => ?_) (by rw [lM]; exact Nat.le_trans hcl (by rw [hset]; exact hn3')) hm3
  ·rw [lM] at this; exact this
  ·have hlt := (List.getElem?_eq_some_iff.1 hj).1
   have := hcells j v hj
   rw [addr_add, zA] at this
   exact ⟨this, .inr ⟨rfl, by simpa using hlt⟩⟩
 have hlb : ∀ b o, S b o → b < w.heap.size := fun b o hs => by
  obtain ⟨v, hv⟩ := hlive b o hs
  exact zyc hv
 obtain ⟨_, hrow⟩ := own5
 rcases hrow with ⟨e0, _⟩ | ⟨g0, cap0, cur, e0, _, hg0, hcap, hmax, hsz, _⟩
 ·cases e0
 ·cases e0
  refine zQ1 (ykC hres) ⟨_, _, rfl, hrep, one _, ⟨_, _, _, rfl, .inr ⟨g, rfl, .inl hgB, ⟨cur, _, hg0, hsz⟩, hcap, hmax, fun o ho hS => ?_⟩⟩, ⟨hb5.os, hb5.tape, hb5.output, hb5.size, fun k hk => hb5.block k (Nat.lt_of_not_le fun h => hk (.inl h))⟩, fun b o hs => ⟨.inl hs, hb5.cell (p := ⟨b, o, none⟩) (hlb b o hs)⟩, fun b o hs => ?_, fun b o hs => ?_⟩
  ·rcases hS with hS | ⟨_, hS⟩
   ·have := hlb _ _ hS; omega
   ·omega
  ·rcases hs with hs | ⟨rfl, _⟩
   ·exact .inl hs
   ·exact .inr (.inl hgB)
  ·rcases hs with hs | ⟨rfl, ho⟩
   ·obtain ⟨v, hv⟩ := hlive b o hs
    exact ⟨v, (hb5.cell (p := ⟨b, o, none⟩) (zyc hv)).trans hv⟩
   ·have := hcells o (encStr ((Lib.compact (sorted (sa ++ sb)))[o])) (by rw [List.getElem?_map, List.getElem?_eq_getElem ho]; rfl)
    rw [addr_add, zA] at this
    exact ⟨_, this⟩
end Go.Abs
end
section
namespace Go.Abs
def Inc (l : List Str) : Prop := l.Pairwise (· < ·)
theorem ltT {x y z : Str} (h : x < y) (h' : y < z) : x < z := List.lt_trans h h'
theorem ltI (x : Str) : ¬ x < x := List.lt_irrefl x
theorem zYM {x y : Str} (h : ¬ x < y) (h' : y ≠ x) : y < x := Std.lt_of_le_of_ne (List.not_lt.1 h) h'
theorem zV3 : ∀ {a b : List Str}, Inc a → Inc b → (∀ x, x ∈ a ↔ x ∈ b) → a = b
 | [], [], _, _, _ => rfl
 | [], y :: b, _, _, h => absurd ((h y).2 (by simp)) (by simp)
 | x :: a, [], _, _, h => absurd ((h x).1 (by simp)) (by simp)
 | x :: a, y :: b, ha, hb, h => by
  obtain ⟨ha1, ha2⟩ := List.pairwise_cons.1 ha
  obtain ⟨hb1, hb2⟩ := List.pairwise_cons.1 hb
  have hxy : x = y := by
   rcases List.mem_cons.1 ((h x).1 (by simp)) with h1 | h1
   ·exact h1
   ·rcases List.mem_cons.1 ((h y).2 (by simp)) with h2 | h2
    ·exact h2.symm
    ·exact absurd (ltT (ha1 y h2) (hb1 x h1)) (ltI x)
  subst hxy
  congr 1
  refine zV3 ha2 hb2 fun z => ⟨fun hz => ?_, fun hz => ?_⟩
  ·rcases List.mem_cons.1 ((h z).1 (by simp [hz])) with h1 | h1
   ·subst h1; exact absurd (ha1 z hz) (ltI z)
   ·exact h1
  ·rcases List.mem_cons.1 ((h z).2 (by simp [hz])) with h1 | h1
   ·subst h1; exact absurd (hb1 z hz) (ltI z)
   ·exact h1
theorem yxr {f : Str → Bool} : ∀ {l : List Str}, ∀ x ∈ l.takeWhile f, f x = true
 | [], x, h => by simp at h
 | y :: l, x, h => by
  rw [List.takeWhile_cons] at h
  split at h
  ·rcases List.mem_cons.1 h with rfl | h
   ·assumption
   ·exact yxr x h
  ·cases h
theorem yz6 {f : Str → Bool} : ∀ {l : List Str} {x : Str} {r : List Str}, l.dropWhile f = x :: r → f x = false
 | [], x, r, h => by simp at h
 | y :: l, x, r, h => by
  rw [List.dropWhile_cons] at h
  split at h
  ·exact yz6 h
  ·rename_i hf; cases h; simpa using hf
theorem ywe {l : List Str} (h : Inc l) (s : Str) : Inc (putS l s) := by
 have happ := List.takeWhile_append_dropWhile (p := fun x => Op.bytesLess x s) (l := l)
 have ht : ∀ x ∈ l.takeWhile (fun x => Op.bytesLess x s), x < s := fun x hx => by
  have := yxr x hx
  rw [_root_.Go.Proofs.bytesLess_eq] at this
  simpa using this
 have hd : ∀ x r, l.dropWhile (fun x => Op.bytesLess x s) = x :: r → ¬ x < s := fun x r hx => by
  have := yz6 hx
  rw [_root_.Go.Proofs.bytesLess_eq] at this
  simpa using this
 unfold putS
 generalize l.takeWhile (fun x => Op.bytesLess x s) = t at *
 generalize l.dropWhile (fun x => Op.bytesLess x s) = d at *
 subst happ
 unfold Inc at h ⊢
 obtain ⟨h1, h2, h3⟩ := List.pairwise_append.1 h
 cases d with
 | nil => exact List.pairwise_append.2 ⟨h1, by simp, fun a ha b hb => by simp at hb; subst hb; exact ht a ha⟩
 | cons y r =>
  obtain ⟨h4, h5⟩ := List.pairwise_cons.1 h2
  have hy := hd y r rfl
  simp only
  by_cases hys : (y == s) = true
  ·rw [if_pos hys]
   have : y = s := by simpa using hys
   subst this
   exact h
  ·rw [if_neg hys]
   have hne : s ≠ y := fun e => hys (by rw [e]; simp)
   have hsy : s < y := zYM hy hne
   refine List.pairwise_append.2 ⟨h1, List.pairwise_cons.2 ⟨fun b hb => ?_, h2⟩, fun a ha b hb => ?_⟩
   ·rcases List.mem_cons.1 hb with rfl | hb
    ·exact hsy
    ·exact ltT hsy (h4 b hb)
   ·rcases List.mem_cons.1 hb with rfl | hb
    ·exact ht a ha
    ·exact h3 a ha b hb
theorem zWI : ∀ (a acc : List Str), Inc acc → Inc (a.foldl putS acc)
 | [], _, h => h
 | x :: a, _, h => zWI a _ (ywe h x)
theorem ywf (a b : List Str) : Inc (uniS a b) := zWI b _ (zWI a [] List.Pairwise.nil)
theorem zV2 {zs : List Str} (h : zs.Pairwise (· ≤ ·)) : Inc (Lib.compact zs) := by
 unfold Lib.compact Lib.compactUpTo Inc
 rw [List.pairwise_map, List.pairwise_filter]
 refine List.Pairwise.imp_of_mem ?_ (List.pairwise_lt_range (n := zs.length))
 intro i j hi hj hij hki hkj
 have hj' := List.mem_range.1 hj
 simp only [Lib.keeps, decide_eq_true_eq] at hkj
 have hget : ∀ k, (hk : k < zs.length) → zs.toArray[k]! = zs[k] := fun k hk => by simp [getElem!_pos, hk]
 rcases hkj with h0 | h0
 ·omega
 ·rw [hget j hj', hget (j - 1) (by omega)] at h0
  rw [hget i (by omega), hget j hj']
  have hle : ∀ a b, (ha : a ≤ b) → (hb : b < zs.length) → zs[a]'(by omega) ≤ zs[b] := by
   intro a b ha hb
   rcases Nat.lt_or_ge a b with hab | hab
   ·exact List.pairwise_iff_getElem.1 h a b (by omega) hb hab
   ·obtain rfl : a = b := by omega
    exact List.le_refl _
  have h1 := hle (j - 1) j (by omega) hj'
  have h2 : zs[j - 1]'(by omega) < zs[j] := Std.lt_of_le_of_ne h1 (fun e => h0 e.symm)
  exact List.lt_of_le_of_lt (hle i (j - 1) (by omega) (by omega)) h2
end Go.Abs
end
section
namespace Go.Abs
def namesC (l : List Coef) : List Str := l.map Coef.name
def namesR (l : List Row) : List Str := l.flatMap fun r => namesC r.lin.coefs
def varsR (l : List Row) : List Str := unionS (namesR l) []
theorem zYR (d : List Row) (x : Row) : namesR (d ++ [x]) = namesR d ++ namesC x.lin.coefs := by simp [namesR]
theorem zYQ (d : List Coef) (x : Coef) : namesC (d ++ [x]) = namesC d ++ [x.name] := by simp [namesC]
theorem zkP (l : List Coef) : (namesC l).length = l.length := by simp [namesC]
theorem zQY (a b : List Str) : Inc (unionS a b) := by
 unfold unionS
 refine zV2 ?_
 have := List.pairwise_mergeSort (le := fun x y : Str => decide (x ≤ y)) (fun a b c h1 h2 => by
  simp only [decide_eq_true_eq] at *; exact List.le_trans h1 h2) (fun a b => by
  simp only [Bool.or_eq_true, decide_eq_true_eq]; exact List.le_total a b) (a ++ b)
 exact this.imp fun h => by simpa using h
theorem zvN (l : List Row) : Inc (varsR l) := zQY _ _
theorem zqt {l : List Row} {x : Str} : x ∈ varsR l ↔ ∃ r ∈ l, ∃ c ∈ r.lin.coefs, c.name = x := by
 unfold varsR namesR namesC
 rw [zX8]; simp
def gather (l : List Str) (acc : List Str) : List Str := l.foldl (fun a s => uniS a [s]) acc
theorem zVZ (l acc : List Str) (x : Str) : gather (l ++ [x]) acc = uniS (gather l acc) [x] := by simp [gather]
theorem zX0 : ∀ (l acc : List Str), Inc acc → Inc (gather l acc)
 | [], _, h => h
 | _ :: l, _, _ => zX0 l _ (ywf _ _)
theorem zX7 : ∀ (l acc : List Str) (x : Str), x ∈ gather l acc ↔ x ∈ l ∨ x ∈ acc
 | [], acc, x => by simp [gather]
 | y :: l, acc, x => by
  have := zX7 l (uniS acc [y]) x
  unfold gather at *
  rw [List.foldl_cons, this, ywn]
  simp only [List.mem_cons, List.not_mem_nil, or_false]
  by_cases h : x = y <;> simp [h]
theorem zQU (l acc : List Str) : (gather l acc).length ≤ acc.length + l.length := by
 induction l generalizing acc with
 | nil => simp [gather]
 | cons y l ih =>
  have h1 := ih (uniS acc [y])
  have h2 := ywW acc [y]
  unfold gather at *
  rw [List.foldl_cons, lC]
  simp at h2; omega
theorem zV0 (l : List Row) : gather (namesR l) [] = varsR l := zV3 (zX0 _ _ List.Pairwise.nil) (zvN l) fun x => by
 rw [zX7]; unfold varsR; rw [zX8]
def rowE : List Row → Int
 | [] => 0
 | r :: l => if linE r.lin != 0 then linE r.lin else rowE l
def sysE (l : List Row) : Int := if decide ((l.length : Int) > 64) then 7 else if rowE l != 0 then rowE l else if decide (((varsR l).length : Int) > 24) then 7 else 0
theorem zVl {d : List Row} (h : ∀ r, rowE (d ++ r) = rowE r) {x : Row} (hx : linE x.lin = 0) : ∀ r, rowE ((d ++ [x]) ++ r) = rowE r := by
 intro r
 rw [List.append_assoc, h, List.singleton_append, rowE, hx]; rfl
theorem zZ4 : ∀ {l : List Row}, rowE l = 0 → ∀ r ∈ l, linE r.lin = 0
 | [], _, r, hr => by simp at hr
 | x :: l, h, r, hr => by
  rw [rowE] at h
  by_cases h0 : linE x.lin = 0
  ·rw [h0] at h
   rcases List.mem_cons.1 hr with rfl | hr
   ·exact h0
   ·exact zZ4 h r hr
  ·rw [if_pos (by simpa using h0)] at h; exact absurd h h0
variable {E : AEnv} (Z : Sys E)
include Z
theorem zwo (hU : UnionLaw E) (l : List Row) (hl : l.length ≤ 64) (hr : ∀ r ∈ l, r.lin.coefs.length ≤ 24) : E.C zzP [.one (.lst (l.map Row.cells))] (.one (.lst ((varsR l).map scell))) := by
 have hn : (namesR l).length ≤ 24 * 64 := by
  have key : ∀ l : List Row, (∀ r ∈ l, r.lin.coefs.length ≤ 24) → (namesR l).length ≤ 24 * l.length := by
   intro l
   induction l with
   | nil => intro _; simp [namesR]
   | cons r l ih =>
    intro hh
    have h1 := ih fun x hx => hh x (by simp [hx])
    have h2 := hh r (by simp)
    unfold namesR at h1 ⊢
    rw [List.flatMap_cons, lA, zkP, lC]
    omega
  have := key l hr; omega
 have hu := hU (namesR l) [] (by simp; omega)
 refine Z.zzP _ _ ⟨bl rfl, ?_⟩
 change E.C zjC [.one (.lst ((namesR l).map scell)), .one (.lst [])] (.one (.lst ((varsR l).map scell))) at hu
 generalize varsR l = V at *
 simp only [zwn, go_sem]
 intro _
 refine zze fun K0 hK0 => ?_
 refine zzh l (fun _ => True) (fun done rest => ⟨[(10, .d (.int .i64 done.length)), (9, .d (.int .i64 l.length)), (8, .d (.lst (l.map Row.cells))), (3, .own 3 1 ((namesR done).map scell))], [], [(3, true)]⟩) ?_ trivial ?_ ?_
 ·exact zxc 3 3 1 [] [(3, 3)] rfl (by simp) rfl (by simp only [Ent0, go_sem, cN, oS, namesR, List.flatMap_nil, mN, lN, nZ])
 ·intro done x r hl2 _
  have hlt := zzw hl2
  have hx := zzj (f := Row.cells) hl2 rfl
  have hdl : done.length < l.length := by rw [hl2]; simp
  have hw : IntKind.i64.wrap ((done.length : Int) + 1) = ((done.length + 1 : Nat) : Int) := zzd (by omega)
  have hxl := hr x (by rw [hl2]; simp)
  have hnd : (namesR done).length + x.lin.coefs.length ≤ 24 * 64 := by
   have e : namesR l = namesR done ++ (namesC x.lin.coefs ++ namesR r) := by rw [hl2]; simp [namesR]
   rw [e] at hn; simp only [lA, zkP] at hn; omega
  obtain ⟨⟨cs, k⟩, q⟩ := x
  simp only at hxl hnd
  simp only [zys, go_sem, hlt, hx, Row.cells]
  try intro _
  refine zze fun K hK => ?_
  refine zzh cs (fun _ => True) (fun d rest => ⟨[(18, .d (.int .i64 d.length)), (17, .d (.int .i64 cs.length)), (16, .d (.lst (cs.map Coef.cells))), (10, .d (.int .i64 done.length)), (9, .d (.int .i64 l.length)), (8, .d (.lst (l.map Row.cells))), (3, .own 3 1 ((namesR done ++ namesC d).map scell))], [], [(3, true)]⟩) ?_ trivial ?_ ?_
  ·exact zzs [(3, 3)] (by simp only [go_sem, cN, oS, namesC, mN, List.append_nil, lN, nZ])
  ·intro d y r2 hl3 _
   have hlt2 := zzw hl3
   have hy := zzj (f := Coef.cells) hl3 rfl
   have hdl2 : d.length < cs.length := by rw [hl3]; simp
   have hw2 : IntKind.i64.wrap ((d.length : Int) + 1) = ((d.length + 1 : Nat) : Int) := zzd (by omega)
   have hnl := zkP d
   simp only [zyr, go_sem, hlt2, hy, Coef.cells, hw2, lM, lA]
   refine ⟨⟨by simp [scell], by omega, by omega⟩, zzs [(3, 26)] ?_⟩
   simp only [go_sem, cN, oS, lA, lC, lN, zA, zYQ, mA, mC, mN, scell, List.append_assoc]
  ·intro _
   simp only [zyr, go_sem, hK, hw]
   exact zzs [(3, 3)] (by simp only [go_sem, cN, oS, lA, lC, lN, zA, zYR, mA])
 ·intro _
  simp only [zys, go_sem, hK0]
  refine zzb hu ?_
  simp only [go_sem]
theorem zZH (l : List Row) (hl : l.length ≤ 64) (hr : ∀ r ∈ l, r.lin.coefs.length ≤ 24) : E.C zkb [.one (.lst (l.map Row.cells))] (.one (.lst ((varsR l).map scell))) := by
 have hU := fun a b h => zK7 Z a b h
 rw [← zV0]
 refine Z.zkb _ _ ⟨bl rfl, ?_⟩
 simp only [zZv, go_sem]
 intro _
 have hn : ∀ d, (∃ r, l = d ++ r) → (namesR d).length ≤ 24 * 64 := by
  have key : ∀ l : List Row, (∀ r ∈ l, r.lin.coefs.length ≤ 24) → (namesR l).length ≤ 24 * l.length := by
   intro l
   induction l with
   | nil => intro _; simp [namesR]
   | cons r l ih =>
    intro hh
    have h1 := ih fun x hx => hh x (by simp [hx])
    have h2 := hh r (by simp)
    unfold namesR at h1 ⊢
    rw [List.flatMap_cons, lA, zkP, lC]
    omega
  rintro d ⟨r, rfl⟩
  have := key d fun x hx => hr x (by simp [hx])
  simp at hl; omega
 refine zze fun K0 hK0 => ?_
 refine zzh l (fun _ => True) (fun done rest => ⟨[(10, .d (.int .i64 done.length)), (9, .d (.int .i64 l.length)), (8, .d (.lst (l.map Row.cells))), (3, .d (.lst ((gather (namesR done) []).map scell)))], [], []⟩) ?_ trivial ?_ ?_
 ·exact zzc (by simp only [go_sem, oS, namesR, gather, List.flatMap_nil, List.foldl_nil, mN, lN, nZ])
 ·intro done x r hl2 _
  have hlt := zzw hl2
  have hx := zzj (f := Row.cells) hl2 rfl
  have hdl : done.length < l.length := by rw [hl2]; simp
  have hw : IntKind.i64.wrap ((done.length : Int) + 1) = ((done.length + 1 : Nat) : Int) := zzd (by omega)
  have hxl := hr x (by rw [hl2]; simp)
  have hnd := hn done ⟨x :: r, hl2⟩
  obtain ⟨⟨cs, k⟩, q⟩ := x
  simp only at hxl hnd
  simp only [zwX, go_sem, hlt, hx, Row.cells]
  try intro _
  refine zze fun K hK => ?_
  refine zzh cs (fun _ => True) (fun d rest => ⟨[(18, .d (.int .i64 d.length)), (17, .d (.int .i64 cs.length)), (16, .d (.lst (cs.map Coef.cells))), (10, .d (.int .i64 done.length)), (9, .d (.int .i64 l.length)), (8, .d (.lst (l.map Row.cells))), (3, .d (.lst ((gather (namesR done ++ namesC d) []).map scell)))], [], []⟩) ?_ trivial ?_ ?_
  ·exact zzc (by simp only [go_sem, oS, namesC, mN, List.append_nil, lN, nZ])
  ·intro d y r2 hl3 _
   have hlt2 := zzw hl3
   have hy := zzj (f := Coef.cells) hl3 rfl
   have hdl2 : d.length < cs.length := by rw [hl3]; simp
   have hw2 : IntKind.i64.wrap ((d.length : Int) + 1) = ((d.length + 1 : Nat) : Int) := zzd (by omega)
   have hnl := zkP d
   have hgl := zQU (namesR done ++ namesC d) []
   simp only [lA, lN] at hgl
   have hu := hU (gather (namesR done ++ namesC d) []) [y.name] (by simp; omega)
   rw [← zVZ] at hu
   change E.C zw7 [.one (.lst ((gather (namesR done ++ namesC d) []).map scell)), .one (.lst [[.str y.name]])] (.one (.lst ((gather ((namesR done ++ namesC d) ++ [y.name]) []).map scell))) at hu
   simp only [zwW, go_sem, hlt2, hy, Coef.cells, hw2]
   refine zzb hu ?_
   simp only [go_sem, hw2]
   exact zzc (by simp only [go_sem, oS, lA, lC, lN, zA, zYQ, List.append_assoc])
  ·intro _
   simp only [zwW, go_sem, hK, hw]
   exact zzc (by simp only [go_sem, oS, lA, lC, lN, zA, zYR])
 ·intro _
  simp only [zwX, go_sem, hK0]
end Go.Abs
end
section
namespace Go.Abs
theorem zqB {l : List Row} (h : rowE l = 0) : ∀ r ∈ l, r.lin.coefs.length ≤ 24 := fun r hr => zxe (zZ4 h r hr)
def vars0 (l : List Row) : List Str := if sysE l != 0 then [] else varsR l
theorem zXc {l : List Row} (h : sysE l = 0) : l.length ≤ 64 ∧ rowE l = 0 ∧ (varsR l).length ≤ 24 := by
 unfold sysE at h
 split at h
 ·cases h
 ·rename_i h1
  split at h
  ·rename_i h2; exact absurd h (by simpa using h2)
  ·rename_i h2
   split at h
   ·cases h
   ·rename_i h3
    exact ⟨by simp at h1; omega, by simpa using h2, by simp at h3; omega⟩
variable {E : AEnv} (Z : Sys E)
include Z
theorem zvp (hU : UnionLaw E) (l : List Row) : E.C zyu [.one (.lst (l.map Row.cells))] (.one (.int .i64 (sysE l))) := by
 have hL := fun f => zyl Z f
 have hV := fun a b => zwo Z hU l a b
 refine Z.zyu _ _ ⟨bl rfl, ?_⟩
 generalize hR : sysE l = R
 unfold sysE at hR
 simp only [Lin.cells] at hL
 simp only [zvo, go_sem]
 intro _
 cases c1 : decide ((l.length : Int) > 64) with
 | true => rw [c1] at hR; simp only [go_sem] at hR ⊢; exact hR
 | false =>
 rw [c1] at hR
 simp only [go_sem] at hR ⊢
 have hl : l.length ≤ 64 := by have := of_decide_eq_false c1; omega
 intro _
 refine zze fun K0 hK0 => ?_
 refine zzh l (fun done => ∀ r, rowE (done ++ r) = rowE r) (fun done rest => ⟨[(11, .d (.int .i64 done.length)), (10, .d (.int .i64 l.length)), (9, .d (.lst (l.map Row.cells))), (0, .d (.lst (l.map Row.cells)))], [], []⟩) ?_ (fun r => rfl) ?_ ?_
 ·exact zzc (by simp only [go_sem, oS, lN, nZ])
 ·intro done x r hl2 hI
  have hlt := zzw hl2
  have hx := zzj (f := Row.cells) hl2 rfl
  have hdl : done.length < l.length := by rw [hl2]; simp
  have hw : IntKind.i64.wrap ((done.length : Int) + 1) = ((done.length + 1 : Nat) : Int) := zzd (by omega)
  have hLx := hL x.lin
  simp only [zxg, go_sem, hlt, hx, Row.cells]
  refine zzb hLx ?_
  simp only [go_sem]
  cases c2 : (linE x.lin != 0) with
  | true =>
   have e : rowE l = linE x.lin := by rw [hl2, hI, rowE, if_pos c2]
   simp only [go_sem, hK0, ← hR, e, c2, if_true]
  | false =>
   simp only [go_sem, hw]
   exact ⟨zzc (by simp only [go_sem, oS, lA, lC, lN, zA]), zVl hI (by simpa using c2)⟩
 ·intro hI
  have e : rowE l = 0 := by have := hI []; rw [List.append_nil] at this; rw [this]; rfl
  have hV := hV hl (zqB e)
  rw [e] at hR
  simp only [zxg, go_sem, hK0]
  refine zzb hV ?_
  simp only [go_sem, lM]
  intro _
  cases c3 : decide (((varsR l).length : Int) > 24) with
  | true => rw [c3] at hR; simp only [go_sem] at hR ⊢; exact hR
  | false => rw [c3] at hR; simp only [go_sem] at hR ⊢; exact hR
theorem zY7 (hU : UnionLaw E) (l : List Row) : E.C zxn [.one (.lst (l.map Row.cells))] (.one (.lst ((vars0 l).map scell))) := by
 have hC := zvp Z hU l
 have hV := fun a b => zwo Z hU l a b
 refine Z.zxn _ _ ⟨bl rfl, ?_⟩
 generalize hR : vars0 l = R
 unfold vars0 at hR
 simp only [zvK, go_sem]
 refine zzb hC ?_
 cases c : (sysE l != 0) with
 | true => rw [c] at hR; subst hR; simp only [go_sem, c, if_true, mN]
 | false =>
  rw [c] at hR
  have h0 : sysE l = 0 := by simpa using c
  obtain ⟨h1, h2, h3⟩ := zXc h0
  have hV := hV h1 (zqB h2)
  simp only [go_sem] at hR
  rw [hR] at hV
  simp only [go_sem, c]
  refine zzb hV ?_
  simp only [go_sem]
theorem zZG (l : List Row) : E.C zka [.one (.lst (l.map Row.cells))] (.one (.int .i64 (sysE l))) := by
 have hL := fun f => zyP Z f
 have hV := fun a b => zZH Z l a b
 refine Z.zka _ _ ⟨bl rfl, ?_⟩
 generalize hR : sysE l = R
 unfold sysE at hR
 simp only [Lin.cells] at hL
 simp only [zZu, go_sem]
 intro _
 cases c1 : decide ((l.length : Int) > 64) with
 | true => rw [c1] at hR; simp only [go_sem] at hR ⊢; exact hR
 | false =>
 rw [c1] at hR
 simp only [go_sem] at hR ⊢
 have hl : l.length ≤ 64 := by have := of_decide_eq_false c1; omega
 intro _
 refine zze fun K0 hK0 => ?_
 refine zzh l (fun done => ∀ r, rowE (done ++ r) = rowE r) (fun done rest => ⟨[(11, .d (.int .i64 done.length)), (10, .d (.int .i64 l.length)), (9, .d (.lst (l.map Row.cells))), (0, .d (.lst (l.map Row.cells)))], [], []⟩) ?_ (fun r => rfl) ?_ ?_
 ·exact zzc (by simp only [go_sem, oS, lN, nZ])
 ·intro done x r hl2 hI
  have hlt := zzw hl2
  have hx := zzj (f := Row.cells) hl2 rfl
  have hdl : done.length < l.length := by rw [hl2]; simp
  have hw : IntKind.i64.wrap ((done.length : Int) + 1) = ((done.length + 1 : Nat) : Int) := zzd (by omega)
  have hLx := hL x.lin
  simp only [zwV, go_sem, hlt, hx, Row.cells]
  refine zzb hLx ?_
  simp only [go_sem]
  cases c2 : (linE x.lin != 0) with
  | true =>
   have e : rowE l = linE x.lin := by rw [hl2, hI, rowE, if_pos c2]
   simp only [go_sem, hK0, ← hR, e, c2, if_true]
  | false =>
   simp only [go_sem, hw]
   exact ⟨zzc (by simp only [go_sem, oS, lA, lC, lN, zA]), zVl hI (by simpa using c2)⟩
 ·intro hI
  have e : rowE l = 0 := by have := hI []; rw [List.append_nil] at this; rw [this]; rfl
  have hV := hV hl (zqB e)
  rw [e] at hR
  simp only [zwV, go_sem, hK0]
  refine zzb hV ?_
  simp only [go_sem, lM]
  intro _
  cases c3 : decide (((varsR l).length : Int) > 24) with
  | true => rw [c3] at hR; simp only [go_sem] at hR ⊢; exact hR
  | false => rw [c3] at hR; simp only [go_sem] at hR ⊢; exact hR
theorem zJf (l : List Row) : E.C zje [.one (.lst (l.map Row.cells))] (.one (.lst ((vars0 l).map scell))) := by
 have hC := zZG Z l
 have hV := fun a b => zZH Z l a b
 refine Z.zje _ _ ⟨bl rfl, ?_⟩
 generalize hR : vars0 l = R
 unfold vars0 at hR
 simp only [zYB, go_sem]
 refine zzb hC ?_
 cases c : (sysE l != 0) with
 | true => rw [c] at hR; subst hR; simp only [go_sem, c, if_true, mN]
 | false =>
  rw [c] at hR
  have h0 : sysE l = 0 := by simpa using c
  obtain ⟨h1, h2, h3⟩ := zXc h0
  have hV := hV h1 (zqB h2)
  simp only [go_sem] at hR
  rw [hR] at hV
  simp only [go_sem, c]
  refine zzb hV ?_
  simp only [go_sem]
end Go.Abs
end
section
namespace Go.Abs
def lessS (x : Str) (y : Str) : Bool := Op.bytesLess y x
def ixL (l : List Str) (x : Str) : Nat := (l.takeWhile (lessS x)).length
theorem zwb {x y : Str} : lessS x y = true ↔ y < x := by
 unfold lessS; rw [Go.Proofs.bytesLess_eq]; simp
theorem zql {p q : List Str} {z : Str} (h : Inc (p ++ z :: q)) : (∀ y ∈ p, y < z) ∧ ∀ y ∈ q, z < y := by
 unfold Inc at h
 obtain ⟨_, h2, h3⟩ := List.pairwise_append.1 h
 exact ⟨fun y hy => h3 y hy z (by simp), (List.pairwise_cons.1 h2).1⟩
theorem zX2 {l p q : List Str} {x : Str} (h : l = p ++ x :: q) (hi : Inc l) : ixL l x = p.length := by
 subst h
 obtain ⟨h1, _⟩ := zql hi
 unfold ixL
 rw [(ykj (f := lessS x) (fun y hy => zwb.2 (h1 y hy)) (by rw [← Bool.not_eq_true, zwb]; exact ltI x)).1]
theorem zyi {α : Type} {l : List α} {i : Nat} (h : i < l.length) : ∃ p z q, l = p ++ z :: q ∧ p.length = i :=
 ⟨l.take i, l[i], l.drop (i + 1), by rw [List.getElem_cons_drop, List.take_append_drop], by rw [List.length_take]; omega⟩
theorem yk9 {n : Nat} : ((n : Int).fdiv (2 ^ min 1 64)) = ((n / 2 : Nat) : Int) := by
 have e : (2 : Int) ^ min 1 64 = 2 := rfl
 rw [e, Int.fdiv_eq_ediv_of_nonneg _ (by omega)]; omega
theorem yxs {n : Nat} (h : n ≤ 1000) : IntKind.u64.wrap (n : Int) = n := by
 unfold IntKind.wrap
 simp only [IntKind.signed, IntKind.bits, Bool.false_and, Bool.false_eq_true, if_false]
 rw [Int.emod_eq_of_lt] <;> omega
variable {E : AEnv} (Z : Sys E)
include Z
theorem zVP (a b : Str) : E.C cmp_Less_string [.one (.str a), .one (.str b)] (.one (.bool (lessS b a))) := by
 have hN : ∀ a : Str, E.C cmp_isNaN_string [.one (.str a)] (.one (.bool false)) := fun a => by
  refine Z.cmp_isNaN_string _ _ ⟨bl rfl, ?_⟩
  simp only [zwJ, go_sem, beq_self_eq_true]
 refine Z.cmp_Less_string _ _ ⟨bl rfl, ?_⟩
 unfold lessS
 simp only [zkl, go_sem]
 refine zzb (hN a) ?_
 simp only [go_sem]
 first
  | done
  | (refine ⟨.one (.bool false), ?_⟩; simp only [go_sem])
theorem zQG (l : List Str) (x : Str) (hl : l.length ≤ 100) (hi : Inc l) (hx : x ∈ l) : E.C zzn [.one (.lst (l.map scell)), .one (.str x)] (.tup [.one (.int .i64 (ixL l x)), .one (.bool true)]) := by
 have hL := fun a => zVP Z a x
 refine Z.zzn _ _ ⟨bl rfl, ?_⟩
 simp only [zzY, go_sem]
 intro _
 refine zze fun K hK => ?_
 refine zzo (fun s : Nat × Nat => ⟨[(7, .d (.int .i64 s.1)), (8, .d (.int .i64 s.2)), (6, .d (.int .i64 l.length)), (0, .d (.lst (l.map scell))), (1, .d (.str x))], [], []⟩)
  (fun s => s.1 ≤ s.2 ∧ s.2 ≤ l.length ∧ (∀ y ∈ l.take s.1, lessS x y = true) ∧ ∀ y ∈ l.drop s.2, lessS x y = false) (fun s => s.2 - s.1) (0, l.length) ?_ ⟨Nat.zero_le _, Nat.le_refl _, by simp, by simp⟩ ?_
 ·exact zzc (by simp only [go_sem, oS, lM, nZ])
 ·rintro ⟨i, j⟩ ⟨h1, h2, h3, h4⟩
  simp only at h1 h2 h3 h4
  rcases Nat.lt_or_ge i j with hij | hij
  ·have hd : decide ((i : Int) < (j : Int)) = true := decide_eq_true (by omega)
   have hw1 : IntKind.i64.wrap ((i : Int) + j) = ((i + j : Nat) : Int) := (i64_in _ (by omega)).trans (by omega)
   have hw2 := yxs (n := i + j) (by omega)
   have hw3 : IntKind.i64.wrap (((i + j) / 2 : Nat) : Int) = (((i + j) / 2 : Nat) : Int) := i64_in _ (by omega)
   have hk : (i + j) / 2 < l.length := by omega
   obtain ⟨p, z, q, e1, e2⟩ := zyi hk
   have hg := zzj (f := scell) e1 e2
   generalize hh : (i + j) / 2 = h at *
   have hlt : ((h : Int) < (l.length : Int)) = True := eq_true (by omega)
   have hw4 : IntKind.i64.wrap ((h : Int) + 1) = ((h + 1 : Nat) : Int) := zzd (by omega)
   obtain ⟨i1, i2⟩ := zql (e1 ▸ hi)
   simp only [zzz, go_sem, hd, hw1, hw2, yk9, hh, hw3, hlt, hg, scell]
   try simp only [Int.reduceLE, true_and, and_true]
   refine zzb (hL z) ?_
   simp only [go_sem]
   cases hc : lessS x z with
   | true =>
    simp only [go_sem, hw4]
    refine ⟨(h + 1, j), zzc (by simp only [go_sem, oS]), ⟨by simp only; omega, h2, ?_, h4⟩, by simp only; omega⟩
    intro y hy
    simp only at hy
    have : l.take (h + 1) = p ++ [z] := by rw [e1, ← e2]; simp [List.take_append, List.take_of_length_le]
    rw [this] at hy
    rcases List.mem_append.1 hy with hy | hy
    ·exact zwb.2 (ltT (i1 y hy) (zwb.1 hc))
    ·rw [List.mem_singleton.1 hy]; exact hc
   | false =>
    simp only [go_sem]
    refine ⟨(i, h), zzc (by simp only [go_sem, oS]), ⟨by simp only; omega, by simp only; omega, h3, ?_⟩, by simp only; omega⟩
    intro y hy
    simp only at hy
    have : l.drop h = z :: q := by rw [e1, ← e2]; simp [List.drop_append]
    rw [this] at hy
    rcases List.mem_cons.1 hy with hy | hy
    ·rw [hy]; exact hc
    ·rw [← Bool.not_eq_true, zwb]
     intro hyx
     have : lessS x z = true := zwb.2 (ltT (i2 y hy) hyx)
     rw [hc] at this; cases this
  ·obtain rfl : i = j := by omega
   have hd : decide ((i : Int) < (i : Int)) = false := by simp
   obtain ⟨p, q, e1⟩ := List.append_of_mem hx
   have hix := zX2 e1 hi
   have hpi : p.length = i := by
    obtain ⟨i1, i2⟩ := zql (e1 ▸ hi)
    rcases Nat.lt_trichotomy p.length i with h | h | h
    ·exfalso
     have : x ∈ l.take i := by
      rw [e1, List.take_append]
      have : i - p.length = (i - p.length - 1) + 1 := by omega
      rw [this]; simp
     have := zwb.1 (h3 x this)
     exact ltI x this
    ·exact h
    ·exfalso
     obtain ⟨p1, z, q1, e3, e4⟩ := zyi h
     have hz : z ∈ l.drop i := by rw [e1, e3, ← e4]; simp
     have := h4 z hz
     have h5 : lessS x z = true := zwb.2 (i1 z (by rw [e3]; simp))
     rw [h5] at this; cases this
   have hg := zzj (f := scell) e1 hpi
   have hlt : ((i : Int) < (l.length : Int)) = True := eq_true (by rw [← hpi, e1]; simp; omega)
   have hd2 : decide ((i : Int) < (l.length : Int)) = true := decide_eq_true (of_eq_true hlt)
   simp only [zzz, go_sem, hd, hK, hix, hpi, hd2, hlt, hg, scell, beq_self_eq_true]
   refine ⟨.one (.bool false), ?_⟩
   simp only [go_sem]
   refine ⟨.one (.bool false), ?_⟩
   simp only [go_sem]
end Go.Abs
end
section
namespace Go.Abs
def mulC (k : Int) (c : Coef) : Coef := ⟨c.name, (mulI c.n k).1⟩
def mulOk (k : Int) (c : Coef) : Bool := (mulI c.n k).2
def scaleL (a : Lin) (k : Int) : Lin × Bool :=
 if linE a != 0 then (noLin, false) else if k == 0 then (noLin, true)
 else if a.coefs.all (mulOk k) && (a.c == 0 || (mulI a.c k).2) then (⟨a.coefs.map (mulC k), (mulI a.c k).1⟩, true) else (noLin, false)
theorem zZ0 {n k : Int} (h : inRange k = false) : mulI n k = (0, false) := by unfold mulI; rw [h]; simp
theorem zK0 {k : Int} (h : inRange k = true) : mulI 0 k = (0, true) := by unfold mulI bnd; rw [h]; simp [inRange]
theorem zQ7 (k : Int) : (mulI 0 k).1 = 0 := by
 cases h : inRange k with
 | true => rw [zK0 h]
 | false => rw [zZ0 h]
theorem yxf {l : List Coef} {c k : Int} (h : inRange k = false) : (if l.all (mulOk k) && (c == 0 || (mulI c k).2) then ((⟨l.map (mulC k), (mulI c k).1⟩, true) : Lin × Bool) else (noLin, false)) = (noLin, (l.length : Int) == 0 && c == 0) := by
 cases l with
 | nil =>
  by_cases hc : c = 0
  ·subst hc; rw [zZ0 h]; rfl
  ·have : (c == 0) = false := by simpa using hc
   rw [zZ0 h, this]; rfl
 | cons x l =>
  have : mulOk k x = false := by unfold mulOk; rw [zZ0 h]
  rw [List.all_cons, this]
  have h2 : (((x :: l).length : Int) == 0) = false := by simp; omega
  rw [h2]; rfl
theorem ywO {l : List Coef} {c k : Int} (h : inRange k = true) : (l.all (mulOk k) && (c == 0 || (mulI c k).2)) = ((mulI c k).2 && l.all (mulOk k)) := by
 have : (c == 0 || (mulI c k).2) = (mulI c k).2 := by
  by_cases hc : c = 0
  ·subst hc; rw [zK0 h]; rfl
  ·have : (c == 0) = false := by simpa using hc
   rw [this, Bool.false_or]
 rw [this, Bool.and_comm]
variable {E : AEnv} (Z : Sys E)
include Z
set_option maxHeartbeats 1000000 in
theorem zYI (a : Lin) (k : Int) : E.C zxl [.agg a.cells, .one (.int .i64 k)] (resL (scaleL a k)) := by
 have h1 := zyl Z a
 have h2 := zwc Z k
 have h3 := zWc Z a.c k
 have h4 := fun hl => yz7 Z zyg (.int .i64 k) (mulC k) (mulOk k) a.coefs hl fun x _ => zQw Z x k
 refine Z.zxl _ _ ⟨bl rfl, ?_⟩
 generalize hR : scaleL a k = R
 unfold scaleL at hR
 obtain ⟨l, c⟩ := a
 simp only [Lin.cells, res2] at *
 try unfold resL
 try simp only [Lin.cells]
 simp only [zvD, go_sem]
 refine zzb h1 ?_
 cases c0 : (linE ⟨l, c⟩ != 0) with
 | true => rw [c0] at hR; subst hR; simp only [c0, go_sem]; try exact ⟨rfl, rfl⟩
 | false =>
 have hll := zxe (a := ⟨l, c⟩) (by simpa using c0)
 simp only at hll
 simp only [c0, go_sem] at hR ⊢
 cases c1 : (k == 0) with
 | true => rw [c1] at hR; subst hR; simp only [go_sem]; try exact ⟨rfl, rfl⟩
 | false =>
 simp only [c1, go_sem] at hR ⊢
 refine zzb h2 ?_
 cases c2 : inRange k with
 | false =>
  rw [yxf c2] at hR
  subst hR
  simp only [go_sem]
  exact ⟨⟨rfl, rfl⟩, rfl, rfl⟩
 | true =>
  rw [ywO c2] at hR
  simp only [go_sem]
  refine zzb h3 ?_
  simp only [go_sem]
  refine zjX ⟨[(1000, 3)], [], [], _, _, _, _⟩ (h4 (by omega)) rfl rfl ?_ ?_
  ·simp only [okB, go_sem, List.cons_append, List.nil_append]
   exact ⟨rfl, rfl, fun p hp => by rw [List.mem_singleton.1 hp]; rfl⟩
  ·simp only [go_sem, List.cons_append, List.nil_append, Option.getD_some]
   unfold eachS
   cases e1 : (mulI c k).2 <;> cases e2 : l.all (mulOk k) <;> rw [e1, e2] at hR <;> subst hR <;> simp [noLin]
set_option maxHeartbeats 1000000 in
theorem zK8 (a : Lin) (k : Int) : E.C zw8 [.agg a.cells, .one (.int .i64 k)] (resL (scaleL a k)) := by
 have h1 := zyP Z a
 have h3 := fun n => zWe Z n k
 refine Z.zw8 _ _ ⟨bl rfl, ?_⟩
 generalize hR : scaleL a k = R
 unfold scaleL at hR
 obtain ⟨l, c⟩ := a
 simp only [Lin.cells, res2] at *
 try unfold resL
 try simp only [Lin.cells]
 simp only [zZq, go_sem]
 refine zzb h1 ?_
 cases c0 : (linE ⟨l, c⟩ != 0) with
 | true => rw [c0] at hR; subst hR; simp only [c0, go_sem]; try exact ⟨rfl, rfl⟩
 | false =>
 have hll := zxe (a := ⟨l, c⟩) (by simpa using c0)
 simp only at hll
 simp only [c0, go_sem] at hR ⊢
 cases c1 : (k == 0) with
 | true => rw [c1] at hR; subst hR; simp only [go_sem]; try exact ⟨rfl, rfl⟩
 | false =>
 simp only [c1, go_sem] at hR ⊢
 refine zze fun K hK => ?_
 refine zzh l (fun done => ∀ y ∈ done, mulOk k y = true) (fun done rest => ⟨[(7, .d (.int .i64 done.length)), (1, .d (.int .i64 k)), (2, .ptr 2 0), (4, .ptr 4 0), (6, .ptr 6 0)],
  [(6, [.own 6 2 ((done.map (mulC k)).map Coef.cells), .d (.int .i64 0)]), (4, [.full [], .d (.int .i64 0)]), (2, [.d (.lst (l.map Coef.cells)), .d (.int .i64 c)])], [(6, true)]⟩) ?_ (by simp) ?_ ?_
 ·exact zjQ 6 0 6 2 _ [] [(6, 6)] rfl rfl (by simp) rfl (by simp only [Ent0, go_sem, cN, oS, mN, lN, nZ]; try rfl)
 ·intro done x r hl hI
  have hlt := zzw hl
  have hx := h3 x.n
  have hdl : done.length < l.length := by rw [hl]; simp
  have hw : IntKind.i64.wrap ((done.length : Int) + 1) = ((done.length + 1 : Nat) : Int) := zzd (by omega)
  simp only [zwT, go_sem, getD_at hl, hlt, Coef.cells]
  intro _
  refine zzb hx ?_
  cases e : (mulI x.n k).2 with
  | false =>
   have e' : mulOk k x = false := e
   rw [zJH hl e'] at hR
   subst hR
   simp only [go_sem, hK]
   try exact ⟨rfl, rfl⟩
  | true =>
   have e' : mulOk k x = true := e
   simp only [go_sem, hw, getD_at hl, hlt, Coef.cells, lM]
   refine ⟨⟨by simp, by omega, by omega⟩, zzs [(6, 52)] ?_, zxF hI e'⟩
   simp only [go_sem, cN, oS, lA, lC, lN, zA, mA, mC, mN, Coef.cells, mulC]
   try rfl
 ·intro hI
  rw [zjT hI] at hR
  simp only [zwT, go_sem, hK]
  intro _
  cases c2 : (c == 0) with
  | true =>
   have hc0 : c = 0 := by simpa using c2
   subst hc0
   rw [zQ7] at hR
   subst hR
   simp only [bne, c2, go_sem]
   try exact ⟨rfl, rfl⟩
  | false =>
   simp only [c2, go_sem, Bool.false_or] at hR
   simp only [bne, c2, go_sem]
   refine zzb (h3 c) ?_
   cases e : (mulI c k).2 with
   | false => rw [e] at hR; subst hR; simp only [go_sem]; try exact ⟨rfl, rfl⟩
   | true => rw [e] at hR; subst hR; simp only [go_sem]; try exact ⟨rfl, rfl⟩
def quoC (g : Int) (c : Coef) : Coef := ⟨c.name, c.n.tdiv g⟩
end Go.Abs
end
section
namespace Go.Abs
theorem zWE {a b : Int} (hb : b ≠ 0) : 0 < gcdI a b := by
 unfold gcdI
 have := Nat.gcd_pos_of_pos_right a.natAbs (show 0 < b.natAbs by omega)
 omega
theorem zJY : ∀ {l : List Coef} {g : Int}, g ≠ 0 ∨ l ≠ [] → (∀ c ∈ l, c.n ≠ 0) → g ≠ 0 → 0 < gcdL g l ∨ gcdL g l = g
 | [], g, _, _, _ => .inr rfl
 | c :: l, g, _, h, hg => by
  have h1 : gcdI g c.n ≠ 0 := by have := zWE (a := g) (h c (by simp)); omega
  rcases zJY (l := l) (.inl h1) (fun c' hc => h c' (by simp [hc])) h1 with h2 | h2
  ·exact .inl h2
  ·refine .inl ?_
   show 0 < gcdL (gcdI g c.n) l
   rw [h2]; exact zWE (h c (by simp))
theorem gcdL_pos' {c : Coef} {l : List Coef} (h : ∀ x ∈ c :: l, x.n ≠ 0) : 0 < gcdL 0 (c :: l) := by
 have h0 := zWE (a := 0) (h c (by simp))
 have : gcdL 0 (c :: l) = gcdL (gcdI 0 c.n) l := rfl
 rw [this]
 rcases zJY (l := l) (.inl (show gcdI 0 c.n ≠ 0 by omega)) (fun x hx => h x (by simp [hx])) (by omega) with h2 | h2
 ·exact h2
 ·omega
def tightR (r : Row) : Row :=
 if linE r.lin != 0 then r
 else if (r.lin.coefs.length : Int) == 0 then verdR (r.lin.c == 0 || (!r.eq && decide (r.lin.c < 0)))
 else if r.eq && r.lin.c.tmod (gcdL 0 r.lin.coefs) != 0 then verdR false
 else ⟨⟨r.lin.coefs.map (quoC (gcdL 0 r.lin.coefs)), -(-r.lin.c / gcdL 0 r.lin.coefs)⟩, r.eq⟩
theorem zWR {n g : Int} (h : inRange n = true) (hg : 0 < g) : IntKind.i64.wrap (n.tdiv g) = n.tdiv g := by
 have hb := zjh n hg
 have := (zxN n).1 h
 exact i64_in _ (by omega)
theorem neg_fdiv {c g : Int} (hg : 0 < g) (h : c.tmod g = 0) : -(-c / g) = c.tdiv g := by
 have := zj5 (a := -c) hg
 rw [Int.neg_tmod, h] at this
 rw [if_neg (by decide)] at this
 rw [this, Int.neg_tdiv]; omega
theorem zQS {s : Str} {a r : List Coef} {x : Coef} (ha : ∀ y ∈ a, (y.name == s) = false) : findC s (a ++ x :: r) = if x.name == s then (x.n, true) else findC s r := by
 induction a with
 | nil => rfl
 | cons y a ih => rw [List.cons_append, findC, ha y (by simp)]; exact ih fun z hz => ha z (by simp [hz])
theorem zQR {s : Str} {a : List Coef} (ha : ∀ y ∈ a, (y.name == s) = false) : findC s a = (0, false) := by
 induction a with
 | nil => rfl
 | cons y a ih => rw [findC, ha y (by simp)]; exact ih fun z hz => ha z (by simp [hz])
def valGo (at' : List Coef) (s : Int) : List Coef → Int × Bool
 | [] => (s, true)
 | c :: r => if (mulI c.n (findC c.name at').1).2 then (if (addI s (mulI c.n (findC c.name at').1).1).2 then valGo at' (addI s (mulI c.n (findC c.name at').1).1).1 r else (0, false)) else (0, false)
def valL (a : Lin) (at' : List Coef) : Int × Bool := if linE a != 0 then (0, false) else valGo at' a.c a.coefs
variable {E : AEnv} (Z : Sys E)
include Z
theorem zKs (x : Coef) {g : Int} (hg : 0 < g) (hx : inRange x.n = true) : E.C zzW [] (.bx [.agg (x.cells.map .d), .ptr 1000 0] [(1000, [.d (.int .i64 g)])] [] (.tup [.agg (quoC g x).cells, .one (.bool true)]) [(1000, [.d (.int .i64 g)])] []) := by
 refine Z.zzW _ _ ⟨bl rfl, bl rfl, rfl, ?_⟩
 have hq := zWR hx hg
 have h0 : (g ≠ 0) = True := eq_true (by omega)
 simp only [Coef.cells, quoC] at *
 simp only [zwM, go_sem, mC, mN, hq, h0]
 exact zzc (by simp only [go_sem, oS])
theorem zqW (l : List Coef) {g : Int} (hg : 0 < g) (hl : l.length ≤ 1000) (hr : ∀ c ∈ l, inRange c.n = true) : E.C zyy [.one (.lst (l.map Coef.cells)), .one (.int .i64 g)] (.one (.lst ((l.map (quoC g)).map Coef.cells))) := by
 have h4 := yz7 Z zzW (.int .i64 g) (quoC g) (fun _ => true) l hl fun x hx => zKs Z x hg (hr x hx)
 have he : eachS (quoC g) (fun _ => true) l = (l.map (quoC g), true) := by unfold eachS; rw [zjT (fun _ _ => rfl)]; rfl
 rw [he] at h4
 refine Z.zyy _ _ ⟨bl rfl, ?_⟩
 simp only [zkJ, go_sem]
 refine zjX ⟨[(1000, 3)], [], [], _, _, _, _⟩ h4 rfl rfl ?_ ?_
 ·simp only [okB, go_sem, List.cons_append, List.nil_append]
  exact ⟨rfl, rfl, fun p hp => by rw [List.mem_singleton.1 hp]; rfl⟩
 ·simp only [go_sem, List.cons_append, List.nil_append, Option.getD_some]
theorem zXo (a : Lin) {g : Int} (k : Int) (hg : 0 < g) (hl : a.coefs.length ≤ 1000) (hr : ∀ c ∈ a.coefs, inRange c.n = true) : E.C zxh [.agg a.cells, .one (.int .i64 g), .one (.int .i64 k)] (.agg (Lin.mk (a.coefs.map (quoC g)) k).cells) := by
 refine Z.zxh _ _ ⟨bl rfl, ?_⟩
 obtain ⟨l, c⟩ := a
 simp only [Lin.cells] at *
 simp only [zjq, go_sem]
 refine zze fun K hK => ?_
 refine zzh l (fun _ => True) (fun done rest => ⟨[(8, .d (.int .i64 done.length)), (1, .d (.int .i64 g)), (3, .ptr 3 0), (6, .ptr 6 0), (7, .ptr 7 0)],
  [(7, [.own 7 2 ((done.map (quoC g)).map Coef.cells), .d (.int .i64 k)]), (6, [.full [], .d (.int .i64 0)]), (3, [.d (.lst (l.map Coef.cells)), .d (.int .i64 c)])], [(7, true)]⟩) ?_ trivial ?_ ?_
 ·exact zjQ 7 0 7 2 _ [] [(7, 7)] rfl rfl (by simp) rfl (by simp only [Ent0, go_sem, cN, oS, mN, lN, nZ]; try rfl)
 ·intro done x r hlx _
  have hlt := zzw hlx
  have hdl : done.length < l.length := by rw [hlx]; simp
  have hw : IntKind.i64.wrap ((done.length : Int) + 1) = ((done.length + 1 : Nat) : Int) := zzd (by omega)
  have hq := zWR (hr x (by rw [hlx]; simp)) hg
  have h0 : (g ≠ 0) = True := eq_true (by omega)
  simp only [zxI, go_sem, getD_at hlx, hlt, Coef.cells, hw, lM, h0, hq]
  intro _
  refine ⟨⟨by simp, by omega, by omega⟩, zzs [(7, 36)] ?_⟩
  simp only [go_sem, cN, oS, lA, lC, lN, zA, mA, mC, mN, Coef.cells, quoC]
  try rfl
 ·intro _
  simp only [zxI, go_sem, hK]
  try intro _
  try simp only [go_sem]
theorem zJd (l : List Coef) (s : Str) : E.C zjc [.one (.lst (l.map Coef.cells)), .one (.str s)] (.one (.int .i64 (findC s l).1)) := by
 refine Z.zjc _ _ ⟨bl rfl, ?_⟩
 generalize hR : findC s l = R
 simp only [zYz, go_sem]
 refine zzh l (fun done => ∀ y ∈ done, (y.name == s) = false) (fun done rest => ⟨[(5, .d (.int .i64 done.length)), (0, .d (.lst (l.map Coef.cells))), (1, .d (.str s))], [], []⟩) ?_ (by simp) ?_ ?_
 ·exact zzc (by simp only [go_sem])
 ·intro done x r hl hI
  have hlt := zzw hl
  rw [hl, zQS hI] at hR
  simp only [zkz, go_sem, getD_at hl, hlt, Coef.cells]
  intro _
  have hw : IntKind.i64.wrap ((done.length : Int) + 1) = ((done.length + 1 : Nat) : Int) := zzd (by omega)
  cases h1 : (x.name == s) with
  | true => simp only [h1, go_sem, getD_at hl, hlt, Coef.cells] at hR ⊢; simp only [← hR, and_self]
  | false =>
   simp only [go_sem, hw, lA]
   exact ⟨zzc (by simp only [go_sem, lA, lC, lN, zA]), zxF hI h1⟩
 ·intro hI
  rw [zQR hI] at hR
  simp only [zkz, go_sem, ← hR]
  try intro _
  try simp only [go_sem]
structure ValS where
 d : List Coef
 r : List Coef
 s : Int
set_option maxHeartbeats 1000000 in
theorem zVa (a : Lin) (at' : List Coef) : E.C zkV [.agg a.cells, .one (.lst (at'.map Coef.cells))] (res2 (valL a at')) := by
 have h1 := zyP Z a
 have h2 := fun s => zJd Z at' s
 have h3 := fun x y => zWe Z x y
 have h4 := fun x y => yzb Z x y
 refine Z.zkV _ _ ⟨bl rfl, ?_⟩
 generalize hR : valL a at' = R
 unfold valL at hR
 obtain ⟨l, c⟩ := a
 simp only [Lin.cells, res2] at *
 simp only [zZs, go_sem]
 refine zzb h1 ?_
 cases c0 : (linE ⟨l, c⟩ != 0) with
 | true => rw [c0] at hR; subst hR; simp only [c0, go_sem]; try exact ⟨rfl, rfl⟩
 | false =>
 rw [c0] at hR
 have hll := zxe (a := ⟨l, c⟩) (by simpa using c0)
 simp only at hll hR
 simp only [c0, go_sem]
 refine zzo (fun s : ValS => ⟨[(7, .d (.int .i64 s.d.length)), (6, .d (.int .i64 s.s)), (1, .d (.lst (at'.map Coef.cells))), (2, .ptr 2 0)], [(2, [.d (.lst (l.map Coef.cells)), .d (.int .i64 c)])], []⟩)
  (fun s => l = s.d ++ s.r ∧ valGo at' s.s s.r = R) (fun s => s.r.length) ⟨[], l, c⟩ ?_ ⟨rfl, hR⟩ ?_
 ·exact zzc (by simp only [go_sem, oS])
 ·rintro ⟨d, r, s⟩ ⟨hl, hI⟩
  simp only at hl hI
  cases r with
  | nil =>
   have hlt : decide ((d.length : Int) < (l.length : Int)) = false := by simp [hl]
   rw [valGo] at hI
   subst hI
   simp only [zwU, go_sem, hlt]
   try intro _
   try exact ⟨rfl, rfl⟩
  | cons x r =>
   have hlt := zzw hl
   have hw : IntKind.i64.wrap ((d.length : Int) + 1) = ((d.length + 1 : Nat) : Int) := zzd (by omega)
   rw [valGo] at hI
   simp only [zwU, go_sem, getD_at hl, hlt, Coef.cells]
   intro _
   refine zzb (h2 x.name) ?_
   simp only [go_sem]
   refine zzb (h3 _ _) ?_
   cases e1 : (mulI x.n (findC x.name at').1).2 with
   | false => rw [e1, if_neg (by decide)] at hI; subst hI; simp only [go_sem]; try exact ⟨rfl, rfl⟩
   | true =>
    rw [e1, if_pos rfl] at hI
    simp only [go_sem]
    refine zzb (h4 _ _) ?_
    cases e2 : (addI s (mulI x.n (findC x.name at').1).1).2 with
    | false => rw [e2, if_neg (by decide)] at hI; subst hI; simp only [go_sem]; try exact ⟨rfl, rfl⟩
    | true =>
     rw [e2, if_pos rfl] at hI
     simp only [go_sem, hw]
     refine ⟨⟨d ++ [x], r, _⟩, zzc (by simp only [go_sem, oS, lA, lC, lN, zA]), ⟨by rw [hl, List.append_assoc]; rfl, hI⟩, by simp⟩
end Go.Abs
end
section
namespace Go.Abs
theorem zXD {a g : Int} (hg : 0 < g) : -(absI a) - 1 ≤ a / g ∧ a / g ≤ absI a := by
 have h1 := zj5 (a := a) hg
 have h2 := zjh a hg
 split at h1 <;> omega
variable {E : AEnv} (Z : Sys E)
include Z
set_option maxHeartbeats 2000000 in
theorem zYJ (r : Row) (h0 : linE r.lin = 0) : E.C zyp [.agg r.cells] (.agg (tightR r).cells) := by
 have h1 := zyl Z r.lin
 have hll := zxe h0
 have hrg := zqV h0
 have ⟨hce, hcr⟩ := zv8 h0
 have hv := fun b => zqY Z b
 have hg1 := zqX Z r.lin 0 (by decide) hrg
 have hgr := zkN (g := 0) (by decide) hrg
 generalize hR : tightR r = R
 unfold tightR at hR
 rw [h0] at h1 hR
 obtain ⟨⟨l, c⟩, eq⟩ := r
 refine Z.zyp _ _ ⟨bl rfl, ?_⟩
 simp only [Row.cells, Lin.cells] at *
 simp only [zvE, go_sem]
 refine zzb h1 ?_
 simp only [go_sem, bne, Int.reduceBEq] at hR ⊢
 intro _
 cases c1 : ((l.length : Int) == 0) with
 | true =>
  rw [c1] at hR
  simp only [if_true] at hR
  simp only [go_sem]
  refine zzb (hv _) ?_
  simp only [go_sem, ← hR]
 | false =>
  rw [c1] at hR
  have hl0 : l ≠ [] := by rintro rfl; simp at c1
  have hg : 0 < gcdL 0 l := by
   cases l with
   | nil => exact absurd rfl hl0
   | cons x l => exact gcdL_pos' fun y hy => (zk7 hce y hy).2
  simp only [go_sem] at hR ⊢
  refine zzb hg1 ?_
  generalize gcdL 0 l = g at *
  have h0' : (g ≠ 0) = True := eq_true (by omega)
  rw [zzm] at hcr hgr
  have hw1 : IntKind.i64.wrap (0 - c) = -c := (i64_in _ (by omega)).trans (by omega)
  have hd := zQ8 Z (a := -c) hg
  have hdi : divI (-c) g = (-c / g, true) := by
   unfold divI
   rw [(zzm _).2 (show -1000000000000 ≤ -c ∧ -c ≤ 1000000000000 by omega), (zzm _).2 hgr, show (g == 0) = false by simp; omega]; rfl
  rw [hdi] at hd
  have hb := zXD (a := -c) hg
  have hab : absI (-c) ≤ 1000000000000 := (zxN _).1 ((zzm _).2 (by omega))
  have hw2 : IntKind.i64.wrap (0 - -c / g) = -(-c / g) := (i64_in _ (by omega)).trans (by omega)
  have hdv := zqW Z l hg (by omega) hrg
  simp only [res2] at hd
  simp only [go_sem, h0']
  cases c2 : (eq && c.tmod g != 0) with
  | true =>
   have c2' := c2
   simp only [bne] at c2'
   rw [if_pos c2'] at hR
   subst hR
   simp only [go_sem]
   refine zzb (hv _) ?_
   simp only [go_sem]
  | false =>
   have c2' := c2
   simp only [bne] at c2'
   rw [if_neg (by rw [c2']; decide)] at hR
   subst hR
   simp only [go_sem, hw1]
   refine zzb hd ?_
   simp only [go_sem]
   refine zzb hdv ?_
   simp only [go_sem, hw2]
set_option maxHeartbeats 2000000 in
theorem zK9 (r : Row) (h0 : linE r.lin = 0) : E.C zkU [.agg r.cells] (.agg (tightR r).cells) := by
 have h1 := zyP Z r.lin
 have hll := zxe h0
 have hrg := zqV h0
 have ⟨hce, hcr⟩ := zv8 h0
 have hg1 := zWU Z r.lin hrg
 have hgr := zkN (g := 0) (by decide) hrg
 have hdv := fun g k hg => zXo Z r.lin (g := g) k hg (by omega) hrg
 generalize hR : tightR r = R
 unfold tightR at hR
 rw [h0] at h1 hR
 obtain ⟨⟨l, c⟩, eq⟩ := r
 refine Z.zkU _ _ ⟨bl rfl, ?_⟩
 simp only [Row.cells, Lin.cells] at *
 simp only [zZr, go_sem]
 refine zzb h1 ?_
 simp only [go_sem, bne, Int.reduceBEq] at hR ⊢
 intro _
 cases c1 : ((l.length : Int) == 0) with
 | true =>
  rw [c1] at hR
  simp only [if_true] at hR
  simp only [go_sem]
  subst hR
  have t0 : (c == 0) = decide (c = 0) := rfl
  rcases Int.lt_trichotomy c 0 with h | h | h
  ·have a1 : decide (c = 0) = false := decide_eq_false (by omega)
   have a2 : decide (c > 0) = false := decide_eq_false (by omega)
   have a3 : decide (c < 0) = true := decide_eq_true h
   cases eq <;> simp only [t0, a1, a2, a3, go_sem, verdR, noLin, mN]
  ·have a1 : decide (c = 0) = true := decide_eq_true h
   have a2 : decide (c > 0) = false := decide_eq_false (by omega)
   cases eq <;> simp only [t0, a1, a2, go_sem, verdR, noLin, mN]
  ·have a1 : decide (c = 0) = false := decide_eq_false (by omega)
   have a2 : decide (c > 0) = true := decide_eq_true h
   have a3 : decide (c < 0) = false := decide_eq_false (by omega)
   cases eq <;> simp only [t0, a1, a2, a3, go_sem, verdR, noLin, mN]
 | false =>
  rw [c1] at hR
  have hl0 : l ≠ [] := by rintro rfl; simp at c1
  have hg : 0 < gcdL 0 l := by
   cases l with
   | nil => exact absurd rfl hl0
   | cons x l => exact gcdL_pos' fun y hy => (zk7 hce y hy).2
  simp only [go_sem] at hR ⊢
  refine zzb hg1 ?_
  generalize gcdL 0 l = g at *
  have h0' : (g ≠ 0) = True := eq_true (by omega)
  rw [zzm] at hcr hgr
  have hw1 : IntKind.i64.wrap (0 - c) = -c := (i64_in _ (by omega)).trans (by omega)
  have hd := yzc Z (a := -c) hg
  have hdi : divI (-c) g = (-c / g, true) := by
   unfold divI
   rw [(zzm _).2 (show -1000000000000 ≤ -c ∧ -c ≤ 1000000000000 by omega), (zzm _).2 hgr, show (g == 0) = false by simp; omega]; rfl
  rw [hdi] at hd
  have hb := zXD (a := -c) hg
  have hab : absI (-c) ≤ 1000000000000 := (zxN _).1 ((zzm _).2 (by omega))
  have hw2 : IntKind.i64.wrap (0 - -c / g) = -(-c / g) := (i64_in _ (by omega)).trans (by omega)
  have hw3 := zWR ((zzm _).2 hcr) hg
  simp only [res2] at hd
  cases eq with
  | false =>
   simp only [go_sem, h0', hw1, Bool.false_and] at hR ⊢
   subst hR
   refine zzb hd ?_
   simp only [go_sem, hw2]
   refine zzb (hdv g _ hg) ?_
   simp only [go_sem]
  | true =>
   simp only [go_sem, h0', Bool.true_and] at hR ⊢
   cases c2 : (c.tmod g == 0) with
   | false =>
    rw [if_pos (by simp only [bne, c2, Bool.not_false])] at hR
    subst hR
    simp only [go_sem, bne, c2, verdR, mN]
   | true =>
    rw [if_neg (by simp only [bne, c2, Bool.not_true, Bool.false_eq_true, not_false_eq_true])] at hR
    subst hR
    have hnf := neg_fdiv (c := c) hg (by simpa using c2)
    simp only [go_sem, bne, c2, hw3]
    refine zzb (hdv g _ hg) ?_
    simp only [go_sem, hnf]
end Go.Abs
end
section
namespace Go.Abs
def oneL : Lin := ⟨[], 1⟩
theorem zWN : linE noLin = 0 := by decide
def zeroR : Row := ⟨noLin, false⟩
def rowS (f : Lin) (s : Int) : Row × Bool :=
 if s == -1 then (tightR ⟨(addL f oneL).1, false⟩, (addL f oneL).2)
 else if s == 0 then (tightR ⟨(addL f noLin).1, true⟩, (addL f noLin).2)
 else if s == 1 then (if (scaleL f (-1)).2 then (tightR ⟨(addL (scaleL f (-1)).1 oneL).1, false⟩, (addL (scaleL f (-1)).1 oneL).2) else (zeroR, false))
 else (zeroR, false)
def rowHd (p : Lin × Int) : List Row := if (rowS p.1 p.2).2 then [(rowS p.1 p.2).1] else []
def rowsS (f : List Lin) (signs : List Int) : List Row := (f.zip signs).flatMap rowHd
theorem yy5 (x : Lin) : linE (rightL x).1 = 0 := by
 unfold rightL
 cases h : (linE x != 0) with
 | true => exact zWN
 | false => simpa using h
theorem yzC (a b : Lin) : linE (addL a b).1 = 0 := by
 unfold addL
 split
 ·exact zWN
 ·exact yy5 _
theorem zWM {n : Int} (h : inRange n = true) : mulI n 1 = (n, true) := by
 unfold mulI bnd
 rw [h, Int.mul_one, h]; simp [inRange]
theorem zKo (f : Lin) : addL f noLin = scaleL f 1 := by
 unfold addL scaleL
 rw [zWN]
 cases h : (linE f != 0) with
 | true => rfl
 | false =>
  have h0 : linE f = 0 := by simpa using h
  have hr := zqV h0
  have hc := (zv8 h0).2
  have e1 : addGo f.coefs noLin.coefs = f.coefs := zwu _
  have e2 : wAdd f.c noLin.c = f.c := by
   unfold wAdd
   rw [zzm] at hc
   show IntKind.i64.wrap (f.c + 0) = f.c
   rw [Int.add_zero]; exact i64_in _ (by omega)
  have e3 : f.coefs.all (mulOk 1) = true := zjT fun y hy => by unfold mulOk; rw [zWM (hr y hy)]
  have e4 : f.coefs.map (mulC 1) = f.coefs := by
   conv => rhs; rw [← List.map_id f.coefs]
   exact List.map_congr_left fun y hy => by unfold mulC; rw [zWM (hr y hy)]; rfl
  rw [e1, e2, e3, e4, zWM hc]
  unfold rightL
  rw [h0]
  simp
theorem zXj {α β : Type} (f : List α) (s : List β) : ((f.zip s).length : Int) = if (s.length : Int) < (f.length : Int) then (s.length : Int) else (f.length : Int) := by
 rw [List.length_zip]; split <;> omega
theorem zki {α β : Type} : ∀ {f : List α} {s : List β} {d r : List (α × β)} {x : α × β}, f.zip s = d ++ x :: r → ∃ fd fr sd sr, f = fd ++ x.1 :: fr ∧ s = sd ++ x.2 :: sr ∧ fd.length = d.length ∧ sd.length = d.length
 | [], _, d, r, x, h => by simp at h
 | a :: f, [], d, r, x, h => by simp at h
 | a :: f, b :: s, [], r, x, h => by
  simp only [List.zip_cons_cons, List.nil_append, List.cons.injEq] at h
  obtain ⟨rfl, _⟩ := h
  exact ⟨[], f, [], s, rfl, rfl, rfl, rfl⟩
 | a :: f, b :: s, y :: d, r, x, h => by
  simp only [List.zip_cons_cons, List.cons_append, List.cons.injEq] at h
  obtain ⟨fd, fr, sd, sr, h1, h2, h3, h4⟩ := zki h.2
  exact ⟨a :: fd, fr, b :: sd, sr, by rw [h1]; rfl, by rw [h2]; rfl, by simp [h3], by simp [h4]⟩
theorem yy9 (p : Lin × Int) : (rowHd p).length ≤ 1 := by unfold rowHd; split <;> simp
theorem zQj (l : List (Lin × Int)) : (l.flatMap rowHd).length ≤ l.length := by
 induction l with
 | nil => simp
 | cons x l ih => have := yy9 x; simp only [List.flatMap_cons, lA, lC]; omega
def resR (r : Row × Bool) : CV := .tup [.agg r.1.cells, .one (.bool r.2)]
variable {E : AEnv} (Z : Sys E)
include Z
set_option maxHeartbeats 2000000 in
theorem zKd (f : Lin) (s : Int) : E.C zkC [.agg f.cells, .one (.int .i64 s)] (resR (rowS f s)) := by
 have h1 := fun b => zqr Z f b
 have h2 := zYI Z f (-1)
 have h3 := fun a b => zqr Z a b
 have h4 := fun a b e => zYJ Z ⟨(addL a b).1, e⟩ (yzC a b)
 generalize hR : rowS f s = R
 unfold rowS at hR
 refine Z.zkC _ _ ⟨bl rfl, ?_⟩
 have h1o := h1 oneL
 have h1n := h1 noLin
 have h3o := fun a => h3 a oneL
 have hn : noLin.coefs = [] := rfl
 have ho : oneL.coefs = [] := rfl
 have hn1 : noLin.c = 0 := rfl
 have ho1 : oneL.c = 1 := rfl
 simp only [Row.cells, Lin.cells, resL] at *
 simp only [hn, ho, hn1, ho1, mN] at h1o h1n h3o
 simp only [zZd, go_sem]
 cases c1 : (s == -1) with
 | true =>
  rw [c1] at hR
  simp only [if_true] at hR
  subst hR
  simp only [go_sem]
  refine zzb h1o ?_
  simp only [go_sem]
  refine zzb (h4 _ _ _) ?_
  simp only [go_sem]
  try exact ⟨⟨rfl, rfl, rfl⟩, rfl⟩
 | false =>
  rw [c1] at hR
  simp only [go_sem]
  cases c2 : (s == 0) with
  | true =>
   rw [c2] at hR
   simp only [go_sem, if_true] at hR
   subst hR
   simp only [go_sem]
   refine zzb h1n ?_
   simp only [go_sem]
   refine zzb (h4 _ _ _) ?_
   simp only [go_sem]
   try exact ⟨⟨rfl, rfl, rfl⟩, rfl⟩
  | false =>
   rw [c2] at hR
   simp only [go_sem]
   cases c3 : (s == 1) with
   | false =>
    rw [c3] at hR
    simp only [go_sem] at hR
    subst hR
    simp only [go_sem]
    exact ⟨rfl, rfl, rfl⟩
   | true =>
    rw [c3] at hR
    simp only [go_sem, if_true] at hR
    simp only [go_sem]
    refine zzb h2 ?_
    simp only [go_sem]
    cases c4 : (scaleL f (-1)).2 with
    | false =>
     rw [c4] at hR
     simp only [go_sem] at hR
     subst hR
     simp only [go_sem]
     exact ⟨rfl, rfl, rfl⟩
    | true =>
     rw [c4] at hR
     simp only [if_true] at hR
     subst hR
     simp only [go_sem]
     refine zzb (h3o _) ?_
     simp only [go_sem]
     refine zzb (h4 _ _ _) ?_
     simp only [go_sem]
     try exact ⟨⟨rfl, rfl, rfl⟩, rfl⟩
set_option maxHeartbeats 2000000 in
theorem zWu (f : List Lin) (signs : List Int) (hf : f.length ≤ 1000) : E.C zwv [.one (.lst (f.map Lin.cells)), .one (.lst (signs.map icell))] (.one (.lst ((rowsS f signs).map Row.cells))) := by
 have h1 := fun f s => zKd Z f s
 refine Z.zwv _ _ ⟨bl rfl, ?_⟩
 unfold rowsS
 simp only [resR] at h1
 simp only [zj7, go_sem]
 intro _ _
 rw [← zXj]
 have hzl : (f.zip signs).length ≤ 1000 := by rw [List.length_zip]; omega
 generalize hz : f.zip signs = zs at *
 refine zzh zs (fun _ => True) (fun done rest => ⟨[(14, .d (.int .i64 done.length)), (13, .d (.int .i64 zs.length)), (0, .d (.lst (f.map Lin.cells))), (1, .d (.lst (signs.map icell))), (5, .own 5 3 ((done.flatMap rowHd).map Row.cells))], [], [(5, true)]⟩) ?_ trivial ?_ ?_
 ·exact zxc 5 5 3 [] [(5, 5)] rfl (by simp) rfl (by simp only [Ent0, go_sem, cN, oS, List.flatMap_nil, mN, lN, nZ])
 ·intro done x r hl _
  have hlt := zzw hl
  have hw : IntKind.i64.wrap ((done.length : Int) + 1) = ((done.length + 1 : Nat) : Int) := zzd (by omega)
  obtain ⟨fd, fr, sd, sr, e1, e2, e3, e4⟩ := zki (hz.trans hl)
  have hx := zzj (f := Lin.cells) e1 e3
  have hy := zzj (f := icell) e2 e4
  have l1 : ((done.length : Int) < (f.length : Int)) = True := eq_true (by rw [e1, ← e3]; simp; omega)
  have l2 : ((done.length : Int) < (signs.length : Int)) = True := eq_true (by rw [e2, ← e4]; simp; omega)
  have hdl : done.length < zs.length := by rw [hl]; simp
  have hrl := zQj done
  have h1 := h1 x.1 x.2
  have hsn : (done ++ [x]).flatMap rowHd = done.flatMap rowHd ++ rowHd x := by simp
  rw [hsn]
  unfold rowHd at *
  simp only [Lin.cells, icell, Row.cells] at *
  simp only [zwj, go_sem, hx, hy, hlt, l1, l2]
  refine zzb h1 ?_
  cases c : (rowS x.1 x.2).2 with
  | true =>
   simp only [go_sem, hw, lM]
   refine ⟨⟨by simp, by omega, by omega⟩, zzs [(5, 33)] ?_⟩
   simp only [go_sem, cN, oS, lA, lC, lN, zA, mA, mC, mN, Row.cells, if_true]
  | false =>
   simp only [go_sem, hw, lM]
   exact zzs [(5, 5)] (by simp only [go_sem, cN, oS, lA, lC, lN, zA, mA, mC, mN, List.append_nil])
 ·intro _
  simp only [zwj, go_sem]
end Go.Abs
end
section
namespace Go.Abs
variable {E : AEnv} (Z : Sys E)
include Z
set_option maxHeartbeats 4000000 in
theorem zJe (f : List Lin) (signs : List Int) (hf : f.length ≤ 1000) : E.C zjd [.one (.lst (f.map Lin.cells)), .one (.lst (signs.map icell))] (.one (.lst ((rowsS f signs).map Row.cells))) := by
 have h1 := fun f => yzh Z f oneL
 have h2 := fun f k => zK8 Z f k
 have h4 := fun a b e => zK9 Z ⟨(addL a b).1, e⟩ (yzC a b)
 refine Z.zjd _ _ ⟨bl rfl, ?_⟩
 unfold rowsS
 have ho : oneL.coefs = [] := rfl
 have ho1 : oneL.c = 1 := rfl
 simp only [resL, Row.cells, Lin.cells] at h1 h2 h4
 simp only [ho, ho1, mN] at h1
 simp only [zYA, go_sem]
 have hzl : (f.zip signs).length ≤ 1000 := by rw [List.length_zip]; omega
 have hmin := zXj f signs
 generalize hz : f.zip signs = zs at *
 refine zzh zs (fun _ => True) (fun done rest => ⟨[(7, .d (.int .i64 done.length)), (0, .d (.lst (f.map Lin.cells))), (1, .d (.lst (signs.map icell))), (6, .ptr 6 0), (5, .own 5 3 ((done.flatMap rowHd).map Row.cells))], [(6, [.d (.lst []), .d (.int .i64 1)])], [(5, true)]⟩) ?_ trivial ?_ ?_
 ·exact zxc 5 5 3 [] [(5, 5)] rfl (by simp) rfl (by simp only [Ent0, go_sem, cN, oS, List.flatMap_nil, mN, lN, nZ]; try rfl)
 ·intro done x r hl _
  have hlt := zzw hl
  have hw : IntKind.i64.wrap ((done.length : Int) + 1) = ((done.length + 1 : Nat) : Int) := zzd (by omega)
  obtain ⟨fd, fr, sd, sr, e1, e2, e3, e4⟩ := zki (hz.trans hl)
  have hx := zzj (f := Lin.cells) e1 e3
  have hy := zzj (f := icell) e2 e4
  have l1 : ((done.length : Int) < (f.length : Int)) = True := eq_true (by rw [e1, ← e3]; simp; omega)
  have l2 : ((done.length : Int) < (signs.length : Int)) = True := eq_true (by rw [e2, ← e4]; simp; omega)
  have hdl : done.length < zs.length := by rw [hl]; simp
  have hrl := zQj done
  have hsn : (done ++ [x]).flatMap rowHd = done.flatMap rowHd ++ rowHd x := by simp
  rw [hsn]
  unfold rowHd rowS at *
  obtain ⟨x, s⟩ := x
  simp only [Lin.cells, icell] at *
  simp only [zkA, go_sem, hx, hy, hlt, l1, l2]
  intro _ _
  cases c1 : (s == -1) with
  | true =>
   have c0 : (s == 0) = false := by
    have : s = -1 := by simpa using c1
    subst this; rfl
   simp only [go_sem]
   refine zzb (h1 x) ?_
   simp only [go_sem, if_true]
   cases c : (addL x oneL).2 with
   | true =>
    simp only [go_sem, c0, hy, l2]
    refine zzb (h4 _ _ _) ?_
    simp only [go_sem, hw, lM]
    refine ⟨⟨by simp, by omega, by omega⟩, zzs [(5, 71)] ?_⟩
    simp only [go_sem, cN, oS, lA, lC, lN, zA, mA, mC, mN, Row.cells, if_true]
   | false =>
    simp only [go_sem, hw, lM]
    exact zzs [(5, 5)] (by simp only [go_sem, cN, oS, lA, lC, lN, zA, mA, mC, mN, List.append_nil])
  | false =>
   simp only [go_sem]
   cases c2 : (s == 0) with
   | true =>
    have h2 := h2 x 1
    rw [← zKo] at h2
    simp only [go_sem]
    refine zzb h2 ?_
    simp only [go_sem, if_true]
    cases c : (addL x noLin).2 with
    | true =>
     simp only [go_sem, c2, hy, l2]
     refine zzb (h4 _ _ _) ?_
     simp only [go_sem, hw, lM]
     refine ⟨⟨by simp, by omega, by omega⟩, zzs [(5, 71)] ?_⟩
     simp only [go_sem, cN, oS, lA, lC, lN, zA, mA, mC, mN, Row.cells, if_true]
    | false =>
     simp only [go_sem, hw, lM]
     exact zzs [(5, 5)] (by simp only [go_sem, cN, oS, lA, lC, lN, zA, mA, mC, mN, List.append_nil])
   | false =>
    simp only [go_sem]
    cases c3 : (s == 1) with
    | false =>
     simp only [go_sem, hw, lM]
     exact zzs [(5, 5)] (by simp only [go_sem, cN, oS, lA, lC, lN, zA, mA, mC, mN, List.append_nil])
    | true =>
     simp only [go_sem, if_true]
     refine zzb (h2 x (-1)) ?_
     cases c4 : (scaleL x (-1)).2 with
     | false =>
      simp only [go_sem, hw, lM]
      exact zzs [(5, 5)] (by simp only [go_sem, cN, oS, lA, lC, lN, zA, mA, mC, mN, List.append_nil])
     | true =>
      simp only [go_sem, if_true]
      refine zzb (h1 _) ?_
      cases c : (addL (scaleL x (-1)).1 oneL).2 with
      | true =>
       simp only [go_sem, c2, hy, l2]
       refine zzb (h4 _ _ _) ?_
       simp only [go_sem, hw, lM]
       refine ⟨⟨by simp, by omega, by omega⟩, zzs [(5, 71)] ?_⟩
       simp only [go_sem, cN, oS, lA, lC, lN, zA, mA, mC, mN, Row.cells, if_true]
      | false =>
       simp only [go_sem, hw, lM]
       exact zzs [(5, 5)] (by simp only [go_sem, cN, oS, lA, lC, lN, zA, mA, mC, mN, List.append_nil])
 ·intro _
  have hq : (decide ((zs.length : Int) < (f.length : Int)) && decide ((zs.length : Int) < (signs.length : Int))) = false := by
   rw [hmin]; split <;> simp
  simp only [zkA, go_sem]
  intro _ _
  rw [if_neg (by rw [hq]; decide)]
  try simp only [go_sem]
end Go.Abs
end
section
namespace Go.Abs
theorem zqp (n : Nat) : Lib.itoa (n : Int) = Lib.decDigits n := by unfold Lib.itoa; rw [if_neg (by omega)]; rfl
theorem itoa_neg {n : Int} (h : n < 0) : Lib.itoa n = 45 :: Lib.decDigits n.natAbs := by unfold Lib.itoa; rw [if_pos h]
theorem zj0 (n : Nat) (h : n ≤ 9223372036854775807) : (Lib.decDigits n).length ≤ 21 := by
 have := Lib.itoa_length_le (n : Int) (by omega) (by omega)
 rwa [zqp] at this
theorem digA : ∀ n : Nat, n < 10 → List.drop n ((48 : UInt8) :: List.take n [49, 50, 51, 52, 53, 54, 55, 56, 57]) = [UInt8.ofNat (48 + n)] := by decide +kernel
theorem dig1 {n : Nat} (h : n < 10) : Lib.decDigits n = [UInt8.ofNat (48 + n)] := by rw [Lib.decDigits, dif_pos h]
theorem dig2 {n : Nat} (h : ¬ n < 10) : Lib.decDigits n = Lib.decDigits (n / 10) ++ [UInt8.ofNat (48 + n % 10)] := by rw [Lib.decDigits, dif_neg h]
def notS (n : Int) : Int := if n < 0 then n else 1 - n
def andS (a b : Int) : Int := if a == 0 || b == 0 then 0 else if a == 1 && b == 1 then 1 else -1
def isS (b : Bool) : Int := if b then 1 else 0
def Sgn (n : Int) : Prop := -1 ≤ n ∧ n ≤ 1
theorem zV4 (b : Bool) : Sgn (isS b) := by cases b <;> simp [isS, Sgn]
theorem zk4 (a b : Int) : Sgn (andS a b) := by
 unfold andS Sgn
 split
 ·omega
 ·split <;> omega
theorem zwq {n : Int} (h : Sgn n) : Sgn (notS n) := by unfold notS Sgn at *; split <;> omega
variable {E : AEnv} (Z : Sys E)
include Z
theorem zv4 (n : Nat) : n ≤ 9223372036854775807 → E.C zzO [.one (.int .i64 n)] (.one (.str (Lib.decDigits n))) := by
 induction n using Nat.strongRecOn with
 | ind n ih =>
  intro hn
  refine Z.zzO _ _ ⟨bl rfl, ?_⟩
  have h0 : decide ((n : Int) < 0) = false := by simp
  by_cases h : n < 10
  ·have hw : IntKind.i64.wrap ((n : Int) + 1) = ((n + 1 : Nat) : Int) := zzd (by omega)
   have hlt : decide ((n : Int) < 10) = true := by simp; omega
   rw [dig1 h]
   simp only [zy9, go_sem, h0, hlt, hw]
   exact ⟨⟨by omega, by omega⟩, digA n h⟩
  ·have hlt : decide ((n : Int) < 10) = false := by simp; omega
   have h1 := ih (n / 10) (by omega) (by omega)
   have h2 := ih (n % 10) (by omega) (by omega)
   have hd : (n : Int).tdiv 10 = ((n / 10 : Nat) : Int) := rfl
   have hm : (n : Int).tmod 10 = ((n % 10 : Nat) : Int) := rfl
   have hwd : IntKind.i64.wrap ((n / 10 : Nat) : Int) = ((n / 10 : Nat) : Int) := i64_in _ (by omega)
   have l1 := zj0 (n / 10) (by omega)
   rw [dig2 h, ← dig1 (n := n % 10) (by omega)]
   have l2 := zj0 (n % 10) (by omega)
   simp only [zy9, go_sem, h0, hlt, hd, hm, hwd]
   refine ⟨by omega, ?_⟩
   refine zzb h1 ?_
   simp only [go_sem]
   refine ⟨by omega, ?_⟩
   refine zzb h2 ?_
   simp only [go_sem]
   omega
theorem zXp (n : Int) (h1 : -9223372036854775808 ≤ n) (h2 : n ≤ 9223372036854775807) : E.C zzO [.one (.int .i64 n)] (.one (.str (Lib.itoa n))) := by
 by_cases h : 0 ≤ n
 ·have := zv4 Z n.toNat (by omega)
  rwa [Int.toNat_of_nonneg h, ← zqp, Int.toNat_of_nonneg h] at this
 ·refine Z.zzO _ _ ⟨bl rfl, ?_⟩
  rw [itoa_neg (by omega)]
  have h0 : decide (n < 0) = true := decide_eq_true (by omega)
  by_cases h3 : -10 < n
  ·have h4 : decide (n > -10) = true := decide_eq_true h3
   have hw : IntKind.i64.wrap (0 - n) = ((n.natAbs : Nat) : Int) := (i64_in _ (by omega)).trans (by omega)
   have hd := zv4 Z n.natAbs (by omega)
   have l1 := zj0 n.natAbs (by omega)
   simp only [zy9, go_sem, h0, h4, hw]
   refine zzb hd ?_
   simp only [go_sem, lC, lN, List.singleton_append]
   omega
  ·have h4 : decide (n > -10) = false := decide_eq_false h3
   have hq : n.tdiv 10 = -((n.natAbs / 10 : Nat) : Int) := by
    have : n = -((n.natAbs : Nat) : Int) := by omega
    rw [this, Int.neg_tdiv]; simp <;> rfl
   have hm : n.tmod 10 = -((n.natAbs % 10 : Nat) : Int) := by
    have : n = -((n.natAbs : Nat) : Int) := by omega
    rw [this, Int.neg_tmod]; simp <;> rfl
   have hw1 : IntKind.i64.wrap (-((n.natAbs / 10 : Nat) : Int)) = -((n.natAbs / 10 : Nat) : Int) := i64_in _ (by omega)
   have hw2 : IntKind.i64.wrap (0 - -((n.natAbs / 10 : Nat) : Int)) = ((n.natAbs / 10 : Nat) : Int) := (i64_in _ (by omega)).trans (by omega)
   have hw3 : IntKind.i64.wrap (0 - -((n.natAbs % 10 : Nat) : Int)) = ((n.natAbs % 10 : Nat) : Int) := (i64_in _ (by omega)).trans (by omega)
   have hd1 := zv4 Z (n.natAbs / 10) (by omega)
   have hd2 := zv4 Z (n.natAbs % 10) (by omega)
   have l1 := zj0 (n.natAbs / 10) (by omega)
   have l2 := zj0 (n.natAbs % 10) (by omega)
   rw [dig2 (n := n.natAbs) (by omega), ← dig1 (n := n.natAbs % 10) (by omega)]
   simp only [zy9, go_sem, h0, h4, hq, hm, hw1, hw2, hw3]
   refine ⟨by omega, ?_⟩
   refine zzb hd1 ?_
   simp only [go_sem, hq, hm, hw1, hw2, hw3]
   refine ⟨by omega, by omega, ?_⟩
   refine zzb hd2 ?_
   simp only [go_sem, lC, lN, List.singleton_append, List.cons_append]
   omega
theorem yy0 (b : Bool) : E.C zZF [.one (.bool b)] (.one (.int .i64 (isS b))) := by
 refine Z.zZF _ _ ⟨bl rfl, ?_⟩
 cases b <;> simp only [zKH, go_sem] <;> rfl
theorem zYe (b : Bool) : E.C zyn [.one (.bool b)] (.one (.int .i64 (isS b))) := by
 refine Z.zyn _ _ ⟨bl rfl, ?_⟩
 cases b <;> simp only [zvz, go_sem] <;> rfl
theorem yzj {n : Int} (h : Sgn n) : E.C zw9 [.one (.int .i64 n)] (.one (.int .i64 (notS n))) := by
 refine Z.zw9 _ _ ⟨bl rfl, ?_⟩
 have hw : IntKind.i64.wrap (1 - n) = 1 - n := i64_in _ (by unfold Sgn at h; omega)
 unfold notS
 simp only [zXU, go_sem]
 cases c : decide (n < 0) with
 | true => simp only [go_sem]; rw [if_pos (by simpa using c)]
 | false => simp only [go_sem, hw]; rw [if_neg (by simpa using c)]
theorem zZK {n : Int} (h : Sgn n) : E.C zzI [.one (.int .i64 n)] (.one (.int .i64 (notS n))) := by
 refine Z.zzI _ _ ⟨bl rfl, ?_⟩
 have hw : IntKind.i64.wrap (1 - n) = 1 - n := i64_in _ (by unfold Sgn at h; omega)
 unfold notS
 simp only [zvm, go_sem]
 cases c : decide (n < 0) with
 | true => simp only [go_sem]; rw [if_pos (by simpa using c)]
 | false => simp only [go_sem, hw]; rw [if_neg (by simpa using c)]
theorem yzi (a b : Int) : E.C zvT [.one (.int .i64 a), .one (.int .i64 b)] (.one (.int .i64 (andS a b))) := by
 refine Z.zvT _ _ ⟨bl rfl, ?_⟩
 unfold andS
 cases c1 : (a == 0) <;> cases c2 : (b == 0) <;> cases c3 : (a == 1) <;> cases c4 : (b == 1) <;> simp only [zXT, go_sem, c1, c2, c3, c4] <;> try rfl
theorem zWv (a b : Int) : E.C zxi [.one (.int .i64 a), .one (.int .i64 b)] (.one (.int .i64 (andS a b))) := by
 refine Z.zxi _ _ ⟨bl rfl, ?_⟩
 unfold andS
 cases c1 : (a == 0) <;> cases c2 : (b == 0) <;> cases c3 : (a == 1) <;> cases c4 : (b == 1) <;> simp only [zj8, go_sem, c1, c2, c3, c4] <;> try rfl
end Go.Abs
end
section
namespace Go.Abs
def sgnOk (n : Int) : Bool := decide (n ≥ -1) && decide (n ≤ 1)
def lookGo (name : Str) : Nat → List Int → Option Int
 | _, [] => none
 | i, s :: r => if Lib.itoa (i : Int) == name && sgnOk s then some s else lookGo name (i + 1) r
def leafS (signs : List Int) : List Pred → Option Int
 | [k0, k1] => if k0.same (.mk 3 k0.name 0 []) && k1.same (.mk 1 [] 0 []) then lookGo k0.name 0 signs else none
 | _ => none
def I64p (n : Int) : Prop := -9223372036854775808 ≤ n ∧ n ≤ 9223372036854775807
def ItoaP (E : AEnv) : Prop := ∀ n : Int, I64p n → E.C strconv_Itoa [.one (.int .i64 n)] (.one (.str (Lib.itoa n)))
def AtoiP (E : AEnv) : Prop := ∀ s : Str, s.length ≤ 1073741824 → ∃ (n : Int) (e : Bool), I64p n ∧ E.C strconv_Atoi [.one (.str s)] (.tup [.one (.int .i64 n), .one (if e then .nilI else .anyI)]) ∧ ∀ m : Nat, (m : Int) ≤ 9223372036854775807 → s = Lib.itoa (m : Int) → n = m ∧ e = true
theorem zjB {name : Str} : ∀ {i : Nat} {l : List Int}, (∀ k, k < l.length → (Lib.itoa ((i + k : Nat) : Int) == name) = true → sgnOk (l.getD k 0) = false) → lookGo name i l = none
 | _, [], _ => rfl
 | i, s :: r, h => by
  rw [lookGo]
  have h0 := h 0 (by simp)
  rw [if_neg, zjB (i := i + 1) (l := r)]
  ·intro k hk hn
   have := h (k + 1) (by simp; omega) (by rw [← hn]; congr 3; omega)
   simpa using this
  ·intro hc
   simp only [Bool.and_eq_true] at hc
   have := h0 (by simpa using hc.1)
   simp at this
   rw [this] at hc; exact absurd hc.2 (by decide)
theorem zKZ {name : Str} : ∀ {i : Nat} {l : List Int} {k : Nat}, k < l.length → (Lib.itoa ((i + k : Nat) : Int) == name) = true → sgnOk (l.getD k 0) = true → (∀ j, j < k → (Lib.itoa ((i + j : Nat) : Int) == name) = false) → lookGo name i l = some (l.getD k 0)
 | _, [], _, hk, _, _, _ => by simp at hk
 | i, s :: r, 0, _, h1, h2, _ => by
  rw [lookGo, if_pos]
  ·rfl
  ·simp only [Bool.and_eq_true]; exact ⟨by simpa using h1, by simpa using h2⟩
 | i, s :: r, k + 1, hk, h1, h2, h3 => by
  have h0 := h3 0 (by omega)
  rw [lookGo, if_neg]
  ·rw [zKZ (i := i + 1) (l := r) (k := k) (by simpa using hk) (by rw [← h1]; congr 3; omega) (by simpa using h2)]
   ·simp
   ·intro j hj; have := h3 (j + 1) (by omega); rw [← this]; congr 3; omega
  ·simp only [Bool.and_eq_true]; rintro ⟨h, _⟩; simp at h0; exact h0 (by simpa using h)
theorem yyE {name : Str} {signs : List Int} {n : Int} {e : Bool} (hlen : (signs.length : Int) ≤ 9223372036854775807) (hn : ∀ m : Nat, (m : Int) ≤ 9223372036854775807 → name = Lib.itoa (m : Int) → n = m ∧ e = true) :
  lookGo name 0 signs = if e && (Lib.itoa n == name) && decide (0 ≤ n) && decide (n < signs.length) && sgnOk (signs.getD n.toNat 0) then some (signs.getD n.toNat 0) else none := by
 by_cases hc : (e && (Lib.itoa n == name) && decide (0 ≤ n) && decide (n < signs.length) && sgnOk (signs.getD n.toNat 0)) = true
 ·rw [if_pos hc]
  simp only [Bool.and_eq_true, decide_eq_true_eq, beq_iff_eq] at hc
  obtain ⟨⟨⟨⟨_, h1⟩, h2⟩, h3⟩, h4⟩ := hc
  refine zKZ (by omega) ?_ h4 ?_
  ·rw [zA, Int.toNat_of_nonneg h2, h1]; simp
  ·intro j hj
   rw [zA]
   cases hb : (Lib.itoa (j : Int) == name) with
   | false => rfl
   | true => have := (hn j (by omega) (by simpa using (beq_iff_eq.1 hb).symm)).1; omega
 ·rw [if_neg hc]
  refine zjB fun k hk hb => ?_
  rw [zA] at hb
  obtain ⟨rfl, rfl⟩ := hn k (by omega) (beq_iff_eq.1 hb).symm
  cases h4 : sgnOk (signs.getD k 0) with
  | false => rfl
  | true =>
   refine absurd ?_ hc
   simp only [Bool.and_eq_true, decide_eq_true_eq, beq_iff_eq]
   exact ⟨⟨⟨⟨trivial, beq_iff_eq.1 hb⟩, by omega⟩, by omega⟩, by simpa using h4⟩
theorem zX5 {name : Str} : ∀ {i : Nat} {l : List Int} {x : Int}, lookGo name i l = some x → Sgn x
 | _, [], _, h => by cases h
 | i, s :: r, x, h => by
  rw [lookGo] at h
  split at h
  ·rename_i hc
   cases h
   simp only [Bool.and_eq_true, sgnOk, decide_eq_true_eq] at hc
   exact ⟨hc.2.1, hc.2.2⟩
  ·exact zX5 h
theorem yyy {signs : List Int} {ks : List Pred} {x : Int} (h : leafS signs ks = some x) : Sgn x := by
 unfold leafS at h
 split at h
 ·split at h
  ·exact zX5 h
  ·cases h
 ·cases h
def leafR (r : Option Int) : CV := .tup [.one (.int .i64 (r.getD 0)), .one (.bool r.isSome)]
def vInt : Pred := .mk 1 [] 0 []
def vVar (s : Str) : Pred := .mk 3 s 0 []
theorem cellsM (o : Int) (s : Str) (n : Int) (ks : List Pred) : (Pred.mk o s n ks).cells = [.int .i64 o, .str s, .int .i64 n, .lst (ks.map Pred.cells)] := by rw [Pred.zzt]; rfl
theorem zvL (signs : List Int) (k : Nat) : (signs.map icell).getD k [] = [] ∨ (signs.map icell).getD k [] = [.int .i64 (signs.getD k 0)] := by
 rw [List.getD_eq_getElem?_getD, List.getD_eq_getElem?_getD, List.getElem?_map]
 cases signs[k]? with
 | none => exact .inl rfl
 | some x => exact .inr rfl
theorem zZA {signs : List Int} {k : Nat} (h : k < signs.length) : (signs.map icell).getD k [] = [.int .i64 (signs.getD k 0)] := by
 rw [List.getD_eq_getElem?_getD, List.getD_eq_getElem?_getD, List.getElem?_map, List.getElem?_eq_getElem h]
 rfl
variable {E : AEnv} (Z : Sys E)
include Z
set_option maxHeartbeats 2000000 in
theorem zWw (hA : AtoiP E) (hI : ItoaP E) (o : Int) (nm : Str) (n : Int) (ks : List Pred) (signs : List Int) (hsz : ∀ k ∈ ks, k.name.length ≤ 1073741824) (hsl : signs.length ≤ 1000) : E.C zww [.agg (Pred.mk o nm n ks).cells, .one (.lst (signs.map icell))] (leafR (leafS signs ks)) := by
 refine Z.zww _ _ ?_
 generalize hR : leafS signs ks = R
 unfold leafS at hR
 rcases ks with _ | ⟨a, _ | ⟨b, _ | ⟨c, r⟩⟩⟩
 ·simp only at hR
  subst hR
  refine ⟨bl rfl, ?_⟩
  have h2 : ((0 : Int) != 2) = true := rfl
  simp only [zxq, go_sem, cellsM, mN, lN, nZ, h2]
  refine ⟨.one (.bool false), ?_⟩
  simp only [go_sem, mN, lN, nZ, h2]
  try refine ⟨.one (.bool false), ?_⟩
  try simp only [go_sem, mN, lN, nZ, h2]
  try exact ⟨rfl, rfl⟩
 ·simp only at hR
  subst hR
  have ha := Pred.zzt a
  refine ⟨bl rfl, ?_⟩
  have h2 : ((1 : Int) != 2) = true := rfl
  simp only [zxq, go_sem, cellsM, mC, mN, lC, lN, zA, Int.natCast_one, h2, ha]
  refine ⟨.one (.bool false), ?_⟩
  simp only [go_sem, mC, mN, lC, lN, zA, Int.natCast_one, h2, ha]
  try refine ⟨.one (.bool false), ?_⟩
  try simp only [go_sem, mC, mN, lC, lN, zA, Int.natCast_one, h2, ha]
  try exact ⟨rfl, rfl⟩
 ·have h1 := zZD Z a (vVar a.name)
  have h3 := zZD Z b vInt
  have ha := Pred.zzt a
  have hb := Pred.zzt b
  obtain ⟨m, e, hm, hat, hun⟩ := hA a.name (hsz a (by simp))
  have hit := hI m hm
  simp only [vVar, vInt, cellsM, mN, ha, hb] at h1 h3
  refine ⟨bl rfl, ?_⟩
  have h2 : ((2 : Int) != 2) = false := rfl
  simp only [zxq, go_sem, cellsM, mC, mN, lC, lN, zA, Nat.reduceAdd, Int.cast_ofNat_Int, h2, ha, hb]
  refine ⟨by simp, by simp, ?_⟩
  refine zzb h1 ?_
  cases c1 : a.same (vVar a.name) with
  | false =>
   simp only [vVar] at c1
   simp only [c1, go_sem] at hR
   subst hR
   simp only [c1, go_sem]
   refine ⟨.one (.bool false), ?_⟩
   simp only [go_sem]
   exact ⟨rfl, rfl⟩
  | true =>
   simp only [vVar] at c1
   simp only [go_sem, c1]
   refine ⟨by simp, ?_⟩
   refine zzb h3 ?_
   cases c2 : b.same vInt with
   | false =>
    simp only [vInt] at c2
    simp only [c1, c2, go_sem] at hR
    subst hR
    simp only [c2, go_sem]
    exact ⟨rfl, rfl⟩
   | true =>
    simp only [vInt] at c2
    simp only [c1, c2, go_sem] at hR
    simp only [c2, go_sem, ha]
    refine ⟨by simp, ?_⟩
    refine zzb hat ?_
    have hcell := zvL signs m.toNat
    rw [yyE (by omega) hun] at hR
    cases e with
    | false =>
     have hR0 : R = none := by rw [← hR]; rfl
     subst hR0
     simp only [go_sem]
     refine ⟨.one (.str []), ?_⟩
     rcases hcell with hcell | hcell
     ·simp only [go_sem, ha, hcell]
      exact ⟨rfl, rfl⟩
     ·simp only [go_sem, ha, hcell]
      exact ⟨rfl, rfl⟩
    | true =>
     simp only [go_sem]
     refine zzb hit ?_
     cases c3 : (Lib.itoa m == a.name) with
     | false =>
      have hR0 : R = none := by rw [← hR, c3]; rfl
      subst hR0
      rcases hcell with hcell | hcell
      ·simp only [go_sem, ha, hcell, c3]
       exact ⟨by simp, rfl, rfl⟩
      ·simp only [go_sem, ha, hcell, c3]
       exact ⟨by simp, rfl, rfl⟩
     | true =>
      cases c4 : decide (m < 0) with
      | true =>
       have c4' : decide (0 ≤ m) = false := decide_eq_false (by have := of_decide_eq_true c4; omega)
       have hR0 : R = none := by rw [← hR, c3, c4']; rfl
       subst hR0
       rcases hcell with hcell | hcell
       ·simp only [go_sem, ha, hcell, c3, c4]
        exact ⟨by simp, rfl, rfl⟩
       ·simp only [go_sem, ha, hcell, c3, c4]
        exact ⟨by simp, rfl, rfl⟩
      | false =>
       have c4p : 0 ≤ m := by have := of_decide_eq_false c4; omega
       have c4' : decide (0 ≤ m) = true := decide_eq_true c4p
       cases c5 : decide (m ≥ (signs.length : Int)) with
       | true =>
        have c5' : decide (m < (signs.length : Int)) = false := decide_eq_false (by have := of_decide_eq_true c5; omega)
        have hR0 : R = none := by rw [← hR, c3, c4', c5']; rfl
        subst hR0
        rcases hcell with hcell | hcell
        ·simp only [go_sem, ha, hcell, c3, c4, c5]
         exact ⟨by simp, rfl, rfl⟩
        ·simp only [go_sem, ha, hcell, c3, c4, c5]
         exact ⟨by simp, rfl, rfl⟩
       | false =>
        have c5p : m < (signs.length : Int) := by have := of_decide_eq_false c5; omega
        have c5' : decide (m < (signs.length : Int)) = true := decide_eq_true c5p
        have hcell := zZA (signs := signs) (k := m.toNat) (by omega)
        rw [c3, c4', c5'] at hR
        generalize signs.getD m.toNat 0 = x at *
        unfold sgnOk at hR
        have l1 : (m < (signs.length : Int)) = True := eq_true c5p
        cases c6 : decide (x < -1) with
        | true =>
         have c6' : decide (x ≥ -1) = false := decide_eq_false (by have := of_decide_eq_true c6; omega)
         rw [c6'] at hR
         have hR0 : R = none := by rw [← hR]; rfl
         subst hR0
         simp only [go_sem, ha, hcell, c3, c4, c5, c6]
         exact ⟨by simp, ⟨c4p, c5p⟩, rfl, rfl⟩
        | false =>
         have c6' : decide (x ≥ -1) = true := decide_eq_true (by have := of_decide_eq_false c6; omega)
         cases c7 : decide (x > 1) with
         | true =>
          have c7' : decide (x ≤ 1) = false := decide_eq_false (by have := of_decide_eq_true c7; omega)
          rw [c6', c7'] at hR
          have hR0 : R = none := by rw [← hR]; rfl
          subst hR0
          simp only [go_sem, ha, hcell, c3, c4, c5, c6, c7]
          exact ⟨by simp, ⟨c4p, c5p⟩, ⟨c4p, c5p⟩, rfl, rfl⟩
         | false =>
          have c7' : decide (x ≤ 1) = true := decide_eq_true (by have := of_decide_eq_false c7; omega)
          rw [c6', c7'] at hR
          have hR0 : R = some x := by rw [← hR]; rfl
          subst hR0
          simp only [go_sem, ha, hcell, c3, c4, c5, c6, c7]
          exact ⟨by simp, ⟨c4p, c5p⟩, ⟨c4p, c5p⟩, ⟨c4p, c5p⟩, rfl, rfl⟩
 ·simp only at hR
  subst hR
  refine ⟨bl rfl, ?_⟩
  have ha := Pred.zzt a
  have hb := Pred.zzt b
  have h2 : (((a :: b :: c :: r).length : Int) != 2) = true := by simp <;> omega
  generalize hks : a :: b :: c :: r = ks at *
  have hk0 : (ks.map Pred.cells).getD 0 [] = a.cells := by rw [← hks]; rfl
  have hk1 : (ks.map Pred.cells).getD 1 [] = b.cells := by rw [← hks]; rfl
  simp only [zxq, go_sem, cellsM, h2, hk0, hk1, ha, hb]
  refine ⟨.one (.bool false), ?_⟩
  simp only [go_sem, h2, hk0, hk1, ha, hb]
  try refine ⟨.one (.bool false), ?_⟩
  try simp only [go_sem, h2, hk0, hk1, ha, hb]
  try exact ⟨rfl, rfl⟩
end Go.Abs
end
section
namespace Go.Abs
def atS (r : Option Int) : Int := r.getD 2
theorem zX3 {name : Str} : ∀ {i : Nat} {d r : List Int} {x : Int}, (∀ k, k < d.length → (Lib.itoa ((i + k : Nat) : Int) == name && sgnOk (d.getD k 0)) = false) → lookGo name i (d ++ x :: r) = if Lib.itoa ((i + d.length : Nat) : Int) == name && sgnOk x then some x else lookGo name (i + d.length + 1) r
 | i, [], r, x, _ => rfl
 | i, y :: d, r, x, h => by
  have h0 := h 0 (by simp)
  rw [List.cons_append, lookGo, if_neg (by rw [show (Lib.itoa (i : Int) == name && sgnOk y) = false from h0]; decide), zX3 (i := i + 1) (d := d)]
  ·rw [lC, show i + 1 + d.length = i + (d.length + 1) by omega]
  ·intro k hk
   have := h (k + 1) (by simp; omega)
   rw [show i + 1 + k = i + (k + 1) by omega]
   simpa using this
theorem zQ3 {name : Str} {l : List Int} (h : ∀ k, k < l.length → (Lib.itoa ((k : Nat) : Int) == name && sgnOk (l.getD k 0)) = false) : lookGo name 0 l = none := by
 refine zjB fun k hk hb => ?_
 have := h k hk
 rw [zA] at hb
 rw [hb, Bool.true_and] at this
 exact this
theorem yz4 {name : Str} {d : List Int} {x : Int} (h : ∀ k, k < d.length → (Lib.itoa ((k : Nat) : Int) == name && sgnOk (d.getD k 0)) = false) (hx : (Lib.itoa ((d.length : Nat) : Int) == name && sgnOk x) = false) :
  ∀ k, k < (d ++ [x]).length → (Lib.itoa ((k : Nat) : Int) == name && sgnOk ((d ++ [x]).getD k 0)) = false := by
 intro k hk
 rw [lA] at hk
 simp only [lC, lN] at hk
 by_cases hd : k < d.length
 ·have := h k hd
  rw [List.getD_eq_getElem?_getD, List.getElem?_append_left hd, ← List.getD_eq_getElem?_getD]; exact this
 ·obtain rfl : k = d.length := by omega
  simpa using hx
variable {E : AEnv} (Z : Sys E)
include Z
set_option maxHeartbeats 2000000 in
theorem yyZ (o : Int) (nm : Str) (n : Int) (ks : List Pred) (signs : List Int) (hsl : signs.length ≤ 1000) : E.C zWf [.agg (Pred.mk o nm n ks).cells, .one (.lst (signs.map icell))] (.one (.int .i64 (atS (leafS signs ks)))) := by
 refine Z.zWf _ _ ⟨bl rfl, ?_⟩
 generalize hR : leafS signs ks = R
 unfold leafS at hR
 rcases ks with _ | ⟨a, _ | ⟨b, _ | ⟨c, r⟩⟩⟩
 ·simp only at hR
  subst hR
  have h2 : ((0 : Int) != 2) = true := rfl
  simp only [zvI, go_sem, cellsM, mN, lN, nZ, h2]
  refine ⟨.one (.bool false), ?_⟩
  simp only [go_sem, mN, lN, nZ, h2]
  try refine ⟨.one (.bool false), ?_⟩
  try simp only [go_sem, mN, lN, nZ, h2]
  try rfl
 ·simp only at hR
  subst hR
  have ha := Pred.zzt a
  have h2 : ((1 : Int) != 2) = true := rfl
  simp only [zvI, go_sem, cellsM, mC, mN, lC, lN, zA, Int.natCast_one, h2, ha]
  refine ⟨.one (.bool false), ?_⟩
  simp only [go_sem, mC, mN, lC, lN, zA, Int.natCast_one, h2, ha]
  try refine ⟨.one (.bool false), ?_⟩
  try simp only [go_sem, mC, mN, lC, lN, zA, Int.natCast_one, h2, ha]
  try rfl
 ·have h1 := zjG Z a (vVar a.name)
  have h3 := zjG Z b vInt
  have ha := Pred.zzt a
  have hb := Pred.zzt b
  simp only [vVar, vInt, cellsM, mN, ha, hb] at h1 h3
  have h2 : ((2 : Int) != 2) = false := rfl
  simp only [zvI, go_sem, cellsM, mC, mN, lC, lN, zA, Nat.reduceAdd, Int.cast_ofNat_Int, h2, ha, hb]
  refine ⟨by simp, by simp, ?_⟩
  refine zzb h1 ?_
  cases c1 : a.same (vVar a.name) with
  | false =>
   simp only [vVar] at c1
   simp only [c1, go_sem] at hR
   subst hR
   simp only [c1, go_sem]
   refine ⟨.one (.bool false), ?_⟩
   simp only [go_sem]
   try rfl
  | true =>
   simp only [vVar] at c1
   simp only [go_sem, c1]
   refine ⟨by simp, ?_⟩
   refine zzb h3 ?_
   cases c2 : b.same vInt with
   | false =>
    simp only [vInt] at c2
    simp only [c1, c2, go_sem] at hR
    subst hR
    simp only [c2, go_sem]
    try rfl
   | true =>
    simp only [vInt] at c2
    simp only [c1, c2, go_sem] at hR
    simp only [c2, go_sem]
    refine zzh signs (fun done => ∀ k, k < done.length → (Lib.itoa ((k : Nat) : Int) == a.name && sgnOk (done.getD k 0)) = false) (fun done rest => ⟨[(5, .d (.int .i64 done.length)), (1, .d (.lst (signs.map icell))), (2, .ptr 2 0)],
     [(2, [.d (.int .i64 o), .d (.str nm), .d (.int .i64 n), .d (.lst [a.cells, b.cells])])], []⟩) ?_ (by simp) ?_ ?_
    ·rw [ha, hb]
     exact zzc (by simp only [go_sem, oS])
    ·intro done x r hl hI
     have hlt := zzw hl
     have hdl : done.length < signs.length := by rw [hl]; simp
     have hx := getD_at (f := icell) (d := []) hl
     have hd := zXp Z (done.length : Int) (by omega) (by omega)
     rw [hl, zX3 (by simpa using hI), zA] at hR
     rw [ha, hb]
     simp only [icell] at hx
     simp only [zvJ, go_sem, hlt]
     intro _
     have hw : IntKind.i64.wrap ((done.length : Int) + 1) = ((done.length + 1 : Nat) : Int) := zzd (by omega)
     refine zzb hd ?_
     unfold sgnOk at hR
     cases c3 : (Lib.itoa (done.length : Int) == a.name) <;> cases c4 : decide (x ≥ -1) <;> cases c5 : decide (x ≤ 1) <;> simp only [c3, c4, c5, go_sem, hx, hlt, hw, mC, mN, lC, lN, zA] at hR ⊢
     all_goals first
      | (refine ⟨by simp, zzc (by simp only [go_sem, oS, lA, lC, lN, zA]), yz4 hI ?_⟩; unfold sgnOk; simp only [c3, c4, c5]; rfl)
      | (subst hR; exact ⟨by simp, rfl⟩)
    ·intro hI
     rw [zQ3 hI] at hR
     subst hR
     simp only [zvJ, go_sem]
     try intro _
     try rfl
 ·simp only at hR
  subst hR
  have ha := Pred.zzt a
  have hb := Pred.zzt b
  have h2 : (((a :: b :: c :: r).length : Int) != 2) = true := by simp <;> omega
  generalize hks : a :: b :: c :: r = ks at *
  have hk0 : (ks.map Pred.cells).getD 0 [] = a.cells := by rw [← hks]; rfl
  have hk1 : (ks.map Pred.cells).getD 1 [] = b.cells := by rw [← hks]; rfl
  simp only [zvI, go_sem, cellsM, h2, hk0, hk1, ha, hb]
  refine ⟨.one (.bool false), ?_⟩
  simp only [go_sem, h2, hk0, hk1, ha, hb]
  try refine ⟨.one (.bool false), ?_⟩
  try simp only [go_sem, h2, hk0, hk1, ha, hb]
  try rfl
end Go.Abs
end
section
namespace Go.Abs
def leafV (o : Int) (r : Option Int) : Int := match r with
 | none => -1
 | some s => isS (s == 0 || (o == 13 && decide (s < 0)))
def evalS (signs : List Int) : Pred → Int
 | .mk o _ n [] => if o == 2 then isS (n == 1) else -1
 | .mk o _ _ [a] => if o == 14 then notS (evalS signs a) else -1
 | .mk o _ _ [a, b] => if o == 13 || o == 10 then leafV o (leafS signs [a, b]) else if o == 15 then andS (evalS signs a) (evalS signs b)
   else if o == 16 then notS (andS (notS (evalS signs a)) (notS (evalS signs b))) else if o == 17 then notS (andS (evalS signs a) (notS (evalS signs b)))
   else if o == 18 then (if decide (evalS signs a < 0) || decide (evalS signs b < 0) then -1 else isS (evalS signs a == evalS signs b)) else -1
 | .mk _ _ _ (_ :: _ :: _ :: _) => -1
theorem yyz (o : Int) (r : Option Int) : Sgn (leafV o r) := by
 cases r with
 | none => exact ⟨Int.le_refl _, by show (-1 : Int) ≤ 1; decide⟩
 | some s => exact zV4 _
theorem zy5 (signs : List Int) (p : Pred) : Sgn (evalS signs p) := by
 induction p using Pred.ind with
 | h o s n ks ih =>
  rcases ks with _ | ⟨a, _ | ⟨b, _ | ⟨c, r⟩⟩⟩
  ·rw [evalS]; split
   ·exact zV4 _
   ·unfold Sgn; omega
  ·rw [evalS]; split
   ·exact zwq (ih a (by simp))
   ·unfold Sgn; omega
  ·rw [evalS]
   split
   ·exact yyz _ _
   split
   ·exact zk4 _ _
   split
   ·exact zwq (zk4 _ _)
   split
   ·exact zwq (zk4 _ _)
   split
   ·split
    ·unfold Sgn; omega
    ·exact zV4 _
   ·unfold Sgn; omega
  ·rw [evalS]; unfold Sgn; omega
inductive SubP : Pred → Pred → Prop
 | self (p : Pred) : SubP p p
 | kid {q k p : Pred} (hk : k ∈ p.kids) (h : SubP q k) : SubP q p
def NamesP (p : Pred) : Prop := ∀ q, SubP q p → q.name.length ≤ 1073741824
theorem NamesP.kid {o : Int} {s : Str} {n : Int} {ks : List Pred} (h : NamesP (.mk o s n ks)) {k : Pred} (hk : k ∈ ks) : NamesP k := fun q hq => h q (.kid hk hq)
theorem NamesP.name {p : Pred} (h : NamesP p) : p.name.length ≤ 1073741824 := h p (.self p)
variable {E : AEnv} (Z : Sys E)
include Z
set_option maxHeartbeats 8000000 in
theorem zWt (hA : AtoiP E) (hI : ItoaP E) (signs : List Int) (hsl : signs.length ≤ 1000) (p : Pred) : NamesP p → E.C zyR [.agg p.cells, .one (.lst (signs.map icell))] (.one (.int .i64 (evalS signs p))) := by
 induction p using Pred.ind with
 | h o s n ks ih =>
  intro hn
  have hnum := fun b => zYe Z b
  have hneg := fun n h => zZK Z (n := n) h
  have hand := fun a b => zWv Z a b
  have hleaf := zWw Z hA hI o s n ks signs (fun k hk => (hn.kid hk).name) hsl
  refine Z.zyR _ _ ⟨bl rfl, ?_⟩
  simp only [leafR] at hleaf
  rcases ks with _ | ⟨a, _ | ⟨b, _ | ⟨c, r⟩⟩⟩
  ·rw [evalS]
   have hl0 : leafS signs [] = none := rfl
   simp only [hl0, cellsM, mN, Option.getD_none, Option.isSome_none] at hleaf
   simp only [zzA, go_sem, cellsM, mN, lN, nZ]
   cases c2 : (o == 2) with
   | true =>
    have h0 : decide ((0 : Int) > 0) = false := rfl
    simp only [go_sem, h0]
    refine zzb (hnum _) ?_
    simp only [go_sem]
    try rfl
   | false =>
    simp only [go_sem]
    cases c13 : (o == 13) with
    | true =>
     simp only [go_sem]
     refine zzb hleaf ?_
     simp only [go_sem]
     try rfl
    | false =>
     simp only [go_sem]
     cases c10 : (o == 10) with
     | true =>
      simp only [go_sem]
      refine zzb hleaf ?_
      simp only [go_sem]
      try rfl
     | false =>
      have h1 : ((0 : Int) == 1) = false := rfl
      have h2 : ((0 : Int) != 2) = true := rfl
      simp only [go_sem]
      cases c14 : (o == 14) with
      | true => simp only [go_sem, h1]; try rfl
      | false => simp only [go_sem, h1, h2]; try rfl
  ·rw [evalS]
   have hl0 : leafS signs [a] = none := rfl
   have ha := Pred.zzt a
   have iha := ih a (by simp) (hn.kid (by simp))
   have hs := zy5 signs a
   have hna := hneg _ hs
   generalize evalS signs a = va at *
   simp only [hl0, cellsM, mC, mN, ha, Option.getD_none, Option.isSome_none] at hleaf
   rw [ha] at iha
   simp only [zzA, go_sem, cellsM, mC, mN, lC, lN, zA, Int.natCast_one, ha]
   cases c2 : (o == 2) with
   | true =>
    have c14 : (o == 14) = false := by have : o = 2 := by simpa using c2
                                       subst this; rfl
    have h0 : decide ((1 : Int) > 0) = true := rfl
    simp only [go_sem, h0, c14]
    try rfl
   | false =>
    simp only [go_sem]
    cases c13 : (o == 13) with
    | true =>
     have c14 : (o == 14) = false := by have : o = 13 := by simpa using c13
                                        subst this; rfl
     simp only [go_sem]
     refine zzb hleaf ?_
     simp only [go_sem, c14]
     try rfl
    | false =>
     simp only [go_sem]
     cases c10 : (o == 10) with
     | true =>
      have c14 : (o == 14) = false := by have : o = 10 := by simpa using c10
                                         subst this; rfl
      simp only [go_sem]
      refine zzb hleaf ?_
      simp only [go_sem, c14]
      try rfl
     | false =>
      have h1 : ((1 : Int) == 1) = true := rfl
      have h2 : ((1 : Int) != 2) = true := rfl
      simp only [go_sem]
      cases c14 : (o == 14) with
      | true =>
       simp only [go_sem, h1]
       refine ⟨by simp, ?_⟩
       refine zzb iha ?_
       simp only [go_sem]
       refine zzb hna ?_
       simp only [go_sem]
       try rfl
      | false => simp only [go_sem, h1, h2]; try rfl
  ·rw [evalS]
   have ha := Pred.zzt a
   have hb := Pred.zzt b
   have iha := ih a (by simp) (hn.kid (by simp))
   have ihb := ih b (by simp) (hn.kid (by simp))
   have hsa := zy5 signs a
   have hsb := zy5 signs b
   generalize evalS signs a = va at *
   generalize evalS signs b = vb at *
   have hna := hneg _ hsa
   have hnb := hneg _ hsb
   have hn1 := hneg _ (zk4 (notS va) (notS vb))
   have hn2 := hneg _ (zk4 va (notS vb))
   generalize leafS signs [a, b] = R at *
   simp only [cellsM, mC, mN, ha, hb] at hleaf
   rw [ha] at iha
   rw [hb] at ihb
   have hlen : (∀ (e : List D), e ∈ [[D.int IntKind.i64 a.op, D.str a.name, D.int IntKind.i64 a.n, D.lst (List.map Pred.cells a.kids)], [D.int IntKind.i64 b.op, D.str b.name, D.int IntKind.i64 b.n, D.lst (List.map Pred.cells b.kids)]] → e.length = 4) = True := eq_true (by simp)
   have F : ∀ {p : Prop}, p → p := fun h => h
   by_cases h2 : o = 2
   ·subst h2
    simp only [zzA, go_sem, cellsM, mC, mN, lC, lN, zA, Nat.reduceAdd, Int.cast_ofNat_Int, ha, hb, Int.reduceBEq, Int.reduceGT, Int.reduceLT, decide_true, decide_false]
    try rfl
   by_cases h13 : o = 13
   ·subst h13
    simp only [zzA, go_sem, cellsM, mC, mN, lC, lN, zA, Nat.reduceAdd, Int.cast_ofNat_Int, ha, hb, Int.reduceBEq, Int.reduceGT, Int.reduceLT, decide_true, decide_false]
    refine zzb hleaf ?_
    cases R with
    | none => simp only [go_sem, Option.isSome_none, Option.getD_none]; try rfl
    | some x =>
     simp only [go_sem, oS, Option.getD_some]
     refine zzb (hnum _) ?_
     simp only [go_sem]
     try rfl
   by_cases h10 : o = 10
   ·subst h10
    simp only [zzA, go_sem, cellsM, mC, mN, lC, lN, zA, Nat.reduceAdd, Int.cast_ofNat_Int, ha, hb, Int.reduceBEq, Int.reduceGT, Int.reduceLT, decide_true, decide_false]
    refine zzb hleaf ?_
    cases R with
    | none => simp only [go_sem, Option.isSome_none, Option.getD_none]; try rfl
    | some x =>
     simp only [go_sem, oS, Option.getD_some]
     refine zzb (hnum _) ?_
     simp only [go_sem]
     try rfl
   by_cases h14 : o = 14
   ·subst h14
    simp only [zzA, go_sem, cellsM, mC, mN, lC, lN, zA, Nat.reduceAdd, Int.cast_ofNat_Int, ha, hb, Int.reduceBEq, Int.reduceGT, Int.reduceLT, decide_true, decide_false]
    try rfl
   have e2 : (o == 2) = false := by simpa using h2
   have e13 : (o == 13) = false := by simpa using h13
   have e10 : (o == 10) = false := by simpa using h10
   have e14 : (o == 14) = false := by simpa using h14
   by_cases hr : o < 15 ∨ 18 < o
   ·have e15 : (o == 15) = false := by simp; omega
    have e16 : (o == 16) = false := by simp; omega
    have e17 : (o == 17) = false := by simp; omega
    have e18 : (o == 18) = false := by simp; omega
    have hq : (decide (o < 15) || decide (o > 18)) = true := by simp; omega
    simp only [zzA, go_sem, cellsM, mC, mN, lC, lN, zA, Nat.reduceAdd, Int.cast_ofNat_Int, ha, hb, e2, e13, e10, e14, e15, e16, e17, e18, Int.reduceBNe, hq]
   ·obtain h | h | h | h : o = 15 ∨ o = 16 ∨ o = 17 ∨ o = 18 := by omega
    ·subst h
     simp only [zzA, go_sem, cellsM, mC, mN, lC, lN, zA, Nat.reduceAdd, Int.cast_ofNat_Int, ha, hb, Int.reduceBEq, Int.reduceBNe, Int.reduceGT, Int.reduceLT, decide_true, decide_false]
     refine ⟨by simp, ?_⟩
     refine zzb iha ?_
     simp only [go_sem, cellsM, mC, mN, lC, lN, zA, Nat.reduceAdd, Int.cast_ofNat_Int, ha, hb, Int.reduceBEq, Int.reduceBNe, Int.reduceGT, Int.reduceLT, decide_true, decide_false]
     cases c0 : (va == 0) with
     | true =>
      have : andS va vb = 0 := by unfold andS; rw [c0]; rfl
      rw [this]
      simp only [go_sem, cellsM, mC, mN, lC, lN, zA, Nat.reduceAdd, Int.cast_ofNat_Int, ha, hb, Int.reduceBEq, Int.reduceBNe, Int.reduceGT, Int.reduceLT, decide_true, decide_false]
      try rfl
     | false =>
      simp only [go_sem, cellsM, mC, mN, lC, lN, zA, Nat.reduceAdd, Int.cast_ofNat_Int, ha, hb, Int.reduceBEq, Int.reduceBNe, Int.reduceGT, Int.reduceLT, decide_true, decide_false]
      refine ⟨by simp, ?_⟩
      refine zzb ihb ?_
      simp only [go_sem, cellsM, mC, mN, lC, lN, zA, Nat.reduceAdd, Int.cast_ofNat_Int, ha, hb, Int.reduceBEq, Int.reduceBNe, Int.reduceGT, Int.reduceLT, decide_true, decide_false]
      refine zzb (hand _ _) ?_
      simp only [go_sem, cellsM, mC, mN, lC, lN, zA, Nat.reduceAdd, Int.cast_ofNat_Int, ha, hb, Int.reduceBEq, Int.reduceBNe, Int.reduceGT, Int.reduceLT, decide_true, decide_false]
      try rfl
    ·subst h
     simp only [zzA, go_sem, cellsM, mC, mN, lC, lN, zA, Nat.reduceAdd, Int.cast_ofNat_Int, ha, hb, Int.reduceBEq, Int.reduceBNe, Int.reduceGT, Int.reduceLT, decide_true, decide_false]
     refine ⟨by simp, ?_⟩
     refine zzb iha ?_
     simp only [go_sem, cellsM, mC, mN, lC, lN, zA, Nat.reduceAdd, Int.cast_ofNat_Int, ha, hb, Int.reduceBEq, Int.reduceBNe, Int.reduceGT, Int.reduceLT, decide_true, decide_false]
     refine ⟨by simp, ?_⟩
     refine zzb ihb ?_
     simp only [go_sem, cellsM, mC, mN, lC, lN, zA, Nat.reduceAdd, Int.cast_ofNat_Int, ha, hb, Int.reduceBEq, Int.reduceBNe, Int.reduceGT, Int.reduceLT, decide_true, decide_false]
     refine zzb hna ?_
     simp only [go_sem, cellsM, mC, mN, lC, lN, zA, Nat.reduceAdd, Int.cast_ofNat_Int, ha, hb, Int.reduceBEq, Int.reduceBNe, Int.reduceGT, Int.reduceLT, decide_true, decide_false]
     refine zzb hnb ?_
     simp only [go_sem, cellsM, mC, mN, lC, lN, zA, Nat.reduceAdd, Int.cast_ofNat_Int, ha, hb, Int.reduceBEq, Int.reduceBNe, Int.reduceGT, Int.reduceLT, decide_true, decide_false]
     refine zzb (hand _ _) ?_
     simp only [go_sem, cellsM, mC, mN, lC, lN, zA, Nat.reduceAdd, Int.cast_ofNat_Int, ha, hb, Int.reduceBEq, Int.reduceBNe, Int.reduceGT, Int.reduceLT, decide_true, decide_false]
     refine zzb hn1 ?_
     simp only [go_sem, cellsM, mC, mN, lC, lN, zA, Nat.reduceAdd, Int.cast_ofNat_Int, ha, hb, Int.reduceBEq, Int.reduceBNe, Int.reduceGT, Int.reduceLT, decide_true, decide_false]
     try rfl
    ·subst h
     simp only [zzA, go_sem, cellsM, mC, mN, lC, lN, zA, Nat.reduceAdd, Int.cast_ofNat_Int, ha, hb, Int.reduceBEq, Int.reduceBNe, Int.reduceGT, Int.reduceLT, decide_true, decide_false]
     refine ⟨by simp, ?_⟩
     refine zzb iha ?_
     simp only [go_sem, cellsM, mC, mN, lC, lN, zA, Nat.reduceAdd, Int.cast_ofNat_Int, ha, hb, Int.reduceBEq, Int.reduceBNe, Int.reduceGT, Int.reduceLT, decide_true, decide_false]
     refine ⟨by simp, ?_⟩
     refine zzb ihb ?_
     simp only [go_sem, cellsM, mC, mN, lC, lN, zA, Nat.reduceAdd, Int.cast_ofNat_Int, ha, hb, Int.reduceBEq, Int.reduceBNe, Int.reduceGT, Int.reduceLT, decide_true, decide_false]
     refine zzb hnb ?_
     simp only [go_sem, cellsM, mC, mN, lC, lN, zA, Nat.reduceAdd, Int.cast_ofNat_Int, ha, hb, Int.reduceBEq, Int.reduceBNe, Int.reduceGT, Int.reduceLT, decide_true, decide_false]
     refine zzb (hand _ _) ?_
     simp only [go_sem, cellsM, mC, mN, lC, lN, zA, Nat.reduceAdd, Int.cast_ofNat_Int, ha, hb, Int.reduceBEq, Int.reduceBNe, Int.reduceGT, Int.reduceLT, decide_true, decide_false]
     refine zzb hn2 ?_
     simp only [go_sem, cellsM, mC, mN, lC, lN, zA, Nat.reduceAdd, Int.cast_ofNat_Int, ha, hb, Int.reduceBEq, Int.reduceBNe, Int.reduceGT, Int.reduceLT, decide_true, decide_false]
     try rfl
    ·subst h
     simp only [zzA, go_sem, cellsM, mC, mN, lC, lN, zA, Nat.reduceAdd, Int.cast_ofNat_Int, ha, hb, Int.reduceBEq, Int.reduceBNe, Int.reduceGT, Int.reduceLT, decide_true, decide_false]
     refine ⟨by simp, ?_⟩
     refine zzb iha ?_
     simp only [go_sem, cellsM, mC, mN, lC, lN, zA, Nat.reduceAdd, Int.cast_ofNat_Int, ha, hb, Int.reduceBEq, Int.reduceBNe, Int.reduceGT, Int.reduceLT, decide_true, decide_false]
     refine ⟨by simp, ?_⟩
     refine zzb ihb ?_
     simp only [go_sem, cellsM, mC, mN, lC, lN, zA, Nat.reduceAdd, Int.cast_ofNat_Int, ha, hb, Int.reduceBEq, Int.reduceBNe, Int.reduceGT, Int.reduceLT, decide_true, decide_false]
     cases c0 : (decide (va < 0) || decide (vb < 0)) with
     | true => simp only [go_sem, cellsM, mC, mN, lC, lN, zA, Nat.reduceAdd, Int.cast_ofNat_Int, ha, hb, Int.reduceBEq, Int.reduceBNe, Int.reduceGT, Int.reduceLT, decide_true, decide_false]; try rfl
     | false =>
      simp only [go_sem, cellsM, mC, mN, lC, lN, zA, Nat.reduceAdd, Int.cast_ofNat_Int, ha, hb, Int.reduceBEq, Int.reduceBNe, Int.reduceGT, Int.reduceLT, decide_true, decide_false]
      refine zzb (hnum _) ?_
      simp only [go_sem, cellsM, mC, mN, lC, lN, zA, Nat.reduceAdd, Int.cast_ofNat_Int, ha, hb, Int.reduceBEq, Int.reduceBNe, Int.reduceGT, Int.reduceLT, decide_true, decide_false]
      try rfl
  ·rw [evalS]
   have ha := Pred.zzt a
   have hb := Pred.zzt b
   have hl0 : leafS signs (a :: b :: c :: r) = none := rfl
   have g0 : decide (((a :: b :: c :: r).length : Int) > 0) = true := by simp <;> omega
   have g1 : (((a :: b :: c :: r).length : Int) == 1) = false := by simp <;> omega
   have g2 : (((a :: b :: c :: r).length : Int) != 2) = true := by simp <;> omega
   generalize hks : a :: b :: c :: r = ks at *
   simp only [hl0, cellsM, Option.getD_none, Option.isSome_none] at hleaf
   simp only [zzA, go_sem, cellsM, g0, g1, g2]
   cases c2 : (o == 2) with
   | true => simp only [go_sem, g0]; try rfl
   | false =>
    simp only [go_sem]
    cases c13 : (o == 13) with
    | true =>
     simp only [go_sem]
     refine zzb hleaf ?_
     simp only [go_sem]
     try rfl
    | false =>
     simp only [go_sem]
     cases c10 : (o == 10) with
     | true =>
      simp only [go_sem]
      refine zzb hleaf ?_
      simp only [go_sem]
      try rfl
     | false =>
      simp only [go_sem]
      cases c14 : (o == 14) with
      | true => simp only [go_sem, g1]; try rfl
      | false => simp only [go_sem, g1, g2]; try rfl
end Go.Abs
end
section
namespace Go.Abs
variable {E : AEnv} (Z : Sys E)
include Z
set_option maxHeartbeats 8000000 in
theorem zYZ (signs : List Int) (hsl : signs.length ≤ 1000) (p : Pred) : E.C zxY [.agg p.cells, .one (.lst (signs.map icell))] (.one (.int .i64 (evalS signs p))) := by
 induction p using Pred.ind with
 | h o s n ks ih =>
  have hnum := fun b => yy0 Z b
  have hneg := fun n h => yzj Z (n := n) h
  have hand := fun a b => yzi Z a b
  have hleaf := yyZ Z o s n ks signs hsl
  refine Z.zxY _ _ ⟨bl rfl, ?_⟩
  rcases ks with _ | ⟨a, _ | ⟨b, _ | ⟨c, r⟩⟩⟩
  ·rw [evalS]
   have hl0 : leafS signs [] = none := rfl
   simp only [hl0, cellsM, mN, atS, Option.getD_none] at hleaf
   simp only [zzM, go_sem, cellsM, mN, lN, nZ]
   cases c2 : (o == 2) with
   | true =>
    have h0 : decide ((0 : Int) > 0) = false := rfl
    simp only [go_sem, h0]
    refine zzb (hnum _) ?_
    simp only [go_sem]
    try rfl
   | false =>
    simp only [go_sem]
    cases c13 : (o == 13) with
    | true =>
     simp only [go_sem]
     refine zzb hleaf ?_
     simp only [go_sem, Int.reduceBEq]
     try rfl
    | false =>
     simp only [go_sem]
     cases c10 : (o == 10) with
     | true =>
      simp only [go_sem]
      refine zzb hleaf ?_
      simp only [go_sem, Int.reduceBEq]
      try rfl
     | false =>
      have h1 : ((0 : Int) == 1) = false := rfl
      have h2 : ((0 : Int) != 2) = true := rfl
      simp only [go_sem]
      cases c14 : (o == 14) with
      | true => simp only [go_sem, h1]; try rfl
      | false => simp only [go_sem, h1, h2]; try rfl
  ·rw [evalS]
   have hl0 : leafS signs [a] = none := rfl
   have ha := Pred.zzt a
   have iha := ih a (by simp)
   have hs := zy5 signs a
   have hna := hneg _ hs
   generalize evalS signs a = va at *
   simp only [hl0, cellsM, mC, mN, ha, atS, Option.getD_none] at hleaf
   rw [ha] at iha
   simp only [zzM, go_sem, cellsM, mC, mN, lC, lN, zA, Int.natCast_one, ha]
   cases c2 : (o == 2) with
   | true =>
    have c14 : (o == 14) = false := by have : o = 2 := by simpa using c2
                                       subst this; rfl
    have h0 : decide ((1 : Int) > 0) = true := rfl
    simp only [go_sem, h0, c14]
    try rfl
   | false =>
    simp only [go_sem]
    cases c13 : (o == 13) with
    | true =>
     have c14 : (o == 14) = false := by have : o = 13 := by simpa using c13
                                        subst this; rfl
     simp only [go_sem]
     refine zzb hleaf ?_
     simp only [go_sem, c14, Int.reduceBEq]
     try rfl
    | false =>
     simp only [go_sem]
     cases c10 : (o == 10) with
     | true =>
      have c14 : (o == 14) = false := by have : o = 10 := by simpa using c10
                                         subst this; rfl
      simp only [go_sem]
      refine zzb hleaf ?_
      simp only [go_sem, c14, Int.reduceBEq]
      try rfl
     | false =>
      have h1 : ((1 : Int) == 1) = true := rfl
      have h2 : ((1 : Int) != 2) = true := rfl
      simp only [go_sem]
      cases c14 : (o == 14) with
      | true =>
       simp only [go_sem, h1]
       refine ⟨by simp, ?_⟩
       refine zzb iha ?_
       simp only [go_sem]
       refine zzb hna ?_
       simp only [go_sem]
       try rfl
      | false => simp only [go_sem, h1, h2]; try rfl
  ·rw [evalS]
   have ha := Pred.zzt a
   have hb := Pred.zzt b
   have iha := ih a (by simp)
   have ihb := ih b (by simp)
   have hsa := zy5 signs a
   have hsb := zy5 signs b
   generalize evalS signs a = va at *
   generalize evalS signs b = vb at *
   have hna := hneg _ hsa
   have hnb := hneg _ hsb
   have hn1 := hneg _ (zk4 (notS va) (notS vb))
   have hn2 := hneg _ (zk4 va (notS vb))
   have hRs := fun x (h : leafS signs [a, b] = some x) => yyy h
   generalize leafS signs [a, b] = R at *
   simp only [cellsM, mC, mN, ha, hb] at hleaf
   rw [ha] at iha
   rw [hb] at ihb
   have hlen : (∀ (e : List D), e ∈ [[D.int IntKind.i64 a.op, D.str a.name, D.int IntKind.i64 a.n, D.lst (List.map Pred.cells a.kids)], [D.int IntKind.i64 b.op, D.str b.name, D.int IntKind.i64 b.n, D.lst (List.map Pred.cells b.kids)]] → e.length = 4) = True := eq_true (by simp)
   have F : ∀ {p : Prop}, p → p := fun h => h
   by_cases h2 : o = 2
   ·subst h2
    simp only [zzM, go_sem, cellsM, mC, mN, lC, lN, zA, Nat.reduceAdd, Int.cast_ofNat_Int, ha, hb, Int.reduceBEq, Int.reduceGT, Int.reduceLT, decide_true, decide_false]
    try rfl
   by_cases h13 : o = 13
   ·subst h13
    simp only [zzM, go_sem, cellsM, mC, mN, lC, lN, zA, Nat.reduceAdd, Int.cast_ofNat_Int, ha, hb, Int.reduceBEq, Int.reduceGT, Int.reduceLT, decide_true, decide_false]
    refine zzb hleaf ?_
    cases R with
    | none => simp only [go_sem, atS, Option.getD_none, Int.reduceBEq]; try rfl
    | some x =>
     have hx := hRs x rfl
     unfold Sgn at hx
     have x2 : (x == 2) = false := by simp <;> omega
     have xm : (x == -1) = decide (x < 0) := by rw [Bool.eq_iff_iff]; simp <;> omega
     simp only [go_sem, atS, Option.getD_some, x2, xm, Int.reduceBEq, leafV, Bool.and_true, Bool.and_false]
     refine zzb (hnum _) ?_
     simp only [go_sem]
     try rfl
   by_cases h10 : o = 10
   ·subst h10
    simp only [zzM, go_sem, cellsM, mC, mN, lC, lN, zA, Nat.reduceAdd, Int.cast_ofNat_Int, ha, hb, Int.reduceBEq, Int.reduceGT, Int.reduceLT, decide_true, decide_false]
    refine zzb hleaf ?_
    cases R with
    | none => simp only [go_sem, atS, Option.getD_none, Int.reduceBEq]; try rfl
    | some x =>
     have hx := hRs x rfl
     unfold Sgn at hx
     have x2 : (x == 2) = false := by simp <;> omega
     have xm : (x == -1) = decide (x < 0) := by rw [Bool.eq_iff_iff]; simp <;> omega
     simp only [go_sem, atS, Option.getD_some, x2, xm, Int.reduceBEq, leafV, Bool.and_true, Bool.and_false]
     refine zzb (hnum _) ?_
     simp only [go_sem]
     try rfl
   by_cases h14 : o = 14
   ·subst h14
    simp only [zzM, go_sem, cellsM, mC, mN, lC, lN, zA, Nat.reduceAdd, Int.cast_ofNat_Int, ha, hb, Int.reduceBEq, Int.reduceGT, Int.reduceLT, decide_true, decide_false]
    try rfl
   have e2 : (o == 2) = false := by simpa using h2
   have e13 : (o == 13) = false := by simpa using h13
   have e10 : (o == 10) = false := by simpa using h10
   have e14 : (o == 14) = false := by simpa using h14
   by_cases hr : o < 15 ∨ 18 < o
   ·have e15 : (o == 15) = false := by simp; omega
    have e16 : (o == 16) = false := by simp; omega
    have e17 : (o == 17) = false := by simp; omega
    have e18 : (o == 18) = false := by simp; omega
    have hq : (decide (o < 15) || decide (o > 18)) = true := by simp; omega
    simp only [zzM, go_sem, cellsM, mC, mN, lC, lN, zA, Nat.reduceAdd, Int.cast_ofNat_Int, ha, hb, Int.reduceBEq, Int.reduceBNe, Int.reduceGT, Int.reduceLT, decide_true, decide_false, e2, e13, e10, e14]
    refine ⟨by simp, ?_⟩
    refine zzb iha ?_
    simp only [go_sem, cellsM, mC, mN, lC, lN, zA, Nat.reduceAdd, Int.cast_ofNat_Int, ha, hb, Int.reduceBEq, Int.reduceBNe, Int.reduceGT, Int.reduceLT, decide_true, decide_false]
    refine ⟨by simp, ?_⟩
    refine zzb ihb ?_
    simp only [go_sem, cellsM, mC, mN, lC, lN, zA, Nat.reduceAdd, Int.cast_ofNat_Int, ha, hb, Int.reduceBEq, Int.reduceBNe, Int.reduceGT, Int.reduceLT, decide_true, decide_false, e15, e16, e17, e18]
   ·obtain h | h | h | h : o = 15 ∨ o = 16 ∨ o = 17 ∨ o = 18 := by omega
    ·subst h
     simp only [zzM, go_sem, cellsM, mC, mN, lC, lN, zA, Nat.reduceAdd, Int.cast_ofNat_Int, ha, hb, Int.reduceBEq, Int.reduceBNe, Int.reduceGT, Int.reduceLT, decide_true, decide_false]
     refine ⟨by simp, ?_⟩
     refine zzb iha ?_
     simp only [go_sem, cellsM, mC, mN, lC, lN, zA, Nat.reduceAdd, Int.cast_ofNat_Int, ha, hb, Int.reduceBEq, Int.reduceBNe, Int.reduceGT, Int.reduceLT, decide_true, decide_false]
     refine ⟨by simp, ?_⟩
     refine zzb ihb ?_
     simp only [go_sem, cellsM, mC, mN, lC, lN, zA, Nat.reduceAdd, Int.cast_ofNat_Int, ha, hb, Int.reduceBEq, Int.reduceBNe, Int.reduceGT, Int.reduceLT, decide_true, decide_false]
     refine zzb (hand _ _) ?_
     simp only [go_sem, cellsM, mC, mN, lC, lN, zA, Nat.reduceAdd, Int.cast_ofNat_Int, ha, hb, Int.reduceBEq, Int.reduceBNe, Int.reduceGT, Int.reduceLT, decide_true, decide_false]
     try rfl
    ·subst h
     simp only [zzM, go_sem, cellsM, mC, mN, lC, lN, zA, Nat.reduceAdd, Int.cast_ofNat_Int, ha, hb, Int.reduceBEq, Int.reduceBNe, Int.reduceGT, Int.reduceLT, decide_true, decide_false]
     refine ⟨by simp, ?_⟩
     refine zzb iha ?_
     simp only [go_sem, cellsM, mC, mN, lC, lN, zA, Nat.reduceAdd, Int.cast_ofNat_Int, ha, hb, Int.reduceBEq, Int.reduceBNe, Int.reduceGT, Int.reduceLT, decide_true, decide_false]
     refine ⟨by simp, ?_⟩
     refine zzb ihb ?_
     simp only [go_sem, cellsM, mC, mN, lC, lN, zA, Nat.reduceAdd, Int.cast_ofNat_Int, ha, hb, Int.reduceBEq, Int.reduceBNe, Int.reduceGT, Int.reduceLT, decide_true, decide_false]
     refine zzb hna ?_
     simp only [go_sem, cellsM, mC, mN, lC, lN, zA, Nat.reduceAdd, Int.cast_ofNat_Int, ha, hb, Int.reduceBEq, Int.reduceBNe, Int.reduceGT, Int.reduceLT, decide_true, decide_false]
     refine zzb hnb ?_
     simp only [go_sem, cellsM, mC, mN, lC, lN, zA, Nat.reduceAdd, Int.cast_ofNat_Int, ha, hb, Int.reduceBEq, Int.reduceBNe, Int.reduceGT, Int.reduceLT, decide_true, decide_false]
     refine zzb (hand _ _) ?_
     simp only [go_sem, cellsM, mC, mN, lC, lN, zA, Nat.reduceAdd, Int.cast_ofNat_Int, ha, hb, Int.reduceBEq, Int.reduceBNe, Int.reduceGT, Int.reduceLT, decide_true, decide_false]
     refine zzb hn1 ?_
     simp only [go_sem, cellsM, mC, mN, lC, lN, zA, Nat.reduceAdd, Int.cast_ofNat_Int, ha, hb, Int.reduceBEq, Int.reduceBNe, Int.reduceGT, Int.reduceLT, decide_true, decide_false]
     try rfl
    ·subst h
     simp only [zzM, go_sem, cellsM, mC, mN, lC, lN, zA, Nat.reduceAdd, Int.cast_ofNat_Int, ha, hb, Int.reduceBEq, Int.reduceBNe, Int.reduceGT, Int.reduceLT, decide_true, decide_false]
     refine ⟨by simp, ?_⟩
     refine zzb iha ?_
     simp only [go_sem, cellsM, mC, mN, lC, lN, zA, Nat.reduceAdd, Int.cast_ofNat_Int, ha, hb, Int.reduceBEq, Int.reduceBNe, Int.reduceGT, Int.reduceLT, decide_true, decide_false]
     refine ⟨by simp, ?_⟩
     refine zzb ihb ?_
     simp only [go_sem, cellsM, mC, mN, lC, lN, zA, Nat.reduceAdd, Int.cast_ofNat_Int, ha, hb, Int.reduceBEq, Int.reduceBNe, Int.reduceGT, Int.reduceLT, decide_true, decide_false]
     refine zzb hnb ?_
     simp only [go_sem, cellsM, mC, mN, lC, lN, zA, Nat.reduceAdd, Int.cast_ofNat_Int, ha, hb, Int.reduceBEq, Int.reduceBNe, Int.reduceGT, Int.reduceLT, decide_true, decide_false]
     refine zzb (hand _ _) ?_
     simp only [go_sem, cellsM, mC, mN, lC, lN, zA, Nat.reduceAdd, Int.cast_ofNat_Int, ha, hb, Int.reduceBEq, Int.reduceBNe, Int.reduceGT, Int.reduceLT, decide_true, decide_false]
     refine zzb hn2 ?_
     simp only [go_sem, cellsM, mC, mN, lC, lN, zA, Nat.reduceAdd, Int.cast_ofNat_Int, ha, hb, Int.reduceBEq, Int.reduceBNe, Int.reduceGT, Int.reduceLT, decide_true, decide_false]
     try rfl
    ·subst h
     simp only [zzM, go_sem, cellsM, mC, mN, lC, lN, zA, Nat.reduceAdd, Int.cast_ofNat_Int, ha, hb, Int.reduceBEq, Int.reduceBNe, Int.reduceGT, Int.reduceLT, decide_true, decide_false]
     refine ⟨by simp, ?_⟩
     refine zzb iha ?_
     simp only [go_sem, cellsM, mC, mN, lC, lN, zA, Nat.reduceAdd, Int.cast_ofNat_Int, ha, hb, Int.reduceBEq, Int.reduceBNe, Int.reduceGT, Int.reduceLT, decide_true, decide_false]
     refine ⟨by simp, ?_⟩
     refine zzb ihb ?_
     simp only [go_sem, cellsM, mC, mN, lC, lN, zA, Nat.reduceAdd, Int.cast_ofNat_Int, ha, hb, Int.reduceBEq, Int.reduceBNe, Int.reduceGT, Int.reduceLT, decide_true, decide_false]
     cases c0 : decide (va ≥ 0) with
     | false =>
      have c0' : decide (va < 0) = true := decide_eq_true (by have := of_decide_eq_false c0; omega)
      simp only [go_sem, cellsM, mC, mN, lC, lN, zA, Nat.reduceAdd, Int.cast_ofNat_Int, ha, hb, Int.reduceBEq, Int.reduceBNe, Int.reduceGT, Int.reduceLT, decide_true, decide_false, c0']
      try rfl
     | true =>
      have c0' : decide (va < 0) = false := decide_eq_false (by have := of_decide_eq_true c0; omega)
      cases c1 : decide (vb ≥ 0) with
      | false =>
       have c1' : decide (vb < 0) = true := decide_eq_true (by have := of_decide_eq_false c1; omega)
       simp only [go_sem, cellsM, mC, mN, lC, lN, zA, Nat.reduceAdd, Int.cast_ofNat_Int, ha, hb, Int.reduceBEq, Int.reduceBNe, Int.reduceGT, Int.reduceLT, decide_true, decide_false, c0', c1']
       try rfl
      | true =>
       have c1' : decide (vb < 0) = false := decide_eq_false (by have := of_decide_eq_true c1; omega)
       simp only [go_sem, cellsM, mC, mN, lC, lN, zA, Nat.reduceAdd, Int.cast_ofNat_Int, ha, hb, Int.reduceBEq, Int.reduceBNe, Int.reduceGT, Int.reduceLT, decide_true, decide_false, c0', c1']
       refine zzb (hnum _) ?_
       simp only [go_sem, cellsM, mC, mN, lC, lN, zA, Nat.reduceAdd, Int.cast_ofNat_Int, ha, hb, Int.reduceBEq, Int.reduceBNe, Int.reduceGT, Int.reduceLT, decide_true, decide_false]
       try rfl
  ·rw [evalS]
   have ha := Pred.zzt a
   have hb := Pred.zzt b
   have hl0 : leafS signs (a :: b :: c :: r) = none := rfl
   have g0 : decide (((a :: b :: c :: r).length : Int) > 0) = true := by simp <;> omega
   have g1 : (((a :: b :: c :: r).length : Int) == 1) = false := by simp <;> omega
   have g2 : (((a :: b :: c :: r).length : Int) != 2) = true := by simp <;> omega
   generalize hks : a :: b :: c :: r = ks at *
   simp only [hl0, cellsM, atS, Option.getD_none] at hleaf
   simp only [zzM, go_sem, cellsM, g0, g1, g2]
   cases c2 : (o == 2) with
   | true => simp only [go_sem, g0]; try rfl
   | false =>
    simp only [go_sem]
    cases c13 : (o == 13) with
    | true =>
     simp only [go_sem]
     refine zzb hleaf ?_
     simp only [go_sem, Int.reduceBEq]
     try rfl
    | false =>
     simp only [go_sem]
     cases c10 : (o == 10) with
     | true =>
      simp only [go_sem]
      refine zzb hleaf ?_
      simp only [go_sem, Int.reduceBEq]
      try rfl
     | false =>
      simp only [go_sem]
      cases c14 : (o == 14) with
      | true => simp only [go_sem, g1]; try rfl
      | false => simp only [go_sem, g1, g2]; try rfl
end Go.Abs
end
section
namespace Go.Abs
structure BigT where
 neg : Bool
 ds : List Int
def BigT.cells (a : BigT) : List D := [.bool a.neg, .lst (a.ds.map icell)]
theorem BigT.lens (l : List BigT) : (∀ e ∈ l.map BigT.cells, e.length = 2) = True := zyT (f := BigT.cells) (fun _ => rfl) l
attribute [go_sem] BigT.lens
def digs (n : Nat) : List Int := if h : n = 0 then [] else ((n % 10000 : Nat) : Int) :: digs (n / 10000)
termination_by n
decreasing_by omega
def bigZ (z : Int) : BigT := ⟨decide (z < 0), digs z.natAbs⟩
def val : List Int → Int
 | [] => 0
 | d :: l => d + 10000 * val l
def Digit (d : Int) : Prop := 0 ≤ d ∧ d < 10000
theorem zzC : digs 0 = [] := by rw [digs, dif_pos rfl]
theorem zzQ {n : Nat} (h : n ≠ 0) : digs n = ((n % 10000 : Nat) : Int) :: digs (n / 10000) := by rw [digs, dif_neg h]
theorem zzx : ∀ n : Nat, val (digs n) = n := by
 intro n
 induction n using Nat.strongRecOn with
 | ind n ih =>
  by_cases h : n = 0
  ·subst h; rw [zzC]; rfl
  ·rw [zzQ h, val, ih (n / 10000) (by omega)]; omega
theorem zzG : ∀ n : Nat, ∀ d ∈ digs n, Digit d := by
 intro n
 induction n using Nat.strongRecOn with
 | ind n ih =>
  by_cases h : n = 0
  ·subst h; rw [zzC]; simp
  ·rw [zzQ h]
   intro d hd
   rcases List.mem_cons.1 hd with rfl | hd
   ·unfold Digit; omega
   ·exact ih (n / 10000) (by omega) d hd
theorem zxo : ∀ {l : List Int}, (∀ d ∈ l, Digit d) → 0 ≤ val l
 | [], _ => by simp [val]
 | d :: l, h => by
  have h1 := h d (by simp)
  have h2 := zxo (l := l) fun x hx => h x (by simp [hx])
  unfold Digit at h1
  rw [val]; omega
def Norm (l : List Int) : Prop := (∀ d ∈ l, Digit d) ∧ ∀ d, l.getLast? = some d → d ≠ 0
theorem Norm.tail {d : Int} {l : List Int} (h : Norm (d :: l)) : Norm l := by
 refine ⟨fun x hx => h.1 x (by simp [hx]), fun x hx => h.2 x ?_⟩
 cases l with
 | nil => cases hx
 | cons y l => rw [List.getLast?_cons_cons]; exact hx
theorem Norm.pos : ∀ {l : List Int}, Norm l → l ≠ [] → 0 < val l
 | [d], h, _ => by
  have h1 := h.1 d (by simp)
  have h2 := h.2 d rfl
  unfold Digit at h1
  simp only [val]; omega
 | d :: y :: l, h, _ => by
  have h1 := h.1 d (by simp)
  have h2 := Norm.pos h.tail (by simp)
  unfold Digit at h1
  rw [val]; omega
theorem zYS : ∀ {l : List Int}, Norm l → l = digs (val l).toNat
 | [], _ => by rw [show (val []).toNat = 0 from rfl, zzC]
 | d :: l, h => by
  have h1 := h.1 d (by simp)
  have h2 := zYS h.tail
  have h3 := zxo (l := l) h.tail.1
  have h4 := Norm.pos h (by simp)
  unfold Digit at h1
  rw [zzQ (by omega)]
  have e1 : (val (d :: l)).toNat % 10000 = d.toNat := by rw [val]; omega
  have e2 : (val (d :: l)).toNat / 10000 = (val l).toNat := by rw [val]; omega
  rw [e1, e2, ← h2, Int.toNat_of_nonneg h1.1]
theorem zy4 (n : Nat) : Norm (digs n) := by
 refine ⟨zzG n, ?_⟩
 induction n using Nat.strongRecOn with
 | ind n ih =>
  by_cases h : n = 0
  ·subst h; rw [zzC]; simp
  ·rw [zzQ h]
   intro d hd
   by_cases h2 : n / 10000 = 0
   ·rw [h2, zzC] at hd
    simp at hd
    subst hd
    omega
   ·rw [zzQ h2, List.getLast?_cons_cons, ← zzQ h2] at hd
    exact ih (n / 10000) (by omega) d hd
def trimZ : List Int → List Int
 | [] => []
 | d :: l => if (trimZ l).isEmpty && d == 0 then [] else d :: trimZ l
theorem zVt : ∀ l : List Int, val (trimZ l) = val l
 | [] => rfl
 | d :: l => by
  have ih := zVt l
  rw [trimZ]
  split
  ·rename_i h
   simp only [Bool.and_eq_true, List.isEmpty_iff, beq_iff_eq] at h
   rw [h.1] at ih
   show (0 : Int) = d + 10000 * val l
   rw [← ih, h.2]; rfl
  ·rw [val, val, ih]
theorem zWn : ∀ {l : List Int}, (∀ d ∈ l, Digit d) → Norm (trimZ l)
 | [], _ => ⟨by simp [trimZ], by simp [trimZ]⟩
 | d :: l, h => by
  have ih := zWn (l := l) fun x hx => h x (by simp [hx])
  rw [trimZ]
  split
  ·exact ⟨by simp, by simp⟩
  ·rename_i hc
   refine ⟨fun x hx => ?_, fun x hx => ?_⟩
   ·rcases List.mem_cons.1 hx with rfl | hx
    ·exact h x (by simp)
    ·exact ih.1 x hx
   ·cases ht : trimZ l with
    | nil =>
     rw [ht] at hx hc
     simp at hx hc
     subst hx; exact hc
    | cons y r =>
     rw [ht, List.getLast?_cons_cons, ← ht] at hx
     exact ih.2 x hx
theorem zwh {l : List Int} (h : ∀ d ∈ l, Digit d) : trimZ l = digs (val l).toNat := by
 have := zYS (zWn h)
 rwa [zVt] at this
theorem zzu : ∀ (a b : List Int), val (a ++ b) = val a + 10000 ^ a.length * val b
 | [], b => by simp [val]
 | d :: a, b => by
  rw [List.cons_append, val, val, zzu a b, lC, Int.pow_succ]
  rw [Int.mul_add, Int.add_assoc, Int.mul_comm (10000 ^ a.length) 10000, Int.mul_assoc]
theorem zXf (l : List Int) : trimZ (l ++ [0]) = trimZ l := by
 induction l with
 | nil => rfl
 | cons d l ih => rw [List.cons_append, trimZ, trimZ, ih]
theorem zWm {l : List Int} {d : Int} (h : d ≠ 0) : trimZ (l ++ [d]) = l ++ [d] := by
 induction l with
 | nil => simp [trimZ, h]
 | cons x l ih => rw [List.cons_append, trimZ, ih]; simp
def fitB (z : Int) : BigT × Bool := if decide (((digs z.natAbs).length : Int) > 200) then (⟨false, []⟩, false) else (bigZ z, true)
def resB (r : BigT × Bool) : CV := .tup [.agg r.1.cells, .one (.bool r.2)]
end Go.Abs
end
section
namespace Go.Abs
def digB (d : Int) : Bool := !(decide (d < 0) || decide (d ≥ 10000))
def lastD (l : List Int) : Int := l.getLast?.getD 0
def validB (a : BigT) : Bool := !(decide ((a.ds.length : Int) > 200) || ((a.ds.length : Int) == 0 && a.neg) || (decide ((a.ds.length : Int) > 0) && lastD a.ds == 0)) && a.ds.all digB
theorem zqU (d : List Int) (y : Int) : lastD (d ++ [y]) = y := by simp [lastD]
def signB (n : Bool) (l : List Int) : BigT × Bool := if decide ((l.length : Int) > 200) then (⟨false, []⟩, false) else if (l.length : Int) == 0 then (⟨false, []⟩, true) else (⟨n, l⟩, true)
theorem zJ0 (d : List Int) (y : Int) : ((d ++ [y]).map icell).getD d.length [] = icell y := getD_at rfl
variable {E : AEnv} (Z : Sys E)
include Z
theorem zjW (n : Bool) (l : List Int) : E.C zyS [.one (.bool n), .one (.lst (l.map icell))] (resB (signB n l)) := by
 refine Z.zyS _ _ ⟨bl rfl, ?_⟩
 try unfold resB
 try unfold BigT.cells
 have hs : signB n l = signB n l := rfl
 conv at hs => rhs; unfold signB
 generalize signB n l = q at *
 simp only [zqa, go_sem]
 try intro _
 cases h1 : decide ((l.length : Int) > 200) with
 | true => simp only [h1, go_sem] at hs ⊢; subst hs; exact ⟨⟨rfl, rfl⟩, rfl⟩
 | false =>
 simp only [h1, go_sem] at hs ⊢
 try intro _
 cases h2 : (l.length : Int) == 0 with
 | true => simp only [h2, go_sem] at hs ⊢; subst hs; exact ⟨⟨rfl, rfl⟩, rfl⟩
 | false =>
 simp only [h2, go_sem] at hs ⊢; subst hs; exact ⟨⟨rfl, rfl⟩, rfl⟩
theorem zZc (a : BigT) : E.C zx1 [.agg a.cells] (.one (.bool (validB a))) := by
 refine Z.zx1 _ _ ⟨bl rfl, ?_⟩
 generalize hR : validB a = R
 obtain ⟨n, l⟩ := a
 unfold validB at hR
 simp only [BigT.cells] at *
 by_cases hl0 : l = []
 ·have hlen : l.length = 0 := by rw [hl0]; rfl
  have hgt : decide ((l.length : Int) > 0) = false := decide_eq_false (by omega)
  have hne : ((l.length : Int) == 0) = true := beq_iff_eq.2 (by omega)
  have h24 : decide ((l.length : Int) > 200) = false := decide_eq_false (by omega)
  have hg : ∀ k, (l.map icell).getD k [] = [] := fun k => by rw [hl0]; simp
  clear hl0
  simp only [hgt, hne, h24, Bool.false_and, Bool.true_and, Bool.or_false, Bool.false_or] at hR
  cases n with
  | true =>
   simp only [go_sem] at hR
   simp only [zx6, go_sem, hgt, hne, h24, hg]
   try intro _
   exact hR
  | false =>
   simp only [go_sem] at hR
   simp only [zx6, go_sem, hgt, hne, h24, hg]
   try intro _
   try intro _
   refine zzh l (fun done => done.all digB = true) (fun done rest => ⟨[(35, .d (.int .i64 done.length)), (34, .d (.int .i64 l.length)), (33, .d (.lst (l.map icell)))], [], []⟩) ?_ rfl ?_ ?_
   ·exact zzc (by simp only [go_sem, oS])
   ·intro done x r hl hI
    have hlt := zzw hl
    have hw : IntKind.i64.wrap ((done.length : Int) + 1) = ((done.length + 1 : Nat) : Int) := zzd (by omega)
    have hS : (decide (x < 0) || decide (x ≥ 10000)) = true → false = R := by
     intro hx
     rw [← hR, hl, List.all_append, List.all_cons]
     unfold digB; rw [hx]; simp
    have hT : (decide (x < 0) || decide (x ≥ 10000)) = false → (done ++ [x]).all digB = true := by
     intro hx
     rw [List.all_append, hI, List.all_cons]
     unfold digB; rw [hx]; rfl
    simp only [zyH, go_sem, getD_at hl, hlt, icell]
    cases e1 : decide (x < 0) with
    | true => simp only [e1, go_sem] at hS hT ⊢; exact hS
    | false =>
     simp only [e1, go_sem] at hS hT ⊢
     cases e2 : decide (x ≥ 10000) with
     | true => simp only [e2, go_sem] at hS hT ⊢; exact hS
     | false =>
      simp only [e2, go_sem, hw] at hS hT ⊢
      refine ⟨zzc (by simp only [go_sem, oS, lA, lC, lN, zA]), ?_⟩
      exact hT
   ·intro hI
    have hz : ((l.length : Int) < (l.length : Int)) = False := eq_false (by omega)
    rw [hI] at hR
    simp only [zyH, go_sem, Int.lt_irrefl, decide_false]
    exact hR
 ·obtain ⟨d, y, hl0⟩ := (zzJ l).resolve_left hl0
  have hlen : l.length = d.length + 1 := by rw [hl0]; simp
  have hlast : lastD l = y := by rw [hl0, zqU]
  have hgt : decide ((l.length : Int) > 0) = true := decide_eq_true (by omega)
  have hne : ((l.length : Int) == 0) = false := beq_eq_false_iff_ne.2 (by omega)
  have hg : (l.map icell).getD d.length [] = icell y := by rw [hl0]; exact zJ0 d y
  have hlt : ((d.length : Int) < (l.length : Int)) = True := eq_true (by omega)
  simp only [hlast, hgt, hne, Bool.false_and, Bool.true_and, Bool.or_false] at hR
  cases h24 : decide ((l.length : Int) > 200) with
  | true =>
   simp only [h24, go_sem] at hR
   subst hR
   simp only [zx6, go_sem, hgt, hne, h24]
   intro hb
   have hw : IntKind.i64.wrap ((l.length : Int) - 1) = (d.length : Int) := (i64_in _ (by omega)).trans (by omega)
   simp only [go_sem, hw, hg, hlt, Int.toNat_natCast, icell]
  | false =>
   have h24' : (l.length : Int) ≤ 200 := by simpa using h24
   have hw : IntKind.i64.wrap ((l.length : Int) - 1) = (d.length : Int) := (i64_in _ (by omega)).trans (by omega)
   simp only [h24, go_sem] at hR
   simp only [zx6, go_sem, hgt, hne, h24, hw, hg, hlt, Int.toNat_natCast, icell]
   intro _
   cases hy : y == 0 with
   | true => simp only [hy, go_sem] at hR ⊢; exact hR
   | false =>
   simp only [hy, go_sem] at hR ⊢
   intro _
   refine zzh l (fun done => done.all digB = true) (fun done rest => ⟨[(35, .d (.int .i64 done.length)), (34, .d (.int .i64 l.length)), (33, .d (.lst (l.map icell)))], [], []⟩) ?_ rfl ?_ ?_
   ·exact zzc (by simp only [go_sem, oS])
   ·intro done x r hl hI
    have hlt := zzw hl
    have hw : IntKind.i64.wrap ((done.length : Int) + 1) = ((done.length + 1 : Nat) : Int) := zzd (by omega)
    have hS : (decide (x < 0) || decide (x ≥ 10000)) = true → false = R := by
     intro hx
     rw [← hR, hl, List.all_append, List.all_cons]
     unfold digB; rw [hx]; simp
    have hT : (decide (x < 0) || decide (x ≥ 10000)) = false → (done ++ [x]).all digB = true := by
     intro hx
     rw [List.all_append, hI, List.all_cons]
     unfold digB; rw [hx]; rfl
    simp only [zyH, go_sem, getD_at hl, hlt, icell]
    cases e1 : decide (x < 0) with
    | true => simp only [e1, go_sem] at hS hT ⊢; exact hS
    | false =>
     simp only [e1, go_sem] at hS hT ⊢
     cases e2 : decide (x ≥ 10000) with
     | true => simp only [e2, go_sem] at hS hT ⊢; exact hS
     | false =>
      simp only [e2, go_sem, hw] at hS hT ⊢
      refine ⟨zzc (by simp only [go_sem, oS, lA, lC, lN, zA]), ?_⟩
      exact hT
   ·intro hI
    have hz : ((l.length : Int) < (l.length : Int)) = False := eq_false (by omega)
    rw [hI] at hR
    simp only [zyH, go_sem, Int.lt_irrefl, decide_false]
    exact hR
theorem zWx (a : BigT) : E.C zz7 [.agg a.cells] (.one (.lst ((if validB a then a.ds else []).map icell))) := by
 have hV := zZc Z a
 refine Z.zz7 _ _ ⟨bl rfl, ?_⟩
 generalize hR : (if validB a then a.ds else []) = R
 obtain ⟨n, l⟩ := a
 simp only [BigT.cells] at *
 simp only [zj9, go_sem]
 try intro _
 refine zzb hV ?_
 cases hv : validB ⟨n, l⟩ <;> simp only [hv, go_sem, Bool.false_eq_true, if_false, if_true] at hR ⊢ <;> subst hR <;> rfl
end Go.Abs
end
