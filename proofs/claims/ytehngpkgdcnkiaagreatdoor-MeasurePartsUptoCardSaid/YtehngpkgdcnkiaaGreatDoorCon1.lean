/-
  CONTRACTS: what the functions answer, as plain Lean functions, each by evaluation at the abstract machine.
-/
import Derived.KernelRfl
import Derived.Lib.ItoaLen
import Derived.Laws.AppendOwn
import Derived.Lib.OwnBridge
import Derived.Sort.OwnSorted
import Derived.Lib.SlicesCompact
import Derived.Sort.Walk0
import Derived.Test.YtehngpkgdcnkiaaGreatDoorFns
set_option linter.unusedSimpArgs false
set_option linter.unusedVariables false
set_option linter.unusedSectionVars false
set_option maxRecDepth 100000
section
namespace Go.Abs
namespace Pred
mutual
def nodes : Pred → Int
 | .mk _ _ _ ks => nodess 1 ks
def nodess (a : Int) : List Pred → Int
 | [] => a
 | k :: ks => nodess (IntKind.i64.wrap (a + nodes k)) ks
end
theorem nodess_eq (a : Int) (ks : List Pred) : nodess a ks = ks.foldl (fun a k => IntKind.i64.wrap (a + nodes k)) a := by
 induction ks generalizing a with
 | nil => simp [nodess]
 | cons k ks ih => simp [nodess, ih]
theorem nodes_eq (p : Pred) : nodes p = p.kids.foldl (fun a k => IntKind.i64.wrap (a + nodes k)) 1 := by cases p; simp [nodes, kids, nodess_eq]
end Pred
theorem pred_Nodes_ev {E : AEnv} (Z : Sys E) (p : Pred) : E.C pred_Nodes [.agg (Pred.cells p)] (.one (.int .i64 p.nodes)) := by
 induction p using Pred.ind with
 | h o s n ks ih =>
 refine Z.pred_Nodes _ _ ⟨Nat.le_of_ble_eq_true rfl, ?_⟩
 rw [Pred.cells_eq, Pred.nodes_eq]
 simp only [fn_pred_Nodes, go_sem, Pred.kids]
 intro hlen
 refine loop_list ks (fun _ => True) (fun done rest => ⟨[(9, .d (.int .i64 done.length)), (8, .d (.int .i64 (ks.map Pred.cells).length)), (7, .d (.lst (ks.map Pred.cells))), (3, .d (.int .i64 (done.foldl (fun a k => IntKind.i64.wrap (a + Pred.nodes k)) 1)))], [], []⟩) ?_ trivial ?_ ?_
 ·exact Ent_plain (by simp only [go_sem, Int.natCast_zero, List.foldl_nil])
 ·intro done k r hl _
  have hk' := ih k (by rw [hl]; simp)
  have hlt := lt_mid hl
  have hw : IntKind.i64.wrap ((done.length : Int) + 1) = ((done.length + 1 : Nat) : Int) := wrap_succ (by omega)
  have hx : (ks.map Pred.cells).getD done.length [] = Pred.cells k := by rw [hl]; exact getD_mid _ _ _ _ _
  simp only [fn_pred_Nodes_L1, go_sem, hlt, hx]
  refine call_by hk' ?_
  simp only [go_sem, hw, List.length_append, List.foldl_append, List.foldl_cons, List.foldl_nil]
  exact Ent_plain (by simp only [go_sem])
 ·simp only [fn_pred_Nodes_L1, go_sem, forall_const]
end Go.Abs
end
section
namespace Go.Abs
def isSmall (n : Int) : Bool := decide (97 ≤ n) && decide (n ≤ 122)
def isCapital (n : Int) : Bool := decide (65 ≤ n) && decide (n ≤ 90)
def isDigit (n : Int) : Bool := decide (48 ≤ n) && decide (n ≤ 57)
def isSized (s : List UInt8) : Bool := decide ((s.length : Int) ≥ 1) && decide ((s.length : Int) ≤ 24)
def cutAt : List UInt8 → List UInt8 × List UInt8 × Bool
 | [] => ([], [], false)
 | c :: s => if c.toNat = 46 then ([], s, true) else (c :: (cutAt s).1, (cutAt s).2.1, (cutAt s).2.2)
theorem cutAt_no : ∀ {s : List UInt8}, (∀ c ∈ s, c.toNat ≠ 46) → cutAt s = (s, [], false)
 | [], _ => rfl
 | c :: s, h => by simp [cutAt, h c (by simp), cutAt_no (s := s) fun x hx => h x (by simp [hx])]
theorem cutAt_at : ∀ {a : List UInt8} {c : UInt8} {b : List UInt8}, (∀ c ∈ a, c.toNat ≠ 46) → c.toNat = 46 → cutAt (a ++ c :: b) = (a, b, true)
 | [], c, b, _, hc => by simp [cutAt, hc]
 | x :: a, c, b, h, hc => by simp [cutAt, h x (by simp), cutAt_at (a := a) (fun x hx => h x (by simp [hx])) hc]
def alnum (n : Int) : Bool := !(!isSmall n && !isCapital n && !isDigit n)
variable {E : AEnv} (Z : Sys E)
include Z
theorem names_small_ev (n : Int) : E.C names_small [.one (.int .u8 n)] (.one (.bool (isSmall n))) := by
 refine Z.names_small _ _ ⟨Nat.le_of_ble_eq_true rfl, ?_⟩
 simp only [fn_names_small, go_sem, isSmall]
theorem names_capital_ev (n : Int) : E.C names_capital [.one (.int .u8 n)] (.one (.bool (isCapital n))) := by
 refine Z.names_capital _ _ ⟨Nat.le_of_ble_eq_true rfl, ?_⟩
 simp only [fn_names_capital, go_sem, isCapital]
theorem names_digit_ev (n : Int) : E.C names_digit [.one (.int .u8 n)] (.one (.bool (isDigit n))) := by
 refine Z.names_digit _ _ ⟨Nat.le_of_ble_eq_true rfl, ?_⟩
 simp only [fn_names_digit, go_sem, isDigit]
theorem names_sized_ev (s : List UInt8) : E.C names_sized [.one (.str s)] (.one (.bool (isSized s))) := by
 refine Z.names_sized _ _ ⟨Nat.le_of_ble_eq_true rfl, ?_⟩
 simp only [fn_names_sized, go_sem, isSized]
theorem names_cut_ev (s : List UInt8) : E.C names_cut [.one (.str s)] (.tup [.one (.str (cutAt s).1), .one (.str (cutAt s).2.1), .one (.bool (cutAt s).2.2)]) := by
 refine Z.names_cut _ _ ⟨Nat.le_of_ble_eq_true rfl, ?_⟩
 simp only [fn_names_cut, go_sem]
 refine loop_list s (fun done => ∀ c ∈ done, c.toNat ≠ 46) (fun done rest => ⟨[(0, .d (.str s)), (5, .d (.int .i64 done.length))], [], []⟩) ?_ (by simp) ?_ ?_
 ·exact Ent_plain (by simp only [go_sem, Int.natCast_zero])
 ·intro done c r hl hI
  have hlt := lt_mid hl
  have hx : s.getD done.length 0 = c := getD_mid0 _ _ _ _ hl
  simp only [fn_names_cut_L1, go_sem, hlt, hx]
  intro hlen
  have hw : IntKind.i64.wrap ((done.length : Int) + 1) = ((done.length + 1 : Nat) : Int) := wrap_succ (by omega)
  by_cases hc : c.toNat = 46
  ·have h1 : (((c.toNat : Nat) : Int) == 46) = true := by simp [hc]
   simp only [go_sem, h1, hw]
   rw [hl, cutAt_at hI hc]
   simp
   omega
  ·have h1 : (((c.toNat : Nat) : Int) == 46) = false := by simp; omega
   simp only [go_sem, h1, hw, List.length_append]
   refine ⟨Ent_plain (by simp only [go_sem]), ?_⟩
   intro x hx
   rcases List.mem_append.1 hx with hx | hx
   ·exact hI x hx
   ·simp at hx; subst hx; exact hc
 ·intro hI
  simp only [fn_names_cut_L1, go_sem, cutAt_no hI]
theorem names_alphanumeric_ev (s : List UInt8) : E.C names_alphanumeric [.one (.str s)] (.one (.bool (s.all fun c => alnum c.toNat))) := by
 refine Z.names_alphanumeric _ _ ⟨Nat.le_of_ble_eq_true rfl, ?_⟩
 simp only [fn_names_alphanumeric, go_sem]
 refine loop_list s (fun done => done.all (fun c => alnum c.toNat) = true) (fun done rest => ⟨[(0, .d (.str s)), (3, .d (.int .i64 done.length))], [], []⟩) ?_ (by simp) ?_ ?_
 ·exact Ent_plain (by simp only [go_sem, Int.natCast_zero])
 ·intro done c r hl hI
  have hlt := lt_mid hl
  have hx : s.getD done.length 0 = c := getD_mid0 _ _ _ _ hl
  simp only [fn_names_alphanumeric_L1, go_sem, hlt, hx]
  intro hlen
  have hw : IntKind.i64.wrap ((done.length : Int) + 1) = ((done.length + 1 : Nat) : Int) := wrap_succ (by omega)
  refine call_by (names_small_ev Z _) ?_
  simp only [go_sem, hw, hlt, hx]
  refine call_by_g (names_capital_ev Z _) ?_
  simp only [go_sem, hw, hlt, hx]
  refine call_by_g (names_digit_ev Z _) ?_
  simp only [go_sem, hw, hlt, hx]
  cases h1 : (!isSmall c.toNat && !isCapital c.toNat && !isDigit c.toNat) with
  | false =>
   have hc : alnum c.toNat = true := by rw [alnum, h1]; rfl
   simp only [go_sem, h1, hw, List.length_append, List.all_append, List.all_cons, List.all_nil, hI, hc]
   exact Ent_plain (by simp only [go_sem])
  | true =>
   have hc : alnum c.toNat = false := by rw [alnum, h1]; rfl
   simp only [go_sem, h1, hl, List.all_append, List.all_cons, hc, Bool.false_and, Bool.and_false]
 ·intro hI
  simp only [fn_names_alphanumeric_L1, go_sem, hI]
end Go.Abs
end
section
namespace Go.Abs
def scan (bad : Nat → Int → Bool) : Nat → List UInt8 → Bool
 | _, [] => true
 | i, c :: s => !bad i c.toNat && scan bad (i + 1) s
theorem scan_app (bad : Nat → Int → Bool) : ∀ (a : List UInt8) (i : Nat) (b : List UInt8), scan bad i (a ++ b) = (scan bad i a && scan bad (i + a.length) b)
 | [], i, b => by simp [scan]
 | c :: a, i, b => by simp only [List.cons_append, scan, scan_app bad a, List.length_cons, Bool.and_assoc]; congr 3; omega
def badWord (i : Nat) (n : Int) : Bool := !isSmall n && ((i : Int) == 0 || (!isDigit n && n != 95))
def badName (_ : Nat) (n : Int) : Bool := !isSmall n && !isDigit n && n != 95
def kws : List (List UInt8) := [[97, 110, 100], [97, 115, 115, 117, 109, 101], [98, 111, 111, 108], [98, 111, 117, 110, 100], [99, 97, 115, 101], [99, 101, 108, 108], [99, 108, 97, 115, 115], [100, 97, 116, 97], [100, 101, 102], [100, 105, 118], [101, 108, 115, 101], [101, 110, 100], [102, 97, 108, 115, 101], [102, 111, 114, 97, 108, 108], [102, 117, 110], [103, 101, 116], [105, 102], [105, 110], [105, 110, 115, 116], [105, 110, 116], [105, 110, 118, 97, 114, 105, 97, 110, 116], [108, 101, 116], [109, 97, 116, 99, 104], [109, 101, 97, 115, 117, 114, 101], [109, 101, 116, 114, 105, 99], [109, 111, 100], [109, 117], [110, 101, 119], [110, 111, 116], [111, 102], [111, 114], [113, 117, 97, 108], [114, 101, 102, 108, 101, 99, 116], [115, 101, 116], [116, 104, 101, 110], [116, 114, 117, 101], [117, 115, 101], [118], [118, 97, 108], [116, 97, 103], [119, 104, 101, 114, 101], [119, 105, 116, 104]]
def isName (s : List UInt8) : Bool := isSized s && isSmall (s.getD 0 0).toNat && !kws.contains s && scan badName 1 (s.drop 1)
def isTitle (s : List UInt8) : Bool := isSized s && isCapital (s.getD 0 0).toNat && (s.all fun c => alnum c.toNat) && (s != [73, 110, 116] && s != [66, 111, 111, 108] && s != [67, 101, 108, 108] && s != [70, 117, 110])
variable {E : AEnv} (Z : Sys E)
include Z
theorem names_word_ev (s : List UInt8) : E.C names_word [.one (.str s)] (.one (.bool (scan badWord 0 s))) := by
 refine Z.names_word _ _ ⟨Nat.le_of_ble_eq_true rfl, ?_⟩
 simp only [fn_names_word, go_sem]
 refine loop_list s (fun done => scan badWord 0 done = true) (fun done rest => ⟨[(0, .d (.str s)), (3, .d (.int .i64 done.length))], [], []⟩) ?_ rfl ?_ ?_
 ·exact Ent_plain (by simp only [go_sem, Int.natCast_zero])
 ·intro done c r hl hI
  have hlt := lt_mid hl
  have hx : s.getD done.length 0 = c := getD_mid0 _ _ _ _ hl
  simp only [fn_names_word_L1, go_sem, hlt, hx]
  intro hlen
  have hw : IntKind.i64.wrap ((done.length : Int) + 1) = ((done.length + 1 : Nat) : Int) := wrap_succ (by omega)
  refine call_by (names_small_ev Z _) ?_
  simp only [go_sem, hw, hlt, hx]
  refine call_by_g (names_digit_ev Z _) ?_
  simp only [go_sem, hw, hlt, hx]
  cases h1 : badWord done.length c.toNat with
  | false =>
   have h2 := h1
   rw [badWord] at h2
   simp only [go_sem, h2, hw, List.length_append, scan_app, scan, hI, h1, Nat.zero_add, Bool.not_false]
   refine ⟨?_, ?_, Ent_plain (by simp only [go_sem])⟩ <;> (cases isSmall (c.toNat : Int) <;> cases isDigit (c.toNat : Int) <;> cases ((done.length : Int) == 0) <;> simp)
  | true =>
   have h2 := h1
   rw [badWord] at h2
   simp only [go_sem, h2, hl, scan_app, scan, h1, Nat.zero_add, Bool.not_true, Bool.false_and, Bool.and_false]
   refine ⟨?_, ?_⟩ <;> (cases isSmall (c.toNat : Int) <;> cases isDigit (c.toNat : Int) <;> cases ((done.length : Int) == 0) <;> simp)
 ·intro hI
  simp only [fn_names_word_L1, go_sem, hI]
theorem names_Keyword_ev (hG : E.G 0 = some (kws.map .str)) (s : List UInt8) : E.C names_Keyword [.one (.str s)] (.one (.bool (kws.contains s))) := by
 refine Z.names_Keyword _ _ ⟨Nat.le_of_ble_eq_true rfl, ?_⟩
 have h1 : (kws.map D.str).take 42 = kws.map D.str := rfl
 have h2 : 42 ≤ kws.length := Nat.le_of_ble_eq_true rfl
 simp only [fn_names_Keyword, go_sem, hG, h1]
 refine ⟨h2, ?_⟩
 refine loop_list kws (fun done => done.contains s = false) (fun done rest => ⟨[(0, .d (.str s)), (6, .d (.int .i64 done.length)), (5, .agg ((kws.map .str).map .d))], [], []⟩) ?_ rfl ?_ ?_
 ·exact Ent_plain (by simp only [go_sem, Int.natCast_zero])
 ·intro done c r hl hI
  have hlt : (done.length : Int) < 42 := lt_mid hl
  have hx : ((kws.map D.str).map AV.d).getD done.length .undef = .d (.str c) := by rw [hl]; simp
  have hlt2 : (done.length : Int) < kws.length := lt_mid hl
  have hw : IntKind.i64.wrap ((done.length : Int) + 1) = ((done.length + 1 : Nat) : Int) := wrap_succ (by omega)
  simp only [fn_names_Keyword_L1, go_sem, hlt, hx, hlt2, hw]
  cases h1 : (c == s) with
  | false =>
   simp only [go_sem, h1, hw, List.length_append]
   refine ⟨hlt, Ent_plain (by simp only [go_sem]), ?_⟩
   have h1 : (s == c) = false := by rw [← h1]; exact BEq.comm
   simp only [List.contains_eq_any_beq, List.any_append, List.any_cons, List.any_nil, Bool.or_false] at hI ⊢
   rw [hI, h1]; rfl
  | true =>
   simp only [go_sem, h1]
   refine ⟨hlt, ?_⟩
   have h1 : c = s := by simpa using h1
   subst h1
   rw [hl]
   simp
 ·intro hI
  have hlt : (decide ((kws.length : Int) < 42)) = false := rfl
  simp only [fn_names_Keyword_L1, go_sem, hI, hlt]
end Go.Abs
end
section
namespace Go.Abs
theorem isSized_pos {s : List UInt8} (h : isSized s = true) : 0 < s.length := by
 simp only [isSized, Bool.and_eq_true, decide_eq_true_eq] at h; omega
variable {E : AEnv} (Z : Sys E)
include Z
theorem names_name_ev (hG : E.G 0 = some (kws.map .str)) (s : List UInt8) : E.C names_name [.one (.str s)] (.one (.bool (isName s))) := by
 refine Z.names_name _ _ ⟨Nat.le_of_ble_eq_true rfl, ?_⟩
 simp only [fn_names_name, go_sem]
 refine call_by (names_sized_ev Z s) ?_
 cases h0 : isSized s with
 | false =>
  have hr : isName s = false := by simp [isName, h0]
  simp only [go_sem, hr]
  refine ⟨.one (.bool false), ?_⟩
  simp only [go_sem, hr]
  refine ⟨.one (.bool false), ?_⟩
  simp only [go_sem, hr]
 | true =>
  have hpos := isSized_pos h0
  have hpos' : ((0 : Int) < s.length) = True := eq_true (by omega)
  simp only [go_sem, hpos', Bool.not_true, Int.toNat_zero]
  refine call_by (names_small_ev Z _) ?_
  cases h1 : isSmall (s.getD 0 0).toNat with
  | false =>
   have hr : isName s = false := by simp only [isName, h0, h1]; rfl
   simp only [go_sem, hr, Bool.not_false, Bool.not_true]
   refine ⟨.one (.bool false), ?_⟩
   simp only [go_sem, hr, Bool.not_false, Bool.not_true, Bool.or_true, Bool.or_false, Bool.or_self]
  | true =>
   simp only [go_sem, Bool.not_false, Bool.not_true, Bool.or_self]
   refine call_by (names_Keyword_ev Z hG s) ?_
   cases h2 : kws.contains s with
   | true =>
    have hr : isName s = false := by simp only [isName, h0, h1, h2]; rfl
    simp only [go_sem, hr, Bool.not_false, Bool.not_true, Bool.or_true, Bool.or_false, Bool.or_self, Bool.false_or]
   | false =>
    have hr : isName s = scan badName 1 (s.drop 1) := by simp only [isName, h0, h1, h2]; rfl
    obtain ⟨c0, t, rfl⟩ : ∃ c0 t, s = c0 :: t := by cases s with | nil => simp at hpos | cons c t => exact ⟨c, t, rfl⟩
    simp only [go_sem, hr, Bool.not_false, Bool.not_true, Bool.or_true, Bool.or_false, Bool.or_self]
    refine loop_list t (fun done => scan badName 1 done = true) (fun done rest => ⟨[(0, .d (.str (c0 :: t))), (3, .d (.int .i64 (1 + done.length : Nat)))], [], []⟩) ?_ rfl ?_ ?_
    ·exact Ent_plain (by simp only [go_sem, Nat.add_zero]; trivial)
    ·intro done c r hl hI
     have hlt : (((1 + done.length : Nat) : Int) < ((t.length + 1 : Nat) : Int)) = True := eq_true (by rw [hl]; simp; omega)
     have hx : (c0 :: t).getD (1 + done.length) 0 = c := by rw [hl, Nat.add_comm]; simp
     simp only [fn_names_name_L1, go_sem, hlt, hx]
     intro hlen
     have hw : IntKind.i64.wrap (((1 + done.length : Nat) : Int) + 1) = ((1 + done.length + 1 : Nat) : Int) := wrap_succ (by simp only [eq_iff_iff, iff_true] at hlt; omega)
     refine call_by (names_small_ev Z _) ?_
     simp only [go_sem, hw, hlt, hx]
     refine call_by_g (names_digit_ev Z _) ?_
     simp only [go_sem, hw, hlt, hx]
     cases h1 : badName (1 + done.length) c.toNat with
     | false =>
      have h2 := h1
      rw [badName] at h2
      simp only [go_sem, h2, hw, List.length_append, scan_app, scan, hI, h1, Bool.not_false]
      exact Ent_plain (by simp only [go_sem, Nat.add_assoc])
     | true =>
      have h2 := h1
      rw [badName] at h2
      simp only [go_sem, h2, hl, scan_app, scan, h1, Bool.not_true, Bool.false_and, Bool.and_false]
    ·intro hI
     have hge : decide (((1 + t.length : Nat) : Int) < ((t.length + 1 : Nat) : Int)) = false := by rw [Nat.add_comm]; simp
     simp only [fn_names_name_L1, go_sem, hge, List.drop_succ_cons, hI]
theorem names_title_ev (s : List UInt8) : E.C names_title [.one (.str s)] (.one (.bool (isTitle s))) := by
 refine Z.names_title _ _ ⟨Nat.le_of_ble_eq_true rfl, ?_⟩
 simp only [fn_names_title, go_sem]
 refine call_by (names_sized_ev Z s) ?_
 cases h0 : isSized s with
 | false =>
  have hr : isTitle s = false := by simp [isTitle, h0]
  simp only [go_sem, hr]
  refine ⟨.one (.bool false), ?_⟩
  simp only [go_sem, hr]
  refine ⟨.one (.bool false), ?_⟩
  simp only [go_sem, hr]
 | true =>
  have hpos := isSized_pos h0
  have hpos' : ((0 : Int) < s.length) = True := eq_true (by omega)
  simp only [go_sem, hpos', Int.toNat_zero]
  refine call_by (names_capital_ev Z _) ?_
  cases h1 : isCapital (s.getD 0 0).toNat with
  | false =>
   have hr : isTitle s = false := by simp only [isTitle, h0, h1]; rfl
   simp only [go_sem, hr]
   refine ⟨.one (.bool false), ?_⟩
   simp only [go_sem, hr]
  | true =>
   simp only [go_sem]
   refine call_by (names_alphanumeric_ev Z s) ?_
   cases h2 : (s.all fun c => alnum c.toNat) with
   | false =>
    have hr : isTitle s = false := by simp only [isTitle, h0, h1, h2]; rfl
    simp only [go_sem, hr]
   | true =>
    simp only [go_sem, isTitle, h0, h1, h2, bne]
end Go.Abs
end
section
namespace Go.Abs
def okPart (s : List UInt8) : Bool := !(!isSized s || (!(s.all fun c => alnum c.toNat) && !scan badWord 0 s))
theorem cutAt_len : ∀ (s : List UInt8), (cutAt s).2.2 = true → (cutAt s).2.1.length < s.length
 | [], h => by simp [cutAt] at h
 | c :: s, h => by
  simp only [cutAt] at h ⊢
  split
  ·simp
  ·rename_i hc
   rw [if_neg hc] at h
   have := cutAt_len s h
   simp only [List.length_cons]; omega
def parts (s : List UInt8) : Bool := if h : (cutAt s).2.2 = true then okPart (cutAt s).1 && parts (cutAt s).2.1 else okPart (cutAt s).1
termination_by s.length
decreasing_by exact cutAt_len s h
def isCore (s : List UInt8) : Bool :=
 !decide ((s.length : Int) > 120) && (!(!isName (cutAt s).1 && !isTitle (cutAt s).1 && ((cutAt s).1 != [118] || !(cutAt s).2.2))) && (if (cutAt s).2.2 then parts (cutAt s).2.1 else true)
variable {E : AEnv} (Z : Sys E)
include Z
theorem names_Core_ev (hG : E.G 0 = some (kws.map .str)) (s : List UInt8) : E.C names_Core [.one (.str s)] (.one (.int .i64 (if isCore s then 0 else 3))) := by
 refine Z.names_Core _ _ ⟨Nat.le_of_ble_eq_true rfl, ?_⟩
 simp only [fn_names_Core, go_sem]
 intro hlen
 cases h0 : decide ((s.length : Int) > 120) with
 | true => simp only [go_sem, isCore, h0]
 | false =>
  simp only [go_sem, isCore, h0]
  refine call_by (names_cut_ev Z s) ?_
  have hdec := cutAt_len s
  revert hdec
  generalize cutAt s = cc
  obtain ⟨a, b, m⟩ := cc
  intro hdec
  simp only [go_sem]
  refine call_by (names_name_ev Z hG a) ?_
  simp only [go_sem]
  refine call_by_g (names_title_ev Z a) ?_
  simp only [go_sem]
  have ob : ∀ (p q x y : Bool), ((p && q) = true → (p = true ∧ (!x && y) = true) → (p && q) = true) := by simp
  cases h1 : (!isName a && !isTitle a && (a != [118] || !m)) with
  | true =>
   rw [bne] at h1
   simp only [go_sem, h1]
   cases isName a <;> cases isTitle a <;> cases (a == [118]) <;> simp
  | false =>
   rw [bne] at h1
   simp only [go_sem, h1]
   refine ⟨?_, ?_⟩
   ·cases isName a <;> cases isTitle a <;> cases (a == [118]) <;> simp
   generalize hR : (if m = true then parts b else true) = R
   refine loop_meas (fun x : List UInt8 × Bool => ⟨[(4, .d (.str x.1)), (5, .d (.bool x.2))], [], []⟩) (fun x => R = (if x.2 = true then parts x.1 else true)) (fun x => if x.2 = true then x.1.length + 1 else 0) (b, m) ?_ hR.symm ?_
   ·exact Ent_plain (by simp only [go_sem])
   ·rintro ⟨b', m'⟩ hI
    cases m' with
    | false =>
     simp only [fn_names_Core_L1, go_sem]
     simp only [Bool.false_eq_true, if_false] at hI
     simp only [hI, if_true]
    | true =>
     simp only [if_true] at hI
     rw [parts] at hI
     simp only [fn_names_Core_L1, go_sem]
     refine call_by (names_cut_ev Z b') ?_
     have hdec := cutAt_len b'
     revert hdec hI
     generalize cutAt b' = cc
     obtain ⟨a1, b1, m1⟩ := cc
     intro hI hdec
     simp only at hI hdec
     simp only [go_sem]
     refine call_by (names_sized_ev Z a1) ?_
     simp only [go_sem]
     refine call_by_g (names_alphanumeric_ev Z a1) ?_
     simp only [go_sem]
     refine call_by_g (names_word_ev Z a1) ?_
     simp only [go_sem]
     cases h1 : (!isSized a1 || (!(a1.all fun c => alnum c.toNat) && !scan badWord 0 a1)) with
     | true =>
      have h2 : okPart a1 = false := by rw [okPart, h1]; rfl
      have h3 : R = false := by rw [hI, h2]; simp
      simp only [go_sem, h1, h3]
      cases isSized a1 <;> cases (a1.all fun c => alnum c.toNat) <;> simp
     | false =>
      have h2 : okPart a1 = true := by rw [okPart, h1]; rfl
      simp only [go_sem, h1]
      refine ⟨?_, ?_, (b1, m1), Ent_plain (by simp only [go_sem]), ?_, ?_⟩
      ·cases isSized a1 <;> cases (a1.all fun c => alnum c.toNat) <;> simp
      ·cases isSized a1 <;> cases (a1.all fun c => alnum c.toNat) <;> simp
      ·rw [hI, h2]; cases m1 <;> simp
      ·cases m1 with
       | false => simp
       | true => have := hdec rfl; simp; omega
end Go.Abs
end
section
namespace Go.Abs
def findIx (s : List UInt8) : Nat → List (List UInt8) → Int
 | _, [] => -1
 | i, x :: l => if x = s then i else findIx s (i + 1) l
theorem findIx_none (s : List UInt8) : ∀ (l : List (List UInt8)) (i : Nat), s ∉ l → findIx s i l = -1
 | [], _, _ => rfl
 | x :: l, i, h => by
  simp only [List.mem_cons, not_or] at h
  rw [findIx, if_neg (fun e => h.1 e.symm), findIx_none s l (i + 1) h.2]
theorem findIx_app (s : List UInt8) : ∀ (a : List (List UInt8)) (i : Nat) (b : List (List UInt8)), s ∉ a → findIx s i (a ++ b) = findIx s (i + a.length) b
 | [], i, b, _ => by simp
 | x :: a, i, b, h => by
  simp only [List.mem_cons, not_or] at h
  rw [List.cons_append, findIx, if_neg (fun e => h.1 e.symm), findIx_app s a (i + 1) b h.2, List.length_cons]
  congr 1; omega
theorem findIx_mem (s : List UInt8) : ∀ (l : List (List UInt8)) (i : Nat), decide (findIx s i l ≥ 0) = l.contains s
 | [], i => by simp [findIx]
 | x :: l, i => by
  rw [findIx]
  by_cases h : x = s
  ·subst h; simp
  ·have h' : (s == x) = false := by simpa using fun e => h e.symm
   rw [if_neg h, findIx_mem s l (i + 1), List.contains_cons, h', Bool.false_or]
def isOpNamed (n : Int) : Bool := n == 3 || n == 4 || n == 5
def inRange (n : Int) : Bool := decide (n ≥ -1000000000000) && decide (n ≤ 1000000000000)
variable {E : AEnv} (Z : Sys E)
include Z
theorem r04_small_ev (n : Int) : E.C r04_small [.one (.int .u8 n)] (.one (.bool (isSmall n))) := by
 refine Z.r04_small _ _ ⟨Nat.le_of_ble_eq_true rfl, ?_⟩
 simp only [fn_r04_small, go_sem, isSmall, ge_iff_le]
theorem r04_capital_ev (n : Int) : E.C r04_capital [.one (.int .u8 n)] (.one (.bool (isCapital n))) := by
 refine Z.r04_capital _ _ ⟨Nat.le_of_ble_eq_true rfl, ?_⟩
 simp only [fn_r04_capital, go_sem, isCapital, ge_iff_le]
theorem r04_digit_ev (n : Int) : E.C r04_digit [.one (.int .u8 n)] (.one (.bool (isDigit n))) := by
 refine Z.r04_digit _ _ ⟨Nat.le_of_ble_eq_true rfl, ?_⟩
 simp only [fn_r04_digit, go_sem, isDigit, ge_iff_le]
theorem num_In_ev (n : Int) : E.C num_In [.one (.int .i64 n)] (.one (.bool (inRange n))) := by
 refine Z.num_In _ _ ⟨Nat.le_of_ble_eq_true rfl, ?_⟩
 simp only [fn_num_In, go_sem, inRange]
theorem r01_In_ev (n : Int) : E.C r01_In [.one (.int .i64 n)] (.one (.bool (inRange n))) := by
 refine Z.r01_In _ _ ⟨Nat.le_of_ble_eq_true rfl, ?_⟩
 simp only [fn_r01_In, go_sem, inRange]
theorem pred_named_ev (n : Int) : E.C pred_named [.one (.int .i64 n)] (.one (.bool (isOpNamed n))) := by
 refine Z.pred_named _ _ ⟨Nat.le_of_ble_eq_true rfl, ?_⟩
 simp only [fn_pred_named, go_sem, isOpNamed]
 cases (n == 3) <;> cases (n == 4) <;> simp
theorem r07_named_ev (n : Int) : E.C r07_named [.one (.int .i64 n)] (.one (.bool (isOpNamed n))) := by
 refine Z.r07_named _ _ ⟨Nat.le_of_ble_eq_true rfl, ?_⟩
 simp only [fn_r07_named, go_sem, isOpNamed]
 cases (n == 3) <;> cases (n == 4) <;> simp
theorem r04_Find_ev (l : List (List UInt8)) (s : List UInt8) : E.C r04_Find [.one (.lst (l.map fun k => [.str k])), .one (.str s)] (.one (.int .i64 (findIx s 0 l))) := by
 refine Z.r04_Find _ _ ⟨Nat.le_of_ble_eq_true rfl, ?_⟩
 simp only [fn_r04_Find, go_sem]
 intro hlen
 refine loop_list l (fun done => s ∉ done) (fun done rest => ⟨[(8, .d (.int .i64 done.length)), (7, .d (.int .i64 l.length)), (0, .d (.lst (l.map fun k => [.str k]))), (1, .d (.str s))], [], []⟩) ?_ (by simp) ?_ ?_
 ·exact Ent_plain (by simp only [go_sem, Int.natCast_zero])
 ·intro done k r hl hI
  have hlt := lt_mid hl
  have hw : IntKind.i64.wrap ((done.length : Int) + 1) = ((done.length + 1 : Nat) : Int) := wrap_succ (by omega)
  have hx : (l.map fun k => [D.str k]).getD done.length [] = [.str k] := by rw [hl]; exact getD_mid _ _ _ _ _
  have hls : (∀ e ∈ l.map fun k => [D.str k], e.length = 1) = True := eq_true (by simp)
  simp only [fn_r04_Find_L1, go_sem, hlt, hx, hls]
  cases h1 : (k == s) with
  | true =>
   simp only [go_sem]
   have h1 : k = s := by simpa using h1
   rw [hl, findIx_app s done 0 _ hI, findIx, if_pos h1, Nat.zero_add]
  | false =>
   simp only [go_sem, hw, List.length_append]
   refine ⟨Ent_plain (by simp only [go_sem]), ?_⟩
   have h1 : k ≠ s := by simpa using h1
   simp only [List.mem_append, List.mem_singleton, not_or]
   exact ⟨hI, fun e => h1 e.symm⟩
 ·intro hI
  simp only [fn_r04_Find_L1, go_sem, findIx_none s l 0 hI]
theorem r04_keywords_ev : E.C r04_keywords [] (.one (.lst (kws.map fun k => [.str k]))) := by
 refine Z.r04_keywords _ _ ⟨Nat.le_of_ble_eq_true rfl, ?_⟩
 simp only [fn_r04_keywords, go_sem, kws]
theorem r04_Keyword_ev (s : List UInt8) : E.C r04_Keyword [.one (.str s)] (.one (.bool (kws.contains s))) := by
 refine Z.r04_Keyword _ _ ⟨Nat.le_of_ble_eq_true rfl, ?_⟩
 simp only [fn_r04_Keyword, go_sem]
 refine call_by (r04_keywords_ev Z) ?_
 simp only [go_sem]
 refine call_by (r04_Find_ev Z kws s) ?_
 simp only [go_sem, findIx_mem]
end Go.Abs
end
section
namespace Go.Abs
namespace Pred
mutual
def depth : Pred → Int
 | .mk _ _ _ ks => IntKind.i64.wrap (depths 0 ks + 1)
def depths (a : Int) : List Pred → Int
 | [] => a
 | k :: ks => depths (if depth k > a then depth k else a) ks
end
theorem depths_eq (a : Int) (ks : List Pred) : depths a ks = ks.foldl (fun a k => if depth k > a then depth k else a) a := by
 induction ks generalizing a with
 | nil => simp [depths]
 | cons k ks ih => simp [depths, ih]
theorem depth_eq (p : Pred) : depth p = IntKind.i64.wrap (p.kids.foldl (fun a k => if depth k > a then depth k else a) 0 + 1) := by cases p; simp [depth, kids, depths_eq]
end Pred
def kidsOf (n : Int) : Int × Int := if n == 1 || n == 2 || n == 3 then (0, 0) else if n == 4 || n == 5 then (1, 24) else if n == 9 || n == 14 then (1, 1) else (2, 2)
def kidsOk (n m : Int) : Bool := if n == 1 || n == 2 || n == 3 then m == 0 else if n == 4 || n == 5 then decide (m ≥ 1) && decide (m ≤ 24) else if n == 9 || n == 14 then m == 1 else m == 2
variable {E : AEnv} (Z : Sys E)
include Z
theorem pred_kids_ev (n : Int) : E.C pred_kids [.one (.int .i64 n)] (.tup [.one (.int .i64 (kidsOf n).1), .one (.int .i64 (kidsOf n).2)]) := by
 refine Z.pred_kids _ _ ⟨Nat.le_of_ble_eq_true rfl, ?_⟩
 cases h1 : (n == 1) <;> cases h2 : (n == 2) <;> cases h3 : (n == 3) <;> cases h4 : (n == 4) <;> cases h5 : (n == 5) <;> cases h9 : (n == 9) <;> cases h14 : (n == 14) <;>
  first
  | (exfalso; simp at *; omega)
  | simp only [fn_pred_kids, go_sem, kidsOf, h1, h2, h3, h4, h5, h9, h14]
theorem r07_kids_ev (n m : Int) : E.C r07_kids [.one (.int .i64 n), .one (.int .i64 m)] (.one (.bool (kidsOk n m))) := by
 refine Z.r07_kids _ _ ⟨Nat.le_of_ble_eq_true rfl, ?_⟩
 cases h1 : (n == 1) <;> cases h2 : (n == 2) <;> cases h3 : (n == 3) <;> cases h4 : (n == 4) <;> cases h5 : (n == 5) <;> cases h9 : (n == 9) <;> cases h14 : (n == 14) <;>
  first
  | (exfalso; simp at *; omega)
  | simp only [fn_r07_kids, go_sem, kidsOk, h1, h2, h3, h4, h5, h9, h14]
theorem pred_Depth_ev (p : Pred) : E.C pred_Depth [.agg (Pred.cells p)] (.one (.int .i64 p.depth)) := by
 induction p using Pred.ind with
 | h o s n ks ih =>
 refine Z.pred_Depth _ _ ⟨Nat.le_of_ble_eq_true rfl, ?_⟩
 rw [Pred.cells_eq, Pred.depth_eq]
 simp only [fn_pred_Depth, go_sem, Pred.kids]
 intro hlen
 refine loop_list ks (fun _ => True) (fun done rest => ⟨[(9, .d (.int .i64 done.length)), (8, .d (.int .i64 (ks.map Pred.cells).length)), (7, .d (.lst (ks.map Pred.cells))), (3, .d (.int .i64 (done.foldl (fun a k => if Pred.depth k > a then Pred.depth k else a) 0)))], [], []⟩) ?_ trivial ?_ ?_
 ·exact Ent_plain (by simp only [go_sem, Int.natCast_zero, List.foldl_nil])
 ·intro done k r hl _
  have hk' := ih k (by rw [hl]; simp)
  have hlt := lt_mid hl
  have hw : IntKind.i64.wrap ((done.length : Int) + 1) = ((done.length + 1 : Nat) : Int) := wrap_succ (by omega)
  have hx : (ks.map Pred.cells).getD done.length [] = Pred.cells k := by rw [hl]; exact getD_mid _ _ _ _ _
  simp only [fn_pred_Depth_L1, go_sem, hlt, hx]
  refine call_by hk' ?_
  simp only [go_sem, hw, List.length_append, List.foldl_append, List.foldl_cons, List.foldl_nil]
  exact Ent_plain (by simp only [go_sem])
 ·simp only [fn_pred_Depth_L1, go_sem, forall_const]
theorem r07_Depth_ev (p : Pred) : E.C r07_Depth [.agg (Pred.cells p)] (.one (.int .i64 p.depth)) := by
 induction p using Pred.ind with
 | h o s n ks ih =>
 refine Z.r07_Depth _ _ ⟨Nat.le_of_ble_eq_true rfl, ?_⟩
 rw [Pred.cells_eq, Pred.depth_eq]
 simp only [fn_r07_Depth, go_sem, Pred.kids]
 intro hlen
 refine loop_list ks (fun _ => True) (fun done rest => ⟨[(9, .d (.int .i64 done.length)), (8, .d (.int .i64 (ks.map Pred.cells).length)), (7, .d (.lst (ks.map Pred.cells))), (3, .d (.int .i64 (done.foldl (fun a k => if Pred.depth k > a then Pred.depth k else a) 0)))], [], []⟩) ?_ trivial ?_ ?_
 ·exact Ent_plain (by simp only [go_sem, Int.natCast_zero, List.foldl_nil])
 ·intro done k r hl _
  have hk' := ih k (by rw [hl]; simp)
  have hlt := lt_mid hl
  have hw : IntKind.i64.wrap ((done.length : Int) + 1) = ((done.length + 1 : Nat) : Int) := wrap_succ (by omega)
  have hx : (ks.map Pred.cells).getD done.length [] = Pred.cells k := by rw [hl]; exact getD_mid _ _ _ _ _
  simp only [fn_r07_Depth_L1, go_sem, hlt, hx]
  refine call_by hk' ?_
  simp only [go_sem, hw, List.length_append, List.foldl_append, List.foldl_cons, List.foldl_nil]
  exact Ent_plain (by simp only [go_sem])
 ·simp only [fn_r07_Depth_L1, go_sem, forall_const]
theorem r07_Nodes_ev (p : Pred) : E.C r07_Nodes [.agg (Pred.cells p)] (.one (.int .i64 p.nodes)) := by
 induction p using Pred.ind with
 | h o s n ks ih =>
 refine Z.r07_Nodes _ _ ⟨Nat.le_of_ble_eq_true rfl, ?_⟩
 rw [Pred.cells_eq, Pred.nodes_eq]
 simp only [fn_r07_Nodes, go_sem, Pred.kids]
 intro hlen
 refine loop_list ks (fun _ => True) (fun done rest => ⟨[(9, .d (.int .i64 done.length)), (8, .d (.int .i64 (ks.map Pred.cells).length)), (7, .d (.lst (ks.map Pred.cells))), (3, .d (.int .i64 (done.foldl (fun a k => IntKind.i64.wrap (a + Pred.nodes k)) 1)))], [], []⟩) ?_ trivial ?_ ?_
 ·exact Ent_plain (by simp only [go_sem, Int.natCast_zero, List.foldl_nil])
 ·intro done k r hl _
  have hk' := ih k (by rw [hl]; simp)
  have hlt := lt_mid hl
  have hw : IntKind.i64.wrap ((done.length : Int) + 1) = ((done.length + 1 : Nat) : Int) := wrap_succ (by omega)
  have hx : (ks.map Pred.cells).getD done.length [] = Pred.cells k := by rw [hl]; exact getD_mid _ _ _ _ _
  simp only [fn_r07_Nodes_L1, go_sem, hlt, hx]
  refine call_by hk' ?_
  simp only [go_sem, hw, List.length_append, List.foldl_append, List.foldl_cons, List.foldl_nil]
  exact Ent_plain (by simp only [go_sem])
 ·simp only [fn_r07_Nodes_L1, go_sem, forall_const]
end Go.Abs
end
section
namespace Go.Abs
variable {E : AEnv} (Z : Sys E)
include Z
theorem r04_Check_ev (s : List UInt8) : E.C r04_Check [.one (.str s)] (.one (.int .i64 (if isName s then 0 else 3))) := by
 refine Z.r04_Check _ _ ⟨Nat.le_of_ble_eq_true rfl, ?_⟩
 simp only [fn_r04_Check, go_sem]
 intro hlen
 cases h0 : decide ((s.length : Int) < 1) with
 | true =>
  have hz : isSized s = false := by simp only [isSized, Bool.and_eq_false_iff, decide_eq_false_iff_not]; left; simp only [decide_eq_true_eq] at h0; omega
  have hr : isName s = false := by simp only [isName, hz]; rfl
  simp only [go_sem, hr]
  refine ⟨.one (.bool false), ?_⟩
  simp only [go_sem, hr]
  refine ⟨.one (.bool false), ?_⟩
  simp only [go_sem, hr]
 | false =>
  simp only [decide_eq_false_iff_not] at h0
  have hpos' : ((0 : Int) < s.length) = True := eq_true (by omega)
  simp only [go_sem, hlen]
  cases h24 : decide ((s.length : Int) > 24) with
  | true =>
   have hz : isSized s = false := by simp only [isSized, Bool.and_eq_false_iff, decide_eq_false_iff_not]; right; simp only [decide_eq_true_eq] at h24; omega
   have hr : isName s = false := by simp only [isName, hz]; rfl
   simp only [go_sem, hr]
   refine ⟨.one (.bool false), ?_⟩
   simp only [go_sem, hr]
   refine ⟨.one (.bool false), ?_⟩
   simp only [go_sem, hr]
  | false =>
   have hz : isSized s = true := by simp only [isSized, Bool.and_eq_true, decide_eq_true_eq]; simp only [decide_eq_false_iff_not] at h24; omega
   simp only [go_sem, hpos', Int.toNat_zero]
   refine call_by (r04_small_ev Z _) ?_
   cases h1 : isSmall (s.getD 0 0).toNat with
   | false =>
    have hr : isName s = false := by simp only [isName, hz, h1]; rfl
    simp only [go_sem, hr]
    refine ⟨.one (.bool false), ?_⟩
    simp only [go_sem, hr]
   | true =>
    simp only [go_sem]
    refine call_by (r04_Keyword_ev Z s) ?_
    cases h2 : kws.contains s with
    | true =>
     have hr : isName s = false := by simp only [isName, hz, h1, h2]; rfl
     simp only [go_sem, hr]
    | false =>
     have hr : isName s = scan badName 1 (s.drop 1) := by simp only [isName, hz, h1, h2]; rfl
     have h3 : scan badName 1 (s.drop 1) = scan badName 0 s := by
      cases s with
      | nil => rfl
      | cons c t =>
       have h1 : isSmall c.toNat = true := h1
       simp [scan, badName, h1]
     rw [hr, h3]
     simp only [go_sem]
     intro _
     refine loop_list s (fun done => scan badName 0 done = true) (fun done rest => ⟨[(0, .d (.str s)), (24, .d (.int .i64 done.length)), (23, .d (.int .i64 s.length))], [], []⟩) ?_ rfl ?_ ?_
     ·exact Ent_plain (by simp only [go_sem, Int.natCast_zero])
     ·intro done c r hl hI
      have hlt := lt_mid hl
      have hx : s.getD done.length 0 = c := getD_mid0 _ _ _ _ hl
      have hw : IntKind.i64.wrap ((done.length : Int) + 1) = ((done.length + 1 : Nat) : Int) := wrap_succ (by omega)
      simp only [fn_r04_Check_L1, go_sem, hlt, hx]
      refine call_by (r04_small_ev Z _) ?_
      simp only [go_sem, hw, hlt, hx]
      refine call_by_g (r04_digit_ev Z _) ?_
      simp only [go_sem, hw, hlt, hx]
      cases h1 : badName done.length c.toNat with
      | false =>
       have h2 := h1
       rw [badName] at h2
       simp only [go_sem, h2, hw, List.length_append, scan_app, scan, hI, h1, Nat.zero_add]
       exact Ent_plain (by simp only [go_sem])
      | true =>
       have h2 := h1
       rw [badName] at h2
       simp only [go_sem, h2, hl, scan_app, scan, h1, Nat.zero_add]
     ·intro hI
      simp only [fn_r04_Check_L1, go_sem, hI]
end Go.Abs
end
section
namespace Go.Abs
variable {E : AEnv} (Z : Sys E)
include Z
theorem r04_Title_ev (s : List UInt8) : E.C r04_Title [.one (.str s)] (.one (.int .i64 (if isTitle s then 0 else 3))) := by
 refine Z.r04_Title _ _ ⟨Nat.le_of_ble_eq_true rfl, ?_⟩
 simp only [fn_r04_Title, go_sem]
 intro hlen
 cases h0 : decide ((s.length : Int) < 1) with
 | true =>
  have hz : isSized s = false := by simp only [isSized, Bool.and_eq_false_iff, decide_eq_false_iff_not]; left; simp only [decide_eq_true_eq] at h0; omega
  have hr : isTitle s = false := by simp only [isTitle, hz]; rfl
  simp only [go_sem, hr]
  refine ⟨.one (.bool false), ?_⟩
  simp only [go_sem, hr]
 | false =>
  simp only [decide_eq_false_iff_not] at h0
  have hpos' : ((0 : Int) < s.length) = True := eq_true (by omega)
  simp only [go_sem, hlen]
  cases h24 : decide ((s.length : Int) > 24) with
  | true =>
   have hz : isSized s = false := by simp only [isSized, Bool.and_eq_false_iff, decide_eq_false_iff_not]; right; simp only [decide_eq_true_eq] at h24; omega
   have hr : isTitle s = false := by simp only [isTitle, hz]; rfl
   simp only [go_sem, hr]
   refine ⟨.one (.bool false), ?_⟩
   simp only [go_sem, hr]
  | false =>
   have hz : isSized s = true := by simp only [isSized, Bool.and_eq_true, decide_eq_true_eq]; simp only [decide_eq_false_iff_not] at h24; omega
   simp only [go_sem, hpos', Int.toNat_zero]
   refine call_by (r04_capital_ev Z _) ?_
   cases h1 : isCapital (s.getD 0 0).toNat with
   | false =>
    have hr : isTitle s = false := by simp only [isTitle, hz, h1]; rfl
    simp only [go_sem, hr]
   | true =>
    cases e1 : (s == [73, 110, 116]) <;> cases e2 : (s == [66, 111, 111, 108]) <;> cases e3 : (s == [67, 101, 108, 108]) <;> cases e4 : (s == [70, 117, 110])
    case false.false.false.false =>
     have hr : isTitle s = s.all fun c => alnum c.toNat := by simp only [isTitle, hz, h1, bne, e1, e2, e3, e4]; simp
     rw [hr]
     simp only [go_sem, e1, e2, e3, e4]
     intro _
     refine loop_list s (fun done => done.all (fun c => alnum c.toNat) = true) (fun done rest => ⟨[(0, .d (.str s)), (36, .d (.int .i64 done.length)), (35, .d (.int .i64 s.length))], [], []⟩) ?_ rfl ?_ ?_
     ·exact Ent_plain (by simp only [go_sem, Int.natCast_zero])
     ·intro done c r hl hI
      have hlt := lt_mid hl
      have hx : s.getD done.length 0 = c := getD_mid0 _ _ _ _ hl
      have hw : IntKind.i64.wrap ((done.length : Int) + 1) = ((done.length + 1 : Nat) : Int) := wrap_succ (by omega)
      simp only [fn_r04_Title_L1, go_sem, hlt, hx]
      refine call_by (r04_small_ev Z _) ?_
      simp only [go_sem, hw, hlt, hx]
      refine call_by_g (r04_capital_ev Z _) ?_
      simp only [go_sem, hw, hlt, hx]
      refine call_by_g (r04_digit_ev Z _) ?_
      simp only [go_sem, hw, hlt, hx]
      cases h1 : (!isSmall c.toNat && !isCapital c.toNat && !isDigit c.toNat) with
      | false =>
       have hc : alnum c.toNat = true := by rw [alnum, h1]; rfl
       simp only [go_sem, hw, List.length_append, List.all_append, List.all_cons, List.all_nil, hI, hc]
       exact Ent_plain (by simp only [go_sem])
      | true =>
       have hc : alnum c.toNat = false := by rw [alnum, h1]; rfl
       simp only [go_sem, hl, List.all_append, List.all_cons, hc]
     ·intro hI
      simp only [fn_r04_Title_L1, go_sem, hI]
    all_goals
     have hr : isTitle s = false := by simp only [isTitle, hz, h1, bne, e1, e2, e3, e4]; simp
     simp only [go_sem, hr, e1, e2, e3, e4]
end Go.Abs
end
section
namespace Go.Abs
def alnum2 (n : Int) : Bool := isSmall n || isCapital n || isDigit n
def wordc2 (n : Int) : Bool := isSmall n || isDigit n || n == 95
theorem alnum_eq (n : Int) : alnum n = alnum2 n := by simp only [alnum, alnum2]; cases isSmall n <;> cases isCapital n <;> cases isDigit n <;> rfl
theorem scan_wordc : ∀ (s : List UInt8) (i : Nat), scan badWord (i + 1) s = s.all fun c => wordc2 c.toNat
 | [], _ => rfl
 | c :: s, i => by
  have h0 : (((i + 1 : Nat) : Int) == 0) = false := by simp; omega
  simp only [scan, List.all_cons, scan_wordc s (i + 1), badWord, wordc2, h0, bne]
  cases isSmall c.toNat <;> cases isDigit c.toNat <;> cases ((c.toNat : Int) == 95) <;> rfl
theorem scan_word (c : UInt8) (s : List UInt8) : scan badWord 0 (c :: s) = (isSmall c.toNat && (c :: s).all fun c => wordc2 c.toNat) := by
 simp only [scan, scan_wordc, badWord, List.all_cons, wordc2, Int.natCast_zero, beq_self_eq_true, Bool.true_or, Bool.and_true, Bool.not_not]
 cases isSmall c.toNat <;> simp
variable {E : AEnv} (Z : Sys E)
include Z
theorem r04_part_ev (s : List UInt8) : E.C r04_part [.one (.str s)] (.one (.bool (okPart s))) := by
 refine Z.r04_part _ _ ⟨Nat.le_of_ble_eq_true rfl, ?_⟩
 simp only [fn_r04_part, go_sem]
 intro hlen
 cases h0 : decide ((s.length : Int) < 1) with
 | true =>
  have hz : isSized s = false := by simp only [isSized, Bool.and_eq_false_iff, decide_eq_false_iff_not]; left; simp only [decide_eq_true_eq] at h0; omega
  have hr : okPart s = false := by simp only [okPart, hz]; rfl
  simp only [go_sem, hr]
 | false =>
  simp only [decide_eq_false_iff_not] at h0
  have hpos' : ((0 : Int) < s.length) = True := eq_true (by omega)
  simp only [go_sem, hlen]
  cases h24 : decide ((s.length : Int) > 24) with
  | true =>
   have hz : isSized s = false := by simp only [isSized, Bool.and_eq_false_iff, decide_eq_false_iff_not]; right; simp only [decide_eq_true_eq] at h24; omega
   have hr : okPart s = false := by simp only [okPart, hz]; rfl
   simp only [go_sem, hr]
  | false =>
   have hz : isSized s = true := by simp only [isSized, Bool.and_eq_true, decide_eq_true_eq]; simp only [decide_eq_false_iff_not] at h24; omega
   have hr : okPart s = ((s.all fun c => alnum2 c.toNat) || (isSmall (s.getD 0 0).toNat && s.all fun c => wordc2 c.toNat)) := by
    obtain ⟨c0, t, rfl⟩ : ∃ c0 t, s = c0 :: t := by cases s with | nil => simp at h0 | cons c t => exact ⟨c, t, rfl⟩
    simp only [okPart, hz, scan_word, alnum_eq, List.getD_cons_zero]
    cases ((c0 :: t).all fun c => alnum2 c.toNat) <;> cases (isSmall c0.toNat && (c0 :: t).all fun c => wordc2 c.toNat) <;> rfl
   simp only [go_sem, hpos', Int.toNat_zero]
   refine call_by (r04_small_ev Z _) ?_
   simp only [go_sem, hr]
   intro _
   generalize isSmall (s.getD 0 0).toNat = w0
   refine loop_list s (fun _ => True) (fun done rest => ⟨[(0, .d (.str s)), (19, .d (.int .i64 done.length)), (18, .d (.int .i64 s.length)), (3, .d (.bool (done.all fun c => alnum2 c.toNat))), (4, .d (.bool (w0 && done.all fun c => wordc2 c.toNat)))], [], []⟩) ?_ trivial ?_ ?_
   ·exact Ent_plain (by simp only [go_sem, Int.natCast_zero, List.all_nil])
   ·intro done c r hl _
    have hlt := lt_mid hl
    have hx : s.getD done.length 0 = c := getD_mid0 _ _ _ _ hl
    have hw : IntKind.i64.wrap ((done.length : Int) + 1) = ((done.length + 1 : Nat) : Int) := wrap_succ (by omega)
    simp only [fn_r04_part_L1, go_sem, hlt, hx]
    refine call_by_g (r04_small_ev Z _) ?_
    simp only [go_sem, hw, hlt, hx]
    refine call_by_g (r04_capital_ev Z _) ?_
    simp only [go_sem, hw, hlt, hx]
    refine ⟨by simp +contextual, ?_⟩
    refine call_by_g (r04_digit_ev Z _) ?_
    simp only [go_sem, hw, hlt, hx]
    refine ⟨by simp +contextual, ?_⟩
    refine call_by_g (r04_small_ev Z _) ?_
    simp only [go_sem, hw, hlt, hx]
    refine call_by_g (r04_digit_ev Z _) ?_
    simp only [go_sem, hw, hlt, hx, List.length_append, List.all_append, List.all_cons, List.all_nil]
    refine ⟨by simp +contextual, by simp +contextual, Ent_plain (by simp only [go_sem, List.length_append, List.all_append, List.all_cons, List.all_nil, alnum2, wordc2, Bool.and_assoc])⟩
   ·intro _
    simp only [fn_r04_part_L1, go_sem]
    cases (s.all fun c => alnum2 c.toNat) <;> simp
end Go.Abs
end
section
namespace Go.Abs
structure PSt where
 out : List (List UInt8)
 beg : Nat
 pre : List UInt8
def PSt.step (p : PSt) (c : UInt8) : PSt := if c.toNat = 46 then ⟨p.out ++ [p.pre.drop p.beg], p.pre.length + 1, p.pre ++ [c]⟩ else ⟨p.out, p.beg, p.pre ++ [c]⟩
def pst (l : List UInt8) : PSt := l.foldl PSt.step ⟨[], 0, []⟩
theorem pst_app (l : List UInt8) (c : UInt8) : pst (l ++ [c]) = (pst l).step c := by simp [pst]
theorem pst_pre : ∀ (l : List UInt8) (p : PSt), (l.foldl PSt.step p).pre = p.pre ++ l
 | [], p => by simp
 | c :: l, p => by
  rw [List.foldl_cons, pst_pre l]
  unfold PSt.step
  split <;> simp
theorem pst_beg : ∀ (l : List UInt8) (p : PSt), p.beg ≤ p.pre.length → (l.foldl PSt.step p).beg ≤ p.pre.length + l.length
 | [], p, h => by simpa using h
 | c :: l, p, h => by
  rw [List.foldl_cons]
  have := pst_beg l (p.step c) (by unfold PSt.step; split <;> simp <;> omega)
  have e : (p.step c).pre.length = p.pre.length + 1 := by unfold PSt.step; split <;> simp
  rw [e] at this
  simp only [List.length_cons]; omega
theorem pst_out : ∀ (l : List UInt8) (p : PSt), (l.foldl PSt.step p).out.length ≤ p.out.length + l.length
 | [], p => by simp
 | c :: l, p => by
  rw [List.foldl_cons]
  have := pst_out l (p.step c)
  have e : (p.step c).out.length ≤ p.out.length + 1 := by unfold PSt.step; split <;> simp
  simp only [List.length_cons]; omega
def partsOf (s : List UInt8) : List (List UInt8) := (pst s).out ++ [s.drop (pst s).beg]
variable {E : AEnv} (Z : Sys E)
include Z
theorem r04_parts_ev (s : List UInt8) (hs : s.length ≤ 1000) : E.C r04_parts [.one (.str s)] (.one (.lst ((partsOf s).map fun k => [.str k]))) := by
 refine Z.r04_parts _ _ ⟨Nat.le_of_ble_eq_true rfl, ?_⟩
 simp only [fn_r04_parts, go_sem]
 intro hlen
 refine loop_list s (fun _ => True) (fun done rest => ⟨[(0, .d (.str s)), (8, .d (.int .i64 done.length)), (7, .d (.int .i64 s.length)), (3, .own 3 1 ((pst done).out.map fun k => [.str k])), (4, .d (.int .i64 (pst done).beg))], [], [(3, true)]⟩) ?_ trivial ?_ ?_
 ·exact Ent_conv 3 3 1 [] [(3, 3)] rfl (by simp) rfl (by simp only [Ent0, go_sem, List.contains_nil, pst, List.foldl_nil, Int.natCast_zero])
 ·intro done c r hl _
  have hlt := lt_mid hl
  have hx : s.getD done.length 0 = c := getD_mid0 _ _ _ _ hl
  have hw : IntKind.i64.wrap ((done.length : Int) + 1) = ((done.length + 1 : Nat) : Int) := wrap_succ (by omega)
  have hpre : (pst done).pre = done := by simp [pst, pst_pre]
  have hbeg : (pst done).beg ≤ done.length := by simpa [pst] using pst_beg done ⟨[], 0, []⟩ (Nat.le_refl _)
  have hout : (pst done).out.length ≤ done.length := by simpa [pst] using pst_out done ⟨[], 0, []⟩
  have htake : s.take done.length = done := by rw [hl]; simp
  simp only [fn_r04_parts_L1, go_sem, hlt, hx]
  by_cases hc : c.toNat = 46
  ·have h1 : (((c.toNat : Nat) : Int) == 46) = true := by simp [hc]
   simp only [go_sem, h1, hw, htake]
   have hd : done.length ≤ 1000 := by omega
   refine ⟨by omega, ⟨by simp, by omega, by omega⟩, Ent_own [(3, 21)] ?_⟩
   simp only [go_sem, pst_app, PSt.step, if_pos hc, List.length_append, List.map_append, hpre, List.contains_nil]
  ·have h1 : (((c.toNat : Nat) : Int) == 46) = false := by simp; omega
   simp only [go_sem, h1, hw, pst_app, PSt.step, if_neg hc, List.length_append]
   exact Ent_own [(3, 3)] (by simp only [go_sem, List.contains_nil])
 ·intro _
  have hbeg : (pst s).beg ≤ s.length := by simpa [pst] using pst_beg s ⟨[], 0, []⟩ (Nat.le_refl _)
  have hout : (pst s).out.length ≤ s.length := by simpa [pst] using pst_out s ⟨[], 0, []⟩
  simp only [fn_r04_parts_L1, go_sem]
  refine ⟨by omega, ⟨by simp, by omega, by omega⟩, ?_⟩
  simp [partsOf]
end Go.Abs
end
section
namespace Go.Abs
def splitW : List UInt8 → List UInt8 → List (List UInt8)
 | acc, [] => [acc]
 | acc, c :: s => if c.toNat = 46 then acc :: splitW [] s else splitW (acc ++ [c]) s
theorem pst_split : ∀ (s : List UInt8) (p : PSt), p.beg ≤ p.pre.length → (s.foldl PSt.step p).out ++ [(p.pre ++ s).drop (s.foldl PSt.step p).beg] = p.out ++ splitW (p.pre.drop p.beg) s
 | [], p, _ => by simp [splitW]
 | c :: s, p, h => by
  have e : p.pre ++ c :: s = (p.step c).pre ++ s := by unfold PSt.step; split <;> simp
  rw [List.foldl_cons, e, pst_split s (p.step c) (by unfold PSt.step; split <;> simp <;> omega)]
  rw [splitW.eq_2]
  unfold PSt.step
  by_cases hc : c.toNat = 46
  ·simp only [if_pos hc]; simp
  ·simp only [if_neg hc]
   rw [List.drop_append_of_le_length h]
theorem partsOf_eq (s : List UInt8) : partsOf s = splitW [] s := by
 have := pst_split s ⟨[], 0, []⟩ (Nat.le_refl _)
 simpa [partsOf, pst] using this
theorem splitW_cut : ∀ (s acc : List UInt8), splitW acc s = (acc ++ (cutAt s).1) :: (if (cutAt s).2.2 = true then splitW [] (cutAt s).2.1 else [])
 | [], acc => by simp [splitW, cutAt]
 | c :: s, acc => by
  rw [splitW.eq_2, cutAt.eq_2]
  by_cases hc : c.toNat = 46
  ·simp [hc]
  ·simp only [if_neg hc]; rw [splitW_cut s]; simp
theorem parts_split (s : List UInt8) : parts s = (splitW [] s).all okPart := by
 induction hn : s.length using Nat.strongRecOn generalizing s with
 | ind n ih =>
  rw [parts, splitW_cut]
  by_cases h : (cutAt s).2.2 = true
  ·have := ih _ (by rw [← hn]; exact cutAt_len s h) (cutAt s).2.1 rfl
   simp [h, this]
  ·simp [h]
end Go.Abs
end
section
namespace Go.Abs
theorem splitW_ne (acc s : List UInt8) : 0 < (splitW acc s).length := by rw [splitW_cut]; simp
variable {E : AEnv} (Z : Sys E)
include Z
theorem r04_Core_ev (s : List UInt8) : E.C r04_Core [.one (.str s)] (.one (.int .i64 (if isCore s then 0 else 3))) := by
 refine Z.r04_Core _ _ ⟨Nat.le_of_ble_eq_true rfl, ?_⟩
 simp only [fn_r04_Core, go_sem]
 intro hlen
 cases h0 : decide ((s.length : Int) > 120) with
 | true => simp only [go_sem, isCore, h0]
 | false =>
  have hs : s.length ≤ 1000 := by simp only [decide_eq_false_iff_not] at h0; omega
  have hp : partsOf s = (cutAt s).1 :: (if (cutAt s).2.2 = true then splitW [] (cutAt s).2.1 else []) := by rw [partsOf_eq, splitW_cut]; simp
  simp only [go_sem, isCore, h0]
  refine call_by (r04_parts_ev Z s hs) ?_
  rw [hp]
  have hq := parts_split (cutAt s).2.1
  have hne := splitW_ne [] (cutAt s).2.1
  rw [hq]
  generalize splitW [] (cutAt s).2.1 = t at *
  generalize (cutAt s).1 = a at *
  generalize (cutAt s).2.2 = m at *
  have hlast : (if m = true then t.all okPart else true) = (if m = true then t else []).all okPart := by cases m <;> rfl
  have hm : (!m) = ((((if m = true then t else []).length + 1 : Nat) : Int) == 1) := by
   cases m
   ·rfl
   ·have : ((((t.length + 1 : Nat) : Int)) == 1) = false := by
      rw [beq_eq_false_iff_ne]; omega
    exact this.symm
  rw [hlast, hm]
  generalize (if m = true then t else []) = u
  have hls : (∀ e ∈ [D.str a] :: u.map fun k => [D.str k], e.length = 1) = True := eq_true (by intro e he; simp only [List.mem_cons, List.mem_map] at he; rcases he with rfl | ⟨k, _, rfl⟩ <;> rfl)
  have h00 : ((0 : Int) < ((u.length + 1 : Nat) : Int)) = True := eq_true (by omega)
  simp only [go_sem, hls, h00, Int.toNat_zero]
  refine call_by (r04_Check_ev Z a) ?_
  have hcn : ((if isName a = true then (0 : Int) else 3) != 0) = !isName a := by cases isName a <;> rfl
  have hct : ((if isTitle a = true then (0 : Int) else 3) != 0) = !isTitle a := by cases isTitle a <;> rfl
  simp only [go_sem, hls, h00, Int.toNat_zero, hcn]
  refine call_by_g (r04_Title_ev Z a) ?_
  simp only [go_sem, hls, h00, Int.toNat_zero, hct]
  intro hlen2
  refine ⟨?_, ?_⟩
  ·cases isName a <;> cases isTitle a <;> cases (a == [118]) <;> simp
  have h11 : ((1 : Int) ≤ ((u.length + 1 : Nat) : Int)) = True := eq_true (by omega)
  have hd : (Int.toNat 1) = 1 := rfl
  have h01 : ((0 : Int) ≤ 1) = True := eq_true (by omega)
  simp only [bne]
  by_cases hb : (!isName a && !isTitle a && (!(a == [118]) || ((u.length + 1 : Nat) : Int) == 1)) = true
  ·simp only [hb, go_sem]
  ·simp only [Bool.not_eq_true] at hb
   simp only [hb, go_sem, h11, hd, h01]
   intro _
   refine loop_list u (fun done => done.all okPart = true) (fun done rest => ⟨[(37, .d (.int .i64 done.length)), (36, .d (.int .i64 u.length)), (35, .d (.lst (u.map fun k => [.str k])))], [], []⟩) ?_ rfl ?_ ?_
   ·exact Ent_plain (by simp only [go_sem, Int.natCast_zero])
   ·intro done k r hl hI
    have hlt := lt_mid hl
    have hw : IntKind.i64.wrap ((done.length : Int) + 1) = ((done.length + 1 : Nat) : Int) := wrap_succ (by omega)
    have hx : (u.map fun k => [D.str k]).getD done.length [] = [.str k] := by rw [hl]; exact getD_mid _ _ _ _ _
    have hlu : (∀ e ∈ u.map fun k => [D.str k], e.length = 1) = True := eq_true (by intro e he; simp only [List.mem_map] at he; rcases he with ⟨k, _, rfl⟩; rfl)
    simp only [fn_r04_Core_L1, go_sem, hlt, hx, hlu]
    refine call_by (r04_part_ev Z k) ?_
    cases hk : okPart k with
    | true =>
     simp only [go_sem, hw, List.length_append, List.all_append, List.all_cons, List.all_nil, hI, hk]
     exact Ent_plain (by simp only [go_sem])
    | false => simp only [go_sem, hl, List.all_append, List.all_cons, hk]
   ·intro hI
    simp only [fn_r04_Core_L1, go_sem, hI]
end Go.Abs
end
section
namespace Go.Abs
def sV : List UInt8 := [118]
def sTag : List UInt8 := [116, 97, 103]
def sVal : List UInt8 := [118, 97, 108]
def calledOk (o : Int) (s : List UInt8) : Bool := if o == 3 then s == sV || isCore s else if o == 4 then s == sTag || s == sVal || isCore s else if o == 5 then isCore s else true
variable {E : AEnv} (Z : Sys E)
include Z
theorem r07_called_ev (p : Pred) : E.C r07_called [.agg (Pred.cells p)] (.one (.bool (calledOk p.op p.name))) := by
 obtain ⟨o, s, n, ks⟩ := p
 refine Z.r07_called _ _ ⟨Nat.le_of_ble_eq_true rfl, ?_⟩
 rw [Pred.cells_eq]
 have hc : ((if isCore s = true then (0 : Int) else 3) == 0) = isCore s := by cases isCore s <;> rfl
 by_cases h3 : (o == 3) = true
 ·simp only [fn_r07_called, go_sem, Pred.op, Pred.name, h3, calledOk]
  refine call_by_g (r04_Core_ev Z s) ?_
  simp only [go_sem, hc, sV]
  cases (s == [118]) <;> simp
 ·simp only [Bool.not_eq_true] at h3
  by_cases h4 : (o == 4) = true
  ·simp only [fn_r07_called, go_sem, Pred.op, Pred.name, h3, h4, calledOk]
   refine ⟨by simp +contextual, ?_⟩
   refine call_by_g (r04_Core_ev Z s) ?_
   simp only [go_sem, hc, sTag, sVal]
   cases (s == [116, 97, 103] || s == [118, 97, 108]) <;> simp
  ·simp only [Bool.not_eq_true] at h4
   by_cases h5 : (o == 5) = true
   ·simp only [fn_r07_called, go_sem, Pred.op, Pred.name, h3, h4, h5, calledOk]
    refine call_by (r04_Core_ev Z s) ?_
    simp only [go_sem, hc]
   ·simp only [Bool.not_eq_true] at h5
    simp only [fn_r07_called, go_sem, Pred.op, Pred.name, h3, h4, h5, calledOk]
end Go.Abs
end
section
namespace Go.Abs
theorem gR1 {b : Bool} {p : Prop} : (b = true → b = true ∧ p) = (b = true → p) := by cases b <;> simp
theorem gR2 {b : Bool} : (b = true → b = true) = True := by simp
theorem gR3 {b x : Bool} : (b = true → x = true → (b && x) = true) = True := by cases b <;> cases x <;> simp
theorem gR4 {b : Bool} : (b = false → (!b) = true) = True := by cases b <;> simp
theorem gR5 {b x : Bool} : (b = true → x = false → (b && !x) = true) = True := by cases b <;> cases x <;> simp
theorem gR6 {b x : Bool} {p : Prop} : (b = true → (x = true → (b && x) = true) ∧ p) = (b = true → p) := by cases b <;> cases x <;> simp
theorem gR7 {b x : Bool} {p : Prop} : (b = true → (x = false → (b && !x) = true) ∧ p) = (b = true → p) := by cases b <;> cases x <;> simp
theorem gR8 {b x : Bool} : ((b && x) = true → b = true) = True := by cases b <;> cases x <;> simp
theorem gR9 {b x : Bool} {p : Prop} : ((b && x) = true → b = true ∧ p) = ((b && x) = true → p) := by cases b <;> cases x <;> simp
theorem gR10 {b x : Bool} {p : Prop} : ((b && x) = true → x = true ∧ p) = ((b && x) = true → p) := by cases b <;> cases x <;> simp
theorem gR11 {b x : Bool} : ((b && x) = true → x = true) = True := by cases b <;> cases x <;> simp
theorem gR12 {b : Bool} {p : Prop} : (b = true → (b && b) = true ∧ p) = (b = true → p) := by cases b <;> simp
theorem gR13 {b x : Bool} {p : Prop} : ((b && x) = true → (b && (b && x)) = true ∧ p) = ((b && x) = true → p) := by cases b <;> cases x <;> simp
theorem gR14 {b x : Bool} {p : Prop} : ((b && x) = true → (b && x && b) = true ∧ p) = ((b && x) = true → p) := by cases b <;> cases x <;> simp
theorem gR15 {b x : Bool} : ((b && x) = true → (b && (b && x)) = true) = True := by cases b <;> cases x <;> simp
attribute [go_sem] gR1 gR2 gR3 gR4 gR5 gR6 gR7 gR8 gR9 gR10 gR11 gR12 gR13 gR14 gR15 Int.cast_ofNat_Int Int.natCast_one List.getD_nil Int.natCast_zero false_and and_false Int.toNat_zero Int.toNat_one Bool.false_eq_true Bool.true_eq_false
theorem call_g {E : AEnv} {f : FuncId} {args : List CV} {r : CV} {b : Bool} {g : Option Bool} {d : Option Nat} {K : St → Prop} {st : St} {az : List AV} (h : E.C f args r) (hk : callK g d K st az r) : ∃ r, (b = true → E.C f args r) ∧ callK g d K st az r := ⟨r, fun _ => h, hk⟩
theorem call_gi {E : AEnv} {f : FuncId} {args : List CV} {r : CV} {b : Bool} {g : Option Bool} {d : Option Nat} {K : St → Prop} {st : St} {az : List AV} (h : b = true → E.C f args r) (hk : callK g d K st az r) : ∃ r, (b = true → E.C f args r) ∧ callK g d K st az r := ⟨r, h, hk⟩
theorem call_no {E : AEnv} {f : FuncId} {args : List CV} (r : CV) {g : Option Bool} {d : Option Nat} {K : St → Prop} {st : St} {az : List AV} (hk : callK g d K st az r) : ∃ r, (False → E.C f args r) ∧ callK g d K st az r := ⟨r, fun h => h.elim, hk⟩
attribute [go_sem_proc] Int.reduceToNat Int.reduceLT Int.reduceLE Int.reduceEq Nat.reduceSub
end Go.Abs
end
section
namespace Go.Abs
def nodeE (o : Int) (s : List UInt8) (n : Int) (ks : List Pred) : Int :=
 if decide (o < 1) || decide (o > 18) || !s == [] && !isOpNamed o || n != 0 && !(o == 1 || o == 2) || !kidsOk o ks.length then 1
 else if o == 1 && !inRange n || o == 2 && (decide (n < 0) || decide (n > 1)) then 2
 else if !calledOk o s then 3
 else if o == 8 && ((ks.map Pred.op).getD 0 0) != 1 then 6
 else 0
theorem mul_kids {o : Int} {s : List UInt8} {n : Int} {ks : List Pred} (h : ¬ (decide (o < 1) || decide (o > 18) || !s == [] && !isOpNamed o || n != 0 && !(o == 1 || o == 2) || !kidsOk o ks.length) = true) (ho : (o == 8) = true) : ∃ a b, ks = [a, b] := by
 have ho : o = 8 := by simpa using ho
 subst ho
 have h2 : kidsOk 8 (ks.length : Int) = true := by
  simp only [Bool.or_eq_true, not_or] at h
  simpa using h.2
 have h3 : ks.length = 2 := by simp [kidsOk] at h2; omega
 match ks, h3 with
 | [a, b], _ => exact ⟨a, b, rfl⟩
variable {E : AEnv} (Z : Sys E)
include Z
theorem r07_node_ev (o : Int) (s : List UInt8) (n : Int) (ks : List Pred) : E.C r07_node [.agg (Pred.cells (.mk o s n ks))] (.one (.int .i64 (nodeE o s n ks))) := by
 have hcal := r07_called_ev Z (.mk o s n ks)
 refine Z.r07_node _ _ ⟨Nat.le_of_ble_eq_true rfl, ?_⟩
 rw [Pred.cells_eq] at *
 generalize hR : nodeE o s n ks = R
 simp only [fn_r07_node, go_sem, Pred.op, Pred.name, Pred.n, Pred.kids] at hcal ⊢
 refine call_g (r07_named_ev Z o) ?_
 simp only [go_sem]
 intro hlen
 refine call_g (r07_kids_ev Z o _) ?_
 simp only [go_sem]
 split
 ·rename_i h1; rw [← hR, nodeE, if_pos h1]
 rename_i h1
 refine call_g (r01_In_ev Z n) ?_
 simp only [go_sem]
 split
 ·rename_i h2; rw [← hR, nodeE, if_neg h1, if_pos h2]
 rename_i h2
 refine call_by hcal ?_
 simp only [go_sem]
 split
 ·rename_i h3; rw [← hR, nodeE, if_neg h1, if_neg h2, if_pos h3]
 rename_i h3
 by_cases ho : (o == 8) = true
 ·obtain ⟨a, b, rfl⟩ := mul_kids h1 ho
  simp only [go_sem, ho, Pred.cells_eq a]
  rw [← hR, nodeE, if_neg h1, if_neg h2, if_neg h3, ho]
  simp only [go_sem]
  cases (a.op != 1) <;> rfl
 ·rw [Bool.not_eq_true] at ho
  cases ks <;> (simp only [go_sem, ho, Pred.cells_eq]; rw [← hR, nodeE, if_neg h1, if_neg h2, if_neg h3, ho]; rfl)
end Go.Abs
end
section
namespace Go.Abs
def nodeP (o : Int) (s : List UInt8) (n : Int) (ks : List Pred) : Int :=
 if decide (o < 1) || decide (o > 18) then 1
 else if !isOpNamed o && !s == [] || o != 1 && o != 2 && n != 0 || decide ((ks.length : Int) < (kidsOf o).1) || decide ((ks.length : Int) > (kidsOf o).2) then 1
 else if o == 1 && !inRange n || o == 2 && n != 0 && n != 1 then 2
 else if isOpNamed o && (if isCore s = true then (0 : Int) else 3) != 0 && !(o == 3 && s == sV) && !(o == 4 && (s == sTag || s == sVal)) then 3
 else if o == 8 && ((ks.map Pred.op).getD 0 0) != 1 then 6
 else 0
theorem nodeP_rest {o : Int} {s : List UInt8} {n : Int} {ks : List Pred} (h1 : ¬(decide (o < 1) || decide (o > 18)) = true)
  (h2 : ¬(!isOpNamed o && !s == [] || o != 1 && o != 2 && n != 0 || decide ((ks.length : Int) < (kidsOf o).1) || decide ((ks.length : Int) > (kidsOf o).2)) = true) (h3 : ¬(o == 1 && !inRange n || o == 2 && n != 0 && n != 1) = true) :
  nodeP o s n ks = if isOpNamed o && (if isCore s = true then (0 : Int) else 3) != 0 && (!(o == 3 && s == sV) && !(o == 4 && (s == sTag || s == sVal))) then 3 else if o == 8 && ((ks.map Pred.op).getD 0 0) != 1 then 6 else 0 := by
 rw [nodeP, if_neg h1, if_neg h2, if_neg h3, Bool.and_assoc]
theorem kidsOk_eq (o : Int) (m : Nat) : (decide ((m : Int) < (kidsOf o).1) || decide ((m : Int) > (kidsOf o).2)) = !kidsOk o m := by
 unfold kidsOf kidsOk
 split
 ·rw [Bool.eq_iff_iff]; simp; omega
 ·split
  ·rw [Bool.eq_iff_iff]; simp
  ·split
   ·rw [Bool.eq_iff_iff]; simp; omega
   ·rw [Bool.eq_iff_iff]; simp; omega
theorem fin3 {A B : Bool} {R t x : Int} {p : Prop} (hk : R = if A && B then x else t) (hp : t = R → p) : if A = true then (if B = true then x = R else p) else p := by
 cases A <;> cases B <;> simp_all
theorem nodeP_eq (o : Int) (s : List UInt8) (n : Int) (ks : List Pred) : nodeP o s n ks = nodeE o s n ks := by
 unfold nodeP nodeE
 have e2 : (n != 0 && !(o == 1 || o == 2)) = (o != 1 && o != 2 && n != 0) := by
  simp only [bne]; cases (o == 1) <;> cases (o == 2) <;> cases (n == 0) <;> rfl
 have e3 : (decide (n < 0) || decide (n > 1)) = (n != 0 && n != 1) := by
  rw [Bool.eq_iff_iff]; simp; omega
 have e4 : (isOpNamed o && (if isCore s = true then (0 : Int) else 3) != 0 && !(o == 3 && s == sV) && !(o == 4 && (s == sTag || s == sVal))) = !calledOk o s := by
  unfold isOpNamed calledOk
  by_cases h3 : o = 3
  ·subst h3; cases isCore s <;> cases (s == sV) <;> simp
  ·by_cases h4 : o = 4
   ·subst h4; cases isCore s <;> cases (s == sTag || s == sVal) <;> simp
   ·by_cases h5 : o = 5
    ·subst h5; cases isCore s <;> simp
    ·simp [h3, h4, h5]
 rw [e4, e3, e2, Bool.and_comm (!s == []), ← kidsOk_eq, ← Bool.and_assoc]
 cases (decide (o < 1) || decide (o > 18)) <;> simp only [Bool.true_or, Bool.false_or, Bool.false_eq_true, if_true, if_false, Bool.or_assoc]
theorem mul_kidsP {o : Int} {s : List UInt8} {n : Int} {ks : List Pred} (h2 : ¬(!isOpNamed o && !s == [] || o != 1 && o != 2 && n != 0 || decide ((ks.length : Int) < (kidsOf o).1) || decide ((ks.length : Int) > (kidsOf o).2)) = true) (ho : (o == 8) = true) : ∃ a b, ks = [a, b] := by
 have ho : o = 8 := by simpa using ho
 subst ho
 have h3 : ks.length = 2 := by simp [kidsOf] at h2; omega
 match ks, h3 with
 | [a, b], _ => exact ⟨a, b, rfl⟩
variable {E : AEnv} (Z : Sys E)
include Z
theorem pred_node_ev' (hG : E.G 0 = some (kws.map .str)) (o : Int) (s : List UInt8) (n : Int) (ks : List Pred) : E.C pred_node [.agg (Pred.cells (.mk o s n ks))] (.one (.int .i64 (nodeP o s n ks))) := by
 refine Z.pred_node _ _ ⟨Nat.le_of_ble_eq_true rfl, ?_⟩
 rw [Pred.cells_eq]
 generalize hR : nodeP o s n ks = R
 simp only [fn_pred_node, go_sem, Pred.op, Pred.name, Pred.n, Pred.kids]
 split
 ·rename_i h1; rw [← hR, nodeP, if_pos h1]
 rename_i h1
 refine call_by (pred_kids_ev Z o) ?_
 simp only [go_sem]
 refine call_by (pred_named_ev Z o) ?_
 simp only [go_sem]
 intro hlen1 hlen2
 split
 ·rename_i h2; rw [← hR, nodeP, if_neg h1, if_pos h2]
 rename_i h2
 refine call_g (num_In_ev Z n) ?_
 simp only [go_sem]
 split
 ·rename_i h3; rw [← hR, nodeP, if_neg h1, if_neg h2, if_pos h3]
 rename_i h3
 refine call_by (pred_named_ev Z o) ?_
 simp only [go_sem]
 refine call_g (names_Core_ev Z hG s) ?_
 simp only [go_sem]
 by_cases ho : (o == 8) = true
 ·obtain ⟨a, b, rfl⟩ := mul_kidsP h2 ho
  simp only [go_sem, ho, Pred.cells_eq a]
  have key := nodeP_rest h1 h2 h3
  rw [hR, ho] at key
  simp only [go_sem, sV, sTag, sVal] at key
  refine fin3 key fun h => ?_
  cases hC : (a.op != 1) <;> simp_all
 ·rw [Bool.not_eq_true] at ho
  have key := nodeP_rest h1 h2 h3
  rw [hR, ho] at key
  simp only [go_sem, sV, sTag, sVal] at key
  cases ks <;> (simp only [go_sem, ho, Pred.cells_eq]; exact fin3 key fun h => h)
theorem pred_node_ev (hG : E.G 0 = some (kws.map .str)) (o : Int) (s : List UInt8) (n : Int) (ks : List Pred) : E.C pred_node [.agg (Pred.cells (.mk o s n ks))] (.one (.int .i64 (nodeE o s n ks))) := nodeP_eq o s n ks ▸ pred_node_ev' Z hG o s n ks
end Go.Abs
end
section
namespace Go.Abs
namespace Pred
def formE : Pred → Int
 | .mk o s n ks => if nodeE o s n ks != 0 then nodeE o s n ks else formEs ks
where formEs : List Pred → Int
 | [] => 0
 | k :: ks => if formE k != 0 then formE k else formEs ks
theorem formEs_mid {a b : List Pred} {k : Pred} (ha : ∀ x ∈ a, formE x = 0) : formE.formEs (a ++ k :: b) = if formE k != 0 then formE k else formE.formEs b := by
 induction a with
 | nil => rfl
 | cons x a ih =>
  rw [List.cons_append, formE.formEs, ha x (by simp)]
  exact ih fun y hy => ha y (by simp [hy])
theorem formEs_all {a : List Pred} (ha : ∀ x ∈ a, formE x = 0) : formE.formEs a = 0 := by
 induction a with
 | nil => rfl
 | cons x a ih =>
  rw [formE.formEs, ha x (by simp)]
  exact ih fun y hy => ha y (by simp [hy])
theorem formE_eq (o : Int) (s : List UInt8) (n : Int) (ks : List Pred) : formE (.mk o s n ks) = if nodeE o s n ks != 0 then nodeE o s n ks else formE.formEs ks := by rw [formE]
def checkE (p : Pred) : Int := if decide (nodes p > 400) then 7 else if decide (depth p > 40) then 8 else formE p
end Pred
theorem app_all {α : Type} {P : α → Prop} {a : List α} {k : α} (ha : ∀ x ∈ a, P x) (hk : P k) : ∀ x ∈ a ++ [k], P x := by
 intro x hx; rcases List.mem_append.1 hx with h | h
 ·exact ha x h
 ·simp at h; subst h; exact hk
theorem getD_midP {ks a r : List Pred} {k : Pred} (hl : ks = a ++ k :: r) : (ks.map Pred.cells).getD a.length [] = Pred.cells k := by rw [hl]; exact getD_mid _ _ _ _ _
variable {E : AEnv} (Z : Sys E)
include Z
theorem r07_form_ev (p : Pred) : E.C r07_form [.agg (Pred.cells p)] (.one (.int .i64 p.formE)) := by
 induction p using Pred.ind with
 | h o s n ks ih =>
 have hn := r07_node_ev Z o s n ks
 refine Z.r07_form _ _ ⟨Nat.le_of_ble_eq_true rfl, ?_⟩
 rw [Pred.cells_eq] at *
 generalize hR : Pred.formE (.mk o s n ks) = R
 rw [Pred.formE_eq] at hR
 simp only [fn_r07_form, go_sem, Pred.op, Pred.name, Pred.n, Pred.kids] at hn ⊢
 refine call_by hn ?_
 simp only [go_sem]
 cases h1 : (nodeE o s n ks != 0) with
 | true => simp only [h1, go_sem] at hR ⊢; exact hR
 | false =>
 simp only [h1, go_sem] at hR ⊢
 intro hlen
 refine loop_list ks (fun done => ∀ x ∈ done, x.formE = 0) (fun done rest => ⟨[(15, .d (.int .i64 done.length)), (14, .d (.int .i64 ks.length)), (13, .d (.lst (ks.map Pred.cells)))], [], []⟩) ?_ (by simp) ?_ ?_
 ·exact Ent_plain (by simp only [go_sem])
 ·intro done k r hl hI
  have hk' := ih k (by rw [hl]; simp)
  have hlt := lt_mid hl
  have hw : IntKind.i64.wrap ((done.length : Int) + 1) = ((done.length + 1 : Nat) : Int) := wrap_succ (by omega)
  simp only [fn_r07_form_L1, go_sem, hlt, getD_midP hl]
  refine call_by hk' ?_
  rw [hl, Pred.formEs_mid hI] at hR
  cases h2 : (k.formE != 0) with
  | true => simp only [h2, go_sem] at hR ⊢; exact hR
  | false =>
   simp only [go_sem, h2, hw, List.length_append]
   exact ⟨Ent_plain (by simp only [go_sem]), app_all hI (by simpa using h2)⟩
 ·intro hI
  rw [Pred.formEs_all hI] at hR
  simp only [fn_r07_form_L1, go_sem, hR]
theorem r07_Check_ev (p : Pred) : E.C r07_Check [.agg (Pred.cells p)] (.one (.int .i64 p.checkE)) := by
 have h1 := r07_Nodes_ev Z p
 have h2 := r07_Depth_ev Z p
 have h3 := r07_form_ev Z p
 refine Z.r07_Check _ _ ⟨Nat.le_of_ble_eq_true rfl, ?_⟩
 generalize hR : Pred.checkE p = R
 unfold Pred.checkE at hR
 rw [Pred.cells_eq] at *
 simp only [fn_r07_Check, go_sem]
 refine call_by h1 ?_
 simp only [go_sem]
 split
 ·rename_i h; rw [if_pos h] at hR; exact hR
 rename_i h; rw [if_neg h] at hR
 refine call_by h2 ?_
 simp only [go_sem]
 split
 ·rename_i h; rw [if_pos h] at hR; exact hR
 rename_i h; rw [if_neg h] at hR
 refine call_by h3 ?_
 simp only [go_sem, hR]
end Go.Abs
end
section
namespace Go.Abs
namespace Pred
def pre : Pred → List Pred
 | .mk o s n ks => .mk o s n ks :: pres ks
where pres : List Pred → List Pred
 | [] => []
 | k :: ks => pre k ++ pres ks
theorem pre_eq (o : Int) (s : List UInt8) (n : Int) (ks : List Pred) : pre (.mk o s n ks) = .mk o s n ks :: pre.pres ks := by rw [pre]
theorem pres_app (a b : List Pred) : pre.pres (a ++ b) = pre.pres a ++ pre.pres b := by
 induction a with
 | nil => rfl
 | cons k a ih => simp [pre.pres, ih]
def err (p : Pred) : Int := nodeE p.op p.name p.n p.kids
def first : List Pred → Int
 | [] => 0
 | p :: l => if err p != 0 then err p else first l
theorem first_app (a b : List Pred) : first (a ++ b) = if first a != 0 then first a else first b := by
 induction a with
 | nil => rfl
 | cons k a ih =>
  by_cases h : (err k != 0) = true
  ·have e1 : first (k :: a) = err k := by rw [first, if_pos h]
   have e2 : first (k :: (a ++ b)) = err k := by rw [first, if_pos h]
   simp only [List.cons_append, e1, e2, h, if_true]
  ·have e1 : first (k :: a) = first a := by rw [first, if_neg h]
   have e2 : first (k :: (a ++ b)) = first (a ++ b) := by rw [first, if_neg h]
   simp only [List.cons_append, e1, e2, ih]
theorem formE_first (p : Pred) : formE p = first (pre p) := by
 induction p using Pred.ind with
 | h o s n ks ih =>
 rw [formE_eq, pre_eq, first]
 have : formE.formEs ks = first (pre.pres ks) := by
  induction ks with
  | nil => rfl
  | cons k ks ih2 =>
   rw [formE.formEs, pre.pres, first_app, ih k (by simp), ih2 fun x hx => ih x (by simp [hx])]
 rw [this]; rfl
theorem first_mid {a b : List Pred} {k : Pred} (ha : ∀ x ∈ a, err x = 0) : first (a ++ k :: b) = if err k != 0 then err k else first b := by
 induction a with
 | nil => rfl
 | cons x a ih =>
  rw [List.cons_append, first, ha x (by simp)]
  exact ih fun y hy => ha y (by simp [hy])
theorem first_all {a : List Pred} (ha : ∀ x ∈ a, err x = 0) : first a = 0 := by
 induction a with
 | nil => rfl
 | cons x a ih =>
  rw [first, ha x (by simp)]
  exact ih fun y hy => ha y (by simp [hy])
end Pred
def yields (l : List Pred) : List (List CV) := l.map fun q => [.agg (Pred.cells q)]
theorem yields_mid {l : List Pred} {a b : List (List CV)} {x : List CV} (h : yields l = a ++ x :: b) : ∃ a' p b', l = a' ++ p :: b' ∧ a = yields a' ∧ x = [.agg (Pred.cells p)] := by
 obtain ⟨a', r, h1, h2, h3⟩ := List.map_eq_append_iff.1 h
 obtain ⟨p, b', h4, h5, h6⟩ := List.map_eq_cons_iff.1 h3
 exact ⟨a', p, b', by rw [h1, h4], h2.symm, h5.symm⟩
theorem cells_inj : ∀ (p q : Pred), Pred.cells p = Pred.cells q → p = q := by
 intro p
 induction p using Pred.ind with
 | h o s n ks ih =>
 intro q h
 obtain ⟨o', s', n', ks'⟩ := q
 rw [Pred.cells_eq, Pred.cells_eq] at h
 simp only [Pred.op, Pred.name, Pred.n, Pred.kids, List.cons.injEq, D.int.injEq, D.str.injEq, D.lst.injEq, true_and, and_true] at h
 obtain ⟨rfl, rfl, rfl, h4⟩ := h
 have : ks = ks' := by
  induction ks generalizing ks' with
  | nil => cases ks' with | nil => rfl | cons _ _ => cases h4
  | cons k ks ih2 =>
   cases ks' with
   | nil => cases h4
   | cons k' ks' =>
    simp only [List.map_cons, List.cons.injEq] at h4
    rw [ih k (by simp) k' h4.1, ih2 (fun x hx => ih x (by simp [hx])) ks' h4.2]
 rw [this]
theorem yields_inj {a b : List Pred} (h : yields a = yields b) : a = b := by
 induction a generalizing b with
 | nil => cases b with | nil => rfl | cons _ _ => cases h
 | cons x a ih =>
  cases b with
  | nil => cases h
  | cons y b =>
   simp only [yields, List.map_cons, List.cons.injEq, CV.agg.injEq, and_true] at h
   rw [cells_inj x y h.1, ih h.2]
variable {E : AEnv} (Z : Sys E)
include Z
theorem pred_before_ev (p : Pred) : E.C pred_before [.agg (Pred.cells p)] (.one (.clo pred_before_1 [.ref (Pred.cells p)])) := by
 refine Z.pred_before _ _ ⟨Nat.le_of_ble_eq_true rfl, ?_⟩
 rw [Pred.cells_eq]
 simp only [fn_pred_before, go_sem]
 try rfl
theorem pred_Check_ev (hG : E.G 0 = some (kws.map .str)) (hIt : ∀ p, E.It pred_before_1 [.ref (Pred.cells p)] (yields p.pre)) (p : Pred) : E.C pred_Check [.agg (Pred.cells p)] (.one (.int .i64 p.checkE)) := by
 have h1 := pred_Nodes_ev Z p
 have h2 := pred_Depth_ev Z p
 have h3 := pred_before_ev Z p
 have hit := hIt p
 refine Z.pred_Check _ _ ⟨Nat.le_of_ble_eq_true rfl, ?_⟩
 generalize hR : Pred.checkE p = R
 unfold Pred.checkE at hR
 rw [Pred.formE_first] at hR
 rw [Pred.cells_eq] at *
 simp only [fn_pred_Check, go_sem]
 refine call_by h1 ?_
 simp only [go_sem]
 split
 ·rename_i h; rw [if_pos h] at hR; simp only [go_sem, hR]
 rename_i h; rw [if_neg h] at hR
 refine call_by h2 ?_
 simp only [go_sem]
 split
 ·rename_i h; rw [if_pos h] at hR; simp only [go_sem, hR]
 rename_i h; rw [if_neg h] at hR
 refine call_by h3 ?_
 simp only [go_sem]
 refine rng_by hit (fun a => ∃ l, a = yields l ∧ ∀ x ∈ l, Pred.err x = 0) (fun _ => ⟨[(2, .ptr 2 0)], [(2, [.d (.int .i64 0)])], []⟩) ?_ ⟨[], rfl, by simp⟩ ?_ ?_
 ·exact Ent_plain (by simp only [go_sem, Option.isSome_some])
 ·intro a x b hx ⟨l, hl, hI⟩
  obtain ⟨a', q, b', e1, rfl, rfl⟩ := yields_mid hx
  obtain rfl := yields_inj hl
  refine ⟨rfl, ?_⟩
  obtain ⟨o, s, n, ks⟩ := q
  have hn := pred_node_ev Z hG o s n ks
  rw [Pred.cells_eq] at hn ⊢
  rw [e1, Pred.first_mid hI] at hR
  simp only [fn_pred_Check_A1, fn_pred_Check_B1, go_sem, Pred.op, Pred.name, Pred.n, Pred.kids] at hn ⊢
  refine call_by hn ?_
  simp only [go_sem]
  have he : Pred.err (.mk o s n ks) = nodeE o s n ks := rfl
  rw [he] at hR
  cases h2 : (nodeE o s n ks != 0) with
  | true => simp only [h2, go_sem] at hR ⊢; simp only [go_sem, hR]
  | false =>
   simp only [go_sem]
   exact ⟨Ent_plain (by simp only [go_sem, Option.isSome_some]), a' ++ [.mk o s n ks], by simp [yields, Pred.cells_eq, Pred.op, Pred.name, Pred.n, Pred.kids], app_all hI (by rw [he]; simpa using h2)⟩
 ·rintro ⟨l, hl, hI⟩
  obtain rfl := yields_inj hl
  rw [Pred.first_all hI] at hR
  simp only [go_sem, hR]
end Go.Abs
end
section
namespace Go.Abs
open Go.RowKit
variable {T : Nat → Option Ty} {P : Program} {G : Nat → Option (List D)}
variable {l : Nat} {J : List (List CV) → World → Safe → Prop} {Jx : World → Safe → Prop}
theorem fn_parts {fn : Func} {fa : FnA} (h : trFn T fn = some fa) : (fn.name == "runtime.NumGoroutine") = false ∧ ∃ cd, fn.body = some cd ∧ tr T fn.ntmps cd = some fa.ac ∧ fn.results.toList.mapM (trRes T) = some fa.rs ∧ fn.ntmps = fa.n := by
 simp only [trFn] at h
 split at h
 ·cases h
 ·rename_i hname
  simp only [Option.bind_eq_bind, Option.pure_def, Option.bind_eq_some_iff, Option.some.injEq] at h
  obtain ⟨cd, hcd, ac, hac, rs, hrs, rfl⟩ := h
  exact ⟨by simpa using hname, cd, hcd, hac, hrs, rfl⟩
theorem stop_tail (hT : ∀ t ty, T t = some ty → chkTy P t ty = true) {fn : Func} {N k : Nat} {cd : Code} {W1 : World} {S1 : Safe} {st : St} {tmps : Array Value} {w : World} {S : Safe} {ρ : Rho} (hrs : fn.results.toList.mapM (trRes T) = some [.t k]) (h : tr T N cd = some (.seq (.reg [(none, .mv k (.c (.d (.bool false))))]) .ret))
  (hs : Sim (baseC P W1 S1 N (fun _ => none)) st tmps w S ρ) (hm : st.mem = []) {R : Ending → World → Prop} (hR : ∀ w' S', Grows W1 S1 w' S' → R (.returned (.bool false)) w') {Q : Exit → Act → World → Prop} (hQ : ∀ a w, LeavesInM Fence.wide 0 P fn a.tmps R a.defers .returning w → Q .ret a w) {m : Nat} :
  cd.wpIn (FR none) m P Q ⟨tmps, []⟩ w := by
 obtain ⟨x, y, rfl, hx, hy⟩ := tr_seq h
 obtain rfl := tr_ret hy
 refine wpIn_seq (reg_step (K := fun s => getS s.slots k = .d (.bool false) ∧ s.mem = []) hT hx hs ?_ ?_)
 ·simp only [go_sem, hm]
 ·rintro st' tm w' S' ρ' hs' ⟨h1, h2⟩
  refine wpIn_ret (hQ _ _ ⟨_, ret_bool hT hrs hs' h2 h1, hR _ _ hs'.grows⟩)
theorem visit_loop (hT : ∀ t ty, T t = some ty → chkTy P t ty = true) {L : List Pred} (hY : YCtx P G l (yields L) J Jx) {fn : Func} (hrs : fn.results.toList.mapM (trRes T) = some [.t 4]) (hN : fn.ntmps = 23) {ks : List Pred} (hlen : (ks.length : Int) ≤ 9223372036854775807)
  (ih : ∀ k ∈ ks, EvY P (yields L) J Jx pred_visit [CV.agg k.cells, CV.one (D.yl l)] (yields k.pre)) {body : Code} (hbody : tr T fn.ntmps body = some fn_pred_visit_L1) {a b : List (List CV)} (hxs : yields L = a ++ yields (Pred.pre.pres ks) ++ b) {W0 : World} {S0 : Safe}
  {RR : Ending → World → Prop} (hRR : ∀ w' S', Jx w' S' → RR (.returned (.bool false)) w') {R : Exit → Act → World → Prop} (hstop : ∀ a w, LeavesInM Fence.wide 0 P fn a.tmps RR a.defers .returning w → R .ret a w)
  (hexit : ∀ W' S3 st tm w S' ρ, J (a ++ yields (Pred.pre.pres ks)) W' S3 → Keeps W0 S0 W' S3 → Sim (baseC P W' S3 fn.ntmps G) st tm w S' ρ → st.mem = [] → R (.exit 0) ⟨tm, []⟩ w) :
  ∀ (rest done : List Pred), ks = done ++ rest → ∀ (W' : World) (S3 : Safe) (tm : Array Value) (w : World) (S' : Safe) (ρ : Rho), J (a ++ yields (Pred.pre.pres done)) W' S3 → Keeps W0 S0 W' S3 →
   Sim (baseC P W' S3 fn.ntmps G) (pureSt [(14, .int .i64 done.length), (13, .int .i64 ks.length), (12, .lst (ks.map Pred.cells)), (1, .yl l)]) tm w S' ρ →
   Inside (FR none) 0 P body R ⟨tm, []⟩ w := by
 unfold fn_pred_visit_L1 at hbody
 obtain ⟨z0, z1, rfl, k0, k1⟩ := tr_seq hbody
 obtain ⟨z2, z3, rfl, k2, k3⟩ := tr_seq k1
 obtain ⟨z4, z5, rfl, k4, k5⟩ := tr_seq k3
 obtain ⟨zg, zy, zz, rfl, kg, ky, kz⟩ := tr_cond k2
 obtain rfl := tr_skip ky
 obtain rfl := tr_exit kz
 obtain ⟨z6, rfl, k6⟩ := tr_block k4
 obtain ⟨z7, z8, rfl, k7, k8⟩ := tr_seq k6
 obtain ⟨z9, z10, rfl, k9, k10⟩ := tr_seq k8
 obtain ⟨vg, vy, vz, rfl, vk, vky, vkz⟩ := tr_cond k10
 obtain rfl := tr_skip vkz
 have hd : ∀ d, d < 23 → d < fn.ntmps := fun d hd => by rw [hN]; exact hd
 intro rest
 induction rest with
 | nil =>
  intro done hdone W' S3 tm w S' ρ hJ' hk' hs
  have hdone : ks = done := by simpa using hdone
  subst hdone
  refine inside_round (wpIn_seq (reg_step (K := fun z => getS z.slots 15 = .d (.bool false) ∧ z.mem = []) hT k0 hs ?_ ?_))
  ·simp only [go_sem, pureSt]
  rintro st1 tm1 w1 S1 ρ1 hs1 ⟨h15, hm⟩
  refine wpIn_seq (cond_step kg hs1 (b := false) (by simp [ev, ev0, h15, AV.strip]) (by simp [gd, ev0, h15, AV.grd]) (fun h => by cases h) (fun _ => wpIn_exit ?_))
  exact hexit _ _ _ _ _ _ _ hJ' hk' hs1 hm
 | cons k rest ihr =>
  intro done hdone W' S3 tm w S' ρ hJ' hk' hs
  have hlt := lt_mid hdone
  have hw : IntKind.i64.wrap ((done.length : Int) + 1) = ((done.length + 1 : Nat) : Int) := wrap_succ (by omega)
  refine inside_round (wpIn_seq (reg_step (K := fun z => z = ⟨[(15, .d (.bool true)), (14, .d (.int .i64 done.length)), (13, .d (.int .i64 ks.length)), (12, .d (.lst (ks.map Pred.cells))), (1, .d (.yl l))], [], []⟩) hT k0 hs ?_ ?_))
  ·simp only [go_sem, pureSt, hlt]
  rintro _ tm1 w1 S1 ρ1 hs1 rfl
  refine wpIn_seq (cond_step kg hs1 (b := true) rfl rfl (fun _ => wpIn_skip ?_) (fun h => by cases h))
  refine wpIn_seq (wpIn_block (wpIn_seq (reg_step (K := fun z => ∃ sl mm, z = ⟨(6, .ptr 6 0) :: sl, (6, (Pred.cells k).map .d) :: mm, []⟩ ∧ getS sl 14 = .d (.int .i64 done.length) ∧ getS sl 13 = .d (.int .i64 ks.length) ∧ getS sl 12 = .d (.lst (ks.map Pred.cells)) ∧ getS sl 1 = .d (.yl l)) hT k7 hs1 ?_ ?_)))
  ·simp only [go_sem, hlt, getD_midP hdone]
   exact ⟨_, _, rfl, rfl, rfl, rfl, rfl⟩
  rintro _ tm2 w2 S2 ρ2 hs2 ⟨sl, mm, rfl, h14, h13, h12, h1⟩
  refine wpIn_seq ?_
  obtain ⟨id, ops, rfl, hops, hok⟩ := tr_reg k9
  obtain ⟨hlen', hget⟩ := trOps_get hops
  have hsz : ops.size = 4 := by simpa using hlen'.symm
  refine wpIn_region ?_
  have hr : List.range ops.size = List.range' 0 2 ++ [2, 3] := by rw [hsz]; rfl
  rw [hr]
  refine ops_pre (c := baseC P W' S3 fn.ntmps G) (E := quietE G) rfl (fun _ _ _ h => h.elim) hT hops (fun o ho d hd => ⟨okDst_D hok ho hd, rfl⟩) (FR.fw none) 0 _
   (K := fun z => z = ⟨(19, .d (.yl l)) :: (18, .agg ((Pred.cells k).map .d)) :: (6, .ptr 6 0) :: sl, (6, (Pred.cells k).map .d) :: mm, []⟩) [2, 3] 2 0 (by omega) ?_ hs2 ?_
  case refine_2 =>
   rw [Pred.cells_eq]
   simp only [go_sem, h1]
  rintro ⟨tm3, ds3⟩ w3 ⟨hds, st3, S4, ρ3, hs3, rfl⟩
  simp only at hds
  subst hds
  obtain ⟨gi2, i2, hl2, htg2, hti2⟩ := hget 2 ops[2] (by simp [hsz])
  obtain ⟨gi3, i3, hl3, htg3, hti3⟩ := hget 3 ops[3] (by simp [hsz])
  simp only [go_sem, Prod.mk.injEq] at hl2 hl3
  obtain ⟨rfl, rfl⟩ := hl2
  rw [wpOpsIn_cons]
  have h4 : 3 + 1 ≤ ops.size := by omega
  have hkm : k ∈ ks := by rw [hdone]; simp
  have hys : yields (Pred.pre.pres ks) = yields (Pred.pre.pres done) ++ (yields k.pre ++ yields (Pred.pre.pres rest)) := by
   rw [hdone, Pred.pres_app, Pred.pre.pres]; simp [yields]
  refine wpOpIn_plain (ops := ops) (k := 2) (o := ops[2]) (by simp [hsz]) htg2 (evy_op hY (a := a ++ yields (Pred.pre.pres done)) (ys := yields k.pre) (b := yields (Pred.pre.pres rest) ++ b) (by rw [hxs, hys]; simp) hJ' hs3 hti2 (hd _ (by omega)) rfl rfl rfl
   (cvs := [.agg (Pred.cells k), .one (.yl l)]) ?_ (ih k hkm) [(14, .int .i64 done.length), (13, .int .i64 ks.length), (12, .lst (ks.map Pred.cells)), (1, .yl l)] ?_ ?_ ?_)
  ·simp only [go_sem]
  ·intro q hq
   simp only [List.mem_cons, List.not_mem_nil, or_false] at hq
   rcases hq with rfl | rfl | rfl | rfl <;> simp only [go_sem, h14, h13, h12, h1]
  rotate_left
  ·
   intro W8 S8 ρ8 hx8 hs8
   refine ops_pre (c := baseC P W8 S8 fn.ntmps fun _ => none) (E := quietE fun _ => none) rfl (fun _ _ _ h => h.elim) hT hops (fun o ho d hd => ⟨okDst_D hok ho hd, rfl⟩) (FR.fw none) 0 _
    (K := fun z => getS z.slots 21 = .d (.bool true) ∧ z.mem = []) [] 1 3 h4 ?_ hs8 ?_
   case refine_2 => simp only [go_sem, pureSt]
   rintro ⟨tm4, ds4⟩ w4 ⟨hds, st4, S4, ρ4, hs4, h10, hm⟩
   simp only at hds
   subst hds
   refine cond_step vk hs4 (b := true) (by simp [ev, ev0, h10, AV.strip]) (by simp [gd, ev0, h10, AV.grd]) (fun _ => ?_) (fun h => by cases h)
   refine stop_tail hT hrs vky hs4 hm (fun w' S' hg => hRR _ _ (hY.growx _ _ _ _ hx8 hg)) (fun a w h => ?_)
   exact hstop a w h
  intro W8 S8 ρ8 hJ8 hk8 hs8
  refine ops_pre (c := baseC P W8 S8 fn.ntmps G) (E := quietE G) rfl (fun _ _ _ h => h.elim) hT hops (fun o ho d hd => ⟨okDst_D hok ho hd, rfl⟩) (FR.fw none) 0 _
    (K := fun z => z = ⟨(21, .d (.bool false)) :: (20, .d (.bool true)) :: (pureSt [(14, .int .i64 done.length), (13, .int .i64 ks.length), (12, .lst (ks.map Pred.cells)), (1, .yl l)]).slots, [], []⟩) [] 1 3 h4 ?_ hs8 ?_
  case refine_2 => simp only [go_sem, pureSt]
  rintro ⟨tm4, ds4⟩ w4 ⟨hds, st4, S4, ρ4, hs4, rfl⟩
  simp only at hds
  subst hds
  refine cond_step vk hs4 (b := false) rfl rfl (fun h => by cases h) (fun _ => wpIn_skip ?_)
  refine reg_step (K := fun z => ∃ sl, z = ⟨(14, .d (.int .i64 (done.length + 1 : Nat))) :: sl, [], []⟩ ∧ getS sl 13 = .d (.int .i64 ks.length) ∧ getS sl 12 = .d (.lst (ks.map Pred.cells)) ∧ getS sl 1 = .d (.yl l)) hT k5 hs4 ?_ ?_
  ·simp only [go_sem, pureSt, hw]
   exact ⟨_, rfl, rfl, rfl, rfl⟩
  rintro _ tm5 w5 S5 ρ5 hs5 ⟨sl5, rfl, g13, g12, g1⟩
  obtain ⟨ρ6, hs6⟩ := Ent.sound hs5 (st1 := pureSt [(14, .int .i64 (done ++ [k]).length), (13, .int .i64 ks.length), (12, .lst (ks.map Pred.cells)), (1, .yl l)]) (Ent_plain (by simp only [go_sem, pureSt, g13, g12, g1, List.length_append]))
  have hkk : Keeps W' S3 w3 _ := hs3.grows.keeps (hY.live _ _ _ hJ')
  exact ihr (done ++ [k]) (by simp [hdone]) W8 S8 tm5 w5 S5 ρ6 (by rw [Pred.pres_app, Pred.pre.pres, Pred.pre.pres]; simpa [yields] using hJ8) ((hk'.trans hkk).trans hk8) hs6
theorem visit_ok (hT : ∀ t ty, T t = some ty → chkTy P t ty = true) {L : List Pred} (hY : YCtx P G l (yields L) J Jx) {fn : Func} (hf : P.funcs[pred_visit]? = some fn) (htr : trFn T fn = some fn_pred_visit) (p : Pred) :
  EvY P (yields L) J Jx pred_visit [.agg (Pred.cells p), .one (.yl l)] (yields p.pre) := by
 induction p using Pred.ind with
 | h o s n ks ih =>
 obtain ⟨hname, cd, hcd, hac, hrs, hN⟩ := fn_parts htr
 refine ⟨⟨fn, hf, hname, by simp [hcd]⟩, ?_⟩
 intro a b W S cargs hxs hJ hargs
 refine callsIn_wide.1 (callsIn_of_wp_marks (n := 0) hf hcd trivial ?_)
 have hs0 := init_sim (P := P) (G := G) (fn := fn) (by rw [hN]; exact Nat.le_of_ble_eq_true rfl) (hY.live _ _ _ hJ) (hY.glob _ _ _ hJ) hargs
 change Sim (baseC P W S fn.ntmps G) _ _ _ _ _ at hs0
 obtain ⟨x0, y0, rfl, h0, hac⟩ := tr_seq hac
 obtain ⟨x1, y1, rfl, h1, hac⟩ := tr_seq hac
 obtain ⟨x2, y2, rfl, h2, h3⟩ := tr_seq hac
 obtain ⟨x1a, x1b, rfl, h1a, h1b⟩ := tr_seq h1
 obtain ⟨x2a, x2b, rfl, h2a, h2b⟩ := tr_seq h2
 obtain ⟨x3a, x3b, rfl, h3a, h3b⟩ := tr_seq h3
 obtain rfl := tr_ret h3b
 obtain ⟨cg, cy, cz, rfl, hcg, hcy, hcz⟩ := tr_cond h1b
 obtain rfl := tr_skip hcz
 have hd : ∀ d, d < 23 → d < fn.ntmps := fun d hd => by rw [hN]; exact hd
 rw [Pred.cells_eq] at hargs hs0
 simp only [Pred.op, Pred.name, Pred.n, Pred.kids] at hargs hs0
 generalize hcs : ([D.int .i64 o, D.str s, D.int .i64 n, D.lst (ks.map Pred.cells)] : List D) = pc at hargs hs0
 refine wpIn_seq (reg_step (K := fun z => z = ⟨[(4, .d (.bool false)), (2, .ptr 2 0), (0, .agg (pc.map .d)), (1, .d (.yl l))], [(2, pc.map .d)], []⟩) hT h0 hs0 ?_ ?_)
 ·subst hcs; simp only [go_sem]
 rintro _ tm1 w1 S1 ρ1 hs1 rfl
 refine wpIn_seq ?_
 refine wpIn_seq ?_
 obtain ⟨id, ops, rfl, hops, hok⟩ := tr_reg h1a
 obtain ⟨hlen, hget⟩ := trOps_get hops
 have hsz : ops.size = 4 := by simpa using hlen.symm
 refine wpIn_region ?_
 have hr : List.range ops.size = List.range' 0 2 ++ [2, 3] := by rw [hsz]; rfl
 rw [hr]
 refine ops_pre (c := baseC P W S fn.ntmps G) (E := quietE G) rfl (fun _ _ _ h => h.elim) hT hops (fun o ho d hd => ⟨okDst_D hok ho hd, rfl⟩) (FR.fw none) 0 _
  (K := fun z => z = ⟨[(8, .agg (pc.map .d)), (7, .d (.yl l)), (4, .d (.bool false)), (2, .ptr 2 0), (0, .agg (pc.map .d)), (1, .d (.yl l))], [(2, pc.map .d)], []⟩) [2, 3] 2 0 (by omega) ?_ hs1 ?_
 case refine_2 =>
  subst hcs
  simp only [go_sem]
 rintro ⟨tm2, ds2⟩ w2 ⟨hds, st2, S2, ρ2, hs2, rfl⟩
 simp only at hds
 subst hds
 obtain ⟨gi2, i2, hl2, htg2, hti2⟩ := hget 2 ops[2] (by simp [hsz])
 obtain ⟨gi3, i3, hl3, htg3, hti3⟩ := hget 3 ops[3] (by simp [hsz])
 simp only [go_sem, Prod.mk.injEq] at hl2 hl3
 obtain ⟨rfl, rfl⟩ := hl2
 rw [wpOpsIn_cons]
 have hpre : yields (Pred.mk o s n ks).pre = [.agg pc] :: yields (Pred.pre.pres ks) := by
  rw [Pred.pre_eq, yields, List.map_cons, Pred.cells_eq]
  simp only [Pred.op, Pred.name, Pred.n, Pred.kids, hcs]; rfl
 rw [hpre] at hxs
 have h4 : 3 + 1 ≤ ops.size := by omega
 refine wpOpIn_plain (ops := ops) (k := 2) (o := ops[2]) (by simp [hsz]) htg2 (yield_op hY (x := [.agg pc]) (b := yields (Pred.pre.pres ks) ++ b) (by simpa using hxs) hJ hs2 hti2 (hd _ (by omega)) rfl rfl rfl ?_ [(2, .ref pc), (1, .yl l), (4, .bool false)] ?_ ?_ ?_)
 ·simp only [go_sem]
 ·subst hcs
  intro q hq
  simp only [List.mem_cons, List.not_mem_nil, or_false] at hq
  rcases hq with rfl | rfl | rfl
  ·simp only [go_sem, List.mapM_cons, List.mapM_nil, Option.bind_eq_bind, Option.bind_some, Option.pure_def]
  ·rfl
  ·rfl
 rotate_left
 ·
  intro W' S3 ρ3 hx3 hs3
  refine ops_pre (c := baseC P W' S3 fn.ntmps fun _ => none) (E := quietE fun _ => none) rfl (fun _ _ _ h => h.elim) hT hops (fun o ho d hd => ⟨okDst_D hok ho hd, rfl⟩) (FR.fw none) 0 _
   (K := fun z => getS z.slots 10 = .d (.bool true) ∧ z.mem = []) [] 1 3 h4 ?_ hs3 ?_
  case refine_2 => simp only [go_sem, pureSt]
  rintro ⟨tm4, ds4⟩ w4 ⟨hds, st4, S4, ρ4, hs4, h10, hm⟩
  simp only at hds
  subst hds
  refine cond_step hcg hs4 (b := true) (by simp [ev, ev0, h10, AV.strip]) (by simp [gd, ev0, h10, AV.grd]) (fun _ => ?_) (fun h => by cases h)
  refine stop_tail hT hrs hcy hs4 hm (fun w' S' hg => .inr ⟨rfl, S', hY.growx _ _ _ _ hx3 hg⟩) (fun _ _ h => h)
 intro W' S3 ρ3 hJ3 hk3 hs3
 refine ops_pre (c := baseC P W' S3 fn.ntmps G) (E := quietE G) rfl (fun _ _ _ h => h.elim) hT hops (fun o ho d hd => ⟨okDst_D hok ho hd, rfl⟩) (FR.fw none) 0 _
   (K := fun z => z = ⟨[(10, .d (.bool false)), (9, .d (.bool true)), (2, .d (.ref pc)), (1, .d (.yl l)), (4, .d (.bool false))], [], []⟩) [] 1 3 h4 ?_ hs3 ?_
 case refine_2 => simp only [go_sem, pureSt]
 rintro ⟨tm4, ds4⟩ w4 ⟨hds, st4, S4, ρ4, hs4, rfl⟩
 simp only at hds
 subst hds
 refine cond_step hcg hs4 (b := false) rfl rfl (fun h => by cases h) (fun _ => wpIn_skip ?_)
 refine wpIn_seq ?_
 refine wpIn_seq ?_
 refine reg_step (K := fun z => (ks.length : Int) ≤ 9223372036854775807 ∧ ∃ sl, z = ⟨(14, .d (.int .i64 0)) :: (13, .d (.int .i64 ks.length)) :: (12, .d (.lst (ks.map Pred.cells))) :: sl, [], []⟩ ∧ getS sl 1 = .d (.yl l)) hT h2a hs4 ?_ ?_
 ·subst hcs
  simp only [go_sem]
  intro hlen
  exact ⟨hlen, _, rfl, rfl⟩
 rintro _ tm5 w5 S5 ρ5 hs5 ⟨hlen, sl5, rfl, hsl5⟩
 obtain ⟨xl0, rfl, h2c⟩ := tr_block h2b
 obtain ⟨xl, rfl, h2d⟩ := tr_loop h2c
 refine wpIn_block (wp_loop_inside ?_)
 obtain ⟨ρ6, hs6⟩ := Ent.sound hs5 (st1 := pureSt [(14, .int .i64 (0 : Nat)), (13, .int .i64 ks.length), (12, .lst (ks.map Pred.cells)), (1, .yl l)]) (Ent_plain (by simp only [go_sem, pureSt, hsl5]))
 refine visit_loop hT hY hrs hN hlen ih h2d (a := a ++ [[.agg pc]]) (b := b) (by rw [hxs]; simp) (W0 := W) (S0 := S) (RR := _) (fun w' S' hx => .inr ⟨rfl, S', hx⟩) (fun a w h => h) ?_ ks [] rfl W' S3 tm5 w5 S5 ρ6 (by simpa [Pred.pre.pres, yields] using hJ3) ((hs2.grows.keeps (hY.live _ _ _ hJ)).trans hk3) hs6
 intro W7 S7 st7 tm7 w7 S7' ρ7 hJ7 hk7 hs7 hm7
 refine wpIn_seq (reg_step (K := fun z => getS z.slots 4 = .d (.bool true) ∧ z.mem = []) hT h3a hs7 ?_ ?_)
 ·simp only [go_sem, hm7]
 rintro st8 tm8 w8 S8 ρ8 hs8 ⟨h8, hm8⟩
 refine wpIn_ret ⟨_, ret_bool hT hrs hs8 hm8 h8, .inl ⟨rfl, S8, ?_, hk7.trans (hs8.grows.keeps (hY.live _ _ _ hJ7))⟩⟩
 rw [hpre]
 exact hY.grow _ W7 S7 w8 S8 (by simpa using hJ7) hs8.grows
theorem before_1_ok (hT : ∀ t ty, T t = some ty → chkTy P t ty = true) {fv : Func} (hfv : P.funcs[pred_visit]? = some fv) (htrv : trFn T fv = some fn_pred_visit) {fn : Func} (hf : P.funcs[pred_before_1]? = some fn) (htr : trFn T fn = some fn_pred_before_1) (p : Pred) :
  ItOk P G pred_before_1 [.ref (Pred.cells p)] (yields p.pre) := by
 obtain ⟨hname, cd, hcd, hac, hrs, hN⟩ := fn_parts htr
 refine ⟨⟨fn, hf, hname, by simp [hcd]⟩, ?_⟩
 intro l w S cs J Jx hlive hglob hcs hgrow hgrowx hlk hlx hyield hJ0
 have hY : YCtx P G l (yields p.pre) J Jx := ⟨hgrow, hgrowx, fun _ _ _ h => (hlk _ _ _ h).1, hlx, fun _ _ _ h => ⟨fun g c hg => RepCs.keep (hlk _ _ _ h).2.1 _ _ _ (hglob.1 g c hg), (hlk _ _ _ h).2.2⟩, hyield⟩
 refine callsIn_wide.1 (callsIn_of_wp_marks (n := 0) hf hcd trivial ?_)
 have hargs : RepCL w S [.one (.yl l), .one (.ref (Pred.cells p))] ((#[.func (.yield l) #[] #[]] : Array Value) ++ cs.toArray).toList := by
  obtain ⟨v, r, h1, h2, h3⟩ := hcs
  simp only [RepL] at h3
  subst h3
  subst h1
  exact ⟨_, _, rfl, rfl, _, _, rfl, h2, rfl⟩
 have hs0 := init_sim (P := P) (G := G) (fn := fn) (by rw [hN]; exact Nat.le_of_ble_eq_true rfl) hlive hglob hargs
 change Sim (baseC P w S fn.ntmps G) _ _ _ _ _ at hs0
 obtain ⟨id, ops, rfl, hops, hok⟩ := tr_reg hac
 obtain ⟨hlen', hget⟩ := trOps_get hops
 have hsz : ops.size = 3 := by simpa using hlen'.symm
 refine wpIn_region ?_
 have hr : List.range ops.size = List.range' 0 2 ++ [2] := by rw [hsz]; rfl
 rw [hr]
 refine ops_pre (c := baseC P w S fn.ntmps G) (E := quietE G) rfl (fun _ _ _ h => h.elim) hT hops (fun o ho d hd => ⟨okDst_D hok ho hd, rfl⟩) (FR.fw none) 0 _
   (K := fun z => z = ⟨[(4, .d (.yl l)), (3, .agg ((Pred.cells p).map .d)), (0, .d (.yl l)), (1, .d (.ref (Pred.cells p)))], [], []⟩) [2] 2 0 (by omega) ?_ hs0 ?_
 case refine_2 =>
  rw [Pred.cells_eq]
  simp only [go_sem]
 rintro ⟨tm3, ds3⟩ w3 ⟨hds, st3, S4, ρ3, hs3, rfl⟩
 simp only at hds
 subst hds
 obtain ⟨gi2, i2, hl2, htg2, hti2⟩ := hget 2 ops[2] (by simp [hsz])
 simp only [fn_pred_before_1, go_sem, Prod.mk.injEq] at hl2
 obtain ⟨rfl, rfl⟩ := hl2
 rw [wpOpsIn_cons]
 have hres : ∀ tm w, (results fn tm).run P w = .ok (.tuple #[]) w := by
  intro tm w
  have : fn.results = #[] := by
   have hrs' : fn.results.toList.mapM (trRes T) = some [] := hrs
   cases hc : fn.results.toList with
   | nil => exact Array.toList_eq_nil_iff.1 hc
   | cons x xs =>
    rw [hc] at hrs'
    simp only [List.mapM_cons, Option.bind_eq_bind, Option.bind_eq_some_iff, Option.pure_def, Option.some.injEq] at hrs'
    obtain ⟨_, _, _, _, h⟩ := hrs'
    cases h
  rw [results_eq, this]
  simp
 refine wpOpIn_plain (ops := ops) (k := 2) (o := ops[2]) (by simp [hsz]) htg2 (evy_op hY (a := []) (ys := yields p.pre) (b := []) (by simp) hJ0 hs3 hti2 (by rw [hN]; exact Nat.le_of_ble_eq_true rfl) rfl rfl rfl
   (cvs := [.agg (Pred.cells p), .one (.yl l)]) ?_ (visit_ok hT hY hfv htrv p) [] (fun q hq => by cases hq) ?_ ?_)
 ·rw [Pred.cells_eq]; simp only [go_sem]
 ·intro W8 S8 ρ8 hJ8 hk8 hs8
  exact ⟨_, hres _ _, _, rfl, .inl ⟨S8, by simpa using hJ8⟩⟩
 ·intro W8 S8 ρ8 hx8 hs8
  exact ⟨_, hres _ _, _, rfl, .inr ⟨S8, hx8⟩⟩
end Go.Abs
end
section
namespace Go.Abs
abbrev Str := List UInt8
structure SVar where
 name : Str
 sort : Str
def SVar.cells (v : SVar) : List D := [.str v.name, .str v.sort]
def scell (s : Str) : List D := [.str s]
structure SSym where
 name : Str
 args : List Str
 res : Str
def SSym.cells (v : SSym) : List D := [.str v.name, .lst (v.args.map scell), .str v.res]
structure SHole where
 name : Str
 params : List SVar
def SHole.cells (v : SHole) : List D := [.str v.name, .lst (v.params.map SVar.cells)]
structure SEnv where
 vars : List SVar
 syms : List SSym
 holes : List SHole
def SEnv.cells (v : SEnv) : List D := [.lst (v.vars.map SVar.cells), .lst (v.syms.map SSym.cells), .lst (v.holes.map SHole.cells)]
theorem lens_map {α : Type} {f : α → List D} {k : Nat} (h : ∀ x, (f x).length = k) (l : List α) : (∀ e ∈ l.map f, e.length = k) = True := eq_true (by
 intro e he; obtain ⟨p, _, rfl⟩ := List.mem_map.1 he; exact h p)
theorem SVar.lens (l : List SVar) : (∀ e ∈ l.map SVar.cells, e.length = 2) = True := lens_map (f := SVar.cells) (fun _ => rfl) l
theorem SSym.lens (l : List SSym) : (∀ e ∈ l.map SSym.cells, e.length = 3) = True := lens_map (f := SSym.cells) (fun _ => rfl) l
theorem SHole.lens (l : List SHole) : (∀ e ∈ l.map SHole.cells, e.length = 2) = True := lens_map (f := SHole.cells) (fun _ => rfl) l
theorem scell_lens (l : List Str) : (∀ e ∈ l.map scell, e.length = 1) = True := lens_map (f := scell) (fun _ => rfl) l
attribute [go_sem] SVar.lens SSym.lens SHole.lens scell_lens
theorem getD_at {α β : Type} {f : α → β} {l a r : List α} {x : α} {d : β} (hl : l = a ++ x :: r) : (l.map f).getD a.length d = f x := by rw [hl]; exact getD_mid _ _ _ _ _
theorem find_mid {α : Type} {p : α → Bool} {a r : List α} {x : α} (ha : ∀ y ∈ a, p y = false) : (a ++ x :: r).find? p = if p x = true then some x else r.find? p := by
 induction a with
 | nil => simp only [List.nil_append, List.find?]; cases p x <;> rfl
 | cons y a ih => rw [List.cons_append, List.find?, ha y (by simp)]; exact ih fun z hz => ha z (by simp [hz])
theorem find_all {α : Type} {p : α → Bool} {a : List α} (ha : ∀ y ∈ a, p y = false) : a.find? p = none := by
 rw [List.find?_eq_none]; intro x hx; rw [ha x hx]; simp
variable {E : AEnv} (Z : Sys E)
include Z
end Go.Abs
end
section
namespace Go.Abs
def Small (n : Nat) : Prop := n ≤ 1048576
structure SEnv.Ok (v : SEnv) : Prop where
 syms : ∀ s ∈ v.syms, Small s.args.length
 holes : ∀ h ∈ v.holes, Small h.params.length
variable {E : AEnv} (Z : Sys E)
include Z
end Go.Abs
end
section
namespace Go.Abs
def two (r : Str × Int) : CV := .tup [.one (.str r.1), .one (.int .i64 r.2)]
variable {E : AEnv} (Z : Sys E)
include Z
end Go.Abs
end
section
namespace Go.Abs
def NodeOk (q : Pred) : Prop := ((q.op == 10 || q.op == 11) = true → 2 ≤ q.kids.length) ∧ q.kids.length ≤ 24
def Arity (p : Pred) : Prop := ∀ q ∈ p.pre, NodeOk q
theorem Arity.kid {o : Int} {s : Str} {n : Int} {ks : List Pred} (h : Arity (.mk o s n ks)) {k : Pred} (hk : k ∈ ks) : Arity k := by
 intro q hq
 refine h q ?_
 rw [Pred.pre_eq]
 refine List.mem_cons_of_mem _ ?_
 clear h
 induction ks with
 | nil => cases hk
 | cons x ks ih =>
  rw [Pred.pre.pres, List.mem_append]
  rcases List.mem_cons.1 hk with rfl | hk
  ·exact .inl hq
  ·exact .inr (ih hk)
theorem Arity.top {o : Int} {s : Str} {n : Int} {ks : List Pred} (h : Arity (.mk o s n ks)) : NodeOk (.mk o s n ks) := h _ (by rw [Pred.pre_eq]; simp)
theorem first_zero : ∀ {l : List Pred}, Pred.first l = 0 → ∀ q ∈ l, Pred.err q = 0
 | [], _, q, hq => by cases hq
 | p :: l, h, q, hq => by
  rw [Pred.first] at h
  by_cases hp : (Pred.err p != 0) = true
  ·rw [if_pos hp] at h; simp [h] at hp
  ·rw [if_neg hp] at h
   rcases List.mem_cons.1 hq with rfl | hq
   ·simpa using hp
   ·exact first_zero h q hq
variable {E : AEnv} (Z : Sys E)
include Z
end Go.Abs
end
section
namespace Go.Abs
theorem formE_of_check {p : Pred} (h : p.checkE = 0) : p.formE = 0 := by
 unfold Pred.checkE at h
 by_cases h1 : decide (p.nodes > 400) = true
 ·rw [if_pos h1] at h; cases h
 ·rw [if_neg h1] at h
  by_cases h2 : decide (p.depth > 40) = true
  ·rw [if_pos h2] at h; cases h
  ·rw [if_neg h2] at h; exact h
end Go.Abs
end
section
namespace Go.Abs
namespace Pred
def same : Pred → Pred → Bool
 | .mk o s n ks, .mk o' s' n' ks' => o == o' && s == s' && n == n' && sames ks ks'
where sames : List Pred → List Pred → Bool
 | [], [] => true
 | k :: ks, k' :: ks' => same k k' && sames ks ks'
 | _, _ => false
theorem same_eq (o : Int) (s : Str) (n : Int) (ks : List Pred) (o' : Int) (s' : Str) (n' : Int) (ks' : List Pred) : same (.mk o s n ks) (.mk o' s' n' ks') = (o == o' && s == s' && n == n' && same.sames ks ks') := by rw [same]
theorem same_iff : ∀ (a b : Pred), same a b = true ↔ a = b := by
 intro a
 induction a using Pred.ind with
 | h o s n ks ih =>
 intro b
 obtain ⟨o', s', n', ks'⟩ := b
 have hk : ∀ l', same.sames ks l' = true ↔ ks = l' := by
  induction ks with
  | nil => intro l'; cases l' <;> simp [same.sames]
  | cons k ks ih2 =>
   intro l'
   cases l' with
   | nil => simp [same.sames]
   | cons k' l' => simp only [same.sames, Bool.and_eq_true, List.cons.injEq, ih k (by simp) k', ih2 (fun x hx => ih x (by simp [hx])) l']
 rw [same_eq]
 simp only [Bool.and_eq_true, beq_iff_eq, hk, Pred.mk.injEq, and_assoc]
theorem sames_iff : ∀ (a b : List Pred), same.sames a b = true ↔ a = b
 | [], [] => by simp [same.sames]
 | [], _ :: _ => by simp [same.sames]
 | _ :: _, [] => by simp [same.sames]
 | x :: a, y :: b => by simp only [same.sames, Bool.and_eq_true, List.cons.injEq, same_iff, sames_iff a b]
theorem sames_app : ∀ {a b l l' : List Pred}, a.length = b.length → same.sames (a ++ l) (b ++ l') = (same.sames a b && same.sames l l')
 | [], [], l, l', _ => by simp [same.sames]
 | x :: a, y :: b, l, l', h => by simp only [List.cons_append, same.sames, sames_app (a := a) (b := b) (by simpa using h), Bool.and_assoc]
 | [], _ :: _, _, _, h => by simp at h
 | _ :: _, [], _, _, h => by simp at h
theorem sames_len : ∀ {a b : List Pred}, a.length ≠ b.length → same.sames a b = false := by
 intro a b h
 rw [Bool.eq_false_iff]
 intro e
 exact h (by rw [(sames_iff a b).1 e])
end Pred
theorem at_split {α : Type} {b : List α} {n : Nat} (h : n < b.length) : ∃ bd y r, b = bd ++ y :: r ∧ bd.length = n := by
 have := List.take_append_drop n b
 rw [List.drop_eq_getElem_cons h] at this
 exact ⟨_, _, _, this.symm, by simp; omega⟩
theorem getD_atP {b bd r : List Pred} {y : Pred} {n : Nat} (hb : b = bd ++ y :: r) (hn : bd.length = n) : (b.map Pred.cells).getD n [] = Pred.cells y := by subst hn; exact getD_midP hb
def zeroP : Pred := .mk 0 [] 0 []
def trueP : Pred := .mk 2 [] 1 []
def falseP : Pred := .mk 2 [] 0 []
theorem same_zero (o : Int) (s : Str) (n : Int) (ks : List Pred) : (Pred.mk o s n ks).same zeroP = (o == 0 && s == [] && n == 0 && (ks.length : Int) == 0) := by
 unfold zeroP
 rw [Pred.same_eq]
 congr 1
 cases ks with
 | nil => rfl
 | cons k ks => simp [Pred.same.sames]; omega
variable {E : AEnv} (Z : Sys E)
include Z
theorem pred_equal_ev (a b : List Pred) (h : ∀ x ∈ a, ∀ y, E.C pred_Same [.agg (Pred.cells x), .agg (Pred.cells y)] (.one (.bool (x.same y)))) :
  E.C pred_equal_api_Pred [.one (.lst (a.map Pred.cells)), .one (.lst (b.map Pred.cells)), .one (.clo pred_Same [])] (.one (.bool (Pred.same.sames a b))) := by
 refine Z.pred_equal_api_Pred _ _ ⟨Nat.le_of_ble_eq_true rfl, ?_⟩
 generalize hR : Pred.same.sames a b = R
 simp only [fn_pred_equal_api_Pred, go_sem]
 intro hl1 hl2
 by_cases hlen : a.length = b.length
 ·have h1 : ((a.length : Int) != (b.length : Int)) = false := by simp [hlen]
  simp only [h1, go_sem]
  intro _
  refine loop_list a (fun done => Pred.same.sames done (b.take done.length) = true) (fun done rest => ⟨[(15, .d (.int .i64 done.length)), (14, .d (.int .i64 a.length)), (2, .d (.clo pred_Same [])), (0, .d (.lst (a.map Pred.cells))), (1, .d (.lst (b.map Pred.cells)))], [], []⟩) ?_ (by simp [Pred.same.sames]) ?_ ?_
  ·exact Ent_plain (by simp only [go_sem])
  ·intro done x r hl hI
   obtain ⟨bd, y, r', hb, hbl⟩ := at_split (b := b) (n := done.length) (by rw [← hlen, hl]; simp)
   have htk : b.take done.length = bd := by rw [hb]; exact List.take_left' hbl
   have hlt := lt_mid hl
   have hlt2 := lt_mid hb
   rw [hbl] at hlt2
   have hw : IntKind.i64.wrap ((done.length : Int) + 1) = ((done.length + 1 : Nat) : Int) := wrap_succ (by omega)
   rw [htk] at hI
   rw [hl, hb, Pred.sames_app hbl.symm, hI, Pred.same.sames, Bool.true_and] at hR
   simp only [fn_pred_equal_api_Pred_L1, go_sem, getD_midP hl, getD_atP hb hbl, hlt, hlt2]
   refine call_by (h x (by rw [hl]; simp) y) ?_
   cases h2 : x.same y with
   | true =>
    simp only [go_sem, hw, List.length_append]
    refine ⟨Ent_plain (by simp only [go_sem]), ?_⟩
    have ht2 : b.take (done.length + 1) = bd ++ [y] := by rw [hb, show bd ++ y :: r' = (bd ++ [y]) ++ r' by simp]; exact List.take_left' (by simp [hbl])
    rw [ht2, Pred.sames_app hbl.symm, hI]
    simp [Pred.same.sames, h2]
   | false => simp only [h2, go_sem] at hR ⊢; exact hR
  ·intro hI
   rw [hlen, List.take_length] at hI
   rw [hI] at hR
   subst hR
   simp only [fn_pred_equal_api_Pred_L1, go_sem]
 ·have h1 : ((a.length : Int) != (b.length : Int)) = true := by simp; omega
  rw [Pred.sames_len hlen] at hR
  simp only [h1, go_sem, hR]
theorem pred_Same_ev (a : Pred) : ∀ b, E.C pred_Same [.agg (Pred.cells a), .agg (Pred.cells b)] (.one (.bool (a.same b))) := by
 induction a using Pred.ind with
 | h o s n ks ih =>
 intro b
 obtain ⟨o', s', n', ks'⟩ := b
 have he := pred_equal_ev Z ks ks' ih
 refine Z.pred_Same _ _ ⟨Nat.le_of_ble_eq_true rfl, ?_⟩
 rw [Pred.cells_eq, Pred.cells_eq, Pred.same_eq]
 simp only [fn_pred_Same, go_sem, Pred.op, Pred.name, Pred.n, Pred.kids]
 refine call_g he ?_
 simp only [go_sem]
theorem r07_Same_ev (a : Pred) : ∀ b, E.C r07_Same [.agg (Pred.cells a), .agg (Pred.cells b)] (.one (.bool (a.same b))) := by
 induction a using Pred.ind with
 | h o s n a ih =>
 intro b
 obtain ⟨o', s', n', b⟩ := b
 refine Z.r07_Same _ _ ⟨Nat.le_of_ble_eq_true rfl, ?_⟩
 generalize hR : Pred.same (.mk o s n a) (.mk o' s' n' b) = R
 rw [Pred.same_eq] at hR
 rw [Pred.cells_eq, Pred.cells_eq]
 simp only [fn_r07_Same, go_sem, Pred.op, Pred.name, Pred.n, Pred.kids]
 intro hl1 hl2
 cases h0 : (o != o' || !s == s' || n != n') with
 | true =>
  have : (o == o' && s == s' && n == n') = false := by
   rw [Bool.eq_false_iff]; intro e; simp only [Bool.and_eq_true, beq_iff_eq] at e; simp [e.1.1, e.1.2, e.2] at h0
  rw [this] at hR
  simp only [go_sem] at hR
  simp only [go_sem, hR]
 | false =>
 have : (o == o' && s == s' && n == n') = true := by
  simp at h0; simp [h0.1.1, h0.1.2, h0.2]
 rw [this, Bool.true_and] at hR
 by_cases hlen : a.length = b.length
 ·have h1 : ((a.length : Int) != (b.length : Int)) = false := by simp [hlen]
  simp only [h1, go_sem]
  intro _
  refine loop_list a (fun done => Pred.same.sames done (b.take done.length) = true) (fun done rest => ⟨[(37, .d (.int .i64 done.length)), (36, .d (.int .i64 a.length)), (2, .ptr 2 0), (3, .ptr 3 0)],
   [(2, [.d (.int .i64 o), .d (.str s), .d (.int .i64 n), .d (.lst (a.map Pred.cells))]), (3, [.d (.int .i64 o'), .d (.str s'), .d (.int .i64 n'), .d (.lst (b.map Pred.cells))])], []⟩) ?_ (by simp [Pred.same.sames]) ?_ ?_
  ·exact Ent_plain (by simp only [go_sem, Option.isSome_some])
  ·intro done x r hl hI
   obtain ⟨bd, y, r', hb, hbl⟩ := at_split (b := b) (n := done.length) (by rw [← hlen, hl]; simp)
   have htk : b.take done.length = bd := by rw [hb]; exact List.take_left' hbl
   have hlt := lt_mid hl
   have hlt2 := lt_mid hb
   rw [hbl] at hlt2
   have hw : IntKind.i64.wrap ((done.length : Int) + 1) = ((done.length + 1 : Nat) : Int) := wrap_succ (by omega)
   rw [htk] at hI
   rw [hl, hb, Pred.sames_app hbl.symm, hI, Pred.same.sames, Bool.true_and] at hR
   simp only [fn_r07_Same_L1, go_sem, getD_midP hl, getD_atP hb hbl, hlt, hlt2]
   refine call_by (ih x (by rw [hl]; simp) y) ?_
   cases h2 : x.same y with
   | true =>
    simp only [go_sem, hw, List.length_append]
    refine ⟨Ent_plain (by simp only [go_sem, Option.isSome_some]), ?_⟩
    have ht2 : b.take (done.length + 1) = bd ++ [y] := by rw [hb, show bd ++ y :: r' = (bd ++ [y]) ++ r' by simp]; exact List.take_left' (by simp [hbl])
    rw [ht2, Pred.sames_app hbl.symm, hI]
    simp [Pred.same.sames, h2]
   | false => simp only [h2, go_sem] at hR ⊢; exact hR
  ·intro hI
   rw [hlen, List.take_length] at hI
   rw [hI] at hR
   subst hR
   simp only [fn_r07_Same_L1, go_sem]
 ·have h1 : ((a.length : Int) != (b.length : Int)) = true := by simp; omega
  rw [Pred.sames_len hlen] at hR
  simp only [h1, go_sem, hR]
end Go.Abs
end
section
namespace Go.Abs
theorem Ent_convm {st st1 : St} (s i t sz : Nat) (cs : List AV) (es : List (List D)) (mp : TMap) (h0 : getM st.mem s = some cs) (h1 : cs[i]? = some (.full es)) (h2 : ∀ e ∈ es, e.length = sz) (h3 : getT st.tk t = none)
  (h : Ent0 mp { st with mem := (s, cs.set i (.own t sz es)) :: st.mem, tk := (t, true) :: st.tk } st1) : Ent st st1 := ⟨[(.m s i, t, sz)], mp, _, ⟨_, ⟨cs, es, h0, h1, h2, h3, rfl⟩, rfl⟩, h⟩
def AllN (P : Pred → Prop) (p : Pred) : Prop := ∀ q ∈ p.pre, P q
theorem AllN.kid {P : Pred → Prop} {o : Int} {s : Str} {n : Int} {ks : List Pred} (h : AllN P (.mk o s n ks)) {k : Pred} (hk : k ∈ ks) : AllN P k := by
 intro q hq
 refine h q ?_
 rw [Pred.pre_eq]
 refine List.mem_cons_of_mem _ ?_
 clear h
 induction ks with
 | nil => cases hk
 | cons x ks ih =>
  rw [Pred.pre.pres, List.mem_append]
  rcases List.mem_cons.1 hk with rfl | hk
  ·exact .inl hq
  ·exact .inr (ih hk)
theorem AllN.top {P : Pred → Prop} {o : Int} {s : Str} {n : Int} {ks : List Pred} (h : AllN P (.mk o s n ks)) : P (.mk o s n ks) := h _ (by rw [Pred.pre_eq]; simp)
def Tame : Pred → Prop := AllN fun q => Small q.kids.length
theorem one_split {α : Type} {l : List α} (h : l.length = 1) : ∃ a, l = [a] := by
 match l, h with
 | [a], _ => exact ⟨a, rfl⟩
variable {E : AEnv} (Z : Sys E)
include Z
theorem pred_copied_ev (p : Pred) (hp : Tame p) : E.C pred_copied [.agg (Pred.cells p)] (.agg (Pred.cells p)) := by
 induction p using Pred.ind with
 | h o s n ks ih =>
 refine Z.pred_copied _ _ ⟨Nat.le_of_ble_eq_true rfl, ?_⟩
 rw [Pred.cells_eq]
 have hk : Small ks.length := hp.top
 unfold Small at hk
 simp only [fn_pred_copied, go_sem, Pred.op, Pred.name, Pred.n, Pred.kids]
 intro hlen
 refine loop_list ks (fun _ => True) (fun done rest => ⟨[(16, .d (.int .i64 done.length)), (15, .d (.int .i64 ks.length)), (14, .d (.lst (ks.map Pred.cells))), (3, .ptr 3 0), (2, .ptr 2 0)], [(3, [.d (.int .i64 o), .d (.str s), .d (.int .i64 n), .own 3 4 (done.map Pred.cells)]), (2, [.d (.int .i64 0), .d (.str []), .d (.int .i64 0), .full []])], [(3, true)]⟩) ?_ trivial ?_ ?_
 ·exact Ent_convm 3 3 3 4 _ [] [(3, 3)] rfl rfl (by simp) rfl (by simp only [Ent0, go_sem, List.contains_nil, Option.isSome_some])
 ·intro done k r hl _
  have hk' := ih k (by rw [hl]; simp) (hp.kid (by rw [hl]; simp))
  have hlt := lt_mid hl
  have hw : IntKind.i64.wrap ((done.length : Int) + 1) = ((done.length + 1 : Nat) : Int) := wrap_succ (by omega)
  have hd : done.length < ks.length := by omega
  have ha1 : (done.length + 1) * 56 ≤ 2 ^ 46 := by omega
  simp only [fn_pred_copied_L1, go_sem, hlt, getD_midP hl]
  refine call_by hk' ?_
  simp only [go_sem, hw, List.length_append, List.length_map, List.map_append, Pred.lens_true]
  refine ⟨⟨by simp [Pred.cells_length], ha1, by omega⟩, Ent_own [(3, 25)] ?_⟩
  simp only [go_sem, List.contains_nil, Option.isSome_some]
 ·intro _
  simp only [fn_pred_copied_L1, go_sem]
theorem pred_constant_ev (b : Bool) : E.C pred_constant [.one (.bool b)] (.agg (Pred.cells (if b then trueP else falseP))) := by
 refine Z.pred_constant _ _ ⟨Nat.le_of_ble_eq_true rfl, ?_⟩
 cases b <;> simp only [fn_pred_constant, go_sem, trueP, falseP, Pred.cells_eq, Pred.op, Pred.name, Pred.n, Pred.kids]
def voidP (p : Pred) : Bool := p.same zeroP || p.same trueP
theorem pred_void_ev (p : Pred) : E.C pred_void [.agg (Pred.cells p)] (.one (.bool (voidP p))) := by
 have h0 := pred_Same_ev Z p zeroP
 have h1 := pred_Same_ev Z p trueP
 have h2 := pred_constant_ev Z true
 refine Z.pred_void _ _ ⟨Nat.le_of_ble_eq_true rfl, ?_⟩
 unfold voidP
 simp only [if_true] at h2
 rw [Pred.cells_eq p] at *
 have e0 : Pred.cells zeroP = [.int .i64 0, .str [], .int .i64 0, .lst []] := by rw [Pred.cells_eq]; rfl
 have e1 : Pred.cells trueP = [.int .i64 2, .str [], .int .i64 1, .lst []] := by rw [Pred.cells_eq]; rfl
 rw [e0] at h0
 rw [e1] at h1 h2
 simp only [fn_pred_void, go_sem]
 refine call_by h0 ?_
 simp only [go_sem]
 refine call_g h2 ?_
 simp only [go_sem]
 refine call_g h1 ?_
 simp only [go_sem]
end Go.Abs
end
section
namespace Go.Abs
def pv (s : Str) : Pred := .mk 3 s 0 []
def papp (s : Str) (l : List Pred) : Pred := .mk 4 s 0 l
def p2 (o : Int) (a b : Pred) : Pred := .mk o [] 0 [a, b]
theorem pair_split {α : Type} {l : List α} (h : l.length = 2) : ∃ a b, l = [a, b] := by
 match l, h with
 | [a, b], _ => exact ⟨a, b, rfl⟩
theorem loop_named {E : AEnv} {c : AC} {K : AX → St → Prop} {F : St} (h : ∀ K', K' = K → awp E (.loop c) K' F) : awp E (.loop c) K F := h K rfl
def andStp (x : Pred × Bool) (p : Pred) : Pred × Bool := if voidP p then x else if x.2 then (.mk 15 [] 0 [x.1, p], true) else (p, true)
def andGo (l : List Pred) : Pred × Bool := l.foldl andStp (trueP, false)
def isFalse (p : Pred) : Bool := !voidP p && p.same falseP
def andP (l : List Pred) : Pred := if l.any isFalse then falseP else (andGo l).1
theorem andGo_app (a : List Pred) (k : Pred) : andGo (a ++ [k]) = andStp (andGo a) k := by unfold andGo; rw [List.foldl_append]; rfl
theorem any_mid {α : Type} {f : α → Bool} {l a r : List α} {x : α} (hl : l = a ++ x :: r) (ha : ∀ y ∈ a, f y = false) : l.any f = (f x || r.any f) := by
 rw [hl, List.any_append, List.any_cons]
 have : a.any f = false := by rw [List.any_eq_false]; intro y hy; rw [ha y hy]; exact Bool.false_ne_true
 rw [this, Bool.false_or]
theorem any_none {α : Type} {f : α → Bool} {l : List α} (ha : ∀ y ∈ l, f y = false) : l.any f = false := by rw [List.any_eq_false]; intro y hy; rw [ha y hy]; exact Bool.false_ne_true
theorem seq_named {E : AEnv} {a b : AC} {Q : AX → St → Prop} {st : St} (h : ∀ N, N = awp E b Q → awp E a (seqK N Q) st) : awp E (.seq a b) Q st := h _ rfl
end Go.Abs
end
section
namespace Go.Abs
mutual
def Pred.sz : Pred → Nat
 | .mk _ s _ ks => 1 + ((s.length + 1) + (1 + ((Pred.szs ks + 1) + 0))) + 1
def Pred.szs : List Pred → Nat
 | [] => 0
 | k :: ks => Pred.sz k + Pred.szs ks
end
theorem Pred.szs_eq (ks : List Pred) : Pred.szs ks = (ks.map Pred.sz).sum := by
 induction ks with
 | nil => simp [Pred.szs]
 | cons k ks ih => simp [Pred.szs, ih]
namespace Pred
mutual
def cnt : Pred → Nat
 | .mk _ _ _ ks => cnts ks + 1
def cnts : List Pred → Nat
 | [] => 0
 | k :: ks => cnt k + cnts ks
end
mutual
def dep : Pred → Nat
 | .mk _ _ _ ks => deps ks + 1
def deps : List Pred → Nat
 | [] => 0
 | k :: ks => max (dep k) (deps ks)
end
theorem cnt_le {ks : List Pred} {k : Pred} (h : k ∈ ks) : cnt k ≤ cnts ks := by
 induction ks with
 | nil => cases h
 | cons x ks ih =>
  rw [cnts]
  rcases List.mem_cons.1 h with rfl | h
  ·omega
  ·have := ih h; omega
theorem dep_cnt (p : Pred) : dep p ≤ cnt p := by
 induction p using Pred.ind with
 | h o s n ks ih =>
 have : ∀ l : List Pred, (∀ k ∈ l, dep k ≤ cnt k) → deps l ≤ cnts l := by
  intro l
  induction l with
  | nil => intro _; exact Nat.le_refl _
  | cons x l ih2 =>
   intro h
   have h1 := h x (by simp)
   have h2 := ih2 fun k hk => h k (by simp [hk])
   rw [deps, cnts]; omega
 rw [dep, cnt]
 have := this ks ih
 omega
theorem cnt_sz (p : Pred) : cnt p ≤ sz p := by
 induction p using Pred.ind with
 | h o s n ks ih =>
 have : ∀ l : List Pred, (∀ k ∈ l, cnt k ≤ sz k) → cnts l ≤ szs l := by
  intro l
  induction l with
  | nil => intro _; exact Nat.le_refl _
  | cons x l ih2 =>
   intro h
   have h1 := h x (by simp)
   have h2 := ih2 fun k hk => h k (by simp [hk])
   rw [szs, cnts]; omega
 rw [sz, cnt]
 have := this ks ih
 omega
theorem nodes_cnt (p : Pred) (h : cnt p < 2 ^ 62) : nodes p = cnt p := by
 induction p using Pred.ind with
 | h o s n ks ih =>
 have key : ∀ (l : List Pred) (a : Nat), (∀ k ∈ l, cnt k < 2 ^ 62 → nodes k = cnt k) → a + cnts l < 2 ^ 62 → nodess (a : Int) l = ((a + cnts l : Nat) : Int) := by
  intro l
  induction l with
  | nil => intro a _ _; rw [nodess, cnts]; rfl
  | cons x l ih2 =>
   intro a hk hl
   rw [cnts] at hl
   rw [nodess, hk x (by simp) (by omega), i64_in _ (by omega), cnts]
   have := ih2 (a + cnt x) (fun k hk' => hk k (by simp [hk'])) (by omega)
   rw [← Int.natCast_add, this]
   congr 1; omega
 rw [cnt] at h ⊢
 rw [nodes]
 have := key ks 1 ih (by omega)
 rw [show ((1 : Nat) : Int) = 1 from rfl] at this
 rw [this]
 congr 1; omega
theorem depth_dep (p : Pred) (h : dep p < 2 ^ 62) : depth p = dep p := by
 induction p using Pred.ind with
 | h o s n ks ih =>
 have key : ∀ (l : List Pred) (a : Nat), (∀ k ∈ l, dep k < 2 ^ 62 → depth k = dep k) → deps l < 2 ^ 62 → depths (a : Int) l = ((max a (deps l) : Nat) : Int) := by
  intro l
  induction l with
  | nil => intro a _ _; rw [depths, deps]; simp
  | cons x l ih2 =>
   intro a hk hl
   rw [deps] at hl
   rw [depths, hk x (by simp) (by omega), deps]
   have h2 := fun a => ih2 a (fun k hk' => hk k (by simp [hk'])) (by omega)
   by_cases hc : (dep x : Int) > a
   ·rw [if_pos hc, h2]; congr 1; omega
   ·rw [if_neg hc, h2]; congr 1; omega
 rw [dep] at h ⊢
 rw [depth]
 have := key ks 0 ih (by omega)
 rw [show ((0 : Nat) : Int) = 0 from rfl] at this
 rw [this, i64_in _ (by omega)]
 omega
theorem checkE_parts {p : Pred} (h : checkE p = 0) : nodes p ≤ 400 ∧ depth p ≤ 40 ∧ formE p = 0 := by
 unfold checkE at h
 by_cases h1 : decide (nodes p > 400) = true
 ·rw [if_pos h1] at h; cases h
 ·rw [if_neg h1] at h
  by_cases h2 : decide (depth p > 40) = true
  ·rw [if_pos h2] at h; cases h
  ·rw [if_neg h2] at h
   simp at h1 h2
   exact ⟨by omega, by omega, h⟩
theorem checkE_of {p : Pred} (h : nodes p ≤ 400) (h2 : depth p ≤ 40) (h3 : formE p = 0) : checkE p = 0 := by
 unfold checkE
 rw [if_neg (by simp; omega), if_neg (by simp; omega)]
 exact h3
end Pred
end Go.Abs
end
section
namespace Go.Abs
variable {E : AEnv} (Z : Sys E)
include Z
theorem pred_And_ev (l : List Pred) (ht : ∀ p ∈ l, voidP p = false → Tame p) : E.C pred_And [.one (.lst (l.map Pred.cells))] (.agg (andP l).cells) := by
 have hv := pred_void_ev Z
 have hc := fun p hp => pred_copied_ev Z p hp
 have hcf := pred_constant_ev Z false
 have hct := pred_constant_ev Z true
 have hs := fun p => pred_Same_ev Z p falseP
 simp only [if_true, Bool.false_eq_true, if_false] at hcf hct
 have hdr : ∀ p : Pred, List.drop 4 (List.map AV.d p.cells) = [] := fun p => List.drop_of_length_le (by rw [List.length_map, Pred.cells_length]; exact Nat.le_refl _)
 have hcs : ∀ a b : Pred, Pred.cells (.mk 15 [] 0 [a, b]) = [.int .i64 15, .str [], .int .i64 0, .lst [a.cells, b.cells]] := fun a b => by rw [Pred.cells_eq]; rfl
 refine Z.pred_And _ _ ⟨Nat.le_of_ble_eq_true rfl, ?_⟩
 generalize hR : andP l = R
 unfold andP at hR
 simp only [fn_pred_And, go_sem]
 refine call_by hct ?_
 simp only [go_sem]
 intro hlen
 refine loop_list l (fun done => ∀ x ∈ done, isFalse x = false) (fun done rest => ⟨[(10, .d (.int .i64 done.length)), (9, .d (.int .i64 l.length)), (8, .d (.lst (l.map Pred.cells))), (4, .d (.bool (andGo done).2)), (3, .ptr 3 0), (2, .ptr 2 0)], [(3, (andGo done).1.cells.map .d), (2, [.d (.int .i64 0), .d (.str []), .d (.int .i64 0), .full []])], []⟩) ?_ (by simp) ?_ ?_
 ·have h0 : andGo [] = (trueP, false) := rfl
  exact Ent_plain (by simp only [go_sem, Option.isSome_some, h0])
 ·intro done k r hl hI
  have hlt := lt_mid hl
  have hw : IntKind.i64.wrap ((done.length : Int) + 1) = ((done.length + 1 : Nat) : Int) := wrap_succ (by omega)
  have hfk : isFalse k = (!voidP k && k.same falseP) := rfl
  have hga := andGo_app done k
  unfold andStp at hga
  rw [any_mid hl hI] at hR
  have htk := ht k (by rw [hl]; simp)
  simp only [fn_pred_And_L1, go_sem, hlt, getD_midP hl]
  refine call_by (hv k) ?_
  simp only [go_sem]
  cases h1 : voidP k with
  | true =>
   simp only [h1, go_sem] at hga hfk ⊢
   exact ⟨Ent_plain (by simp only [go_sem, hw, hga, Option.isSome_some, List.length_append]), app_all hI hfk⟩
  | false =>
   have htk := htk h1
   simp only [h1, go_sem] at hga hfk ⊢
   refine call_by hcf ?_
   simp only [go_sem]
   refine call_by (hs k) ?_
   simp only [go_sem]
   cases h2 : k.same falseP with
   | true =>
    simp only [h2, go_sem] at hfk ⊢
    refine call_by hcf ?_
    simp only [hfk, go_sem] at hR ⊢
    subst hR
    simp only [go_sem]
   | false =>
    simp only [h2, go_sem] at hfk ⊢
    cases h3 : (andGo done).2 with
    | true =>
     simp only [h3, go_sem] at hga ⊢
     refine call_by (hc k htk) ?_
     simp only [go_sem]
     exact ⟨Ent_plain (by simp only [go_sem, hw, hga, hdr, hcs, Option.isSome_some, List.length_append, List.map_cons, List.map_nil]), app_all hI hfk⟩
    | false =>
     simp only [h3, go_sem] at hga ⊢
     refine call_by (hc k htk) ?_
     simp only [go_sem]
     exact ⟨Ent_plain (by simp only [go_sem, hw, hga, hdr, List.append_nil, Option.isSome_some, List.length_append]), app_all hI hfk⟩
 ·intro hI
  rw [any_none hI] at hR
  simp only [fn_pred_And_L1, go_sem] at hR ⊢
  rw [hR]
omit Z in
omit Z in
omit Z in
omit Z in
omit Z in
omit Z in
omit Z in
omit Z in
omit Z in
omit Z in
omit Z in
omit Z in
omit Z
end Go.Abs
end
section
namespace Go.Abs
def res2 (r : Int × Bool) : CV := .tup [.one (.int .i64 r.1), .one (.bool r.2)]
def bnd (n : Int) : Int × Bool := if inRange n then (n, true) else (0, false)
def addI (a b : Int) : Int × Bool := if inRange a && inRange b then bnd (a + b) else (0, false)
def subI (a b : Int) : Int × Bool := if inRange a && inRange b then bnd (a - b) else (0, false)
def mulI (a b : Int) : Int × Bool := if inRange a && inRange b then bnd (a * b) else (0, false)
theorem inRange_iff (n : Int) : inRange n = true ↔ -1000000000000 ≤ n ∧ n ≤ 1000000000000 := by simp [inRange]
theorem wrap_add {a b : Int} (ha : inRange a = true) (hb : inRange b = true) : IntKind.i64.wrap (a + b) = a + b := by
 rw [inRange_iff] at ha hb; exact i64_in _ (by omega)
theorem wrap_sub {a b : Int} (ha : inRange a = true) (hb : inRange b = true) : IntKind.i64.wrap (a - b) = a - b := by
 rw [inRange_iff] at ha hb; exact i64_in _ (by omega)
def absI (n : Int) : Int := if n ≥ 0 then n else -n
theorem absI_pos {n : Int} (h : n ≠ 0) : 0 < absI n := by unfold absI; split <;> omega
theorem absI_mul (a b : Int) : absI (a * b) = absI a * absI b := by
 have : ∀ n : Int, absI n = n.natAbs := fun n => by unfold absI; split <;> omega
 simp only [this, Int.natAbs_mul, Int.natCast_mul]
theorem inRange_abs (n : Int) : inRange n = true ↔ absI n ≤ 1000000000000 := by
 rw [inRange_iff]; unfold absI; split <;> omega
theorem quo_abs {a b : Int} (ha : a ≠ 0) : decide (absI b > (1000000000000 : Int).tdiv (absI a)) = !inRange (a * b) := by
 have hp := absI_pos ha
 have hq : (1000000000000 : Int).tdiv (absI a) = 1000000000000 / absI a := Int.tdiv_eq_ediv_of_nonneg (by omega)
 rw [hq]
 have h1 : (1000000000000 / absI a < absI b) ↔ 1000000000000 < absI b * absI a := Int.ediv_lt_iff_lt_mul hp
 have h2 : inRange (a * b) = true ↔ ¬ (1000000000000 < absI b * absI a) := by
  rw [inRange_abs, absI_mul, Int.mul_comm]; omega
 cases h : inRange (a * b) with
 | true => rw [h] at h2; simp only [true_iff] at h2; simp; rw [← Int.not_lt, h1]; exact h2
 | false => rw [h] at h2; simp at h2; simp; rw [h1]; exact h2
variable {E : AEnv} (Z : Sys E)
include Z
theorem num_checked_ev (n : Int) (ok : Bool) : E.C num_checked [.one (.int .i64 n), .one (.bool ok)] (res2 (if ok then bnd n else (0, false))) := by
 refine Z.num_checked _ _ ⟨Nat.le_of_ble_eq_true rfl, ?_⟩
 try unfold res2
 unfold bnd
 simp only [fn_num_checked, go_sem]
 refine call_gi (fun _ => num_In_ev Z n) ?_
 cases ok <;> cases h : inRange n <;> simp only [h, go_sem]
theorem r01_result_ev (n : Int) (ok : Bool) : E.C r01_result [.one (.int .i64 n), .one (.bool ok)] (res2 (if ok then bnd n else (0, false))) := by
 refine Z.r01_result _ _ ⟨Nat.le_of_ble_eq_true rfl, ?_⟩
 try unfold res2
 unfold bnd
 simp only [fn_r01_result, go_sem]
 refine call_gi (fun _ => r01_In_ev Z n) ?_
 cases ok <;> cases h : inRange n <;> simp only [h, go_sem]
theorem num_Add_ev (a b : Int) : E.C num_Add [.one (.int .i64 a), .one (.int .i64 b)] (res2 (addI a b)) := by
 have h1 := num_checked_ev Z (IntKind.i64.wrap (a + b)) true
 refine Z.num_Add _ _ ⟨Nat.le_of_ble_eq_true rfl, ?_⟩
 unfold addI
 simp only [res2] at h1 ⊢
 simp only [fn_num_Add, go_sem]
 refine call_by (num_In_ev Z a) ?_
 simp only [go_sem]
 refine call_gi (fun _ => num_In_ev Z b) ?_
 cases ha : inRange a <;> cases hb : inRange b <;> simp only [ha, hb, go_sem]
 refine call_by h1 ?_
 simp only [go_sem, wrap_add ha hb]
theorem num_Sub_ev (a b : Int) : E.C num_Sub [.one (.int .i64 a), .one (.int .i64 b)] (res2 (subI a b)) := by
 have h1 := num_checked_ev Z (IntKind.i64.wrap (a - b)) true
 refine Z.num_Sub _ _ ⟨Nat.le_of_ble_eq_true rfl, ?_⟩
 unfold subI
 simp only [res2] at h1 ⊢
 simp only [fn_num_Sub, go_sem]
 refine call_by (num_In_ev Z a) ?_
 simp only [go_sem]
 refine call_gi (fun _ => num_In_ev Z b) ?_
 cases ha : inRange a <;> cases hb : inRange b <;> simp only [ha, hb, go_sem]
 refine call_by h1 ?_
 simp only [go_sem, wrap_sub ha hb]
theorem r01_Add_ev (a b : Int) : E.C r01_Add [.one (.int .i64 a), .one (.int .i64 b)] (res2 (addI a b)) := by
 have h1 := r01_result_ev Z (IntKind.i64.wrap (a + b)) (inRange a && inRange b)
 refine Z.r01_Add _ _ ⟨Nat.le_of_ble_eq_true rfl, ?_⟩
 unfold addI
 simp only [res2] at h1 ⊢
 simp only [fn_r01_Add, go_sem]
 refine call_by (r01_In_ev Z a) ?_
 simp only [go_sem]
 refine call_g (r01_In_ev Z b) ?_
 cases ha : inRange a <;> cases hb : inRange b <;> simp only [ha, hb, go_sem] at h1 ⊢ <;> refine call_by h1 ?_ <;> simp only [go_sem]
 simp only [wrap_add ha hb, and_self]
theorem r01_Sub_ev (a b : Int) : E.C r01_Sub [.one (.int .i64 a), .one (.int .i64 b)] (res2 (subI a b)) := by
 have h1 := r01_result_ev Z (IntKind.i64.wrap (a - b)) (inRange a && inRange b)
 refine Z.r01_Sub _ _ ⟨Nat.le_of_ble_eq_true rfl, ?_⟩
 unfold subI
 simp only [res2] at h1 ⊢
 simp only [fn_r01_Sub, go_sem]
 refine call_by (r01_In_ev Z a) ?_
 simp only [go_sem]
 refine call_g (r01_In_ev Z b) ?_
 cases ha : inRange a <;> cases hb : inRange b <;> simp only [ha, hb, go_sem] at h1 ⊢ <;> refine call_by h1 ?_ <;> simp only [go_sem]
 simp only [wrap_sub ha hb, and_self]
theorem num_abs_ev {n : Int} (h : inRange n = true) : E.C num_abs [.one (.int .i64 n)] (.one (.int .i64 (absI n))) := by
 refine Z.num_abs _ _ ⟨Nat.le_of_ble_eq_true rfl, ?_⟩
 rw [inRange_iff] at h
 have hw : IntKind.i64.wrap (0 - n) = -n := by rw [i64_in _ (by omega)]; omega
 unfold absI
 simp only [fn_num_abs, go_sem, hw]
 by_cases h0 : n ≥ 0
 ·simp only [h0, go_sem]
 ·have h2 : ¬ (-n < 0) := by omega
  simp only [h0, h2, go_sem]
theorem num_Mul_ev (a b : Int) : E.C num_Mul [.one (.int .i64 a), .one (.int .i64 b)] (res2 (mulI a b)) := by
 have h1 := num_checked_ev Z (IntKind.i64.wrap (a * b)) true
 refine Z.num_Mul _ _ ⟨Nat.le_of_ble_eq_true rfl, ?_⟩
 unfold mulI
 simp only [res2] at h1 ⊢
 simp only [fn_num_Mul, go_sem]
 refine call_by (num_In_ev Z a) ?_
 simp only [go_sem]
 refine call_gi (fun _ => num_In_ev Z b) ?_
 cases ha : inRange a <;> cases hb : inRange b <;> simp only [ha, hb, go_sem]
 by_cases ha0 : a = 0
 ·subst ha0; simp only [go_sem, beq_self_eq_true, Int.zero_mul]; simp [bnd, inRange]
 have ea : (a == 0) = false := by simpa using ha0
 by_cases hb0 : b = 0
 ·subst hb0; simp only [go_sem, beq_self_eq_true, ea, Int.mul_zero]; simp [bnd, inRange]
 have eb : (b == 0) = false := by simpa using hb0
 simp only [ea, eb, go_sem]
 refine call_by (num_abs_ev Z hb) ?_
 simp only [go_sem]
 refine call_by (num_abs_ev Z ha) ?_
 have hne : absI a ≠ 0 := by have := absI_pos ha0; omega
 have hw : IntKind.i64.wrap ((1000000000000 : Int).tdiv (absI a)) = (1000000000000 : Int).tdiv (absI a) := by
  rw [Int.tdiv_eq_ediv_of_nonneg (by omega)]
  have hp := absI_pos ha0
  have h0 : 0 ≤ (1000000000000 : Int) / absI a := Int.ediv_nonneg (by omega) (by omega)
  have h2 : (1000000000000 : Int) / absI a ≤ 1000000000000 := Int.ediv_le_self _ (by omega)
  exact i64_in _ (by omega)
 simp only [go_sem, hw, quo_abs ha0]
 refine ⟨hne, ?_⟩
 cases hr : inRange (a * b) with
 | false => simp only [go_sem, bnd, hr]
 | true =>
  have hwm : IntKind.i64.wrap (a * b) = a * b := i64_in _ (by rw [inRange_iff] at hr; omega)
  rw [hwm] at h1 ⊢
  simp only [go_sem, hr]
  refine call_by h1 ?_
  simp only [go_sem, bnd, hr]
theorem r01_Mul_ev (a b : Int) : E.C r01_Mul [.one (.int .i64 a), .one (.int .i64 b)] (res2 (mulI a b)) := by
 refine Z.r01_Mul _ _ ⟨Nat.le_of_ble_eq_true rfl, ?_⟩
 unfold mulI
 try simp only [res2]
 simp only [fn_r01_Mul, go_sem]
 refine call_by (r01_In_ev Z a) ?_
 simp only [go_sem]
 refine call_gi (fun _ => r01_In_ev Z b) ?_
 cases ha : inRange a <;> cases hb : inRange b <;> simp only [ha, hb, go_sem]
 by_cases ha0 : a = 0
 ·subst ha0; simp only [go_sem, beq_self_eq_true, Int.zero_mul]; simp [bnd, inRange]
 have ea : (a == 0) = false := by simpa using ha0
 by_cases hb0 : b = 0
 ·subst hb0; simp only [go_sem, beq_self_eq_true, ea, Int.mul_zero]; simp [bnd, inRange]
 have eb : (b == 0) = false := by simpa using hb0
 have hq := quo_abs (b := a) hb0
 rw [Int.mul_comm b a] at hq
 have hneg : ∀ {n : Int}, inRange n = true → IntKind.i64.wrap (0 - n) = -n := fun h => by rw [inRange_iff] at h; rw [i64_in _ (by omega)]; omega
 have hw : IntKind.i64.wrap ((1000000000000 : Int).tdiv (absI b)) = (1000000000000 : Int).tdiv (absI b) := by
  rw [Int.tdiv_eq_ediv_of_nonneg (by omega)]
  have hp := absI_pos hb0
  have h0 : 0 ≤ (1000000000000 : Int) / absI b := Int.ediv_nonneg (by omega) (by omega)
  have h2 : (1000000000000 : Int) / absI b ≤ 1000000000000 := Int.ediv_le_self _ (by omega)
  exact i64_in _ (by omega)
 have hne : absI b ≠ 0 := by have := absI_pos hb0; omega
 have ea2 : absI a = if a < 0 then -a else a := by unfold absI; split <;> split <;> omega
 have eb2 : absI b = if b < 0 then -b else b := by unfold absI; split <;> split <;> omega
 simp only [ea, eb, go_sem, hneg ha, hneg hb]
 have hfin : ∀ x y : Int, absI a = x → absI b = y → (decide (x > IntKind.i64.wrap ((1000000000000 : Int).tdiv y)) = !inRange (a * b)) ∧ y ≠ 0 := by
  rintro x y rfl rfl; rw [hw]; exact ⟨hq, hne⟩
 cases hr : inRange (a * b) with
 | false =>
  by_cases c1 : a < 0 <;> by_cases c2 : b < 0 <;> simp only [c1, c2, if_true, if_false] at ea2 eb2 <;> obtain ⟨f1, f2⟩ := hfin _ _ ea2 eb2 <;> rw [hr] at f1 <;> simp only [c1, c2, go_sem, f1, bnd, hr] <;> exact f2
 | true =>
  have hwm : IntKind.i64.wrap (a * b) = a * b := i64_in _ (by rw [inRange_iff] at hr; omega)
  by_cases c1 : a < 0 <;> by_cases c2 : b < 0 <;> simp only [c1, c2, if_true, if_false] at ea2 eb2 <;> obtain ⟨f1, f2⟩ := hfin _ _ ea2 eb2 <;> rw [hr] at f1 <;> simp only [c1, c2, go_sem, f1, bnd, hr, hwm] <;> exact f2
end Go.Abs
end
section
namespace Go.Abs
structure Coef where
 name : Str
 n : Int
def Coef.cells (v : Coef) : List D := [.str v.name, .int .i64 v.n]
def icell (n : Int) : List D := [.int .i64 n]
structure Fact where
 name : Str
 args : List Int
 res : Int
def Fact.cells (v : Fact) : List D := [.str v.name, .lst (v.args.map icell), .int .i64 v.res]
theorem Coef.lens (l : List Coef) : (∀ e ∈ l.map Coef.cells, e.length = 2) = True := lens_map (f := Coef.cells) (fun _ => rfl) l
theorem Fact.lens (l : List Fact) : (∀ e ∈ l.map Fact.cells, e.length = 3) = True := lens_map (f := Fact.cells) (fun _ => rfl) l
theorem icell_lens (l : List Int) : (∀ e ∈ l.map icell, e.length = 1) = True := lens_map (f := icell) (fun _ => rfl) l
attribute [go_sem] Coef.lens Fact.lens icell_lens
def findC (s : Str) : List Coef → Int × Bool
 | [] => (0, false)
 | c :: l => if c.name == s then (c.n, true) else findC s l
theorem findC_mid {s : Str} {a r : List Coef} {x : Coef} (ha : ∀ y ∈ a, (y.name == s) = false) : findC s (a ++ x :: r) = if x.name == s then (x.n, true) else findC s r := by
 induction a with
 | nil => rfl
 | cons y a ih => rw [List.cons_append, findC, ha y (by simp)]; exact ih fun z hz => ha z (by simp [hz])
theorem findC_all {s : Str} {a : List Coef} (ha : ∀ y ∈ a, (y.name == s) = false) : findC s a = (0, false) := by
 induction a with
 | nil => rfl
 | cons y a ih => rw [findC, ha y (by simp)]; exact ih fun z hz => ha z (by simp [hz])
def findF (s : Str) (args : List Int) : List Fact → Option Int
 | [] => none
 | f :: l => if f.name == s && f.args == args then some f.res else findF s args l
theorem findF_mid {s : Str} {args : List Int} {a r : List Fact} {x : Fact} (ha : ∀ y ∈ a, (y.name == s && y.args == args) = false) : findF s args (a ++ x :: r) = if x.name == s && x.args == args then some x.res else findF s args r := by
 induction a with
 | nil => rfl
 | cons y a ih => rw [List.cons_append, findF, ha y (by simp)]; exact ih fun z hz => ha z (by simp [hz])
theorem findF_all {s : Str} {args : List Int} {a : List Fact} (ha : ∀ y ∈ a, (y.name == s && y.args == args) = false) : findF s args a = none := by
 induction a with
 | nil => rfl
 | cons y a ih => rw [findF, ha y (by simp)]; exact ih fun z hz => ha z (by simp [hz])
def factP (r : Option Int) : Int × Bool := match r with
 | some n => (n, inRange n)
 | none => (0, false)
def factR (r : Option Int) : Int × Bool := match r with
 | some n => bnd n
 | none => (0, false)
def tru (b : Bool) : Int := if b then 1 else 0
def opI (o a b : Int) : Int × Bool :=
 if o == 6 then addI a b else if o == 7 then subI a b else if o == 8 then mulI a b
 else if o == 10 then (tru (a == b), true) else if o == 11 then (tru (a != b), true) else if o == 12 then (tru (decide (a < b)), true) else if o == 13 then (tru (decide (a ≤ b)), true)
 else if o == 15 then (tru (a != 0 && b != 0), true) else if o == 16 then (tru (a != 0 || b != 0), true) else if o == 17 then (tru (a == 0 || b != 0), true) else if o == 18 then (tru ((a != 0) == (b != 0)), true) else (0, false)
def compI (o a b : Int) : Int × Bool :=
 if o == 6 then addI a b else if o == 7 then subI a b else if o == 8 then mulI a b else if o == 9 then subI 0 a
 else if o == 10 then (tru (a == b), true) else if o == 11 then (tru (a != b), true) else if o == 12 then (tru (decide (a < b)), true) else if o == 13 then (tru (decide (a ≤ b)), true) else if o == 14 then (tru (a == 0), true)
 else if o == 15 then (tru (a != 0 && b != 0), true) else if o == 16 then (tru (a != 0 || b != 0), true) else if o == 17 then (tru (a == 0 || b != 0), true) else (tru ((a != 0) == (b != 0)), true)
theorem eql_list {a b ad bd r r' : List Int} {x y : Int} (ha : a = ad ++ x :: r) (hb : b = bd ++ y :: r') (h : ad = bd) : (a == b) = (x == y && r == r') := by
 subst ha hb h
 rw [Bool.eq_iff_iff]; simp
variable {E : AEnv} (Z : Sys E)
include Z
theorem slices_Equal_int_ev (a b : List Int) : E.C slices_Equal_int_int [.one (.lst (a.map icell)), .one (.lst (b.map icell))] (.one (.bool (a == b))) := by
 refine Z.slices_Equal_int_int _ _ ⟨Nat.le_of_ble_eq_true rfl, ?_⟩
 generalize hR : (a == b) = R
 simp only [fn_slices_Equal_int_int, go_sem]
 intro hl1 hl2
 by_cases hlen : a.length = b.length
 ·have h1 : ((a.length : Int) != (b.length : Int)) = false := by simp [hlen]
  simp only [h1, go_sem]
  intro _
  refine loop_list a (fun done => done = b.take done.length) (fun done rest => ⟨[(13, .d (.int .i64 done.length)), (12, .d (.int .i64 a.length)), (0, .d (.lst (a.map icell))), (1, .d (.lst (b.map icell)))], [], []⟩) ?_ (by simp) ?_ ?_
  ·exact Ent_plain (by simp only [go_sem])
  ·intro done x r hl hI
   obtain ⟨bd, y, r', hb, hbl⟩ := at_split (b := b) (n := done.length) (by rw [← hlen, hl]; simp)
   have htk : b.take done.length = bd := by rw [hb]; exact List.take_left' hbl
   have hlt := lt_mid hl
   have hlt2 := lt_mid hb
   rw [hbl] at hlt2
   have hw : IntKind.i64.wrap ((done.length : Int) + 1) = ((done.length + 1 : Nat) : Int) := wrap_succ (by omega)
   rw [htk] at hI
   rw [eql_list hl hb hI] at hR
   have hy : (b.map icell).getD done.length [] = icell y := by rw [← hbl]; exact getD_at hb
   simp only [fn_slices_Equal_int_int_L1, go_sem, getD_at hl, hy, hlt, hlt2, icell]
   by_cases h2 : x = y
   ·subst h2
    simp only [go_sem, hw, List.length_append, bne_self_eq_false]
    refine ⟨Ent_plain (by simp only [go_sem]), ?_⟩
    have ht2 : b.take (done.length + 1) = bd ++ [x] := by rw [hb, show bd ++ x :: r' = (bd ++ [x]) ++ r' by simp]; exact List.take_left' (by simp [hbl])
    rw [ht2, ← hI]
   ·have h3 : (x == y) = false := by simpa using h2
    simp only [h3, bne, go_sem] at hR ⊢
    exact hR
  ·intro hI
   rw [hlen, List.take_length] at hI
   subst hI
   simp only [beq_self_eq_true] at hR
   subst hR
   simp only [fn_slices_Equal_int_int_L1, go_sem]
 ·have h1 : ((a.length : Int) != (b.length : Int)) = true := by simp; omega
  have h2 : (a == b) = false := by simp; rintro rfl; exact hlen rfl
  rw [h2] at hR
  simp only [h1, go_sem, hR]
theorem meaning_Find_ev (l : List Coef) (s : Str) : E.C meaning_Find [.one (.lst (l.map Coef.cells)), .one (.str s)] (res2 (findC s l)) := by
 refine Z.meaning_Find _ _ ⟨Nat.le_of_ble_eq_true rfl, ?_⟩
 generalize hR : findC s l = R
 try unfold res2
 simp only [fn_meaning_Find, go_sem]
 intro hlen
 refine loop_list l (fun done => ∀ y ∈ done, (y.name == s) = false) (fun done rest => ⟨[(10, .d (.int .i64 done.length)), (9, .d (.int .i64 l.length)), (8, .d (.lst (l.map Coef.cells))), (1, .d (.str s))], [], []⟩) ?_ (by simp) ?_ ?_
 ·exact Ent_plain (by simp only [go_sem])
 ·intro done x r hl hI
  have hlt := lt_mid hl
  have hw : IntKind.i64.wrap ((done.length : Int) + 1) = ((done.length + 1 : Nat) : Int) := wrap_succ (by omega)
  rw [hl, findC_mid hI] at hR
  simp only [fn_meaning_Find_L1, go_sem, getD_at hl, hlt, Coef.cells]
  cases h1 : (x.name == s) with
  | true => simp only [h1, go_sem] at hR ⊢; simp only [← hR, and_self]
  | false =>
   simp only [go_sem, hw, List.length_append]
   exact ⟨Ent_plain (by simp only [go_sem]), app_all hI h1⟩
 ·intro hI
  rw [findC_all hI] at hR
  simp only [fn_meaning_Find_L1, go_sem, ← hR]
theorem meaning_fact_ev (at' : List Coef) (l : List Fact) (s : Str) (args : List Int) : E.C meaning_evaluator_fact [.agg [.lst (at'.map Coef.cells), .lst (l.map Fact.cells)], .one (.str s), .one (.lst (args.map icell))] (res2 (factP (findF s args l))) := by
 have he := fun a => slices_Equal_int_ev Z a args
 refine Z.meaning_evaluator_fact _ _ ⟨Nat.le_of_ble_eq_true rfl, ?_⟩
 generalize hR : factP (findF s args l) = R
 try unfold res2
 simp only [fn_meaning_evaluator_fact, go_sem]
 intro hlen
 refine loop_list l (fun done => ∀ y ∈ done, (y.name == s && y.args == args) = false) (fun done rest => ⟨[(13, .d (.int .i64 done.length)), (12, .d (.int .i64 l.length)), (11, .d (.lst (l.map Fact.cells))), (1, .d (.str s)), (2, .d (.lst (args.map icell)))], [], []⟩) ?_ (by simp) ?_ ?_
 ·exact Ent_plain (by simp only [go_sem])
 ·intro done x r hl hI
  have hlt := lt_mid hl
  have hw : IntKind.i64.wrap ((done.length : Int) + 1) = ((done.length + 1 : Nat) : Int) := wrap_succ (by omega)
  rw [hl, findF_mid hI] at hR
  simp only [fn_meaning_evaluator_fact_L1, go_sem, getD_at hl, hlt, Fact.cells]
  refine call_g (he x.args) ?_
  simp only [go_sem]
  cases h1 : (x.name == s && x.args == args) with
  | true =>
   simp only [h1, go_sem, factP] at hR ⊢
   refine call_by (num_In_ev Z x.res) ?_
   simp only [go_sem, ← hR, and_self]
  | false =>
   simp only [go_sem, hw, List.length_append]
   exact ⟨Ent_plain (by simp only [go_sem]), app_all hI h1⟩
 ·intro hI
  rw [findF_all hI] at hR
  simp only [fn_meaning_evaluator_fact_L1, go_sem, ← hR, factP]
theorem meaning_truth_ev (b : Bool) : E.C meaning_truth [.one (.bool b)] (.one (.int .i64 (tru b))) := by
 refine Z.meaning_truth _ _ ⟨Nat.le_of_ble_eq_true rfl, ?_⟩
 cases b <;> simp only [fn_meaning_truth, go_sem, tru]
theorem meaning_operation_ev (o a b : Int) : E.C meaning_operation [.one (.int .i64 o), .one (.int .i64 a), .one (.int .i64 b)] (res2 (opI o a b)) := by
 have h1 := num_Add_ev Z a b
 have h2 := num_Sub_ev Z a b
 have h3 := num_Mul_ev Z a b
 have ht := meaning_truth_ev Z
 refine Z.meaning_operation _ _ ⟨Nat.le_of_ble_eq_true rfl, ?_⟩
 unfold res2 at *
 generalize hR : opI o a b = R
 unfold opI at hR
 cases c6 : (o == 6) with
 | true => simp only [fn_meaning_operation, ↓reduceIte, go_sem, c6] at hR ⊢; refine call_by h1 ?_; simp only [go_sem, hR]
 | false =>
 cases c7 : (o == 7) with
 | true => simp only [fn_meaning_operation, ↓reduceIte, go_sem, c6, c7] at hR ⊢; refine call_by h2 ?_; simp only [go_sem, hR]
 | false =>
 cases c8 : (o == 8) with
 | true => simp only [fn_meaning_operation, ↓reduceIte, go_sem, c6, c7, c8] at hR ⊢; refine call_by h3 ?_; simp only [go_sem, hR]
 | false =>
 cases c10 : (o == 10) with
 | true => simp only [fn_meaning_operation, ↓reduceIte, go_sem, c6, c7, c8, c10] at hR ⊢; refine call_by (ht _) ?_; simp only [go_sem, ← hR]
 | false =>
 cases c11 : (o == 11) with
 | true => simp only [fn_meaning_operation, ↓reduceIte, go_sem, c6, c7, c8, c10, c11] at hR ⊢; refine call_by (ht _) ?_; simp only [go_sem, ← hR]
 | false =>
 cases c12 : (o == 12) with
 | true => simp only [fn_meaning_operation, ↓reduceIte, go_sem, c6, c7, c8, c10, c11, c12] at hR ⊢; refine call_by (ht _) ?_; simp only [go_sem, ← hR]
 | false =>
 cases c13 : (o == 13) with
 | true => simp only [fn_meaning_operation, ↓reduceIte, go_sem, c6, c7, c8, c10, c11, c12, c13] at hR ⊢; refine call_by (ht _) ?_; simp only [go_sem, ← hR]
 | false =>
 cases c15 : (o == 15) with
 | true => simp only [fn_meaning_operation, ↓reduceIte, go_sem, c6, c7, c8, c10, c11, c12, c13, c15] at hR ⊢; refine call_by (ht _) ?_; simp only [go_sem, ← hR]
 | false =>
 cases c16 : (o == 16) with
 | true => simp only [fn_meaning_operation, ↓reduceIte, go_sem, c6, c7, c8, c10, c11, c12, c13, c15, c16] at hR ⊢; refine call_by (ht _) ?_; simp only [go_sem, ← hR]
 | false =>
 cases c17 : (o == 17) with
 | true => simp only [fn_meaning_operation, ↓reduceIte, go_sem, c6, c7, c8, c10, c11, c12, c13, c15, c16, c17] at hR ⊢; refine call_by (ht _) ?_; simp only [go_sem, ← hR]
 | false =>
 cases c18 : (o == 18) with
 | true => simp only [fn_meaning_operation, ↓reduceIte, go_sem, c6, c7, c8, c10, c11, c12, c13, c15, c16, c17, c18] at hR ⊢; refine call_by (ht _) ?_; simp only [go_sem, ← hR]
 | false => simp only [fn_meaning_operation, ↓reduceIte, go_sem, c6, c7, c8, c10, c11, c12, c13, c15, c16, c17, c18] at hR ⊢; simp only [go_sem, ← hR]
end Go.Abs
end
section
namespace Go.Abs
def topP (at' : List Coef) (fs : List Fact) (o : Int) (s : Str) (n : Int) (l : List Int) : Int × Bool :=
 if o == 1 || o == 2 then (n, true) else if o == 3 then ((findC s at').1, (findC s at').2 && inRange (findC s at').1) else if o == 4 then factP (findF s l fs) else if o == 5 then (0, false)
 else if o == 9 then subI 0 (l.getD 0 0) else if o == 14 then (tru (l.getD 0 0 == 0), true) else opI o (l.getD 0 0) (l.getD 1 0)
def topR (at' : List Coef) (fs : List Fact) (o : Int) (s : Str) (l : List Int) : Int × Bool :=
 if o == 4 then factR (findF s l fs) else compI o (l.getD 0 0) (l.getD (l.length - 1) 0)
def valP (at' : List Coef) (fs : List Fact) : Pred → Int × Bool
 | .mk o s n ks => if oks ks then topP at' fs o s n (ns ks) else (0, false)
where
 oks : List Pred → Bool
 | [] => true
 | k :: ks => (valP at' fs k).2 && oks ks
 ns : List Pred → List Int
 | [] => []
 | k :: ks => (valP at' fs k).1 :: ns ks
theorem valP_eq (at' : List Coef) (fs : List Fact) (o : Int) (s : Str) (n : Int) (ks : List Pred) : valP at' fs (.mk o s n ks) = if ks.all (fun k => (valP at' fs k).2) then topP at' fs o s n (ks.map fun k => (valP at' fs k).1) else (0, false) := by
 rw [valP]
 have h1 : valP.oks at' fs ks = ks.all (fun k => (valP at' fs k).2) := by
  induction ks with
  | nil => rfl
  | cons k ks ih => rw [valP.oks, ih]; rfl
 have h2 : valP.ns at' fs ks = ks.map fun k => (valP at' fs k).1 := by
  clear h1
  induction ks with
  | nil => rfl
  | cons k ks ih => rw [valP.ns, ih]; rfl
 rw [h1, h2]
def valR (at' : List Coef) (fs : List Fact) : Pred → Int × Bool
 | .mk o s n ks => if o == 1 || o == 2 then (n, true) else if o == 3 then (if (findC s at').2 then bnd (findC s at').1 else (0, false)) else if o == 5 then (0, false)
  else if oks ks then topR at' fs o s (ns ks) else (0, false)
where
 oks : List Pred → Bool
 | [] => true
 | k :: ks => (valR at' fs k).2 && oks ks
 ns : List Pred → List Int
 | [] => []
 | k :: ks => (valR at' fs k).1 :: ns ks
theorem valR_eq (at' : List Coef) (fs : List Fact) (o : Int) (s : Str) (n : Int) (ks : List Pred) : valR at' fs (.mk o s n ks) =
  if o == 1 || o == 2 then (n, true) else if o == 3 then (if (findC s at').2 then bnd (findC s at').1 else (0, false)) else if o == 5 then (0, false)
  else if ks.all (fun k => (valR at' fs k).2) then topR at' fs o s (ks.map fun k => (valR at' fs k).1) else (0, false) := by
 rw [valR]
 have h1 : valR.oks at' fs ks = ks.all (fun k => (valR at' fs k).2) := by
  induction ks with
  | nil => rfl
  | cons k ks ih => rw [valR.oks, ih]; rfl
 have h2 : valR.ns at' fs ks = ks.map fun k => (valR at' fs k).1 := by
  clear h1
  induction ks with
  | nil => rfl
  | cons k ks ih => rw [valR.ns, ih]; rfl
 rw [h1, h2]
def norm2 (r : Int × Bool) : Int × Bool := if r.2 then (r.1, true) else (0, false)
theorem norm2_snd (r : Int × Bool) : (norm2 r).2 = r.2 := by unfold norm2; cases h : r.2 <;> simp
theorem norm2_bnd (n : Int) : norm2 (bnd n) = bnd n := by unfold bnd; cases h : inRange n <;> rfl
theorem norm2_add (a b : Int) : norm2 (addI a b) = addI a b := by unfold addI; split; exact norm2_bnd _; rfl
theorem norm2_sub (a b : Int) : norm2 (subI a b) = subI a b := by unfold subI; split; exact norm2_bnd _; rfl
theorem norm2_mul (a b : Int) : norm2 (mulI a b) = mulI a b := by unfold mulI; split; exact norm2_bnd _; rfl
def Good : Pred → Prop := AllN fun q => Pred.err q = 0
theorem Good.kid {o : Int} {s : Str} {n : Int} {ks : List Pred} (h : Good (.mk o s n ks)) {k : Pred} (hk : k ∈ ks) : Good k := AllN.kid h hk
theorem Good.top {o : Int} {s : Str} {n : Int} {ks : List Pred} (h : Good (.mk o s n ks)) : (1 ≤ o ∧ o ≤ 18) ∧ kidsOk o ks.length = true ∧ (o ≠ 1 → o ≠ 2 → n = 0) ∧ (isOpNamed o = false → s = []) := by
 have h := AllN.top h
 change nodeE o s n ks = 0 at h
 unfold nodeE at h
 by_cases h1 : (decide (o < 1) || decide (o > 18) || !s == [] && !isOpNamed o || n != 0 && !(o == 1 || o == 2) || !kidsOk o ks.length) = true
 ·rw [if_pos h1] at h; cases h
 ·simp only [Bool.or_eq_true, not_or, decide_eq_true_eq, Bool.and_eq_true, Bool.not_eq_true', bne_iff_ne, ne_eq, Bool.or_eq_false_iff, beq_eq_false_iff_ne, not_and] at h1
  obtain ⟨⟨⟨⟨a1, a2⟩, a3⟩, a4⟩, a5⟩ := h1
  refine ⟨⟨by omega, by omega⟩, by simpa using a5, fun e1 e2 => ?_, fun e => ?_⟩
  ·by_cases hn : n = 0
   ·exact hn
   ·exact absurd e2 (fun e2 => a4 hn e1 e2)
  ·by_cases hs : s = []
   ·exact hs
   ·exact absurd e (a3 (by simpa using hs))
theorem good_of {p : Pred} (h : p.checkE = 0) : Good p := by
 have := formE_of_check h
 rw [Pred.formE_first] at this
 exact fun q hq => first_zero this q hq
theorem kids_leaf {o : Int} {ks : List Pred} (hk : kidsOk o ks.length = true) (h : (o == 1 || o == 2 || o == 3) = true) : ks = [] := by
 unfold kidsOk at hk
 rw [if_pos h] at hk
 simpa using hk
theorem kids_one {o : Int} {ks : List Pred} (hk : kidsOk o ks.length = true) (h : (o == 9 || o == 14) = true) : ∃ a, ks = [a] := by
 refine one_split ?_
 simp at h
 rcases h with rfl | rfl <;> simp [kidsOk] at hk <;> omega
theorem kids_two {o : Int} {ks : List Pred} (hk : kidsOk o ks.length = true) (h1 : o ≠ 1) (h2 : o ≠ 2) (h3 : o ≠ 3) (h4 : o ≠ 4) (h5 : o ≠ 5) (h9 : o ≠ 9) (h14 : o ≠ 14) : ∃ a b, ks = [a, b] := by
 refine pair_split ?_
 simp [kidsOk, h1, h2, h3, h4, h5, h9, h14] at hk
 omega
theorem kids_most {o : Int} {m : Nat} (hk : kidsOk o m = true) : m ≤ 24 := by
 unfold kidsOk at hk
 split at hk
 ·simp at hk; omega
 ·split at hk
  ·simp at hk; omega
  ·split at hk <;> (simp at hk; omega)
theorem val_norm (at' : List Coef) (fs : List Fact) (p : Pred) (hp : Good p) : norm2 (valP at' fs p) = valR at' fs p := by
 induction p using Pred.ind with
 | h o s n ks ih =>
 have hall : ks.all (fun k => (valP at' fs k).2) = ks.all (fun k => (valR at' fs k).2) := by
  have : ∀ l : List Pred, (∀ k ∈ l, k ∈ ks) → l.all (fun k => (valP at' fs k).2) = l.all (fun k => (valR at' fs k).2) := by
   intro l
   induction l with
   | nil => intro _; rfl
   | cons k l ih2 =>
    intro hl
    rw [List.all_cons, List.all_cons, ih2 (fun x hx => hl x (by simp [hx])), ← ih k (hl k (by simp)) (hp.kid (hl k (by simp))), norm2_snd]
  exact this ks fun _ h => h
 have hmap : ks.all (fun k => (valP at' fs k).2) = true → (ks.map fun k => (valP at' fs k).1) = ks.map fun k => (valR at' fs k).1 := by
  intro ha
  refine List.map_congr_left fun k hk => ?_
  have h1 := List.all_eq_true.1 ha k hk
  have h2 := ih k hk (hp.kid hk)
  unfold norm2 at h2
  rw [if_pos h1] at h2
  rw [← h2]
 obtain ⟨⟨o1, o2⟩, hk, _, _⟩ := hp.top
 rw [valP_eq, valR_eq, ← hall]
 by_cases c1 : (o == 1 || o == 2) = true
 ·obtain rfl := kids_leaf hk (by rw [c1]; rfl)
  simp [topP, c1, norm2]
 by_cases c3 : (o == 3) = true
 ·obtain rfl := kids_leaf hk (by rw [c3]; simp)
  simp only [List.all_nil, if_true, topP, c1, c3, Bool.false_eq_true, if_false, norm2, bnd]
  cases (findC s at').2 <;> cases inRange (findC s at').1 <;> simp
 rw [if_neg c1, if_neg c3]
 by_cases ha : ks.all (fun k => (valP at' fs k).2) = true
 case neg =>
  rw [if_neg ha, if_neg ha]
  split <;> rfl
 rw [if_pos ha, if_pos ha, hmap ha]
 unfold topP topR
 rw [if_neg c1, if_neg c3]
 simp only [beq_iff_eq, Bool.or_eq_true, not_or] at c1 c3
 by_cases c4 : o = 4
 ·subst c4
  simp only [beq_self_eq_true, if_true]
  rw [if_neg (by decide)]
  unfold factP factR
  split
  ·unfold norm2 bnd; rfl
  ·rfl
 by_cases c5 : o = 5
 ·subst c5; rfl
 have e4 : (o == 4) = false := by simpa using c4
 have e5 : (o == 5) = false := by simpa using c5
 simp only [e4, e5, Bool.false_eq_true, if_false]
 by_cases c9 : o = 9
 ·subst c9
  obtain ⟨a, rfl⟩ := kids_one hk rfl
  simp [norm2_sub, compI]
 by_cases c14 : o = 14
 ·subst c14
  obtain ⟨a, rfl⟩ := kids_one hk rfl
  simp [norm2, compI]
 rw [if_neg (show ¬ (o == 9) = true by simpa using c9), if_neg (show ¬ (o == 14) = true by simpa using c14)]
 obtain ⟨a, b, rfl⟩ := kids_two hk c1.1 c1.2 c3 c4 c5 c9 c14
 simp only [List.map_cons, List.map_nil, List.getD_cons_zero, List.length_cons, List.length_nil, List.getD_cons_succ]
 generalize (valR at' fs a).1 = x
 generalize (valR at' fs b).1 = y
 show norm2 (opI o x y) = compI o x y
 unfold opI compI
 have e9 : (o == 9) = false := by simpa using c9
 have e14 : (o == 14) = false := by simpa using c14
 have hor : o = 6 ∨ o = 7 ∨ o = 8 ∨ o = 10 ∨ o = 11 ∨ o = 12 ∨ o = 13 ∨ o = 15 ∨ o = 16 ∨ o = 17 ∨ o = 18 := by omega
 rcases hor with rfl | rfl | rfl | rfl | rfl | rfl | rfl | rfl | rfl | rfl | rfl
 ·exact norm2_add _ _
 ·exact norm2_sub _ _
 ·exact norm2_mul _ _
 all_goals rfl
variable {E : AEnv} (Z : Sys E)
include Z
theorem meaning_value_ev (at' : List Coef) (fs : List Fact) (p : Pred) (hp : Good p) :
  E.C meaning_evaluator_value [.agg [.lst (at'.map Coef.cells), .lst (fs.map Fact.cells)], .agg p.cells] (res2 (valP at' fs p)) := by
 induction p using Pred.ind with
 | h o s n ks ih =>
 obtain ⟨⟨o1, o2⟩, hk, _, _⟩ := hp.top
 have hmost := kids_most hk
 have hfind := meaning_Find_ev Z at' s
 have hfact := meaning_fact_ev Z at' fs s (ks.map fun k => (valP at' fs k).1)
 have hin := num_In_ev Z (findC s at').1
 have hsub := fun a => num_Sub_ev Z 0 a
 have htr := meaning_truth_ev Z
 have hop := meaning_operation_ev Z o
 refine Z.meaning_evaluator_value _ _ ⟨Nat.le_of_ble_eq_true rfl, ?_⟩
 generalize hR : valP at' fs (.mk o s n ks) = R
 rw [valP_eq] at hR
 rw [Pred.cells_eq]
 unfold res2 at *
 have hrs : fn_meaning_evaluator_value.rs = [.t 4, .t 5] := rfl
 refine seq_named fun N0 h0 => ?_
 simp only [go_sem, Pred.op, Pred.name, Pred.n, Pred.kids]
 rw [h0]
 refine seq_named fun N1 h1 => ?_
 simp only [go_sem]
 rw [h1]
 refine seq_named fun N2 h2 => ?_
 simp only [go_sem]
 intro hlen
 refine loop_named fun K' hK => ?_
 refine loop_list ks (fun done => ∀ y ∈ done, (valP at' fs y).2 = true) (fun done rest => ⟨[(16, .d (.int .i64 done.length)), (15, .d (.int .i64 ks.length)), (14, .d (.lst (ks.map Pred.cells))), (6, .own 6 1 ((done.map fun k => (valP at' fs k).1).map icell)), (3, .ptr 3 0), (2, .ptr 2 0)], [(3, [.d (.int .i64 o), .d (.str s), .d (.int .i64 n), .d (.lst (ks.map Pred.cells))]), (2, [.d (.lst (at'.map Coef.cells)), .d (.lst (fs.map Fact.cells))])], [(6, true)]⟩) ?_ (by simp) ?_ ?_
 ·exact Ent_conv 6 6 1 [] [(6, 6)] rfl (by simp) rfl (by simp only [Ent0, go_sem, List.contains_nil, Option.isSome_some])
 ·intro done k r hl hI
  have hk' := ih k (by rw [hl]; simp) (hp.kid (by rw [hl]; simp))
  have hlt := lt_mid hl
  have hw : IntKind.i64.wrap ((done.length : Int) + 1) = ((done.length + 1 : Nat) : Int) := wrap_succ (by omega)
  have ha1 : (done.length + 1) * 8 ≤ 2 ^ 46 := by omega
  simp only [fn_meaning_evaluator_value_L1, go_sem, hlt, getD_midP hl]
  refine call_by hk' ?_
  cases h1 : (valP at' fs k).2 with
  | false =>
   have : ks.all (fun k => (valP at' fs k).2) = false := by
    rw [List.all_eq_false]; exact ⟨k, by rw [hl]; simp, by rw [h1]; simp⟩
   rw [this] at hR
   rw [hK, hrs]
   simp only [go_sem, h1, ← hR]
  | true =>
   simp only [go_sem, hw, List.length_append, List.length_map, List.map_append, icell_lens, h1]
   have hi1 : (∀ e ∈ [[D.int IntKind.i64 (valP at' fs k).1]], e.length = 1) = True := eq_true (by simp)
   simp only [hi1, go_sem]
   refine ⟨⟨ha1, by omega⟩, Ent_own [(6, 31)] ?_, app_all hI h1⟩
   simp only [go_sem, List.contains_nil, Option.isSome_some, icell]
 ·intro hI
  have hall : ks.all (fun k => (valP at' fs k).2) = true := List.all_eq_true.2 hI
  rw [if_pos hall] at hR
  simp only [fn_meaning_evaluator_value_L1, go_sem]
  rw [hK]
  simp only [go_sem]
  rw [h2, hrs]
  unfold topP at hR
  by_cases c1 : o = 1
  ·subst c1; simp only [beq_self_eq_true, ↓reduceIte, go_sem] at hR ⊢; simp only [← hR, and_self]
  have e1 : (o == 1) = false := by simpa using c1
  by_cases c2 : o = 2
  ·subst c2; simp only [e1, beq_self_eq_true, ↓reduceIte, go_sem] at hR ⊢; simp only [← hR, and_self]
  have e2 : (o == 2) = false := by simpa using c2
  by_cases c3 : o = 3
  ·subst c3
   simp only [e1, e2, beq_self_eq_true, ↓reduceIte, go_sem] at hR ⊢
   refine call_by hfind ?_
   simp only [go_sem]
   refine call_g hin ?_
   simp only [go_sem, ← hR]
  have e3 : (o == 3) = false := by simpa using c3
  by_cases c4 : o = 4
  ·subst c4
   simp only [e1, e2, e3, beq_self_eq_true, ↓reduceIte, go_sem] at hR ⊢
   refine call_by hfact ?_
   simp only [go_sem, ← hR]
  have e4 : (o == 4) = false := by simpa using c4
  by_cases c5 : o = 5
  ·subst c5; simp only [e1, e2, e3, e4, beq_self_eq_true, ↓reduceIte, go_sem] at hR ⊢; simp only [← hR, and_self]
  have e5 : (o == 5) = false := by simpa using c5
  by_cases c9 : o = 9
  ·subst c9
   obtain ⟨a, rfl⟩ := kids_one hk rfl
   simp only [e1, e2, e3, e4, e5, beq_self_eq_true, ↓reduceIte, go_sem, icell] at hR ⊢
   refine ⟨by simp, ?_⟩
   refine call_by (hsub _) ?_
   simp only [go_sem, ← hR]
  have e9 : (o == 9) = false := by simpa using c9
  by_cases c14 : o = 14
  ·subst c14
   obtain ⟨a, rfl⟩ := kids_one hk rfl
   simp only [e1, e2, e3, e4, e5, e9, beq_self_eq_true, ↓reduceIte, go_sem, icell] at hR ⊢
   refine ⟨by simp, ?_⟩
   refine call_by (htr _) ?_
   simp only [go_sem, ← hR]
  have e14 : (o == 14) = false := by simpa using c14
  obtain ⟨a, b, rfl⟩ := kids_two hk c1 c2 c3 c4 c5 c9 c14
  simp only [e1, e2, e3, e4, e5, e9, e14, ↓reduceIte, go_sem, icell] at hR ⊢
  refine ⟨by simp, by simp, ?_⟩
  refine call_by (hop _ _) ?_
  simp only [go_sem, ← hR]
end Go.Abs
end
section
namespace Go.Abs
def EvalS (at' : List Coef) (fs : List Fact) (p : Pred) : Int × Bool := if p.checkE != 0 then (0, false) else valR at' fs p
theorem beq_zero_check {p : Pred} : (p.checkE != 0) = false → p.checkE = 0 := by intro h; simpa using h
variable {E : AEnv} (Z : Sys E)
include Z
theorem meaning_Eval_ev (hG : E.G 0 = some (kws.map .str)) (hIt : ∀ p, E.It pred_before_1 [.ref (Pred.cells p)] (yields p.pre)) (at' : List Coef) (fs : List Fact) (p : Pred) :
  E.C meaning_Eval [.agg p.cells, .one (.lst (at'.map Coef.cells)), .one (.lst (fs.map Fact.cells))] (res2 (EvalS at' fs p)) := by
 have hc := pred_Check_ev Z hG hIt p
 have hv := fun h => meaning_value_ev Z at' fs p h
 have hn := fun h => val_norm at' fs p h
 have hgd := fun h => good_of (p := p) h
 refine Z.meaning_Eval _ _ ⟨Nat.le_of_ble_eq_true rfl, ?_⟩
 generalize hR : EvalS at' fs p = R
 unfold EvalS at hR
 unfold res2 at *
 obtain ⟨o, s, n, ks⟩ := p
 rw [Pred.cells_eq] at *
 simp only [fn_meaning_Eval, go_sem, Pred.op, Pred.name, Pred.n, Pred.kids] at hc hv ⊢
 refine call_by hc ?_
 cases c0 : (Pred.checkE (.mk o s n ks) != 0) with
 | true => simp only [c0, go_sem] at hR ⊢; simp only [← hR, and_self]
 | false =>
  have hg := hgd (beq_zero_check c0)
  have hnn := hn hg
  simp only [c0, go_sem] at hR ⊢
  refine call_by (hv hg) ?_
  rw [← hR, ← hnn]
  unfold norm2
  cases c1 : (valP at' fs (.mk o s n ks)).2 <;> simp only [go_sem, c1]
end Go.Abs
end
section
namespace Go.Abs
theorem digit_toNat {d : Nat} (h : d < 10) : (UInt8.ofNat (48 + d)).toNat = 48 + d := by simp; omega
theorem decDigits_mem : ∀ (u : Nat) (c : UInt8), c ∈ Lib.decDigits u → 48 ≤ c.toNat ∧ c.toNat ≤ 57 := by
 intro u
 induction u using Nat.strongRecOn with
 | ind u ih =>
  intro c hc
  rw [Lib.decDigits] at hc
  split at hc
  ·rename_i h
   simp only [List.mem_singleton] at hc
   subst hc
   rw [digit_toNat h]; omega
  ·rename_i h
   rcases List.mem_append.1 hc with hc | hc
   ·exact ih (u / 10) (by omega) c hc
   ·simp only [List.mem_singleton] at hc
    subst hc
    rw [digit_toNat (by omega)]; omega
def ofDigits (l : List UInt8) : Nat := l.foldl (fun a c => a * 10 + (c.toNat - 48)) 0
theorem ofDigits_dec : ∀ u : Nat, ofDigits (Lib.decDigits u) = u := by
 intro u
 induction u using Nat.strongRecOn with
 | ind u ih =>
  rw [Lib.decDigits]
  split
  ·rename_i h
   simp only [ofDigits, List.foldl_cons, List.foldl_nil]
   rw [digit_toNat h]; omega
  ·rename_i h
   have := ih (u / 10) (by omega)
   unfold ofDigits at this ⊢
   rw [List.foldl_append, this]
   simp only [List.foldl_cons, List.foldl_nil]
   rw [digit_toNat (by omega)]; omega
theorem itoa_inj {a b : Int} (h : Lib.itoa a = Lib.itoa b) : a = b := by
 have hne : ∀ u : Nat, Lib.decDigits u ≠ [] := fun u e => by
  have := Lib.nDigits_pos u
  rw [← Lib.decDigits_length, e] at this; simp at this
 have hm : ∀ u v : Nat, (45 : UInt8) :: Lib.decDigits u ≠ Lib.decDigits v := fun u v e => by
  have := decDigits_mem v 45 (by rw [← e]; simp)
  simp at this
 unfold Lib.itoa at h
 split at h <;> split at h
 ·rw [List.cons.injEq] at h
  have := congrArg ofDigits h.2
  rw [ofDigits_dec, ofDigits_dec] at this; omega
 ·exact absurd h (hm _ _)
 ·exact absurd h.symm (hm _ _)
 ·have := congrArg ofDigits h
  rw [ofDigits_dec, ofDigits_dec] at this; omega
def I64 (n : Int) : Prop := -9223372036854775808 ≤ n ∧ n ≤ 9223372036854775807
variable {E : AEnv} (Z : Sys E)
include Z
end Go.Abs
end
section
namespace Go.Abs
def pn (k : Int) : Pred := .mk 1 [] k []
end Go.Abs
end
section
namespace Go.Abs
theorem falseP_cells : Pred.cells falseP = [.int .i64 2, .str [], .int .i64 0, .lst []] := by rw [Pred.cells_eq]; rfl
theorem trueP_cells : Pred.cells trueP = [.int .i64 2, .str [], .int .i64 1, .lst []] := by rw [Pred.cells_eq]; rfl
theorem zeroP_cells : Pred.cells zeroP = [.int .i64 0, .str [], .int .i64 0, .lst []] := by rw [Pred.cells_eq]; rfl
theorem void_false : voidP falseP = false := by decide +kernel
theorem isFalse_eq (p : Pred) : isFalse p = p.same falseP := by
 unfold isFalse
 cases h : p.same falseP with
 | false => simp
 | true => rw [(Pred.same_iff _ _).1 h, void_false]; rfl
theorem void_and (a b : Pred) : voidP (.mk 15 [] 0 [a, b]) = false := by
 unfold voidP zeroP trueP
 rw [Pred.same_eq, Pred.same_eq]; simp
theorem andGo_void (l : List Pred) : voidP (andGo l).1 = !(andGo l).2 := by
 have key : ∀ (l : List Pred) (x : Pred × Bool), voidP x.1 = !x.2 → voidP (l.foldl andStp x).1 = !(l.foldl andStp x).2 := by
  intro l
  induction l with
  | nil => intro x h; exact h
  | cons p l ih =>
   intro x h
   rw [List.foldl_cons]
   refine ih _ ?_
   unfold andStp
   split
   ·exact h
   ·rename_i hv
    split
    ·exact void_and _ _
    ·simpa using hv
 exact key l (trueP, false) (by decide +kernel)
def subAll (names : List Str) (by' : List Pred) : Pred → Pred
 | .mk o s n ks => if o == 3 && (decide (findIx s 0 names ≥ 0) && decide (findIx s 0 names < by'.length)) then by'.getD (findIx s 0 names).toNat zeroP else .mk o s n (subs ks)
where
 subs : List Pred → List Pred
 | [] => []
 | k :: ks => subAll names by' k :: subs ks
theorem subAll_eq (names : List Str) (by' : List Pred) (o : Int) (s : Str) (n : Int) (ks : List Pred) : subAll names by' (.mk o s n ks) =
  if o == 3 && (decide (findIx s 0 names ≥ 0) && decide (findIx s 0 names < by'.length)) then by'.getD (findIx s 0 names).toNat zeroP else .mk o s n (ks.map (subAll names by')) := by
 rw [subAll]
 have : subAll.subs names by' ks = ks.map (subAll names by') := by
  induction ks with
  | nil => rfl
  | cons k ks ih => rw [subAll.subs, ih]; rfl
 rw [this]
theorem getD_mapP (l : List Pred) (i : Nat) (h : i < l.length) : (l.map Pred.cells).getD i [] = Pred.cells (l.getD i zeroP) := by
 simp [List.getD_eq_getElem?_getD, h]
theorem drop_cells (p : Pred) : List.drop 4 (p.cells.map AV.d) = [] := List.drop_eq_nil_of_le (by simp [Pred.cells_length])
variable {E : AEnv} (Z : Sys E)
include Z
theorem r07_True_ev : E.C r07_True [] (.agg (Pred.cells trueP)) := by
 refine Z.r07_True _ _ ⟨Nat.le_of_ble_eq_true rfl, ?_⟩
 rw [trueP_cells]
 simp only [fn_r07_True, go_sem]
theorem r07_False_ev : E.C r07_False [] (.agg (Pred.cells falseP)) := by
 refine Z.r07_False _ _ ⟨Nat.le_of_ble_eq_true rfl, ?_⟩
 rw [falseP_cells]
 simp only [fn_r07_False, go_sem]
theorem r07_Void_ev (p : Pred) : E.C r07_Void [.agg (Pred.cells p)] (.one (.bool (voidP p))) := by
 have h0 := r07_Same_ev Z p zeroP
 have h1 := r07_Same_ev Z p trueP
 have h2 := r07_True_ev Z
 refine Z.r07_Void _ _ ⟨Nat.le_of_ble_eq_true rfl, ?_⟩
 generalize hR : voidP p = R
 unfold voidP at hR
 rw [Bool.or_comm] at hR
 rw [zeroP_cells] at h0
 rw [trueP_cells] at h1 h2
 rw [Pred.cells_eq p] at *
 simp only [fn_r07_Void, go_sem]
 refine call_by h2 ?_
 simp only [go_sem]
 refine call_by h1 ?_
 simp only [go_sem]
 refine call_gi (fun _ => h0) ?_
 simp only [go_sem, hR]
theorem r07_And_ev (l : List Pred) : E.C r07_And [.one (.lst (l.map Pred.cells))] (.agg (andP l).cells) := by
 have hv := r07_Void_ev Z
 have hs := r07_Same_ev Z
 have ht := r07_True_ev Z
 have hf := r07_False_ev Z
 refine Z.r07_And _ _ ⟨Nat.le_of_ble_eq_true rfl, ?_⟩
 generalize hR : andP l = R
 unfold andP at hR
 simp only [fn_r07_And, go_sem]
 refine call_by ht ?_
 simp only [go_sem]
 intro hlen
 refine loop_named fun K' hK => ?_
 refine loop_list l (fun done => ∀ y ∈ done, isFalse y = false) (fun done rest => ⟨[(9, .d (.int .i64 done.length)), (8, .d (.int .i64 l.length)), (7, .d (.lst (l.map Pred.cells))), (3, .ptr 3 0), (2, .ptr 2 0)], [(3, (Pred.cells (andGo done).1).map .d), (2, [.d (.int .i64 0), .d (.str []), .d (.int .i64 0), .full []])], []⟩) ?_ (by simp) ?_ ?_
 ·exact Ent_plain (by simp only [go_sem, Option.isSome_some, andGo, List.foldl_nil])
 ·intro done k r hl hI
  have hlt := lt_mid hl
  have hw : IntKind.i64.wrap ((done.length : Int) + 1) = ((done.length + 1 : Nat) : Int) := wrap_succ (by omega)
  rw [any_mid hl hI] at hR
  have hgv := andGo_void done
  have hgs : andGo (done ++ [k]) = andStp (andGo done) k := andGo_app done k
  simp only [fn_r07_And_L1, go_sem, hlt, getD_midP hl]
  refine call_by hf ?_
  simp only [go_sem]
  refine call_by (hs k falseP) ?_
  cases c0 : k.same falseP with
  | true =>
   simp only [isFalse_eq, c0, go_sem] at hR ⊢
   refine call_by hf ?_
   simp only [go_sem, hK, ← hR]
  | false =>
  have hIk : isFalse k = false := by rw [isFalse_eq]; exact c0
  simp only [go_sem]
  refine call_by (hv k) ?_
  cases c1 : voidP k with
  | true =>
   have he : andGo (done ++ [k]) = andGo done := by rw [hgs, andStp, c1]; rfl
   simp only [go_sem, hw, List.length_append, he]
   exact ⟨Ent_plain (by simp only [go_sem, Option.isSome_some]), app_all hI hIk⟩
  | false =>
  simp only [go_sem]
  refine call_by (hv (andGo done).1) ?_
  rw [hgv]
  cases c2 : (andGo done).2 with
  | false =>
   have he : andGo (done ++ [k]) = (k, true) := by rw [hgs, andStp, c1, c2]; rfl
   simp only [go_sem, hw, List.length_append, he, List.length_map, drop_cells]
   exact ⟨Ent_plain (by simp only [go_sem, Option.isSome_some]), app_all hI hIk⟩
  | true =>
   have he : andGo (done ++ [k]) = (.mk 15 [] 0 [(andGo done).1, k], true) := by rw [hgs, andStp, c1, c2]; rfl
   simp only [go_sem, hw, List.length_append, he, drop_cells]
   exact ⟨Ent_plain (by simp only [go_sem, Option.isSome_some, Pred.cells_eq (.mk 15 [] 0 [(andGo done).1, k]), Pred.op, Pred.name, Pred.n, Pred.kids]), app_all hI hIk⟩
 ·intro hI
  rw [any_none hI] at hR
  simp only [fn_r07_And_L1, go_sem, hK] at hR ⊢
  simp only [hR]
theorem r07_with_ev (o : Int) (s : Str) (n : Int) (ks l : List Pred) : E.C r07_with [.agg (Pred.cells (.mk o s n ks)), .one (.lst (l.map Pred.cells))] (.agg (Pred.cells (.mk o s n l))) := by
 refine Z.r07_with _ _ ⟨Nat.le_of_ble_eq_true rfl, ?_⟩
 rw [Pred.cells_eq, Pred.cells_eq]
 simp only [fn_r07_with, go_sem, Pred.op, Pred.name, Pred.n, Pred.kids]
theorem r07_SubstAll_ev (names : List Str) (by' : List Pred) (p : Pred) (hp : Tame p) : E.C r07_SubstAll [.agg p.cells, .one (.lst (names.map fun k => [.str k])), .one (.lst (by'.map Pred.cells))] (.agg (subAll names by' p).cells) := by
 induction p using Pred.ind with
 | h o s n ks ih =>
 have hk : Small ks.length := hp.top
 unfold Small at hk
 have hfind := r04_Find_ev Z names s
 have hwith := r07_with_ev Z o s n ks (ks.map (subAll names by'))
 refine Z.r07_SubstAll _ _ ⟨Nat.le_of_ble_eq_true rfl, ?_⟩
 generalize hR : subAll names by' (.mk o s n ks) = R
 rw [subAll_eq] at hR
 generalize findIx s 0 names = ix at *
 rw [Pred.cells_eq (.mk o s n ks)] at *
 have hrs : fn_r07_SubstAll.rs = [.c 6 true 4] := rfl
 have tail : ∀ (st : St), (o == 3 && (decide (ix ≥ 0) && decide (ix < by'.length))) = false → getS st.slots 3 = .ptr 3 0 → getS st.slots 6 = .ptr 6 0 → getS st.slots 1 = .d (.lst (names.map fun k => [.str k])) → getS st.slots 2 = .d (.lst (by'.map Pred.cells)) → st.mem = [(6, [.d (.int .i64 0), .d (.str []), .d (.int .i64 0), .full []]), (3, [.d (.int .i64 o), .d (.str s), .d (.int .i64 n), .d (.lst (ks.map Pred.cells))])] → st.tk = [] →
   ∀ N, N = awp E (.seq (.reg [(none, .mv 8 (.c (.full [])))]) (.seq (.seq (.reg [(none, .fa 30 3 (.t 3)), (none, .ld 31 false 1 (.t 30)), (none, .len 32 false (.t 31)), (none, .mv 33 (.c (.d (.int .i64 0))))]) (.block 0 (.loop fn_r07_SubstAll_L1))) (.seq (.reg [(none, .ld 45 true 4 (.t 3)), (none, .mv 46 (.t 8)), (none, .call (some 47) (.c (.d (.clo r07_with []))) [.t 45, .t 46]), (none, .st 4 (.t 6) (.t 47))]) (.ret)))) (retK fn_r07_SubstAll.rs (.agg (Pred.cells R))) → N st := by
  intro st hc e3 e6 e1 e2 em et N hN
  rw [hc] at hR
  obtain ⟨sl, mm, tk⟩ := st
  simp only at e3 e6 e1 e2 em et
  subst em; subst et
  rw [hN]
  simp only [go_sem, e3, e6, e1, e2]
  intro hlen
  refine loop_named fun K' hK => ?_
  refine loop_list ks (fun _ => True) (fun done rest => ⟨[(33, .d (.int .i64 done.length)), (32, .d (.int .i64 ks.length)), (31, .d (.lst (ks.map Pred.cells))), (8, .own 8 4 ((done.map (subAll names by')).map Pred.cells)), (1, .d (.lst (names.map fun k => [.str k]))), (2, .d (.lst (by'.map Pred.cells))), (3, .ptr 3 0), (6, .ptr 6 0)], [(6, [.d (.int .i64 0), .d (.str []), .d (.int .i64 0), .full []]), (3, [.d (.int .i64 o), .d (.str s), .d (.int .i64 n), .d (.lst (ks.map Pred.cells))])], [(8, true)]⟩) ?_ trivial ?_ ?_
  ·exact Ent_conv 8 8 4 [] [(8, 8)] rfl (by simp) rfl (by simp only [Ent0, go_sem, List.contains_nil, Option.isSome_some, e3, e6, e1, e2])
  ·intro done k r hl _
   have hk' := ih k (by rw [hl]; simp) (hp.kid (by rw [hl]; simp))
   have hlt := lt_mid hl
   have hw : IntKind.i64.wrap ((done.length : Int) + 1) = ((done.length + 1 : Nat) : Int) := wrap_succ (by omega)
   have ha1 : (done.length + 1) * 56 ≤ 2 ^ 46 := by omega
   simp only [fn_r07_SubstAll_L1, go_sem, hlt, getD_midP hl]
   refine call_by hk' ?_
   simp only [go_sem, hw, List.length_append, List.length_map, List.map_append, Pred.lens_true]
   refine ⟨⟨by simp [Pred.cells_length], ha1, by omega⟩, Ent_own [(8, 43)] ?_⟩
   simp only [go_sem, List.contains_nil, Option.isSome_some]
  ·intro _
   simp only [fn_r07_SubstAll_L1, go_sem, hK, Pred.op, Pred.name, Pred.n, Pred.kids] at hwith hR ⊢
   refine call_by hwith ?_
   simp only [go_sem, hrs, ← hR]
 refine seq_named fun N0 h0 => ?_
 simp only [go_sem, Pred.op, Pred.name, Pred.n, Pred.kids]
 rw [h0]
 refine seq_named fun N1 h1 => ?_
 cases c3 : (o == 3) with
 | false =>
  simp only [go_sem, c3]
  exact tail _ (by rw [c3]; rfl) rfl rfl rfl rfl rfl rfl N1 h1
 | true =>
  simp only [go_sem, c3]
  refine call_by hfind ?_
  simp only [go_sem]
  intro _
  cases c4 : (decide (ix ≥ 0) && decide (ix < by'.length)) with
  | false =>
   simp only [go_sem]
   exact tail _ (by rw [c3, c4]; rfl) rfl rfl rfl rfl rfl rfl N1 h1
  | true =>
   simp only [c3, c4, go_sem] at hR ⊢
   simp only [Bool.and_eq_true, decide_eq_true_eq] at c4
   have hlt : ix.toNat < by'.length := by omega
   have hge : (0 ≤ ix) = True := eq_true (by omega)
   have hlt' : (ix < (by'.length : Int)) = True := eq_true c4.2
   simp only [hge, hlt', getD_mapP _ _ hlt, go_sem, hrs, hR]
theorem r07_Subst_ev (s : Str) (by' p : Pred) (hp : Tame p) : E.C r07_Subst [.agg p.cells, .one (.str s), .agg by'.cells] (.agg (subAll [s] [by'] p).cells) := by
 have h := r07_SubstAll_ev Z [s] [by'] p hp
 refine Z.r07_Subst _ _ ⟨Nat.le_of_ble_eq_true rfl, ?_⟩
 generalize subAll [s] [by'] p = R at *
 rw [Pred.cells_eq p, Pred.cells_eq by', Pred.cells_eq R] at *
 simp only [List.map_cons, List.map_nil, Pred.cells_eq by'] at h
 simp only [fn_r07_Subst, go_sem]
 refine call_by h ?_
 simp only [go_sem]
end Go.Abs
end
section
namespace Go.Abs
theorem AllN.mk {P : Pred → Prop} {o : Int} {s : Str} {n : Int} {ks : List Pred} (h : P (.mk o s n ks)) (hk : ∀ k ∈ ks, AllN P k) : AllN P (.mk o s n ks) := by
 intro q hq
 rw [Pred.pre_eq] at hq
 have hq' := List.mem_cons.1 hq
 clear hq
 rcases hq' with rfl | hq
 ·exact h
 ·clear h
  revert hq
  induction ks with
  | nil => intro hq; cases hq
  | cons x ks ih =>
   intro hq
   rw [Pred.pre.pres, List.mem_append] at hq
   rcases hq with hq | hq
   ·exact hk x (by simp) q hq
   ·exact ih (fun k hk' => hk k (by simp [hk'])) hq
theorem Pred.cnt_pos (p : Pred) : 1 ≤ p.cnt := by cases p; rw [Pred.cnt]; omega
theorem Pred.len_cnts (ks : List Pred) : ks.length ≤ Pred.cnts ks := by
 induction ks with
 | nil => simp
 | cons k ks ih => rw [Pred.cnts, List.length_cons]; have := Pred.cnt_pos k; omega
theorem tame_of_cnt (p : Pred) (h : p.cnt ≤ 1048576) : Tame p := by
 induction p using Pred.ind with
 | h o s n ks ih =>
 rw [Pred.cnt] at h
 refine AllN.mk ?_ fun k hk => ih k hk ?_
 ·have := Pred.len_cnts ks
  show Small ks.length
  unfold Small; omega
 ·have := Pred.cnt_le hk; omega
end Go.Abs
end
section
namespace Go.Abs
open Go.RowKit Go.Sort Go.Proofs
def segs : Code → Option (List (Nat × Array Oper))
 | .ret => some []
 | .seq (.region i ops false) c => (segs c).map ((i, ops) :: ·)
 | _ => none
abbrev OpC := Option Tmp × Op × Option (Nat × Bool)
def opc (o : Oper) : OpC := (o.dst, o.op, o.guard)
theorem segs_nil {c : Code} (h : segs c = some []) : c = .ret := by
 cases c with
 | ret => rfl
 | seq a b =>
  cases a with
  | region i ops d => cases d <;> simp [segs] at h
  | _ => simp [segs] at h
 | _ => simp [segs] at h
theorem segs_cons {c : Code} {i : Nat} {ops : Array Oper} {l : List (Nat × Array Oper)} (h : segs c = some ((i, ops) :: l)) : ∃ c', c = .seq (.region i ops false) c' ∧ segs c' = some l := by
 cases c with
 | seq a b =>
  cases a with
  | region i' ops' d =>
   cases d with
   | true => simp [segs] at h
   | false =>
    simp only [segs, Option.map_eq_some_iff] at h
    obtain ⟨l', h1, h2⟩ := h
    cases h2
    exact ⟨b, rfl, h1⟩
  | _ => simp [segs] at h
 | _ => simp [segs] at h
theorem segs_map {c : Code} {x : List OpC} {xs : List (List OpC)} (h : (segs c).map (fun l => l.map fun p => p.2.toList.map opc) = some (x :: xs)) :
  ∃ i ops c', c = .seq (.region i ops false) c' ∧ ops.toList.map opc = x ∧ (segs c').map (fun l => l.map fun p => p.2.toList.map opc) = some xs := by
 cases hs : segs c with
 | none => rw [hs] at h; cases h
 | some l =>
  rw [hs] at h
  cases l with
  | nil => simp at h
  | cons p l =>
   obtain ⟨i, ops⟩ := p
   obtain ⟨c', h1, h2⟩ := segs_cons hs
   simp only [Option.map_some, List.map_cons, Option.some.injEq, List.cons.injEq] at h
   exact ⟨i, ops, c', h1, h.1, by rw [h2]; simp [h.2]⟩
theorem segs_end {c : Code} (h : (segs c).map (fun l => l.map fun p => p.2.toList.map opc) = some []) : c = .ret := by
 cases hs : segs c with
 | none => rw [hs] at h; cases h
 | some l =>
  rw [hs] at h
  cases l with
  | nil => exact segs_nil hs
  | cons p l => simp at h
section
variable {F : Fence} {n : Nat} {P : Program} {ops : Array Oper} {Q : Exit → Act → World → Prop} {k : Nat} {N : Act → World → Prop} {a : Act} {w : World}
theorem opc_get {d : Option Tmp} {op : Op} {g : Option (Nat × Bool)} (ho : (ops.toList.map opc)[k]? = some (d, op, g)) : ∃ o, ops[k]? = some o ∧ o.dst = d ∧ o.op = op ∧ o.guard = g := by
 rw [List.getElem?_map, Array.getElem?_toList] at ho
 cases h : ops[k]? with
 | none => rw [h] at ho; cases ho
 | some o =>
  rw [h] at ho
  simp only [Option.map_some, Option.some.injEq, opc, Prod.mk.injEq] at ho
  exact ⟨o, rfl, ho.1, ho.2.1, ho.2.2⟩
theorem wpOp_val (hF : FW F) {d : Tmp} {op : Op} (ho : (ops.toList.map opc)[k]? = some (some d, op, none)) (hnd : ∀ c, op ≠ .defer c) {v : Value} {w' : World} (hrun : ∀ o : Oper, o.op = op → (execOp a.eval o).run P w = .ok (.value v) w')
  (hN : N { a with tmps := a.tmps.setIfInBounds d v } w') : wpOpIn F n P ops Q k N a w := by
 obtain ⟨o, h1, h2, h3, h4⟩ := opc_get ho
 unfold wpOpIn
 simp only [h1]
 rw [if_pos (by simp [Region.wanted, h4])]
 refine wpIn_fw hF (fun c hc => hnd c (h3 ▸ hc)) ?_
 unfold Oper.wp
 rw [hrun o h3]
 simp only [Oper.upon_value, Act.put, h2]
 exact hN
theorem wpOp_call (hF : FW F) {d : Tmp} {op : Op} (ho : (ops.toList.map opc)[k]? = some (some d, op, none)) (hnd : ∀ c, op ≠ .defer c) {f : FuncId} {args : Array Value} (hrun : ∀ o : Oper, o.op = op → (execOp a.eval o).run P w = .ok (.enter f args) w)
  {R : Ending → World → Prop} (hc : Calls P f args w R) (hN : ∀ e w', R e w' → ∃ v, e = .returned v ∧ N { a with tmps := a.tmps.setIfInBounds d v } w') : wpOpIn F n P ops Q k N a w := by
 obtain ⟨o, h1, h2, h3, h4⟩ := opc_get ho
 unfold wpOpIn
 simp only [h1]
 rw [if_pos (by simp [Region.wanted, h4])]
 refine wpIn_fw hF (fun c hc => hnd c (h3 ▸ hc)) ?_
 unfold Oper.wp
 rw [hrun o h3, Oper.upon_enter]
 refine hc.mono ?_
 intro e w' hR
 obtain ⟨v, rfl, hN⟩ := hN e w' hR
 simp only [Act.put, h2]
 exact hN
theorem wpIn_ops {i : Nat} {l : List OpC} (hl : ops.toList.map opc = l) (h : wpOpsIn F n P ops Q (List.range l.length) a w) : (Code.region i ops false).wpIn F n P Q a w :=
 wpIn_region (by have : ops.size = l.length := by rw [← hl]; simp
                 rw [this]; exact h)
end
theorem str_value {w : World} {S : Safe} {s : List UInt8} {v : Value} (h : Rep w S (.str s) v) : v = encStr s ∧ s.length ≤ 9223372036854775807 := by
 obtain ⟨x, h1, h2, h3⟩ := h
 subst h1 h2
 exact ⟨by simp [encStr], by simpa using h3⟩
theorem strs_values {w : World} {S : Safe} : ∀ {ss : List (List UInt8)} {l : List Value}, RepL w S (ss.map fun s => [D.str s]).flatten l → l = ss.map encStr ∧ ∀ s ∈ ss, s.length ≤ 9223372036854775807
 | [], l, h => by simp [RepL] at h; subst h; simp
 | s :: ss, l, h => by
  simp only [List.map_cons, List.flatten_cons, List.singleton_append] at h
  obtain ⟨v, r, h1, h2, h3⟩ := h
  obtain ⟨rfl, h4⟩ := str_value h2
  obtain ⟨h5, h6⟩ := strs_values h3
  subst h1 h5
  exact ⟨rfl, by simpa using ⟨h4, h6⟩⟩
theorem values_strs {w : World} {S : Safe} : ∀ {ss : List (List UInt8)}, (∀ s ∈ ss, s.length ≤ 9223372036854775807) → RepL w S (ss.map fun s => [D.str s]).flatten (ss.map encStr)
 | [], _ => by simp [RepL]
 | s :: ss, h => by
  simp only [List.map_cons, List.flatten_cons, List.singleton_append]
  exact ⟨_, _, rfl, ⟨_, rfl, by simp, by show s.toArray.size ≤ _; rw [List.size_toArray]; exact h s (by simp)⟩, values_strs fun x hx => h x (by simp [hx])⟩
theorem own_app {P : Program} {w : World} {B t ty e : TypeId} {ie : TypeInfo} {z : Value} {eb : Nat} (hu : P.underlying t = some (.slice e)) (hie : P.info? e = some ie) (q1 : ie.size = 1) (q2 : ie.bytes = eb) (q4 : ie.zero = some z) (q5 : z.cells.size = 1)
  {v : Value} {xs : List Value} (hown : w.ownsRow B e 1 v xs.length xs) {v2 : Value} {es : List (List D)} {S : Safe} (hy : Rep w S (.lst es) v2) (hes : ∀ x ∈ es, x.length = 1) (hB : B ≤ w.heap.size) (h63 : xs.length + es.length ≤ maxLen) (hby : (xs.length + es.length) * eb ≤ 140737488355328) :
  ∃ v' w' l2, RepL w S es.flatten l2 ∧ (Builtin.append_ #[t, t] ty #[v, v2]).run P w = .ok v' w' ∧ w'.ownsRow B e 1 v' (xs ++ l2).length (xs ++ l2) ∧ w.grownBy w' v.ownBlock ∧ (v' = .slice none 0 0 → v = .slice none 0 0) := by
 obtain ⟨base2, cap2, rfl, _⟩ := id hy
 obtain ⟨_, hm, hcap2, hnil2, l2, hl2, hl2c⟩ := lst_values hy
 have len2 : l2.length = es.length := by rw [RepL.length hl2, flatten_length hes, Nat.mul_one]
 cases base2 with
 | none =>
  have h0 : cap2 = 0 := hnil2 rfl
  have hes0 : es = [] := List.eq_nil_of_length_eq_zero (by omega)
  subst hes0
  have hl0 : l2 = [] := List.eq_nil_of_length_eq_zero (by simpa using len2)
  subst hl0
  refine ⟨v, w, [], hl2, ?_, by simpa using hown, ⟨rfl, rfl, rfl, Nat.le_refl _, fun _ _ _ => rfl⟩, id⟩
  rcases hown.2 with ⟨rfl, _⟩ | ⟨g, cap, cur, rfl, _, _, hn, _⟩
  ·exact run_append_zero w t ty e ie hu hie none 0 0 (Nat.le_refl _) none cap2
  ·exact run_append_zero w t ty e ie hu hie _ _ _ hn none cap2
 | some a2 =>
  obtain ⟨_, hc2⟩ := hl2c a2 rfl
  obtain ⟨v', w', h1, h2, h3, h4⟩ := run_append_own (P := P) w B t ty e ie z 1 eb hu hie q4 q1 q2 q5 (by omega) v xs.length xs hown a2 es.length cap2 l2 (by omega) (fun j u hj => (hc2 j u hj).1) (RepL.ones hl2) h63 hby hB
  exact ⟨v', w', l2, hl2, h1, by rw [List.length_append, len2]; exact h2, h3, fun h => (h4.1 h).1⟩
def unionOps (t fs fc : Nat) : List (List OpC) :=
 [[(some 4, .assign (.const (.slice none 0 0)), none)],
  [(some 6, .buildSlice t 0 #[], none), (some 7, .move (.tmp 0), none), (some 8, .call ⟨.builtin .append, #[.tmp 6, .tmp 7], #[t, t]⟩, none), (some 9, .move (.tmp 1), none), (some 10, .call ⟨.builtin .append, #[.tmp 8, .tmp 9], #[t, t]⟩, none), (some 5, .assign (.tmp 10), none)],
  [(some 11, .move (.tmp 5), none), (some 12, .call ⟨.value (.func fs), #[.tmp 11], #[t]⟩, none)],
  [(some 13, .move (.tmp 5), none), (some 14, .call ⟨.value (.func fc), #[.tmp 13], #[t]⟩, none), (some 4, .assign (.tmp 14), none)]]
abbrev sorted (ss : List (List UInt8)) : List (List UInt8) := ss.mergeSort fun x y => decide (x ≤ y)
def SortLaw (P : Program) (f : FuncId) : Prop := ∀ (blk off cap : Nat) (ss : List (List UInt8)) (w : World), Holds encStr w blk off ss.toArray → blk < w.heap.size → ss.length < 4611686018427387904 →
    Calls P f #[.slice (some ⟨blk, off, none⟩) ss.length cap] w fun e w' => e = .returned (.tuple #[]) ∧ ∃ n os, w' = grow (putRow encStr (Sort.ahead w n) blk off (sorted ss).toArray) os
def CompactLaw (P : Program) (f : FuncId) : Prop := ∀ (blk off cap : Nat) (zs : List (List UInt8)) (w : World), Holds encStr w blk off zs.toArray → zs.length ≤ 9223372036854775807 → zs.length ≤ cap →
    Calls P f #[.slice (some ⟨blk, off, none⟩) zs.length cap] w fun e w' => e = .returned (.slice (some ⟨blk, off, none⟩) (Lib.compact zs).length cap) ∧ ∃ q, w' = putRow encStr (Sort.ahead w q) blk off (Lib.compact zs ++ List.replicate (zs.length - (Lib.compact zs).length) []).toArray
theorem compact_mem {zs : List (List UInt8)} {x : List UInt8} (h : x ∈ Lib.compact zs) : x ∈ zs := by
 unfold Lib.compact Lib.compactUpTo at h
 obtain ⟨i, hi, rfl⟩ := List.mem_map.1 h
 have := List.mem_range.1 (List.mem_filter.1 hi).1
 simp [getElem!_pos, this]
end Go.Abs
end
section
namespace Go.Abs
open Go.Proofs
def unionS (a b : List Str) : List Str := Lib.compact (sorted (a ++ b))
theorem mem_compact {zs : List Str} {x : Str} (h : x ∈ zs) : x ∈ Lib.compact zs := by
 obtain ⟨i, hi, hx⟩ := List.getElem_of_mem h
 have key : ∀ (n i : Nat) (hi : i < zs.length), i = n → zs[i] = x → x ∈ Lib.compact zs := by
  intro n
  induction n with
  | zero =>
   intro i hi hn hx
   subst hn
   refine List.mem_map.2 ⟨0, List.mem_filter.2 ⟨List.mem_range.2 hi, by simp [Lib.keeps]⟩, ?_⟩
   simp [getElem!_pos, hi, hx]
  | succ n ih =>
   intro i hi hn hx
   subst hn
   by_cases he : zs[n]'(by omega) = x
   ·exact ih n (by omega) rfl he
   ·refine List.mem_map.2 ⟨n + 1, List.mem_filter.2 ⟨List.mem_range.2 hi, ?_⟩, ?_⟩
    ·simp only [Lib.keeps, decide_eq_true_eq]
     refine .inr ?_
     simp [getElem!_pos, hi, show n < zs.length by omega, hx]
     exact fun h => he h.symm
    ·simp [getElem!_pos, hi, hx]
 exact key i i hi rfl hx
theorem mem_unionS {a b : List Str} {x : Str} : x ∈ unionS a b ↔ x ∈ a ∨ x ∈ b := by
 unfold unionS
 rw [← List.mem_append]
 exact ⟨fun h => List.mem_mergeSort.1 (compact_mem h), fun h => mem_compact (List.mem_mergeSort.2 h)⟩
theorem unionS_len (a b : List Str) : (unionS a b).length ≤ a.length + b.length := by
 unfold unionS
 refine Nat.le_trans (Lib.compact_length_le _) ?_
 simp
def freeL (l : List Pred) : List Str := (l.filter fun q => q.op == 3).map Pred.name
def freeS (p : Pred) : List Str := unionS (freeL p.pre) []
theorem freeL_len (l : List Pred) : (freeL l).length ≤ l.length := by
 unfold freeL; rw [List.length_map]; exact List.length_filter_le _ _
def fv : List CV → List (List D)
 | [.agg (.int _ o :: .str s :: _)] => if o == 3 then [[.str s]] else []
 | _ => []
theorem fv_cells (o : Int) (s : Str) (n : Int) (ks : List Pred) : fv [.agg (Pred.cells (.mk o s n ks))] = if o == 3 then [[.str s]] else [] := by
 rw [Pred.cells_eq]; rfl
theorem fv_yields : ∀ l : List Pred, (yields l).flatMap fv = (freeL l).map fun s => [.str s]
 | [] => rfl
 | .mk o s n ks :: l => by
  have ih := fv_yields l
  unfold yields freeL at ih ⊢
  rw [List.map_cons, List.flatMap_cons, ih, fv_cells, List.filter_cons, show (Pred.mk o s n ks).op = o from rfl]
  cases h : (o == 3) <;> rfl
theorem fv_ones (l : List (List CV)) : ∀ e ∈ l.flatMap fv, e.length = 1 := by
 intro e he
 obtain ⟨x, _, hx⟩ := List.mem_flatMap.1 he
 unfold fv at hx
 split at hx
 ·split at hx <;> simp at hx; subst hx; rfl
 ·cases hx
variable {E : AEnv} (Z : Sys E)
include Z
theorem slices_Index_ev (l : List Str) (s : Str) : E.C slices_Index_string_string [.one (.lst (l.map fun k => [.str k])), .one (.str s)] (.one (.int .i64 (findIx s 0 l))) := by
 refine Z.slices_Index_string_string _ _ ⟨Nat.le_of_ble_eq_true rfl, ?_⟩
 simp only [fn_slices_Index_string_string, go_sem]
 intro hlen
 refine loop_list l (fun done => s ∉ done) (fun done rest => ⟨[(8, .d (.int .i64 done.length)), (7, .d (.int .i64 l.length)), (0, .d (.lst (l.map fun k => [.str k]))), (1, .d (.str s))], [], []⟩) ?_ (by simp) ?_ ?_
 ·exact Ent_plain (by simp only [go_sem])
 ·intro done k r hl hI
  have hlt := lt_mid hl
  have hw : IntKind.i64.wrap ((done.length : Int) + 1) = ((done.length + 1 : Nat) : Int) := wrap_succ (by omega)
  have hx : (l.map fun k => [D.str k]).getD done.length [] = [.str k] := by rw [hl]; exact getD_mid _ _ _ _ _
  have hls : (∀ e ∈ l.map fun k => [D.str k], e.length = 1) = True := eq_true (by simp)
  simp only [fn_slices_Index_string_string_L1, go_sem, hlt, hx, hls]
  cases h1 : (s == k) with
  | true =>
   simp only [go_sem]
   have h1 : k = s := by simpa using (beq_iff_eq.1 h1).symm
   rw [hl, findIx_app s done 0 _ hI, findIx, if_pos h1, Nat.zero_add]
  | false =>
   simp only [go_sem, hw, List.length_append]
   refine ⟨Ent_plain (by simp only [go_sem]), ?_⟩
   have h1 : s ≠ k := by simpa using h1
   simp only [List.mem_append, List.mem_singleton, not_or]
   exact ⟨hI, h1⟩
 ·intro hI
  simp only [fn_slices_Index_string_string_L1, go_sem, findIx_none s l 0 hI]
theorem names_Find_ev (l : List Str) (s : Str) : E.C names_Find [.one (.lst (l.map fun k => [.str k])), .one (.str s)] (.one (.int .i64 (findIx s 0 l))) := by
 have h := slices_Index_ev Z l s
 refine Z.names_Find _ _ ⟨Nat.le_of_ble_eq_true rfl, ?_⟩
 simp only [fn_names_Find, go_sem]
 refine call_by h ?_
 simp only [go_sem]
theorem pred_SubstAll_ev (names : List Str) (by' : List Pred) (hb : ∀ b ∈ by', Tame b) (p : Pred) (hp : Tame p) : E.C pred_SubstAll [.agg p.cells, .one (.lst (names.map fun k => [.str k])), .one (.lst (by'.map Pred.cells))] (.agg (subAll names by' p).cells) := by
 induction p using Pred.ind with
 | h o s n ks ih =>
 have hk : Small ks.length := hp.top
 unfold Small at hk
 have hfind := names_Find_ev Z names s
 have hcp := fun q hq => pred_copied_ev Z q hq
 refine Z.pred_SubstAll _ _ ⟨Nat.le_of_ble_eq_true rfl, ?_⟩
 generalize hR : subAll names by' (.mk o s n ks) = R
 rw [subAll_eq] at hR
 generalize findIx s 0 names = ix at *
 rw [Pred.cells_eq (.mk o s n ks)] at *
 have hrs : fn_pred_SubstAll.rs = [.c 6 true 4] := rfl
 have tail : ∀ (st : St), (o == 3 && (decide (ix ≥ 0) && decide (ix < by'.length))) = false → getS st.slots 3 = .ptr 3 0 → getS st.slots 6 = .ptr 6 0 → getS st.slots 1 = .d (.lst (names.map fun k => [.str k])) → getS st.slots 2 = .d (.lst (by'.map Pred.cells)) → st.mem = [(6, [.d (.int .i64 0), .d (.str []), .d (.int .i64 0), .full []]), (3, [.d (.int .i64 o), .d (.str s), .d (.int .i64 n), .d (.lst (ks.map Pred.cells))])] → st.tk = [] →
   ∀ N, N = awp E (.seq (.reg [(none, .fa 31 0 (.t 3)), (none, .ld 32 false 1 (.t 31)), (none, .fa 33 1 (.t 3)), (none, .ld 34 false 1 (.t 33)), (none, .fa 35 2 (.t 3)), (none, .ld 36 false 1 (.t 35)), (none, .build 37 [.d (.int .i64 0), .d (.str []), .d (.int .i64 0), .full []] [(0, 1, .t 32), (1, 1, .t 34), (2, 1, .t 36)]), (none, .alloc 8 [.d (.int .i64 0), .d (.str []), .d (.int .i64 0), .full []]), (none, .st 4 (.t 8) (.t 37))]) (.seq (.seq (.reg [(none, .fa 38 3 (.t 3)), (none, .ld 39 false 1 (.t 38)), (none, .len 40 false (.t 39)), (none, .mv 41 (.c (.d (.int .i64 0))))]) (.block 0 (.loop fn_pred_SubstAll_L1))) (.seq (.reg [(none, .ld 55 true 4 (.t 8)), (none, .st 4 (.t 6) (.t 55))]) (.ret)))) (retK fn_pred_SubstAll.rs (.agg (Pred.cells R))) → N st := by
  intro st hc e3 e6 e1 e2 em et N hN
  rw [hc] at hR
  obtain ⟨sl, mm, tk⟩ := st
  simp only at e3 e6 e1 e2 em et
  subst em; subst et
  rw [hN]
  simp only [go_sem, e3, e6, e1, e2]
  intro hlen
  refine loop_named fun K' hK => ?_
  refine loop_list ks (fun _ => True) (fun done rest => ⟨[(41, .d (.int .i64 done.length)), (40, .d (.int .i64 ks.length)), (39, .d (.lst (ks.map Pred.cells))), (8, .ptr 8 0), (1, .d (.lst (names.map fun k => [.str k]))), (2, .d (.lst (by'.map Pred.cells))), (3, .ptr 3 0), (6, .ptr 6 0)], [(8, [.d (.int .i64 o), .d (.str s), .d (.int .i64 n), .own 8 4 ((done.map (subAll names by')).map Pred.cells)]), (6, [.d (.int .i64 0), .d (.str []), .d (.int .i64 0), .full []]), (3, [.d (.int .i64 o), .d (.str s), .d (.int .i64 n), .d (.lst (ks.map Pred.cells))])], [(8, true)]⟩) ?_ trivial ?_ ?_
  ·exact Ent_convm 8 3 8 4 _ [] [(8, 8)] rfl rfl (by simp) rfl (by simp only [Ent0, go_sem, List.contains_nil, Option.isSome_some, e3, e6, e1, e2])
  ·intro done k r hl _
   have hk' := ih k (by rw [hl]; simp) (hp.kid (by rw [hl]; simp))
   have hlt := lt_mid hl
   have hw : IntKind.i64.wrap ((done.length : Int) + 1) = ((done.length + 1 : Nat) : Int) := wrap_succ (by omega)
   have ha1 : (done.length + 1) * 56 ≤ 2 ^ 46 := by omega
   simp only [fn_pred_SubstAll_L1, go_sem, hlt, getD_midP hl]
   refine call_by hk' ?_
   simp only [go_sem, hw, List.length_append, List.length_map, List.map_append, Pred.lens_true]
   refine ⟨⟨by simp [Pred.cells_length], ha1, by omega⟩, Ent_own [(8, 52)] ?_⟩
   simp only [go_sem, List.contains_nil, Option.isSome_some]
  ·intro _
   simp only [fn_pred_SubstAll_L1, go_sem, hK, Pred.op, Pred.name, Pred.n, Pred.kids] at hR ⊢
   rw [← hR]
   simp only [go_sem, hrs, Pred.cells_eq (.mk o s n (ks.map (subAll names by'))), Pred.op, Pred.name, Pred.n, Pred.kids]
 refine seq_named fun N0 h0 => ?_
 simp only [go_sem, Pred.op, Pred.name, Pred.n, Pred.kids]
 rw [h0]
 refine seq_named fun N1 h1 => ?_
 cases c3 : (o == 3) with
 | false =>
  simp only [go_sem, c3]
  exact tail _ (by rw [c3]; rfl) rfl rfl rfl rfl rfl rfl N1 h1
 | true =>
  simp only [go_sem, c3]
  refine call_by hfind ?_
  simp only [go_sem]
  intro _
  cases c4 : (decide (ix ≥ 0) && decide (ix < by'.length)) with
  | false =>
   simp only [go_sem]
   exact tail _ (by rw [c3, c4]; rfl) rfl rfl rfl rfl rfl rfl N1 h1
  | true =>
   simp only [c3, c4, go_sem] at hR ⊢
   simp only [Bool.and_eq_true, decide_eq_true_eq] at c4
   have hlt : ix.toNat < by'.length := by omega
   have hge : (0 ≤ ix) = True := eq_true (by omega)
   have hlt' : (ix < (by'.length : Int)) = True := eq_true c4.2
   have hq := hcp R (by
    rw [← hR, List.getD_eq_getElem?_getD, List.getElem?_eq_getElem hlt]
    exact hb _ (List.getElem_mem hlt))
   simp only [hge, hlt', getD_mapP _ _ hlt, go_sem, hR]
   refine call_by hq ?_
   simp only [go_sem, hrs]
theorem pred_Subst_ev (s : Str) (by' p : Pred) (hb : Tame by') (hp : Tame p) : E.C pred_Subst [.agg p.cells, .one (.str s), .agg by'.cells] (.agg (subAll [s] [by'] p).cells) := by
 have h := pred_SubstAll_ev Z [s] [by'] (by simpa using hb) p hp
 refine Z.pred_Subst _ _ ⟨Nat.le_of_ble_eq_true rfl, ?_⟩
 generalize subAll [s] [by'] p = R at *
 rw [Pred.cells_eq p, Pred.cells_eq by', Pred.cells_eq R] at *
 simp only [List.map_cons, List.map_nil, Pred.cells_eq by'] at h
 simp only [fn_pred_Subst, go_sem]
 refine call_by h ?_
 simp only [go_sem]
end Go.Abs
end
section
namespace Go.Abs
open Go.RowKit Go.Sort Go.Proofs
theorem ops_nil {F : Fence} {n : Nat} {P : Program} {ops : Array Oper} {Q : Exit → Act → World → Prop} {a : Act} {w : World} (h : Q .normal a w) : wpOpsIn F n P ops Q [] a w := h
theorem run_mv {P : Program} {a : Act} {w : World} {x : Operand} {o : Oper} (ho : o.op = .move x) : (execOp a.eval o).run P w = .ok (.value (a.eval x)) w := by
 unfold execOp; simp [ho]
theorem run_asg {P : Program} {a : Act} {w : World} {x : Operand} {o : Oper} (ho : o.op = .assign x) : (execOp a.eval o).run P w = .ok (.value (a.eval x)) w := by
 unfold execOp; simp [ho]
theorem run_app {P : Program} {a : Act} {w w' : World} {x y : Operand} {t : Nat} {v : Value} {o : Oper} (ho : o.op = .call ⟨.builtin .append, #[x, y], #[t, t]⟩) (h : ∀ ty, (Builtin.append_ #[t, t] ty #[a.eval x, a.eval y]).run P w = .ok v w') : (execOp a.eval o).run P w = .ok (.value v) w' := by
 unfold execOp; simp [ho, resolve, invoke, builtin, h]
theorem run_fn {P : Program} {a : Act} {w : World} {x : Operand} {t : Nat} {f : FuncId} {o : Oper} (hen : Enters P f) (ho : o.op = .call ⟨.value (.func f), #[x], #[t]⟩) : (execOp a.eval o).run P w = .ok (.enter f #[a.eval x]) w := by
 obtain ⟨fn, hfn, hname, hbody⟩ := hen
 have hname' : ¬ fn.name = "runtime.NumGoroutine" := by simpa using hname
 have hbody' : ¬ fn.body = none := by intro e; simp [e] at hbody
 unfold execOp
 simp [ho, resolve, invoke, callFunc, Deferred.ofValue, Act.eval, hfn, hname', hbody']
theorem run_bsl0 {P : Program} {a : Act} {w : World} {t e : TypeId} {ie : TypeInfo} {o : Oper} (hu : P.underlying t = some (.slice e)) (hie : P.info? e = some ie) (ho : o.op = .buildSlice t 0 #[]) : (execOp a.eval o).run P w = .ok (.value (.slice (some ⟨w.heap.size, 0, none⟩) 0 0)) (w.alloc (.cells #[] e)) := by
 unfold execOp
 simp [ho, Instr.buildSlice, run_underlying hu, run_sizeOf hie, Instr.fill, newRow]
 congr 2
 exact Array.ext (by simp) (by simp)
theorem end_tmp {P : Program} {T : Nat → Option Ty} {fn : Func} {tmps : Array Value} {k : Nat} {w : World} (hres : fn.results.toList.mapM (trRes T) = some [.t k]) : (results fn tmps).run P w = .ok (tmps.getD k undef) w := by
 have hone : ∃ rv, fn.results.toList = [rv] ∧ trRes T rv = some (.t k) := by
  generalize fn.results.toList = l at hres
  cases l with
  | nil => simp at hres
  | cons rv l =>
   simp only [List.mapM_cons, Option.bind_eq_bind, Option.bind_eq_some_iff, Option.pure_def, Option.some.injEq] at hres
   obtain ⟨x', hx, xs, hxs, hrs⟩ := hres
   cases hrs
   cases l with
   | nil => exact ⟨rv, rfl, hx⟩
   | cons rv2 l =>
    simp only [List.mapM_cons, Option.bind_eq_bind, Option.bind_eq_some_iff, Option.pure_def, Option.some.injEq] at hxs
    obtain ⟨_, _, _, _, hxs⟩ := hxs
    cases hxs
 obtain ⟨rv, hrv, htx⟩ := hone
 cases rv with
 | tmp t =>
  simp only [trRes, Option.some.injEq, R.t.injEq] at htx
  subst htx
  rw [results_eq, Array.mapM_eq_mapM_toList, hrv]
  simp only [List.mapM_cons, List.mapM_nil, Sem.run_bind, Sem.run_map, rvRun]
  simp
 | cell a t =>
  simp only [trRes, Option.bind_eq_bind, Option.bind_eq_some_iff] at htx
  obtain ⟨_, _, h⟩ := htx
  cases h
theorem leaves_end {P : Program} {fn : Func} {tmps : Array Value} {R : Ending → World → Prop} {w : World} {v : Value} (h1 : (results fn tmps).run P w = .ok v w) (h2 : R (.returned v) w) : LeavesInM Fence.wide 0 P fn tmps R [] .returning w := ⟨v, h1, h2⟩
theorem EvOwn.plain {P : Program} {G : Nat → Option (List D)} {f : FuncId} {args : List CV} {sz : Nat} {es : List (List D)} (h : EvOwn P G f args none sz es) : EvD P G f args (.one (.lst es)) := by
 refine ⟨h.1, fun w S cargs hl hg ha => ?_⟩
 refine (h.2 w S cargs [] hl hg ha rfl).mono ?_
 rintro e w' ⟨v, S', rfl, h1, _, _, hb, hk, hn, hv⟩
 have hn' : ∀ b, OwnX P w [] b → w.heap.size ≤ b := fun b h => by rcases h with h | ⟨h, _⟩; exact h; cases h
 exact ⟨v, S', rfl, h1, ⟨hb.os, hb.tape, hb.output, hb.size, fun k hk => hb.block k fun ho => by have := hn' k ho; omega⟩, fun b o hs => (hk b o hs).1, fun b o hs => (hn b o hs).imp id (hn' b), hv⟩
theorem union_ev {P : Program} {G : Nat → Option (List D)} {f fs fc t : Nat} {eb : Nat} {T : Nat → Option Ty} {fn : Func} {cd : Code} (hf : P.funcs[f]? = some fn) (hname : (fn.name == "runtime.NumGoroutine") = false) (hcd : fn.body = some cd)
  (hseg : (segs cd).map (fun l => l.map fun p => p.2.toList.map opc) = some (unionOps t fs fc)) (hnt : fn.ntmps = 15) (hres : fn.results.toList.mapM (trRes T) = some [.t 4]) (hT : ∀ t ty, T t = some ty → chkTy P t ty = true) (ht : chkTy P t (.slice 1 eb) = true) (heb : eb ≤ 16)
  (hes : Enters P fs) (hec : Enters P fc) (hsort : SortLaw P fs) (hcomp : CompactLaw P fc) (sa sb : List (List UInt8)) (hlen : sa.length + sb.length < 4398046511104) :
  Ev P G f [.one (.lst (sa.map fun s => [.str s])), .one (.lst (sb.map fun s => [.str s]))] (.own none 1 ((Lib.compact (sorted (sa ++ sb))).map fun s => [.str s])) := by
 obtain ⟨e, ie, z, hu, hie, q1, q2, q3, q4, q5⟩ := slice_facts ht
 refine ⟨⟨fn, hf, hname, by simp [hcd]⟩, fun w S cargs X hlive hglob hargs hX => ?_⟩
 obtain rfl : X = [] := hX
 obtain ⟨va, r, e1, h1, vb, r2, rfl, h2, e3⟩ := hargs
 simp only [RepCL] at e3
 subst e3
 obtain rfl : cargs = #[va, vb] := by cases cargs; simp_all
 have h1 : Rep w S (.lst (sa.map fun s => [.str s])) va := h1
 have h2 : Rep w S (.lst (sb.map fun s => [.str s])) vb := h2
 have one : ∀ (l : List (List UInt8)), ∀ x ∈ (l.map fun s => [D.str s]), x.length = 1 := fun l x hx => by
  obtain ⟨s, _, rfl⟩ := List.mem_map.1 hx; rfl
 obtain ⟨i0, r0, c0, rfl, hl0, hseg⟩ := segs_map hseg
 obtain ⟨i1, r1, c1, rfl, hl1, hseg⟩ := segs_map hseg
 obtain ⟨i2, r2, c2, rfl, hl2, hseg⟩ := segs_map hseg
 obtain ⟨i3, r3, c3, rfl, hl3, hseg⟩ := segs_map hseg
 obtain rfl := segs_end hseg
 refine callsIn_wide.1 (callsIn_of_wp_marks (n := 0) (R := GivesO P w S [] 1 _) hf hcd trivial ?_)
 have hT0 : #[va, vb] ++ Array.replicate (fn.ntmps - #[va, vb].size) undef = #[va, vb, undef, undef, undef, undef, undef, undef, undef, undef, undef, undef, undef, undef, undef] := by rw [hnt]; rfl
 rw [hT0]
 have hF : FW Fence.wide := FW.wide
 refine wpIn_seq (wpIn_ops hl0 ?_)
 show wpOpsIn _ _ _ _ _ [0] _ _
 rw [wpOpsIn_cons]
 refine wpOp_val hF (v := .slice none 0 0) (by rw [hl0]; rfl) (by simp) (fun o ho => run_asg ho) ?_
 refine ops_nil ?_
 show Code.wpIn _ _ _ _ _ ⟨#[va, vb, undef, undef, .slice none 0 0, undef, undef, undef, undef, undef, undef, undef, undef, undef, undef], []⟩ _
 refine wpIn_seq (wpIn_ops hl1 ?_)
 show wpOpsIn _ _ _ _ _ [0, 1, 2, 3, 4, 5] _ _
 simp only [wpOpsIn_cons]
 refine wpOp_val hF (v := (.slice (some ⟨w.heap.size, 0, none⟩) 0 0)) (by rw [hl1]; rfl) (by simp) (fun o ho => run_bsl0 hu hie ho) ?_
 show wpOpIn _ _ _ _ _ _ _ ⟨#[va, vb, undef, undef, .slice none 0 0, undef, (.slice (some ⟨w.heap.size, 0, none⟩) 0 0), undef, undef, undef, undef, undef, undef, undef, undef], []⟩ _
 refine wpOp_val hF (v := va) (by rw [hl1]; rfl) (by simp) (fun o ho => run_mv ho) ?_
 show wpOpIn _ _ _ _ _ _ _ ⟨#[va, vb, undef, undef, .slice none 0 0, undef, (.slice (some ⟨w.heap.size, 0, none⟩) 0 0), va, undef, undef, undef, undef, undef, undef, undef], []⟩ _
 have keep : ∀ {w' : World}, Below w.heap.size w w' → Keeps w S w' S := fun hb b o hs => by
  obtain ⟨v, hv⟩ := hlive b o hs
  exact ⟨hs, hb.cell (p := ⟨b, o, none⟩) (cell_lt hv)⟩
 have hb1 : Below w.heap.size w (w.alloc (.cells #[] e)) := (Below.refl _ _).alloc (Nat.le_refl _) _
 have own1 : (w.alloc (.cells #[] e)).ownsRow w.heap.size e 1 (.slice (some ⟨w.heap.size, 0, none⟩) 0 0) ([] : List Value).length [] :=
  ⟨rfl, .inr ⟨w.heap.size, 0, #[], rfl, Nat.le_refl _, heap_alloc_new w _, Nat.le_refl _, by unfold maxLen; omega, rfl, rfl⟩⟩
 obtain ⟨v8, w2, l2, hl2r, hrun2, own2, hg2, hn2⟩ := own_app (ty := t) (eb := eb) hu hie q1 q2 q4 q5 own1 (Rep.keep (keep hb1) _ _ h1) (one sa) (by have := hb1.size; exact this) (by simp only [List.length_nil, List.length_map]; unfold maxLen; omega) (by
  simp only [List.length_nil, List.length_map, Nat.zero_add]
  exact Nat.le_trans (Nat.mul_le_mul (Nat.le_of_lt (by omega : sa.length < 4398046511104)) heb) (by omega))
 obtain ⟨rfl, hsa⟩ := strs_values hl2r
 have hb2 : Below w.heap.size w w2 := hb1.grown hg2 hb1.size (fun k hk => (own1.lt k hk).1)
 obtain ⟨v10, w3, l3, hl3r, hrun3, own3, hg3, hn3⟩ := own_app (ty := t) (eb := eb) hu hie q1 q2 q4 q5 own2 (Rep.keep (keep hb2) _ _ h2) (one sb) hb2.size (by simp only [List.length_nil, List.length_map, List.nil_append]; unfold maxLen; omega) (by
  simp only [List.length_nil, List.length_map, List.nil_append]
  exact Nat.le_trans (Nat.mul_le_mul (Nat.le_of_lt hlen) heb) (by omega))
 obtain ⟨rfl, hsb⟩ := strs_values hl3r
 have hb3 : Below w.heap.size w w3 := hb2.grown hg3 hb2.size (fun k hk => (own2.lt k hk).1)
 simp only [List.nil_append] at own3 hn3 own2
 rw [← List.map_append] at own3
 have hnn : v10 ≠ .slice none 0 0 := fun h => by have := hn2 (hn3 h); cases this
 obtain ⟨g, cap, rfl, hgB, hgw, hgc, hgm, _, hHold⟩ := Lib.holds_of_ownsRow own3 hnn
 have rty : ∀ (v v2 v' : Value) (wa wb : World), (∃ ty, (Builtin.append_ #[t, t] ty #[v, v2]).run P wa = .ok v' wb) → ∀ ty, (Builtin.append_ #[t, t] ty #[v, v2]).run P wa = .ok v' wb := fun v v2 v' wa wb ⟨ty, h⟩ ty' => h
 refine wpOp_val hF (v := v8) (by rw [hl1]; rfl) (by simp) (fun o ho => run_app (x := .tmp 6) (y := .tmp 7) ho (rty _ _ _ _ _ ⟨t, hrun2⟩)) ?_
 show wpOpIn _ _ _ _ _ _ _ ⟨#[va, vb, undef, undef, .slice none 0 0, undef, (.slice (some ⟨w.heap.size, 0, none⟩) 0 0), va, v8, undef, undef, undef, undef, undef, undef], []⟩ _
 refine wpOp_val hF (v := vb) (by rw [hl1]; rfl) (by simp) (fun o ho => run_mv ho) ?_
 show wpOpIn _ _ _ _ _ _ _ ⟨#[va, vb, undef, undef, .slice none 0 0, undef, (.slice (some ⟨w.heap.size, 0, none⟩) 0 0), va, v8, vb, undef, undef, undef, undef, undef], []⟩ _
 refine wpOp_val hF (v := (.slice (some ⟨g, 0, none⟩) (List.map encStr (sa ++ sb)).length cap)) (by rw [hl1]; rfl) (by simp) (fun o ho => run_app (x := .tmp 8) (y := .tmp 9) ho (rty _ _ _ _ _ ⟨t, hrun3⟩)) ?_
 show wpOpIn _ _ _ _ _ _ _ ⟨#[va, vb, undef, undef, .slice none 0 0, undef, (.slice (some ⟨w.heap.size, 0, none⟩) 0 0), va, v8, vb, (.slice (some ⟨g, 0, none⟩) (List.map encStr (sa ++ sb)).length cap), undef, undef, undef, undef], []⟩ _
 refine wpOp_val hF (v := (.slice (some ⟨g, 0, none⟩) (List.map encStr (sa ++ sb)).length cap)) (by rw [hl1]; rfl) (by simp) (fun o ho => run_asg ho) ?_
 refine ops_nil ?_
 show Code.wpIn _ _ _ _ _ ⟨#[va, vb, undef, undef, .slice none 0 0, (.slice (some ⟨g, 0, none⟩) (List.map encStr (sa ++ sb)).length cap), (.slice (some ⟨w.heap.size, 0, none⟩) 0 0), va, v8, vb, (.slice (some ⟨g, 0, none⟩) (List.map encStr (sa ++ sb)).length cap), undef, undef, undef, undef], []⟩ _
 refine wpIn_seq (wpIn_ops hl2 ?_)
 show wpOpsIn _ _ _ _ _ [0, 1] _ _
 simp only [wpOpsIn_cons]
 refine wpOp_val hF (v := (.slice (some ⟨g, 0, none⟩) (List.map encStr (sa ++ sb)).length cap)) (by rw [hl2]; rfl) (by simp) (fun o ho => run_mv ho) ?_
 show wpOpIn _ _ _ _ _ _ _ ⟨#[va, vb, undef, undef, .slice none 0 0, (.slice (some ⟨g, 0, none⟩) (List.map encStr (sa ++ sb)).length cap), (.slice (some ⟨w.heap.size, 0, none⟩) 0 0), va, v8, vb, (.slice (some ⟨g, 0, none⟩) (List.map encStr (sa ++ sb)).length cap), (.slice (some ⟨g, 0, none⟩) (List.map encStr (sa ++ sb)).length cap), undef, undef, undef], []⟩ _
 have hlen3 : (List.map encStr (sa ++ sb)).length = (sa ++ sb).length := by simp
 refine wpOp_call hF (by rw [hl2]; rfl) (by simp) (fun o ho => run_fn hes ho) (R := fun e w' => e = .returned (.tuple #[]) ∧ ∃ n os, w' = grow (putRow encStr (Sort.ahead w3 n) g 0 (sorted (sa ++ sb)).toArray) os) ?_ ?_
 ·have := hsort g 0 cap (sa ++ sb) w3 hHold hgw (by rw [List.length_append]; omega)
  rw [← hlen3] at this
  exact this
 rintro e' w4 ⟨rfl, nn, os, rfl⟩
 refine ⟨_, rfl, ?_⟩
 refine ops_nil ?_
 show Code.wpIn _ _ _ _ _ ⟨#[va, vb, undef, undef, .slice none 0 0, (.slice (some ⟨g, 0, none⟩) (List.map encStr (sa ++ sb)).length cap), (.slice (some ⟨w.heap.size, 0, none⟩) 0 0), va, v8, vb, (.slice (some ⟨g, 0, none⟩) (List.map encStr (sa ++ sb)).length cap), (.slice (some ⟨g, 0, none⟩) (List.map encStr (sa ++ sb)).length cap), .tuple #[], undef, undef], []⟩ _
 have hset : (sorted (sa ++ sb)).length = (sa ++ sb).length := by simp
 have hb4 : Below w.heap.size w (grow (putRow encStr (Sort.ahead w3 nn) g 0 (sorted (sa ++ sb)).toArray) os) := hb3.grown (grownBy_sorted _) hb3.size (fun k hk => by cases hk; exact hgB)
 obtain ⟨_, hshape⟩ := own3
 rcases hshape with ⟨h0, _⟩ | ⟨g', cap', cur, hv, _, hcell, hn3', hm3, hs3, ht3⟩
 ·exact absurd h0 hnn
 obtain ⟨rfl, rfl⟩ : g = g' ∧ cap = cap' := by cases hv; exact ⟨rfl, rfl⟩
 rw [hlen3] at hn3'
 have own4 := ownsRow_sorted (n := nn) (os := os) hset hgB hcell hn3' hm3 hs3
 rw [← hset] at own4
 obtain ⟨g', cap', hv', _, hg4, _, _, _, hHold4⟩ := Lib.holds_of_ownsRow own4 (by simp)
 obtain ⟨rfl, rfl⟩ : g = g' ∧ cap = cap' := by cases hv'; exact ⟨rfl, rfl⟩
 refine wpIn_seq (wpIn_ops hl3 ?_)
 show wpOpsIn _ _ _ _ _ [0, 1, 2] _ _
 simp only [wpOpsIn_cons]
 refine wpOp_val hF (v := (.slice (some ⟨g, 0, none⟩) (List.map encStr (sa ++ sb)).length cap)) (by rw [hl3]; rfl) (by simp) (fun o ho => run_mv ho) ?_
 show wpOpIn _ _ _ _ _ _ _ ⟨#[va, vb, undef, undef, .slice none 0 0, (.slice (some ⟨g, 0, none⟩) (List.map encStr (sa ++ sb)).length cap), (.slice (some ⟨w.heap.size, 0, none⟩) 0 0), va, v8, vb, (.slice (some ⟨g, 0, none⟩) (List.map encStr (sa ++ sb)).length cap), (.slice (some ⟨g, 0, none⟩) (List.map encStr (sa ++ sb)).length cap), .tuple #[], (.slice (some ⟨g, 0, none⟩) (List.map encStr (sa ++ sb)).length cap), undef], []⟩ _
 refine wpOp_call hF (by rw [hl3]; rfl) (by simp) (fun o ho => run_fn hec ho) (R := fun e w' => e = .returned (.slice (some ⟨g, 0, none⟩) (Lib.compact (sorted (sa ++ sb))).length cap) ∧ ∃ q, w' = putRow encStr (Sort.ahead (grow (putRow encStr (Sort.ahead w3 nn) g 0 (sorted (sa ++ sb)).toArray) os) q) g 0 (Lib.compact (sorted (sa ++ sb)) ++ List.replicate ((sorted (sa ++ sb)).length - (Lib.compact (sorted (sa ++ sb))).length) []).toArray) ?_ ?_
 ·show Calls P fc #[.slice (some ⟨g, 0, none⟩) (List.map encStr (sa ++ sb)).length cap] _ _
  rw [← show (sorted (sa ++ sb)).length = (List.map encStr (sa ++ sb)).length from hset.trans hlen3.symm]
  exact hcomp g 0 cap (sorted (sa ++ sb)) _ hHold4 (by rw [hset, List.length_append]; omega) (by rw [hset]; exact hn3')
 rintro e' w5 ⟨rfl, q, rfl⟩
 refine ⟨_, rfl, ?_⟩
 show wpOpIn _ _ _ _ _ _ _ ⟨#[va, vb, undef, undef, .slice none 0 0, (.slice (some ⟨g, 0, none⟩) (List.map encStr (sa ++ sb)).length cap), (.slice (some ⟨w.heap.size, 0, none⟩) 0 0), va, v8, vb, (.slice (some ⟨g, 0, none⟩) (List.map encStr (sa ++ sb)).length cap), (.slice (some ⟨g, 0, none⟩) (List.map encStr (sa ++ sb)).length cap), .tuple #[], (.slice (some ⟨g, 0, none⟩) (List.map encStr (sa ++ sb)).length cap), (.slice (some ⟨g, 0, none⟩) (Lib.compact (sorted (sa ++ sb))).length cap)], []⟩ _
 refine wpOp_val hF (v := (.slice (some ⟨g, 0, none⟩) (Lib.compact (sorted (sa ++ sb))).length cap)) (by rw [hl3]; rfl) (by simp) (fun o ho => run_asg ho) ?_
 refine ops_nil ?_
 show Code.wpIn _ _ _ _ _ ⟨#[va, vb, undef, undef, (.slice (some ⟨g, 0, none⟩) (Lib.compact (sorted (sa ++ sb))).length cap), (.slice (some ⟨g, 0, none⟩) (List.map encStr (sa ++ sb)).length cap), (.slice (some ⟨w.heap.size, 0, none⟩) 0 0), va, v8, vb, (.slice (some ⟨g, 0, none⟩) (List.map encStr (sa ++ sb)).length cap), (.slice (some ⟨g, 0, none⟩) (List.map encStr (sa ++ sb)).length cap), .tuple #[], (.slice (some ⟨g, 0, none⟩) (List.map encStr (sa ++ sb)).length cap), (.slice (some ⟨g, 0, none⟩) (Lib.compact (sorted (sa ++ sb))).length cap)], []⟩ _
 refine wpIn_ret ?_
 have hcl : (Lib.compact (sorted (sa ++ sb))).length ≤ (sorted (sa ++ sb)).length := Lib.compact_length_le _
 have hb5 := Lib.below_putRow (enc := encStr) (q := q) (d := (Lib.compact (sorted (sa ++ sb)) ++ List.replicate ((sorted (sa ++ sb)).length - (Lib.compact (sorted (sa ++ sb))).length) []).toArray) hb4 hgB
 have own5 := Lib.ownsRow_putRow (q := q) (ys := Lib.compact (sorted (sa ++ sb)) ++ List.replicate ((sorted (sa ++ sb)).length - (Lib.compact (sorted (sa ++ sb))).length) []) own4 (by rw [List.length_append, List.length_replicate]; omega) hcl
 rw [List.take_left' rfl] at own5
 generalize hW : putRow encStr (Sort.ahead (grow (putRow encStr (Sort.ahead w3 nn) g 0 (sorted (sa ++ sb)).toArray) os) q) g 0 (Lib.compact (sorted (sa ++ sb)) ++ List.replicate ((sorted (sa ++ sb)).length - (Lib.compact (sorted (sa ++ sb))).length) []).toArray = w5 at *
 have hcells := own5.cells (g := g) rfl
 have hsm : ∀ s ∈ Lib.compact (sorted (sa ++ sb)), s.length ≤ 9223372036854775807 := fun s hs => by
  have := List.mem_mergeSort.1 (compact_mem hs)
  rcases List.mem_append.1 this with h | h
  ·exact hsa s h
  ·exact hsb s h
 have hrep : Rep w5 (fun b o => S b o ∨ (b = g ∧ o < (Lib.compact (sorted (sa ++ sb))).length)) (.lst ((Lib.compact (sorted (sa ++ sb))).map fun s => [.str s])) (.slice (some ⟨g, 0, none⟩) (Lib.compact (sorted (sa ++ sb))).length cap) := by
  have := rep_lst_row (cap := cap) (b := g) (one (Lib.compact (sorted (sa ++ sb)))) (w := w5) (S := fun b o => S b o ∨ (b = g ∧ o < (Lib.compact (sorted (sa ++ sb))).length)) (values_strs hsm) (fun j v hj => ?_) (by rw [List.length_map]; exact Nat.le_trans hcl (by rw [hset]; exact hn3')) hm3
  ·rw [List.length_map] at this; exact this
  ·have hlt := (List.getElem?_eq_some_iff.1 hj).1
   have := hcells j v hj
   rw [addr_add, Nat.zero_add] at this
   exact ⟨this, .inr ⟨rfl, by simpa using hlt⟩⟩
 have hlb : ∀ b o, S b o → b < w.heap.size := fun b o hs => by
  obtain ⟨v, hv⟩ := hlive b o hs
  exact cell_lt hv
 obtain ⟨_, hrow⟩ := own5
 rcases hrow with ⟨e0, _⟩ | ⟨g0, cap0, cur, e0, _, hg0, hcap, hmax, hsz, _⟩
 ·cases e0
 ·cases e0
  refine leaves_end (end_tmp hres) ⟨_, _, rfl, hrep, one _, ⟨_, _, _, rfl, .inr ⟨g, rfl, .inl hgB, ⟨cur, _, hg0, hsz⟩, hcap, hmax, fun o ho hS => ?_⟩⟩, ⟨hb5.os, hb5.tape, hb5.output, hb5.size, fun k hk => hb5.block k (Nat.lt_of_not_le fun h => hk (.inl h))⟩, fun b o hs => ⟨.inl hs, hb5.cell (p := ⟨b, o, none⟩) (hlb b o hs)⟩, fun b o hs => ?_, fun b o hs => ?_⟩
  ·rcases hS with hS | ⟨_, hS⟩
   ·have := hlb _ _ hS; omega
   ·omega
  ·rcases hs with hs | ⟨rfl, _⟩
   ·exact .inl hs
   ·exact .inr (.inl hgB)
  ·rcases hs with hs | ⟨rfl, ho⟩
   ·obtain ⟨v, hv⟩ := hlive b o hs
    exact ⟨v, (hb5.cell (p := ⟨b, o, none⟩) (cell_lt hv)).trans hv⟩
   ·have := hcells o (encStr ((Lib.compact (sorted (sa ++ sb)))[o])) (by rw [List.getElem?_map, List.getElem?_eq_getElem ho]; rfl)
    rw [addr_add, Nat.zero_add] at this
    exact ⟨_, this⟩
end Go.Abs
end
section
namespace Go.Abs
open Go.Proofs
theorem mem_freeL {l : List Pred} {x : Str} : x ∈ freeL l ↔ ∃ q ∈ l, q.op = 3 ∧ q.name = x := by
 unfold freeL
 simp [List.mem_map, List.mem_filter, and_assoc]
theorem mem_pre {o : Int} {s : Str} {n : Int} {ks : List Pred} {q : Pred} : q ∈ Pred.pre (.mk o s n ks) ↔ q = .mk o s n ks ∨ ∃ k ∈ ks, q ∈ k.pre := by
 rw [Pred.pre_eq, List.mem_cons]
 refine or_congr Iff.rfl ?_
 induction ks with
 | nil => simp [Pred.pre.pres]
 | cons k ks ih => rw [Pred.pre.pres, List.mem_append, ih]; simp
theorem mem_freeSi {p : Pred} {x : Str} : x ∈ freeS p ↔ ∃ q ∈ p.pre, q.op = 3 ∧ q.name = x := by
 unfold freeS
 rw [mem_unionS, mem_freeL]; simp
def splitP : Pred → List Pred
 | .mk o s n [a, b] => if o == 15 then splitP a ++ splitP b else if voidP (.mk o s n [a, b]) then [] else [.mk o s n [a, b]]
 | p => if voidP p then [] else [p]
theorem splitP_and (s : Str) (n : Int) (a b : Pred) : splitP (.mk 15 s n [a, b]) = splitP a ++ splitP b := by rw [splitP]; rfl
theorem splitP_else {o : Int} {s : Str} {n : Int} {ks : List Pred} (h : (o == 15 && (ks.length : Int) == 2) = false) : splitP (.mk o s n ks) = if voidP (.mk o s n ks) then [] else [.mk o s n ks] := by
 match ks with
 | [] => rw [splitP]; intro _ _ _ _ _ h; cases h
 | [a] => rw [splitP]; intro _ _ _ _ _ h; cases h
 | [a, b] =>
  have ho : (o == 15) = false := by
   have e : (((([a, b] : List Pred).length : Nat) : Int) == 2) = true := rfl
   rw [e, Bool.and_true] at h; exact h
  rw [splitP, ho]; rfl
 | a :: b :: c :: r => rw [splitP]; intro _ _ _ _ _ h; cases h
end Go.Abs
end
section
namespace Go.Abs
structure SSol where
 name : Str
 pred : Pred
def SSol.cells (v : SSol) : List D := .str v.name :: v.pred.cells
end Go.Abs
end
section
namespace Go.Abs
theorem cnts_app (a b : List Pred) : Pred.cnts (a ++ b) = Pred.cnts a + Pred.cnts b := by
 induction a with
 | nil => simp [Pred.cnts]
 | cons x a ih => rw [List.cons_append, Pred.cnts, Pred.cnts, ih]; omega
theorem getD_in {l : List Pred} {i : Nat} (h : i < l.length) : l.getD i zeroP ∈ l := by
 rw [List.getD_eq_getElem?_getD, List.getElem?_eq_getElem h]
 exact List.getElem_mem h
theorem subAll_tame {names : List Str} {by' : List Pred} (hb : ∀ b ∈ by', Tame b) (p : Pred) (hp : Tame p) : Tame (subAll names by' p) := by
 induction p using Pred.ind with
 | h o s n ks ih =>
 rw [subAll_eq]
 split
 ·rename_i hc
  simp only [Bool.and_eq_true, decide_eq_true_eq] at hc
  exact hb _ (getD_in (l := by') (i := (findIx s 0 names).toNat) (by omega))
 ·refine AllN.mk ?_ fun k hk => ?_
  ·have := hp.top
   simpa [Pred.kids] using this
  ·obtain ⟨k', hk', rfl⟩ := List.mem_map.1 hk
   exact ih k' hk' (hp.kid hk')
end Go.Abs
end
section
namespace Go.Abs
theorem splitP_len (p : Pred) : (splitP p).length ≤ p.cnt := by
 induction p using Pred.ind with
 | h o s n ks ih =>
 cases hc : (o == 15 && (ks.length : Int) == 2) with
 | true =>
  obtain ⟨ho, hk⟩ := Bool.and_eq_true_iff.1 hc
  have hk2 : ((ks.length : Nat) : Int) = 2 := by simpa using hk
  obtain ⟨a, b, rfl⟩ := pair_split (l := ks) (by omega)
  have ho : o = 15 := by simpa using ho
  subst ho
  rw [splitP_and, List.length_append]
  have h1 := ih a (by simp)
  have h2 := ih b (by simp)
  simp only [Pred.cnt, Pred.cnts]
  omega
 | false =>
  rw [splitP_else hc, Pred.cnt]
  split <;> simp
variable {E : AEnv} (Z : Sys E)
include Z
theorem pred_Split_ev (p : Pred) (hp : Tame p) (hn : p.cnt ≤ 1073741824) : E.C pred_Split [.agg p.cells] (.own none 4 ((splitP p).map Pred.cells)) := by
 induction p using Pred.ind with
 | h o s n ks ih =>
 have hv := pred_void_ev Z (.mk o s n ks)
 have hcp := pred_copied_ev Z _ hp
 refine Z.pred_Split _ _ ⟨Nat.le_of_ble_eq_true rfl, ?_⟩
 have hrs : fn_pred_Split.rs = [.t 2] := rfl
 cases hc : (o == 15 && (ks.length : Int) == 2) with
 | true =>
  obtain ⟨ho, hk⟩ := Bool.and_eq_true_iff.1 hc
  have hk2 : ((ks.length : Nat) : Int) = 2 := by simpa using hk
  obtain ⟨a, b, rfl⟩ := pair_split (l := ks) (by omega)
  have ho : o = 15 := by simpa using ho
  subst ho
  have hla := splitP_len a
  have hlb := splitP_len b
  simp only [Pred.cnt, Pred.cnts] at hn
  have ha := ih a (by simp) (hp.kid (by simp)) (by omega)
  have hb := ih b (by simp) (hp.kid (by simp)) (by omega)
  have hcl : Pred.cells (.mk 15 s n [a, b]) = [.int .i64 15, .str s, .int .i64 n, .lst [a.cells, b.cells]] := by rw [Pred.cells_eq]; rfl
  rw [splitP_and, hcl]
  generalize splitP a = A at *
  generalize splitP b = B at *
  have h4 : (∀ e ∈ [a.cells, b.cells], e.length = 4) = True := eq_true (by simp [Pred.cells_length])
  have o1 : (A.length + B.length) * 56 ≤ 2 ^ 46 := by omega
  have o2 : A.length + B.length ≤ 9223372036854775807 := by omega
  simp only [fn_pred_Split, go_sem, beq_self_eq_true, h4, Int.ofNat_eq_natCast]
  refine call_by ha ?_
  simp only [go_sem, h4]
  refine call_by hb ?_
  simp only [go_sem, h4, List.length_map, Pred.lens_true, o1, o2, hrs, List.map_append]
 | false =>
  rw [splitP_else hc]
  rw [Pred.cells_eq (.mk o s n ks)] at *
  simp only [fn_pred_Split, go_sem, Pred.op, Pred.name, Pred.n, Pred.kids] at hv hcp ⊢
  intro _
  simp only [hc, go_sem]
  refine call_by hv ?_
  cases c1 : voidP (.mk o s n ks) with
  | true =>
   simp only [go_sem, hrs, List.not_mem_nil, false_implies, implies_true]
  | false =>
   simp only [go_sem]
   refine call_by hcp ?_
   simp only [go_sem, hrs, Pred.cells_eq (.mk o s n ks), Pred.op, Pred.name, Pred.n, Pred.kids]
   simp
theorem r07_Split_ev (p : Pred) (hn : p.cnt ≤ 1073741824) : E.C r07_Split [.agg p.cells] (.one (.lst ((splitP p).map Pred.cells))) := by
 induction p using Pred.ind with
 | h o s n ks ih =>
 have hv := r07_Void_ev Z (.mk o s n ks)
 refine Z.r07_Split _ _ ⟨Nat.le_of_ble_eq_true rfl, ?_⟩
 have hrs : fn_r07_Split.rs = [.t 2] := rfl
 cases hc : (o == 15 && (ks.length : Int) == 2) with
 | true =>
  obtain ⟨ho, hk⟩ := Bool.and_eq_true_iff.1 hc
  have hk2 : ((ks.length : Nat) : Int) = 2 := by simpa using hk
  obtain ⟨a, b, rfl⟩ := pair_split (l := ks) (by omega)
  have ho : o = 15 := by simpa using ho
  subst ho
  have hla := splitP_len a
  have hlb := splitP_len b
  simp only [Pred.cnt, Pred.cnts] at hn
  have ha := ih a (by simp) (by omega)
  have hb := ih b (by simp) (by omega)
  have hcl : Pred.cells (.mk 15 s n [a, b]) = [.int .i64 15, .str s, .int .i64 n, .lst [a.cells, b.cells]] := by rw [Pred.cells_eq]; rfl
  rw [splitP_and, hcl]
  generalize splitP a = A at *
  generalize splitP b = B at *
  have h4 : (∀ e ∈ [a.cells, b.cells], e.length = 4) = True := eq_true (by simp [Pred.cells_length])
  have o0 : A.length * 56 ≤ 2 ^ 46 := by omega
  have o1 : (A.length + B.length) * 56 ≤ 2 ^ 46 := by omega
  have o2 : A.length + B.length ≤ 9223372036854775807 := by omega
  have o3 : A.length ≤ 9223372036854775807 := by omega
  simp only [fn_r07_Split, go_sem, beq_self_eq_true, h4, Int.ofNat_eq_natCast]
  refine call_by ha ?_
  simp only [go_sem, h4, List.length_map, Pred.lens_true, o0, o3, List.not_mem_nil, false_implies, implies_true, Nat.zero_add]
  refine call_by hb ?_
  simp only [go_sem, h4, List.length_map, Pred.lens_true, o1, o2, hrs, List.map_append]
 | false =>
  rw [splitP_else hc]
  rw [Pred.cells_eq (.mk o s n ks)] at *
  simp only [fn_r07_Split, go_sem, Pred.op, Pred.name, Pred.n, Pred.kids] at hv ⊢
  intro _
  simp only [hc, go_sem]
  refine call_by hv ?_
  cases c1 : voidP (.mk o s n ks) with
  | true =>
   simp only [go_sem, hrs, List.map_nil]
  | false =>
   simp only [go_sem, hrs, Pred.cells_eq (.mk o s n ks), Pred.op, Pred.name, Pred.n, Pred.kids]
end Go.Abs
end
section
namespace Go.Abs
theorem SSol.lens (l : List SSol) : (∀ e ∈ l.map SSol.cells, e.length = 5) = True := lens_map (f := SSol.cells) (fun s => by simp [SSol.cells, Pred.cells_length]) l
attribute [go_sem] SSol.lens
theorem SSol.cells_mk (t : Str) (o : Int) (s : Str) (n : Int) (ks : List Pred) : SSol.cells ⟨t, .mk o s n ks⟩ = [.str t, .int .i64 o, .str s, .int .i64 n, .lst (ks.map Pred.cells)] := by
 unfold SSol.cells; rw [Pred.cells_eq]; rfl
variable {E : AEnv} (Z : Sys E)
include Z
end Go.Abs
end
section
namespace Go.Abs
theorem call_skip {d : Option Nat} {K : St → Prop} {st : St} {av : List AV} (hk : callK (some false) d K st av (.one (.bool false))) : ∃ r, callK (some false) d K st av r := ⟨_, hk⟩
section
variable {E : AEnv} (Z : Sys E)
include Z
end
end Go.Abs
end
section
namespace Go.Abs
theorem and_false {l done r : List Pred} {k : Pred} (hl : l = done ++ k :: r) (hk : k.same falseP = true) : andP l = falseP := by
 unfold andP
 have : l.any isFalse = true := by
  rw [hl, List.any_append, List.any_cons, isFalse_eq, hk]; simp
 rw [if_pos this]
end Go.Abs
end
section
namespace Go.Abs
inductive Val where
 | mk (op n : Int) (name : Str) (kids : List Val) (ps bd bs : D)
namespace Val
def op : Val → Int | .mk o _ _ _ _ _ _ => o
def n : Val → Int | .mk _ n _ _ _ _ _ => n
def name : Val → Str | .mk _ _ s _ _ _ _ => s
def kids : Val → List Val | .mk _ _ _ k _ _ _ => k
mutual
def cells : Val → List D
 | .mk o n s ks p b d => [.int .i64 o, .int .i64 n, .str s, .lst (cellss ks), p, b, d]
def cellss : List Val → List (List D)
 | [] => []
 | k :: ks => cells k :: cellss ks
end
theorem cellss_eq (ks : List Val) : cellss ks = ks.map cells := by
 induction ks with
 | nil => simp [cellss]
 | cons k ks ih => simp [cellss, ih]
theorem cells_mk (o n : Int) (s : Str) (ks : List Val) (p b d : D) : cells (.mk o n s ks p b d) = [.int .i64 o, .int .i64 n, .str s, .lst (ks.map cells), p, b, d] := by rw [cells, cellss_eq]
theorem cells_length (v : Val) : (cells v).length = 7 := by cases v; rw [cells_mk]; rfl
theorem lens (l : List Val) : (∀ e ∈ l.map cells, e.length = 7) = True := lens_map (f := cells) cells_length l
theorem ind {P : Val → Prop} (h : ∀ o n s ks p b d, (∀ k ∈ ks, P k) → P (.mk o n s ks p b d)) : ∀ v, P v :=
 fun v => Val.rec (motive_1 := P) (motive_2 := fun ks => ∀ k ∈ ks, P k) h (fun k hk => by cases hk) (fun k ks hk hks x hx => by
  rcases List.mem_cons.1 hx with rfl | hx
  ·exact hk
  ·exact hks x hx) v
end Val
attribute [go_sem] Val.cells_length Val.lens
structure ConT where
 name : Str
 a : D
 b : D
def ConT.cells (c : ConT) : List D := [.str c.name, c.a, c.b]
structure DataT where
 name : Str
 vs : D
 ps : D
 cons : List ConT
def DataT.cells (d : DataT) : List D := [.str d.name, d.vs, d.ps, .lst (d.cons.map ConT.cells)]
def DataT.zero : DataT := ⟨[], .lst [], .lst [], []⟩
structure Cas where
 con : Str
 names : List Str
 body : Pred
def Cas.cells (c : Cas) : List D := .str c.con :: .lst (c.names.map fun k => [.str k]) :: c.body.cells
def Cas.zero : Cas := ⟨[], [], zeroP⟩
structure Meas where
 name : Str
 data : Str
 result : Str
 cases : List Cas
 inv : Pred
def Meas.cells (x : Meas) : List D := .str x.name :: .str x.data :: .str x.result :: .lst (x.cases.map Cas.cells) :: x.inv.cells
def Meas.zero : Meas := ⟨[], [], [], [], zeroP⟩
structure Mod where
 datas : List DataT
 cls : D
 ins : D
 meas : List Meas
 quals : D
 defs : D
def Mod.cells (m : Mod) : List D := [.lst (m.datas.map DataT.cells), m.cls, m.ins, .lst (m.meas.map Meas.cells), m.quals, m.defs]
theorem ConT.lens (l : List ConT) : (∀ e ∈ l.map ConT.cells, e.length = 3) = True := lens_map (f := ConT.cells) (fun _ => rfl) l
theorem DataT.lens (l : List DataT) : (∀ e ∈ l.map DataT.cells, e.length = 4) = True := lens_map (f := DataT.cells) (fun _ => rfl) l
theorem Cas.cells_length (c : Cas) : c.cells.length = 6 := by simp [Cas.cells, Pred.cells_length]
theorem Meas.cells_length (c : Meas) : c.cells.length = 8 := by simp [Meas.cells, Pred.cells_length]
theorem Cas.lens (l : List Cas) : (∀ e ∈ l.map Cas.cells, e.length = 6) = True := lens_map (f := Cas.cells) Cas.cells_length l
theorem Meas.lens (l : List Meas) : (∀ e ∈ l.map Meas.cells, e.length = 8) = True := lens_map (f := Meas.cells) Meas.cells_length l
attribute [go_sem] Cas.cells_length Meas.cells_length ConT.lens DataT.lens Cas.lens Meas.lens
def conIx (s : Str) : Nat → List ConT → Option Nat
 | _, [] => none
 | i, c :: r => if c.name == s then some i else conIx s (i + 1) r
def conOf (s : Str) : List DataT → Option (DataT × Nat)
 | [] => none
 | d :: r => match conIx s 0 d.cons with
  | some i => some (d, i)
  | none => conOf s r
def conS (s : Str) (l : List DataT) : DataT × Int × Bool := match conOf s l with
 | some (d, i) => (d, i, true)
 | none => (DataT.zero, 0, false)
theorem conIx_mid {s : Str} {c : ConT} {r : List ConT} : ∀ {a : List ConT} (i : Nat), (∀ y ∈ a, (y.name == s) = false) → conIx s i (a ++ c :: r) = if c.name == s then some (i + a.length) else conIx s (i + a.length + 1) r
 | [], i, _ => by rw [List.nil_append, conIx]; rfl
 | x :: a, i, h => by
  rw [List.cons_append, conIx, h x (by simp), conIx_mid (i + 1) fun y hy => h y (by simp [hy]), List.length_cons]
  rw [if_neg (by simp), show i + 1 + a.length = i + (a.length + 1) by omega]
theorem conIx_none {s : Str} : ∀ {a : List ConT} (i : Nat), (∀ y ∈ a, (y.name == s) = false) → conIx s i a = none
 | [], _, _ => rfl
 | x :: a, i, h => by rw [conIx, h x (by simp), conIx_none (i + 1) fun y hy => h y (by simp [hy])]; simp
theorem conOf_mid {s : Str} {d : DataT} {r : List DataT} : ∀ {a : List DataT}, (∀ y ∈ a, conIx s 0 y.cons = none) → conOf s (a ++ d :: r) = match conIx s 0 d.cons with
  | some i => some (d, i)
  | none => conOf s r
 | [], _ => by rw [List.nil_append, conOf]
 | x :: a, h => by
  rw [List.cons_append, conOf, h x (by simp)]
  exact conOf_mid fun y hy => h y (by simp [hy])
theorem conOf_none {s : Str} : ∀ {a : List DataT}, (∀ y ∈ a, conIx s 0 y.cons = none) → conOf s a = none
 | [], _ => rfl
 | x :: a, h => by rw [conOf, h x (by simp)]; exact conOf_none fun y hy => h y (by simp [hy])
def numd (base : Str) (n : Nat) : Str := base ++ Lib.itoa (n : Int)
def freshN (used : List Str) (base : Str) : Nat → Nat → Nat
 | 0, n => n
 | k + 1, n => if used.contains (numd base n) then freshN used base k (n + 1) else n
def freshS (used : List Str) (base : Str) : Str := if used.contains base then numd base (freshN used base (used.length + 1) 1) else base
theorem sub_len : ∀ {a b : List Str}, a.Nodup → (∀ x ∈ a, x ∈ b) → a.length ≤ b.length
 | [], b, _, _ => Nat.zero_le _
 | x :: a, b, hn, h => by
  obtain ⟨h1, h2⟩ := List.nodup_cons.1 hn
  have hx := h x (by simp)
  have : a.length ≤ (b.erase x).length := sub_len h2 fun y hy => by
   have hne : y ≠ x := fun e => h1 (e ▸ hy)
   exact (List.mem_erase_of_ne hne).2 (h y (by simp [hy]))
  have hl := List.length_erase_of_mem hx
  have hp := List.length_pos_of_mem hx
  rw [List.length_cons]; omega
theorem numd_inj {base : Str} {a b : Nat} (h : numd base a = numd base b) : a = b := by
 have := itoa_inj (List.append_cancel_left h)
 omega
theorem numd_nodup (base : Str) : ∀ (k n : Nat), ((List.range' n k).map (numd base)).Nodup := by
 intro k n
 unfold List.Nodup
 rw [List.pairwise_map]
 have : (List.range' n k).Pairwise (· ≠ ·) := List.nodup_range'
 exact this.imp fun h e => h (numd_inj e)
theorem taken_le {used : List Str} {base : Str} {k : Nat} (h : ∀ i, 1 ≤ i → i ≤ k → numd base i ∈ used) : k ≤ used.length := by
 have := sub_len (numd_nodup base k 1) (b := used) fun x hx => by
  obtain ⟨i, hi, rfl⟩ := List.mem_map.1 hx
  have := List.mem_range'_1.1 hi
  exact h i (by omega) (by omega)
 simpa using this
theorem freshN_spec {used : List Str} {base : Str} : ∀ (k n : Nat), n + k = used.length + 2 → 1 ≤ n → (∀ i, 1 ≤ i → i < n → numd base i ∈ used) → numd base (freshN used base k n) ∉ used ∧ n ≤ freshN used base k n ∧ freshN used base k n ≤ used.length + 1
 | 0, n, h, h1, hall => by
  have h3 : n - 1 ≤ used.length := taken_le (base := base) fun i a b => hall i a (by omega)
  omega
 | k + 1, n, h, h1, hall => by
  rw [freshN]
  split
  ·rename_i hc
   obtain ⟨a, b, c⟩ := freshN_spec (used := used) (base := base) k (n + 1) (by omega) (by omega) fun i x y => by
    by_cases hi : i = n
    ·subst hi; exact List.contains_iff_mem.1 hc
    ·exact hall i x (by omega)
   exact ⟨a, by omega, c⟩
  ·rename_i hc
   have : n - 1 ≤ used.length := taken_le (used := used) (base := base) (k := n - 1) fun i a b => hall i a (by omega)
   exact ⟨fun hm => hc (List.contains_iff_mem.2 hm), Nat.le_refl _, by omega⟩
theorem freshN_at {used : List Str} {base : Str} : ∀ (k n m : Nat), n + k = used.length + 2 → 1 ≤ n → (∀ i, n ≤ i → i < m → numd base i ∈ used) → (∀ i, 1 ≤ i → i < n → numd base i ∈ used) → n ≤ m → numd base m ∉ used → freshN used base k n = m
 | 0, n, m, h, h1, ha, hb, hnm, hno => by
  have := taken_le (used := used) (base := base) (k := n - 1) fun i a b => hb i a (by omega)
  omega
 | k + 1, n, m, h, h1, ha, hb, hnm, hno => by
  rw [freshN]
  by_cases hm : n = m
  ·subst hm
   rw [if_neg fun hc => hno (List.contains_iff_mem.1 hc)]
  ·have hn := ha n (Nat.le_refl _) (by omega)
   rw [if_pos (List.contains_iff_mem.2 hn)]
   refine freshN_at k (n + 1) m (by omega) (by omega) (fun i a b => ha i (by omega) b) (fun i a b => ?_) (by omega) hno
   by_cases hi : i = n
   ·subst hi; exact hn
   ·exact hb i a (by omega)
theorem freshS_not {used : List Str} {base : Str} : freshS used base ∉ used := by
 unfold freshS
 split
 ·exact (freshN_spec (used.length + 1) 1 (by omega) (Nat.le_refl _) fun i a b => by omega).1
 ·rename_i h
  exact fun hm => h (List.contains_iff_mem.2 hm)
theorem freshS_base {used : List Str} {base : Str} (h : used.contains base = false) : freshS used base = base := by unfold freshS; rw [h]; rfl
theorem freshS_num {used : List Str} {base : Str} (h : used.contains base = true) {m : Nat} (h1 : 1 ≤ m) (ha : ∀ i, 1 ≤ i → i < m → numd base i ∈ used) (hm : numd base m ∉ used) : freshS used base = numd base m := by
 unfold freshS
 rw [if_pos h, freshN_at (used.length + 1) 1 m (by omega) (Nat.le_refl _) ha (fun i a b => by omega) h1 hm]
theorem freshS_cases {used : List Str} {base : Str} : freshS used base = base ∨ ∃ n : Nat, 1 ≤ n ∧ n ≤ used.length + 1 ∧ freshS used base = numd base n := by
 unfold freshS
 split
 ·obtain ⟨_, b, c⟩ := freshN_spec (used := used) (base := base) (used.length + 1) 1 (by omega) (Nat.le_refl _) fun i a b => by omega
  exact .inr ⟨_, b, c, rfl⟩
 ·exact .inl rfl
end Go.Abs
end
