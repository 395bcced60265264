/-
  CONTRACTS: what the functions answer, as plain Lean functions, each by evaluation at the abstract machine.
-/
import Derived.Test.YtfkkgglknnegnaaDoorFns
section
set_option linter.unusedSimpArgs false
set_option linter.unusedVariables false
set_option linter.unusedSectionVars false
namespace Go.Abs
/-! ## bytes and names -/
def isSmall (n : Int) : Bool := decide (97 ≤ n) && decide (n ≤ 122)
def isCapital (n : Int) : Bool := decide (65 ≤ n) && decide (n ≤ 90)
def isDigit (n : Int) : Bool := decide (48 ≤ n) && decide (n ≤ 57)
def isSized (s : List UInt8) : Bool := decide ((s.length : Int) ≥ 1) && decide ((s.length : Int) ≤ 24)
def cutAt : List UInt8 → List UInt8 × List UInt8 × Bool
  | [] => ([], [], false)
  | c :: s => if c.toNat = 46 then ([], s, true) else (c :: (cutAt s).1, (cutAt s).2.1, (cutAt s).2.2)
theorem cutAt_no : ∀ {s : List UInt8}, (∀ c ∈ s, c.toNat ≠ 46) → cutAt s = (s, [], false)
  | [], _ => rfl
  | c :: s, h => by simp [cutAt, h c (by simp), cutAt_no (s := s) fun x hx => h x (by simp [hx])]
theorem cutAt_at : ∀ {a : List UInt8} {c : UInt8} {b : List UInt8}, (∀ c ∈ a, c.toNat ≠ 46) → c.toNat = 46 → cutAt (a ++ c :: b) = (a, b, true)
  | [], c, b, _, hc => by simp [cutAt, hc]
  | x :: a, c, b, h, hc => by simp [cutAt, h x (by simp), cutAt_at (a := a) (fun x hx => h x (by simp [hx])) hc]
def alnum (n : Int) : Bool := !(!isSmall n && !isCapital n && !isDigit n)
variable {E : AEnv} (Z : Sys E)
include Z
theorem names_small_ev (n : Int) : E.C names_small [.one (.int .u8 n)] (.one (.bool (isSmall n))) := by
  refine Z.names_small _ _ ⟨Nat.le_of_ble_eq_true rfl, ?_⟩
  simp only [fn_names_small, go_sem, Nat.reduceEqDiff, reduceCtorEq, Nat.reduceAdd, Nat.reduceLeDiff, Bool.false_eq_true, Nat.reduceMul, Bool.true_eq_false, Nat.reduceLT, isSmall]
theorem names_capital_ev (n : Int) : E.C names_capital [.one (.int .u8 n)] (.one (.bool (isCapital n))) := by
  refine Z.names_capital _ _ ⟨Nat.le_of_ble_eq_true rfl, ?_⟩
  simp only [fn_names_capital, go_sem, Nat.reduceEqDiff, reduceCtorEq, Nat.reduceAdd, Nat.reduceLeDiff, Bool.false_eq_true, Nat.reduceMul, Bool.true_eq_false, Nat.reduceLT, isCapital]
theorem names_digit_ev (n : Int) : E.C names_digit [.one (.int .u8 n)] (.one (.bool (isDigit n))) := by
  refine Z.names_digit _ _ ⟨Nat.le_of_ble_eq_true rfl, ?_⟩
  simp only [fn_names_digit, go_sem, Nat.reduceEqDiff, reduceCtorEq, Nat.reduceAdd, Nat.reduceLeDiff, Bool.false_eq_true, Nat.reduceMul, Bool.true_eq_false, Nat.reduceLT, isDigit]
theorem names_sized_ev (s : List UInt8) : E.C names_sized [.one (.str s)] (.one (.bool (isSized s))) := by
  refine Z.names_sized _ _ ⟨Nat.le_of_ble_eq_true rfl, ?_⟩
  simp only [fn_names_sized, go_sem, Nat.reduceEqDiff, reduceCtorEq, Nat.reduceAdd, Nat.reduceLeDiff, Bool.false_eq_true, Nat.reduceMul, Bool.true_eq_false, Nat.reduceLT, isSized]
theorem names_cut_ev (s : List UInt8) : E.C names_cut [.one (.str s)] (.tup [.one (.str (cutAt s).1), .one (.str (cutAt s).2.1), .one (.bool (cutAt s).2.2)]) := by
  refine Z.names_cut _ _ ⟨Nat.le_of_ble_eq_true rfl, ?_⟩
  simp only [fn_names_cut, go_sem, Nat.reduceEqDiff, reduceCtorEq, Nat.reduceAdd, Nat.reduceLeDiff, Bool.false_eq_true, Nat.reduceMul, Bool.true_eq_false, Nat.reduceLT]
  refine loop_list s (fun done => ∀ c ∈ done, c.toNat ≠ 46) (fun done rest => ⟨[(0, .d (.str s)), (5, .d (.int .i64 done.length))], [], []⟩) ?_ (by simp) ?_ ?_
  · exact Ent_plain (by simp only [go_sem, Nat.reduceEqDiff, reduceCtorEq, Nat.reduceAdd, Nat.reduceLeDiff, Bool.false_eq_true, Nat.reduceMul, Bool.true_eq_false, Nat.reduceLT, Int.natCast_zero])
  · intro done c r hl hI
    have hlt := lt_mid hl
    have hx : s.getD done.length 0 = c := getD_mid0 _ _ _ _ hl
    simp only [fn_names_cut_L1, go_sem, Nat.reduceEqDiff, reduceCtorEq, Nat.reduceAdd, Nat.reduceLeDiff, Bool.false_eq_true, Nat.reduceMul, Bool.true_eq_false, Nat.reduceLT, hlt, hx]
    intro hlen
    have hw : IntKind.i64.wrap ((done.length : Int) + 1) = ((done.length + 1 : Nat) : Int) := wrap_succ (by omega)
    by_cases hc : c.toNat = 46
    · have h1 : (((c.toNat : Nat) : Int) == 46) = true := by simp [hc]
      simp only [go_sem, Nat.reduceEqDiff, reduceCtorEq, Nat.reduceAdd, Nat.reduceLeDiff, Bool.false_eq_true, Nat.reduceMul, Bool.true_eq_false, Nat.reduceLT, h1, hw]
      rw [hl, cutAt_at hI hc]
      simp
      omega
    · have h1 : (((c.toNat : Nat) : Int) == 46) = false := by simp; omega
      simp only [go_sem, Nat.reduceEqDiff, reduceCtorEq, Nat.reduceAdd, Nat.reduceLeDiff, Bool.false_eq_true, Nat.reduceMul, Bool.true_eq_false, Nat.reduceLT, h1, hw, List.length_append]
      refine ⟨Ent_plain (by simp only [go_sem, Nat.reduceEqDiff, reduceCtorEq, Nat.reduceAdd, Nat.reduceLeDiff, Bool.false_eq_true, Nat.reduceMul, Bool.true_eq_false, Nat.reduceLT]), ?_⟩
      intro x hx
      rcases List.mem_append.1 hx with hx | hx
      · exact hI x hx
      · simp at hx; subst hx; exact hc
  · intro hI
    simp only [fn_names_cut_L1, go_sem, Nat.reduceEqDiff, reduceCtorEq, Nat.reduceAdd, Nat.reduceLeDiff, Bool.false_eq_true, Nat.reduceMul, Bool.true_eq_false, Nat.reduceLT, cutAt_no hI]
theorem names_alphanumeric_ev (s : List UInt8) : E.C names_alphanumeric [.one (.str s)] (.one (.bool (s.all fun c => alnum c.toNat))) := by
  refine Z.names_alphanumeric _ _ ⟨Nat.le_of_ble_eq_true rfl, ?_⟩
  simp only [fn_names_alphanumeric, go_sem, Nat.reduceEqDiff, reduceCtorEq, Nat.reduceAdd, Nat.reduceLeDiff, Bool.false_eq_true, Nat.reduceMul, Bool.true_eq_false, Nat.reduceLT]
  refine loop_list s (fun done => done.all (fun c => alnum c.toNat) = true) (fun done rest => ⟨[(0, .d (.str s)), (3, .d (.int .i64 done.length))], [], []⟩) ?_ (by simp) ?_ ?_
  · exact Ent_plain (by simp only [go_sem, Nat.reduceEqDiff, reduceCtorEq, Nat.reduceAdd, Nat.reduceLeDiff, Bool.false_eq_true, Nat.reduceMul, Bool.true_eq_false, Nat.reduceLT, Int.natCast_zero])
  · intro done c r hl hI
    have hlt := lt_mid hl
    have hx : s.getD done.length 0 = c := getD_mid0 _ _ _ _ hl
    simp only [fn_names_alphanumeric_L1, go_sem, Nat.reduceEqDiff, reduceCtorEq, Nat.reduceAdd, Nat.reduceLeDiff, Bool.false_eq_true, Nat.reduceMul, Bool.true_eq_false, Nat.reduceLT, hlt, hx]
    intro hlen
    have hw : IntKind.i64.wrap ((done.length : Int) + 1) = ((done.length + 1 : Nat) : Int) := wrap_succ (by omega)
    refine call_by (names_small_ev Z _) ?_
    simp only [go_sem, Nat.reduceEqDiff, reduceCtorEq, Nat.reduceAdd, Nat.reduceLeDiff, Bool.false_eq_true, Nat.reduceMul, Bool.true_eq_false, Nat.reduceLT, hw, hlt, hx]
    refine call_by_g (names_capital_ev Z _) ?_
    simp only [go_sem, Nat.reduceEqDiff, reduceCtorEq, Nat.reduceAdd, Nat.reduceLeDiff, Bool.false_eq_true, Nat.reduceMul, Bool.true_eq_false, Nat.reduceLT, hw, hlt, hx]
    refine call_by_g (names_digit_ev Z _) ?_
    simp only [go_sem, Nat.reduceEqDiff, reduceCtorEq, Nat.reduceAdd, Nat.reduceLeDiff, Bool.false_eq_true, Nat.reduceMul, Bool.true_eq_false, Nat.reduceLT, hw, hlt, hx]
    cases h1 : (!isSmall c.toNat && !isCapital c.toNat && !isDigit c.toNat) with
    | false =>
      have hc : alnum c.toNat = true := by rw [alnum, h1]; rfl
      simp only [go_sem, Nat.reduceEqDiff, reduceCtorEq, Nat.reduceAdd, Nat.reduceLeDiff, Bool.false_eq_true, Nat.reduceMul, Bool.true_eq_false, Nat.reduceLT, h1, hw, List.length_append, List.all_append, List.all_cons, List.all_nil, hI, hc]
      exact Ent_plain (by simp only [go_sem, Nat.reduceEqDiff, reduceCtorEq, Nat.reduceAdd, Nat.reduceLeDiff, Bool.false_eq_true, Nat.reduceMul, Bool.true_eq_false, Nat.reduceLT])
    | true =>
      have hc : alnum c.toNat = false := by rw [alnum, h1]; rfl
      simp only [go_sem, Nat.reduceEqDiff, reduceCtorEq, Nat.reduceAdd, Nat.reduceLeDiff, Bool.false_eq_true, Nat.reduceMul, Bool.true_eq_false, Nat.reduceLT, h1, hl, List.all_append, List.all_cons, hc, Bool.false_and, Bool.and_false]
  · intro hI
    simp only [fn_names_alphanumeric_L1, go_sem, Nat.reduceEqDiff, reduceCtorEq, Nat.reduceAdd, Nat.reduceLeDiff, Bool.false_eq_true, Nat.reduceMul, Bool.true_eq_false, Nat.reduceLT, hI]
end Go.Abs
end
section
set_option linter.unusedSimpArgs false
set_option linter.unusedVariables false
set_option linter.unusedSectionVars false
namespace Go.Abs
/-- a walk over bytes that ends at the first bad one -/
def scan (bad : Nat → Int → Bool) : Nat → List UInt8 → Bool
  | _, [] => true
  | i, c :: s => !bad i c.toNat && scan bad (i + 1) s
theorem scan_app (bad : Nat → Int → Bool) : ∀ (a : List UInt8) (i : Nat) (b : List UInt8), scan bad i (a ++ b) = (scan bad i a && scan bad (i + a.length) b)
  | [], i, b => by simp [scan]
  | c :: a, i, b => by simp only [List.cons_append, scan, scan_app bad a, List.length_cons, Bool.and_assoc]; congr 3; omega
def badWord (i : Nat) (n : Int) : Bool := !isSmall n && ((i : Int) == 0 || (!isDigit n && n != 95))
def badName (_ : Nat) (n : Int) : Bool := !isSmall n && !isDigit n && n != 95
def kws : List (List UInt8) := [[97, 110, 100], [97, 115, 115, 117, 109, 101], [98, 111, 111, 108], [98, 111, 117, 110, 100], [99, 97, 115, 101], [99, 101, 108, 108], [99, 108, 97, 115, 115], [100, 97, 116, 97], [100, 101, 102], [100, 105, 118], [101, 108, 115, 101], [101, 110, 100], [102, 97, 108, 115, 101], [102, 111, 114, 97, 108, 108], [102, 117, 110], [103, 101, 116], [105, 102], [105, 110], [105, 110, 115, 116], [105, 110, 116], [105, 110, 118, 97, 114, 105, 97, 110, 116], [108, 101, 116], [109, 97, 116, 99, 104], [109, 101, 97, 115, 117, 114, 101], [109, 101, 116, 114, 105, 99], [109, 111, 100], [109, 117], [110, 101, 119], [110, 111, 116], [111, 102], [111, 114], [113, 117, 97, 108], [114, 101, 102, 108, 101, 99, 116], [115, 101, 116], [116, 104, 101, 110], [116, 114, 117, 101], [117, 115, 101], [118], [118, 97, 108], [116, 97, 103], [119, 104, 101, 114, 101], [119, 105, 116, 104]]
def isName (s : List UInt8) : Bool := isSized s && isSmall (s.getD 0 0).toNat && !kws.contains s && scan badName 1 (s.drop 1)
def isTitle (s : List UInt8) : Bool := isSized s && isCapital (s.getD 0 0).toNat && (s.all fun c => alnum c.toNat) && (s != [73, 110, 116] && s != [66, 111, 111, 108] && s != [67, 101, 108, 108] && s != [70, 117, 110])
variable {E : AEnv} (Z : Sys E)
include Z
theorem names_word_ev (s : List UInt8) : E.C names_word [.one (.str s)] (.one (.bool (scan badWord 0 s))) := by
  refine Z.names_word _ _ ⟨Nat.le_of_ble_eq_true rfl, ?_⟩
  simp only [fn_names_word, go_sem, Nat.reduceEqDiff, reduceCtorEq, Nat.reduceAdd, Nat.reduceLeDiff, Bool.false_eq_true, Nat.reduceMul, Bool.true_eq_false, Nat.reduceLT]
  refine loop_list s (fun done => scan badWord 0 done = true) (fun done rest => ⟨[(0, .d (.str s)), (3, .d (.int .i64 done.length))], [], []⟩) ?_ rfl ?_ ?_
  · exact Ent_plain (by simp only [go_sem, Nat.reduceEqDiff, reduceCtorEq, Nat.reduceAdd, Nat.reduceLeDiff, Bool.false_eq_true, Nat.reduceMul, Bool.true_eq_false, Nat.reduceLT, Int.natCast_zero])
  · intro done c r hl hI
    have hlt := lt_mid hl
    have hx : s.getD done.length 0 = c := getD_mid0 _ _ _ _ hl
    simp only [fn_names_word_L1, go_sem, Nat.reduceEqDiff, reduceCtorEq, Nat.reduceAdd, Nat.reduceLeDiff, Bool.false_eq_true, Nat.reduceMul, Bool.true_eq_false, Nat.reduceLT, hlt, hx]
    intro hlen
    have hw : IntKind.i64.wrap ((done.length : Int) + 1) = ((done.length + 1 : Nat) : Int) := wrap_succ (by omega)
    refine call_by (names_small_ev Z _) ?_
    simp only [go_sem, Nat.reduceEqDiff, reduceCtorEq, Nat.reduceAdd, Nat.reduceLeDiff, Bool.false_eq_true, Nat.reduceMul, Bool.true_eq_false, Nat.reduceLT, hw, hlt, hx]
    refine call_by_g (names_digit_ev Z _) ?_
    simp only [go_sem, Nat.reduceEqDiff, reduceCtorEq, Nat.reduceAdd, Nat.reduceLeDiff, Bool.false_eq_true, Nat.reduceMul, Bool.true_eq_false, Nat.reduceLT, hw, hlt, hx]
    cases h1 : badWord done.length c.toNat with
    | false =>
      have h2 := h1
      rw [badWord] at h2
      simp only [go_sem, Nat.reduceEqDiff, reduceCtorEq, Nat.reduceAdd, Nat.reduceLeDiff, Bool.false_eq_true, Nat.reduceMul, Bool.true_eq_false, Nat.reduceLT, h2, hw, List.length_append, scan_app, scan, hI, h1, Nat.zero_add, Bool.not_false]
      refine ⟨?_, ?_, Ent_plain (by simp only [go_sem, Nat.reduceEqDiff, reduceCtorEq, Nat.reduceAdd, Nat.reduceLeDiff, Bool.false_eq_true, Nat.reduceMul, Bool.true_eq_false, Nat.reduceLT])⟩ <;> (cases isSmall (c.toNat : Int) <;> cases isDigit (c.toNat : Int) <;> cases ((done.length : Int) == 0) <;> simp)
    | true =>
      have h2 := h1
      rw [badWord] at h2
      simp only [go_sem, Nat.reduceEqDiff, reduceCtorEq, Nat.reduceAdd, Nat.reduceLeDiff, Bool.false_eq_true, Nat.reduceMul, Bool.true_eq_false, Nat.reduceLT, h2, hl, scan_app, scan, h1, Nat.zero_add, Bool.not_true, Bool.false_and, Bool.and_false]
      refine ⟨?_, ?_⟩ <;> (cases isSmall (c.toNat : Int) <;> cases isDigit (c.toNat : Int) <;> cases ((done.length : Int) == 0) <;> simp)
  · intro hI
    simp only [fn_names_word_L1, go_sem, Nat.reduceEqDiff, reduceCtorEq, Nat.reduceAdd, Nat.reduceLeDiff, Bool.false_eq_true, Nat.reduceMul, Bool.true_eq_false, Nat.reduceLT, hI]
theorem names_Keyword_ev (hG : E.G 0 = some (kws.map .str)) (s : List UInt8) : E.C names_Keyword [.one (.str s)] (.one (.bool (kws.contains s))) := by
  refine Z.names_Keyword _ _ ⟨Nat.le_of_ble_eq_true rfl, ?_⟩
  have h1 : (kws.map D.str).take 42 = kws.map D.str := rfl
  have h2 : 42 ≤ kws.length := Nat.le_of_ble_eq_true rfl
  simp only [fn_names_Keyword, go_sem, Nat.reduceEqDiff, reduceCtorEq, Nat.reduceAdd, Nat.reduceLeDiff, Bool.false_eq_true, Nat.reduceMul, Bool.true_eq_false, Nat.reduceLT, hG, h1]
  refine ⟨h2, ?_⟩
  refine loop_list kws (fun done => done.contains s = false) (fun done rest => ⟨[(0, .d (.str s)), (6, .d (.int .i64 done.length)), (5, .agg ((kws.map .str).map .d))], [], []⟩) ?_ rfl ?_ ?_
  · exact Ent_plain (by simp only [go_sem, Nat.reduceEqDiff, reduceCtorEq, Nat.reduceAdd, Nat.reduceLeDiff, Bool.false_eq_true, Nat.reduceMul, Bool.true_eq_false, Nat.reduceLT, Int.natCast_zero])
  · intro done c r hl hI
    have hlt : (done.length : Int) < 42 := lt_mid hl
    have hx : ((kws.map D.str).map AV.d).getD done.length .undef = .d (.str c) := by rw [hl]; simp
    have hlt2 : (done.length : Int) < kws.length := lt_mid hl
    have hw : IntKind.i64.wrap ((done.length : Int) + 1) = ((done.length + 1 : Nat) : Int) := wrap_succ (by omega)
    simp only [fn_names_Keyword_L1, go_sem, Nat.reduceEqDiff, reduceCtorEq, Nat.reduceAdd, Nat.reduceLeDiff, Bool.false_eq_true, Nat.reduceMul, Bool.true_eq_false, Nat.reduceLT, hlt, hx, hlt2, hw]
    cases h1 : (c == s) with
    | false =>
      simp only [go_sem, Nat.reduceEqDiff, reduceCtorEq, Nat.reduceAdd, Nat.reduceLeDiff, Bool.false_eq_true, Nat.reduceMul, Bool.true_eq_false, Nat.reduceLT, h1, hw, List.length_append]
      refine ⟨hlt, Ent_plain (by simp only [go_sem, Nat.reduceEqDiff, reduceCtorEq, Nat.reduceAdd, Nat.reduceLeDiff, Bool.false_eq_true, Nat.reduceMul, Bool.true_eq_false, Nat.reduceLT]), ?_⟩
      have h1 : (s == c) = false := by rw [← h1]; exact BEq.comm
      simp only [List.contains_eq_any_beq, List.any_append, List.any_cons, List.any_nil, Bool.or_false] at hI ⊢
      rw [hI, h1]; rfl
    | true =>
      simp only [go_sem, Nat.reduceEqDiff, reduceCtorEq, Nat.reduceAdd, Nat.reduceLeDiff, Bool.false_eq_true, Nat.reduceMul, Bool.true_eq_false, Nat.reduceLT, h1]
      refine ⟨hlt, ?_⟩
      have h1 : c = s := by simpa using h1
      subst h1
      rw [hl]
      simp
  · intro hI
    have hlt : (decide ((kws.length : Int) < 42)) = false := rfl
    simp only [fn_names_Keyword_L1, go_sem, Nat.reduceEqDiff, reduceCtorEq, Nat.reduceAdd, Nat.reduceLeDiff, Bool.false_eq_true, Nat.reduceMul, Bool.true_eq_false, Nat.reduceLT, hI, hlt]
end Go.Abs
end
section
set_option linter.unusedSimpArgs false
set_option linter.unusedVariables false
set_option linter.unusedSectionVars false
namespace Go.Abs
theorem isSized_pos {s : List UInt8} (h : isSized s = true) : 0 < s.length := by
  simp only [isSized, Bool.and_eq_true, decide_eq_true_eq] at h; omega
variable {E : AEnv} (Z : Sys E)
include Z
theorem names_name_ev (hG : E.G 0 = some (kws.map .str)) (s : List UInt8) : E.C names_name [.one (.str s)] (.one (.bool (isName s))) := by
  refine Z.names_name _ _ ⟨Nat.le_of_ble_eq_true rfl, ?_⟩
  simp only [fn_names_name, go_sem, Nat.reduceEqDiff, reduceCtorEq, Nat.reduceAdd, Nat.reduceLeDiff, Bool.false_eq_true, Nat.reduceMul, Bool.true_eq_false, Nat.reduceLT]
  refine call_by (names_sized_ev Z s) ?_
  cases h0 : isSized s with
  | false =>
    have hr : isName s = false := by simp [isName, h0]
    simp only [go_sem, Nat.reduceEqDiff, reduceCtorEq, Nat.reduceAdd, Nat.reduceLeDiff, Bool.false_eq_true, Nat.reduceMul, Bool.true_eq_false, Nat.reduceLT, hr]
    refine ⟨.one (.bool false), ?_⟩
    simp only [go_sem, Nat.reduceEqDiff, reduceCtorEq, Nat.reduceAdd, Nat.reduceLeDiff, Bool.false_eq_true, Nat.reduceMul, Bool.true_eq_false, Nat.reduceLT, hr]
    refine ⟨.one (.bool false), ?_⟩
    simp only [go_sem, Nat.reduceEqDiff, reduceCtorEq, Nat.reduceAdd, Nat.reduceLeDiff, Bool.false_eq_true, Nat.reduceMul, Bool.true_eq_false, Nat.reduceLT, hr]
  | true =>
    have hpos := isSized_pos h0
    have hpos' : ((0 : Int) < s.length) = True := eq_true (by omega)
    simp only [go_sem, Nat.reduceEqDiff, reduceCtorEq, Nat.reduceAdd, Nat.reduceLeDiff, Bool.false_eq_true, Nat.reduceMul, Bool.true_eq_false, Nat.reduceLT, hpos', Bool.not_true, Int.toNat_zero]
    refine call_by (names_small_ev Z _) ?_
    cases h1 : isSmall (s.getD 0 0).toNat with
    | false =>
      have hr : isName s = false := by simp only [isName, h0, h1]; rfl
      simp only [go_sem, Nat.reduceEqDiff, reduceCtorEq, Nat.reduceAdd, Nat.reduceLeDiff, Bool.false_eq_true, Nat.reduceMul, Bool.true_eq_false, Nat.reduceLT, hr, Bool.not_false, Bool.not_true]
      refine ⟨.one (.bool false), ?_⟩
      simp only [go_sem, Nat.reduceEqDiff, reduceCtorEq, Nat.reduceAdd, Nat.reduceLeDiff, Bool.false_eq_true, Nat.reduceMul, Bool.true_eq_false, Nat.reduceLT, hr, Bool.not_false, Bool.not_true, Bool.or_true, Bool.or_false, Bool.or_self]
    | true =>
      simp only [go_sem, Nat.reduceEqDiff, reduceCtorEq, Nat.reduceAdd, Nat.reduceLeDiff, Bool.false_eq_true, Nat.reduceMul, Bool.true_eq_false, Nat.reduceLT, Bool.not_false, Bool.not_true, Bool.or_self]
      refine call_by (names_Keyword_ev Z hG s) ?_
      cases h2 : kws.contains s with
      | true =>
        have hr : isName s = false := by simp only [isName, h0, h1, h2]; rfl
        simp only [go_sem, Nat.reduceEqDiff, reduceCtorEq, Nat.reduceAdd, Nat.reduceLeDiff, Bool.false_eq_true, Nat.reduceMul, Bool.true_eq_false, Nat.reduceLT, hr, Bool.not_false, Bool.not_true, Bool.or_true, Bool.or_false, Bool.or_self, Bool.false_or]
      | false =>
        have hr : isName s = scan badName 1 (s.drop 1) := by simp only [isName, h0, h1, h2]; rfl
        obtain ⟨c0, t, rfl⟩ : ∃ c0 t, s = c0 :: t := by cases s with | nil => simp at hpos | cons c t => exact ⟨c, t, rfl⟩
        simp only [go_sem, Nat.reduceEqDiff, reduceCtorEq, Nat.reduceAdd, Nat.reduceLeDiff, Bool.false_eq_true, Nat.reduceMul, Bool.true_eq_false, Nat.reduceLT, hr, Bool.not_false, Bool.not_true, Bool.or_true, Bool.or_false, Bool.or_self]
        refine loop_list t (fun done => scan badName 1 done = true) (fun done rest => ⟨[(0, .d (.str (c0 :: t))), (3, .d (.int .i64 (1 + done.length : Nat)))], [], []⟩) ?_ rfl ?_ ?_
        · exact Ent_plain (by simp only [go_sem, Nat.reduceEqDiff, reduceCtorEq, Nat.reduceAdd, Nat.reduceLeDiff, Bool.false_eq_true, Nat.reduceMul, Bool.true_eq_false, Nat.reduceLT, Nat.add_zero]; trivial)
        · intro done c r hl hI
          have hlt : (((1 + done.length : Nat) : Int) < ((t.length + 1 : Nat) : Int)) = True := eq_true (by rw [hl]; simp; omega)
          have hx : (c0 :: t).getD (1 + done.length) 0 = c := by rw [hl, Nat.add_comm]; simp
          simp only [fn_names_name_L1, go_sem, Nat.reduceEqDiff, reduceCtorEq, Nat.reduceAdd, Nat.reduceLeDiff, Bool.false_eq_true, Nat.reduceMul, Bool.true_eq_false, Nat.reduceLT, hlt, hx]
          intro hlen
          have hw : IntKind.i64.wrap (((1 + done.length : Nat) : Int) + 1) = ((1 + done.length + 1 : Nat) : Int) := wrap_succ (by simp only [eq_iff_iff, iff_true] at hlt; omega)
          refine call_by (names_small_ev Z _) ?_
          simp only [go_sem, Nat.reduceEqDiff, reduceCtorEq, Nat.reduceAdd, Nat.reduceLeDiff, Bool.false_eq_true, Nat.reduceMul, Bool.true_eq_false, Nat.reduceLT, hw, hlt, hx]
          refine call_by_g (names_digit_ev Z _) ?_
          simp only [go_sem, Nat.reduceEqDiff, reduceCtorEq, Nat.reduceAdd, Nat.reduceLeDiff, Bool.false_eq_true, Nat.reduceMul, Bool.true_eq_false, Nat.reduceLT, hw, hlt, hx]
          cases h1 : badName (1 + done.length) c.toNat with
          | false =>
            have h2 := h1
            rw [badName] at h2
            simp only [go_sem, Nat.reduceEqDiff, reduceCtorEq, Nat.reduceAdd, Nat.reduceLeDiff, Bool.false_eq_true, Nat.reduceMul, Bool.true_eq_false, Nat.reduceLT, h2, hw, List.length_append, scan_app, scan, hI, h1, Bool.not_false]
            exact Ent_plain (by simp only [go_sem, Nat.reduceEqDiff, reduceCtorEq, Nat.reduceAdd, Nat.reduceLeDiff, Bool.false_eq_true, Nat.reduceMul, Bool.true_eq_false, Nat.reduceLT, Nat.add_assoc])
          | true =>
            have h2 := h1
            rw [badName] at h2
            simp only [go_sem, Nat.reduceEqDiff, reduceCtorEq, Nat.reduceAdd, Nat.reduceLeDiff, Bool.false_eq_true, Nat.reduceMul, Bool.true_eq_false, Nat.reduceLT, h2, hl, scan_app, scan, h1, Bool.not_true, Bool.false_and, Bool.and_false]
        · intro hI
          have hge : decide (((1 + t.length : Nat) : Int) < ((t.length + 1 : Nat) : Int)) = false := by rw [Nat.add_comm]; simp
          simp only [fn_names_name_L1, go_sem, Nat.reduceEqDiff, reduceCtorEq, Nat.reduceAdd, Nat.reduceLeDiff, Bool.false_eq_true, Nat.reduceMul, Bool.true_eq_false, Nat.reduceLT, hge, List.drop_succ_cons, hI]
theorem names_title_ev (s : List UInt8) : E.C names_title [.one (.str s)] (.one (.bool (isTitle s))) := by
  refine Z.names_title _ _ ⟨Nat.le_of_ble_eq_true rfl, ?_⟩
  simp only [fn_names_title, go_sem, Nat.reduceEqDiff, reduceCtorEq, Nat.reduceAdd, Nat.reduceLeDiff, Bool.false_eq_true, Nat.reduceMul, Bool.true_eq_false, Nat.reduceLT]
  refine call_by (names_sized_ev Z s) ?_
  cases h0 : isSized s with
  | false =>
    have hr : isTitle s = false := by simp [isTitle, h0]
    simp only [go_sem, Nat.reduceEqDiff, reduceCtorEq, Nat.reduceAdd, Nat.reduceLeDiff, Bool.false_eq_true, Nat.reduceMul, Bool.true_eq_false, Nat.reduceLT, hr]
    refine ⟨.one (.bool false), ?_⟩
    simp only [go_sem, Nat.reduceEqDiff, reduceCtorEq, Nat.reduceAdd, Nat.reduceLeDiff, Bool.false_eq_true, Nat.reduceMul, Bool.true_eq_false, Nat.reduceLT, hr]
    refine ⟨.one (.bool false), ?_⟩
    simp only [go_sem, Nat.reduceEqDiff, reduceCtorEq, Nat.reduceAdd, Nat.reduceLeDiff, Bool.false_eq_true, Nat.reduceMul, Bool.true_eq_false, Nat.reduceLT, hr]
  | true =>
    have hpos := isSized_pos h0
    have hpos' : ((0 : Int) < s.length) = True := eq_true (by omega)
    simp only [go_sem, Nat.reduceEqDiff, reduceCtorEq, Nat.reduceAdd, Nat.reduceLeDiff, Bool.false_eq_true, Nat.reduceMul, Bool.true_eq_false, Nat.reduceLT, hpos', Int.toNat_zero]
    refine call_by (names_capital_ev Z _) ?_
    cases h1 : isCapital (s.getD 0 0).toNat with
    | false =>
      have hr : isTitle s = false := by simp only [isTitle, h0, h1]; rfl
      simp only [go_sem, Nat.reduceEqDiff, reduceCtorEq, Nat.reduceAdd, Nat.reduceLeDiff, Bool.false_eq_true, Nat.reduceMul, Bool.true_eq_false, Nat.reduceLT, hr]
      refine ⟨.one (.bool false), ?_⟩
      simp only [go_sem, Nat.reduceEqDiff, reduceCtorEq, Nat.reduceAdd, Nat.reduceLeDiff, Bool.false_eq_true, Nat.reduceMul, Bool.true_eq_false, Nat.reduceLT, hr]
    | true =>
      simp only [go_sem, Nat.reduceEqDiff, reduceCtorEq, Nat.reduceAdd, Nat.reduceLeDiff, Bool.false_eq_true, Nat.reduceMul, Bool.true_eq_false, Nat.reduceLT]
      refine call_by (names_alphanumeric_ev Z s) ?_
      cases h2 : (s.all fun c => alnum c.toNat) with
      | false =>
        have hr : isTitle s = false := by simp only [isTitle, h0, h1, h2]; rfl
        simp only [go_sem, Nat.reduceEqDiff, reduceCtorEq, Nat.reduceAdd, Nat.reduceLeDiff, Bool.false_eq_true, Nat.reduceMul, Bool.true_eq_false, Nat.reduceLT, hr]
      | true =>
        simp only [go_sem, Nat.reduceEqDiff, reduceCtorEq, Nat.reduceAdd, Nat.reduceLeDiff, Bool.false_eq_true, Nat.reduceMul, Bool.true_eq_false, Nat.reduceLT, isTitle, h0, h1, h2, bne]
end Go.Abs
end
section
set_option linter.unusedSimpArgs false
set_option linter.unusedVariables false
set_option linter.unusedSectionVars false
namespace Go.Abs
/-- what may stand behind a point -/
def okPart (s : List UInt8) : Bool := !(!isSized s || (!(s.all fun c => alnum c.toNat) && !scan badWord 0 s))
theorem cutAt_len : ∀ (s : List UInt8), (cutAt s).2.2 = true → (cutAt s).2.1.length < s.length
  | [], h => by simp [cutAt] at h
  | c :: s, h => by
    simp only [cutAt] at h ⊢
    split
    · simp
    · rename_i hc
      rw [if_neg hc] at h
      have := cutAt_len s h
      simp only [List.length_cons]; omega
def parts (s : List UInt8) : Bool := if h : (cutAt s).2.2 = true then okPart (cutAt s).1 && parts (cutAt s).2.1 else okPart (cutAt s).1
termination_by s.length
decreasing_by exact cutAt_len s h
def isCore (s : List UInt8) : Bool :=
  !decide ((s.length : Int) > 120) && (!(!isName (cutAt s).1 && !isTitle (cutAt s).1 && ((cutAt s).1 != [118] || !(cutAt s).2.2))) && (if (cutAt s).2.2 then parts (cutAt s).2.1 else true)
variable {E : AEnv} (Z : Sys E)
include Z
theorem names_Core_ev (hG : E.G 0 = some (kws.map .str)) (s : List UInt8) : E.C names_Core [.one (.str s)] (.one (.int .i64 (if isCore s then 0 else 3))) := by
  refine Z.names_Core _ _ ⟨Nat.le_of_ble_eq_true rfl, ?_⟩
  simp only [fn_names_Core, go_sem, Nat.reduceEqDiff, reduceCtorEq, Nat.reduceAdd, Nat.reduceLeDiff, Bool.false_eq_true, Nat.reduceMul, Bool.true_eq_false, Nat.reduceLT]
  intro hlen
  cases h0 : decide ((s.length : Int) > 120) with
  | true => simp only [go_sem, Nat.reduceEqDiff, reduceCtorEq, Nat.reduceAdd, Nat.reduceLeDiff, Bool.false_eq_true, Nat.reduceMul, Bool.true_eq_false, Nat.reduceLT, isCore, h0]
  | false =>
    simp only [go_sem, Nat.reduceEqDiff, reduceCtorEq, Nat.reduceAdd, Nat.reduceLeDiff, Bool.false_eq_true, Nat.reduceMul, Bool.true_eq_false, Nat.reduceLT, isCore, h0]
    refine call_by (names_cut_ev Z s) ?_
    have hdec := cutAt_len s
    revert hdec
    generalize cutAt s = cc
    obtain ⟨a, b, m⟩ := cc
    intro hdec
    simp only [go_sem, Nat.reduceEqDiff, reduceCtorEq, Nat.reduceAdd, Nat.reduceLeDiff, Bool.false_eq_true, Nat.reduceMul, Bool.true_eq_false, Nat.reduceLT]
    refine call_by (names_name_ev Z hG a) ?_
    simp only [go_sem, Nat.reduceEqDiff, reduceCtorEq, Nat.reduceAdd, Nat.reduceLeDiff, Bool.false_eq_true, Nat.reduceMul, Bool.true_eq_false, Nat.reduceLT]
    refine call_by_g (names_title_ev Z a) ?_
    simp only [go_sem, Nat.reduceEqDiff, reduceCtorEq, Nat.reduceAdd, Nat.reduceLeDiff, Bool.false_eq_true, Nat.reduceMul, Bool.true_eq_false, Nat.reduceLT]
    have ob : ∀ (p q x y : Bool), ((p && q) = true → (p = true ∧ (!x && y) = true) → (p && q) = true) := by simp
    cases h1 : (!isName a && !isTitle a && (a != [118] || !m)) with
    | true =>
      rw [bne] at h1
      simp only [go_sem, Nat.reduceEqDiff, reduceCtorEq, Nat.reduceAdd, Nat.reduceLeDiff, Bool.false_eq_true, Nat.reduceMul, Bool.true_eq_false, Nat.reduceLT, h1]
      cases isName a <;> cases isTitle a <;> cases (a == [118]) <;> simp
    | false =>
      rw [bne] at h1
      simp only [go_sem, Nat.reduceEqDiff, reduceCtorEq, Nat.reduceAdd, Nat.reduceLeDiff, Bool.false_eq_true, Nat.reduceMul, Bool.true_eq_false, Nat.reduceLT, h1]
      refine ⟨?_, ?_⟩
      · cases isName a <;> cases isTitle a <;> cases (a == [118]) <;> simp
      generalize hR : (if m = true then parts b else true) = R
      refine loop_meas (fun x : List UInt8 × Bool => ⟨[(4, .d (.str x.1)), (5, .d (.bool x.2))], [], []⟩) (fun x => R = (if x.2 = true then parts x.1 else true)) (fun x => if x.2 = true then x.1.length + 1 else 0) (b, m) ?_ hR.symm ?_
      · exact Ent_plain (by simp only [go_sem, Nat.reduceEqDiff, reduceCtorEq, Nat.reduceAdd, Nat.reduceLeDiff, Bool.false_eq_true, Nat.reduceMul, Bool.true_eq_false, Nat.reduceLT])
      · rintro ⟨b', m'⟩ hI
        cases m' with
        | false =>
          simp only [fn_names_Core_L1, go_sem, Nat.reduceEqDiff, reduceCtorEq, Nat.reduceAdd, Nat.reduceLeDiff, Bool.false_eq_true, Nat.reduceMul, Bool.true_eq_false, Nat.reduceLT]
          simp only [Bool.false_eq_true, if_false] at hI
          simp only [hI, if_true]
        | true =>
          simp only [if_true] at hI
          rw [parts] at hI
          simp only [fn_names_Core_L1, go_sem, Nat.reduceEqDiff, reduceCtorEq, Nat.reduceAdd, Nat.reduceLeDiff, Bool.false_eq_true, Nat.reduceMul, Bool.true_eq_false, Nat.reduceLT]
          refine call_by (names_cut_ev Z b') ?_
          have hdec := cutAt_len b'
          revert hdec hI
          generalize cutAt b' = cc
          obtain ⟨a1, b1, m1⟩ := cc
          intro hI hdec
          simp only at hI hdec
          simp only [go_sem, Nat.reduceEqDiff, reduceCtorEq, Nat.reduceAdd, Nat.reduceLeDiff, Bool.false_eq_true, Nat.reduceMul, Bool.true_eq_false, Nat.reduceLT]
          refine call_by (names_sized_ev Z a1) ?_
          simp only [go_sem, Nat.reduceEqDiff, reduceCtorEq, Nat.reduceAdd, Nat.reduceLeDiff, Bool.false_eq_true, Nat.reduceMul, Bool.true_eq_false, Nat.reduceLT]
          refine call_by_g (names_alphanumeric_ev Z a1) ?_
          simp only [go_sem, Nat.reduceEqDiff, reduceCtorEq, Nat.reduceAdd, Nat.reduceLeDiff, Bool.false_eq_true, Nat.reduceMul, Bool.true_eq_false, Nat.reduceLT]
          refine call_by_g (names_word_ev Z a1) ?_
          simp only [go_sem, Nat.reduceEqDiff, reduceCtorEq, Nat.reduceAdd, Nat.reduceLeDiff, Bool.false_eq_true, Nat.reduceMul, Bool.true_eq_false, Nat.reduceLT]
          cases h1 : (!isSized a1 || (!(a1.all fun c => alnum c.toNat) && !scan badWord 0 a1)) with
          | true =>
            have h2 : okPart a1 = false := by rw [okPart, h1]; rfl
            have h3 : R = false := by rw [hI, h2]; simp
            simp only [go_sem, Nat.reduceEqDiff, reduceCtorEq, Nat.reduceAdd, Nat.reduceLeDiff, Bool.false_eq_true, Nat.reduceMul, Bool.true_eq_false, Nat.reduceLT, h1, h3]
            cases isSized a1 <;> cases (a1.all fun c => alnum c.toNat) <;> simp
          | false =>
            have h2 : okPart a1 = true := by rw [okPart, h1]; rfl
            simp only [go_sem, Nat.reduceEqDiff, reduceCtorEq, Nat.reduceAdd, Nat.reduceLeDiff, Bool.false_eq_true, Nat.reduceMul, Bool.true_eq_false, Nat.reduceLT, h1]
            refine ⟨?_, ?_, (b1, m1), Ent_plain (by simp only [go_sem, Nat.reduceEqDiff, reduceCtorEq, Nat.reduceAdd, Nat.reduceLeDiff, Bool.false_eq_true, Nat.reduceMul, Bool.true_eq_false, Nat.reduceLT]), ?_, ?_⟩
            · cases isSized a1 <;> cases (a1.all fun c => alnum c.toNat) <;> simp
            · cases isSized a1 <;> cases (a1.all fun c => alnum c.toNat) <;> simp
            · rw [hI, h2]; cases m1 <;> simp
            · cases m1 with
              | false => simp
              | true => have := hdec rfl; simp; omega
end Go.Abs
end
section
set_option linter.unusedSimpArgs false
set_option linter.unusedVariables false
set_option linter.unusedSectionVars false
namespace Go.Abs
namespace Pred
mutual
def nodes : Pred → Int
  | .mk _ _ _ ks => nodess 1 ks
def nodess (a : Int) : List Pred → Int
  | [] => a
  | k :: ks => nodess (IntKind.i64.wrap (a + nodes k)) ks
end
theorem nodess_eq (a : Int) (ks : List Pred) : nodess a ks = ks.foldl (fun a k => IntKind.i64.wrap (a + nodes k)) a := by
  induction ks generalizing a with
  | nil => simp [nodess]
  | cons k ks ih => simp [nodess, ih]
theorem nodes_eq (p : Pred) : nodes p = p.kids.foldl (fun a k => IntKind.i64.wrap (a + nodes k)) 1 := by cases p; simp [nodes, kids, nodess_eq]
end Pred
theorem pred_Nodes_ev {E : AEnv} (Z : Sys E) (p : Pred) : E.C pred_Nodes [.agg (Pred.cells p)] (.one (.int .i64 p.nodes)) := by
  induction p using Pred.ind with
  | h o s n ks ih =>
  refine Z.pred_Nodes _ _ ⟨Nat.le_of_ble_eq_true rfl, ?_⟩
  rw [Pred.cells_eq, Pred.nodes_eq]
  simp only [fn_pred_Nodes, go_sem, Nat.reduceEqDiff, reduceCtorEq, Nat.reduceAdd, Nat.reduceLeDiff, Bool.false_eq_true, Nat.reduceMul, Bool.true_eq_false, Nat.reduceLT, Pred.kids]
  intro hlen
  refine loop_list ks (fun _ => True) (fun done rest => ⟨[(9, .d (.int .i64 done.length)), (8, .d (.int .i64 (ks.map Pred.cells).length)), (7, .d (.lst (ks.map Pred.cells))), (3, .d (.int .i64 (done.foldl (fun a k => IntKind.i64.wrap (a + Pred.nodes k)) 1)))], [], []⟩) ?_ trivial ?_ ?_
  · exact Ent_plain (by simp only [go_sem, Nat.reduceEqDiff, reduceCtorEq, Nat.reduceAdd, Nat.reduceLeDiff, Bool.false_eq_true, Nat.reduceMul, Bool.true_eq_false, Nat.reduceLT, Int.natCast_zero, List.foldl_nil])
  · intro done k r hl _
    have hk' := ih k (by rw [hl]; simp)
    have hlt := lt_mid hl
    have hw : IntKind.i64.wrap ((done.length : Int) + 1) = ((done.length + 1 : Nat) : Int) := wrap_succ (by omega)
    have hx : (ks.map Pred.cells).getD done.length [] = Pred.cells k := by rw [hl]; exact getD_mid _ _ _ _ _
    simp only [fn_pred_Nodes_L1, go_sem, Nat.reduceEqDiff, reduceCtorEq, Nat.reduceAdd, Nat.reduceLeDiff, Bool.false_eq_true, Nat.reduceMul, Bool.true_eq_false, Nat.reduceLT, hlt, hx]
    refine call_by hk' ?_
    simp only [go_sem, Nat.reduceEqDiff, reduceCtorEq, Nat.reduceAdd, Nat.reduceLeDiff, Bool.false_eq_true, Nat.reduceMul, Bool.true_eq_false, Nat.reduceLT, hw, List.length_append, List.foldl_append, List.foldl_cons, List.foldl_nil]
    exact Ent_plain (by simp only [go_sem, Nat.reduceEqDiff, reduceCtorEq, Nat.reduceAdd, Nat.reduceLeDiff, Bool.false_eq_true, Nat.reduceMul, Bool.true_eq_false, Nat.reduceLT])
  · simp only [fn_pred_Nodes_L1, go_sem, Nat.reduceEqDiff, reduceCtorEq, Nat.reduceAdd, Nat.reduceLeDiff, Bool.false_eq_true, Nat.reduceMul, Bool.true_eq_false, Nat.reduceLT, forall_const]
end Go.Abs
end
section
set_option linter.unusedSimpArgs false
set_option linter.unusedVariables false
set_option linter.unusedSectionVars false
namespace Go.Abs
def findIx (s : List UInt8) : Nat → List (List UInt8) → Int
  | _, [] => -1
  | i, x :: l => if x = s then i else findIx s (i + 1) l
theorem findIx_none (s : List UInt8) : ∀ (l : List (List UInt8)) (i : Nat), s ∉ l → findIx s i l = -1
  | [], _, _ => rfl
  | x :: l, i, h => by
    simp only [List.mem_cons, not_or] at h
    rw [findIx, if_neg (fun e => h.1 e.symm), findIx_none s l (i + 1) h.2]
theorem findIx_app (s : List UInt8) : ∀ (a : List (List UInt8)) (i : Nat) (b : List (List UInt8)), s ∉ a → findIx s i (a ++ b) = findIx s (i + a.length) b
  | [], i, b, _ => by simp
  | x :: a, i, b, h => by
    simp only [List.mem_cons, not_or] at h
    rw [List.cons_append, findIx, if_neg (fun e => h.1 e.symm), findIx_app s a (i + 1) b h.2, List.length_cons]
    congr 1; omega
theorem findIx_mem (s : List UInt8) : ∀ (l : List (List UInt8)) (i : Nat), decide (findIx s i l ≥ 0) = l.contains s
  | [], i => by simp [findIx]
  | x :: l, i => by
    rw [findIx]
    by_cases h : x = s
    · subst h; simp
    · have h' : (s == x) = false := by simpa using fun e => h e.symm
      rw [if_neg h, findIx_mem s l (i + 1), List.contains_cons, h', Bool.false_or]
def isOpNamed (n : Int) : Bool := n == 3 || n == 4 || n == 5
def inRange (n : Int) : Bool := decide (n ≥ -1000000000000) && decide (n ≤ 1000000000000)
variable {E : AEnv} (Z : Sys E)
include Z
theorem r04_small_ev (n : Int) : E.C r04_small [.one (.int .u8 n)] (.one (.bool (isSmall n))) := by
  refine Z.r04_small _ _ ⟨Nat.le_of_ble_eq_true rfl, ?_⟩
  simp only [fn_r04_small, go_sem, Nat.reduceEqDiff, reduceCtorEq, Nat.reduceAdd, Nat.reduceLeDiff, Bool.false_eq_true, Nat.reduceMul, Bool.true_eq_false, Nat.reduceLT, isSmall, ge_iff_le]
theorem r04_capital_ev (n : Int) : E.C r04_capital [.one (.int .u8 n)] (.one (.bool (isCapital n))) := by
  refine Z.r04_capital _ _ ⟨Nat.le_of_ble_eq_true rfl, ?_⟩
  simp only [fn_r04_capital, go_sem, Nat.reduceEqDiff, reduceCtorEq, Nat.reduceAdd, Nat.reduceLeDiff, Bool.false_eq_true, Nat.reduceMul, Bool.true_eq_false, Nat.reduceLT, isCapital, ge_iff_le]
theorem r04_digit_ev (n : Int) : E.C r04_digit [.one (.int .u8 n)] (.one (.bool (isDigit n))) := by
  refine Z.r04_digit _ _ ⟨Nat.le_of_ble_eq_true rfl, ?_⟩
  simp only [fn_r04_digit, go_sem, Nat.reduceEqDiff, reduceCtorEq, Nat.reduceAdd, Nat.reduceLeDiff, Bool.false_eq_true, Nat.reduceMul, Bool.true_eq_false, Nat.reduceLT, isDigit, ge_iff_le]
theorem num_In_ev (n : Int) : E.C num_In [.one (.int .i64 n)] (.one (.bool (inRange n))) := by
  refine Z.num_In _ _ ⟨Nat.le_of_ble_eq_true rfl, ?_⟩
  simp only [fn_num_In, go_sem, Nat.reduceEqDiff, reduceCtorEq, Nat.reduceAdd, Nat.reduceLeDiff, Bool.false_eq_true, Nat.reduceMul, Bool.true_eq_false, Nat.reduceLT, inRange]
theorem r01_In_ev (n : Int) : E.C r01_In [.one (.int .i64 n)] (.one (.bool (inRange n))) := by
  refine Z.r01_In _ _ ⟨Nat.le_of_ble_eq_true rfl, ?_⟩
  simp only [fn_r01_In, go_sem, Nat.reduceEqDiff, reduceCtorEq, Nat.reduceAdd, Nat.reduceLeDiff, Bool.false_eq_true, Nat.reduceMul, Bool.true_eq_false, Nat.reduceLT, inRange]
theorem pred_named_ev (n : Int) : E.C pred_named [.one (.int .i64 n)] (.one (.bool (isOpNamed n))) := by
  refine Z.pred_named _ _ ⟨Nat.le_of_ble_eq_true rfl, ?_⟩
  simp only [fn_pred_named, go_sem, Nat.reduceEqDiff, reduceCtorEq, Nat.reduceAdd, Nat.reduceLeDiff, Bool.false_eq_true, Nat.reduceMul, Bool.true_eq_false, Nat.reduceLT, isOpNamed]
  cases (n == 3) <;> cases (n == 4) <;> simp
theorem r07_named_ev (n : Int) : E.C r07_named [.one (.int .i64 n)] (.one (.bool (isOpNamed n))) := by
  refine Z.r07_named _ _ ⟨Nat.le_of_ble_eq_true rfl, ?_⟩
  simp only [fn_r07_named, go_sem, Nat.reduceEqDiff, reduceCtorEq, Nat.reduceAdd, Nat.reduceLeDiff, Bool.false_eq_true, Nat.reduceMul, Bool.true_eq_false, Nat.reduceLT, isOpNamed]
  cases (n == 3) <;> cases (n == 4) <;> simp
theorem r04_Find_ev (l : List (List UInt8)) (s : List UInt8) : E.C r04_Find [.one (.lst (l.map fun k => [.str k])), .one (.str s)] (.one (.int .i64 (findIx s 0 l))) := by
  refine Z.r04_Find _ _ ⟨Nat.le_of_ble_eq_true rfl, ?_⟩
  simp only [fn_r04_Find, go_sem, Nat.reduceEqDiff, reduceCtorEq, Nat.reduceAdd, Nat.reduceLeDiff, Bool.false_eq_true, Nat.reduceMul, Bool.true_eq_false, Nat.reduceLT]
  intro hlen
  refine loop_list l (fun done => s ∉ done) (fun done rest => ⟨[(8, .d (.int .i64 done.length)), (7, .d (.int .i64 l.length)), (0, .d (.lst (l.map fun k => [.str k]))), (1, .d (.str s))], [], []⟩) ?_ (by simp) ?_ ?_
  · exact Ent_plain (by simp only [go_sem, Nat.reduceEqDiff, reduceCtorEq, Nat.reduceAdd, Nat.reduceLeDiff, Bool.false_eq_true, Nat.reduceMul, Bool.true_eq_false, Nat.reduceLT, Int.natCast_zero])
  · intro done k r hl hI
    have hlt := lt_mid hl
    have hw : IntKind.i64.wrap ((done.length : Int) + 1) = ((done.length + 1 : Nat) : Int) := wrap_succ (by omega)
    have hx : (l.map fun k => [D.str k]).getD done.length [] = [.str k] := by rw [hl]; exact getD_mid _ _ _ _ _
    have hls : (∀ e ∈ l.map fun k => [D.str k], e.length = 1) = True := eq_true (by simp)
    simp only [fn_r04_Find_L1, go_sem, Nat.reduceEqDiff, reduceCtorEq, Nat.reduceAdd, Nat.reduceLeDiff, Bool.false_eq_true, Nat.reduceMul, Bool.true_eq_false, Nat.reduceLT, hlt, hx, hls]
    cases h1 : (k == s) with
    | true =>
      simp only [go_sem, Nat.reduceEqDiff, reduceCtorEq, Nat.reduceAdd, Nat.reduceLeDiff, Bool.false_eq_true, Nat.reduceMul, Bool.true_eq_false, Nat.reduceLT]
      have h1 : k = s := by simpa using h1
      rw [hl, findIx_app s done 0 _ hI, findIx, if_pos h1, Nat.zero_add]
    | false =>
      simp only [go_sem, Nat.reduceEqDiff, reduceCtorEq, Nat.reduceAdd, Nat.reduceLeDiff, Bool.false_eq_true, Nat.reduceMul, Bool.true_eq_false, Nat.reduceLT, hw, List.length_append]
      refine ⟨Ent_plain (by simp only [go_sem, Nat.reduceEqDiff, reduceCtorEq, Nat.reduceAdd, Nat.reduceLeDiff, Bool.false_eq_true, Nat.reduceMul, Bool.true_eq_false, Nat.reduceLT]), ?_⟩
      have h1 : k ≠ s := by simpa using h1
      simp only [List.mem_append, List.mem_singleton, not_or]
      exact ⟨hI, fun e => h1 e.symm⟩
  · intro hI
    simp only [fn_r04_Find_L1, go_sem, Nat.reduceEqDiff, reduceCtorEq, Nat.reduceAdd, Nat.reduceLeDiff, Bool.false_eq_true, Nat.reduceMul, Bool.true_eq_false, Nat.reduceLT, findIx_none s l 0 hI]
theorem r04_keywords_ev : E.C r04_keywords [] (.one (.lst (kws.map fun k => [.str k]))) := by
  refine Z.r04_keywords _ _ ⟨Nat.le_of_ble_eq_true rfl, ?_⟩
  simp only [fn_r04_keywords, go_sem, Nat.reduceEqDiff, reduceCtorEq, Nat.reduceAdd, Nat.reduceLeDiff, Bool.false_eq_true, Nat.reduceMul, Bool.true_eq_false, Nat.reduceLT, kws]
theorem r04_Keyword_ev (s : List UInt8) : E.C r04_Keyword [.one (.str s)] (.one (.bool (kws.contains s))) := by
  refine Z.r04_Keyword _ _ ⟨Nat.le_of_ble_eq_true rfl, ?_⟩
  simp only [fn_r04_Keyword, go_sem, Nat.reduceEqDiff, reduceCtorEq, Nat.reduceAdd, Nat.reduceLeDiff, Bool.false_eq_true, Nat.reduceMul, Bool.true_eq_false, Nat.reduceLT]
  refine call_by (r04_keywords_ev Z) ?_
  simp only [go_sem, Nat.reduceEqDiff, reduceCtorEq, Nat.reduceAdd, Nat.reduceLeDiff, Bool.false_eq_true, Nat.reduceMul, Bool.true_eq_false, Nat.reduceLT]
  refine call_by (r04_Find_ev Z kws s) ?_
  simp only [go_sem, Nat.reduceEqDiff, reduceCtorEq, Nat.reduceAdd, Nat.reduceLeDiff, Bool.false_eq_true, Nat.reduceMul, Bool.true_eq_false, Nat.reduceLT, findIx_mem]
end Go.Abs
end
section
set_option linter.unusedSimpArgs false
set_option linter.unusedVariables false
set_option linter.unusedSectionVars false
namespace Go.Abs
namespace Pred
mutual
def depth : Pred → Int
  | .mk _ _ _ ks => IntKind.i64.wrap (depths 0 ks + 1)
def depths (a : Int) : List Pred → Int
  | [] => a
  | k :: ks => depths (if depth k > a then depth k else a) ks
end
theorem depths_eq (a : Int) (ks : List Pred) : depths a ks = ks.foldl (fun a k => if depth k > a then depth k else a) a := by
  induction ks generalizing a with
  | nil => simp [depths]
  | cons k ks ih => simp [depths, ih]
theorem depth_eq (p : Pred) : depth p = IntKind.i64.wrap (p.kids.foldl (fun a k => if depth k > a then depth k else a) 0 + 1) := by cases p; simp [depth, kids, depths_eq]
end Pred
/-- how many kids a kind may have -/
def kidsOf (n : Int) : Int × Int := if n == 1 || n == 2 || n == 3 then (0, 0) else if n == 4 || n == 5 then (1, 24) else if n == 9 || n == 14 then (1, 1) else (2, 2)
def kidsOk (n m : Int) : Bool := if n == 1 || n == 2 || n == 3 then m == 0 else if n == 4 || n == 5 then decide (m ≥ 1) && decide (m ≤ 24) else if n == 9 || n == 14 then m == 1 else m == 2
variable {E : AEnv} (Z : Sys E)
include Z
theorem pred_kids_ev (n : Int) : E.C pred_kids [.one (.int .i64 n)] (.tup [.one (.int .i64 (kidsOf n).1), .one (.int .i64 (kidsOf n).2)]) := by
  refine Z.pred_kids _ _ ⟨Nat.le_of_ble_eq_true rfl, ?_⟩
  cases h1 : (n == 1) <;> cases h2 : (n == 2) <;> cases h3 : (n == 3) <;> cases h4 : (n == 4) <;> cases h5 : (n == 5) <;> cases h9 : (n == 9) <;> cases h14 : (n == 14) <;>
    first
    | (exfalso; simp at *; omega)
    | simp only [fn_pred_kids, go_sem, Nat.reduceEqDiff, reduceCtorEq, Nat.reduceAdd, Nat.reduceLeDiff, Bool.false_eq_true, Nat.reduceMul, Bool.true_eq_false, Nat.reduceLT, kidsOf, h1, h2, h3, h4, h5, h9, h14]
theorem r07_kids_ev (n m : Int) : E.C r07_kids [.one (.int .i64 n), .one (.int .i64 m)] (.one (.bool (kidsOk n m))) := by
  refine Z.r07_kids _ _ ⟨Nat.le_of_ble_eq_true rfl, ?_⟩
  cases h1 : (n == 1) <;> cases h2 : (n == 2) <;> cases h3 : (n == 3) <;> cases h4 : (n == 4) <;> cases h5 : (n == 5) <;> cases h9 : (n == 9) <;> cases h14 : (n == 14) <;>
    first
    | (exfalso; simp at *; omega)
    | simp only [fn_r07_kids, go_sem, Nat.reduceEqDiff, reduceCtorEq, Nat.reduceAdd, Nat.reduceLeDiff, Bool.false_eq_true, Nat.reduceMul, Bool.true_eq_false, Nat.reduceLT, kidsOk, h1, h2, h3, h4, h5, h9, h14]
theorem pred_Depth_ev (p : Pred) : E.C pred_Depth [.agg (Pred.cells p)] (.one (.int .i64 p.depth)) := by
  induction p using Pred.ind with
  | h o s n ks ih =>
  refine Z.pred_Depth _ _ ⟨Nat.le_of_ble_eq_true rfl, ?_⟩
  rw [Pred.cells_eq, Pred.depth_eq]
  simp only [fn_pred_Depth, go_sem, Nat.reduceEqDiff, reduceCtorEq, Nat.reduceAdd, Nat.reduceLeDiff, Bool.false_eq_true, Nat.reduceMul, Bool.true_eq_false, Nat.reduceLT, Pred.kids]
  intro hlen
  refine loop_list ks (fun _ => True) (fun done rest => ⟨[(9, .d (.int .i64 done.length)), (8, .d (.int .i64 (ks.map Pred.cells).length)), (7, .d (.lst (ks.map Pred.cells))), (3, .d (.int .i64 (done.foldl (fun a k => if Pred.depth k > a then Pred.depth k else a) 0)))], [], []⟩) ?_ trivial ?_ ?_
  · exact Ent_plain (by simp only [go_sem, Nat.reduceEqDiff, reduceCtorEq, Nat.reduceAdd, Nat.reduceLeDiff, Bool.false_eq_true, Nat.reduceMul, Bool.true_eq_false, Nat.reduceLT, Int.natCast_zero, List.foldl_nil])
  · intro done k r hl _
    have hk' := ih k (by rw [hl]; simp)
    have hlt := lt_mid hl
    have hw : IntKind.i64.wrap ((done.length : Int) + 1) = ((done.length + 1 : Nat) : Int) := wrap_succ (by omega)
    have hx : (ks.map Pred.cells).getD done.length [] = Pred.cells k := by rw [hl]; exact getD_mid _ _ _ _ _
    simp only [fn_pred_Depth_L1, go_sem, Nat.reduceEqDiff, reduceCtorEq, Nat.reduceAdd, Nat.reduceLeDiff, Bool.false_eq_true, Nat.reduceMul, Bool.true_eq_false, Nat.reduceLT, hlt, hx]
    refine call_by hk' ?_
    simp only [go_sem, Nat.reduceEqDiff, reduceCtorEq, Nat.reduceAdd, Nat.reduceLeDiff, Bool.false_eq_true, Nat.reduceMul, Bool.true_eq_false, Nat.reduceLT, hw, List.length_append, List.foldl_append, List.foldl_cons, List.foldl_nil]
    exact Ent_plain (by simp only [go_sem, Nat.reduceEqDiff, reduceCtorEq, Nat.reduceAdd, Nat.reduceLeDiff, Bool.false_eq_true, Nat.reduceMul, Bool.true_eq_false, Nat.reduceLT])
  · simp only [fn_pred_Depth_L1, go_sem, Nat.reduceEqDiff, reduceCtorEq, Nat.reduceAdd, Nat.reduceLeDiff, Bool.false_eq_true, Nat.reduceMul, Bool.true_eq_false, Nat.reduceLT, forall_const]
theorem r07_Depth_ev (p : Pred) : E.C r07_Depth [.agg (Pred.cells p)] (.one (.int .i64 p.depth)) := by
  induction p using Pred.ind with
  | h o s n ks ih =>
  refine Z.r07_Depth _ _ ⟨Nat.le_of_ble_eq_true rfl, ?_⟩
  rw [Pred.cells_eq, Pred.depth_eq]
  simp only [fn_r07_Depth, go_sem, Nat.reduceEqDiff, reduceCtorEq, Nat.reduceAdd, Nat.reduceLeDiff, Bool.false_eq_true, Nat.reduceMul, Bool.true_eq_false, Nat.reduceLT, Pred.kids]
  intro hlen
  refine loop_list ks (fun _ => True) (fun done rest => ⟨[(9, .d (.int .i64 done.length)), (8, .d (.int .i64 (ks.map Pred.cells).length)), (7, .d (.lst (ks.map Pred.cells))), (3, .d (.int .i64 (done.foldl (fun a k => if Pred.depth k > a then Pred.depth k else a) 0)))], [], []⟩) ?_ trivial ?_ ?_
  · exact Ent_plain (by simp only [go_sem, Nat.reduceEqDiff, reduceCtorEq, Nat.reduceAdd, Nat.reduceLeDiff, Bool.false_eq_true, Nat.reduceMul, Bool.true_eq_false, Nat.reduceLT, Int.natCast_zero, List.foldl_nil])
  · intro done k r hl _
    have hk' := ih k (by rw [hl]; simp)
    have hlt := lt_mid hl
    have hw : IntKind.i64.wrap ((done.length : Int) + 1) = ((done.length + 1 : Nat) : Int) := wrap_succ (by omega)
    have hx : (ks.map Pred.cells).getD done.length [] = Pred.cells k := by rw [hl]; exact getD_mid _ _ _ _ _
    simp only [fn_r07_Depth_L1, go_sem, Nat.reduceEqDiff, reduceCtorEq, Nat.reduceAdd, Nat.reduceLeDiff, Bool.false_eq_true, Nat.reduceMul, Bool.true_eq_false, Nat.reduceLT, hlt, hx]
    refine call_by hk' ?_
    simp only [go_sem, Nat.reduceEqDiff, reduceCtorEq, Nat.reduceAdd, Nat.reduceLeDiff, Bool.false_eq_true, Nat.reduceMul, Bool.true_eq_false, Nat.reduceLT, hw, List.length_append, List.foldl_append, List.foldl_cons, List.foldl_nil]
    exact Ent_plain (by simp only [go_sem, Nat.reduceEqDiff, reduceCtorEq, Nat.reduceAdd, Nat.reduceLeDiff, Bool.false_eq_true, Nat.reduceMul, Bool.true_eq_false, Nat.reduceLT])
  · simp only [fn_r07_Depth_L1, go_sem, Nat.reduceEqDiff, reduceCtorEq, Nat.reduceAdd, Nat.reduceLeDiff, Bool.false_eq_true, Nat.reduceMul, Bool.true_eq_false, Nat.reduceLT, forall_const]
theorem r07_Nodes_ev (p : Pred) : E.C r07_Nodes [.agg (Pred.cells p)] (.one (.int .i64 p.nodes)) := by
  induction p using Pred.ind with
  | h o s n ks ih =>
  refine Z.r07_Nodes _ _ ⟨Nat.le_of_ble_eq_true rfl, ?_⟩
  rw [Pred.cells_eq, Pred.nodes_eq]
  simp only [fn_r07_Nodes, go_sem, Nat.reduceEqDiff, reduceCtorEq, Nat.reduceAdd, Nat.reduceLeDiff, Bool.false_eq_true, Nat.reduceMul, Bool.true_eq_false, Nat.reduceLT, Pred.kids]
  intro hlen
  refine loop_list ks (fun _ => True) (fun done rest => ⟨[(9, .d (.int .i64 done.length)), (8, .d (.int .i64 (ks.map Pred.cells).length)), (7, .d (.lst (ks.map Pred.cells))), (3, .d (.int .i64 (done.foldl (fun a k => IntKind.i64.wrap (a + Pred.nodes k)) 1)))], [], []⟩) ?_ trivial ?_ ?_
  · exact Ent_plain (by simp only [go_sem, Nat.reduceEqDiff, reduceCtorEq, Nat.reduceAdd, Nat.reduceLeDiff, Bool.false_eq_true, Nat.reduceMul, Bool.true_eq_false, Nat.reduceLT, Int.natCast_zero, List.foldl_nil])
  · intro done k r hl _
    have hk' := ih k (by rw [hl]; simp)
    have hlt := lt_mid hl
    have hw : IntKind.i64.wrap ((done.length : Int) + 1) = ((done.length + 1 : Nat) : Int) := wrap_succ (by omega)
    have hx : (ks.map Pred.cells).getD done.length [] = Pred.cells k := by rw [hl]; exact getD_mid _ _ _ _ _
    simp only [fn_r07_Nodes_L1, go_sem, Nat.reduceEqDiff, reduceCtorEq, Nat.reduceAdd, Nat.reduceLeDiff, Bool.false_eq_true, Nat.reduceMul, Bool.true_eq_false, Nat.reduceLT, hlt, hx]
    refine call_by hk' ?_
    simp only [go_sem, Nat.reduceEqDiff, reduceCtorEq, Nat.reduceAdd, Nat.reduceLeDiff, Bool.false_eq_true, Nat.reduceMul, Bool.true_eq_false, Nat.reduceLT, hw, List.length_append, List.foldl_append, List.foldl_cons, List.foldl_nil]
    exact Ent_plain (by simp only [go_sem, Nat.reduceEqDiff, reduceCtorEq, Nat.reduceAdd, Nat.reduceLeDiff, Bool.false_eq_true, Nat.reduceMul, Bool.true_eq_false, Nat.reduceLT])
  · simp only [fn_r07_Nodes_L1, go_sem, Nat.reduceEqDiff, reduceCtorEq, Nat.reduceAdd, Nat.reduceLeDiff, Bool.false_eq_true, Nat.reduceMul, Bool.true_eq_false, Nat.reduceLT, forall_const]
end Go.Abs
end
section
set_option linter.unusedSimpArgs false
set_option linter.unusedVariables false
set_option linter.unusedSectionVars false
namespace Go.Abs
variable {E : AEnv} (Z : Sys E)
include Z
theorem r04_Check_ev (s : List UInt8) : E.C r04_Check [.one (.str s)] (.one (.int .i64 (if isName s then 0 else 3))) := by
  refine Z.r04_Check _ _ ⟨Nat.le_of_ble_eq_true rfl, ?_⟩
  simp only [fn_r04_Check, go_sem, Nat.reduceEqDiff, reduceCtorEq, Nat.reduceAdd, Nat.reduceLeDiff, Bool.false_eq_true, Nat.reduceMul, Bool.true_eq_false, Nat.reduceLT]
  intro hlen
  cases h0 : decide ((s.length : Int) < 1) with
  | true =>
    have hz : isSized s = false := by simp only [isSized, Bool.and_eq_false_iff, decide_eq_false_iff_not]; left; simp only [decide_eq_true_eq] at h0; omega
    have hr : isName s = false := by simp only [isName, hz]; rfl
    simp only [go_sem, Nat.reduceEqDiff, reduceCtorEq, Nat.reduceAdd, Nat.reduceLeDiff, Bool.false_eq_true, Nat.reduceMul, Bool.true_eq_false, Nat.reduceLT, hr]
    refine ⟨.one (.bool false), ?_⟩
    simp only [go_sem, Nat.reduceEqDiff, reduceCtorEq, Nat.reduceAdd, Nat.reduceLeDiff, Bool.false_eq_true, Nat.reduceMul, Bool.true_eq_false, Nat.reduceLT, hr]
    refine ⟨.one (.bool false), ?_⟩
    simp only [go_sem, Nat.reduceEqDiff, reduceCtorEq, Nat.reduceAdd, Nat.reduceLeDiff, Bool.false_eq_true, Nat.reduceMul, Bool.true_eq_false, Nat.reduceLT, hr]
  | false =>
    simp only [decide_eq_false_iff_not] at h0
    have hpos' : ((0 : Int) < s.length) = True := eq_true (by omega)
    simp only [go_sem, Nat.reduceEqDiff, reduceCtorEq, Nat.reduceAdd, Nat.reduceLeDiff, Bool.false_eq_true, Nat.reduceMul, Bool.true_eq_false, Nat.reduceLT, hlen]
    cases h24 : decide ((s.length : Int) > 24) with
    | true =>
      have hz : isSized s = false := by simp only [isSized, Bool.and_eq_false_iff, decide_eq_false_iff_not]; right; simp only [decide_eq_true_eq] at h24; omega
      have hr : isName s = false := by simp only [isName, hz]; rfl
      simp only [go_sem, Nat.reduceEqDiff, reduceCtorEq, Nat.reduceAdd, Nat.reduceLeDiff, Bool.false_eq_true, Nat.reduceMul, Bool.true_eq_false, Nat.reduceLT, hr]
      refine ⟨.one (.bool false), ?_⟩
      simp only [go_sem, Nat.reduceEqDiff, reduceCtorEq, Nat.reduceAdd, Nat.reduceLeDiff, Bool.false_eq_true, Nat.reduceMul, Bool.true_eq_false, Nat.reduceLT, hr]
      refine ⟨.one (.bool false), ?_⟩
      simp only [go_sem, Nat.reduceEqDiff, reduceCtorEq, Nat.reduceAdd, Nat.reduceLeDiff, Bool.false_eq_true, Nat.reduceMul, Bool.true_eq_false, Nat.reduceLT, hr]
    | false =>
      have hz : isSized s = true := by simp only [isSized, Bool.and_eq_true, decide_eq_true_eq]; simp only [decide_eq_false_iff_not] at h24; omega
      simp only [go_sem, Nat.reduceEqDiff, reduceCtorEq, Nat.reduceAdd, Nat.reduceLeDiff, Bool.false_eq_true, Nat.reduceMul, Bool.true_eq_false, Nat.reduceLT, hpos', Int.toNat_zero]
      refine call_by (r04_small_ev Z _) ?_
      cases h1 : isSmall (s.getD 0 0).toNat with
      | false =>
        have hr : isName s = false := by simp only [isName, hz, h1]; rfl
        simp only [go_sem, Nat.reduceEqDiff, reduceCtorEq, Nat.reduceAdd, Nat.reduceLeDiff, Bool.false_eq_true, Nat.reduceMul, Bool.true_eq_false, Nat.reduceLT, hr]
        refine ⟨.one (.bool false), ?_⟩
        simp only [go_sem, Nat.reduceEqDiff, reduceCtorEq, Nat.reduceAdd, Nat.reduceLeDiff, Bool.false_eq_true, Nat.reduceMul, Bool.true_eq_false, Nat.reduceLT, hr]
      | true =>
        simp only [go_sem, Nat.reduceEqDiff, reduceCtorEq, Nat.reduceAdd, Nat.reduceLeDiff, Bool.false_eq_true, Nat.reduceMul, Bool.true_eq_false, Nat.reduceLT]
        refine call_by (r04_Keyword_ev Z s) ?_
        cases h2 : kws.contains s with
        | true =>
          have hr : isName s = false := by simp only [isName, hz, h1, h2]; rfl
          simp only [go_sem, Nat.reduceEqDiff, reduceCtorEq, Nat.reduceAdd, Nat.reduceLeDiff, Bool.false_eq_true, Nat.reduceMul, Bool.true_eq_false, Nat.reduceLT, hr]
        | false =>
          have hr : isName s = scan badName 1 (s.drop 1) := by simp only [isName, hz, h1, h2]; rfl
          have h3 : scan badName 1 (s.drop 1) = scan badName 0 s := by
            cases s with
            | nil => rfl
            | cons c t =>
              have h1 : isSmall c.toNat = true := h1
              simp [scan, badName, h1]
          rw [hr, h3]
          simp only [go_sem, Nat.reduceEqDiff, reduceCtorEq, Nat.reduceAdd, Nat.reduceLeDiff, Bool.false_eq_true, Nat.reduceMul, Bool.true_eq_false, Nat.reduceLT]
          intro _
          refine loop_list s (fun done => scan badName 0 done = true) (fun done rest => ⟨[(0, .d (.str s)), (24, .d (.int .i64 done.length)), (23, .d (.int .i64 s.length))], [], []⟩) ?_ rfl ?_ ?_
          · exact Ent_plain (by simp only [go_sem, Nat.reduceEqDiff, reduceCtorEq, Nat.reduceAdd, Nat.reduceLeDiff, Bool.false_eq_true, Nat.reduceMul, Bool.true_eq_false, Nat.reduceLT, Int.natCast_zero])
          · intro done c r hl hI
            have hlt := lt_mid hl
            have hx : s.getD done.length 0 = c := getD_mid0 _ _ _ _ hl
            have hw : IntKind.i64.wrap ((done.length : Int) + 1) = ((done.length + 1 : Nat) : Int) := wrap_succ (by omega)
            simp only [fn_r04_Check_L1, go_sem, Nat.reduceEqDiff, reduceCtorEq, Nat.reduceAdd, Nat.reduceLeDiff, Bool.false_eq_true, Nat.reduceMul, Bool.true_eq_false, Nat.reduceLT, hlt, hx]
            refine call_by (r04_small_ev Z _) ?_
            simp only [go_sem, Nat.reduceEqDiff, reduceCtorEq, Nat.reduceAdd, Nat.reduceLeDiff, Bool.false_eq_true, Nat.reduceMul, Bool.true_eq_false, Nat.reduceLT, hw, hlt, hx]
            refine call_by_g (r04_digit_ev Z _) ?_
            simp only [go_sem, Nat.reduceEqDiff, reduceCtorEq, Nat.reduceAdd, Nat.reduceLeDiff, Bool.false_eq_true, Nat.reduceMul, Bool.true_eq_false, Nat.reduceLT, hw, hlt, hx]
            cases h1 : badName done.length c.toNat with
            | false =>
              have h2 := h1
              rw [badName] at h2
              simp only [go_sem, Nat.reduceEqDiff, reduceCtorEq, Nat.reduceAdd, Nat.reduceLeDiff, Bool.false_eq_true, Nat.reduceMul, Bool.true_eq_false, Nat.reduceLT, h2, hw, List.length_append, scan_app, scan, hI, h1, Nat.zero_add]
              exact Ent_plain (by simp only [go_sem, Nat.reduceEqDiff, reduceCtorEq, Nat.reduceAdd, Nat.reduceLeDiff, Bool.false_eq_true, Nat.reduceMul, Bool.true_eq_false, Nat.reduceLT])
            | true =>
              have h2 := h1
              rw [badName] at h2
              simp only [go_sem, Nat.reduceEqDiff, reduceCtorEq, Nat.reduceAdd, Nat.reduceLeDiff, Bool.false_eq_true, Nat.reduceMul, Bool.true_eq_false, Nat.reduceLT, h2, hl, scan_app, scan, h1, Nat.zero_add]
          · intro hI
            simp only [fn_r04_Check_L1, go_sem, Nat.reduceEqDiff, reduceCtorEq, Nat.reduceAdd, Nat.reduceLeDiff, Bool.false_eq_true, Nat.reduceMul, Bool.true_eq_false, Nat.reduceLT, hI]
end Go.Abs
end
section
set_option linter.unusedSimpArgs false
set_option linter.unusedVariables false
set_option linter.unusedSectionVars false
namespace Go.Abs
variable {E : AEnv} (Z : Sys E)
include Z
theorem r04_Title_ev (s : List UInt8) : E.C r04_Title [.one (.str s)] (.one (.int .i64 (if isTitle s then 0 else 3))) := by
  refine Z.r04_Title _ _ ⟨Nat.le_of_ble_eq_true rfl, ?_⟩
  simp only [fn_r04_Title, go_sem, Nat.reduceEqDiff, reduceCtorEq, Nat.reduceAdd, Nat.reduceLeDiff, Bool.false_eq_true, Nat.reduceMul, Bool.true_eq_false, Nat.reduceLT]
  intro hlen
  cases h0 : decide ((s.length : Int) < 1) with
  | true =>
    have hz : isSized s = false := by simp only [isSized, Bool.and_eq_false_iff, decide_eq_false_iff_not]; left; simp only [decide_eq_true_eq] at h0; omega
    have hr : isTitle s = false := by simp only [isTitle, hz]; rfl
    simp only [go_sem, Nat.reduceEqDiff, reduceCtorEq, Nat.reduceAdd, Nat.reduceLeDiff, Bool.false_eq_true, Nat.reduceMul, Bool.true_eq_false, Nat.reduceLT, hr]
    refine ⟨.one (.bool false), ?_⟩
    simp only [go_sem, Nat.reduceEqDiff, reduceCtorEq, Nat.reduceAdd, Nat.reduceLeDiff, Bool.false_eq_true, Nat.reduceMul, Bool.true_eq_false, Nat.reduceLT, hr]
  | false =>
    simp only [decide_eq_false_iff_not] at h0
    have hpos' : ((0 : Int) < s.length) = True := eq_true (by omega)
    simp only [go_sem, Nat.reduceEqDiff, reduceCtorEq, Nat.reduceAdd, Nat.reduceLeDiff, Bool.false_eq_true, Nat.reduceMul, Bool.true_eq_false, Nat.reduceLT, hlen]
    cases h24 : decide ((s.length : Int) > 24) with
    | true =>
      have hz : isSized s = false := by simp only [isSized, Bool.and_eq_false_iff, decide_eq_false_iff_not]; right; simp only [decide_eq_true_eq] at h24; omega
      have hr : isTitle s = false := by simp only [isTitle, hz]; rfl
      simp only [go_sem, Nat.reduceEqDiff, reduceCtorEq, Nat.reduceAdd, Nat.reduceLeDiff, Bool.false_eq_true, Nat.reduceMul, Bool.true_eq_false, Nat.reduceLT, hr]
      refine ⟨.one (.bool false), ?_⟩
      simp only [go_sem, Nat.reduceEqDiff, reduceCtorEq, Nat.reduceAdd, Nat.reduceLeDiff, Bool.false_eq_true, Nat.reduceMul, Bool.true_eq_false, Nat.reduceLT, hr]
    | false =>
      have hz : isSized s = true := by simp only [isSized, Bool.and_eq_true, decide_eq_true_eq]; simp only [decide_eq_false_iff_not] at h24; omega
      simp only [go_sem, Nat.reduceEqDiff, reduceCtorEq, Nat.reduceAdd, Nat.reduceLeDiff, Bool.false_eq_true, Nat.reduceMul, Bool.true_eq_false, Nat.reduceLT, hpos', Int.toNat_zero]
      refine call_by (r04_capital_ev Z _) ?_
      cases h1 : isCapital (s.getD 0 0).toNat with
      | false =>
        have hr : isTitle s = false := by simp only [isTitle, hz, h1]; rfl
        simp only [go_sem, Nat.reduceEqDiff, reduceCtorEq, Nat.reduceAdd, Nat.reduceLeDiff, Bool.false_eq_true, Nat.reduceMul, Bool.true_eq_false, Nat.reduceLT, hr]
      | true =>
        cases e1 : (s == [73, 110, 116]) <;> cases e2 : (s == [66, 111, 111, 108]) <;> cases e3 : (s == [67, 101, 108, 108]) <;> cases e4 : (s == [70, 117, 110])
        case false.false.false.false =>
          have hr : isTitle s = s.all fun c => alnum c.toNat := by simp only [isTitle, hz, h1, bne, e1, e2, e3, e4]; simp
          rw [hr]
          simp only [go_sem, Nat.reduceEqDiff, reduceCtorEq, Nat.reduceAdd, Nat.reduceLeDiff, Bool.false_eq_true, Nat.reduceMul, Bool.true_eq_false, Nat.reduceLT, e1, e2, e3, e4]
          intro _
          refine loop_list s (fun done => done.all (fun c => alnum c.toNat) = true) (fun done rest => ⟨[(0, .d (.str s)), (36, .d (.int .i64 done.length)), (35, .d (.int .i64 s.length))], [], []⟩) ?_ rfl ?_ ?_
          · exact Ent_plain (by simp only [go_sem, Nat.reduceEqDiff, reduceCtorEq, Nat.reduceAdd, Nat.reduceLeDiff, Bool.false_eq_true, Nat.reduceMul, Bool.true_eq_false, Nat.reduceLT, Int.natCast_zero])
          · intro done c r hl hI
            have hlt := lt_mid hl
            have hx : s.getD done.length 0 = c := getD_mid0 _ _ _ _ hl
            have hw : IntKind.i64.wrap ((done.length : Int) + 1) = ((done.length + 1 : Nat) : Int) := wrap_succ (by omega)
            simp only [fn_r04_Title_L1, go_sem, Nat.reduceEqDiff, reduceCtorEq, Nat.reduceAdd, Nat.reduceLeDiff, Bool.false_eq_true, Nat.reduceMul, Bool.true_eq_false, Nat.reduceLT, hlt, hx]
            refine call_by (r04_small_ev Z _) ?_
            simp only [go_sem, Nat.reduceEqDiff, reduceCtorEq, Nat.reduceAdd, Nat.reduceLeDiff, Bool.false_eq_true, Nat.reduceMul, Bool.true_eq_false, Nat.reduceLT, hw, hlt, hx]
            refine call_by_g (r04_capital_ev Z _) ?_
            simp only [go_sem, Nat.reduceEqDiff, reduceCtorEq, Nat.reduceAdd, Nat.reduceLeDiff, Bool.false_eq_true, Nat.reduceMul, Bool.true_eq_false, Nat.reduceLT, hw, hlt, hx]
            refine call_by_g (r04_digit_ev Z _) ?_
            simp only [go_sem, Nat.reduceEqDiff, reduceCtorEq, Nat.reduceAdd, Nat.reduceLeDiff, Bool.false_eq_true, Nat.reduceMul, Bool.true_eq_false, Nat.reduceLT, hw, hlt, hx]
            cases h1 : (!isSmall c.toNat && !isCapital c.toNat && !isDigit c.toNat) with
            | false =>
              have hc : alnum c.toNat = true := by rw [alnum, h1]; rfl
              simp only [go_sem, Nat.reduceEqDiff, reduceCtorEq, Nat.reduceAdd, Nat.reduceLeDiff, Bool.false_eq_true, Nat.reduceMul, Bool.true_eq_false, Nat.reduceLT, hw, List.length_append, List.all_append, List.all_cons, List.all_nil, hI, hc]
              exact Ent_plain (by simp only [go_sem, Nat.reduceEqDiff, reduceCtorEq, Nat.reduceAdd, Nat.reduceLeDiff, Bool.false_eq_true, Nat.reduceMul, Bool.true_eq_false, Nat.reduceLT])
            | true =>
              have hc : alnum c.toNat = false := by rw [alnum, h1]; rfl
              simp only [go_sem, Nat.reduceEqDiff, reduceCtorEq, Nat.reduceAdd, Nat.reduceLeDiff, Bool.false_eq_true, Nat.reduceMul, Bool.true_eq_false, Nat.reduceLT, hl, List.all_append, List.all_cons, hc]
          · intro hI
            simp only [fn_r04_Title_L1, go_sem, Nat.reduceEqDiff, reduceCtorEq, Nat.reduceAdd, Nat.reduceLeDiff, Bool.false_eq_true, Nat.reduceMul, Bool.true_eq_false, Nat.reduceLT, hI]
        all_goals
          have hr : isTitle s = false := by simp only [isTitle, hz, h1, bne, e1, e2, e3, e4]; simp
          simp only [go_sem, Nat.reduceEqDiff, reduceCtorEq, Nat.reduceAdd, Nat.reduceLeDiff, Bool.false_eq_true, Nat.reduceMul, Bool.true_eq_false, Nat.reduceLT, hr, e1, e2, e3, e4]
end Go.Abs
end
section
set_option linter.unusedSimpArgs false
set_option linter.unusedVariables false
set_option linter.unusedSectionVars false
namespace Go.Abs
def alnum2 (n : Int) : Bool := isSmall n || isCapital n || isDigit n
def wordc2 (n : Int) : Bool := isSmall n || isDigit n || n == 95
theorem alnum_eq (n : Int) : alnum n = alnum2 n := by simp only [alnum, alnum2]; cases isSmall n <;> cases isCapital n <;> cases isDigit n <;> rfl
theorem scan_wordc : ∀ (s : List UInt8) (i : Nat), scan badWord (i + 1) s = s.all fun c => wordc2 c.toNat
  | [], _ => rfl
  | c :: s, i => by
    have h0 : (((i + 1 : Nat) : Int) == 0) = false := by simp; omega
    simp only [scan, List.all_cons, scan_wordc s (i + 1), badWord, wordc2, h0, bne]
    cases isSmall c.toNat <;> cases isDigit c.toNat <;> cases ((c.toNat : Int) == 95) <;> rfl
theorem scan_word (c : UInt8) (s : List UInt8) : scan badWord 0 (c :: s) = (isSmall c.toNat && (c :: s).all fun c => wordc2 c.toNat) := by
  simp only [scan, scan_wordc, badWord, List.all_cons, wordc2, Int.natCast_zero, beq_self_eq_true, Bool.true_or, Bool.and_true, Bool.not_not]
  cases isSmall c.toNat <;> simp
variable {E : AEnv} (Z : Sys E)
include Z
theorem r04_part_ev (s : List UInt8) : E.C r04_part [.one (.str s)] (.one (.bool (okPart s))) := by
  refine Z.r04_part _ _ ⟨Nat.le_of_ble_eq_true rfl, ?_⟩
  simp only [fn_r04_part, go_sem, Nat.reduceEqDiff, reduceCtorEq, Nat.reduceAdd, Nat.reduceLeDiff, Bool.false_eq_true, Nat.reduceMul, Bool.true_eq_false, Nat.reduceLT]
  intro hlen
  cases h0 : decide ((s.length : Int) < 1) with
  | true =>
    have hz : isSized s = false := by simp only [isSized, Bool.and_eq_false_iff, decide_eq_false_iff_not]; left; simp only [decide_eq_true_eq] at h0; omega
    have hr : okPart s = false := by simp only [okPart, hz]; rfl
    simp only [go_sem, Nat.reduceEqDiff, reduceCtorEq, Nat.reduceAdd, Nat.reduceLeDiff, Bool.false_eq_true, Nat.reduceMul, Bool.true_eq_false, Nat.reduceLT, hr]
  | false =>
    simp only [decide_eq_false_iff_not] at h0
    have hpos' : ((0 : Int) < s.length) = True := eq_true (by omega)
    simp only [go_sem, Nat.reduceEqDiff, reduceCtorEq, Nat.reduceAdd, Nat.reduceLeDiff, Bool.false_eq_true, Nat.reduceMul, Bool.true_eq_false, Nat.reduceLT, hlen]
    cases h24 : decide ((s.length : Int) > 24) with
    | true =>
      have hz : isSized s = false := by simp only [isSized, Bool.and_eq_false_iff, decide_eq_false_iff_not]; right; simp only [decide_eq_true_eq] at h24; omega
      have hr : okPart s = false := by simp only [okPart, hz]; rfl
      simp only [go_sem, Nat.reduceEqDiff, reduceCtorEq, Nat.reduceAdd, Nat.reduceLeDiff, Bool.false_eq_true, Nat.reduceMul, Bool.true_eq_false, Nat.reduceLT, hr]
    | false =>
      have hz : isSized s = true := by simp only [isSized, Bool.and_eq_true, decide_eq_true_eq]; simp only [decide_eq_false_iff_not] at h24; omega
      have hr : okPart s = ((s.all fun c => alnum2 c.toNat) || (isSmall (s.getD 0 0).toNat && s.all fun c => wordc2 c.toNat)) := by
        obtain ⟨c0, t, rfl⟩ : ∃ c0 t, s = c0 :: t := by cases s with | nil => simp at h0 | cons c t => exact ⟨c, t, rfl⟩
        simp only [okPart, hz, scan_word, alnum_eq, List.getD_cons_zero]
        cases ((c0 :: t).all fun c => alnum2 c.toNat) <;> cases (isSmall c0.toNat && (c0 :: t).all fun c => wordc2 c.toNat) <;> rfl
      simp only [go_sem, Nat.reduceEqDiff, reduceCtorEq, Nat.reduceAdd, Nat.reduceLeDiff, Bool.false_eq_true, Nat.reduceMul, Bool.true_eq_false, Nat.reduceLT, hpos', Int.toNat_zero]
      refine call_by (r04_small_ev Z _) ?_
      simp only [go_sem, Nat.reduceEqDiff, reduceCtorEq, Nat.reduceAdd, Nat.reduceLeDiff, Bool.false_eq_true, Nat.reduceMul, Bool.true_eq_false, Nat.reduceLT, hr]
      intro _
      generalize isSmall (s.getD 0 0).toNat = w0
      refine loop_list s (fun _ => True) (fun done rest => ⟨[(0, .d (.str s)), (19, .d (.int .i64 done.length)), (18, .d (.int .i64 s.length)), (3, .d (.bool (done.all fun c => alnum2 c.toNat))), (4, .d (.bool (w0 && done.all fun c => wordc2 c.toNat)))], [], []⟩) ?_ trivial ?_ ?_
      · exact Ent_plain (by simp only [go_sem, Nat.reduceEqDiff, reduceCtorEq, Nat.reduceAdd, Nat.reduceLeDiff, Bool.false_eq_true, Nat.reduceMul, Bool.true_eq_false, Nat.reduceLT, Int.natCast_zero, List.all_nil])
      · intro done c r hl _
        have hlt := lt_mid hl
        have hx : s.getD done.length 0 = c := getD_mid0 _ _ _ _ hl
        have hw : IntKind.i64.wrap ((done.length : Int) + 1) = ((done.length + 1 : Nat) : Int) := wrap_succ (by omega)
        simp only [fn_r04_part_L1, go_sem, Nat.reduceEqDiff, reduceCtorEq, Nat.reduceAdd, Nat.reduceLeDiff, Bool.false_eq_true, Nat.reduceMul, Bool.true_eq_false, Nat.reduceLT, hlt, hx]
        refine call_by_g (r04_small_ev Z _) ?_
        simp only [go_sem, Nat.reduceEqDiff, reduceCtorEq, Nat.reduceAdd, Nat.reduceLeDiff, Bool.false_eq_true, Nat.reduceMul, Bool.true_eq_false, Nat.reduceLT, hw, hlt, hx]
        refine call_by_g (r04_capital_ev Z _) ?_
        simp only [go_sem, Nat.reduceEqDiff, reduceCtorEq, Nat.reduceAdd, Nat.reduceLeDiff, Bool.false_eq_true, Nat.reduceMul, Bool.true_eq_false, Nat.reduceLT, hw, hlt, hx]
        refine ⟨by simp +contextual, ?_⟩
        refine call_by_g (r04_digit_ev Z _) ?_
        simp only [go_sem, Nat.reduceEqDiff, reduceCtorEq, Nat.reduceAdd, Nat.reduceLeDiff, Bool.false_eq_true, Nat.reduceMul, Bool.true_eq_false, Nat.reduceLT, hw, hlt, hx]
        refine ⟨by simp +contextual, ?_⟩
        refine call_by_g (r04_small_ev Z _) ?_
        simp only [go_sem, Nat.reduceEqDiff, reduceCtorEq, Nat.reduceAdd, Nat.reduceLeDiff, Bool.false_eq_true, Nat.reduceMul, Bool.true_eq_false, Nat.reduceLT, hw, hlt, hx]
        refine call_by_g (r04_digit_ev Z _) ?_
        simp only [go_sem, Nat.reduceEqDiff, reduceCtorEq, Nat.reduceAdd, Nat.reduceLeDiff, Bool.false_eq_true, Nat.reduceMul, Bool.true_eq_false, Nat.reduceLT, hw, hlt, hx, List.length_append, List.all_append, List.all_cons, List.all_nil]
        refine ⟨by simp +contextual, by simp +contextual, Ent_plain (by simp only [go_sem, Nat.reduceEqDiff, reduceCtorEq, Nat.reduceAdd, Nat.reduceLeDiff, Bool.false_eq_true, Nat.reduceMul, Bool.true_eq_false, Nat.reduceLT, List.length_append, List.all_append, List.all_cons, List.all_nil, alnum2, wordc2, Bool.and_assoc])⟩
      · intro _
        simp only [fn_r04_part_L1, go_sem, Nat.reduceEqDiff, reduceCtorEq, Nat.reduceAdd, Nat.reduceLeDiff, Bool.false_eq_true, Nat.reduceMul, Bool.true_eq_false, Nat.reduceLT]
        cases (s.all fun c => alnum2 c.toNat) <;> simp
end Go.Abs
end
section
set_option linter.unusedSimpArgs false
set_option linter.unusedVariables false
set_option linter.unusedSectionVars false
namespace Go.Abs
/-- the parts of a text, with a point between -/
structure PSt where
  out : List (List UInt8)
  beg : Nat
  pre : List UInt8
def PSt.step (p : PSt) (c : UInt8) : PSt := if c.toNat = 46 then ⟨p.out ++ [p.pre.drop p.beg], p.pre.length + 1, p.pre ++ [c]⟩ else ⟨p.out, p.beg, p.pre ++ [c]⟩
def pst (l : List UInt8) : PSt := l.foldl PSt.step ⟨[], 0, []⟩
theorem pst_app (l : List UInt8) (c : UInt8) : pst (l ++ [c]) = (pst l).step c := by simp [pst]
theorem pst_pre : ∀ (l : List UInt8) (p : PSt), (l.foldl PSt.step p).pre = p.pre ++ l
  | [], p => by simp
  | c :: l, p => by
    rw [List.foldl_cons, pst_pre l]
    unfold PSt.step
    split <;> simp
theorem pst_beg : ∀ (l : List UInt8) (p : PSt), p.beg ≤ p.pre.length → (l.foldl PSt.step p).beg ≤ p.pre.length + l.length
  | [], p, h => by simpa using h
  | c :: l, p, h => by
    rw [List.foldl_cons]
    have := pst_beg l (p.step c) (by unfold PSt.step; split <;> simp <;> omega)
    have e : (p.step c).pre.length = p.pre.length + 1 := by unfold PSt.step; split <;> simp
    rw [e] at this
    simp only [List.length_cons]; omega
theorem pst_out : ∀ (l : List UInt8) (p : PSt), (l.foldl PSt.step p).out.length ≤ p.out.length + l.length
  | [], p => by simp
  | c :: l, p => by
    rw [List.foldl_cons]
    have := pst_out l (p.step c)
    have e : (p.step c).out.length ≤ p.out.length + 1 := by unfold PSt.step; split <;> simp
    simp only [List.length_cons]; omega
def partsOf (s : List UInt8) : List (List UInt8) := (pst s).out ++ [s.drop (pst s).beg]
variable {E : AEnv} (Z : Sys E)
include Z
theorem r04_parts_ev (s : List UInt8) (hs : s.length ≤ 1000) : E.C r04_parts [.one (.str s)] (.one (.lst ((partsOf s).map fun k => [.str k]))) := by
  refine Z.r04_parts _ _ ⟨Nat.le_of_ble_eq_true rfl, ?_⟩
  simp only [fn_r04_parts, go_sem, Nat.reduceEqDiff, reduceCtorEq, Nat.reduceAdd, Nat.reduceLeDiff, Bool.false_eq_true, Nat.reduceMul, Bool.true_eq_false, Nat.reduceLT]
  intro hlen
  refine loop_list s (fun _ => True) (fun done rest => ⟨[(0, .d (.str s)), (8, .d (.int .i64 done.length)), (7, .d (.int .i64 s.length)), (3, .own 3 1 ((pst done).out.map fun k => [.str k])), (4, .d (.int .i64 (pst done).beg))], [], [(3, true)]⟩) ?_ trivial ?_ ?_
  · exact Ent_conv 3 3 1 [] [(3, 3)] rfl (by simp) rfl (by simp only [Ent0, go_sem, Nat.reduceEqDiff, reduceCtorEq, Nat.reduceAdd, Nat.reduceLeDiff, Bool.false_eq_true, Nat.reduceMul, Bool.true_eq_false, Nat.reduceLT, List.contains_nil, pst, List.foldl_nil, Int.natCast_zero])
  · intro done c r hl _
    have hlt := lt_mid hl
    have hx : s.getD done.length 0 = c := getD_mid0 _ _ _ _ hl
    have hw : IntKind.i64.wrap ((done.length : Int) + 1) = ((done.length + 1 : Nat) : Int) := wrap_succ (by omega)
    have hpre : (pst done).pre = done := by simp [pst, pst_pre]
    have hbeg : (pst done).beg ≤ done.length := by simpa [pst] using pst_beg done ⟨[], 0, []⟩ (Nat.le_refl _)
    have hout : (pst done).out.length ≤ done.length := by simpa [pst] using pst_out done ⟨[], 0, []⟩
    have htake : s.take done.length = done := by rw [hl]; simp
    simp only [fn_r04_parts_L1, go_sem, Nat.reduceEqDiff, reduceCtorEq, Nat.reduceAdd, Nat.reduceLeDiff, Bool.false_eq_true, Nat.reduceMul, Bool.true_eq_false, Nat.reduceLT, hlt, hx]
    by_cases hc : c.toNat = 46
    · have h1 : (((c.toNat : Nat) : Int) == 46) = true := by simp [hc]
      simp only [go_sem, Nat.reduceEqDiff, reduceCtorEq, Nat.reduceAdd, Nat.reduceLeDiff, Bool.false_eq_true, Nat.reduceMul, Bool.true_eq_false, Nat.reduceLT, h1, hw, htake]
      have hd : done.length ≤ 1000 := by omega
      refine ⟨by omega, ⟨by simp, by omega, by omega⟩, Ent_own [(3, 21)] ?_⟩
      simp only [go_sem, Nat.reduceEqDiff, reduceCtorEq, Nat.reduceAdd, Nat.reduceLeDiff, Bool.false_eq_true, Nat.reduceMul, Bool.true_eq_false, Nat.reduceLT, pst_app, PSt.step, if_pos hc, List.length_append, List.map_append, hpre, List.contains_nil]
    · have h1 : (((c.toNat : Nat) : Int) == 46) = false := by simp; omega
      simp only [go_sem, Nat.reduceEqDiff, reduceCtorEq, Nat.reduceAdd, Nat.reduceLeDiff, Bool.false_eq_true, Nat.reduceMul, Bool.true_eq_false, Nat.reduceLT, h1, hw, pst_app, PSt.step, if_neg hc, List.length_append]
      exact Ent_own [(3, 3)] (by simp only [go_sem, Nat.reduceEqDiff, reduceCtorEq, Nat.reduceAdd, Nat.reduceLeDiff, Bool.false_eq_true, Nat.reduceMul, Bool.true_eq_false, Nat.reduceLT, List.contains_nil])
  · intro _
    have hbeg : (pst s).beg ≤ s.length := by simpa [pst] using pst_beg s ⟨[], 0, []⟩ (Nat.le_refl _)
    have hout : (pst s).out.length ≤ s.length := by simpa [pst] using pst_out s ⟨[], 0, []⟩
    simp only [fn_r04_parts_L1, go_sem, Nat.reduceEqDiff, reduceCtorEq, Nat.reduceAdd, Nat.reduceLeDiff, Bool.false_eq_true, Nat.reduceMul, Bool.true_eq_false, Nat.reduceLT]
    refine ⟨by omega, ⟨by simp, by omega, by omega⟩, ?_⟩
    simp [partsOf]
end Go.Abs
end
section
set_option linter.unusedSimpArgs false
set_option linter.unusedVariables false
set_option linter.unusedSectionVars false
namespace Go.Abs
def splitW : List UInt8 → List UInt8 → List (List UInt8)
  | acc, [] => [acc]
  | acc, c :: s => if c.toNat = 46 then acc :: splitW [] s else splitW (acc ++ [c]) s
theorem pst_split : ∀ (s : List UInt8) (p : PSt), p.beg ≤ p.pre.length → (s.foldl PSt.step p).out ++ [(p.pre ++ s).drop (s.foldl PSt.step p).beg] = p.out ++ splitW (p.pre.drop p.beg) s
  | [], p, _ => by simp [splitW]
  | c :: s, p, h => by
    have e : p.pre ++ c :: s = (p.step c).pre ++ s := by unfold PSt.step; split <;> simp
    rw [List.foldl_cons, e, pst_split s (p.step c) (by unfold PSt.step; split <;> simp <;> omega)]
    rw [splitW.eq_2]
    unfold PSt.step
    by_cases hc : c.toNat = 46
    · simp only [if_pos hc]; simp
    · simp only [if_neg hc]
      rw [List.drop_append_of_le_length h]
theorem partsOf_eq (s : List UInt8) : partsOf s = splitW [] s := by
  have := pst_split s ⟨[], 0, []⟩ (Nat.le_refl _)
  simpa [partsOf, pst] using this
theorem splitW_cut : ∀ (s acc : List UInt8), splitW acc s = (acc ++ (cutAt s).1) :: (if (cutAt s).2.2 = true then splitW [] (cutAt s).2.1 else [])
  | [], acc => by simp [splitW, cutAt]
  | c :: s, acc => by
    rw [splitW.eq_2, cutAt.eq_2]
    by_cases hc : c.toNat = 46
    · simp [hc]
    · simp only [if_neg hc]; rw [splitW_cut s]; simp
theorem parts_split (s : List UInt8) : parts s = (splitW [] s).all okPart := by
  induction hn : s.length using Nat.strongRecOn generalizing s with
  | ind n ih =>
    rw [parts, splitW_cut]
    by_cases h : (cutAt s).2.2 = true
    · have := ih _ (by rw [← hn]; exact cutAt_len s h) (cutAt s).2.1 rfl
      simp [h, this]
    · simp [h]
end Go.Abs
end
section
set_option linter.unusedSimpArgs false
set_option linter.unusedVariables false
set_option linter.unusedSectionVars false
namespace Go.Abs
theorem splitW_ne (acc s : List UInt8) : 0 < (splitW acc s).length := by rw [splitW_cut]; simp
variable {E : AEnv} (Z : Sys E)
include Z
theorem r04_Core_ev (s : List UInt8) : E.C r04_Core [.one (.str s)] (.one (.int .i64 (if isCore s then 0 else 3))) := by
  refine Z.r04_Core _ _ ⟨Nat.le_of_ble_eq_true rfl, ?_⟩
  simp only [fn_r04_Core, go_sem, Nat.reduceEqDiff, reduceCtorEq, Nat.reduceAdd, Nat.reduceLeDiff, Bool.false_eq_true, Nat.reduceMul, Bool.true_eq_false, Nat.reduceLT]
  intro hlen
  cases h0 : decide ((s.length : Int) > 120) with
  | true => simp only [go_sem, Nat.reduceEqDiff, reduceCtorEq, Nat.reduceAdd, Nat.reduceLeDiff, Bool.false_eq_true, Nat.reduceMul, Bool.true_eq_false, Nat.reduceLT, isCore, h0]
  | false =>
    have hs : s.length ≤ 1000 := by simp only [decide_eq_false_iff_not] at h0; omega
    have hp : partsOf s = (cutAt s).1 :: (if (cutAt s).2.2 = true then splitW [] (cutAt s).2.1 else []) := by rw [partsOf_eq, splitW_cut]; simp
    simp only [go_sem, Nat.reduceEqDiff, reduceCtorEq, Nat.reduceAdd, Nat.reduceLeDiff, Bool.false_eq_true, Nat.reduceMul, Bool.true_eq_false, Nat.reduceLT, isCore, h0]
    refine call_by (r04_parts_ev Z s hs) ?_
    rw [hp]
    have hq := parts_split (cutAt s).2.1
    have hne := splitW_ne [] (cutAt s).2.1
    rw [hq]
    generalize splitW [] (cutAt s).2.1 = t at *
    generalize (cutAt s).1 = a at *
    generalize (cutAt s).2.2 = m at *
    have hlast : (if m = true then t.all okPart else true) = (if m = true then t else []).all okPart := by cases m <;> rfl
    have hm : (!m) = ((((if m = true then t else []).length + 1 : Nat) : Int) == 1) := by
      cases m
      · rfl
      · have : ((((t.length + 1 : Nat) : Int)) == 1) = false := by
          rw [beq_eq_false_iff_ne]; omega
        exact this.symm
    rw [hlast, hm]
    generalize (if m = true then t else []) = u
    have hls : (∀ e ∈ [D.str a] :: u.map fun k => [D.str k], e.length = 1) = True := eq_true (by intro e he; simp only [List.mem_cons, List.mem_map] at he; rcases he with rfl | ⟨k, _, rfl⟩ <;> rfl)
    have h00 : ((0 : Int) < ((u.length + 1 : Nat) : Int)) = True := eq_true (by omega)
    simp only [go_sem, Nat.reduceEqDiff, reduceCtorEq, Nat.reduceAdd, Nat.reduceLeDiff, Bool.false_eq_true, Nat.reduceMul, Bool.true_eq_false, Nat.reduceLT, hls, h00, Int.toNat_zero]
    refine call_by (r04_Check_ev Z a) ?_
    have hcn : ((if isName a = true then (0 : Int) else 3) != 0) = !isName a := by cases isName a <;> rfl
    have hct : ((if isTitle a = true then (0 : Int) else 3) != 0) = !isTitle a := by cases isTitle a <;> rfl
    simp only [go_sem, Nat.reduceEqDiff, reduceCtorEq, Nat.reduceAdd, Nat.reduceLeDiff, Bool.false_eq_true, Nat.reduceMul, Bool.true_eq_false, Nat.reduceLT, hls, h00, Int.toNat_zero, hcn]
    refine call_by_g (r04_Title_ev Z a) ?_
    simp only [go_sem, Nat.reduceEqDiff, reduceCtorEq, Nat.reduceAdd, Nat.reduceLeDiff, Bool.false_eq_true, Nat.reduceMul, Bool.true_eq_false, Nat.reduceLT, hls, h00, Int.toNat_zero, hct]
    intro hlen2
    refine ⟨?_, ?_⟩
    · cases isName a <;> cases isTitle a <;> cases (a == [118]) <;> simp
    have h11 : ((1 : Int) ≤ ((u.length + 1 : Nat) : Int)) = True := eq_true (by omega)
    have hd : (Int.toNat 1) = 1 := rfl
    have h01 : ((0 : Int) ≤ 1) = True := eq_true (by omega)
    simp only [bne]
    by_cases hb : (!isName a && !isTitle a && (!(a == [118]) || ((u.length + 1 : Nat) : Int) == 1)) = true
    · simp only [hb, go_sem, Nat.reduceEqDiff, reduceCtorEq, Nat.reduceAdd, Nat.reduceLeDiff, Bool.false_eq_true, Nat.reduceMul, Bool.true_eq_false, Nat.reduceLT]
    · simp only [Bool.not_eq_true] at hb
      simp only [hb, go_sem, Nat.reduceEqDiff, reduceCtorEq, Nat.reduceAdd, Nat.reduceLeDiff, Bool.false_eq_true, Nat.reduceMul, Bool.true_eq_false, Nat.reduceLT, h11, hd, h01]
      intro _
      refine loop_list u (fun done => done.all okPart = true) (fun done rest => ⟨[(37, .d (.int .i64 done.length)), (36, .d (.int .i64 u.length)), (35, .d (.lst (u.map fun k => [.str k])))], [], []⟩) ?_ rfl ?_ ?_
      · exact Ent_plain (by simp only [go_sem, Nat.reduceEqDiff, reduceCtorEq, Nat.reduceAdd, Nat.reduceLeDiff, Bool.false_eq_true, Nat.reduceMul, Bool.true_eq_false, Nat.reduceLT, Int.natCast_zero])
      · intro done k r hl hI
        have hlt := lt_mid hl
        have hw : IntKind.i64.wrap ((done.length : Int) + 1) = ((done.length + 1 : Nat) : Int) := wrap_succ (by omega)
        have hx : (u.map fun k => [D.str k]).getD done.length [] = [.str k] := by rw [hl]; exact getD_mid _ _ _ _ _
        have hlu : (∀ e ∈ u.map fun k => [D.str k], e.length = 1) = True := eq_true (by intro e he; simp only [List.mem_map] at he; rcases he with ⟨k, _, rfl⟩; rfl)
        simp only [fn_r04_Core_L1, go_sem, Nat.reduceEqDiff, reduceCtorEq, Nat.reduceAdd, Nat.reduceLeDiff, Bool.false_eq_true, Nat.reduceMul, Bool.true_eq_false, Nat.reduceLT, hlt, hx, hlu]
        refine call_by (r04_part_ev Z k) ?_
        cases hk : okPart k with
        | true =>
          simp only [go_sem, Nat.reduceEqDiff, reduceCtorEq, Nat.reduceAdd, Nat.reduceLeDiff, Bool.false_eq_true, Nat.reduceMul, Bool.true_eq_false, Nat.reduceLT, hw, List.length_append, List.all_append, List.all_cons, List.all_nil, hI, hk]
          exact Ent_plain (by simp only [go_sem, Nat.reduceEqDiff, reduceCtorEq, Nat.reduceAdd, Nat.reduceLeDiff, Bool.false_eq_true, Nat.reduceMul, Bool.true_eq_false, Nat.reduceLT])
        | false => simp only [go_sem, Nat.reduceEqDiff, reduceCtorEq, Nat.reduceAdd, Nat.reduceLeDiff, Bool.false_eq_true, Nat.reduceMul, Bool.true_eq_false, Nat.reduceLT, hl, List.all_append, List.all_cons, hk]
      · intro hI
        simp only [fn_r04_Core_L1, go_sem, Nat.reduceEqDiff, reduceCtorEq, Nat.reduceAdd, Nat.reduceLeDiff, Bool.false_eq_true, Nat.reduceMul, Bool.true_eq_false, Nat.reduceLT, hI]
end Go.Abs
end
section
set_option linter.unusedSimpArgs false
set_option linter.unusedVariables false
set_option linter.unusedSectionVars false
namespace Go.Abs
def sV : List UInt8 := [118]
def sTag : List UInt8 := [116, 97, 103]
def sVal : List UInt8 := [118, 97, 108]
/-- whether the name of a node is right -/
def calledOk (o : Int) (s : List UInt8) : Bool := if o == 3 then s == sV || isCore s else if o == 4 then s == sTag || s == sVal || isCore s else if o == 5 then isCore s else true
/-- the error of a node by itself -/
def nodeErr (p : Pred) : Int :=
  if decide (p.op < 1) || decide (p.op > 18) then 1
  else if (!isOpNamed p.op && p.name != []) || (p.op != 1 && p.op != 2 && p.n != 0) || !kidsOk p.op p.kids.length then 1
  else if (p.op == 1 && !inRange p.n) || (p.op == 2 && p.n != 0 && p.n != 1) then 2
  else if !calledOk p.op p.name then 3
  else if p.op == 8 && ((p.kids.map Pred.op).getD 0 0) != 1 then 6
  else 0
variable {E : AEnv} (Z : Sys E)
include Z
theorem r07_called_ev (p : Pred) : E.C r07_called [.agg (Pred.cells p)] (.one (.bool (calledOk p.op p.name))) := by
  obtain ⟨o, s, n, ks⟩ := p
  refine Z.r07_called _ _ ⟨Nat.le_of_ble_eq_true rfl, ?_⟩
  rw [Pred.cells_eq]
  have hc : ((if isCore s = true then (0 : Int) else 3) == 0) = isCore s := by cases isCore s <;> rfl
  by_cases h3 : (o == 3) = true
  · simp only [fn_r07_called, go_sem, Nat.reduceEqDiff, reduceCtorEq, Nat.reduceAdd, Nat.reduceLeDiff, Bool.false_eq_true, Nat.reduceMul, Bool.true_eq_false, Nat.reduceLT, Pred.op, Pred.name, h3, calledOk]
    refine call_by_g (r04_Core_ev Z s) ?_
    simp only [go_sem, Nat.reduceEqDiff, reduceCtorEq, Nat.reduceAdd, Nat.reduceLeDiff, Bool.false_eq_true, Nat.reduceMul, Bool.true_eq_false, Nat.reduceLT, hc, sV]
    cases (s == [118]) <;> simp
  · simp only [Bool.not_eq_true] at h3
    by_cases h4 : (o == 4) = true
    · simp only [fn_r07_called, go_sem, Nat.reduceEqDiff, reduceCtorEq, Nat.reduceAdd, Nat.reduceLeDiff, Bool.false_eq_true, Nat.reduceMul, Bool.true_eq_false, Nat.reduceLT, Pred.op, Pred.name, h3, h4, calledOk]
      refine ⟨by simp +contextual, ?_⟩
      refine call_by_g (r04_Core_ev Z s) ?_
      simp only [go_sem, Nat.reduceEqDiff, reduceCtorEq, Nat.reduceAdd, Nat.reduceLeDiff, Bool.false_eq_true, Nat.reduceMul, Bool.true_eq_false, Nat.reduceLT, hc, sTag, sVal]
      cases (s == [116, 97, 103] || s == [118, 97, 108]) <;> simp
    · simp only [Bool.not_eq_true] at h4
      by_cases h5 : (o == 5) = true
      · simp only [fn_r07_called, go_sem, Nat.reduceEqDiff, reduceCtorEq, Nat.reduceAdd, Nat.reduceLeDiff, Bool.false_eq_true, Nat.reduceMul, Bool.true_eq_false, Nat.reduceLT, Pred.op, Pred.name, h3, h4, h5, calledOk]
        refine call_by (r04_Core_ev Z s) ?_
        simp only [go_sem, Nat.reduceEqDiff, reduceCtorEq, Nat.reduceAdd, Nat.reduceLeDiff, Bool.false_eq_true, Nat.reduceMul, Bool.true_eq_false, Nat.reduceLT, hc]
      · simp only [Bool.not_eq_true] at h5
        simp only [fn_r07_called, go_sem, Nat.reduceEqDiff, reduceCtorEq, Nat.reduceAdd, Nat.reduceLeDiff, Bool.false_eq_true, Nat.reduceMul, Bool.true_eq_false, Nat.reduceLT, Pred.op, Pred.name, h3, h4, h5, calledOk]
end Go.Abs
end
section
set_option linter.unusedSimpArgs false
set_option linter.unusedVariables false
set_option linter.unusedSectionVars false
namespace Go.Abs
/-! ## obligations under a guard -/
theorem gR1 {b : Bool} {p : Prop} : (b = true → b = true ∧ p) = (b = true → p) := by cases b <;> simp
theorem gR2 {b : Bool} : (b = true → b = true) = True := by simp
theorem gR3 {b x : Bool} : (b = true → x = true → (b && x) = true) = True := by cases b <;> cases x <;> simp
theorem gR4 {b : Bool} : (b = false → (!b) = true) = True := by cases b <;> simp
theorem gR5 {b x : Bool} : (b = true → x = false → (b && !x) = true) = True := by cases b <;> cases x <;> simp
theorem gR6 {b x : Bool} {p : Prop} : (b = true → (x = true → (b && x) = true) ∧ p) = (b = true → p) := by cases b <;> cases x <;> simp
theorem gR7 {b x : Bool} {p : Prop} : (b = true → (x = false → (b && !x) = true) ∧ p) = (b = true → p) := by cases b <;> cases x <;> simp
theorem gR8 {b x : Bool} : ((b && x) = true → b = true) = True := by cases b <;> cases x <;> simp
theorem gR9 {b x : Bool} {p : Prop} : ((b && x) = true → b = true ∧ p) = ((b && x) = true → p) := by cases b <;> cases x <;> simp
theorem gR10 {b x : Bool} {p : Prop} : ((b && x) = true → x = true ∧ p) = ((b && x) = true → p) := by cases b <;> cases x <;> simp
theorem gR11 {b x : Bool} : ((b && x) = true → x = true) = True := by cases b <;> cases x <;> simp
theorem gR12 {b : Bool} {p : Prop} : (b = true → (b && b) = true ∧ p) = (b = true → p) := by cases b <;> simp
theorem gR13 {b x : Bool} {p : Prop} : ((b && x) = true → (b && (b && x)) = true ∧ p) = ((b && x) = true → p) := by cases b <;> cases x <;> simp
theorem gR14 {b x : Bool} {p : Prop} : ((b && x) = true → (b && x && b) = true ∧ p) = ((b && x) = true → p) := by cases b <;> cases x <;> simp
theorem gR15 {b x : Bool} : ((b && x) = true → (b && (b && x)) = true) = True := by cases b <;> cases x <;> simp
attribute [go_sem] gR1 gR2 gR3 gR4 gR5 gR6 gR7 gR8 gR9 gR10 gR11 gR12 gR13 gR14 gR15 Int.cast_ofNat_Int Int.natCast_one List.getD_nil Int.natCast_zero false_and and_false Int.toNat_zero Int.toNat_one Bool.false_eq_true Bool.true_eq_false
theorem call_g {E : AEnv} {f : FuncId} {args : List CV} {r : CV} {b : Bool} {g : Option Bool} {d : Option Nat} {K : St → Prop} {st : St} (h : E.C f args r) (hk : callK g d K st r) : ∃ r, (b = true → E.C f args r) ∧ callK g d K st r := ⟨r, fun _ => h, hk⟩
theorem call_gi {E : AEnv} {f : FuncId} {args : List CV} {r : CV} {b : Bool} {g : Option Bool} {d : Option Nat} {K : St → Prop} {st : St} (h : b = true → E.C f args r) (hk : callK g d K st r) : ∃ r, (b = true → E.C f args r) ∧ callK g d K st r := ⟨r, h, hk⟩
theorem call_no {E : AEnv} {f : FuncId} {args : List CV} (r : CV) {g : Option Bool} {d : Option Nat} {K : St → Prop} {st : St} (hk : callK g d K st r) : ∃ r, (False → E.C f args r) ∧ callK g d K st r := ⟨r, fun h => h.elim, hk⟩
end Go.Abs
end
section
set_option linter.unusedSimpArgs false
set_option linter.unusedVariables false
set_option linter.unusedSectionVars false
namespace Go.Abs
/-- the error of a node by itself -/
def nodeE (o : Int) (s : List UInt8) (n : Int) (ks : List Pred) : Int :=
  if decide (o < 1) || decide (o > 18) || !s == [] && !isOpNamed o || n != 0 && !(o == 1 || o == 2) || !kidsOk o ks.length then 1
  else if o == 1 && !inRange n || o == 2 && (decide (n < 0) || decide (n > 1)) then 2
  else if !calledOk o s then 3
  else if o == 8 && ((ks.map Pred.op).getD 0 0) != 1 then 6
  else 0
theorem mul_kids {o : Int} {s : List UInt8} {n : Int} {ks : List Pred} (h : ¬ (decide (o < 1) || decide (o > 18) || !s == [] && !isOpNamed o || n != 0 && !(o == 1 || o == 2) || !kidsOk o ks.length) = true) (ho : (o == 8) = true) : ∃ a b, ks = [a, b] := by
  have ho : o = 8 := by simpa using ho
  subst ho
  have h2 : kidsOk 8 (ks.length : Int) = true := by
    simp only [Bool.or_eq_true, not_or] at h
    simpa using h.2
  have h3 : ks.length = 2 := by simp [kidsOk] at h2; omega
  match ks, h3 with
  | [a, b], _ => exact ⟨a, b, rfl⟩
variable {E : AEnv} (Z : Sys E)
include Z
theorem r07_node_ev (o : Int) (s : List UInt8) (n : Int) (ks : List Pred) : E.C r07_node [.agg (Pred.cells (.mk o s n ks))] (.one (.int .i64 (nodeE o s n ks))) := by
  have hcal := r07_called_ev Z (.mk o s n ks)
  refine Z.r07_node _ _ ⟨Nat.le_of_ble_eq_true rfl, ?_⟩
  rw [Pred.cells_eq] at *
  generalize hR : nodeE o s n ks = R
  simp only [fn_r07_node, go_sem, Nat.reduceEqDiff, reduceCtorEq, Nat.reduceAdd, Nat.reduceLeDiff, Nat.reduceMul, Nat.reduceLT, Int.reduceToNat, Int.reduceLT, Int.reduceLE, Int.reduceEq, Nat.reduceSub, Pred.op, Pred.name, Pred.n, Pred.kids] at hcal ⊢
  refine call_g (r07_named_ev Z o) ?_
  simp only [go_sem, Nat.reduceEqDiff, reduceCtorEq, Nat.reduceAdd, Nat.reduceLeDiff, Nat.reduceMul, Nat.reduceLT, Int.reduceToNat, Int.reduceLT, Int.reduceLE, Int.reduceEq, Nat.reduceSub]
  intro hlen
  refine call_g (r07_kids_ev Z o _) ?_
  simp only [go_sem, Nat.reduceEqDiff, reduceCtorEq, Nat.reduceAdd, Nat.reduceLeDiff, Nat.reduceMul, Nat.reduceLT, Int.reduceToNat, Int.reduceLT, Int.reduceLE, Int.reduceEq, Nat.reduceSub]
  split
  · rename_i h1; rw [← hR, nodeE, if_pos h1]
  rename_i h1
  refine call_g (r01_In_ev Z n) ?_
  simp only [go_sem, Nat.reduceEqDiff, reduceCtorEq, Nat.reduceAdd, Nat.reduceLeDiff, Nat.reduceMul, Nat.reduceLT, Int.reduceToNat, Int.reduceLT, Int.reduceLE, Int.reduceEq, Nat.reduceSub]
  split
  · rename_i h2; rw [← hR, nodeE, if_neg h1, if_pos h2]
  rename_i h2
  refine call_by hcal ?_
  simp only [go_sem, Nat.reduceEqDiff, reduceCtorEq, Nat.reduceAdd, Nat.reduceLeDiff, Nat.reduceMul, Nat.reduceLT, Int.reduceToNat, Int.reduceLT, Int.reduceLE, Int.reduceEq, Nat.reduceSub]
  split
  · rename_i h3; rw [← hR, nodeE, if_neg h1, if_neg h2, if_pos h3]
  rename_i h3
  by_cases ho : (o == 8) = true
  · obtain ⟨a, b, rfl⟩ := mul_kids h1 ho
    simp only [go_sem, Nat.reduceEqDiff, reduceCtorEq, Nat.reduceAdd, Nat.reduceLeDiff, Nat.reduceMul, Nat.reduceLT, Int.reduceToNat, Int.reduceLT, Int.reduceLE, Int.reduceEq, Nat.reduceSub, ho, Pred.cells_eq a]
    rw [← hR, nodeE, if_neg h1, if_neg h2, if_neg h3, ho]
    simp only [go_sem, Nat.reduceEqDiff, reduceCtorEq, Nat.reduceAdd, Nat.reduceLeDiff, Nat.reduceMul, Nat.reduceLT, Int.reduceToNat, Int.reduceLT, Int.reduceLE, Int.reduceEq, Nat.reduceSub]
    cases (a.op != 1) <;> rfl
  · rw [Bool.not_eq_true] at ho
    cases ks <;> (simp only [go_sem, Nat.reduceEqDiff, reduceCtorEq, Nat.reduceAdd, Nat.reduceLeDiff, Nat.reduceMul, Nat.reduceLT, Int.reduceToNat, Int.reduceLT, Int.reduceLE, Int.reduceEq, Nat.reduceSub, ho, Pred.cells_eq]; rw [← hR, nodeE, if_neg h1, if_neg h2, if_neg h3, ho]; rfl)
end Go.Abs
end
section
set_option linter.unusedSimpArgs false
set_option linter.unusedVariables false
set_option linter.unusedSectionVars false
namespace Go.Abs
/-- the error of a node by itself, as the program computes it -/
def nodeP (o : Int) (s : List UInt8) (n : Int) (ks : List Pred) : Int :=
  if decide (o < 1) || decide (o > 18) then 1
  else if !isOpNamed o && !s == [] || o != 1 && o != 2 && n != 0 || decide ((ks.length : Int) < (kidsOf o).1) || decide ((ks.length : Int) > (kidsOf o).2) then 1
  else if o == 1 && !inRange n || o == 2 && n != 0 && n != 1 then 2
  else if isOpNamed o && (if isCore s = true then (0 : Int) else 3) != 0 && !(o == 3 && s == sV) && !(o == 4 && (s == sTag || s == sVal)) then 3
  else if o == 8 && ((ks.map Pred.op).getD 0 0) != 1 then 6
  else 0
theorem nodeP_rest {o : Int} {s : List UInt8} {n : Int} {ks : List Pred} (h1 : ¬(decide (o < 1) || decide (o > 18)) = true)
    (h2 : ¬(!isOpNamed o && !s == [] || o != 1 && o != 2 && n != 0 || decide ((ks.length : Int) < (kidsOf o).1) || decide ((ks.length : Int) > (kidsOf o).2)) = true) (h3 : ¬(o == 1 && !inRange n || o == 2 && n != 0 && n != 1) = true) :
    nodeP o s n ks = if isOpNamed o && (if isCore s = true then (0 : Int) else 3) != 0 && (!(o == 3 && s == sV) && !(o == 4 && (s == sTag || s == sVal))) then 3 else if o == 8 && ((ks.map Pred.op).getD 0 0) != 1 then 6 else 0 := by
  rw [nodeP, if_neg h1, if_neg h2, if_neg h3, Bool.and_assoc]
theorem kidsOk_eq (o : Int) (m : Nat) : (decide ((m : Int) < (kidsOf o).1) || decide ((m : Int) > (kidsOf o).2)) = !kidsOk o m := by
  unfold kidsOf kidsOk
  split
  · rw [Bool.eq_iff_iff]; simp; omega
  · split
    · rw [Bool.eq_iff_iff]; simp
    · split
      · rw [Bool.eq_iff_iff]; simp; omega
      · rw [Bool.eq_iff_iff]; simp; omega
theorem fin3 {A B : Bool} {R t x : Int} {p : Prop} (hk : R = if A && B then x else t) (hp : t = R → p) : if A = true then (if B = true then x = R else p) else p := by
  cases A <;> cases B <;> simp_all
theorem nodeP_eq (o : Int) (s : List UInt8) (n : Int) (ks : List Pred) : nodeP o s n ks = nodeE o s n ks := by
  unfold nodeP nodeE
  have e2 : (n != 0 && !(o == 1 || o == 2)) = (o != 1 && o != 2 && n != 0) := by
    simp only [bne]; cases (o == 1) <;> cases (o == 2) <;> cases (n == 0) <;> rfl
  have e3 : (decide (n < 0) || decide (n > 1)) = (n != 0 && n != 1) := by
    rw [Bool.eq_iff_iff]; simp; omega
  have e4 : (isOpNamed o && (if isCore s = true then (0 : Int) else 3) != 0 && !(o == 3 && s == sV) && !(o == 4 && (s == sTag || s == sVal))) = !calledOk o s := by
    unfold isOpNamed calledOk
    by_cases h3 : o = 3
    · subst h3; cases isCore s <;> cases (s == sV) <;> simp
    · by_cases h4 : o = 4
      · subst h4; cases isCore s <;> cases (s == sTag || s == sVal) <;> simp
      · by_cases h5 : o = 5
        · subst h5; cases isCore s <;> simp
        · simp [h3, h4, h5]
  rw [e4, e3, e2, Bool.and_comm (!s == []), ← kidsOk_eq, ← Bool.and_assoc]
  cases (decide (o < 1) || decide (o > 18)) <;> simp only [Bool.true_or, Bool.false_or, Bool.false_eq_true, if_true, if_false, Bool.or_assoc]
theorem mul_kidsP {o : Int} {s : List UInt8} {n : Int} {ks : List Pred} (h2 : ¬(!isOpNamed o && !s == [] || o != 1 && o != 2 && n != 0 || decide ((ks.length : Int) < (kidsOf o).1) || decide ((ks.length : Int) > (kidsOf o).2)) = true) (ho : (o == 8) = true) : ∃ a b, ks = [a, b] := by
  have ho : o = 8 := by simpa using ho
  subst ho
  have h3 : ks.length = 2 := by simp [kidsOf] at h2; omega
  match ks, h3 with
  | [a, b], _ => exact ⟨a, b, rfl⟩
set_option maxRecDepth 100000
variable {E : AEnv} (Z : Sys E)
include Z
theorem pred_node_ev' (hG : E.G 0 = some (kws.map .str)) (o : Int) (s : List UInt8) (n : Int) (ks : List Pred) : E.C pred_node [.agg (Pred.cells (.mk o s n ks))] (.one (.int .i64 (nodeP o s n ks))) := by
  refine Z.pred_node _ _ ⟨Nat.le_of_ble_eq_true rfl, ?_⟩
  rw [Pred.cells_eq]
  generalize hR : nodeP o s n ks = R
  simp only [fn_pred_node, go_sem, Nat.reduceEqDiff, reduceCtorEq, Nat.reduceAdd, Nat.reduceLeDiff, Nat.reduceMul, Nat.reduceLT, Int.reduceToNat, Int.reduceLT, Int.reduceLE, Int.reduceEq, Nat.reduceSub, Pred.op, Pred.name, Pred.n, Pred.kids]
  split
  · rename_i h1; rw [← hR, nodeP, if_pos h1]
  rename_i h1
  refine call_by (pred_kids_ev Z o) ?_
  simp only [go_sem, Nat.reduceEqDiff, reduceCtorEq, Nat.reduceAdd, Nat.reduceLeDiff, Nat.reduceMul, Nat.reduceLT, Int.reduceToNat, Int.reduceLT, Int.reduceLE, Int.reduceEq, Nat.reduceSub]
  refine call_by (pred_named_ev Z o) ?_
  simp only [go_sem, Nat.reduceEqDiff, reduceCtorEq, Nat.reduceAdd, Nat.reduceLeDiff, Nat.reduceMul, Nat.reduceLT, Int.reduceToNat, Int.reduceLT, Int.reduceLE, Int.reduceEq, Nat.reduceSub]
  intro hlen1 hlen2
  split
  · rename_i h2; rw [← hR, nodeP, if_neg h1, if_pos h2]
  rename_i h2
  refine call_g (num_In_ev Z n) ?_
  simp only [go_sem, Nat.reduceEqDiff, reduceCtorEq, Nat.reduceAdd, Nat.reduceLeDiff, Nat.reduceMul, Nat.reduceLT, Int.reduceToNat, Int.reduceLT, Int.reduceLE, Int.reduceEq, Nat.reduceSub]
  split
  · rename_i h3; rw [← hR, nodeP, if_neg h1, if_neg h2, if_pos h3]
  rename_i h3
  refine call_by (pred_named_ev Z o) ?_
  simp only [go_sem, Nat.reduceEqDiff, reduceCtorEq, Nat.reduceAdd, Nat.reduceLeDiff, Nat.reduceMul, Nat.reduceLT, Int.reduceToNat, Int.reduceLT, Int.reduceLE, Int.reduceEq, Nat.reduceSub]
  refine call_g (names_Core_ev Z hG s) ?_
  simp only [go_sem, Nat.reduceEqDiff, reduceCtorEq, Nat.reduceAdd, Nat.reduceLeDiff, Nat.reduceMul, Nat.reduceLT, Int.reduceToNat, Int.reduceLT, Int.reduceLE, Int.reduceEq, Nat.reduceSub]
  by_cases ho : (o == 8) = true
  · obtain ⟨a, b, rfl⟩ := mul_kidsP h2 ho
    simp only [go_sem, Nat.reduceEqDiff, reduceCtorEq, Nat.reduceAdd, Nat.reduceLeDiff, Nat.reduceMul, Nat.reduceLT, Int.reduceToNat, Int.reduceLT, Int.reduceLE, Int.reduceEq, Nat.reduceSub, ho, Pred.cells_eq a]
    have key := nodeP_rest h1 h2 h3
    rw [hR, ho] at key
    simp only [go_sem, Nat.reduceEqDiff, reduceCtorEq, Nat.reduceAdd, Nat.reduceLeDiff, Nat.reduceMul, Nat.reduceLT, Int.reduceToNat, Int.reduceLT, Int.reduceLE, Int.reduceEq, Nat.reduceSub, sV, sTag, sVal] at key
    refine fin3 key fun h => ?_
    cases hC : (a.op != 1) <;> simp_all
  · rw [Bool.not_eq_true] at ho
    have key := nodeP_rest h1 h2 h3
    rw [hR, ho] at key
    simp only [go_sem, Nat.reduceEqDiff, reduceCtorEq, Nat.reduceAdd, Nat.reduceLeDiff, Nat.reduceMul, Nat.reduceLT, Int.reduceToNat, Int.reduceLT, Int.reduceLE, Int.reduceEq, Nat.reduceSub, sV, sTag, sVal] at key
    cases ks <;> (simp only [go_sem, Nat.reduceEqDiff, reduceCtorEq, Nat.reduceAdd, Nat.reduceLeDiff, Nat.reduceMul, Nat.reduceLT, Int.reduceToNat, Int.reduceLT, Int.reduceLE, Int.reduceEq, Nat.reduceSub, ho, Pred.cells_eq]; exact fin3 key fun h => h)
theorem pred_node_ev (hG : E.G 0 = some (kws.map .str)) (o : Int) (s : List UInt8) (n : Int) (ks : List Pred) : E.C pred_node [.agg (Pred.cells (.mk o s n ks))] (.one (.int .i64 (nodeE o s n ks))) := nodeP_eq o s n ks ▸ pred_node_ev' Z hG o s n ks
end Go.Abs
end
section
set_option linter.unusedSimpArgs false
set_option linter.unusedVariables false
set_option linter.unusedSectionVars false
namespace Go.Abs
namespace Pred
/-- the first error of the nodes, each before its kids -/
def formE : Pred → Int
  | .mk o s n ks => if nodeE o s n ks != 0 then nodeE o s n ks else formEs ks
where formEs : List Pred → Int
  | [] => 0
  | k :: ks => if formE k != 0 then formE k else formEs ks
theorem formEs_mid {a b : List Pred} {k : Pred} (ha : ∀ x ∈ a, formE x = 0) : formE.formEs (a ++ k :: b) = if formE k != 0 then formE k else formE.formEs b := by
  induction a with
  | nil => rfl
  | cons x a ih =>
    rw [List.cons_append, formE.formEs, ha x (by simp)]
    exact ih fun y hy => ha y (by simp [hy])
theorem formEs_all {a : List Pred} (ha : ∀ x ∈ a, formE x = 0) : formE.formEs a = 0 := by
  induction a with
  | nil => rfl
  | cons x a ih =>
    rw [formE.formEs, ha x (by simp)]
    exact ih fun y hy => ha y (by simp [hy])
theorem formE_eq (o : Int) (s : List UInt8) (n : Int) (ks : List Pred) : formE (.mk o s n ks) = if nodeE o s n ks != 0 then nodeE o s n ks else formE.formEs ks := by rw [formE]
/-- the error of a predicate -/
def checkE (p : Pred) : Int := if decide (nodes p > 400) then 7 else if decide (depth p > 40) then 8 else formE p
end Pred
theorem app_all {α : Type} {P : α → Prop} {a : List α} {k : α} (ha : ∀ x ∈ a, P x) (hk : P k) : ∀ x ∈ a ++ [k], P x := by
  intro x hx; rcases List.mem_append.1 hx with h | h
  · exact ha x h
  · simp at h; subst h; exact hk
theorem getD_midP {ks a r : List Pred} {k : Pred} (hl : ks = a ++ k :: r) : (ks.map Pred.cells).getD a.length [] = Pred.cells k := by rw [hl]; exact getD_mid _ _ _ _ _
variable {E : AEnv} (Z : Sys E)
include Z
theorem r07_form_ev (p : Pred) : E.C r07_form [.agg (Pred.cells p)] (.one (.int .i64 p.formE)) := by
  induction p using Pred.ind with
  | h o s n ks ih =>
  have hn := r07_node_ev Z o s n ks
  refine Z.r07_form _ _ ⟨Nat.le_of_ble_eq_true rfl, ?_⟩
  rw [Pred.cells_eq] at *
  generalize hR : Pred.formE (.mk o s n ks) = R
  rw [Pred.formE_eq] at hR
  simp only [fn_r07_form, go_sem, Nat.reduceEqDiff, reduceCtorEq, Nat.reduceAdd, Nat.reduceLeDiff, Nat.reduceMul, Nat.reduceLT, Int.reduceToNat, Int.reduceLT, Int.reduceLE, Int.reduceEq, Nat.reduceSub, Pred.op, Pred.name, Pred.n, Pred.kids] at hn ⊢
  refine call_by hn ?_
  simp only [go_sem, Nat.reduceEqDiff, reduceCtorEq, Nat.reduceAdd, Nat.reduceLeDiff, Nat.reduceMul, Nat.reduceLT, Int.reduceToNat, Int.reduceLT, Int.reduceLE, Int.reduceEq, Nat.reduceSub]
  cases h1 : (nodeE o s n ks != 0) with
  | true => simp only [h1, go_sem, Nat.reduceEqDiff, reduceCtorEq, Nat.reduceAdd, Nat.reduceLeDiff, Nat.reduceMul, Nat.reduceLT, Int.reduceToNat, Int.reduceLT, Int.reduceLE, Int.reduceEq, Nat.reduceSub] at hR ⊢; exact hR
  | false =>
  simp only [h1, go_sem, Nat.reduceEqDiff, reduceCtorEq, Nat.reduceAdd, Nat.reduceLeDiff, Nat.reduceMul, Nat.reduceLT, Int.reduceToNat, Int.reduceLT, Int.reduceLE, Int.reduceEq, Nat.reduceSub] at hR ⊢
  intro hlen
  refine loop_list ks (fun done => ∀ x ∈ done, x.formE = 0) (fun done rest => ⟨[(15, .d (.int .i64 done.length)), (14, .d (.int .i64 ks.length)), (13, .d (.lst (ks.map Pred.cells)))], [], []⟩) ?_ (by simp) ?_ ?_
  · exact Ent_plain (by simp only [go_sem, Nat.reduceEqDiff, reduceCtorEq, Nat.reduceAdd, Nat.reduceLeDiff, Nat.reduceMul, Nat.reduceLT, Int.reduceToNat, Int.reduceLT, Int.reduceLE, Int.reduceEq, Nat.reduceSub])
  · intro done k r hl hI
    have hk' := ih k (by rw [hl]; simp)
    have hlt := lt_mid hl
    have hw : IntKind.i64.wrap ((done.length : Int) + 1) = ((done.length + 1 : Nat) : Int) := wrap_succ (by omega)
    simp only [fn_r07_form_L1, go_sem, Nat.reduceEqDiff, reduceCtorEq, Nat.reduceAdd, Nat.reduceLeDiff, Nat.reduceMul, Nat.reduceLT, Int.reduceToNat, Int.reduceLT, Int.reduceLE, Int.reduceEq, Nat.reduceSub, hlt, getD_midP hl]
    refine call_by hk' ?_
    rw [hl, Pred.formEs_mid hI] at hR
    cases h2 : (k.formE != 0) with
    | true => simp only [h2, go_sem, Nat.reduceEqDiff, reduceCtorEq, Nat.reduceAdd, Nat.reduceLeDiff, Nat.reduceMul, Nat.reduceLT, Int.reduceToNat, Int.reduceLT, Int.reduceLE, Int.reduceEq, Nat.reduceSub] at hR ⊢; exact hR
    | false =>
      simp only [go_sem, Nat.reduceEqDiff, reduceCtorEq, Nat.reduceAdd, Nat.reduceLeDiff, Nat.reduceMul, Nat.reduceLT, Int.reduceToNat, Int.reduceLT, Int.reduceLE, Int.reduceEq, Nat.reduceSub, h2, hw, List.length_append]
      exact ⟨Ent_plain (by simp only [go_sem, Nat.reduceEqDiff, reduceCtorEq, Nat.reduceAdd, Nat.reduceLeDiff, Nat.reduceMul, Nat.reduceLT, Int.reduceToNat, Int.reduceLT, Int.reduceLE, Int.reduceEq, Nat.reduceSub]), app_all hI (by simpa using h2)⟩
  · intro hI
    rw [Pred.formEs_all hI] at hR
    simp only [fn_r07_form_L1, go_sem, Nat.reduceEqDiff, reduceCtorEq, Nat.reduceAdd, Nat.reduceLeDiff, Nat.reduceMul, Nat.reduceLT, Int.reduceToNat, Int.reduceLT, Int.reduceLE, Int.reduceEq, Nat.reduceSub, hR]
theorem r07_Check_ev (p : Pred) : E.C r07_Check [.agg (Pred.cells p)] (.one (.int .i64 p.checkE)) := by
  have h1 := r07_Nodes_ev Z p
  have h2 := r07_Depth_ev Z p
  have h3 := r07_form_ev Z p
  refine Z.r07_Check _ _ ⟨Nat.le_of_ble_eq_true rfl, ?_⟩
  generalize hR : Pred.checkE p = R
  unfold Pred.checkE at hR
  rw [Pred.cells_eq] at *
  simp only [fn_r07_Check, go_sem, Nat.reduceEqDiff, reduceCtorEq, Nat.reduceAdd, Nat.reduceLeDiff, Nat.reduceMul, Nat.reduceLT, Int.reduceToNat, Int.reduceLT, Int.reduceLE, Int.reduceEq, Nat.reduceSub]
  refine call_by h1 ?_
  simp only [go_sem, Nat.reduceEqDiff, reduceCtorEq, Nat.reduceAdd, Nat.reduceLeDiff, Nat.reduceMul, Nat.reduceLT, Int.reduceToNat, Int.reduceLT, Int.reduceLE, Int.reduceEq, Nat.reduceSub]
  split
  · rename_i h; rw [if_pos h] at hR; exact hR
  rename_i h; rw [if_neg h] at hR
  refine call_by h2 ?_
  simp only [go_sem, Nat.reduceEqDiff, reduceCtorEq, Nat.reduceAdd, Nat.reduceLeDiff, Nat.reduceMul, Nat.reduceLT, Int.reduceToNat, Int.reduceLT, Int.reduceLE, Int.reduceEq, Nat.reduceSub]
  split
  · rename_i h; rw [if_pos h] at hR; exact hR
  rename_i h; rw [if_neg h] at hR
  refine call_by h3 ?_
  simp only [go_sem, Nat.reduceEqDiff, reduceCtorEq, Nat.reduceAdd, Nat.reduceLeDiff, Nat.reduceMul, Nat.reduceLT, Int.reduceToNat, Int.reduceLT, Int.reduceLE, Int.reduceEq, Nat.reduceSub, hR]
end Go.Abs
end
section
set_option linter.unusedSimpArgs false
set_option linter.unusedVariables false
set_option linter.unusedSectionVars false
namespace Go.Abs
namespace Pred
/-- the nodes, each before its kids' -/
def pre : Pred → List Pred
  | .mk o s n ks => .mk o s n ks :: pres ks
where pres : List Pred → List Pred
  | [] => []
  | k :: ks => pre k ++ pres ks
theorem pre_eq (o : Int) (s : List UInt8) (n : Int) (ks : List Pred) : pre (.mk o s n ks) = .mk o s n ks :: pre.pres ks := by rw [pre]
theorem pres_app (a b : List Pred) : pre.pres (a ++ b) = pre.pres a ++ pre.pres b := by
  induction a with
  | nil => rfl
  | cons k a ih => simp [pre.pres, ih]
def err (p : Pred) : Int := nodeE p.op p.name p.n p.kids
def first : List Pred → Int
  | [] => 0
  | p :: l => if err p != 0 then err p else first l
theorem first_app (a b : List Pred) : first (a ++ b) = if first a != 0 then first a else first b := by
  induction a with
  | nil => rfl
  | cons k a ih =>
    by_cases h : (err k != 0) = true
    · have e1 : first (k :: a) = err k := by rw [first, if_pos h]
      have e2 : first (k :: (a ++ b)) = err k := by rw [first, if_pos h]
      simp only [List.cons_append, e1, e2, h, if_true]
    · have e1 : first (k :: a) = first a := by rw [first, if_neg h]
      have e2 : first (k :: (a ++ b)) = first (a ++ b) := by rw [first, if_neg h]
      simp only [List.cons_append, e1, e2, ih]
theorem formE_first (p : Pred) : formE p = first (pre p) := by
  induction p using Pred.ind with
  | h o s n ks ih =>
  rw [formE_eq, pre_eq, first]
  have : formE.formEs ks = first (pre.pres ks) := by
    induction ks with
    | nil => rfl
    | cons k ks ih2 =>
      rw [formE.formEs, pre.pres, first_app, ih k (by simp), ih2 fun x hx => ih x (by simp [hx])]
  rw [this]; rfl
theorem first_mid {a b : List Pred} {k : Pred} (ha : ∀ x ∈ a, err x = 0) : first (a ++ k :: b) = if err k != 0 then err k else first b := by
  induction a with
  | nil => rfl
  | cons x a ih =>
    rw [List.cons_append, first, ha x (by simp)]
    exact ih fun y hy => ha y (by simp [hy])
theorem first_all {a : List Pred} (ha : ∀ x ∈ a, err x = 0) : first a = 0 := by
  induction a with
  | nil => rfl
  | cons x a ih =>
    rw [first, ha x (by simp)]
    exact ih fun y hy => ha y (by simp [hy])
end Pred
def yields (l : List Pred) : List (List CV) := l.map fun q => [.agg (Pred.cells q)]
theorem yields_mid {l : List Pred} {a b : List (List CV)} {x : List CV} (h : yields l = a ++ x :: b) : ∃ a' p b', l = a' ++ p :: b' ∧ a = yields a' ∧ x = [.agg (Pred.cells p)] := by
  obtain ⟨a', r, h1, h2, h3⟩ := List.map_eq_append_iff.1 h
  obtain ⟨p, b', h4, h5, h6⟩ := List.map_eq_cons_iff.1 h3
  exact ⟨a', p, b', by rw [h1, h4], h2.symm, h5.symm⟩
theorem cells_inj : ∀ (p q : Pred), Pred.cells p = Pred.cells q → p = q := by
  intro p
  induction p using Pred.ind with
  | h o s n ks ih =>
  intro q h
  obtain ⟨o', s', n', ks'⟩ := q
  rw [Pred.cells_eq, Pred.cells_eq] at h
  simp only [Pred.op, Pred.name, Pred.n, Pred.kids, List.cons.injEq, D.int.injEq, D.str.injEq, D.lst.injEq, true_and, and_true] at h
  obtain ⟨rfl, rfl, rfl, h4⟩ := h
  have : ks = ks' := by
    induction ks generalizing ks' with
    | nil => cases ks' with | nil => rfl | cons _ _ => cases h4
    | cons k ks ih2 =>
      cases ks' with
      | nil => cases h4
      | cons k' ks' =>
        simp only [List.map_cons, List.cons.injEq] at h4
        rw [ih k (by simp) k' h4.1, ih2 (fun x hx => ih x (by simp [hx])) ks' h4.2]
  rw [this]
theorem yields_inj {a b : List Pred} (h : yields a = yields b) : a = b := by
  induction a generalizing b with
  | nil => cases b with | nil => rfl | cons _ _ => cases h
  | cons x a ih =>
    cases b with
    | nil => cases h
    | cons y b =>
      simp only [yields, List.map_cons, List.cons.injEq, CV.agg.injEq, and_true] at h
      rw [cells_inj x y h.1, ih h.2]
variable {E : AEnv} (Z : Sys E)
include Z
theorem pred_before_ev (p : Pred) : E.C pred_before [.agg (Pred.cells p)] (.one (.clo pred_before_1 [.ref (Pred.cells p)])) := by
  refine Z.pred_before _ _ ⟨Nat.le_of_ble_eq_true rfl, ?_⟩
  rw [Pred.cells_eq]
  simp only [fn_pred_before, go_sem, Nat.reduceEqDiff, reduceCtorEq, Nat.reduceAdd, Nat.reduceLeDiff, Nat.reduceMul, Nat.reduceLT, Int.reduceToNat, Int.reduceLT, Int.reduceLE, Int.reduceEq, Nat.reduceSub]
  rfl
theorem pred_Check_ev (hG : E.G 0 = some (kws.map .str)) (hIt : ∀ p, E.It pred_before_1 [.ref (Pred.cells p)] (yields p.pre)) (p : Pred) : E.C pred_Check [.agg (Pred.cells p)] (.one (.int .i64 p.checkE)) := by
  have h1 := pred_Nodes_ev Z p
  have h2 := pred_Depth_ev Z p
  have h3 := pred_before_ev Z p
  have hit := hIt p
  refine Z.pred_Check _ _ ⟨Nat.le_of_ble_eq_true rfl, ?_⟩
  generalize hR : Pred.checkE p = R
  unfold Pred.checkE at hR
  rw [Pred.formE_first] at hR
  rw [Pred.cells_eq] at *
  simp only [fn_pred_Check, go_sem, Nat.reduceEqDiff, reduceCtorEq, Nat.reduceAdd, Nat.reduceLeDiff, Nat.reduceMul, Nat.reduceLT, Int.reduceToNat, Int.reduceLT, Int.reduceLE, Int.reduceEq, Nat.reduceSub]
  refine call_by h1 ?_
  simp only [go_sem, Nat.reduceEqDiff, reduceCtorEq, Nat.reduceAdd, Nat.reduceLeDiff, Nat.reduceMul, Nat.reduceLT, Int.reduceToNat, Int.reduceLT, Int.reduceLE, Int.reduceEq, Nat.reduceSub]
  split
  · rename_i h; rw [if_pos h] at hR; simp only [go_sem, Nat.reduceEqDiff, reduceCtorEq, Nat.reduceAdd, Nat.reduceLeDiff, Nat.reduceMul, Nat.reduceLT, Int.reduceToNat, Int.reduceLT, Int.reduceLE, Int.reduceEq, Nat.reduceSub, hR]
  rename_i h; rw [if_neg h] at hR
  refine call_by h2 ?_
  simp only [go_sem, Nat.reduceEqDiff, reduceCtorEq, Nat.reduceAdd, Nat.reduceLeDiff, Nat.reduceMul, Nat.reduceLT, Int.reduceToNat, Int.reduceLT, Int.reduceLE, Int.reduceEq, Nat.reduceSub]
  split
  · rename_i h; rw [if_pos h] at hR; simp only [go_sem, Nat.reduceEqDiff, reduceCtorEq, Nat.reduceAdd, Nat.reduceLeDiff, Nat.reduceMul, Nat.reduceLT, Int.reduceToNat, Int.reduceLT, Int.reduceLE, Int.reduceEq, Nat.reduceSub, hR]
  rename_i h; rw [if_neg h] at hR
  refine call_by h3 ?_
  simp only [go_sem, Nat.reduceEqDiff, reduceCtorEq, Nat.reduceAdd, Nat.reduceLeDiff, Nat.reduceMul, Nat.reduceLT, Int.reduceToNat, Int.reduceLT, Int.reduceLE, Int.reduceEq, Nat.reduceSub]
  refine rng_by hit (fun a => ∃ l, a = yields l ∧ ∀ x ∈ l, Pred.err x = 0) (fun _ => ⟨[(2, .ptr 2 0)], [(2, [.d (.int .i64 0)])], []⟩) ?_ ⟨[], rfl, by simp⟩ ?_ ?_
  · exact Ent_plain (by simp only [go_sem, Nat.reduceEqDiff, reduceCtorEq, Nat.reduceAdd, Nat.reduceLeDiff, Nat.reduceMul, Nat.reduceLT, Int.reduceToNat, Int.reduceLT, Int.reduceLE, Int.reduceEq, Nat.reduceSub, Option.isSome_some])
  · intro a x b hx ⟨l, hl, hI⟩
    obtain ⟨a', q, b', e1, rfl, rfl⟩ := yields_mid hx
    obtain rfl := yields_inj hl
    refine ⟨rfl, ?_⟩
    obtain ⟨o, s, n, ks⟩ := q
    have hn := pred_node_ev Z hG o s n ks
    rw [Pred.cells_eq] at hn ⊢
    rw [e1, Pred.first_mid hI] at hR
    simp only [fn_pred_Check_A1, fn_pred_Check_B1, go_sem, Nat.reduceEqDiff, reduceCtorEq, Nat.reduceAdd, Nat.reduceLeDiff, Nat.reduceMul, Nat.reduceLT, Int.reduceToNat, Int.reduceLT, Int.reduceLE, Int.reduceEq, Nat.reduceSub, Pred.op, Pred.name, Pred.n, Pred.kids] at hn ⊢
    refine call_by hn ?_
    simp only [go_sem, Nat.reduceEqDiff, reduceCtorEq, Nat.reduceAdd, Nat.reduceLeDiff, Nat.reduceMul, Nat.reduceLT, Int.reduceToNat, Int.reduceLT, Int.reduceLE, Int.reduceEq, Nat.reduceSub]
    have he : Pred.err (.mk o s n ks) = nodeE o s n ks := rfl
    rw [he] at hR
    cases h2 : (nodeE o s n ks != 0) with
    | true => simp only [h2, go_sem, Nat.reduceEqDiff, reduceCtorEq, Nat.reduceAdd, Nat.reduceLeDiff, Nat.reduceMul, Nat.reduceLT, Int.reduceToNat, Int.reduceLT, Int.reduceLE, Int.reduceEq, Nat.reduceSub] at hR ⊢; simp only [go_sem, Nat.reduceEqDiff, reduceCtorEq, Nat.reduceAdd, Nat.reduceLeDiff, Nat.reduceMul, Nat.reduceLT, Int.reduceToNat, Int.reduceLT, Int.reduceLE, Int.reduceEq, Nat.reduceSub, hR]
    | false =>
      simp only [go_sem, Nat.reduceEqDiff, reduceCtorEq, Nat.reduceAdd, Nat.reduceLeDiff, Nat.reduceMul, Nat.reduceLT, Int.reduceToNat, Int.reduceLT, Int.reduceLE, Int.reduceEq, Nat.reduceSub]
      exact ⟨Ent_plain (by simp only [go_sem, Nat.reduceEqDiff, reduceCtorEq, Nat.reduceAdd, Nat.reduceLeDiff, Nat.reduceMul, Nat.reduceLT, Int.reduceToNat, Int.reduceLT, Int.reduceLE, Int.reduceEq, Nat.reduceSub, Option.isSome_some]), a' ++ [.mk o s n ks], by simp [yields, Pred.cells_eq, Pred.op, Pred.name, Pred.n, Pred.kids], app_all hI (by rw [he]; simpa using h2)⟩
  · rintro ⟨l, hl, hI⟩
    obtain rfl := yields_inj hl
    rw [Pred.first_all hI] at hR
    simp only [go_sem, Nat.reduceEqDiff, reduceCtorEq, Nat.reduceAdd, Nat.reduceLeDiff, Nat.reduceMul, Nat.reduceLT, Int.reduceToNat, Int.reduceLT, Int.reduceLE, Int.reduceEq, Nat.reduceSub, hR]
end Go.Abs
end
section
set_option linter.unusedSimpArgs false
set_option linter.unusedVariables false
set_option linter.unusedSectionVars false
namespace Go.Abs
abbrev Str := List UInt8
/-! ## environments as data -/
structure SVar where
  name : Str
  sort : Str
def SVar.cells (v : SVar) : List D := [.str v.name, .str v.sort]
def scell (s : Str) : List D := [.str s]
structure SSym where
  name : Str
  args : List Str
  res : Str
def SSym.cells (v : SSym) : List D := [.str v.name, .lst (v.args.map scell), .str v.res]
structure SHole where
  name : Str
  params : List SVar
def SHole.cells (v : SHole) : List D := [.str v.name, .lst (v.params.map SVar.cells)]
structure SEnv where
  vars : List SVar
  syms : List SSym
  holes : List SHole
def SEnv.cells (v : SEnv) : List D := [.lst (v.vars.map SVar.cells), .lst (v.syms.map SSym.cells), .lst (v.holes.map SHole.cells)]
theorem lens_map {α : Type} {f : α → List D} {k : Nat} (h : ∀ x, (f x).length = k) (l : List α) : (∀ e ∈ l.map f, e.length = k) = True := eq_true (by
  intro e he; obtain ⟨p, _, rfl⟩ := List.mem_map.1 he; exact h p)
theorem SVar.lens (l : List SVar) : (∀ e ∈ l.map SVar.cells, e.length = 2) = True := lens_map (f := SVar.cells) (fun _ => rfl) l
theorem SSym.lens (l : List SSym) : (∀ e ∈ l.map SSym.cells, e.length = 3) = True := lens_map (f := SSym.cells) (fun _ => rfl) l
theorem SHole.lens (l : List SHole) : (∀ e ∈ l.map SHole.cells, e.length = 2) = True := lens_map (f := SHole.cells) (fun _ => rfl) l
theorem scell_lens (l : List Str) : (∀ e ∈ l.map scell, e.length = 1) = True := lens_map (f := scell) (fun _ => rfl) l
attribute [go_sem] SVar.lens SSym.lens SHole.lens scell_lens
theorem getD_at {α β : Type} {f : α → β} {l a r : List α} {x : α} {d : β} (hl : l = a ++ x :: r) : (l.map f).getD a.length d = f x := by rw [hl]; exact getD_mid _ _ _ _ _
theorem len_sub (n : Nat) : ((n + 1 : Nat) : Int) - 1 = n := by omega
def findVar (l : List SVar) (s : Str) : Str × Bool := match l.reverse.find? (fun v => v.name == s) with
  | some v => (v.sort, true)
  | none => ([], false)
theorem find_mid {α : Type} {p : α → Bool} {a r : List α} {x : α} (ha : ∀ y ∈ a, p y = false) : (a ++ x :: r).find? p = if p x = true then some x else r.find? p := by
  induction a with
  | nil => simp only [List.nil_append, List.find?]; cases p x <;> rfl
  | cons y a ih => rw [List.cons_append, List.find?, ha y (by simp)]; exact ih fun z hz => ha z (by simp [hz])
theorem find_all {α : Type} {p : α → Bool} {a : List α} (ha : ∀ y ∈ a, p y = false) : a.find? p = none := by
  rw [List.find?_eq_none]; intro x hx; rw [ha x hx]; simp
theorem i64_lt {n : Int} (h1 : -9223372036854775808 ≤ n) (h2 : n ≤ 9223372036854775807) : IntKind.i64.wrap n = n := i64_in n ⟨h1, h2⟩
variable {E : AEnv} (Z : Sys E)
include Z
theorem sort_Var_ev (v : SEnv) (s : Str) : E.C sort_Var [.agg v.cells, .one (.str s)] (.tup [.one (.str (findVar v.vars s).1), .one (.bool (findVar v.vars s).2)]) := by
  refine Z.sort_Var _ _ ⟨Nat.le_of_ble_eq_true rfl, ?_⟩
  generalize hR : findVar v.vars s = R
  simp only [fn_sort_Var, SEnv.cells, go_sem, Nat.reduceEqDiff, reduceCtorEq, Nat.reduceAdd, Nat.reduceLeDiff, Nat.reduceMul, Nat.reduceLT, Int.reduceToNat, Int.reduceLT, Int.reduceLE, Int.reduceEq, Nat.reduceSub]
  intro hlen
  have hw : IntKind.i64.wrap ((v.vars.length : Int) - 1) = (v.vars.length : Int) - 1 := i64_lt (by omega) (by omega)
  rw [hw]
  refine loop_list v.vars.reverse (fun done => ∀ y ∈ done, (y.name == s) = false) (fun done rest => ⟨[(6, .d (.int .i64 ((rest.length : Int) - 1))), (2, .ptr 2 0), (1, .d (.str s))], [(2, v.cells.map .d)], []⟩) ?_ (by simp) ?_ ?_
  · exact Ent_plain (by simp only [go_sem, Nat.reduceEqDiff, reduceCtorEq, Nat.reduceAdd, Nat.reduceLeDiff, Nat.reduceMul, Nat.reduceLT, Int.reduceToNat, Int.reduceLT, Int.reduceLE, Int.reduceEq, Nat.reduceSub, SEnv.cells, List.length_reverse, Option.isSome_some])
  · intro done x r hl hI
    have hl2 : v.vars = r.reverse ++ x :: done.reverse := by have := congrArg List.reverse hl; simpa using this
    have hx : (v.vars.map SVar.cells).getD r.length [] = x.cells := by have := getD_at (f := SVar.cells) (d := []) hl2; simpa using this
    have hlt : (r.length : Int) < v.vars.length := by rw [hl2]; simp; omega
    have hge : decide ((r.length : Int) ≥ 0) = true := by simp
    have hw2 : IntKind.i64.wrap ((r.length : Int) - 1) = (r.length : Int) - 1 := i64_lt (by omega) (by omega)
    unfold findVar at hR
    rw [hl, find_mid hI] at hR
    simp only [fn_sort_Var_L1, go_sem, Nat.reduceEqDiff, reduceCtorEq, Nat.reduceAdd, Nat.reduceLeDiff, Nat.reduceMul, Nat.reduceLT, Int.reduceToNat, Int.reduceLT, Int.reduceLE, Int.reduceEq, Nat.reduceSub, len_sub, hge, SEnv.cells, hx, hlt, SVar.cells, hw2]
    cases h1 : (x.name == s) with
    | true => simp only [h1, go_sem, Nat.reduceEqDiff, reduceCtorEq, Nat.reduceAdd, Nat.reduceLeDiff, Nat.reduceMul, Nat.reduceLT, Int.reduceToNat, Int.reduceLT, Int.reduceLE, Int.reduceEq, Nat.reduceSub] at hR ⊢; simp only [← hR, and_self]
    | false =>
      simp only [go_sem, Nat.reduceEqDiff, reduceCtorEq, Nat.reduceAdd, Nat.reduceLeDiff, Nat.reduceMul, Nat.reduceLT, Int.reduceToNat, Int.reduceLT, Int.reduceLE, Int.reduceEq, Nat.reduceSub]
      exact ⟨Ent_plain (by simp only [go_sem, Nat.reduceEqDiff, reduceCtorEq, Nat.reduceAdd, Nat.reduceLeDiff, Nat.reduceMul, Nat.reduceLT, Int.reduceToNat, Int.reduceLT, Int.reduceLE, Int.reduceEq, Nat.reduceSub, Option.isSome_some, SEnv.cells]), app_all hI h1⟩
  · intro hI
    unfold findVar at hR
    rw [find_all hI] at hR
    simp only [fn_sort_Var_L1, go_sem, Nat.reduceEqDiff, reduceCtorEq, Nat.reduceAdd, Nat.reduceLeDiff, Nat.reduceMul, Nat.reduceLT, Int.reduceToNat, Int.reduceLT, Int.reduceLE, Int.reduceEq, Nat.reduceSub, ← hR, Int.reduceNeg, Int.zero_sub, ge_iff_le, Int.reduceSub, Int.zero_sub, Int.reduceLE]
theorem r06_Var_ev (v : SEnv) (s : Str) : E.C r06_Var [.agg v.cells, .one (.str s)] (.tup [.one (.str (findVar v.vars s).1), .one (.bool (findVar v.vars s).2)]) := by
  refine Z.r06_Var _ _ ⟨Nat.le_of_ble_eq_true rfl, ?_⟩
  generalize hR : findVar v.vars s = R
  simp only [fn_r06_Var, SEnv.cells, go_sem, Nat.reduceEqDiff, reduceCtorEq, Nat.reduceAdd, Nat.reduceLeDiff, Nat.reduceMul, Nat.reduceLT, Int.reduceToNat, Int.reduceLT, Int.reduceLE, Int.reduceEq, Nat.reduceSub]
  intro hlen
  have hw : IntKind.i64.wrap ((v.vars.length : Int) - 1) = (v.vars.length : Int) - 1 := i64_lt (by omega) (by omega)
  rw [hw]
  refine loop_list v.vars.reverse (fun done => ∀ y ∈ done, (y.name == s) = false) (fun done rest => ⟨[(6, .d (.int .i64 ((rest.length : Int) - 1))), (2, .ptr 2 0), (1, .d (.str s))], [(2, v.cells.map .d)], []⟩) ?_ (by simp) ?_ ?_
  · exact Ent_plain (by simp only [go_sem, Nat.reduceEqDiff, reduceCtorEq, Nat.reduceAdd, Nat.reduceLeDiff, Nat.reduceMul, Nat.reduceLT, Int.reduceToNat, Int.reduceLT, Int.reduceLE, Int.reduceEq, Nat.reduceSub, SEnv.cells, List.length_reverse, Option.isSome_some])
  · intro done x r hl hI
    have hl2 : v.vars = r.reverse ++ x :: done.reverse := by have := congrArg List.reverse hl; simpa using this
    have hx : (v.vars.map SVar.cells).getD r.length [] = x.cells := by have := getD_at (f := SVar.cells) (d := []) hl2; simpa using this
    have hlt : (r.length : Int) < v.vars.length := by rw [hl2]; simp; omega
    have hge : decide ((r.length : Int) ≥ 0) = true := by simp
    have hw2 : IntKind.i64.wrap ((r.length : Int) - 1) = (r.length : Int) - 1 := i64_lt (by omega) (by omega)
    unfold findVar at hR
    rw [hl, find_mid hI] at hR
    simp only [fn_r06_Var_L1, go_sem, Nat.reduceEqDiff, reduceCtorEq, Nat.reduceAdd, Nat.reduceLeDiff, Nat.reduceMul, Nat.reduceLT, Int.reduceToNat, Int.reduceLT, Int.reduceLE, Int.reduceEq, Nat.reduceSub, len_sub, hge, SEnv.cells, hx, hlt, SVar.cells, hw2]
    cases h1 : (x.name == s) with
    | true => simp only [h1, go_sem, Nat.reduceEqDiff, reduceCtorEq, Nat.reduceAdd, Nat.reduceLeDiff, Nat.reduceMul, Nat.reduceLT, Int.reduceToNat, Int.reduceLT, Int.reduceLE, Int.reduceEq, Nat.reduceSub] at hR ⊢; simp only [← hR, and_self]
    | false =>
      simp only [go_sem, Nat.reduceEqDiff, reduceCtorEq, Nat.reduceAdd, Nat.reduceLeDiff, Nat.reduceMul, Nat.reduceLT, Int.reduceToNat, Int.reduceLT, Int.reduceLE, Int.reduceEq, Nat.reduceSub]
      exact ⟨Ent_plain (by simp only [go_sem, Nat.reduceEqDiff, reduceCtorEq, Nat.reduceAdd, Nat.reduceLeDiff, Nat.reduceMul, Nat.reduceLT, Int.reduceToNat, Int.reduceLT, Int.reduceLE, Int.reduceEq, Nat.reduceSub, Option.isSome_some, SEnv.cells]), app_all hI h1⟩
  · intro hI
    unfold findVar at hR
    rw [find_all hI] at hR
    simp only [fn_r06_Var_L1, go_sem, Nat.reduceEqDiff, reduceCtorEq, Nat.reduceAdd, Nat.reduceLeDiff, Nat.reduceMul, Nat.reduceLT, Int.reduceToNat, Int.reduceLT, Int.reduceLE, Int.reduceEq, Nat.reduceSub, ← hR, Int.reduceNeg, Int.zero_sub, ge_iff_le, Int.reduceSub, Int.zero_sub, Int.reduceLE]
end Go.Abs
end
section
set_option linter.unusedSimpArgs false
set_option linter.unusedVariables false
set_option linter.unusedSectionVars false
namespace Go.Abs
def sInt : Str := [73, 110, 116]
def sBool : Str := [66, 111, 111, 108]
def sCell : Str := [67, 101, 108, 108]
def findSym (l : List SSym) (s : Str) : SSym × Bool := if s == sTag then (⟨sTag, [], sInt⟩, true) else if s == sVal then (⟨sVal, [sCell], sInt⟩, true) else
  match l.find? (fun v => v.name == s) with
  | some v => (v, true)
  | none => (⟨[], [], []⟩, false)
def findHole (l : List SHole) (s : Str) : SHole × Bool := match l.find? (fun v => v.name == s) with
  | some v => (v, true)
  | none => (⟨[], []⟩, false)
theorem prefix_split {α : Type} {b done : List α} (h : b.take done.length = done) (hlt : done.length < b.length) : ∃ y r', b = done ++ y :: r' := by
  have := List.take_append_drop done.length b
  rw [h, List.drop_eq_getElem_cons hlt] at this
  exact ⟨_, _, this.symm⟩
/-- lists that may be appended to -/
def Small (n : Nat) : Prop := n ≤ 1048576
structure SEnv.Ok (v : SEnv) : Prop where
  syms : ∀ s ∈ v.syms, Small s.args.length
  holes : ∀ h ∈ v.holes, Small h.params.length
variable {E : AEnv} (Z : Sys E)
include Z
theorem clone_Sort_ev (l : List Str) (hl : Small l.length) : E.C slices_Clone_api_Sort_api_Sort [.one (.lst (l.map scell))] (.one (.lst (l.map scell))) := by
  refine Z.slices_Clone_api_Sort_api_Sort _ _ ⟨Nat.le_of_ble_eq_true rfl, ?_⟩
  unfold Small at hl
  have h1 : l.length * 16 ≤ 2 ^ 46 := by omega
  have h2 : l.length ≤ 9223372036854775807 := by omega
  simp only [fn_slices_Clone_api_Sort_api_Sort, go_sem, Nat.reduceEqDiff, reduceCtorEq, Nat.reduceAdd, Nat.reduceLeDiff, Nat.reduceMul, Nat.reduceLT, Int.reduceToNat, Int.reduceLT, Int.reduceLE, Int.reduceEq, Nat.reduceSub]
  intro b hb
  cases b with
  | true => simp only [go_sem, Nat.reduceEqDiff, reduceCtorEq, Nat.reduceAdd, Nat.reduceLeDiff, Nat.reduceMul, Nat.reduceLT, Int.reduceToNat, Int.reduceLT, Int.reduceLE, Int.reduceEq, Nat.reduceSub]; exact congrArg D.lst (hb rfl).symm
  | false => simp only [go_sem, Nat.reduceEqDiff, reduceCtorEq, Nat.reduceAdd, Nat.reduceLeDiff, Nat.reduceMul, Nat.reduceLT, Int.reduceToNat, Int.reduceLT, Int.reduceLE, Int.reduceEq, Nat.reduceSub, List.not_mem_nil, false_implies, implies_true, Nat.zero_add, h1, h2]
theorem clone_Var_ev (l : List SVar) (hl : Small l.length) : E.C slices_Clone_api_Var_api_Var [.one (.lst (l.map SVar.cells))] (.one (.lst (l.map SVar.cells))) := by
  refine Z.slices_Clone_api_Var_api_Var _ _ ⟨Nat.le_of_ble_eq_true rfl, ?_⟩
  unfold Small at hl
  have h1 : l.length * 32 ≤ 2 ^ 46 := by omega
  have h2 : l.length ≤ 9223372036854775807 := by omega
  simp only [fn_slices_Clone_api_Var_api_Var, go_sem, Nat.reduceEqDiff, reduceCtorEq, Nat.reduceAdd, Nat.reduceLeDiff, Nat.reduceMul, Nat.reduceLT, Int.reduceToNat, Int.reduceLT, Int.reduceLE, Int.reduceEq, Nat.reduceSub]
  intro b hb
  cases b with
  | true => simp only [go_sem, Nat.reduceEqDiff, reduceCtorEq, Nat.reduceAdd, Nat.reduceLeDiff, Nat.reduceMul, Nat.reduceLT, Int.reduceToNat, Int.reduceLT, Int.reduceLE, Int.reduceEq, Nat.reduceSub]; exact congrArg D.lst (hb rfl).symm
  | false => simp only [go_sem, Nat.reduceEqDiff, reduceCtorEq, Nat.reduceAdd, Nat.reduceLeDiff, Nat.reduceMul, Nat.reduceLT, Int.reduceToNat, Int.reduceLT, Int.reduceLE, Int.reduceEq, Nat.reduceSub, List.not_mem_nil, false_implies, implies_true, Nat.zero_add, h1, h2]
theorem sort_Find_ev (v : SEnv) (hv : v.Ok) (s : Str) : E.C sort_Find [.agg v.cells, .one (.str s)] (.tup [.agg (findSym v.syms s).1.cells, .one (.bool (findSym v.syms s).2)]) := by
  refine Z.sort_Find _ _ ⟨Nat.le_of_ble_eq_true rfl, ?_⟩
  generalize hR : findSym v.syms s = R
  unfold findSym at hR
  simp only [fn_sort_Find, SEnv.cells, go_sem, Nat.reduceEqDiff, reduceCtorEq, Nat.reduceAdd, Nat.reduceLeDiff, Nat.reduceMul, Nat.reduceLT, Int.reduceToNat, Int.reduceLT, Int.reduceLE, Int.reduceEq, Nat.reduceSub]
  cases h1 : (s == [116, 97, 103]) with
  | true => simp only [sTag, h1, go_sem, Nat.reduceEqDiff, reduceCtorEq, Nat.reduceAdd, Nat.reduceLeDiff, Nat.reduceMul, Nat.reduceLT, Int.reduceToNat, Int.reduceLT, Int.reduceLE, Int.reduceEq, Nat.reduceSub] at hR ⊢; simp only [← hR, SSym.cells, sInt, List.map_nil, and_self]
  | false =>
  simp only [go_sem, Nat.reduceEqDiff, reduceCtorEq, Nat.reduceAdd, Nat.reduceLeDiff, Nat.reduceMul, Nat.reduceLT, Int.reduceToNat, Int.reduceLT, Int.reduceLE, Int.reduceEq, Nat.reduceSub]
  cases h2 : (s == [118, 97, 108]) with
  | true => simp only [sTag, sVal, h1, h2, go_sem, Nat.reduceEqDiff, reduceCtorEq, Nat.reduceAdd, Nat.reduceLeDiff, Nat.reduceMul, Nat.reduceLT, Int.reduceToNat, Int.reduceLT, Int.reduceLE, Int.reduceEq, Nat.reduceSub] at hR ⊢; simp only [← hR, SSym.cells, sInt, sCell, scell, List.map_cons, List.map_nil, and_self]
  | false =>
  simp only [sTag, sVal, h1, h2, go_sem, Nat.reduceEqDiff, reduceCtorEq, Nat.reduceAdd, Nat.reduceLeDiff, Nat.reduceMul, Nat.reduceLT, Int.reduceToNat, Int.reduceLT, Int.reduceLE, Int.reduceEq, Nat.reduceSub] at hR ⊢
  intro hlen
  refine loop_list v.syms (fun done => ∀ y ∈ done, (y.name == s) = false) (fun done rest => ⟨[(19, .d (.int .i64 done.length)), (18, .d (.int .i64 v.syms.length)), (17, .d (.lst (v.syms.map SSym.cells))), (1, .d (.str s)), (4, .ptr 4 0)], [(4, [.d (.str []), .full [], .d (.str [])])], []⟩) ?_ (by simp) ?_ ?_
  · exact Ent_plain (by simp only [go_sem, Nat.reduceEqDiff, reduceCtorEq, Nat.reduceAdd, Nat.reduceLeDiff, Nat.reduceMul, Nat.reduceLT, Int.reduceToNat, Int.reduceLT, Int.reduceLE, Int.reduceEq, Nat.reduceSub, Option.isSome_some])
  · intro done x r hl hI
    have hx := getD_at (f := SSym.cells) (d := []) hl
    have hlt := lt_mid hl
    have hw : IntKind.i64.wrap ((done.length : Int) + 1) = ((done.length + 1 : Nat) : Int) := wrap_succ (by omega)
    rw [hl, find_mid hI] at hR
    simp only [fn_sort_Find_L1, go_sem, Nat.reduceEqDiff, reduceCtorEq, Nat.reduceAdd, Nat.reduceLeDiff, Nat.reduceMul, Nat.reduceLT, Int.reduceToNat, Int.reduceLT, Int.reduceLE, Int.reduceEq, Nat.reduceSub, hx, hlt, SSym.cells]
    cases h1 : (x.name == s) with
    | true =>
      simp only [h1, go_sem, Nat.reduceEqDiff, reduceCtorEq, Nat.reduceAdd, Nat.reduceLeDiff, Nat.reduceMul, Nat.reduceLT, Int.reduceToNat, Int.reduceLT, Int.reduceLE, Int.reduceEq, Nat.reduceSub] at hR ⊢
      refine call_by (clone_Sort_ev Z _ (hv.syms x (by rw [hl]; simp))) ?_
      simp only [go_sem, Nat.reduceEqDiff, reduceCtorEq, Nat.reduceAdd, Nat.reduceLeDiff, Nat.reduceMul, Nat.reduceLT, Int.reduceToNat, Int.reduceLT, Int.reduceLE, Int.reduceEq, Nat.reduceSub]
      simp only [← hR, SSym.cells, and_self]
    | false =>
      simp only [go_sem, Nat.reduceEqDiff, reduceCtorEq, Nat.reduceAdd, Nat.reduceLeDiff, Nat.reduceMul, Nat.reduceLT, Int.reduceToNat, Int.reduceLT, Int.reduceLE, Int.reduceEq, Nat.reduceSub, hw, List.length_append]
      exact ⟨Ent_plain (by simp only [go_sem, Nat.reduceEqDiff, reduceCtorEq, Nat.reduceAdd, Nat.reduceLeDiff, Nat.reduceMul, Nat.reduceLT, Int.reduceToNat, Int.reduceLT, Int.reduceLE, Int.reduceEq, Nat.reduceSub, Option.isSome_some]), app_all hI h1⟩
  · intro hI
    rw [find_all hI] at hR
    simp only [fn_sort_Find_L1, go_sem, Nat.reduceEqDiff, reduceCtorEq, Nat.reduceAdd, Nat.reduceLeDiff, Nat.reduceMul, Nat.reduceLT, Int.reduceToNat, Int.reduceLT, Int.reduceLE, Int.reduceEq, Nat.reduceSub]
    simp only [← hR, SSym.cells, List.map_nil, and_self]
theorem sort_Hole_ev (v : SEnv) (hv : v.Ok) (s : Str) : E.C sort_Hole [.agg v.cells, .one (.str s)] (.tup [.agg (findHole v.holes s).1.cells, .one (.bool (findHole v.holes s).2)]) := by
  refine Z.sort_Hole _ _ ⟨Nat.le_of_ble_eq_true rfl, ?_⟩
  generalize hR : findHole v.holes s = R
  unfold findHole at hR
  simp only [fn_sort_Hole, SEnv.cells, go_sem, Nat.reduceEqDiff, reduceCtorEq, Nat.reduceAdd, Nat.reduceLeDiff, Nat.reduceMul, Nat.reduceLT, Int.reduceToNat, Int.reduceLT, Int.reduceLE, Int.reduceEq, Nat.reduceSub]
  intro hlen
  refine loop_list v.holes (fun done => ∀ y ∈ done, (y.name == s) = false) (fun done rest => ⟨[(11, .d (.int .i64 done.length)), (10, .d (.int .i64 v.holes.length)), (9, .d (.lst (v.holes.map SHole.cells))), (1, .d (.str s)), (4, .ptr 4 0)], [(4, [.d (.str []), .full []])], []⟩) ?_ (by simp) ?_ ?_
  · exact Ent_plain (by simp only [go_sem, Nat.reduceEqDiff, reduceCtorEq, Nat.reduceAdd, Nat.reduceLeDiff, Nat.reduceMul, Nat.reduceLT, Int.reduceToNat, Int.reduceLT, Int.reduceLE, Int.reduceEq, Nat.reduceSub, Option.isSome_some])
  · intro done x r hl hI
    have hx := getD_at (f := SHole.cells) (d := []) hl
    have hlt := lt_mid hl
    have hw : IntKind.i64.wrap ((done.length : Int) + 1) = ((done.length + 1 : Nat) : Int) := wrap_succ (by omega)
    rw [hl, find_mid hI] at hR
    simp only [fn_sort_Hole_L1, go_sem, Nat.reduceEqDiff, reduceCtorEq, Nat.reduceAdd, Nat.reduceLeDiff, Nat.reduceMul, Nat.reduceLT, Int.reduceToNat, Int.reduceLT, Int.reduceLE, Int.reduceEq, Nat.reduceSub, hx, hlt, SHole.cells]
    cases h1 : (x.name == s) with
    | true =>
      simp only [h1, go_sem, Nat.reduceEqDiff, reduceCtorEq, Nat.reduceAdd, Nat.reduceLeDiff, Nat.reduceMul, Nat.reduceLT, Int.reduceToNat, Int.reduceLT, Int.reduceLE, Int.reduceEq, Nat.reduceSub] at hR ⊢
      refine call_by (clone_Var_ev Z _ (hv.holes x (by rw [hl]; simp))) ?_
      simp only [go_sem, Nat.reduceEqDiff, reduceCtorEq, Nat.reduceAdd, Nat.reduceLeDiff, Nat.reduceMul, Nat.reduceLT, Int.reduceToNat, Int.reduceLT, Int.reduceLE, Int.reduceEq, Nat.reduceSub]
      simp only [← hR, SHole.cells, and_self]
    | false =>
      simp only [go_sem, Nat.reduceEqDiff, reduceCtorEq, Nat.reduceAdd, Nat.reduceLeDiff, Nat.reduceMul, Nat.reduceLT, Int.reduceToNat, Int.reduceLT, Int.reduceLE, Int.reduceEq, Nat.reduceSub, hw, List.length_append]
      exact ⟨Ent_plain (by simp only [go_sem, Nat.reduceEqDiff, reduceCtorEq, Nat.reduceAdd, Nat.reduceLeDiff, Nat.reduceMul, Nat.reduceLT, Int.reduceToNat, Int.reduceLT, Int.reduceLE, Int.reduceEq, Nat.reduceSub, Option.isSome_some]), app_all hI h1⟩
  · intro hI
    rw [find_all hI] at hR
    simp only [fn_sort_Hole_L1, go_sem, Nat.reduceEqDiff, reduceCtorEq, Nat.reduceAdd, Nat.reduceLeDiff, Nat.reduceMul, Nat.reduceLT, Int.reduceToNat, Int.reduceLT, Int.reduceLE, Int.reduceEq, Nat.reduceSub]
    simp only [← hR, SHole.cells, List.map_nil, and_self]
theorem r06_Find_ev (v : SEnv) (s : Str) : E.C r06_Find [.agg v.cells, .one (.str s)] (.tup [.agg (findSym v.syms s).1.cells, .one (.bool (findSym v.syms s).2)]) := by
  refine Z.r06_Find _ _ ⟨Nat.le_of_ble_eq_true rfl, ?_⟩
  generalize hR : findSym v.syms s = R
  unfold findSym at hR
  simp only [fn_r06_Find, SEnv.cells, go_sem, Nat.reduceEqDiff, reduceCtorEq, Nat.reduceAdd, Nat.reduceLeDiff, Nat.reduceMul, Nat.reduceLT, Int.reduceToNat, Int.reduceLT, Int.reduceLE, Int.reduceEq, Nat.reduceSub]
  cases h1 : (s == [116, 97, 103]) with
  | true => simp only [sTag, h1, go_sem, Nat.reduceEqDiff, reduceCtorEq, Nat.reduceAdd, Nat.reduceLeDiff, Nat.reduceMul, Nat.reduceLT, Int.reduceToNat, Int.reduceLT, Int.reduceLE, Int.reduceEq, Nat.reduceSub] at hR ⊢; simp only [← hR, SSym.cells, sInt, List.map_nil, and_self]
  | false =>
  simp only [go_sem, Nat.reduceEqDiff, reduceCtorEq, Nat.reduceAdd, Nat.reduceLeDiff, Nat.reduceMul, Nat.reduceLT, Int.reduceToNat, Int.reduceLT, Int.reduceLE, Int.reduceEq, Nat.reduceSub]
  cases h2 : (s == [118, 97, 108]) with
  | true => simp only [sTag, sVal, h1, h2, go_sem, Nat.reduceEqDiff, reduceCtorEq, Nat.reduceAdd, Nat.reduceLeDiff, Nat.reduceMul, Nat.reduceLT, Int.reduceToNat, Int.reduceLT, Int.reduceLE, Int.reduceEq, Nat.reduceSub] at hR ⊢; simp only [← hR, SSym.cells, sInt, sCell, scell, List.map_cons, List.map_nil, and_self]
  | false =>
  simp only [sTag, sVal, h1, h2, go_sem, Nat.reduceEqDiff, reduceCtorEq, Nat.reduceAdd, Nat.reduceLeDiff, Nat.reduceMul, Nat.reduceLT, Int.reduceToNat, Int.reduceLT, Int.reduceLE, Int.reduceEq, Nat.reduceSub] at hR ⊢
  refine loop_list v.syms (fun done => ∀ y ∈ done, (y.name == s) = false) (fun done rest => ⟨[(6, .d (.int .i64 done.length)), (2, .ptr 2 0), (1, .d (.str s)), (4, .ptr 4 0)], [(2, [.d (.lst (v.vars.map SVar.cells)), .d (.lst (v.syms.map SSym.cells)), .d (.lst (v.holes.map SHole.cells))]), (4, [.d (.str []), .full [], .d (.str [])])], []⟩) ?_ (by simp) ?_ ?_
  · exact Ent_plain (by simp only [go_sem, Nat.reduceEqDiff, reduceCtorEq, Nat.reduceAdd, Nat.reduceLeDiff, Nat.reduceMul, Nat.reduceLT, Int.reduceToNat, Int.reduceLT, Int.reduceLE, Int.reduceEq, Nat.reduceSub, Option.isSome_some])
  · intro done x r hl hI
    have hx := getD_at (f := SSym.cells) (d := []) hl
    have hlt := lt_mid hl
    rw [hl, find_mid hI] at hR
    simp only [fn_r06_Find_L1, go_sem, Nat.reduceEqDiff, reduceCtorEq, Nat.reduceAdd, Nat.reduceLeDiff, Nat.reduceMul, Nat.reduceLT, Int.reduceToNat, Int.reduceLT, Int.reduceLE, Int.reduceEq, Nat.reduceSub, hx, hlt, SSym.cells]
    intro hlen
    have hw : IntKind.i64.wrap ((done.length : Int) + 1) = ((done.length + 1 : Nat) : Int) := wrap_succ (by omega)
    cases h1 : (x.name == s) with
    | true =>
      simp only [h1, go_sem, Nat.reduceEqDiff, reduceCtorEq, Nat.reduceAdd, Nat.reduceLeDiff, Nat.reduceMul, Nat.reduceLT, Int.reduceToNat, Int.reduceLT, Int.reduceLE, Int.reduceEq, Nat.reduceSub, hx, hlt] at hR ⊢
      simp only [← hR, SSym.cells, and_self]
    | false =>
      simp only [go_sem, Nat.reduceEqDiff, reduceCtorEq, Nat.reduceAdd, Nat.reduceLeDiff, Nat.reduceMul, Nat.reduceLT, Int.reduceToNat, Int.reduceLT, Int.reduceLE, Int.reduceEq, Nat.reduceSub, hw, List.length_append]
      exact ⟨Ent_plain (by simp only [go_sem, Nat.reduceEqDiff, reduceCtorEq, Nat.reduceAdd, Nat.reduceLeDiff, Nat.reduceMul, Nat.reduceLT, Int.reduceToNat, Int.reduceLT, Int.reduceLE, Int.reduceEq, Nat.reduceSub, Option.isSome_some]), app_all hI h1⟩
  · intro hI
    rw [find_all hI] at hR
    simp only [fn_r06_Find_L1, go_sem, Nat.reduceEqDiff, reduceCtorEq, Nat.reduceAdd, Nat.reduceLeDiff, Nat.reduceMul, Nat.reduceLT, Int.reduceToNat, Int.reduceLT, Int.reduceLE, Int.reduceEq, Nat.reduceSub]
    intro _
    simp only [← hR, SSym.cells, List.map_nil, and_self]
theorem r06_Hole_ev (v : SEnv) (s : Str) : E.C r06_Hole [.agg v.cells, .one (.str s)] (.tup [.agg (findHole v.holes s).1.cells, .one (.bool (findHole v.holes s).2)]) := by
  refine Z.r06_Hole _ _ ⟨Nat.le_of_ble_eq_true rfl, ?_⟩
  generalize hR : findHole v.holes s = R
  unfold findHole at hR
  simp only [fn_r06_Hole, SEnv.cells, go_sem, Nat.reduceEqDiff, reduceCtorEq, Nat.reduceAdd, Nat.reduceLeDiff, Nat.reduceMul, Nat.reduceLT, Int.reduceToNat, Int.reduceLT, Int.reduceLE, Int.reduceEq, Nat.reduceSub]
  refine loop_list v.holes (fun done => ∀ y ∈ done, (y.name == s) = false) (fun done rest => ⟨[(6, .d (.int .i64 done.length)), (2, .ptr 2 0), (1, .d (.str s)), (4, .ptr 4 0)], [(2, [.d (.lst (v.vars.map SVar.cells)), .d (.lst (v.syms.map SSym.cells)), .d (.lst (v.holes.map SHole.cells))]), (4, [.d (.str []), .full []])], []⟩) ?_ (by simp) ?_ ?_
  · exact Ent_plain (by simp only [go_sem, Nat.reduceEqDiff, reduceCtorEq, Nat.reduceAdd, Nat.reduceLeDiff, Nat.reduceMul, Nat.reduceLT, Int.reduceToNat, Int.reduceLT, Int.reduceLE, Int.reduceEq, Nat.reduceSub, Option.isSome_some])
  · intro done x r hl hI
    have hx := getD_at (f := SHole.cells) (d := []) hl
    have hlt := lt_mid hl
    rw [hl, find_mid hI] at hR
    simp only [fn_r06_Hole_L1, go_sem, Nat.reduceEqDiff, reduceCtorEq, Nat.reduceAdd, Nat.reduceLeDiff, Nat.reduceMul, Nat.reduceLT, Int.reduceToNat, Int.reduceLT, Int.reduceLE, Int.reduceEq, Nat.reduceSub, hx, hlt, SHole.cells]
    intro hlen
    have hw : IntKind.i64.wrap ((done.length : Int) + 1) = ((done.length + 1 : Nat) : Int) := wrap_succ (by omega)
    cases h1 : (x.name == s) with
    | true =>
      simp only [h1, go_sem, Nat.reduceEqDiff, reduceCtorEq, Nat.reduceAdd, Nat.reduceLeDiff, Nat.reduceMul, Nat.reduceLT, Int.reduceToNat, Int.reduceLT, Int.reduceLE, Int.reduceEq, Nat.reduceSub, hx, hlt] at hR ⊢
      simp only [← hR, SHole.cells, and_self]
    | false =>
      simp only [go_sem, Nat.reduceEqDiff, reduceCtorEq, Nat.reduceAdd, Nat.reduceLeDiff, Nat.reduceMul, Nat.reduceLT, Int.reduceToNat, Int.reduceLT, Int.reduceLE, Int.reduceEq, Nat.reduceSub, hw, List.length_append]
      exact ⟨Ent_plain (by simp only [go_sem, Nat.reduceEqDiff, reduceCtorEq, Nat.reduceAdd, Nat.reduceLeDiff, Nat.reduceMul, Nat.reduceLT, Int.reduceToNat, Int.reduceLT, Int.reduceLE, Int.reduceEq, Nat.reduceSub, Option.isSome_some]), app_all hI h1⟩
  · intro hI
    rw [find_all hI] at hR
    simp only [fn_r06_Hole_L1, go_sem, Nat.reduceEqDiff, reduceCtorEq, Nat.reduceAdd, Nat.reduceLeDiff, Nat.reduceMul, Nat.reduceLT, Int.reduceToNat, Int.reduceLT, Int.reduceLE, Int.reduceEq, Nat.reduceSub]
    intro _
    simp only [← hR, SHole.cells, List.map_nil, and_self]
theorem r06_SameSorts_ev (a b : List Str) : E.C r06_SameSorts [.one (.lst (a.map scell)), .one (.lst (b.map scell))] (.one (.bool (a == b))) := by
  refine Z.r06_SameSorts _ _ ⟨Nat.le_of_ble_eq_true rfl, ?_⟩
  simp only [fn_r06_SameSorts, go_sem, Nat.reduceEqDiff, reduceCtorEq, Nat.reduceAdd, Nat.reduceLeDiff, Nat.reduceMul, Nat.reduceLT, Int.reduceToNat, Int.reduceLT, Int.reduceLE, Int.reduceEq, Nat.reduceSub]
  intro hl1 hl2
  by_cases hlen : a.length = b.length
  · have h1 : ((a.length : Int) != (b.length : Int)) = false := by simp [hlen]
    simp only [h1, go_sem, Nat.reduceEqDiff, reduceCtorEq, Nat.reduceAdd, Nat.reduceLeDiff, Nat.reduceMul, Nat.reduceLT, Int.reduceToNat, Int.reduceLT, Int.reduceLE, Int.reduceEq, Nat.reduceSub]
    refine loop_list a (fun done => b.take done.length = done) (fun done rest => ⟨[(5, .d (.int .i64 done.length)), (0, .d (.lst (a.map scell))), (1, .d (.lst (b.map scell)))], [], []⟩) ?_ (by simp) ?_ ?_
    · exact Ent_plain (by simp only [go_sem, Nat.reduceEqDiff, reduceCtorEq, Nat.reduceAdd, Nat.reduceLeDiff, Nat.reduceMul, Nat.reduceLT, Int.reduceToNat, Int.reduceLT, Int.reduceLE, Int.reduceEq, Nat.reduceSub])
    · intro done x r hl hI
      obtain ⟨y, r', hb⟩ := prefix_split hI (by rw [← hlen, hl]; simp)
      have hx := getD_at (f := scell) (d := []) hl
      have hy := getD_at (f := scell) (d := []) hb
      have hlt := lt_mid hl
      have hlt2 := lt_mid hb
      have hw : IntKind.i64.wrap ((done.length : Int) + 1) = ((done.length + 1 : Nat) : Int) := wrap_succ (by omega)
      simp only [fn_r06_SameSorts_L1, go_sem, Nat.reduceEqDiff, reduceCtorEq, Nat.reduceAdd, Nat.reduceLeDiff, Nat.reduceMul, Nat.reduceLT, Int.reduceToNat, Int.reduceLT, Int.reduceLE, Int.reduceEq, Nat.reduceSub, hx, hy, hlt, hlt2, scell]
      intro _
      cases h2 : (x == y) with
      | true =>
        have : x = y := by simpa using h2
        subst this
        simp only [go_sem, Nat.reduceEqDiff, reduceCtorEq, Nat.reduceAdd, Nat.reduceLeDiff, Nat.reduceMul, Nat.reduceLT, Int.reduceToNat, Int.reduceLT, Int.reduceLE, Int.reduceEq, Nat.reduceSub, hw, List.length_append]
        exact ⟨Ent_plain (by simp only [go_sem, Nat.reduceEqDiff, reduceCtorEq, Nat.reduceAdd, Nat.reduceLeDiff, Nat.reduceMul, Nat.reduceLT, Int.reduceToNat, Int.reduceLT, Int.reduceLE, Int.reduceEq, Nat.reduceSub]), by rw [hb, show done ++ x :: r' = (done ++ [x]) ++ r' by simp]; exact List.take_left' (by simp)⟩
      | false =>
        simp only [go_sem, Nat.reduceEqDiff, reduceCtorEq, Nat.reduceAdd, Nat.reduceLeDiff, Nat.reduceMul, Nat.reduceLT, Int.reduceToNat, Int.reduceLT, Int.reduceLE, Int.reduceEq, Nat.reduceSub]
        symm
        simp only [beq_eq_false_iff_ne, ne_eq] at h2 ⊢
        intro e
        rw [hl, hb] at e
        exact h2 (List.cons.inj (List.append_cancel_left e)).1
    · intro hI
      have : a = b := by rw [← hI, hlen, List.take_length]
      subst this
      simp only [fn_r06_SameSorts_L1, go_sem, Nat.reduceEqDiff, reduceCtorEq, Nat.reduceAdd, Nat.reduceLeDiff, Nat.reduceMul, Nat.reduceLT, Int.reduceToNat, Int.reduceLT, Int.reduceLE, Int.reduceEq, Nat.reduceSub, BEq.rfl, implies_true]
  · have h1 : ((a.length : Int) != (b.length : Int)) = true := by simp; omega
    have h2 : (a == b) = false := by simp; intro h; exact hlen (by rw [h])
    simp only [h1, h2, go_sem, Nat.reduceEqDiff, reduceCtorEq, Nat.reduceAdd, Nat.reduceLeDiff, Nat.reduceMul, Nat.reduceLT, Int.reduceToNat, Int.reduceLT, Int.reduceLE, Int.reduceEq, Nat.reduceSub]
end Go.Abs
end
section
set_option linter.unusedSimpArgs false
set_option linter.unusedVariables false
set_option linter.unusedSectionVars false
namespace Go.Abs
def plainS (s : Str) : Bool := s == sInt || s == sBool || s == sCell
def allS (l : List Str) (s : Str) : Bool := l.all (· == s)
/-- the sort of an operation -/
def opS (o : Int) (l : List Str) : Str × Int :=
  if o == 6 || o == 7 || o == 8 || o == 9 then (if allS l sInt then (sInt, 0) else ([], 11))
  else if o == 12 || o == 13 then (if allS l sInt then (sBool, 0) else ([], 11))
  else if o == 10 || o == 11 then (if l.getD 0 [] == l.getD 1 [] then (sBool, 0) else ([], 11))
  else if allS l sBool then (sBool, 0) else ([], 11)
/-- the sort of an application -/
def appS (v : SEnv) (s : Str) (l : List Str) : Str × Int :=
  if !(findSym v.syms s).2 then ([], 5)
  else if s == sTag then (if (l.length : Int) != 1 then ([], 13) else if plainS (l.getD 0 []) then ([], 11) else (sInt, 0))
  else if (l.length : Int) != (findSym v.syms s).1.args.length then ([], 13)
  else if !(l == (findSym v.syms s).1.args) then ([], 11) else ((findSym v.syms s).1.res, 0)
/-- the sort of an applied hole -/
def holeS (v : SEnv) (s : Str) (l : List Str) : Str × Int :=
  if !(findHole v.holes s).2 then ([], 5)
  else if (l.length : Int) != (findHole v.holes s).1.params.length then ([], 13)
  else if !(l == (findHole v.holes s).1.params.map SVar.sort) then ([], 11) else (sBool, 0)
def two (r : Str × Int) : CV := .tup [.one (.str r.1), .one (.int .i64 r.2)]
theorem all_mid {l a r : List Str} {x s : Str} (hl : l = a ++ x :: r) (ha : ∀ y ∈ a, (y == s) = true) : allS l s = ((x == s) && allS r s) := by
  rw [hl]; unfold allS
  rw [List.all_append, List.all_cons, List.all_eq_true.2 ha, Bool.true_and]
theorem all_all {a : List Str} {s : Str} (ha : ∀ y ∈ a, (y == s) = true) : allS a s = true := List.all_eq_true.2 ha
theorem map_mid {α β : Type} {f : α → β} {l : List α} {a b : List β} {x : β} (h : l.map f = a ++ x :: b) : ∃ a' y b', l = a' ++ y :: b' ∧ a'.map f = a ∧ x = f y := by
  obtain ⟨a', r, h1, h2, h3⟩ := List.map_eq_append_iff.1 h
  obtain ⟨p, b', h4, h5, h6⟩ := List.map_eq_cons_iff.1 h3
  exact ⟨a', p, b', by rw [h1, h4], h2, h5.symm⟩
variable {E : AEnv} (Z : Sys E)
include Z
theorem sorting_plain_ev (s : Str) : E.C sorting_plain [.one (.str s)] (.one (.bool (plainS s))) := by
  refine Z.sorting_plain _ _ ⟨Nat.le_of_ble_eq_true rfl, ?_⟩
  simp only [fn_sorting_plain, go_sem, Nat.reduceEqDiff, reduceCtorEq, Nat.reduceAdd, Nat.reduceLeDiff, Nat.reduceMul, Nat.reduceLT, Int.reduceToNat, Int.reduceLT, Int.reduceLE, Int.reduceEq, Nat.reduceSub, plainS, sInt, sBool, sCell]
theorem r09_all_ev (l : List Str) (s : Str) : E.C r09_all [.one (.lst (l.map scell)), .one (.str s)] (.one (.bool (allS l s))) := by
  refine Z.r09_all _ _ ⟨Nat.le_of_ble_eq_true rfl, ?_⟩
  generalize hR : allS l s = R
  simp only [fn_r09_all, go_sem, Nat.reduceEqDiff, reduceCtorEq, Nat.reduceAdd, Nat.reduceLeDiff, Nat.reduceMul, Nat.reduceLT, Int.reduceToNat, Int.reduceLT, Int.reduceLE, Int.reduceEq, Nat.reduceSub]
  refine loop_list l (fun done => ∀ y ∈ done, (y == s) = true) (fun done rest => ⟨[(5, .d (.int .i64 done.length)), (0, .d (.lst (l.map scell))), (1, .d (.str s))], [], []⟩) ?_ (by simp) ?_ ?_
  · exact Ent_plain (by simp only [go_sem, Nat.reduceEqDiff, reduceCtorEq, Nat.reduceAdd, Nat.reduceLeDiff, Nat.reduceMul, Nat.reduceLT, Int.reduceToNat, Int.reduceLT, Int.reduceLE, Int.reduceEq, Nat.reduceSub])
  · intro done x r hl hI
    have hx := getD_at (f := scell) (d := []) hl
    have hlt := lt_mid hl
    rw [all_mid hl hI] at hR
    simp only [fn_r09_all_L1, go_sem, Nat.reduceEqDiff, reduceCtorEq, Nat.reduceAdd, Nat.reduceLeDiff, Nat.reduceMul, Nat.reduceLT, Int.reduceToNat, Int.reduceLT, Int.reduceLE, Int.reduceEq, Nat.reduceSub, hx, hlt, scell]
    intro hlen
    have hw : IntKind.i64.wrap ((done.length : Int) + 1) = ((done.length + 1 : Nat) : Int) := wrap_succ (by omega)
    cases h1 : (x == s) with
    | true =>
      simp only [h1, go_sem, Nat.reduceEqDiff, reduceCtorEq, Nat.reduceAdd, Nat.reduceLeDiff, Nat.reduceMul, Nat.reduceLT, Int.reduceToNat, Int.reduceLT, Int.reduceLE, Int.reduceEq, Nat.reduceSub, hw, List.length_append]
      exact ⟨Ent_plain (by simp only [go_sem, Nat.reduceEqDiff, reduceCtorEq, Nat.reduceAdd, Nat.reduceLeDiff, Nat.reduceMul, Nat.reduceLT, Int.reduceToNat, Int.reduceLT, Int.reduceLE, Int.reduceEq, Nat.reduceSub]), app_all hI h1⟩
    | false => simp only [h1, go_sem, Nat.reduceEqDiff, reduceCtorEq, Nat.reduceAdd, Nat.reduceLeDiff, Nat.reduceMul, Nat.reduceLT, Int.reduceToNat, Int.reduceLT, Int.reduceLE, Int.reduceEq, Nat.reduceSub] at hR ⊢; exact hR
  · intro hI
    rw [all_all hI] at hR
    subst hR
    simp only [fn_r09_all_L1, go_sem, Nat.reduceEqDiff, reduceCtorEq, Nat.reduceAdd, Nat.reduceLeDiff, Nat.reduceMul, Nat.reduceLT, Int.reduceToNat, Int.reduceLT, Int.reduceLE, Int.reduceEq, Nat.reduceSub, implies_true]
theorem sorting_all_ev (s : Str) : E.C sorting_all [.one (.str s)] (.one (.clo sorting_all_1 [.ref [.str s]])) := by
  refine Z.sorting_all _ _ ⟨Nat.le_of_ble_eq_true rfl, ?_⟩
  simp only [fn_sorting_all, go_sem, Nat.reduceEqDiff, reduceCtorEq, Nat.reduceAdd, Nat.reduceLeDiff, Nat.reduceMul, Nat.reduceLT, Int.reduceToNat, Int.reduceLT, Int.reduceLE, Int.reduceEq, Nat.reduceSub]
  rfl
theorem sorting_all_1_ev (l : List Str) (s : Str) : E.C sorting_all_1 [.one (.lst (l.map scell)), .one (.ref [.str s])] (.one (.bool (allS l s))) := by
  refine Z.sorting_all_1 _ _ ⟨Nat.le_of_ble_eq_true rfl, ?_⟩
  generalize hR : allS l s = R
  simp only [fn_sorting_all_1, go_sem, Nat.reduceEqDiff, reduceCtorEq, Nat.reduceAdd, Nat.reduceLeDiff, Nat.reduceMul, Nat.reduceLT, Int.reduceToNat, Int.reduceLT, Int.reduceLE, Int.reduceEq, Nat.reduceSub]
  intro hlen
  refine loop_list l (fun done => ∀ y ∈ done, (y == s) = true) (fun done rest => ⟨[(8, .d (.int .i64 done.length)), (7, .d (.int .i64 l.length)), (6, .d (.lst (l.map scell))), (1, .d (.ref [.str s]))], [], []⟩) ?_ (by simp) ?_ ?_
  · exact Ent_plain (by simp only [go_sem, Nat.reduceEqDiff, reduceCtorEq, Nat.reduceAdd, Nat.reduceLeDiff, Nat.reduceMul, Nat.reduceLT, Int.reduceToNat, Int.reduceLT, Int.reduceLE, Int.reduceEq, Nat.reduceSub])
  · intro done x r hl hI
    have hx := getD_at (f := scell) (d := []) hl
    have hlt := lt_mid hl
    have hw : IntKind.i64.wrap ((done.length : Int) + 1) = ((done.length + 1 : Nat) : Int) := wrap_succ (by omega)
    rw [all_mid hl hI] at hR
    simp only [fn_sorting_all_1_L1, go_sem, Nat.reduceEqDiff, reduceCtorEq, Nat.reduceAdd, Nat.reduceLeDiff, Nat.reduceMul, Nat.reduceLT, Int.reduceToNat, Int.reduceLT, Int.reduceLE, Int.reduceEq, Nat.reduceSub, hx, hlt, scell]
    cases h1 : (x == s) with
    | true =>
      simp only [h1, go_sem, Nat.reduceEqDiff, reduceCtorEq, Nat.reduceAdd, Nat.reduceLeDiff, Nat.reduceMul, Nat.reduceLT, Int.reduceToNat, Int.reduceLT, Int.reduceLE, Int.reduceEq, Nat.reduceSub, hw, List.length_append]
      exact ⟨Ent_plain (by simp only [go_sem, Nat.reduceEqDiff, reduceCtorEq, Nat.reduceAdd, Nat.reduceLeDiff, Nat.reduceMul, Nat.reduceLT, Int.reduceToNat, Int.reduceLT, Int.reduceLE, Int.reduceEq, Nat.reduceSub]), app_all hI h1⟩
    | false => simp only [h1, go_sem, Nat.reduceEqDiff, reduceCtorEq, Nat.reduceAdd, Nat.reduceLeDiff, Nat.reduceMul, Nat.reduceLT, Int.reduceToNat, Int.reduceLT, Int.reduceLE, Int.reduceEq, Nat.reduceSub] at hR ⊢; exact hR
  · intro hI
    rw [all_all hI] at hR
    subst hR
    simp only [fn_sorting_all_1_L1, go_sem, Nat.reduceEqDiff, reduceCtorEq, Nat.reduceAdd, Nat.reduceLeDiff, Nat.reduceMul, Nat.reduceLT, Int.reduceToNat, Int.reduceLT, Int.reduceLE, Int.reduceEq, Nat.reduceSub]
theorem sorting_ruleOf_1_ev (l : List Str) (hl : 2 ≤ l.length) : E.C sorting_ruleOf_1 [.one (.lst (l.map scell))] (.one (.bool (l.getD 0 [] == l.getD 1 []))) := by
  match l, hl with
  | a :: b :: r, _ =>
    refine Z.sorting_ruleOf_1 _ _ ⟨Nat.le_of_ble_eq_true rfl, ?_⟩
    have h := scell_lens (a :: b :: r)
    have h1 : (0 : Int) < ((r.length + 1 + 1 : Nat) : Int) := by omega
    have h2 : (1 : Int) < ((r.length + 1 + 1 : Nat) : Int) := by omega
    simp only [List.map_cons] at h
    simp only [fn_sorting_ruleOf_1, go_sem, Nat.reduceEqDiff, reduceCtorEq, Nat.reduceAdd, Nat.reduceLeDiff, Nat.reduceMul, Nat.reduceLT, Int.reduceToNat, Int.reduceLT, Int.reduceLE, Int.reduceEq, Nat.reduceSub, h, scell, h1, h2] at h ⊢
/-- the rule of an operation: which function, and the result -/
def ruleS (o : Int) : D × Str :=
  if o == 6 || o == 7 || o == 8 || o == 9 then (.clo sorting_all_1 [.ref [.str sInt]], sInt)
  else if o == 12 || o == 13 then (.clo sorting_all_1 [.ref [.str sInt]], sBool)
  else if o == 10 || o == 11 then (.clo sorting_ruleOf_1 [], sBool)
  else (.clo sorting_all_1 [.ref [.str sBool]], sBool)
theorem sorting_ruleOf_ev (o : Int) : E.C sorting_ruleOf [.one (.int .i64 o)] (.agg [(ruleS o).1, .str (ruleS o).2]) := by
  refine Z.sorting_ruleOf _ _ ⟨Nat.le_of_ble_eq_true rfl, ?_⟩
  generalize hR : ruleS o = R
  unfold ruleS at hR
  have ha := sorting_all_ev Z sInt
  have hb := sorting_all_ev Z sBool
  simp only [sInt, sBool] at ha hb hR
  simp only [fn_sorting_ruleOf, go_sem, Nat.reduceEqDiff, reduceCtorEq, Nat.reduceAdd, Nat.reduceLeDiff, Nat.reduceMul, Nat.reduceLT, Int.reduceToNat, Int.reduceLT, Int.reduceLE, Int.reduceEq, Nat.reduceSub]
  cases h6 : (o == 6) <;> cases h7 : (o == 7) <;> cases h8 : (o == 8) <;> cases h9 : (o == 9) <;> cases h12 : (o == 12) <;> cases h13 : (o == 13) <;> cases h10 : (o == 10) <;> cases h11 : (o == 11) <;>
    first
    | (exfalso; simp at *; omega)
    | (simp only [go_sem, Nat.reduceEqDiff, reduceCtorEq, Nat.reduceAdd, Nat.reduceLeDiff, Nat.reduceMul, Nat.reduceLT, Int.reduceToNat, Int.reduceLT, Int.reduceLE, Int.reduceEq, Nat.reduceSub, h6, h7, h8, h9, h10, h11, h12, h13] at hR ⊢; first | (refine call_by ha ?_; simp only [go_sem, Nat.reduceEqDiff, reduceCtorEq, Nat.reduceAdd, Nat.reduceLeDiff, Nat.reduceMul, Nat.reduceLT, Int.reduceToNat, Int.reduceLT, Int.reduceLE, Int.reduceEq, Nat.reduceSub, ← hR]) | (refine call_by hb ?_; simp only [go_sem, Nat.reduceEqDiff, reduceCtorEq, Nat.reduceAdd, Nat.reduceLeDiff, Nat.reduceMul, Nat.reduceLT, Int.reduceToNat, Int.reduceLT, Int.reduceLE, Int.reduceEq, Nat.reduceSub, ← hR]) | simp only [go_sem, Nat.reduceEqDiff, reduceCtorEq, Nat.reduceAdd, Nat.reduceLeDiff, Nat.reduceMul, Nat.reduceLT, Int.reduceToNat, Int.reduceLT, Int.reduceLE, Int.reduceEq, Nat.reduceSub, ← hR])
theorem sorting_applied_ev (v : SEnv) (hv : v.Ok) (s : Str) (l : List Str) : E.C sorting_applied [.agg v.cells, .one (.str s), .one (.lst (l.map scell))] (two (appS v s l)) := by
  have hf := sort_Find_ev Z v hv s
  refine Z.sorting_applied _ _ ⟨Nat.le_of_ble_eq_true rfl, ?_⟩
  generalize hR : appS v s l = R
  unfold appS at hR
  unfold two
  rw [SEnv.cells] at *
  simp only [fn_sorting_applied, go_sem, Nat.reduceEqDiff, reduceCtorEq, Nat.reduceAdd, Nat.reduceLeDiff, Nat.reduceMul, Nat.reduceLT, Int.reduceToNat, Int.reduceLT, Int.reduceLE, Int.reduceEq, Nat.reduceSub]
  refine call_by hf ?_
  have htag : (s == sTag) = true → (findSym v.syms s).1.res = sInt := by intro h; unfold findSym; rw [if_pos h]
  generalize findSym v.syms s = q at *
  obtain ⟨⟨qn, qa, qr⟩, qb⟩ := q
  simp only [go_sem, Nat.reduceEqDiff, reduceCtorEq, Nat.reduceAdd, Nat.reduceLeDiff, Nat.reduceMul, Nat.reduceLT, Int.reduceToNat, Int.reduceLT, Int.reduceLE, Int.reduceEq, Nat.reduceSub, SSym.cells] at hR ⊢
  cases qb with
  | false => simp only [go_sem, Nat.reduceEqDiff, reduceCtorEq, Nat.reduceAdd, Nat.reduceLeDiff, Nat.reduceMul, Nat.reduceLT, Int.reduceToNat, Int.reduceLT, Int.reduceLE, Int.reduceEq, Nat.reduceSub] at hR ⊢; simp only [go_sem, Nat.reduceEqDiff, reduceCtorEq, Nat.reduceAdd, Nat.reduceLeDiff, Nat.reduceMul, Nat.reduceLT, Int.reduceToNat, Int.reduceLT, Int.reduceLE, Int.reduceEq, Nat.reduceSub, ← hR]
  | true =>
  simp only [go_sem, Nat.reduceEqDiff, reduceCtorEq, Nat.reduceAdd, Nat.reduceLeDiff, Nat.reduceMul, Nat.reduceLT, Int.reduceToNat, Int.reduceLT, Int.reduceLE, Int.reduceEq, Nat.reduceSub] at hR ⊢
  cases h1 : (s == sTag) with
  | true =>
    have h1' := h1
    simp only [sTag] at h1'
    have hq := htag h1
    simp only at hq
    simp only [go_sem, Nat.reduceEqDiff, reduceCtorEq, Nat.reduceAdd, Nat.reduceLeDiff, Nat.reduceMul, Nat.reduceLT, Int.reduceToNat, Int.reduceLT, Int.reduceLE, Int.reduceEq, Nat.reduceSub, h1, h1'] at hR ⊢
    intro hlen
    cases h2 : ((l.length : Int) != 1) with
    | true => simp only [go_sem, Nat.reduceEqDiff, reduceCtorEq, Nat.reduceAdd, Nat.reduceLeDiff, Nat.reduceMul, Nat.reduceLT, Int.reduceToNat, Int.reduceLT, Int.reduceLE, Int.reduceEq, Nat.reduceSub, h2] at hR ⊢; simp only [go_sem, Nat.reduceEqDiff, reduceCtorEq, Nat.reduceAdd, Nat.reduceLeDiff, Nat.reduceMul, Nat.reduceLT, Int.reduceToNat, Int.reduceLT, Int.reduceLE, Int.reduceEq, Nat.reduceSub, ← hR]
    | false =>
      simp only [go_sem, Nat.reduceEqDiff, reduceCtorEq, Nat.reduceAdd, Nat.reduceLeDiff, Nat.reduceMul, Nat.reduceLT, Int.reduceToNat, Int.reduceLT, Int.reduceLE, Int.reduceEq, Nat.reduceSub, h2] at hR ⊢
      have h3 : l.length = 1 := by simp at h2; omega
      match l, h3 with
      | [x], _ =>
        simp only [go_sem, Nat.reduceEqDiff, reduceCtorEq, Nat.reduceAdd, Nat.reduceLeDiff, Nat.reduceMul, Nat.reduceLT, Int.reduceToNat, Int.reduceLT, Int.reduceLE, Int.reduceEq, Nat.reduceSub, scell] at hR ⊢
        refine call_by (sorting_plain_ev Z x) ?_
        cases h4 : plainS x <;> simp only [go_sem, Nat.reduceEqDiff, reduceCtorEq, Nat.reduceAdd, Nat.reduceLeDiff, Nat.reduceMul, Nat.reduceLT, Int.reduceToNat, Int.reduceLT, Int.reduceLE, Int.reduceEq, Nat.reduceSub, h4] at hR ⊢ <;> simp only [go_sem, Nat.reduceEqDiff, reduceCtorEq, Nat.reduceAdd, Nat.reduceLeDiff, Nat.reduceMul, Nat.reduceLT, Int.reduceToNat, Int.reduceLT, Int.reduceLE, Int.reduceEq, Nat.reduceSub, ← hR, hq]
  | false =>
    have h1' := h1
    simp only [sTag] at h1'
    simp only [go_sem, Nat.reduceEqDiff, reduceCtorEq, Nat.reduceAdd, Nat.reduceLeDiff, Nat.reduceMul, Nat.reduceLT, Int.reduceToNat, Int.reduceLT, Int.reduceLE, Int.reduceEq, Nat.reduceSub, h1, h1'] at hR ⊢
    intro hlen hlen2
    by_cases h2 : l.length = qa.length
    · have h3 : ((l.length : Int) != (qa.length : Int)) = false := by simp [h2]
      simp only [go_sem, Nat.reduceEqDiff, reduceCtorEq, Nat.reduceAdd, Nat.reduceLeDiff, Nat.reduceMul, Nat.reduceLT, Int.reduceToNat, Int.reduceLT, Int.reduceLE, Int.reduceEq, Nat.reduceSub, h3] at hR ⊢
      intro _
      refine loop_list l (fun done => qa.take done.length = done) (fun done rest => ⟨[(39, .d (.int .i64 done.length)), (38, .d (.int .i64 l.length)), (37, .d (.lst (l.map scell))), (8, .ptr 8 0)], [(8, [.d (.str qn), .d (.lst (qa.map scell)), .d (.str qr)])], []⟩) ?_ (by simp) ?_ ?_
      · exact Ent_plain (by simp only [go_sem, Nat.reduceEqDiff, reduceCtorEq, Nat.reduceAdd, Nat.reduceLeDiff, Nat.reduceMul, Nat.reduceLT, Int.reduceToNat, Int.reduceLT, Int.reduceLE, Int.reduceEq, Nat.reduceSub, Option.isSome_some])
      · intro done x r hl hI
        obtain ⟨y, r', hb⟩ := prefix_split hI (by rw [← h2, hl]; simp)
        have hx := getD_at (f := scell) (d := []) hl
        have hy := getD_at (f := scell) (d := []) hb
        have hlt := lt_mid hl
        have hlt2 := lt_mid hb
        have hw : IntKind.i64.wrap ((done.length : Int) + 1) = ((done.length + 1 : Nat) : Int) := wrap_succ (by omega)
        simp only [fn_sorting_applied_L1, go_sem, Nat.reduceEqDiff, reduceCtorEq, Nat.reduceAdd, Nat.reduceLeDiff, Nat.reduceMul, Nat.reduceLT, Int.reduceToNat, Int.reduceLT, Int.reduceLE, Int.reduceEq, Nat.reduceSub, hx, hy, hlt, hlt2, scell]
        cases h4 : (x == y) with
        | true =>
          have : x = y := by simpa using h4
          subst this
          simp only [go_sem, Nat.reduceEqDiff, reduceCtorEq, Nat.reduceAdd, Nat.reduceLeDiff, Nat.reduceMul, Nat.reduceLT, Int.reduceToNat, Int.reduceLT, Int.reduceLE, Int.reduceEq, Nat.reduceSub, hw, List.length_append]
          exact ⟨Ent_plain (by simp only [go_sem, Nat.reduceEqDiff, reduceCtorEq, Nat.reduceAdd, Nat.reduceLeDiff, Nat.reduceMul, Nat.reduceLT, Int.reduceToNat, Int.reduceLT, Int.reduceLE, Int.reduceEq, Nat.reduceSub, Option.isSome_some]), by rw [hb, show done ++ x :: r' = (done ++ [x]) ++ r' by simp]; exact List.take_left' (by simp)⟩
        | false =>
          have h5 : (l == qa) = false := by
            simp only [beq_eq_false_iff_ne, ne_eq] at h4 ⊢
            intro e
            rw [hl, hb] at e
            exact h4 (List.cons.inj (List.append_cancel_left e)).1
          simp only [go_sem, Nat.reduceEqDiff, reduceCtorEq, Nat.reduceAdd, Nat.reduceLeDiff, Nat.reduceMul, Nat.reduceLT, Int.reduceToNat, Int.reduceLT, Int.reduceLE, Int.reduceEq, Nat.reduceSub, h5] at hR ⊢
          simp only [go_sem, Nat.reduceEqDiff, reduceCtorEq, Nat.reduceAdd, Nat.reduceLeDiff, Nat.reduceMul, Nat.reduceLT, Int.reduceToNat, Int.reduceLT, Int.reduceLE, Int.reduceEq, Nat.reduceSub, ← hR]
      · intro hI
        have h5 : l = qa := by rw [← hI, h2, List.take_length]
        subst h5
        simp only [go_sem, Nat.reduceEqDiff, reduceCtorEq, Nat.reduceAdd, Nat.reduceLeDiff, Nat.reduceMul, Nat.reduceLT, Int.reduceToNat, Int.reduceLT, Int.reduceLE, Int.reduceEq, Nat.reduceSub, BEq.rfl] at hR
        simp only [fn_sorting_applied_L1, go_sem, Nat.reduceEqDiff, reduceCtorEq, Nat.reduceAdd, Nat.reduceLeDiff, Nat.reduceMul, Nat.reduceLT, Int.reduceToNat, Int.reduceLT, Int.reduceLE, Int.reduceEq, Nat.reduceSub, ← hR]
    · have h3 : ((l.length : Int) != (qa.length : Int)) = true := by simp; omega
      simp only [go_sem, Nat.reduceEqDiff, reduceCtorEq, Nat.reduceAdd, Nat.reduceLeDiff, Nat.reduceMul, Nat.reduceLT, Int.reduceToNat, Int.reduceLT, Int.reduceLE, Int.reduceEq, Nat.reduceSub, h3] at hR ⊢
      simp only [go_sem, Nat.reduceEqDiff, reduceCtorEq, Nat.reduceAdd, Nat.reduceLeDiff, Nat.reduceMul, Nat.reduceLT, Int.reduceToNat, Int.reduceLT, Int.reduceLE, Int.reduceEq, Nat.reduceSub, ← hR]
theorem sorting_filled_ev (v : SEnv) (hv : v.Ok) (s : Str) (l : List Str) : E.C sorting_filled [.agg v.cells, .one (.str s), .one (.lst (l.map scell))] (two (holeS v s l)) := by
  have hf := sort_Hole_ev Z v hv s
  refine Z.sorting_filled _ _ ⟨Nat.le_of_ble_eq_true rfl, ?_⟩
  generalize hR : holeS v s l = R
  unfold holeS at hR
  unfold two
  rw [SEnv.cells] at *
  simp only [fn_sorting_filled, go_sem, Nat.reduceEqDiff, reduceCtorEq, Nat.reduceAdd, Nat.reduceLeDiff, Nat.reduceMul, Nat.reduceLT, Int.reduceToNat, Int.reduceLT, Int.reduceLE, Int.reduceEq, Nat.reduceSub]
  refine call_by hf ?_
  generalize findHole v.holes s = q at *
  obtain ⟨⟨qn, qa⟩, qb⟩ := q
  simp only [go_sem, Nat.reduceEqDiff, reduceCtorEq, Nat.reduceAdd, Nat.reduceLeDiff, Nat.reduceMul, Nat.reduceLT, Int.reduceToNat, Int.reduceLT, Int.reduceLE, Int.reduceEq, Nat.reduceSub, SHole.cells] at hR ⊢
  cases qb with
  | false => simp only [go_sem, Nat.reduceEqDiff, reduceCtorEq, Nat.reduceAdd, Nat.reduceLeDiff, Nat.reduceMul, Nat.reduceLT, Int.reduceToNat, Int.reduceLT, Int.reduceLE, Int.reduceEq, Nat.reduceSub] at hR ⊢; simp only [go_sem, Nat.reduceEqDiff, reduceCtorEq, Nat.reduceAdd, Nat.reduceLeDiff, Nat.reduceMul, Nat.reduceLT, Int.reduceToNat, Int.reduceLT, Int.reduceLE, Int.reduceEq, Nat.reduceSub, ← hR]
  | true =>
  simp only [go_sem, Nat.reduceEqDiff, reduceCtorEq, Nat.reduceAdd, Nat.reduceLeDiff, Nat.reduceMul, Nat.reduceLT, Int.reduceToNat, Int.reduceLT, Int.reduceLE, Int.reduceEq, Nat.reduceSub] at hR ⊢
  intro hlen hlen2
  by_cases h2 : l.length = qa.length
  · have h3 : ((l.length : Int) != (qa.length : Int)) = false := by simp [h2]
    simp only [go_sem, Nat.reduceEqDiff, reduceCtorEq, Nat.reduceAdd, Nat.reduceLeDiff, Nat.reduceMul, Nat.reduceLT, Int.reduceToNat, Int.reduceLT, Int.reduceLE, Int.reduceEq, Nat.reduceSub, h3] at hR ⊢
    intro _
    refine loop_list l (fun done => (qa.map SVar.sort).take done.length = done) (fun done rest => ⟨[(28, .d (.int .i64 done.length)), (27, .d (.int .i64 l.length)), (26, .d (.lst (l.map scell))), (8, .ptr 8 0)], [(8, [.d (.str qn), .d (.lst (qa.map SVar.cells))])], []⟩) ?_ (by simp) ?_ ?_
    · exact Ent_plain (by simp only [go_sem, Nat.reduceEqDiff, reduceCtorEq, Nat.reduceAdd, Nat.reduceLeDiff, Nat.reduceMul, Nat.reduceLT, Int.reduceToNat, Int.reduceLT, Int.reduceLE, Int.reduceEq, Nat.reduceSub, Option.isSome_some])
    · intro done x r hl hI
      obtain ⟨y0, r0, hb0⟩ := prefix_split hI (by rw [List.length_map, ← h2, hl]; simp)
      obtain ⟨da, y, r', hb, hda, rfl⟩ := map_mid hb0
      have hx := getD_at (f := scell) (d := []) hl
      have hy := getD_at (f := SVar.cells) (d := []) hb
      have hdl : da.length = done.length := by rw [← hda]; simp
      rw [hdl] at hy
      have hlt := lt_mid hl
      have hlt2 := lt_mid hb
      rw [hdl] at hlt2
      have hw : IntKind.i64.wrap ((done.length : Int) + 1) = ((done.length + 1 : Nat) : Int) := wrap_succ (by omega)
      simp only [fn_sorting_filled_L1, go_sem, Nat.reduceEqDiff, reduceCtorEq, Nat.reduceAdd, Nat.reduceLeDiff, Nat.reduceMul, Nat.reduceLT, Int.reduceToNat, Int.reduceLT, Int.reduceLE, Int.reduceEq, Nat.reduceSub, hx, hy, hlt, hlt2, scell, SVar.cells]
      cases h4 : (x == y.sort) with
      | true =>
        have hxy : x = y.sort := by simpa using h4
        simp only [go_sem, Nat.reduceEqDiff, reduceCtorEq, Nat.reduceAdd, Nat.reduceLeDiff, Nat.reduceMul, Nat.reduceLT, Int.reduceToNat, Int.reduceLT, Int.reduceLE, Int.reduceEq, Nat.reduceSub, hw, List.length_append]
        exact ⟨Ent_plain (by simp only [go_sem, Nat.reduceEqDiff, reduceCtorEq, Nat.reduceAdd, Nat.reduceLeDiff, Nat.reduceMul, Nat.reduceLT, Int.reduceToNat, Int.reduceLT, Int.reduceLE, Int.reduceEq, Nat.reduceSub, Option.isSome_some]), by rw [hb0, ← hxy, show done ++ x :: r0 = (done ++ [x]) ++ r0 by simp]; exact List.take_left' (by simp)⟩
      | false =>
        have h5 : (l == qa.map SVar.sort) = false := by
          simp only [beq_eq_false_iff_ne, ne_eq] at h4 ⊢
          intro e
          rw [hl, hb0] at e
          exact h4 (List.cons.inj (List.append_cancel_left e)).1
        simp only [go_sem, Nat.reduceEqDiff, reduceCtorEq, Nat.reduceAdd, Nat.reduceLeDiff, Nat.reduceMul, Nat.reduceLT, Int.reduceToNat, Int.reduceLT, Int.reduceLE, Int.reduceEq, Nat.reduceSub, h5] at hR ⊢
        simp only [go_sem, Nat.reduceEqDiff, reduceCtorEq, Nat.reduceAdd, Nat.reduceLeDiff, Nat.reduceMul, Nat.reduceLT, Int.reduceToNat, Int.reduceLT, Int.reduceLE, Int.reduceEq, Nat.reduceSub, ← hR]
    · intro hI
      have h5 : (l == qa.map SVar.sort) = true := by
        have e : (qa.map SVar.sort).take l.length = qa.map SVar.sort := List.take_of_length_le (by rw [List.length_map, h2]; exact Nat.le_refl _)
        rw [beq_iff_eq]; exact hI.symm.trans e
      simp only [go_sem, Nat.reduceEqDiff, reduceCtorEq, Nat.reduceAdd, Nat.reduceLeDiff, Nat.reduceMul, Nat.reduceLT, Int.reduceToNat, Int.reduceLT, Int.reduceLE, Int.reduceEq, Nat.reduceSub, h5] at hR
      simp only [fn_sorting_filled_L1, go_sem, Nat.reduceEqDiff, reduceCtorEq, Nat.reduceAdd, Nat.reduceLeDiff, Nat.reduceMul, Nat.reduceLT, Int.reduceToNat, Int.reduceLT, Int.reduceLE, Int.reduceEq, Nat.reduceSub, ← hR, sBool]
  · have h3 : ((l.length : Int) != (qa.length : Int)) = true := by simp; omega
    simp only [go_sem, Nat.reduceEqDiff, reduceCtorEq, Nat.reduceAdd, Nat.reduceLeDiff, Nat.reduceMul, Nat.reduceLT, Int.reduceToNat, Int.reduceLT, Int.reduceLE, Int.reduceEq, Nat.reduceSub, h3] at hR ⊢
    simp only [go_sem, Nat.reduceEqDiff, reduceCtorEq, Nat.reduceAdd, Nat.reduceLeDiff, Nat.reduceMul, Nat.reduceLT, Int.reduceToNat, Int.reduceLT, Int.reduceLE, Int.reduceEq, Nat.reduceSub, ← hR]
end Go.Abs
end
section
set_option linter.unusedSimpArgs false
set_option linter.unusedVariables false
set_option linter.unusedSectionVars false
namespace Go.Abs
/-- the sort of a node whose kids have these sorts -/
def nodeS (v : SEnv) (o : Int) (s : Str) (l : List Str) : Str × Int :=
  if o == 1 then (sInt, 0) else if o == 2 then (sBool, 0)
  else if o == 3 then (if !(findVar v.vars s).2 then ([], 5) else ((findVar v.vars s).1, 0))
  else if o == 4 then appS v s l else if o == 5 then holeS v s l else opS o l
theorem two_split {α : Type} {l : List α} (h : 2 ≤ l.length) : ∃ a b r, l = a :: b :: r := by
  match l, h with
  | a :: b :: r, _ => exact ⟨a, b, r, rfl⟩
set_option maxRecDepth 100000
variable {E : AEnv} (Z : Sys E)
include Z
theorem r09_app_ev (v : SEnv) (s : Str) (l : List Str) : E.C r09_app [.agg v.cells, .one (.str s), .one (.lst (l.map scell))] (two (appS v s l)) := by
  have hf := r06_Find_ev Z v s
  refine Z.r09_app _ _ ⟨Nat.le_of_ble_eq_true rfl, ?_⟩
  generalize hR : appS v s l = R
  unfold appS at hR
  unfold two
  rw [SEnv.cells] at *
  simp only [fn_r09_app, go_sem, Nat.reduceEqDiff, reduceCtorEq, Nat.reduceAdd, Nat.reduceLeDiff, Nat.reduceMul, Nat.reduceLT, Int.reduceToNat, Int.reduceLT, Int.reduceLE, Int.reduceEq, Nat.reduceSub]
  refine call_by hf ?_
  have htag : (s == sTag) = true → (findSym v.syms s).1.res = sInt := by intro h; unfold findSym; rw [if_pos h]
  generalize findSym v.syms s = q at *
  obtain ⟨⟨qn, qa, qr⟩, qb⟩ := q
  simp only [go_sem, Nat.reduceEqDiff, reduceCtorEq, Nat.reduceAdd, Nat.reduceLeDiff, Nat.reduceMul, Nat.reduceLT, Int.reduceToNat, Int.reduceLT, Int.reduceLE, Int.reduceEq, Nat.reduceSub, SSym.cells] at hR ⊢
  cases qb with
  | false => simp only [go_sem, Nat.reduceEqDiff, reduceCtorEq, Nat.reduceAdd, Nat.reduceLeDiff, Nat.reduceMul, Nat.reduceLT, Int.reduceToNat, Int.reduceLT, Int.reduceLE, Int.reduceEq, Nat.reduceSub] at hR ⊢; simp only [go_sem, Nat.reduceEqDiff, reduceCtorEq, Nat.reduceAdd, Nat.reduceLeDiff, Nat.reduceMul, Nat.reduceLT, Int.reduceToNat, Int.reduceLT, Int.reduceLE, Int.reduceEq, Nat.reduceSub, ← hR]
  | true =>
  simp only [go_sem, Nat.reduceEqDiff, reduceCtorEq, Nat.reduceAdd, Nat.reduceLeDiff, Nat.reduceMul, Nat.reduceLT, Int.reduceToNat, Int.reduceLT, Int.reduceLE, Int.reduceEq, Nat.reduceSub] at hR ⊢
  cases h1 : (s == sTag) with
  | true =>
    have h1' := h1
    simp only [sTag] at h1'
    simp only [go_sem, Nat.reduceEqDiff, reduceCtorEq, Nat.reduceAdd, Nat.reduceLeDiff, Nat.reduceMul, Nat.reduceLT, Int.reduceToNat, Int.reduceLT, Int.reduceLE, Int.reduceEq, Nat.reduceSub, h1, h1'] at hR ⊢
    intro hlen
    cases h2 : ((l.length : Int) != 1) with
    | true => simp only [go_sem, Nat.reduceEqDiff, reduceCtorEq, Nat.reduceAdd, Nat.reduceLeDiff, Nat.reduceMul, Nat.reduceLT, Int.reduceToNat, Int.reduceLT, Int.reduceLE, Int.reduceEq, Nat.reduceSub, h2] at hR ⊢; simp only [go_sem, Nat.reduceEqDiff, reduceCtorEq, Nat.reduceAdd, Nat.reduceLeDiff, Nat.reduceMul, Nat.reduceLT, Int.reduceToNat, Int.reduceLT, Int.reduceLE, Int.reduceEq, Nat.reduceSub, ← hR]
    | false =>
      simp only [go_sem, Nat.reduceEqDiff, reduceCtorEq, Nat.reduceAdd, Nat.reduceLeDiff, Nat.reduceMul, Nat.reduceLT, Int.reduceToNat, Int.reduceLT, Int.reduceLE, Int.reduceEq, Nat.reduceSub, h2] at hR ⊢
      have h3 : l.length = 1 := by simp at h2; omega
      match l, h3 with
      | [x], _ =>
        simp only [go_sem, Nat.reduceEqDiff, reduceCtorEq, Nat.reduceAdd, Nat.reduceLeDiff, Nat.reduceMul, Nat.reduceLT, Int.reduceToNat, Int.reduceLT, Int.reduceLE, Int.reduceEq, Nat.reduceSub, scell, plainS, sInt, sBool, sCell] at hR ⊢
        have hb : ∀ b : Bool, (b = false → (0 : Int) < 1) = True := fun b => eq_true fun _ => by omega
        have hb2 : ∀ b : Bool, (b = true → (0 : Int) < 1) = True := fun b => eq_true fun _ => by omega
        try simp only [hb, hb2, go_sem, Nat.reduceEqDiff, reduceCtorEq, Nat.reduceAdd, Nat.reduceLeDiff, Nat.reduceMul, Nat.reduceLT, Int.reduceToNat, Int.reduceLT, Int.reduceLE, Int.reduceEq, Nat.reduceSub]
        cases h4 : (x == [73, 110, 116] || x == [66, 111, 111, 108] || x == [67, 101, 108, 108]) <;> simp only [go_sem, Nat.reduceEqDiff, reduceCtorEq, Nat.reduceAdd, Nat.reduceLeDiff, Nat.reduceMul, Nat.reduceLT, Int.reduceToNat, Int.reduceLT, Int.reduceLE, Int.reduceEq, Nat.reduceSub, h4] at hR ⊢ <;> simp only [go_sem, Nat.reduceEqDiff, reduceCtorEq, Nat.reduceAdd, Nat.reduceLeDiff, Nat.reduceMul, Nat.reduceLT, Int.reduceToNat, Int.reduceLT, Int.reduceLE, Int.reduceEq, Nat.reduceSub, ← hR] <;> simp
  | false =>
    have h1' := h1
    simp only [sTag] at h1'
    simp only [go_sem, Nat.reduceEqDiff, reduceCtorEq, Nat.reduceAdd, Nat.reduceLeDiff, Nat.reduceMul, Nat.reduceLT, Int.reduceToNat, Int.reduceLT, Int.reduceLE, Int.reduceEq, Nat.reduceSub, h1, h1'] at hR ⊢
    intro hlen hlen2
    cases h2 : ((l.length : Int) != qa.length) with
    | true => simp only [go_sem, Nat.reduceEqDiff, reduceCtorEq, Nat.reduceAdd, Nat.reduceLeDiff, Nat.reduceMul, Nat.reduceLT, Int.reduceToNat, Int.reduceLT, Int.reduceLE, Int.reduceEq, Nat.reduceSub, h2] at hR ⊢; simp only [go_sem, Nat.reduceEqDiff, reduceCtorEq, Nat.reduceAdd, Nat.reduceLeDiff, Nat.reduceMul, Nat.reduceLT, Int.reduceToNat, Int.reduceLT, Int.reduceLE, Int.reduceEq, Nat.reduceSub, ← hR]
    | false =>
      simp only [go_sem, Nat.reduceEqDiff, reduceCtorEq, Nat.reduceAdd, Nat.reduceLeDiff, Nat.reduceMul, Nat.reduceLT, Int.reduceToNat, Int.reduceLT, Int.reduceLE, Int.reduceEq, Nat.reduceSub, h2] at hR ⊢
      refine call_by (r06_SameSorts_ev Z l qa) ?_
      cases h3 : (l == qa) <;> simp only [go_sem, Nat.reduceEqDiff, reduceCtorEq, Nat.reduceAdd, Nat.reduceLeDiff, Nat.reduceMul, Nat.reduceLT, Int.reduceToNat, Int.reduceLT, Int.reduceLE, Int.reduceEq, Nat.reduceSub, h3] at hR ⊢ <;> simp only [go_sem, Nat.reduceEqDiff, reduceCtorEq, Nat.reduceAdd, Nat.reduceLeDiff, Nat.reduceMul, Nat.reduceLT, Int.reduceToNat, Int.reduceLT, Int.reduceLE, Int.reduceEq, Nat.reduceSub, ← hR]
theorem r09_operation_ev (o : Int) (l : List Str) (hl : (o == 10 || o == 11) = true → 2 ≤ l.length) : E.C r09_operation [.one (.int .i64 o), .one (.lst (l.map scell))] (two (opS o l)) := by
  have h1 := r09_all_ev Z l sInt
  have h2 := r09_all_ev Z l sBool
  refine Z.r09_operation _ _ ⟨Nat.le_of_ble_eq_true rfl, ?_⟩
  generalize hR : opS o l = R
  unfold opS at hR
  unfold two
  simp only [fn_r09_operation, go_sem, Nat.reduceEqDiff, reduceCtorEq, Nat.reduceAdd, Nat.reduceLeDiff, Nat.reduceMul, Nat.reduceLT, Int.reduceToNat, Int.reduceLT, Int.reduceLE, Int.reduceEq, Nat.reduceSub]
  simp only [sInt, sBool] at hR h1 h2
  cases h6 : (o == 6 || o == 7 || o == 8 || o == 9) with
  | true =>
    simp only [h6, go_sem, Nat.reduceEqDiff, reduceCtorEq, Nat.reduceAdd, Nat.reduceLeDiff, Nat.reduceMul, Nat.reduceLT, Int.reduceToNat, Int.reduceLT, Int.reduceLE, Int.reduceEq, Nat.reduceSub] at hR
    cases e6 : (o == 6) <;> cases e7 : (o == 7) <;> cases e8 : (o == 8) <;> cases e9 : (o == 9) <;> first | (exfalso; simp_all; done) | skip
    all_goals
      simp only [go_sem, Nat.reduceEqDiff, reduceCtorEq, Nat.reduceAdd, Nat.reduceLeDiff, Nat.reduceMul, Nat.reduceLT, Int.reduceToNat, Int.reduceLT, Int.reduceLE, Int.reduceEq, Nat.reduceSub]
      refine call_by h1 ?_
      cases h3 : allS l [73, 110, 116] <;> simp only [go_sem, Nat.reduceEqDiff, reduceCtorEq, Nat.reduceAdd, Nat.reduceLeDiff, Nat.reduceMul, Nat.reduceLT, Int.reduceToNat, Int.reduceLT, Int.reduceLE, Int.reduceEq, Nat.reduceSub, h3] at hR ⊢ <;> simp only [go_sem, Nat.reduceEqDiff, reduceCtorEq, Nat.reduceAdd, Nat.reduceLeDiff, Nat.reduceMul, Nat.reduceLT, Int.reduceToNat, Int.reduceLT, Int.reduceLE, Int.reduceEq, Nat.reduceSub, ← hR]
  | false =>
    have e6 : (o == 6) = false := by cases h : (o == 6) <;> simp_all
    have e7 : (o == 7) = false := by cases h : (o == 7) <;> simp_all
    have e8 : (o == 8) = false := by cases h : (o == 8) <;> simp_all
    have e9 : (o == 9) = false := by cases h : (o == 9) <;> simp_all
    simp only [h6, e6, e7, e8, e9, go_sem, Nat.reduceEqDiff, reduceCtorEq, Nat.reduceAdd, Nat.reduceLeDiff, Nat.reduceMul, Nat.reduceLT, Int.reduceToNat, Int.reduceLT, Int.reduceLE, Int.reduceEq, Nat.reduceSub] at hR ⊢
    cases e10 : (o == 10) <;> cases e11 : (o == 11) <;> cases e12 : (o == 12) <;> cases e13 : (o == 13) <;> first | (exfalso; simp_all; done) | skip
    all_goals
      simp only [e10, e11, e12, e13, go_sem, Nat.reduceEqDiff, reduceCtorEq, Nat.reduceAdd, Nat.reduceLeDiff, Nat.reduceMul, Nat.reduceLT, Int.reduceToNat, Int.reduceLT, Int.reduceLE, Int.reduceEq, Nat.reduceSub] at hR hl ⊢
    all_goals first
      | (refine call_by h1 ?_; cases h3 : allS l [73, 110, 116] <;> simp only [go_sem, Nat.reduceEqDiff, reduceCtorEq, Nat.reduceAdd, Nat.reduceLeDiff, Nat.reduceMul, Nat.reduceLT, Int.reduceToNat, Int.reduceLT, Int.reduceLE, Int.reduceEq, Nat.reduceSub, h3] at hR ⊢ <;> simp only [go_sem, Nat.reduceEqDiff, reduceCtorEq, Nat.reduceAdd, Nat.reduceLeDiff, Nat.reduceMul, Nat.reduceLT, Int.reduceToNat, Int.reduceLT, Int.reduceLE, Int.reduceEq, Nat.reduceSub, ← hR])
      | (refine call_by h2 ?_; cases h3 : allS l [66, 111, 111, 108] <;> simp only [go_sem, Nat.reduceEqDiff, reduceCtorEq, Nat.reduceAdd, Nat.reduceLeDiff, Nat.reduceMul, Nat.reduceLT, Int.reduceToNat, Int.reduceLT, Int.reduceLE, Int.reduceEq, Nat.reduceSub, h3] at hR ⊢ <;> simp only [go_sem, Nat.reduceEqDiff, reduceCtorEq, Nat.reduceAdd, Nat.reduceLeDiff, Nat.reduceMul, Nat.reduceLT, Int.reduceToNat, Int.reduceLT, Int.reduceLE, Int.reduceEq, Nat.reduceSub, ← hR])
      | (obtain ⟨a, b, r, rfl⟩ := two_split hl
         have hlt1 : (0 : Int) < ((r.length + 1 + 1 : Nat) : Int) := by omega
         have hlt2 : (1 : Int) < ((r.length + 1 + 1 : Nat) : Int) := by omega
         have hln := scell_lens (a :: b :: r)
         simp only [List.map_cons] at hln
         simp only [go_sem, Nat.reduceEqDiff, reduceCtorEq, Nat.reduceAdd, Nat.reduceLeDiff, Nat.reduceMul, Nat.reduceLT, Int.reduceToNat, Int.reduceLT, Int.reduceLE, Int.reduceEq, Nat.reduceSub, hlt1, hlt2, scell] at hR hln ⊢
         try simp only [hln, go_sem, Nat.reduceEqDiff, reduceCtorEq, Nat.reduceAdd, Nat.reduceLeDiff, Nat.reduceMul, Nat.reduceLT, Int.reduceToNat, Int.reduceLT, Int.reduceLE, Int.reduceEq, Nat.reduceSub]
         cases h3 : (a == b) <;> simp only [go_sem, Nat.reduceEqDiff, reduceCtorEq, Nat.reduceAdd, Nat.reduceLeDiff, Nat.reduceMul, Nat.reduceLT, Int.reduceToNat, Int.reduceLT, Int.reduceLE, Int.reduceEq, Nat.reduceSub, h3] at hR ⊢ <;> simp only [go_sem, Nat.reduceEqDiff, reduceCtorEq, Nat.reduceAdd, Nat.reduceLeDiff, Nat.reduceMul, Nat.reduceLT, Int.reduceToNat, Int.reduceLT, Int.reduceLE, Int.reduceEq, Nat.reduceSub, ← hR])
theorem r09_hole_ev (v : SEnv) (s : Str) (l : List Str) : E.C r09_hole [.agg v.cells, .one (.str s), .one (.lst (l.map scell))] (two (holeS v s l)) := by
  have hf := r06_Hole_ev Z v s
  refine Z.r09_hole _ _ ⟨Nat.le_of_ble_eq_true rfl, ?_⟩
  generalize hR : holeS v s l = R
  unfold holeS at hR
  unfold two
  rw [SEnv.cells] at *
  simp only [fn_r09_hole, go_sem, Nat.reduceEqDiff, reduceCtorEq, Nat.reduceAdd, Nat.reduceLeDiff, Nat.reduceMul, Nat.reduceLT, Int.reduceToNat, Int.reduceLT, Int.reduceLE, Int.reduceEq, Nat.reduceSub]
  refine call_by hf ?_
  generalize findHole v.holes s = q at *
  obtain ⟨⟨qn, qa⟩, qb⟩ := q
  simp only [go_sem, Nat.reduceEqDiff, reduceCtorEq, Nat.reduceAdd, Nat.reduceLeDiff, Nat.reduceMul, Nat.reduceLT, Int.reduceToNat, Int.reduceLT, Int.reduceLE, Int.reduceEq, Nat.reduceSub, SHole.cells] at hR ⊢
  cases qb with
  | false => simp only [go_sem, Nat.reduceEqDiff, reduceCtorEq, Nat.reduceAdd, Nat.reduceLeDiff, Nat.reduceMul, Nat.reduceLT, Int.reduceToNat, Int.reduceLT, Int.reduceLE, Int.reduceEq, Nat.reduceSub] at hR ⊢; simp only [go_sem, Nat.reduceEqDiff, reduceCtorEq, Nat.reduceAdd, Nat.reduceLeDiff, Nat.reduceMul, Nat.reduceLT, Int.reduceToNat, Int.reduceLT, Int.reduceLE, Int.reduceEq, Nat.reduceSub, ← hR]
  | true =>
  simp only [go_sem, Nat.reduceEqDiff, reduceCtorEq, Nat.reduceAdd, Nat.reduceLeDiff, Nat.reduceMul, Nat.reduceLT, Int.reduceToNat, Int.reduceLT, Int.reduceLE, Int.reduceEq, Nat.reduceSub] at hR ⊢
  intro hlen hlen2
  by_cases h2 : l.length = qa.length
  · have h3 : ((l.length : Int) != (qa.length : Int)) = false := by simp [h2]
    simp only [go_sem, Nat.reduceEqDiff, reduceCtorEq, Nat.reduceAdd, Nat.reduceLeDiff, Nat.reduceMul, Nat.reduceLT, Int.reduceToNat, Int.reduceLT, Int.reduceLE, Int.reduceEq, Nat.reduceSub, h3] at hR ⊢
    refine loop_list l (fun done => (qa.map SVar.sort).take done.length = done) (fun done rest => ⟨[(10, .d (.int .i64 done.length)), (2, .d (.lst (l.map scell))), (8, .ptr 8 0)], [(8, [.d (.str qn), .d (.lst (qa.map SVar.cells))])], []⟩) ?_ (by simp) ?_ ?_
    · exact Ent_plain (by simp only [go_sem, Nat.reduceEqDiff, reduceCtorEq, Nat.reduceAdd, Nat.reduceLeDiff, Nat.reduceMul, Nat.reduceLT, Int.reduceToNat, Int.reduceLT, Int.reduceLE, Int.reduceEq, Nat.reduceSub, Option.isSome_some])
    · intro done x r hl hI
      obtain ⟨y0, r0, hb0⟩ := prefix_split hI (by rw [List.length_map, ← h2, hl]; simp)
      obtain ⟨da, y, r', hb, hda, rfl⟩ := map_mid hb0
      have hx := getD_at (f := scell) (d := []) hl
      have hy := getD_at (f := SVar.cells) (d := []) hb
      have hdl : da.length = done.length := by rw [← hda]; simp
      rw [hdl] at hy
      have hlt := lt_mid hl
      have hlt2 := lt_mid hb
      rw [hdl] at hlt2
      have hw : IntKind.i64.wrap ((done.length : Int) + 1) = ((done.length + 1 : Nat) : Int) := wrap_succ (by omega)
      simp only [fn_r09_hole_L1, go_sem, Nat.reduceEqDiff, reduceCtorEq, Nat.reduceAdd, Nat.reduceLeDiff, Nat.reduceMul, Nat.reduceLT, Int.reduceToNat, Int.reduceLT, Int.reduceLE, Int.reduceEq, Nat.reduceSub, hx, hy, hlt, hlt2, scell, SVar.cells]
      intro _
      cases h4 : (x == y.sort) with
      | true =>
        have hxy : x = y.sort := by simpa using h4
        simp only [go_sem, Nat.reduceEqDiff, reduceCtorEq, Nat.reduceAdd, Nat.reduceLeDiff, Nat.reduceMul, Nat.reduceLT, Int.reduceToNat, Int.reduceLT, Int.reduceLE, Int.reduceEq, Nat.reduceSub, hw, List.length_append]
        exact ⟨Ent_plain (by simp only [go_sem, Nat.reduceEqDiff, reduceCtorEq, Nat.reduceAdd, Nat.reduceLeDiff, Nat.reduceMul, Nat.reduceLT, Int.reduceToNat, Int.reduceLT, Int.reduceLE, Int.reduceEq, Nat.reduceSub, Option.isSome_some]), by rw [hb0, ← hxy, show done ++ x :: r0 = (done ++ [x]) ++ r0 by simp]; exact List.take_left' (by simp)⟩
      | false =>
        have h5 : (l == qa.map SVar.sort) = false := by
          simp only [beq_eq_false_iff_ne, ne_eq] at h4 ⊢
          intro e
          rw [hl, hb0] at e
          exact h4 (List.cons.inj (List.append_cancel_left e)).1
        simp only [go_sem, Nat.reduceEqDiff, reduceCtorEq, Nat.reduceAdd, Nat.reduceLeDiff, Nat.reduceMul, Nat.reduceLT, Int.reduceToNat, Int.reduceLT, Int.reduceLE, Int.reduceEq, Nat.reduceSub, h5] at hR ⊢
        simp only [go_sem, Nat.reduceEqDiff, reduceCtorEq, Nat.reduceAdd, Nat.reduceLeDiff, Nat.reduceMul, Nat.reduceLT, Int.reduceToNat, Int.reduceLT, Int.reduceLE, Int.reduceEq, Nat.reduceSub, ← hR]
    · intro hI
      have h5 : (l == qa.map SVar.sort) = true := by
        have e : (qa.map SVar.sort).take l.length = qa.map SVar.sort := List.take_of_length_le (by rw [List.length_map, h2]; exact Nat.le_refl _)
        rw [beq_iff_eq]; exact hI.symm.trans e
      simp only [go_sem, Nat.reduceEqDiff, reduceCtorEq, Nat.reduceAdd, Nat.reduceLeDiff, Nat.reduceMul, Nat.reduceLT, Int.reduceToNat, Int.reduceLT, Int.reduceLE, Int.reduceEq, Nat.reduceSub, h5] at hR
      simp only [fn_r09_hole_L1, go_sem, Nat.reduceEqDiff, reduceCtorEq, Nat.reduceAdd, Nat.reduceLeDiff, Nat.reduceMul, Nat.reduceLT, Int.reduceToNat, Int.reduceLT, Int.reduceLE, Int.reduceEq, Nat.reduceSub, ← hR, sBool, implies_true]
  · have h3 : ((l.length : Int) != (qa.length : Int)) = true := by simp; omega
    simp only [go_sem, Nat.reduceEqDiff, reduceCtorEq, Nat.reduceAdd, Nat.reduceLeDiff, Nat.reduceMul, Nat.reduceLT, Int.reduceToNat, Int.reduceLT, Int.reduceLE, Int.reduceEq, Nat.reduceSub, h3] at hR ⊢
    simp only [go_sem, Nat.reduceEqDiff, reduceCtorEq, Nat.reduceAdd, Nat.reduceLeDiff, Nat.reduceMul, Nat.reduceLT, Int.reduceToNat, Int.reduceLT, Int.reduceLE, Int.reduceEq, Nat.reduceSub, ← hR]
end Go.Abs
end
section
set_option linter.unusedSimpArgs false
set_option linter.unusedVariables false
set_option linter.unusedSectionVars false
namespace Go.Abs
set_option maxRecDepth 100000
variable {E : AEnv} (Z : Sys E)
include Z
theorem sorting_node_ev (v : SEnv) (hv : v.Ok) (o : Int) (s : Str) (n : Int) (ks : List Pred) (l : List Str) (hl : (o == 10 || o == 11) = true → 2 ≤ l.length) :
    E.C sorting_node [.agg v.cells, .agg (Pred.cells (.mk o s n ks)), .one (.lst (l.map scell))] (two (nodeS v o s l)) := by
  have hvar := sort_Var_ev Z v s
  have happ := sorting_applied_ev Z v hv s l
  have hfil := sorting_filled_ev Z v hv s l
  have hrul := sorting_ruleOf_ev Z o
  have hal1 := sorting_all_1_ev Z l sInt
  have hal2 := sorting_all_1_ev Z l sBool
  refine Z.sorting_node _ _ ⟨Nat.le_of_ble_eq_true rfl, ?_⟩
  generalize hR : nodeS v o s l = R
  unfold nodeS at hR
  unfold two at *
  rw [SEnv.cells] at *
  rw [Pred.cells_eq]
  simp only [fn_sorting_node, go_sem, Nat.reduceEqDiff, reduceCtorEq, Nat.reduceAdd, Nat.reduceLeDiff, Nat.reduceMul, Nat.reduceLT, Int.reduceToNat, Int.reduceLT, Int.reduceLE, Int.reduceEq, Nat.reduceSub, Pred.op, Pred.name, Pred.n, Pred.kids]
  cases h1 : (o == 1) with
  | true => simp only [h1, go_sem, Nat.reduceEqDiff, reduceCtorEq, Nat.reduceAdd, Nat.reduceLeDiff, Nat.reduceMul, Nat.reduceLT, Int.reduceToNat, Int.reduceLT, Int.reduceLE, Int.reduceEq, Nat.reduceSub, sInt] at hR ⊢; simp only [go_sem, Nat.reduceEqDiff, reduceCtorEq, Nat.reduceAdd, Nat.reduceLeDiff, Nat.reduceMul, Nat.reduceLT, Int.reduceToNat, Int.reduceLT, Int.reduceLE, Int.reduceEq, Nat.reduceSub, ← hR]
  | false =>
  cases h2 : (o == 2) with
  | true => simp only [h1, h2, go_sem, Nat.reduceEqDiff, reduceCtorEq, Nat.reduceAdd, Nat.reduceLeDiff, Nat.reduceMul, Nat.reduceLT, Int.reduceToNat, Int.reduceLT, Int.reduceLE, Int.reduceEq, Nat.reduceSub, sBool] at hR ⊢; simp only [go_sem, Nat.reduceEqDiff, reduceCtorEq, Nat.reduceAdd, Nat.reduceLeDiff, Nat.reduceMul, Nat.reduceLT, Int.reduceToNat, Int.reduceLT, Int.reduceLE, Int.reduceEq, Nat.reduceSub, ← hR]
  | false =>
  cases h3 : (o == 3) with
  | true =>
    simp only [h1, h2, h3, go_sem, Nat.reduceEqDiff, reduceCtorEq, Nat.reduceAdd, Nat.reduceLeDiff, Nat.reduceMul, Nat.reduceLT, Int.reduceToNat, Int.reduceLT, Int.reduceLE, Int.reduceEq, Nat.reduceSub] at hR ⊢
    refine call_by hvar ?_
    simp only [go_sem, Nat.reduceEqDiff, reduceCtorEq, Nat.reduceAdd, Nat.reduceLeDiff, Nat.reduceMul, Nat.reduceLT, Int.reduceToNat, Int.reduceLT, Int.reduceLE, Int.reduceEq, Nat.reduceSub]
    cases h : (findVar v.vars s).2 <;> simp only [h, go_sem, Nat.reduceEqDiff, reduceCtorEq, Nat.reduceAdd, Nat.reduceLeDiff, Nat.reduceMul, Nat.reduceLT, Int.reduceToNat, Int.reduceLT, Int.reduceLE, Int.reduceEq, Nat.reduceSub] at hR ⊢ <;> simp only [go_sem, Nat.reduceEqDiff, reduceCtorEq, Nat.reduceAdd, Nat.reduceLeDiff, Nat.reduceMul, Nat.reduceLT, Int.reduceToNat, Int.reduceLT, Int.reduceLE, Int.reduceEq, Nat.reduceSub, ← hR]
  | false =>
  cases h4 : (o == 4) with
  | true =>
    simp only [h1, h2, h3, h4, go_sem, Nat.reduceEqDiff, reduceCtorEq, Nat.reduceAdd, Nat.reduceLeDiff, Nat.reduceMul, Nat.reduceLT, Int.reduceToNat, Int.reduceLT, Int.reduceLE, Int.reduceEq, Nat.reduceSub] at hR ⊢
    refine call_by happ ?_
    simp only [go_sem, Nat.reduceEqDiff, reduceCtorEq, Nat.reduceAdd, Nat.reduceLeDiff, Nat.reduceMul, Nat.reduceLT, Int.reduceToNat, Int.reduceLT, Int.reduceLE, Int.reduceEq, Nat.reduceSub, hR]
  | false =>
  cases h5 : (o == 5) with
  | true =>
    simp only [h1, h2, h3, h4, h5, go_sem, Nat.reduceEqDiff, reduceCtorEq, Nat.reduceAdd, Nat.reduceLeDiff, Nat.reduceMul, Nat.reduceLT, Int.reduceToNat, Int.reduceLT, Int.reduceLE, Int.reduceEq, Nat.reduceSub] at hR ⊢
    refine call_by hfil ?_
    simp only [go_sem, Nat.reduceEqDiff, reduceCtorEq, Nat.reduceAdd, Nat.reduceLeDiff, Nat.reduceMul, Nat.reduceLT, Int.reduceToNat, Int.reduceLT, Int.reduceLE, Int.reduceEq, Nat.reduceSub, hR]
  | false =>
  simp only [h1, h2, h3, h4, h5, go_sem, Nat.reduceEqDiff, reduceCtorEq, Nat.reduceAdd, Nat.reduceLeDiff, Nat.reduceMul, Nat.reduceLT, Int.reduceToNat, Int.reduceLT, Int.reduceLE, Int.reduceEq, Nat.reduceSub] at hR ⊢
  refine call_by hrul ?_
  unfold opS at hR
  unfold ruleS
  cases h6 : (o == 6 || o == 7 || o == 8 || o == 9) with
  | true =>
    simp only [h6, go_sem, Nat.reduceEqDiff, reduceCtorEq, Nat.reduceAdd, Nat.reduceLeDiff, Nat.reduceMul, Nat.reduceLT, Int.reduceToNat, Int.reduceLT, Int.reduceLE, Int.reduceEq, Nat.reduceSub] at hR ⊢
    refine call_by hal1 ?_
    cases h : allS l sInt <;> simp only [h, go_sem, Nat.reduceEqDiff, reduceCtorEq, Nat.reduceAdd, Nat.reduceLeDiff, Nat.reduceMul, Nat.reduceLT, Int.reduceToNat, Int.reduceLT, Int.reduceLE, Int.reduceEq, Nat.reduceSub] at hR ⊢ <;> simp only [go_sem, Nat.reduceEqDiff, reduceCtorEq, Nat.reduceAdd, Nat.reduceLeDiff, Nat.reduceMul, Nat.reduceLT, Int.reduceToNat, Int.reduceLT, Int.reduceLE, Int.reduceEq, Nat.reduceSub, ← hR]
  | false =>
  cases h7 : (o == 12 || o == 13) with
  | true =>
    simp only [h6, h7, go_sem, Nat.reduceEqDiff, reduceCtorEq, Nat.reduceAdd, Nat.reduceLeDiff, Nat.reduceMul, Nat.reduceLT, Int.reduceToNat, Int.reduceLT, Int.reduceLE, Int.reduceEq, Nat.reduceSub] at hR ⊢
    refine call_by hal1 ?_
    cases h : allS l sInt <;> simp only [h, go_sem, Nat.reduceEqDiff, reduceCtorEq, Nat.reduceAdd, Nat.reduceLeDiff, Nat.reduceMul, Nat.reduceLT, Int.reduceToNat, Int.reduceLT, Int.reduceLE, Int.reduceEq, Nat.reduceSub] at hR ⊢ <;> simp only [go_sem, Nat.reduceEqDiff, reduceCtorEq, Nat.reduceAdd, Nat.reduceLeDiff, Nat.reduceMul, Nat.reduceLT, Int.reduceToNat, Int.reduceLT, Int.reduceLE, Int.reduceEq, Nat.reduceSub, ← hR]
  | false =>
  cases h8 : (o == 10 || o == 11) with
  | true =>
    simp only [h6, h7, h8, go_sem, Nat.reduceEqDiff, reduceCtorEq, Nat.reduceAdd, Nat.reduceLeDiff, Nat.reduceMul, Nat.reduceLT, Int.reduceToNat, Int.reduceLT, Int.reduceLE, Int.reduceEq, Nat.reduceSub] at hR hl ⊢
    refine call_by (sorting_ruleOf_1_ev Z l hl) ?_
    cases h : (l.getD 0 [] == l.getD 1 []) <;> simp only [h, go_sem, Nat.reduceEqDiff, reduceCtorEq, Nat.reduceAdd, Nat.reduceLeDiff, Nat.reduceMul, Nat.reduceLT, Int.reduceToNat, Int.reduceLT, Int.reduceLE, Int.reduceEq, Nat.reduceSub] at hR ⊢ <;> simp only [go_sem, Nat.reduceEqDiff, reduceCtorEq, Nat.reduceAdd, Nat.reduceLeDiff, Nat.reduceMul, Nat.reduceLT, Int.reduceToNat, Int.reduceLT, Int.reduceLE, Int.reduceEq, Nat.reduceSub, ← hR]
  | false =>
    simp only [h6, h7, h8, go_sem, Nat.reduceEqDiff, reduceCtorEq, Nat.reduceAdd, Nat.reduceLeDiff, Nat.reduceMul, Nat.reduceLT, Int.reduceToNat, Int.reduceLT, Int.reduceLE, Int.reduceEq, Nat.reduceSub] at hR ⊢
    refine call_by hal2 ?_
    cases h : allS l sBool <;> simp only [h, go_sem, Nat.reduceEqDiff, reduceCtorEq, Nat.reduceAdd, Nat.reduceLeDiff, Nat.reduceMul, Nat.reduceLT, Int.reduceToNat, Int.reduceLT, Int.reduceLE, Int.reduceEq, Nat.reduceSub] at hR ⊢ <;> simp only [go_sem, Nat.reduceEqDiff, reduceCtorEq, Nat.reduceAdd, Nat.reduceLeDiff, Nat.reduceMul, Nat.reduceLT, Int.reduceToNat, Int.reduceLT, Int.reduceLE, Int.reduceEq, Nat.reduceSub, ← hR]
end Go.Abs
end
section
set_option linter.unusedSimpArgs false
set_option linter.unusedVariables false
set_option linter.unusedSectionVars false
namespace Go.Abs
/-- the sort of a predicate that is well formed -/
def ofS (v : SEnv) : Pred → Str × Int
  | .mk o s n ks => if errs ks != 0 then ([], errs ks) else nodeS v o s (sorts ks)
where
  errs : List Pred → Int
  | [] => 0
  | k :: ks => if (ofS v k).2 != 0 then (ofS v k).2 else errs ks
  sorts : List Pred → List Str
  | [] => []
  | k :: ks => (ofS v k).1 :: sorts ks
theorem ofS_eq (v : SEnv) (o : Int) (s : Str) (n : Int) (ks : List Pred) : ofS v (.mk o s n ks) = if ofS.errs v ks != 0 then ([], ofS.errs v ks) else nodeS v o s (ks.map fun k => (ofS v k).1) := by
  rw [ofS]
  have : ofS.sorts v ks = ks.map fun k => (ofS v k).1 := by
    induction ks with
    | nil => rfl
    | cons k ks ih => rw [ofS.sorts, ih]; rfl
  rw [this]
theorem errs_mid {v : SEnv} {a b : List Pred} {k : Pred} (ha : ∀ x ∈ a, (ofS v x).2 = 0) : ofS.errs v (a ++ k :: b) = if (ofS v k).2 != 0 then (ofS v k).2 else ofS.errs v b := by
  induction a with
  | nil => rfl
  | cons x a ih => rw [List.cons_append, ofS.errs, ha x (by simp)]; exact ih fun y hy => ha y (by simp [hy])
theorem errs_all {v : SEnv} {a : List Pred} (ha : ∀ x ∈ a, (ofS v x).2 = 0) : ofS.errs v a = 0 := by
  induction a with
  | nil => rfl
  | cons x a ih => rw [ofS.errs, ha x (by simp)]; exact ih fun y hy => ha y (by simp [hy])
def NodeOk (q : Pred) : Prop := ((q.op == 10 || q.op == 11) = true → 2 ≤ q.kids.length) ∧ q.kids.length ≤ 24
def Arity (p : Pred) : Prop := ∀ q ∈ p.pre, NodeOk q
theorem Arity.kid {o : Int} {s : Str} {n : Int} {ks : List Pred} (h : Arity (.mk o s n ks)) {k : Pred} (hk : k ∈ ks) : Arity k := by
  intro q hq
  refine h q ?_
  rw [Pred.pre_eq]
  refine List.mem_cons_of_mem _ ?_
  clear h
  induction ks with
  | nil => cases hk
  | cons x ks ih =>
    rw [Pred.pre.pres, List.mem_append]
    rcases List.mem_cons.1 hk with rfl | hk
    · exact .inl hq
    · exact .inr (ih hk)
theorem Arity.top {o : Int} {s : Str} {n : Int} {ks : List Pred} (h : Arity (.mk o s n ks)) : NodeOk (.mk o s n ks) := h _ (by rw [Pred.pre_eq]; simp)
theorem first_zero : ∀ {l : List Pred}, Pred.first l = 0 → ∀ q ∈ l, Pred.err q = 0
  | [], _, q, hq => by cases hq
  | p :: l, h, q, hq => by
    rw [Pred.first] at h
    by_cases hp : (Pred.err p != 0) = true
    · rw [if_pos hp] at h; simp [h] at hp
    · rw [if_neg hp] at h
      rcases List.mem_cons.1 hq with rfl | hq
      · simpa using hp
      · exact first_zero h q hq
theorem node_ok_of {q : Pred} (h : Pred.err q = 0) : NodeOk q := by
  obtain ⟨o, s, n, ks⟩ := q
  change nodeE o s n ks = 0 at h
  unfold nodeE at h
  by_cases h1 : (decide (o < 1) || decide (o > 18) || !s == [] && !isOpNamed o || n != 0 && !(o == 1 || o == 2) || !kidsOk o ks.length) = true
  · rw [if_pos h1] at h; cases h
  · simp only [Bool.or_eq_true, not_or] at h1
    have hk : kidsOk o ks.length = true := by simpa using h1.2
    unfold kidsOk at hk
    refine ⟨fun ho => ?_, ?_⟩ <;> simp only [Pred.op, Pred.kids] at *
    · split at hk
      · simp at ho; simp_all; omega
      · split at hk
        · simp at ho; simp_all; omega
        · split at hk
          · simp at ho; simp_all; omega
          · simp at hk; omega
    · split at hk
      · simp at hk; simp [hk]
      · split at hk
        · simp at hk; omega
        · split at hk <;> (simp at hk; omega)
theorem arity_of {p : Pred} (h : Pred.formE p = 0) : Arity p := by
  rw [Pred.formE_first] at h
  exact fun q hq => node_ok_of (first_zero h q hq)
set_option maxRecDepth 100000
variable {E : AEnv} (Z : Sys E)
include Z
theorem sorting_Of_1_ev (v : SEnv) (hv : v.Ok) {b7 b2 : Nat} (h7 : E.G b7 = some [.clo sorting_Of_1 [.gp b7 0, .gp b2 0]]) (h2 : E.G b2 = some v.cells) (p : Pred) (hp : Arity p) :
    E.C sorting_Of_1 [.agg p.cells, .one (.gp b7 0), .one (.gp b2 0)] (two (ofS v p)) := by
  induction p using Pred.ind with
  | h o s n ks ih =>
  have hn := fun l hl => sorting_node_ev Z v hv o s n ks l hl
  refine Z.sorting_Of_1 _ _ ⟨Nat.le_of_ble_eq_true rfl, ?_⟩
  generalize hR : ofS v (.mk o s n ks) = R
  rw [ofS_eq] at hR
  unfold two at *
  rw [SEnv.cells] at *
  rw [Pred.cells_eq] at *
  simp only [fn_sorting_Of_1, go_sem, Nat.reduceEqDiff, reduceCtorEq, Nat.reduceAdd, Nat.reduceLeDiff, Nat.reduceMul, Nat.reduceLT, Int.reduceToNat, Int.reduceLT, Int.reduceLE, Int.reduceEq, Nat.reduceSub, Pred.op, Pred.name, Pred.n, Pred.kids] at hn ⊢
  intro hlen
  have hk24 := hp.top.2
  simp only [Pred.kids] at hk24
  refine loop_list ks (fun done => ∀ x ∈ done, (ofS v x).2 = 0) (fun done rest => ⟨[(14, .d (.int .i64 done.length)), (13, .d (.int .i64 ks.length)), (12, .d (.lst (ks.map Pred.cells))), (1, .d (.gp b7 0)), (2, .d (.gp b2 0)), (3, .ptr 3 0), (6, .own 6 1 ((done.map fun k => (ofS v k).1).map scell))], [(3, [.d (.int .i64 o), .d (.str s), .d (.int .i64 n), .d (.lst (ks.map Pred.cells))])], [(6, true)]⟩) ?_ (by simp) ?_ ?_
  · exact Ent_conv 6 6 1 [] [(6, 6)] rfl (by simp) rfl (by simp only [Ent0, go_sem, Nat.reduceEqDiff, reduceCtorEq, Nat.reduceAdd, Nat.reduceLeDiff, Nat.reduceMul, Nat.reduceLT, Int.reduceToNat, Int.reduceLT, Int.reduceLE, Int.reduceEq, Nat.reduceSub, List.contains_nil, Option.isSome_some])
  · intro done k r hl hI
    have hk' := ih k (by rw [hl]; simp) (hp.kid (by rw [hl]; simp))
    have hlt := lt_mid hl
    have hw : IntKind.i64.wrap ((done.length : Int) + 1) = ((done.length + 1 : Nat) : Int) := wrap_succ (by omega)
    rw [hl, errs_mid hI, ← hl] at hR
    have hd : done.length ≤ 24 := by omega
    have ha1 : (done.length + 1) * 16 ≤ 2 ^ 46 := by omega
    have ha2 : done.length + 1 ≤ 9223372036854775807 := by omega
    simp only [fn_sorting_Of_1_L1, go_sem, Nat.reduceEqDiff, reduceCtorEq, Nat.reduceAdd, Nat.reduceLeDiff, Nat.reduceMul, Nat.reduceLT, Int.reduceToNat, Int.reduceLT, Int.reduceLE, Int.reduceEq, Nat.reduceSub, hlt, getD_midP hl, h7]
    refine call_by hk' ?_
    simp only [go_sem, Nat.reduceEqDiff, reduceCtorEq, Nat.reduceAdd, Nat.reduceLeDiff, Nat.reduceMul, Nat.reduceLT, Int.reduceToNat, Int.reduceLT, Int.reduceLE, Int.reduceEq, Nat.reduceSub]
    cases h3 : ((ofS v k).2 != 0) with
    | true => simp only [h3, go_sem, Nat.reduceEqDiff, reduceCtorEq, Nat.reduceAdd, Nat.reduceLeDiff, Nat.reduceMul, Nat.reduceLT, Int.reduceToNat, Int.reduceLT, Int.reduceLE, Int.reduceEq, Nat.reduceSub] at hR ⊢; simp only [go_sem, Nat.reduceEqDiff, reduceCtorEq, Nat.reduceAdd, Nat.reduceLeDiff, Nat.reduceMul, Nat.reduceLT, Int.reduceToNat, Int.reduceLT, Int.reduceLE, Int.reduceEq, Nat.reduceSub, ← hR]
    | false =>
      simp only [go_sem, Nat.reduceEqDiff, reduceCtorEq, Nat.reduceAdd, Nat.reduceLeDiff, Nat.reduceMul, Nat.reduceLT, Int.reduceToNat, Int.reduceLT, Int.reduceLE, Int.reduceEq, Nat.reduceSub, hw, List.length_append, scell_lens, List.length_map]
      refine ⟨⟨by simp, ha1, by omega⟩, Ent_own [(6, 30)] ?_, app_all hI (by simpa using h3)⟩
      simp only [go_sem, Nat.reduceEqDiff, reduceCtorEq, Nat.reduceAdd, Nat.reduceLeDiff, Nat.reduceMul, Nat.reduceLT, Int.reduceToNat, Int.reduceLT, Int.reduceLE, Int.reduceEq, Nat.reduceSub, List.contains_nil, Option.isSome_some, List.map_append, scell]
  · intro hI
    rw [errs_all hI] at hR
    have hR : nodeS v o s (ks.map fun k => (ofS v k).1) = R := hR
    simp only [fn_sorting_Of_1_L1, go_sem, Nat.reduceEqDiff, reduceCtorEq, Nat.reduceAdd, Nat.reduceLeDiff, Nat.reduceMul, Nat.reduceLT, Int.reduceToNat, Int.reduceLT, Int.reduceLE, Int.reduceEq, Nat.reduceSub, h2]
    refine call_by (hn _ (by rw [List.length_map]; exact hp.top.1)) ?_
    simp only [go_sem, Nat.reduceEqDiff, reduceCtorEq, Nat.reduceAdd, Nat.reduceLeDiff, Nat.reduceMul, Nat.reduceLT, Int.reduceToNat, Int.reduceLT, Int.reduceLE, Int.reduceEq, Nat.reduceSub, hR]
end Go.Abs
end
