/-
  CONTRACTS: what the functions answer, as plain Lean functions, each by evaluation at the abstract machine.
-/
import Derived.Test.YtcjbgglnoelfcaaGreatDoorCon2
section
set_option linter.unusedSimpArgs false
set_option linter.unusedVariables false
set_option linter.unusedSectionVars false
namespace Go.Abs
theorem zip_fst {na nr : List Str} {x : Str} {done : List Val} (hl : na.length = done.length) : (((na ++ x :: nr).zip done).map (·.1)) = na := by
 have h1 : (na ++ x :: nr).zip done = na.zip done := by
  have := List.zip_append (l₁ := na) (l₂ := done) (r₁ := x :: nr) (r₂ := []) hl
  simpa using this
 rw [h1]
 exact List.map_fst_zip (by omega)
theorem putF_at (l : List (Str × Val)) (x : Str) (k : Val) : (putsF (l ++ [(x, k)])).2 = if (k.op == 1 || k.op == 2) && !(mapHas (putsF l).1 (.str x)) then (putsF l).2 ++ [⟨x, k.n⟩] else (putsF l).2 := by
 cases hh : mapHas (putsF l).1 (.str x) with
 | true => rw [puts_has hh]; simp
 | false => rw [puts_new hh]; simp
set_option maxRecDepth 100000
variable {E : AEnv} (Z : Sys E)
include Z
set_option maxHeartbeats 4000000 in
theorem r41_Value_ev (m : Mod) (d : DefT) (args : List Val) (ht : ∀ t ∈ d.sig.metric, t.cnt < 1048576) (hts : d.sig.metric.length ≤ 1048576) (hns : d.sig.names.length ≤ 1048576) :
  E.C r41_Value [.agg m.cells, .agg d.cells, .one (.lst (args.map Val.cells))] (resV (metV m d.sig.metric d.sig.names args)) := by
 have hchk := fun p => r07_Check_ev Z p
 have hix := fun l x => r41_index_ev Z l x
 have hmeas := fun names hal p hp => r41_measured_ev Z m names args hal p hp
 have heval := fun at' p => r10_Eval_ev Z at' [] p
 refine Z.r41_Value _ _ ⟨Nat.le_of_ble_eq_true rfl, ?_⟩
 generalize hR : metV m d.sig.metric d.sig.names args = R
 obtain ⟨d0, d1, d2, d3, d4, d5, d6, d7, d8, d9, d10, s0, s1, s2, s3, s4, s5, s6, names, s8, s9, s10, s11, s12, ts⟩ := d
 unfold metV at hR
 simp only at hR ht hts hns
 simp only [fn_r41_Value, Mod.cells, DefT.cells, SigT.cells, go_sem, List.length_map]
 intro hlen
 cases c1 : ((ts.length : Int) == 0) with
 | true =>
  have c1' : (ts.length == 0) = true := by simpa using c1
  rw [c1'] at hR
  simp only [Bool.true_or, if_true] at hR
  simp only [go_sem, ← hR, List.map_nil, and_self, false_implies]
 | false =>
 have c1' : (ts.length == 0) = false := by simpa using c1
 rw [c1'] at hR
 simp only [Bool.false_or] at hR
 simp only [go_sem]
 intro _ _
 cases c2 : ((names.length : Int) != (args.length : Int)) with
 | true =>
  have c2' : (args.length != names.length) = true := by
   rw [bne_iff_ne] at c2 ⊢; omega
  rw [c2'] at hR
  simp only [if_true] at hR
  simp only [go_sem, ← hR, List.map_nil, and_self]
 | false =>
 have hal : args.length = names.length := by
  have : ¬ (names.length : Int) ≠ args.length := by rw [← bne_iff_ne, c2]; simp
  omega
 have c2' : (args.length != names.length) = false := by rw [hal]; simp
 rw [c2'] at hR
 simp only [Bool.false_eq_true, if_false] at hR
 simp only [go_sem]
 have hmeas := hmeas names hal.symm
 have hn1 : (∀ e ∈ names.map (fun k : Str => [D.str k]), e.length = 1) = True := eq_true (by simp)
 have hav := Val.lens args
 refine loop_named fun KK hKK => ?_
 refine loop_list args (fun _ => True) (fun done rest => ⟨[(10, .d (.int .i64 done.length)), (2, .d (.lst (args.map Val.cells))), (3, .ptr 3 0), (4, .ptr 4 0), (8, .d (.lst (names.map fun k => [.str k]))), (9, .own 9 2 ((putsF (names.zip done)).2.map Coef.cells))],
  [(3, [.d (.lst (m.datas.map DataT.cells)), .d m.cls, .d m.ins, .d (.lst (m.meas.map Meas.cells)), .d m.quals, .d m.defs]), (4, [.d d0, .d d1, .d d2, .d d3, .d d4, .d d5, .d d6, .d d7, .d d8, .d d9, .d d10, .d s0, .d s1, .d s2, .d s3, .d s4, .d s5, .d s6, .d (.lst (names.map fun k => [.str k])), .d s8, .d s9, .d s10, .d s11, .d s12, .d (.lst (ts.map Pred.cells))])], [(9, true)]⟩) ?_ trivial ?_ ?_
 ·exact Ent_conv 9 9 2 [] [(9, 9)] (by simp only [go_sem]) (by simp) rfl ⟨rfl, by simp only [go_sem, List.contains_nil], by simp only [go_sem, Option.isSome_some, List.zip_nil_right, putsF, List.foldl_nil], by simp only [go_sem, Option.isSome_some]⟩
 ·intro done k r hl _
  obtain ⟨na, x, nr, hna, hnl⟩ := at_split (b := names) (n := done.length) (by rw [← hal, hl]; simp)
  have hlt := lt_mid hl
  have hlt2 : (done.length : Int) < names.length := by rw [← hal]; exact hlt
  have hgx : (names.map fun k : Str => [D.str k]).getD done.length [] = [.str x] := by rw [hna, ← hnl]; simp
  have hga := getD_at (f := Val.cells) (d := []) hl
  have hdk : done.length ≤ names.length := by rw [← hal, hl]; simp
  have hpd := putsF_len (names.zip done)
  have hdz : (names.zip done).length ≤ done.length := by rw [List.length_zip]; exact Nat.min_le_right _ _
  have hix := hix names x
  have hhere : (findIx x 0 names == (done.length : Int)) = !(mapHas (putsF (names.zip done)).1 (.str x)) := by
   rw [mapHas_puts, hna, zip_fst hnl, ← hnl, findIx_here]
  rw [zip_at hna hnl k, putF_at]
  generalize mapHas (putsF (names.zip done)).1 (.str x) = hh at *
  generalize findIx x 0 names = ix at *
  generalize putsF (names.zip done) = P0 at *
  obtain ⟨kv0, at0⟩ := P0
  obtain ⟨vo, vn, vs, vk, vp, vb, vd⟩ := k
  have hA := Coef.lens at0
  have p2 : (at0.length + 1) * 24 ≤ 2 ^ 46 := by simp only at hpd; omega
  have p3 : at0.length ≤ 9223372036854775806 := by simp only at hpd; omega
  simp only [Val.cells_mk] at hga
  simp only [Val.op, Val.n]
  simp only [fn_r41_Value_L2, go_sem, hlt, hlt2, List.length_map, hga, hgx, hn1, hav]
  intro _
  have hw : IntKind.i64.wrap ((done.length : Int) + 1) = ((done.length + 1 : Nat) : Int) := wrap_succ (by omega)
  by_cases hvo : (vo == 1 || vo == 2) = true
  ·simp only [hvo, go_sem]
   refine call_by hix ?_
   simp only [go_sem, hhere]
   cases hh with
   | true =>
    simp only [go_sem, hw, List.length_append, Bool.false_eq_true]
    exact Ent_own [(9, 9)] (by simp only [go_sem, List.contains_nil, Option.isSome_some])
   | false =>
    simp only [go_sem, hw, List.length_append, Bool.false_eq_true, hlt, hlt2, List.length_map, hga, hgx, hn1, hav, p2, p3, List.mem_singleton, forall_eq]
    exact Ent_own [(9, 75)] (by simp only [go_sem, List.contains_nil, Option.isSome_some, List.map_append, List.map_cons, List.map_nil, Coef.cells])
  ·have hvo : (vo == 1 || vo == 2) = false := by simpa using hvo
   simp only [hvo, go_sem]
   refine call_skip ?_
   simp only [go_sem, hw, List.length_append, Bool.false_eq_true]
   exact Ent_own [(9, 9)] (by simp only [go_sem, List.contains_nil, Option.isSome_some])
 ·intro _
  have hpl := putsF_len (names.zip args)
  have hzl : (names.zip args).length = names.length := by rw [List.length_zip, hal, Nat.min_self]
  simp only [fn_r41_Value_L2, ↓reduceIte, go_sem, List.length_map]
  intro _
  rw [hKK]
  clear hKK
  simp only [go_sem]
  refine loop_named fun K2 hK2 => ?_
  refine loop_list ts (fun done => ∀ y ∈ done, (metOne (tabK m (names.zip args)) (putsF (names.zip args)).2 y).2 = true) (fun done rest => ⟨[(12, .d (.int .i64 done.length)), (2, .d (.lst (args.map Val.cells))), (3, .ptr 3 0), (4, .ptr 4 0), (8, .d (.lst (names.map fun k => [.str k]))), (9, .own 9 2 ((putsF (names.zip args)).2.map Coef.cells)), (11, .own 11 1 ((done.map fun y => (metOne (tabK m (names.zip args)) (putsF (names.zip args)).2 y).1).map icell))],
   [(3, [.d (.lst (m.datas.map DataT.cells)), .d m.cls, .d m.ins, .d (.lst (m.meas.map Meas.cells)), .d m.quals, .d m.defs]), (4, [.d d0, .d d1, .d d2, .d d3, .d d4, .d d5, .d d6, .d d7, .d d8, .d d9, .d d10, .d s0, .d s1, .d s2, .d s3, .d s4, .d s5, .d s6, .d (.lst (names.map fun k => [.str k])), .d s8, .d s9, .d s10, .d s11, .d s12, .d (.lst (ts.map Pred.cells))])], [(9, true), (11, true)]⟩) ?_ (by simp) ?_ ?_
  ·refine Ent_conv 11 11 1 [] [(9, 9), (11, 11)] (by simp only [go_sem]) (by simp) rfl ⟨rfl, ?_, ?_, ?_⟩ <;> simp only [go_sem, List.contains_cons, List.contains_nil, Option.isSome_some, Nat.reduceBEq, List.map_nil]
  ·intro done t rest hl hInv
   have htt := ht t (mem_at hl)
   have hlt := lt_mid hl
   have hgk := getD_midP hl
   have hdl : done.length ≤ ts.length := by rw [hl]; simp
   have hct4 : t.cells.length = 4 := Pred.cells_length t
   have hchk := hchk t
   have hmeas := hmeas t (by omega)
   simp only [fn_r41_Value_L1, go_sem, hgk, hlt, List.length_map, hct4]
   intro _
   have hw : IntKind.i64.wrap ((done.length : Int) + 1) = ((done.length + 1 : Nat) : Int) := wrap_succ (by omega)
   refine call_by hchk ?_
   simp only [go_sem]
   cases hq : (t.checkE != 0) with
   | true =>
    have hone : (metOne (tabK m (names.zip args)) (putsF (names.zip args)).2 t).2 = false := by unfold metOne; rw [hq]; rfl
    rw [hl, metS_bad hone] at hR
    simp only [go_sem, hK2, ← hR, List.map_nil, and_self]
   | false =>
    have hq0 : t.checkE = 0 := by simpa using hq
    have hone : metOne (tabK m (names.zip args)) (putsF (names.zip args)).2 t = if (measR (tabK m (names.zip args)) t).2 then EvalS (putsF (names.zip args)).2 [] (measR (tabK m (names.zip args)) t).1 else (0, false) := by
     unfold metOne
     rw [hq]
     exact meas_eval htt hq0
    generalize hmo : metOne (tabK m (names.zip args)) (putsF (names.zip args)).2 t = mo at *
    generalize measR (tabK m (names.zip args)) t = mr at *
    obtain ⟨mp, mb⟩ := mr
    have hc4 : mp.cells.length = 4 := Pred.cells_length mp
    simp only at hone hmeas
    simp only [go_sem, hgk, hlt, List.length_map, hct4]
    refine call_by hmeas ?_
    simp only [go_sem, hc4, List.length_map]
    cases mb with
    | false =>
     simp only [Bool.false_eq_true, if_false] at hone
     rw [hl, metS_bad (by rw [hmo, hone])] at hR
     simp only [go_sem, hK2, ← hR, List.map_nil, and_self, Bool.false_eq_true]
    | true =>
     simp only [if_true] at hone
     have hev := heval (putsF (names.zip args)).2 mp
     unfold res2 at hev
     rw [← hone] at hev
     simp only [List.map_nil] at hev
     simp only [go_sem, hc4, List.length_map, Bool.false_eq_true]
     refine call_by hev ?_
     simp only [go_sem]
     by_cases hb : mo.2 = true
     ·have q1 : (done.length + 1) * 8 ≤ 2 ^ 46 := by omega
      have q2 : done.length ≤ 9223372036854775806 := by omega
      simp only [hb, go_sem, Bool.false_eq_true, hw, List.length_append, List.length_map, q1, q2, List.mem_singleton, forall_eq]
      refine ⟨Ent_own [(9, 9), (11, 118)] ?_, app_all hInv (by rw [hmo]; exact hb)⟩
      simp only [go_sem, List.contains_cons, List.contains_nil, Option.isSome_some, Nat.reduceBEq, List.map_append, List.map_cons, List.map_nil, hmo, icell]
     ·have hb : mo.2 = false := by simpa using hb
      rw [hl, metS_bad (by rw [hmo]; exact hb)] at hR
      simp only [hb, go_sem, hK2, ← hR, List.map_nil, and_self]
  ·intro hInv
   simp only [fn_r41_Value_L1, ↓reduceIte, go_sem, List.length_map]
   intro _
   rw [metS_all hInv] at hR
   simp only [go_sem, hK2, ← hR, and_self]
end Go.Abs
end
section
set_option linter.unusedSimpArgs false
set_option linter.unusedVariables false
set_option linter.unusedSectionVars false
namespace Go.Abs
theorem beqL_snoc {a b : List Int} {x y : Int} (h : a.length = b.length) : ((a ++ [x] : List Int) == b ++ [y]) = ((a == b) && x == y) := by
 rw [Bool.eq_iff_iff]
 simp only [beq_iff_eq, Bool.and_eq_true]
 constructor
 ·intro e
  have := List.append_inj e h
  exact ⟨this.1, by simpa using this.2⟩
 ·rintro ⟨rfl, rfl⟩; rfl
theorem lexL_ne {a b : List Int} (h : lexL a b = true) : (a == b) = false := by
 rw [← Bool.not_eq_true, beq_iff_eq]
 rintro rfl
 rw [lexL_self] at h; cases h
theorem falls_neg {a b l r : List Int} {n : Int} (hb : b = l ++ n :: r) (hn : decide (n < 0) = true) : fallsS a b = false := by
 unfold fallsS
 have : b.all (fun y => decide (0 ≤ y)) = false := by
  rw [List.all_eq_false]
  refine ⟨n, by rw [hb]; simp, ?_⟩
  simp only [decide_eq_true_eq] at hn ⊢
  omega
 rw [this]; simp
theorem falls_end {a b : List Int} (hl : a.length = b.length) (h : ∀ y ∈ b, decide (y < 0) = false) : fallsS a b = lexL a b := by
 unfold fallsS
 have h1 : (a.length == b.length) = true := by simpa using hl
 have h2 : b.all (fun y => decide (0 ≤ y)) = true := by
  rw [List.all_eq_true]; intro y hy
  have := h y hy
  simp only [decide_eq_true_eq, decide_eq_false_iff_not] at this ⊢; omega
 rw [h1, h2]; rfl
theorem take_at {a na nr : List Int} {x : Int} {n : Nat} (h : a = na ++ x :: nr) (hn : na.length = n) : a.take n = na ∧ a.take (n + 1) = na ++ [x] := by
 subst h; subst hn
 constructor
 ·simp
 ·rw [List.take_append, List.take_of_length_le (by omega)]; simp
theorem getD_int {a na nr : List Int} {x : Int} {n : Nat} (h : a = na ++ x :: nr) (hn : na.length = n) : (a.map icell).getD n [] = [.int .i64 x] := by
 subst h; subst hn; simp [icell]
set_option maxRecDepth 100000
variable {E : AEnv} (Z : Sys E)
include Z
set_option maxHeartbeats 4000000 in
theorem metric_Falls_ev (a b : List Int) : E.C metric_Falls [.one (.lst (a.map icell)), .one (.lst (b.map icell))] (.one (.bool (fallsS a b))) := by
 refine Z.metric_Falls _ _ ⟨Nat.le_of_ble_eq_true rfl, ?_⟩
 generalize hR : fallsS a b = R
 simp only [fn_metric_Falls, go_sem, List.length_map]
 intro _ _
 cases c1 : ((a.length : Int) != (b.length : Int)) with
 | true =>
  have c1' : (a.length == b.length) = false := by
   rw [bne_iff_ne] at c1; simp only [beq_eq_false_iff_ne]; omega
  unfold fallsS at hR
  rw [c1'] at hR
  simp only [Bool.false_and] at hR
  simp only [go_sem, ← hR, and_self]
 | false =>
 have hal : a.length = b.length := by
  have : ¬ (a.length : Int) ≠ b.length := by rw [← bne_iff_ne, c1]; simp
  omega
 simp only [go_sem, List.length_map]
 intro _
 refine loop_list b (fun done => ∀ y ∈ done, decide (y < 0) = false) (fun done rest => ⟨[(16, .d (.int .i64 done.length)), (15, .d (.int .i64 b.length)), (14, .d (.lst (b.map icell))), (0, .d (.lst (a.map icell))), (5, .ptr 5 0)], [(5, [.d (.bool (a.take done.length == done)), .d (.bool (lexL (a.take done.length) done))])], []⟩) ?_ (by simp) ?_ ?_
 ·exact Ent_plain (by simp only [go_sem, Option.isSome_some, List.take_zero, lexL, beq_self_eq_true])
 ·intro done n rest hl hI
  obtain ⟨na, x, nr, hna, hnl⟩ := at_split (b := a) (n := done.length) (by rw [hal, hl]; simp)
  obtain ⟨t1, t2⟩ := take_at hna hnl
  have hlt := lt_mid hl
  have hlt2 : (done.length : Int) < a.length := by rw [hal]; exact hlt
  have hga := getD_int hna hnl
  have hgb := getD_int hl rfl
  have hia := icell_lens a
  have hib := icell_lens b
  have hw : IntKind.i64.wrap ((done.length : Int) + 1) = ((done.length + 1 : Nat) : Int) := wrap_succ (by omega)
  have e1 := beqL_snoc (x := x) (y := n) hnl
  have e2 := lexL_snoc (x := x) (y := n) hnl
  simp only [fn_metric_Falls_L1, go_sem, hlt, hlt2, List.length_map, hga, hgb, hia, hib, t1]
  by_cases hn : decide (n < 0) = true
  ·rw [falls_neg hl hn] at hR
   rw [if_pos hn]; exact hR
  ·rw [if_neg hn]
   have hn : decide (n < 0) = false := by simpa using hn
   by_cases hc : (na == done && decide (x < n)) = true
   ·rw [hc, Bool.or_true] at e2
    simp only [hc, go_sem, hw, List.length_append]
    exact ⟨Ent_plain (by simp only [go_sem, Option.isSome_some, t2, e1, e2, hw, List.length_append, List.length_singleton]), app_all hI hn⟩
   ·have hc : (na == done && decide (x < n)) = false := by simpa using hc
    rw [hc, Bool.or_false] at e2
    simp only [hc, go_sem, hw, List.length_append]
    exact ⟨Ent_plain (by simp only [go_sem, Option.isSome_some, t2, e1, e2, hw, List.length_append, List.length_singleton]), app_all hI hn⟩
 ·intro hI
  simp only [fn_metric_Falls_L1, ↓reduceIte, go_sem, List.length_map]
  rw [falls_end hal hI] at hR
  rw [List.take_of_length_le (by omega), ← hR]
  cases h : lexL a b with
  | false => simp
  | true => rw [lexL_ne h]; rfl
set_option maxHeartbeats 4000000 in
theorem r41_Falls_ev (a b : List Int) : E.C r41_Falls [.one (.lst (a.map icell)), .one (.lst (b.map icell))] (.one (.bool (fallsS a b))) := by
 refine Z.r41_Falls _ _ ⟨Nat.le_of_ble_eq_true rfl, ?_⟩
 generalize hR : fallsS a b = R
 simp only [fn_r41_Falls, go_sem, List.length_map]
 intro _ _
 cases c1 : ((a.length : Int) != (b.length : Int)) with
 | true =>
  have c1' : (a.length == b.length) = false := by
   rw [bne_iff_ne] at c1; simp only [beq_eq_false_iff_ne]; omega
  unfold fallsS at hR
  rw [c1'] at hR
  simp only [Bool.false_and] at hR
  simp only [go_sem, ← hR, and_self]
 | false =>
 have hal : a.length = b.length := by
  have : ¬ (a.length : Int) ≠ b.length := by rw [← bne_iff_ne, c1]; simp
  omega
 simp only [go_sem, List.length_map]
 refine loop_list b (fun done => ∀ y ∈ done, decide (y < 0) = false) (fun done rest => ⟨[(7, .d (.int .i64 done.length)), (6, .d (.bool (!(a.take done.length == done)))), (5, .d (.bool (lexL (a.take done.length) done))), (1, .d (.lst (b.map icell))), (0, .d (.lst (a.map icell)))], [], []⟩) ?_ (by simp) ?_ ?_
 ·exact Ent_plain (by simp only [go_sem, Option.isSome_some, List.take_zero, lexL, beq_self_eq_true])
 ·intro done n rest hl hI
  obtain ⟨na, x, nr, hna, hnl⟩ := at_split (b := a) (n := done.length) (by rw [hal, hl]; simp)
  obtain ⟨t1, t2⟩ := take_at hna hnl
  have hlt := lt_mid hl
  have hlt2 : (done.length : Int) < a.length := by rw [hal]; exact hlt
  have hga := getD_int hna hnl
  have hgb := getD_int hl rfl
  have hia := icell_lens a
  have hib := icell_lens b
  have hw : IntKind.i64.wrap ((done.length : Int) + 1) = ((done.length + 1 : Nat) : Int) := wrap_succ (by omega)
  have e1 := beqL_snoc (x := x) (y := n) hnl
  have e2 := lexL_snoc (x := x) (y := n) hnl
  simp only [fn_r41_Falls_L1, go_sem, hlt, hlt2, List.length_map, hga, hgb, hia, hib, t1]
  intro _
  by_cases hn : decide (n < 0) = true
  ·rw [falls_neg hl hn] at hR
   simp only [hn, go_sem]
   exact hR
  ·have hn : decide (n < 0) = false := by simpa using hn
   simp only [hn, go_sem]
   by_cases hq : (na == done) = true
   ·have : na = done := by simpa using hq
    subst this
    rw [hq, Bool.true_and] at e1
    rw [lexL_self, hq, Bool.false_or, Bool.true_and] at e2
    by_cases hx : (x != n) = true
    ·have hx2 : (x == n) = false := by simpa using hx
     simp only [hq, hx, go_sem, hlt, hlt2, List.length_map, hga, hgb, hia, hib]
     exact ⟨Ent_plain (by simp only [go_sem, Option.isSome_some, t2, e1, e2, hw, hx2, List.length_append, List.length_singleton]), app_all hI hn⟩
    ·have hx : (x != n) = false := by simpa using hx
     have hxn : x = n := by simpa using hx
     subst hxn
     have e2 : lexL (na ++ [x]) (na ++ [x]) = false := lexL_self _
     simp only [hq, hx, go_sem, hlt, hlt2, List.length_map, hga, hgb, hia, hib]
     exact ⟨Ent_plain (by simp only [go_sem, Option.isSome_some, t2, e1, e2, hw, lexL_self, beq_self_eq_true, List.length_append, List.length_singleton]), app_all hI hn⟩
   ·have hq : (na == done) = false := by simpa using hq
    rw [hq, Bool.false_and] at e1
    rw [hq, Bool.false_and, Bool.or_false] at e2
    simp only [hq, go_sem, hlt, hlt2, List.length_map, hga, hgb, hia, hib]
    exact ⟨Ent_plain (by simp only [go_sem, Option.isSome_some, t2, e1, e2, hw, List.length_append, List.length_singleton]), app_all hI hn⟩
 ·intro hI
  simp only [fn_r41_Falls_L1, ↓reduceIte, go_sem, List.length_map]
  intro _
  rw [falls_end hal hI] at hR
  rw [List.take_of_length_le (by omega), ← hR]
  try trivial
end Go.Abs
end
section
set_option linter.unusedSimpArgs false
set_option linter.unusedVariables false
set_option linter.unusedSectionVars false
namespace Go.Abs
theorem zip_maps : ∀ l : List (Pred × Pred), (l.map (·.1)).zip (l.map (·.2)) = l
 | [] => rfl
 | q :: l => by simp only [List.map_cons, List.zip_cons_cons, zip_maps l]
theorem zip_ex : ∀ {a b : List Pred}, a.length = b.length → ∃ l : List (Pred × Pred), a = l.map (·.1) ∧ b = l.map (·.2)
 | [], [], _ => ⟨[], rfl, rfl⟩
 | [], _ :: _, h => by simp at h
 | _ :: _, [], h => by simp at h
 | x :: a, y :: b, h => by
  obtain ⟨l, h1, h2⟩ := zip_ex (a := a) (b := b) (by simpa using h)
  exact ⟨(x, y) :: l, by rw [h1]; rfl, by rw [h2]; rfl⟩
theorem tame_p2 {o : Int} {a b : Pred} (ha : Tame a) (hb : Tame b) : Tame (p2 o a b) := by
 refine AllN.mk (by show 2 ≤ 1048576; omega) fun k hk => ?_
 rcases List.mem_cons.1 hk with rfl | hk
 ·exact ha
 ·rw [List.mem_singleton.1 hk]; exact hb
theorem tame_false : Tame falseP := tame_of_cnt _ (by decide)
theorem tame_zeroP : Tame zeroP := tame_of_cnt _ (by decide)
theorem tame_pn (n : Int) : Tame (pn n) := tame_of_cnt _ (by show 1 ≤ 1048576; omega)
theorem tame_andGo {l : List Pred} (h : ∀ p ∈ l, Tame p) : Tame (andGo l).1 := by
 induction l using snoc_ind with
 | h0 => exact true_tame
 | h l q ih =>
  have hq := h q (by simp)
  have ih := ih fun p hp => h p (by simp [hp])
  rw [andGo_app, andStp]
  split
  ·exact ih
  ·split
   ·exact tame_p2 ih hq
   ·exact hq
theorem tame_andP {l : List Pred} (h : ∀ p ∈ l, Tame p) : Tame (andP l) := by
 unfold andP
 split
 ·exact tame_false
 ·exact tame_andGo h
theorem tame_leZ {t : Pred} (h : Tame t) : Tame (leZ t) := tame_p2 (tame_pn 0) h
theorem tame_bound {a : List Pred} (h : ∀ t ∈ a, Tame t) : Tame (boundP a) := tame_andP fun p hp => by
 obtain ⟨t, ht, rfl⟩ := List.mem_map.1 hp
 exact tame_leZ (h t ht)
theorem tame_eqs {l : List (Pred × Pred)} {q : Pred × Pred} (h : ∀ r ∈ l, Tame r.1 ∧ Tame r.2) (hq : Tame q.1 ∧ Tame q.2) : ∀ p ∈ l.map eqP ++ [ltP q], Tame p := fun p hp => by
 rcases List.mem_append.1 hp with hp | hp
 ·obtain ⟨r, hr, rfl⟩ := List.mem_map.1 hp
  exact tame_p2 (h r hr).1 (h r hr).2
 ·rw [List.mem_singleton.1 hp]; exact tame_p2 hq.1 hq.2
theorem tame_lessGo {l : List (Pred × Pred)} (h : ∀ r ∈ l, Tame r.1 ∧ Tame r.2) : Tame ((lessGo l).1.getD zeroP) := by
 induction l using snoc_ind with
 | h0 => exact tame_zeroP
 | h l q ih =>
  have hq := h q (by simp)
  have hl : ∀ r ∈ l, Tame r.1 ∧ Tame r.2 := fun p hp => h p (by simp [hp])
  have ih := ih hl
  have hand := tame_andP (tame_eqs hl hq)
  rw [lessGo_snoc, lessStp, lessGo_snd]
  simp only [Option.getD_some]
  cases hg : (lessGo l).1 with
  | none => exact hand
  | some o => rw [hg] at ih; exact tame_p2 ih hand
theorem tame_less {a b : List Pred} (ha : ∀ t ∈ a, Tame t) (hb : ∀ t ∈ b, Tame t) : Tame (lessP a b) := by
 unfold lessP
 split
 ·exact tame_false
 ·exact tame_lessGo fun r hr => ⟨ha _ (List.of_mem_zip (show (r.1, r.2) ∈ a.zip b from hr)).1, hb _ (List.of_mem_zip (show (r.1, r.2) ∈ a.zip b from hr)).2⟩
theorem lessGo_some (l : List (Pred × Pred)) : (lessGo l).1.isSome = !l.isEmpty := by
 induction l using snoc_ind with
 | h0 => rfl
 | h l q ih => rw [lessGo_snoc]; simp [lessStp]
theorem less_cells (l : List (Pred × Pred)) (q : Pred × Pred) : ((lessGo (l ++ [q])).1.getD zeroP) = if l.length = 0 then andP (l.map eqP ++ [ltP q]) else p2 16 ((lessGo l).1.getD zeroP) (andP (l.map eqP ++ [ltP q])) := by
 rw [lessGo_snoc, lessStp, lessGo_snd]
 have hf := lessGo_some l
 cases l with
 | nil => rfl
 | cons x l =>
  cases hg : (lessGo (x :: l)).1 with
  | none => rw [hg] at hf; cases hf
  | some o => simp
theorem zero_cells : zeroP.cells = [.int .i64 0, .str [], .int .i64 0, .lst []] := by unfold zeroP; rw [Pred.cells_eq]; rfl
theorem false_cells : falseP.cells = [.int .i64 2, .str [], .int .i64 0, .lst []] := by unfold falseP; rw [Pred.cells_eq]; rfl
theorem pn_cells (n : Int) : (pn n).cells = [.int .i64 1, .str [], .int .i64 n, .lst []] := by unfold pn; rw [Pred.cells_eq]; rfl
set_option maxRecDepth 100000
variable {E : AEnv} (Z : Sys E)
include Z
theorem metric_op_ev (o : Int) (a b : Pred) : E.C metric_op [.one (.int .i64 o), .agg a.cells, .agg b.cells] (.agg (p2 o a b).cells) := by
 refine Z.metric_op _ _ ⟨Nat.le_of_ble_eq_true rfl, ?_⟩
 rw [p2, Pred.cells_eq (.mk o [] 0 [a, b])]
 simp only [fn_metric_op, go_sem, Pred.op, Pred.name, Pred.n, Pred.kids]
theorem r41_two_ev (o : Int) (a b : Pred) : E.C r41_two [.one (.int .i64 o), .agg a.cells, .agg b.cells] (.agg (p2 o a b).cells) := by
 refine Z.r41_two _ _ ⟨Nat.le_of_ble_eq_true rfl, ?_⟩
 rw [p2, Pred.cells_eq (.mk o [] 0 [a, b])]
 simp only [fn_r41_two, go_sem, Pred.op, Pred.name, Pred.n, Pred.kids]
theorem metric_Bounded_ev (a : List Pred) (ha : ∀ t ∈ a, Tame t) (hz : a.length ≤ 1048576) : E.C metric_Bounded [.one (.lst (a.map Pred.cells))] (.agg (boundP a).cells) := by
 have hop := fun t => metric_op_ev Z 13 (pn 0) t
 have hand := pred_And_ev Z (a.map leZ) fun p hp _ => by
  obtain ⟨t, ht, rfl⟩ := List.mem_map.1 hp
  exact tame_leZ (ha t ht)
 rw [pn_cells] at hop
 refine Z.metric_Bounded _ _ ⟨Nat.le_of_ble_eq_true rfl, ?_⟩
 simp only [fn_metric_Bounded, go_sem, List.length_map]
 intro _
 refine loop_list a (fun _ => True) (fun done rest => ⟨[(8, .d (.int .i64 done.length)), (7, .d (.int .i64 a.length)), (6, .d (.lst (a.map Pred.cells))), (3, .own 3 4 ((done.map leZ).map Pred.cells)), (2, .ptr 2 0)], [(2, [.d (.int .i64 0), .d (.str []), .d (.int .i64 0), .full []])], [(3, true)]⟩) ?_ trivial ?_ ?_
 ·exact Ent_conv 3 3 4 [] [(3, 3)] (by simp only [go_sem]) (by simp) rfl ⟨rfl, by simp only [go_sem, List.contains_nil], by simp only [go_sem, Option.isSome_some, List.map_nil], by simp only [go_sem, Option.isSome_some]⟩
 ·intro done t rest hl _
  have hlt := lt_mid hl
  have hgk := getD_midP hl
  have hdl : done.length ≤ a.length := by rw [hl]; simp
  have hc4 : t.cells.length = 4 := Pred.cells_length t
  have hw : IntKind.i64.wrap ((done.length : Int) + 1) = ((done.length + 1 : Nat) : Int) := wrap_succ (by omega)
  have q1 : (done.length + 1) * 56 ≤ 2 ^ 46 := by omega
  have q2 : done.length ≤ 9223372036854775806 := by omega
  simp only [fn_metric_Bounded_L1, go_sem, hgk, hlt, List.length_map, hc4]
  refine call_by (hop t) ?_
  simp only [go_sem, hgk, hlt, List.length_map, hc4, q1, q2, hw, List.length_append, List.mem_singleton, forall_eq, Pred.cells_length]
  exact Ent_own [(3, 17)] (by simp only [go_sem, List.contains_nil, Option.isSome_some, List.map_append, List.map_cons, List.map_nil, leZ])
 ·intro _
  simp only [fn_metric_Bounded_L1, ↓reduceIte, go_sem, List.length_map]
  refine call_by hand ?_
  simp only [go_sem, boundP, Pred.cells_length]
theorem r41_Bounded_ev (a : List Pred) (hz : a.length ≤ 1048576) : E.C r41_Bounded [.one (.lst (a.map Pred.cells))] (.agg (boundP a).cells) := by
 have hop := fun t => r41_two_ev Z 13 (pn 0) t
 have hand := r07_And_ev Z (a.map leZ)
 rw [pn_cells] at hop
 refine Z.r41_Bounded _ _ ⟨Nat.le_of_ble_eq_true rfl, ?_⟩
 simp only [fn_r41_Bounded, go_sem, List.length_map]
 refine loop_list a (fun _ => True) (fun done rest => ⟨[(4, .d (.int .i64 done.length)), (0, .d (.lst (a.map Pred.cells))), (3, .own 3 4 ((done.map leZ).map Pred.cells)), (2, .ptr 2 0)], [(2, [.d (.int .i64 0), .d (.str []), .d (.int .i64 0), .full []])], [(3, true)]⟩) ?_ trivial ?_ ?_
 ·exact Ent_conv 3 3 4 [] [(3, 3)] (by simp only [go_sem]) (by simp) rfl ⟨rfl, by simp only [go_sem, List.contains_nil], by simp only [go_sem, Option.isSome_some, List.map_nil], by simp only [go_sem, Option.isSome_some]⟩
 ·intro done t rest hl _
  have hlt := lt_mid hl
  have hgk := getD_midP hl
  have hdl : done.length ≤ a.length := by rw [hl]; simp
  have hc4 : t.cells.length = 4 := Pred.cells_length t
  have hw : IntKind.i64.wrap ((done.length : Int) + 1) = ((done.length + 1 : Nat) : Int) := wrap_succ (by omega)
  have q1 : (done.length + 1) * 56 ≤ 2 ^ 46 := by omega
  have q2 : done.length ≤ 9223372036854775806 := by omega
  simp only [fn_r41_Bounded_L1, go_sem, hgk, hlt, List.length_map, hc4]
  intro _
  refine call_by (hop t) ?_
  simp only [go_sem, hgk, hlt, List.length_map, hc4, q1, q2, hw, List.length_append, List.mem_singleton, forall_eq, Pred.cells_length]
  exact Ent_own [(3, 19)] (by simp only [go_sem, List.contains_nil, Option.isSome_some, List.map_append, List.map_cons, List.map_nil, leZ])
 ·intro _
  simp only [fn_r41_Bounded_L1, ↓reduceIte, go_sem, List.length_map]
  intro _
  refine call_by hand ?_
  simp only [go_sem, boundP, Pred.cells_length]
set_option maxHeartbeats 4000000 in
theorem metric_Less_ev (a b : List Pred) (ha : ∀ t ∈ a, Tame t) (hb : ∀ t ∈ b, Tame t) (hz : a.length ≤ 1048576) : E.C metric_Less [.one (.lst (a.map Pred.cells)), .one (.lst (b.map Pred.cells))] (.agg (lessP a b).cells) := by
 have hop := metric_op_ev Z
 have hand := fun l h => pred_And_ev Z l h
 refine Z.metric_Less _ _ ⟨Nat.le_of_ble_eq_true rfl, ?_⟩
 generalize hR : lessP a b = R
 unfold lessP at hR
 simp only [fn_metric_Less, go_sem, List.length_map]
 intro _ _
 cases c1 : ((a.length : Int) != (b.length : Int)) with
 | true =>
  have c1' : (a.length != b.length) = true := by rw [bne_iff_ne] at c1 ⊢; omega
  rw [c1'] at hR
  simp only [Bool.true_or, if_true] at hR
  simp only [go_sem, ← hR, false_cells, and_self]
 | false =>
 have hal : a.length = b.length := by
  have : ¬ (a.length : Int) ≠ b.length := by rw [← bne_iff_ne, c1]; simp
  omega
 have c1' : (a.length != b.length) = false := by rw [hal]; simp
 rw [c1', Bool.false_or] at hR
 simp only [go_sem, List.length_map]
 cases c2 : ((a.length : Int) == 0) with
 | true =>
  have c2' : (a.length == 0) = true := by simpa using c2
  rw [c2', if_pos rfl] at hR
  simp only [go_sem, ← hR, false_cells, and_self, implies_true]
 | false =>
 have c2' : (a.length == 0) = false := by simpa using c2
 rw [c2'] at hR
 simp only [Bool.false_eq_true, if_false] at hR
 simp only [go_sem, List.length_map, Bool.false_eq_true]
 intro _ _
 obtain ⟨l, rfl, rfl⟩ := zip_ex hal
 rw [zip_maps] at hR
 simp only [List.length_map] at *
 refine loop_list l (fun _ => True) (fun done rest => ⟨[(22, .d (.int .i64 done.length)), (21, .d (.int .i64 l.length)), (0, .d (.lst ((l.map (·.1)).map Pred.cells))), (1, .d (.lst ((l.map (·.2)).map Pred.cells))), (6, .own 6 4 ((done.map eqP).map Pred.cells)), (5, .ptr 5 0), (4, .ptr 4 0)], [(5, ((lessGo done).1.getD zeroP).cells.map .d), (4, [.d (.int .i64 0), .d (.str []), .d (.int .i64 0), .full []])], [(6, true)]⟩) ?_ trivial ?_ ?_
 ·have h0 : (lessGo []).1.getD zeroP = zeroP := rfl
  refine Ent_conv 6 6 4 [] [(6, 6)] (by simp only [go_sem]) (by simp) rfl ⟨rfl, by simp only [go_sem, List.contains_nil], ?_, ?_⟩ <;> simp only [go_sem, Option.isSome_some, List.map_nil, h0, zero_cells, List.map_cons]
 ·intro done q rest hl _
  have hlt := lt_mid hl
  have hg1 : ((l.map (·.1)).map Pred.cells).getD done.length [] = q.1.cells := by rw [List.map_map]; exact getD_at (f := Pred.cells ∘ Prod.fst) (d := []) hl
  have hg2 : ((l.map (·.2)).map Pred.cells).getD done.length [] = q.2.cells := by rw [List.map_map]; exact getD_at (f := Pred.cells ∘ Prod.snd) (d := []) hl
  have hdl : done.length ≤ l.length := by rw [hl]; simp
  have hc4 : ∀ p : Pred, p.cells.length = 4 := Pred.cells_length
  have hw : IntKind.i64.wrap ((done.length : Int) + 1) = ((done.length + 1 : Nat) : Int) := wrap_succ (by omega)
  have q1 : (done.length + 1) * 56 ≤ 2 ^ 46 := by omega
  have q2 : done.length ≤ 9223372036854775806 := by omega
  have hand := hand (done.map eqP ++ [ltP q]) fun p hp _ => tame_eqs (l := done) (q := q) (fun r hr => ⟨ha _ (List.mem_map.2 ⟨r, by rw [hl]; simp [hr], rfl⟩), hb _ (List.mem_map.2 ⟨r, by rw [hl]; simp [hr], rfl⟩)⟩) ⟨ha _ (List.mem_map.2 ⟨q, by rw [hl]; simp, rfl⟩), hb _ (List.mem_map.2 ⟨q, by rw [hl]; simp, rfl⟩)⟩ p hp
  simp only [List.map_append, List.map_cons, List.map_nil, ltP] at hand
  have hlc := less_cells done q
  simp only [ltP] at hlc
  generalize andP (done.map eqP ++ [p2 12 q.1 q.2]) = one at hand hlc
  generalize (lessGo done).1.getD zeroP = out at *
  have hdr : ∀ p : Pred, List.drop 4 (List.map AV.d p.cells) = [] := fun p => List.drop_of_length_le (by rw [List.length_map, Pred.cells_length]; exact Nat.le_refl _)
  simp only [fn_metric_Less_L1, go_sem, hg1, hg2, hlt, List.length_map, hc4]
  refine ⟨⟨by simp, by omega, by omega⟩, ?_⟩
  refine call_by (hop 12 q.1 q.2) ?_
  simp only [go_sem, hg1, hg2, hlt, List.length_map, hc4, q1, q2, hw, List.length_append, List.mem_singleton, forall_eq]
  refine call_by hand ?_
  simp only [go_sem, hg1, hg2, hlt, List.length_map, hc4, q1, q2, hw, List.length_append, List.mem_singleton, forall_eq]
  by_cases hz0 : done.length = 0
  ·have hz1 : ((done.length : Int) == 0) = true := by simp [hz0]
   rw [if_pos hz0] at hlc
   rw [if_pos hz1]
   refine call_by (hop 10 q.1 q.2) ?_
   simp only [go_sem, hg1, hg2, hlt, List.length_map, hc4, q1, q2, hw, List.length_append, List.mem_singleton, forall_eq]
   refine Ent_own [(6, 57)] ?_
   simp only [go_sem, List.contains_nil, Option.isSome_some, List.map_append, List.map_cons, List.map_nil, hlc, eqP, hdr, List.append_nil]
  ·have hz1 : ((done.length : Int) == 0) = false := by simp [hz0]
   rw [if_neg hz0] at hlc
   rw [if_neg (by rw [hz1]; decide)]
   refine call_by (hop 16 out one) ?_
   simp only [go_sem, hg1, hg2, hlt, List.length_map, hc4, q1, q2, hw, List.length_append, List.mem_singleton, forall_eq]
   refine call_by (hop 10 q.1 q.2) ?_
   simp only [go_sem, hg1, hg2, hlt, List.length_map, hc4, q1, q2, hw, List.length_append, List.mem_singleton, forall_eq]
   refine Ent_own [(6, 57)] ?_
   simp only [go_sem, List.contains_nil, Option.isSome_some, List.map_append, List.map_cons, List.map_nil, hlc, eqP, hdr, List.append_nil]
 ·intro _
  simp only [fn_metric_Less_L1, ↓reduceIte, go_sem, List.length_map]
  exact congrArg Pred.cells hR
set_option maxHeartbeats 4000000 in
theorem r41_Less_ev (a b : List Pred) (hz : a.length ≤ 1048576) : E.C r41_Less [.one (.lst (a.map Pred.cells)), .one (.lst (b.map Pred.cells))] (.agg (lessP a b).cells) := by
 have hop := r41_two_ev Z
 have hand := fun l => r07_And_ev Z l
 refine Z.r41_Less _ _ ⟨Nat.le_of_ble_eq_true rfl, ?_⟩
 generalize hR : lessP a b = R
 unfold lessP at hR
 simp only [fn_r41_Less, go_sem, List.length_map]
 intro _ _
 cases c1 : ((a.length : Int) != (b.length : Int)) with
 | true =>
  have c1' : (a.length != b.length) = true := by rw [bne_iff_ne] at c1 ⊢; omega
  rw [c1'] at hR
  simp only [Bool.true_or, if_true] at hR
  simp only [go_sem, ← hR, false_cells, and_self]
 | false =>
 have hal : a.length = b.length := by
  have : ¬ (a.length : Int) ≠ b.length := by rw [← bne_iff_ne, c1]; simp
  omega
 have c1' : (a.length != b.length) = false := by rw [hal]; simp
 rw [c1', Bool.false_or] at hR
 simp only [go_sem, List.length_map]
 cases c2 : ((a.length : Int) == 0) with
 | true =>
  have c2' : (a.length == 0) = true := by simpa using c2
  rw [c2', if_pos rfl] at hR
  simp only [go_sem, ← hR, false_cells, and_self, implies_true]
 | false =>
 have c2' : (a.length == 0) = false := by simpa using c2
 rw [c2'] at hR
 simp only [Bool.false_eq_true, if_false] at hR
 simp only [go_sem, List.length_map, Bool.false_eq_true]
 intro _
 obtain ⟨l, rfl, rfl⟩ := zip_ex hal
 rw [zip_maps] at hR
 simp only [List.length_map] at *
 refine loop_list l (fun _ => True) (fun done rest => ⟨[(7, .d (.int .i64 done.length)), (0, .d (.lst ((l.map (·.1)).map Pred.cells))), (1, .d (.lst ((l.map (·.2)).map Pred.cells))), (6, .own 6 4 ((done.map eqP).map Pred.cells)), (5, .ptr 5 0), (4, .ptr 4 0)], [(5, ((lessGo done).1.getD zeroP).cells.map .d), (4, [.d (.int .i64 0), .d (.str []), .d (.int .i64 0), .full []])], [(6, true)]⟩) ?_ trivial ?_ ?_
 ·have h0 : (lessGo []).1.getD zeroP = zeroP := rfl
  refine Ent_conv 6 6 4 [] [(6, 6)] (by simp only [go_sem]) (by simp) rfl ⟨rfl, by simp only [go_sem, List.contains_nil], ?_, ?_⟩ <;> simp only [go_sem, Option.isSome_some, List.map_nil, h0, zero_cells, List.map_cons]
 ·intro done q rest hl _
  have hlt := lt_mid hl
  have hg1 : ((l.map (·.1)).map Pred.cells).getD done.length [] = q.1.cells := by rw [List.map_map]; exact getD_at (f := Pred.cells ∘ Prod.fst) (d := []) hl
  have hg2 : ((l.map (·.2)).map Pred.cells).getD done.length [] = q.2.cells := by rw [List.map_map]; exact getD_at (f := Pred.cells ∘ Prod.snd) (d := []) hl
  have hdl : done.length ≤ l.length := by rw [hl]; simp
  have hc4 : ∀ p : Pred, p.cells.length = 4 := Pred.cells_length
  have hw : IntKind.i64.wrap ((done.length : Int) + 1) = ((done.length + 1 : Nat) : Int) := wrap_succ (by omega)
  have q1 : (done.length + 1) * 56 ≤ 2 ^ 46 := by omega
  have q2 : done.length ≤ 9223372036854775806 := by omega
  have hand := hand (done.map eqP ++ [ltP q])
  simp only [List.map_append, List.map_cons, List.map_nil, ltP] at hand
  have hlc := less_cells done q
  simp only [ltP] at hlc
  generalize andP (done.map eqP ++ [p2 12 q.1 q.2]) = one at hand hlc
  generalize (lessGo done).1.getD zeroP = out at *
  have hdr : ∀ p : Pred, List.drop 4 (List.map AV.d p.cells) = [] := fun p => List.drop_of_length_le (by rw [List.length_map, Pred.cells_length]; exact Nat.le_refl _)
  simp only [fn_r41_Less_L1, go_sem, hg1, hg2, hlt, List.length_map, hc4]
  intro _
  refine ⟨⟨by simp, by omega, by omega⟩, ?_⟩
  refine call_by (hop 12 q.1 q.2) ?_
  simp only [go_sem, hg1, hg2, hlt, List.length_map, hc4, q1, q2, hw, List.length_append, List.mem_singleton, forall_eq]
  refine call_by hand ?_
  simp only [go_sem, hg1, hg2, hlt, List.length_map, hc4, q1, q2, hw, List.length_append, List.mem_singleton, forall_eq]
  by_cases hz0 : done.length = 0
  ·have hz1 : ((done.length : Int) == 0) = true := by simp [hz0]
   rw [if_pos hz0] at hlc
   rw [if_pos hz1]
   refine call_by (hop 10 q.1 q.2) ?_
   simp only [go_sem, hg1, hg2, hlt, List.length_map, hc4, q1, q2, hw, List.length_append, List.mem_singleton, forall_eq]
   refine Ent_own [(6, 60)] ?_
   simp only [go_sem, List.contains_nil, Option.isSome_some, List.map_append, List.map_cons, List.map_nil, hlc, eqP, hdr, List.append_nil]
  ·have hz1 : ((done.length : Int) == 0) = false := by simp [hz0]
   rw [if_neg hz0] at hlc
   rw [if_neg (by rw [hz1]; decide)]
   refine call_by (hop 16 out one) ?_
   simp only [go_sem, hg1, hg2, hlt, List.length_map, hc4, q1, q2, hw, List.length_append, List.mem_singleton, forall_eq]
   refine call_by (hop 10 q.1 q.2) ?_
   simp only [go_sem, hg1, hg2, hlt, List.length_map, hc4, q1, q2, hw, List.length_append, List.mem_singleton, forall_eq]
   refine Ent_own [(6, 60)] ?_
   simp only [go_sem, List.contains_nil, Option.isSome_some, List.map_append, List.map_cons, List.map_nil, hlc, eqP, hdr, List.append_nil]
 ·intro _
  simp only [fn_r41_Less_L1, ↓reduceIte, go_sem, List.length_map]
  intro _
  exact congrArg Pred.cells hR
end Go.Abs
end
section
set_option linter.unusedSimpArgs false
set_option linter.unusedVariables false
set_option linter.unusedSectionVars false
namespace Go.Abs
theorem subAll_nil (p : Pred) : subAll [] [] p = p := by
 induction p using Pred.ind with
 | h o s n ks ih =>
  rw [subAll_eq]
  have : decide (findIx s 0 [] ≥ 0) = false := rfl
  rw [this, Bool.false_and, Bool.and_false, if_neg (by simp), map_id_of ih]
def hdQ (q : Pred × Int) : List D := [.int .i64 3, .str [], .str []] ++ q.1.cells ++ [.int .i64 q.2, .lst []]
theorem hdQ_mk (o : Int) (s : Str) (n : Int) (ks : List Pred) (t : Int) : hdQ (.mk o s n ks, t) = [.int .i64 3, .str [], .str [], .int .i64 o, .str s, .int .i64 n, .lst (ks.map Pred.cells), .int .i64 t, .lst []] := by
 unfold hdQ; rw [Pred.cells_eq]; rfl
theorem hdQ_len (q : Pred × Int) : (hdQ q).length = 9 := by
 obtain ⟨⟨o, s, n, ks⟩, t⟩ := q
 rw [hdQ_mk]; rfl
def andC (l : List (Pred × Int)) : List D := [.int .i64 1, .str [], .str [], .int .i64 0, .str [], .int .i64 0, .lst [], .int .i64 0, .lst (l.map hdQ)]
set_option maxRecDepth 100000
variable {E : AEnv} (Z : Sys E)
include Z
set_option maxHeartbeats 4000000 in
theorem constraint_copied_ev (p : Pred) (t : Int) (hp : Tame p) : E.C constraint_copied [.agg (hdQ (p, t))] (.agg (hdQ (p, t))) := by
 have hs := pred_SubstAll_ev Z [] [] (by simp) p hp
 rw [subAll_nil] at hs
 refine Z.constraint_copied _ _ ⟨Nat.le_of_ble_eq_true rfl, ?_⟩
 obtain ⟨o, s, n, ks⟩ := p
 rw [hdQ_mk]
 rw [Pred.cells_eq] at hs
 simp only [Pred.op, Pred.name, Pred.n, Pred.kids, List.map_nil] at hs
 simp only [fn_constraint_copied, go_sem]
 refine call_by hs ?_
 simp only [go_sem]
 refine loop_list ([] : List Int) (fun _ => True) (fun done rest => ⟨[(15, .d (.int .i64 0)), (14, .d (.int .i64 0)), (3, .ptr 3 0), (2, .ptr 2 0)], [(3, [.d (.int .i64 3), .d (.str []), .d (.str []), .d (.int .i64 o), .d (.str s), .d (.int .i64 n), .d (.lst (ks.map Pred.cells)), .d (.int .i64 t), .d (.lst [])]), (2, [.d (.int .i64 0), .d (.str []), .d (.str []), .d (.int .i64 0), .d (.str []), .d (.int .i64 0), .full [], .d (.int .i64 0), .full []])], []⟩) ?_ trivial ?_ ?_
 ·exact Ent_plain (by simp only [go_sem, Option.isSome_some])
 ·intro done k r hl _
  simp at hl
 ·intro _
  simp only [fn_constraint_copied_L1, ↓reduceIte, go_sem]
theorem r38_single_ev (p : Pred) (t : Int) : E.C r38_single [.agg (hdQ (p, t))] (.one (.bool true)) := by
 refine Z.r38_single _ _ ⟨Nat.le_of_ble_eq_true rfl, ?_⟩
 obtain ⟨o, s, n, ks⟩ := p
 rw [hdQ_mk]
 simp only [fn_r38_single, go_sem, Int.reduceBEq, Bool.or_true, Bool.false_or, implies_true, and_self]
set_option maxHeartbeats 4000000 in
theorem constraint_And_ev (l : List (Pred × Int)) (hz : l.length ≤ 1048576) (ht : ∀ q ∈ l, Tame q.1) : E.C constraint_And [.one (.lst (l.map hdQ))] (.agg (andC l)) := by
 have hcp := constraint_copied_ev Z
 refine Z.constraint_And _ _ ⟨Nat.le_of_ble_eq_true rfl, ?_⟩
 unfold andC
 simp only [fn_constraint_And, go_sem, List.length_map]
 intro _
 refine loop_list l (fun _ => True) (fun done rest => ⟨[(9, .d (.int .i64 done.length)), (8, .d (.int .i64 l.length)), (7, .d (.lst (l.map hdQ))), (3, .ptr 3 0), (2, .ptr 2 0)], [(3, [.d (.int .i64 1), .d (.str []), .d (.str []), .d (.int .i64 0), .d (.str []), .d (.int .i64 0), .d (.lst []), .d (.int .i64 0), .own 3 9 (done.map hdQ)]), (2, [.d (.int .i64 0), .d (.str []), .d (.str []), .d (.int .i64 0), .d (.str []), .d (.int .i64 0), .full [], .d (.int .i64 0), .full []])], [(3, true)]⟩) ?_ trivial ?_ ?_
 ·exact Ent_convm 3 8 3 9 _ [] [(3, 3)] rfl rfl (by simp) rfl (by simp only [Ent0, go_sem, List.contains_nil, Option.isSome_some])
 ·intro done q r hl _
  have hlt := lt_mid hl
  have hgk := getD_at (f := hdQ) (d := []) hl
  have hcp := hcp q.1 q.2 (ht q (mem_at hl))
  have hdl : done.length ≤ l.length := by rw [hl]; simp
  have hw : IntKind.i64.wrap ((done.length : Int) + 1) = ((done.length + 1 : Nat) : Int) := wrap_succ (by omega)
  have q1 : (done.length + 1) * 128 ≤ 2 ^ 46 := by omega
  have q2 : done.length ≤ 9223372036854775806 := by omega
  have hm9 : (∀ e ∈ l.map hdQ, e.length = 9) = True := eq_true (by intro e he; obtain ⟨q, _, rfl⟩ := List.mem_map.1 he; exact hdQ_len q)
  obtain ⟨⟨o, s, n, ks⟩, t⟩ := q
  simp only [hdQ_mk] at hcp hgk
  simp only [fn_constraint_And_L1, go_sem, hgk, hlt, List.length_map, hm9, Int.reduceBEq, Bool.or_true, Bool.false_or]
  refine call_by hcp ?_
  simp only [go_sem, hgk, hlt, List.length_map, hm9, hw, q1, q2, List.length_append, List.mem_singleton, forall_eq, List.length_cons, List.length_nil, Nat.reduceAdd]
  refine Ent_own [(3, 26)] ?_
  simp only [go_sem, List.contains_nil, Option.isSome_some, List.map_append, List.map_cons, List.map_nil, hdQ_mk]
 ·intro _
  simp only [fn_constraint_And_L1, ↓reduceIte, go_sem]
set_option maxHeartbeats 4000000 in
theorem r38_And_ev (l : List (Pred × Int)) (hz : l.length ≤ 1048576) : E.C r38_And [.one (.lst (l.map hdQ))] (.agg (andC l)) := by
 have hsg := r38_single_ev Z
 refine Z.r38_And _ _ ⟨Nat.le_of_ble_eq_true rfl, ?_⟩
 unfold andC
 simp only [fn_r38_And, go_sem, List.length_map]
 intro _
 refine loop_list l (fun _ => True) (fun done rest => ⟨[(9, .d (.int .i64 done.length)), (8, .d (.int .i64 l.length)), (7, .d (.lst (l.map hdQ))), (3, .ptr 3 0), (2, .ptr 2 0)], [(3, [.d (.int .i64 1), .d (.str []), .d (.str []), .d (.int .i64 0), .d (.str []), .d (.int .i64 0), .d (.lst []), .d (.int .i64 0), .own 3 9 (done.map hdQ)]), (2, [.d (.int .i64 0), .d (.str []), .d (.str []), .d (.int .i64 0), .d (.str []), .d (.int .i64 0), .full [], .d (.int .i64 0), .full []])], [(3, true)]⟩) ?_ trivial ?_ ?_
 ·exact Ent_convm 3 8 3 9 _ [] [(3, 3)] rfl rfl (by simp) rfl (by simp only [Ent0, go_sem, List.contains_nil, Option.isSome_some])
 ·intro done q r hl _
  have hlt := lt_mid hl
  have hgk := getD_at (f := hdQ) (d := []) hl
  have hsg := hsg q.1 q.2
  have hdl : done.length ≤ l.length := by rw [hl]; simp
  have hw : IntKind.i64.wrap ((done.length : Int) + 1) = ((done.length + 1 : Nat) : Int) := wrap_succ (by omega)
  have q1 : (done.length + 1) * 128 ≤ 2 ^ 46 := by omega
  have q2 : done.length ≤ 9223372036854775806 := by omega
  have hm9 : (∀ e ∈ l.map hdQ, e.length = 9) = True := eq_true (by intro e he; obtain ⟨q, _, rfl⟩ := List.mem_map.1 he; exact hdQ_len q)
  obtain ⟨⟨o, s, n, ks⟩, t⟩ := q
  simp only [hdQ_mk] at hsg hgk
  simp only [fn_r38_And_L1, go_sem, hgk, hlt, List.length_map, hm9, Int.reduceBEq, Bool.or_true, Bool.false_or]
  refine call_by hsg ?_
  simp only [go_sem, hgk, hlt, List.length_map, hm9, hw, q1, q2, List.length_append, List.mem_singleton, forall_eq, List.length_cons, List.length_nil, Nat.reduceAdd]
  refine Ent_own [(3, 19)] ?_
  simp only [go_sem, List.contains_nil, Option.isSome_some, List.map_append, List.map_cons, List.map_nil, hdQ_mk]
 ·intro _
  simp only [fn_r38_And_L1, ↓reduceIte, go_sem]
end Go.Abs
end
section
set_option linter.unusedSimpArgs false
set_option linter.unusedVariables false
set_option linter.unusedSectionVars false
namespace Go.Abs
def oblC (s c : SigT) (args : List Pred) (tag : Int) : List D := andC [(boundP s.metric, tag), (lessP (c.metric.map (subAll c.names args)) s.metric, tag)]
set_option maxRecDepth 100000
structure FamS (X : (Nat → Option (List D)) → AEnv) : Prop where
 sys : ∀ G, Sys (X G)
 G : ∀ G, (X G).G = G
theorem metric_Obligation_1_ev {E : AEnv} (Z : Sys E) (p : Pred) (t : Int) (b : Nat) (hb : E.G b = some [.int .i64 t]) : E.C metric_Obligation_1 [.agg p.cells, .one (.gp b 0)] (.agg (hdQ (p, t))) := by
 refine Z.metric_Obligation_1 _ _ ⟨Nat.le_of_ble_eq_true rfl, ?_⟩
 obtain ⟨o, s, n, ks⟩ := p
 rw [hdQ_mk, Pred.cells_eq]
 simp only [fn_metric_Obligation_1, go_sem, Pred.op, Pred.name, Pred.n, Pred.kids, hb]
theorem subs_tame {names : List Str} {l args : List Pred} (ha : ∀ t ∈ args, Tame t) (hc : ∀ t ∈ l, Tame t) : ∀ t ∈ l.map (subAll names args), Tame t := fun t ht => by
 obtain ⟨u, hu, rfl⟩ := List.mem_map.1 ht
 exact subAll_tame ha u (hc u hu)
theorem obl_tame {s c : SigT} {args : List Pred} {tag : Int} (hs : ∀ t ∈ s.metric, Tame t) (hc : ∀ t ∈ c.metric, Tame t) (ha : ∀ t ∈ args, Tame t) : ∀ q ∈ [(boundP s.metric, tag), (lessP (c.metric.map (subAll c.names args)) s.metric, tag)], Tame q.1 := by
 intro q hq
 rcases List.mem_cons.1 hq with rfl | hq
 ·exact tame_bound hs
 ·rw [List.mem_singleton.1 hq]
  exact tame_less (subs_tame ha hc) hs
set_option maxHeartbeats 4000000 in
theorem metric_Obligation_ev {X : (Nat → Option (List D)) → AEnv} (F : FamS X) (ZF : ∀ G bs dep args r, BodyF X bs dep G fn_metric_Obligation args r → (X G).C metric_Obligation args r) {G : Nat → Option (List D)}
  (s c : SigT) (args : List Pred) (tag : Int) (hs : ∀ t ∈ s.metric, Tame t) (hsl : s.metric.length ≤ 1048576) (hc : ∀ t ∈ c.metric, Tame t) (hcl : c.metric.length ≤ 1048576) (ha : ∀ t ∈ args, Tame t) :
  (X G).C metric_Obligation [.agg s.cells, .agg c.cells, .one (.lst (args.map Pred.cells)), .one (.int .i64 tag)] (.agg (oblC s c args tag)) := by
 have hsub := fun p hp => pred_SubstAll_ev (F.sys G) c.names args ha p hp
 have hbd := fun G => metric_Bounded_ev (F.sys G) s.metric hs hsl
 have hls := fun G => metric_Less_ev (F.sys G) (c.metric.map (subAll c.names args)) s.metric (subs_tame ha hc) hs (by rw [List.length_map]; exact hcl)
 have h1 := fun G p b (hb : G b = some [.int .i64 tag]) => metric_Obligation_1_ev (F.sys G) p tag b (by rw [F.G]; exact hb)
 have hand := fun G => constraint_And_ev (F.sys G) [(boundP s.metric, tag), (lessP (c.metric.map (subAll c.names args)) s.metric, tag)] (by simp) (obl_tame hs hc ha)
 refine ZF G [7] 3 _ _ ⟨Nat.le_of_ble_eq_true rfl, ?_⟩
 unfold oblC
 obtain ⟨s0, s1, s2, s3, s4, s5, s6, sn, s8, s9, s10, s11, s12, sm⟩ := s
 obtain ⟨c0, c1, c2, c3, c4, c5, c6, cn, c8, c9, c10, c11, c12, cm⟩ := c
 simp only at *
 simp only [fn_metric_Obligation, awpF, SigT.cells, go_sem, List.length_map]
 intro _
 refine loop_list cm (fun _ => True) (fun done rest => ⟨[(16, .d (.int .i64 done.length)), (15, .d (.int .i64 cm.length)), (14, .d (.lst (cm.map Pred.cells))), (2, .d (.lst (args.map Pred.cells))), (4, .ptr 4 0), (5, .ptr 5 0), (7, .ptr 7 0), (8, .ptr 8 0), (9, .own 9 4 ((done.map (subAll cn args)).map Pred.cells))],
  [(4, [.d s0, .d s1, .d s2, .d s3, .d s4, .d s5, .d s6, .d (.lst (sn.map fun k => [.str k])), .d s8, .d s9, .d s10, .d s11, .d s12, .d (.lst (sm.map Pred.cells))]), (5, [.d c0, .d c1, .d c2, .d c3, .d c4, .d c5, .d c6, .d (.lst (cn.map fun k => [.str k])), .d c8, .d c9, .d c10, .d c11, .d c12, .d (.lst (cm.map Pred.cells))]), (7, [.d (.int .i64 tag)]), (8, [.d (.int .i64 0), .d (.str []), .d (.str []), .d (.int .i64 0), .d (.str []), .d (.int .i64 0), .full [], .d (.int .i64 0), .full []])], [(9, true)]⟩) ?_ trivial ?_ ?_
 ·exact Ent_conv 9 9 4 [] [(9, 9)] (by simp only [go_sem]) (by simp) rfl ⟨rfl, by simp only [go_sem, List.contains_nil], by simp only [go_sem, Option.isSome_some, List.map_nil], by simp only [go_sem, Option.isSome_some]⟩
 ·intro done t rest hl _
  have hlt := lt_mid hl
  have hgk := getD_midP hl
  have hsub := hsub t (hc t (mem_at hl))
  have hdl : done.length ≤ cm.length := by rw [hl]; simp
  have hc4 : ∀ p : Pred, p.cells.length = 4 := Pred.cells_length
  have hw : IntKind.i64.wrap ((done.length : Int) + 1) = ((done.length + 1 : Nat) : Int) := wrap_succ (by omega)
  have q1 : (done.length + 1) * 56 ≤ 2 ^ 46 := by omega
  have q2 : done.length ≤ 9223372036854775806 := by omega
  simp only [fn_metric_Obligation_L1, go_sem, hgk, hlt, List.length_map, hc4]
  refine call_by hsub ?_
  simp only [go_sem, hgk, hlt, List.length_map, hc4, q1, q2, hw, List.length_append, List.mem_singleton, forall_eq]
  refine Ent_own [(9, 28)] ?_
  simp only [go_sem, List.contains_nil, Option.isSome_some, List.map_append, List.map_cons, List.map_nil]
 ·intro _
  simp only [fn_metric_Obligation_L1, ↓reduceIte, go_sem]
  simp only [awpF, go_sem]
  intro b7 hb7
  refine ⟨_, [.int .i64 tag], rfl, rfl, ?_⟩
  simp only [awpF, St.frz, frzSlots, frzMem, AV.frz, AV.frzs, go_sem]
  have hcb : ext G b7 [.int .i64 tag] b7 = some [.int .i64 tag] := by simp [Go.Abs.ext]
  refine call_by (hbd _) ?_
  simp only [go_sem, Pred.cells_length]
  refine call_by (h1 _ _ _ hcb) ?_
  simp only [go_sem, hdQ_len]
  refine call_by (hls _) ?_
  simp only [go_sem, hdQ_len, Pred.cells_length]
  refine call_by (h1 _ _ _ hcb) ?_
  simp only [go_sem, hdQ_len, Pred.cells_length]
  have hand := hand (ext G b7 [.int .i64 tag])
  unfold andC at hand
  simp only [List.map_cons, List.map_nil] at hand
  refine call_by hand ?_
  simp only [go_sem, andC, List.map_cons, List.map_nil]
set_option maxHeartbeats 4000000 in
theorem r41_Obligation_ev {E : AEnv} (Z : Sys E) (s c : SigT) (args : List Pred) (tag : Int) (hsl : s.metric.length ≤ 1048576) (hc : ∀ t ∈ c.metric, Tame t) (hcl : c.metric.length ≤ 1048576) :
  E.C r41_Obligation [.agg s.cells, .agg c.cells, .one (.lst (args.map Pred.cells)), .one (.int .i64 tag)] (.agg (oblC s c args tag)) := by
 have hsub := fun p hp => r07_SubstAll_ev Z c.names args p hp
 have hbd := r41_Bounded_ev Z s.metric hsl
 have hls := r41_Less_ev Z (c.metric.map (subAll c.names args)) s.metric (by rw [List.length_map]; exact hcl)
 have hand := r38_And_ev Z [(boundP s.metric, tag), (lessP (c.metric.map (subAll c.names args)) s.metric, tag)] (by simp)
 refine Z.r41_Obligation _ _ ⟨Nat.le_of_ble_eq_true rfl, ?_⟩
 unfold oblC
 obtain ⟨s0, s1, s2, s3, s4, s5, s6, sn, s8, s9, s10, s11, s12, sm⟩ := s
 obtain ⟨c0, c1, c2, c3, c4, c5, c6, cn, c8, c9, c10, c11, c12, cm⟩ := c
 simp only at *
 generalize boundP sm = bp at *
 generalize lessP (cm.map (subAll cn args)) sm = lp at *
 obtain ⟨bo, bs, bn, bk⟩ := bp
 obtain ⟨lo, ls, ln, lk⟩ := lp
 simp only [List.map_cons, List.map_nil, hdQ_mk] at hand
 rw [Pred.cells_eq] at hbd hls
 simp only [Pred.op, Pred.name, Pred.n, Pred.kids] at hbd hls
 simp only [fn_r41_Obligation, SigT.cells, go_sem, List.length_map]
 refine loop_list cm (fun _ => True) (fun done rest => ⟨[(10, .d (.int .i64 done.length)), (2, .d (.lst (args.map Pred.cells))), (3, .d (.int .i64 tag)), (4, .ptr 4 0), (5, .ptr 5 0), (8, .ptr 8 0), (9, .own 9 4 ((done.map (subAll cn args)).map Pred.cells))],
  [(4, [.d s0, .d s1, .d s2, .d s3, .d s4, .d s5, .d s6, .d (.lst (sn.map fun k => [.str k])), .d s8, .d s9, .d s10, .d s11, .d s12, .d (.lst (sm.map Pred.cells))]), (5, [.d c0, .d c1, .d c2, .d c3, .d c4, .d c5, .d c6, .d (.lst (cn.map fun k => [.str k])), .d c8, .d c9, .d c10, .d c11, .d c12, .d (.lst (cm.map Pred.cells))]), (8, [.d (.int .i64 0), .d (.str []), .d (.str []), .d (.int .i64 0), .d (.str []), .d (.int .i64 0), .full [], .d (.int .i64 0), .full []])], [(9, true)]⟩) ?_ trivial ?_ ?_
 ·exact Ent_conv 9 9 4 [] [(9, 9)] (by simp only [go_sem]) (by simp) rfl ⟨rfl, by simp only [go_sem, List.contains_nil], by simp only [go_sem, Option.isSome_some, List.map_nil], by simp only [go_sem, Option.isSome_some]⟩
 ·intro done t rest hl _
  have hlt := lt_mid hl
  have hgk := getD_midP hl
  have hsub := hsub t (hc t (mem_at hl))
  have hdl : done.length ≤ cm.length := by rw [hl]; simp
  have hc4 : ∀ p : Pred, p.cells.length = 4 := Pred.cells_length
  have hw : IntKind.i64.wrap ((done.length : Int) + 1) = ((done.length + 1 : Nat) : Int) := wrap_succ (by omega)
  have q1 : (done.length + 1) * 56 ≤ 2 ^ 46 := by omega
  have q2 : done.length ≤ 9223372036854775806 := by omega
  simp only [fn_r41_Obligation_L1, go_sem, hgk, hlt, List.length_map, hc4]
  intro _
  refine call_by hsub ?_
  simp only [go_sem, hgk, hlt, List.length_map, hc4, q1, q2, hw, List.length_append, List.mem_singleton, forall_eq]
  refine Ent_own [(9, 30)] ?_
  simp only [go_sem, List.contains_nil, Option.isSome_some, List.map_append, List.map_cons, List.map_nil]
 ·intro _
  simp only [fn_r41_Obligation_L1, ↓reduceIte, go_sem, List.length_map]
  intro _
  refine call_by hbd ?_
  simp only [go_sem, Pred.cells_length]
  refine call_by hls ?_
  simp only [go_sem, Pred.cells_length]
  unfold andC at hand
  simp only [List.map_cons, List.map_nil, hdQ_mk] at hand
  refine call_by hand ?_
  simp only [go_sem, andC, List.map_cons, List.map_nil, hdQ_mk]
end Go.Abs
end
section
set_option linter.unusedSimpArgs false
set_option linter.unusedVariables false
set_option linter.unusedSectionVars false
namespace Go.Abs
def smallM (l : List Pred) : Bool := !decide ((l.length : Int) > 6) && l.all fun y => !decide (y.nodes > 40)
def maxI (a b : Int) : Int := if b > a then b else a
mutual
def szV : Val → Int × Int
 | .mk _ _ _ ks _ _ _ => ((szVs ks (1, 0)).1, IntKind.i64.wrap ((szVs ks (1, 0)).2 + 1))
def szVs : List Val → Int × Int → Int × Int
 | [], a => a
 | k :: ks, a => szVs ks (IntKind.i64.wrap (a.1 + (szV k).1), maxI a.2 (szV k).2)
end
def szStep (a : Int × Int) (k : Val) : Int × Int := (IntKind.i64.wrap (a.1 + (szV k).1), maxI a.2 (szV k).2)
theorem szVs_eq : ∀ (ks : List Val) (a : Int × Int), szVs ks a = ks.foldl szStep a
 | [], _ => by rw [szVs]; rfl
 | k :: ks, a => by rw [szVs, szVs_eq ks]; rfl
theorem szV_mk (o n : Int) (s : Str) (ks : List Val) (p b d : D) : szV (.mk o n s ks p b d) = ((ks.foldl szStep (1, 0)).1, IntKind.i64.wrap ((ks.foldl szStep (1, 0)).2 + 1)) := by rw [szV, szVs_eq]
def ltStep (a : Int) (k : Val) : Int := IntKind.i64.wrap (a + (szV k).1)
def lightM (l : List Val) : Bool := (l.all fun v => !decide ((szV v).2 > 7)) && decide (l.foldl ltStep 0 ≤ 30)
def fewC (c : Cas) : Bool := !(decide (c.body.nodes > 40) || decide (((innerP 4 c.body []).length : Int) > 2))
def fewX (x : Meas) : Bool := !decide ((x.cases.length : Int) > 8) && x.cases.all fewC
def fewM (m : Mod) : Bool := !(decide ((m.datas.length : Int) > 8) || decide ((m.meas.length : Int) > 8)) && m.meas.all fewX
def evalM (at' : List Coef) (l : List Pred) : List Int × Bool := if l.all (fun t => (EvalS at' [] t).2) then (l.map fun t => (EvalS at' [] t).1, true) else ([], false)
theorem allM_mid {α : Type} {l a r : List α} {x : α} {f : α → Bool} (h : l = a ++ x :: r) (hI : ∀ y ∈ a, f y = true) : l.all f = (f x && r.all f) := by
 rw [h, List.all_append, List.all_eq_true.2 hI, List.all_cons]; rfl
set_option maxRecDepth 100000
variable {E : AEnv} (Z : Sys E)
include Z
theorem l41_small_ev (l : List Pred) : E.C l41_small [.one (.lst (l.map Pred.cells))] (.one (.bool (smallM l))) := by
 have hn := r07_Nodes_ev Z
 refine Z.l41_small _ _ ⟨Nat.le_of_ble_eq_true rfl, ?_⟩
 generalize hR : smallM l = R
 unfold smallM at hR
 simp only [fn_l41_small, go_sem, List.length_map]
 intro _
 cases c1 : decide ((l.length : Int) > 6) with
 | true => simp only [c1, go_sem] at hR ⊢; exact hR
 | false =>
 simp only [c1, go_sem] at hR ⊢
 refine loop_list l (fun done => ∀ y ∈ done, (!decide (y.nodes > 40)) = true) (fun done rest => ⟨[(3, .d (.int .i64 done.length)), (0, .d (.lst (l.map Pred.cells)))], [], []⟩) ?_ (by simp) ?_ ?_
 ·exact Ent_plain (by simp only [go_sem])
 ·intro done x r hl hI
  have hlt := lt_mid hl
  rw [allM_mid hl hI] at hR
  simp only [fn_l41_small_L1, go_sem, getD_midP hl, hlt, List.length_map]
  intro hlen
  have hw : IntKind.i64.wrap ((done.length : Int) + 1) = ((done.length + 1 : Nat) : Int) := wrap_succ (by omega)
  refine call_by (hn x) ?_
  simp only [go_sem, getD_midP hl, hlt]
  cases h1 : decide (x.nodes > 40) with
  | true => simp only [h1, go_sem] at hR ⊢; exact hR
  | false =>
   simp only [go_sem, hw, List.length_append]
   exact ⟨Ent_plain (by simp only [go_sem]), app_all hI (by rw [h1]; rfl)⟩
 ·intro hI
  have hall : l.all (fun y => !decide (y.nodes > 40)) = true := List.all_eq_true.2 hI
  rw [hall] at hR
  subst hR
  simp only [fn_l41_small_L1, go_sem, implies_true]
theorem l41_size_ev (v : Val) : E.C l41_size [.agg v.cells] (.tup [.one (.int .i64 (szV v).1), .one (.int .i64 (szV v).2)]) := by
 induction v using Val.ind with
 | h o n nm ks pa bd bs ih =>
 refine Z.l41_size _ _ ⟨Nat.le_of_ble_eq_true rfl, ?_⟩
 rw [szV_mk, Val.cells_mk]
 simp only [fn_l41_size, go_sem, List.length_map]
 refine loop_list ks (fun _ => True) (fun done rest => ⟨[(6, .d (.int .i64 done.length)), (4, .d (.int .i64 (done.foldl szStep (1, 0)).1)), (5, .d (.int .i64 (done.foldl szStep (1, 0)).2)), (1, .ptr 1 0)], [(1, [.d (.int .i64 o), .d (.int .i64 n), .d (.str nm), .d (.lst (ks.map Val.cells)), .d pa, .d bd, .d bs])], []⟩) ?_ trivial ?_ ?_
 ·exact Ent_plain (by simp only [go_sem, Option.isSome_some, List.foldl_nil])
 ·intro done k r hl _
  have hlt := lt_mid hl
  have hga := getD_at (f := Val.cells) (d := []) hl
  have hk := ih k (mem_at hl)
  have hw : ∀ h : (ks.length : Int) ≤ 9223372036854775807, IntKind.i64.wrap ((done.length : Int) + 1) = ((done.length + 1 : Nat) : Int) := fun h => wrap_succ (by omega)
  have hst : (done ++ [k]).foldl szStep (1, 0) = szStep (done.foldl szStep (1, 0)) k := by rw [List.foldl_append]; rfl
  simp only [fn_l41_size_L1, go_sem, hga, hlt, List.length_map, Val.lens]
  intro hlen
  refine call_by hk ?_
  simp only [go_sem, hga, hlt, List.length_map, hw hlen, List.length_append]
  exact Ent_plain (by simp only [go_sem, Option.isSome_some, hst, szStep, maxI, List.length_append])
 ·intro _
  simp only [fn_l41_size_L1, ↓reduceIte, go_sem, List.length_map, implies_true]
theorem l41_light_ev (l : List Val) : E.C l41_light [.one (.lst (l.map Val.cells))] (.one (.bool (lightM l))) := by
 have hs := l41_size_ev Z
 refine Z.l41_light _ _ ⟨Nat.le_of_ble_eq_true rfl, ?_⟩
 generalize hR : lightM l = R
 unfold lightM at hR
 simp only [fn_l41_light, go_sem, List.length_map]
 refine loop_list l (fun done => ∀ y ∈ done, (!decide ((szV y).2 > 7)) = true) (fun done rest => ⟨[(4, .d (.int .i64 done.length)), (3, .d (.int .i64 (done.foldl ltStep 0))), (0, .d (.lst (l.map Val.cells)))], [], []⟩) ?_ (by simp) ?_ ?_
 ·exact Ent_plain (by simp only [go_sem, List.foldl_nil])
 ·intro done k r hl hI
  have hlt := lt_mid hl
  have hga := getD_at (f := Val.cells) (d := []) hl
  have hst : (done ++ [k]).foldl ltStep 0 = ltStep (done.foldl ltStep 0) k := by rw [List.foldl_append]; rfl
  rw [allM_mid hl hI] at hR
  simp only [fn_l41_light_L1, go_sem, hga, hlt, List.length_map, Val.lens]
  intro hlen
  have hw : IntKind.i64.wrap ((done.length : Int) + 1) = ((done.length + 1 : Nat) : Int) := wrap_succ (by omega)
  refine call_by (hs k) ?_
  simp only [go_sem, hga, hlt, List.length_map]
  cases h1 : decide ((szV k).2 > 7) with
  | true => simp only [h1, go_sem] at hR ⊢; exact hR
  | false =>
   simp only [go_sem, hw, List.length_append]
   exact ⟨Ent_plain (by simp only [go_sem, hst, ltStep, List.length_append]), app_all hI (by rw [h1]; rfl)⟩
 ·intro hI
  have hall : l.all (fun y => !decide ((szV y).2 > 7)) = true := List.all_eq_true.2 hI
  rw [hall, Bool.true_and] at hR
  simp only [fn_l41_light_L1, ↓reduceIte, go_sem, List.length_map, hR, implies_true]
theorem l41_same_ev (a b : List Int) : E.C l41_same [.one (.lst (a.map icell)), .one (.lst (b.map icell))] (.one (.bool (a == b))) := by
 refine Z.l41_same _ _ ⟨Nat.le_of_ble_eq_true rfl, ?_⟩
 generalize hR : (a == b) = R
 simp only [fn_l41_same, go_sem, List.length_map]
 intro _ _
 cases c1 : ((a.length : Int) != (b.length : Int)) with
 | true =>
  have : (a == b) = false := by
   rw [← Bool.not_eq_true, beq_iff_eq]; rintro rfl
   simp at c1
  rw [this] at hR
  simp only [go_sem, ← hR, and_self]
 | false =>
 have hal : b.length = a.length := by
  have : ¬ (a.length : Int) ≠ b.length := by rw [← bne_iff_ne, c1]; simp
  omega
 simp only [go_sem, List.length_map]
 refine loop_list a (fun done => b.take done.length = done) (fun done rest => ⟨[(5, .d (.int .i64 done.length)), (1, .d (.lst (b.map icell))), (0, .d (.lst (a.map icell)))], [], []⟩) ?_ (by simp) ?_ ?_
 ·exact Ent_plain (by simp only [go_sem])
 ·intro done n rest hl hI
  obtain ⟨na, x, nr, hna, hnl⟩ := at_split (b := b) (n := done.length) (by rw [hal, hl]; simp)
  obtain ⟨t1, t2⟩ := take_at hna hnl
  have hlt := lt_mid hl
  have hlt2 : (done.length : Int) < b.length := by rw [hal]; exact hlt
  have hga := getD_int hna hnl
  have hgb := getD_int hl rfl
  have hia := icell_lens a
  have hib := icell_lens b
  rw [t1] at hI
  simp only [fn_l41_same_L1, go_sem, hlt, hlt2, List.length_map, hga, hgb, hia, hib]
  intro _
  have hw : IntKind.i64.wrap ((done.length : Int) + 1) = ((done.length + 1 : Nat) : Int) := wrap_succ (by omega)
  by_cases hx : (n != x) = true
  ·have : (a == b) = false := by
     rw [← Bool.not_eq_true, beq_iff_eq]
     intro e
     rw [bne_iff_ne] at hx
     apply hx
     have e1 := hl.symm.trans (e.trans hna)
     have := List.append_inj e1 hnl.symm
     exact (List.cons.inj this.2).1
   rw [this] at hR
   simp only [hx, go_sem, ← hR]
  ·have hx : (n != x) = false := by simpa using hx
   have hxn : n = x := by simpa using hx
   simp only [hx, go_sem, hw, List.length_append]
   exact ⟨Ent_plain (by simp only [go_sem, List.length_append]), by rw [t2, hI, hxn]⟩
 ·intro hI
  have : (a == b) = true := by
   rw [beq_iff_eq]
   rw [← hal, List.take_length] at hI
   exact hI.symm
  rw [this] at hR
  simp only [fn_l41_same_L1, ↓reduceIte, go_sem, List.length_map, ← hR, implies_true]
theorem l41_few_ev (m : Mod) (hm : ∀ x ∈ m.meas, ∀ c ∈ x.cases, c.body.cnt ≤ 1073741824) : E.C l41_few [.agg m.cells] (.one (.bool (fewM m))) := by
 have hn := r07_Nodes_ev Z
 have hap := fun p hp => r07_Apps_ev Z p hp
 refine Z.l41_few _ _ ⟨Nat.le_of_ble_eq_true rfl, ?_⟩
 generalize hR : fewM m = R
 unfold fewM at hR
 obtain ⟨ds, cls, ins, ms, qs, dfs⟩ := m
 simp only [Mod.cells] at *
 simp only [fn_l41_few, go_sem, List.length_map]
 intro _
 cases c1 : decide ((ds.length : Int) > 8) with
 | true => simp only [c1, go_sem] at hR ⊢; simp only [← hR, implies_true, and_self]
 | false =>
 simp only [c1, go_sem] at hR ⊢
 intro _
 cases c2 : decide ((ms.length : Int) > 8) with
 | true => simp only [c2, go_sem] at hR ⊢; simp only [← hR, implies_true, and_self]
 | false =>
 simp only [c2, go_sem] at hR ⊢
 refine loop_list ms (fun done => ∀ y ∈ done, fewX y = true) (fun done rest => ⟨[(3, .d (.int .i64 done.length)), (1, .ptr 1 0)], [(1, [.d (.lst (ds.map DataT.cells)), .d cls, .d ins, .d (.lst (ms.map Meas.cells)), .d qs, .d dfs])], []⟩) ?_ (by simp) ?_ ?_
 ·exact Ent_plain (by simp only [go_sem, Option.isSome_some])
 ·intro done x r hl hI
  have hlt := lt_mid hl
  have hga := getD_at (f := Meas.cells) (d := []) hl
  have hmx := hm x (mem_at hl)
  rw [allM_mid hl hI] at hR
  have hw : ∀ h : (ms.length : Int) ≤ 9223372036854775807, IntKind.i64.wrap ((done.length : Int) + 1) = ((done.length + 1 : Nat) : Int) := fun h => wrap_succ (by omega)
  have hfx : fewX x = (!decide ((x.cases.length : Int) > 8) && x.cases.all fewC) := rfl
  rw [hfx] at hR
  have hfx : (!decide ((x.cases.length : Int) > 8) && x.cases.all fewC) = true → fewX x = true := fun h => h
  obtain ⟨xn, xd, xr, xc, xi⟩ := x
  simp only [Meas.cells] at hga
  simp only at *
  simp only [fn_l41_few_L2, go_sem, hga, hlt, List.length_map, Meas.lens]
  intro hlen _
  cases c3 : decide ((xc.length : Int) > 8) with
  | true => simp only [c3, go_sem] at hR ⊢; simp only [← hR, implies_true, and_self]
  | false =>
  simp only [c3, go_sem] at hR hfx ⊢
  refine loop_list xc (fun done => ∀ y ∈ done, fewC y = true) (fun done' rest => ⟨[(4, .d (.int .i64 done'.length)), (3, .d (.int .i64 done.length)), (1, .ptr 1 0)], [(1, [.d (.lst (ds.map DataT.cells)), .d cls, .d ins, .d (.lst (ms.map Meas.cells)), .d qs, .d dfs])], []⟩) ?_ (by simp) ?_ ?_
  ·exact Ent_plain (by simp only [go_sem, Option.isSome_some])
  ·intro done' c r' hl' hI'
   have hlt' := lt_mid hl'
   have hga' := getD_at (f := Cas.cells) (d := []) hl'
   have hmc := hmx c (mem_at hl')
   rw [allM_mid hl' hI'] at hR
   have hw' : ∀ h : (xc.length : Int) ≤ 9223372036854775807, IntKind.i64.wrap ((done'.length : Int) + 1) = ((done'.length + 1 : Nat) : Int) := fun h => wrap_succ (by omega)
   have hfc : fewC c = !(decide (c.body.nodes > 40) || decide (((innerP 4 c.body []).length : Int) > 2)) := rfl
   rw [hfc] at hR
   have hn := hn c.body
   have hap := hap c.body hmc
   obtain ⟨cc, cn, ⟨bo, bs, bn, bk⟩⟩ := c
   simp only [Cas.cells] at hga'
   simp only [Pred.cells_eq (.mk bo bs bn bk), Pred.op, Pred.name, Pred.n, Pred.kids] at *
   simp only [fn_l41_few_L1, go_sem, hga, hga', hlt, hlt', List.length_map, Meas.lens, Cas.lens]
   intro hlen'
   refine call_by hn ?_
   simp only [go_sem, hga, hga', hlt, hlt', List.length_map, Meas.lens, Cas.lens]
   refine call_g hap ?_
   simp only [go_sem, List.length_map]
   by_cases hb : (decide ((Pred.mk bo bs bn bk).nodes > 40) || decide (((innerP 4 (Pred.mk bo bs bn bk) []).length : Int) > 2)) = true
   ·simp only [hb, go_sem] at hR ⊢
    intro _
    exact hR
   ·have hb : (decide ((Pred.mk bo bs bn bk).nodes > 40) || decide (((innerP 4 (Pred.mk bo bs bn bk) []).length : Int) > 2)) = false := by simpa using hb
    simp only [hb, go_sem, hw' hlen', List.length_append]
    intro _
    exact ⟨Ent_plain (by simp only [go_sem, Option.isSome_some, List.length_append]), app_all hI' (by show (!(_ || _)) = true; rw [hb]; rfl)⟩
  ·intro hI'
   simp only [fn_l41_few_L1, ↓reduceIte, go_sem, hga, hlt, List.length_map, Meas.lens, hw hlen]
   intro _
   exact ⟨Ent_plain (by simp only [go_sem, Option.isSome_some, List.length_append]), app_all hI (hfx (by simpa using hI'))⟩
 ·intro hI
  have hall : ms.all fewX = true := List.all_eq_true.2 hI
  rw [hall] at hR
  simp only [fn_l41_few_L2, ↓reduceIte, go_sem, List.length_map, ← hR, implies_true]
theorem l41_evaluated_ev (hG : E.G 0 = some (kws.map .str)) (hIt : ∀ p, E.It pred_before_1 [.ref (Pred.cells p)] (yields p.pre)) (l : List Pred) (at' : List Coef) (hz : l.length ≤ 1048576) :
  E.C l41_evaluated [.one (.lst (l.map Pred.cells)), .one (.lst (at'.map Coef.cells)), .one (.lst [])] (resV (evalM at' l)) := by
 have heval := fun p => meaning_Eval_ev Z hG hIt at' [] p
 unfold res2 at heval
 simp only [List.map_nil] at heval
 refine Z.l41_evaluated _ _ ⟨Nat.le_of_ble_eq_true rfl, ?_⟩
 generalize hR : evalM at' l = R
 unfold evalM at hR
 simp only [fn_l41_evaluated, go_sem, List.length_map]
 refine loop_list l (fun done => ∀ y ∈ done, (EvalS at' [] y).2 = true) (fun done rest => ⟨[(9, .d (.int .i64 done.length)), (8, .own 8 1 ((done.map fun t => (EvalS at' [] t).1).map icell)), (0, .d (.lst (l.map Pred.cells))), (1, .d (.lst (at'.map Coef.cells))), (2, .d (.lst []))], [], [(8, true)]⟩) ?_ (by simp) ?_ ?_
 ·exact Ent_conv 8 8 1 [] [(8, 8)] (by simp only [go_sem]) (by simp) rfl ⟨rfl, by simp only [go_sem, List.contains_nil], by simp only [go_sem, Option.isSome_some, List.map_nil], by simp only [go_sem, Option.isSome_some]⟩
 ·intro done t rest hl hI
  have hlt := lt_mid hl
  have hgk := getD_midP hl
  have hdl : done.length ≤ l.length := by rw [hl]; simp
  have hc4 : ∀ p : Pred, p.cells.length = 4 := Pred.cells_length
  have hw : IntKind.i64.wrap ((done.length : Int) + 1) = ((done.length + 1 : Nat) : Int) := wrap_succ (by omega)
  have q1 : (done.length + 1) * 8 ≤ 2 ^ 46 := by omega
  have q2 : done.length ≤ 9223372036854775806 := by omega
  have hev := heval t
  simp only [fn_l41_evaluated_L1, go_sem, hgk, hlt, List.length_map, hc4]
  intro _
  refine call_by hev ?_
  simp only [go_sem]
  by_cases hb : (EvalS at' [] t).2 = true
  ·simp only [hb, go_sem, Bool.false_eq_true, hw, List.length_append, List.length_map, q1, q2, List.mem_singleton, forall_eq]
   refine ⟨Ent_own [(8, 33)] ?_, app_all hI hb⟩
   simp only [go_sem, List.contains_nil, Option.isSome_some, List.map_append, List.map_cons, List.map_nil, icell]
  ·have hb : (EvalS at' [] t).2 = false := by simpa using hb
   have : l.all (fun t => (EvalS at' [] t).2) = false := by
    rw [List.all_eq_false]; exact ⟨t, mem_at hl, by rw [hb]; simp⟩
   rw [this] at hR
   simp only [Bool.false_eq_true, if_false] at hR
   simp only [hb, go_sem, ← hR, List.map_nil, and_self]
 ·intro hI
  have : l.all (fun t => (EvalS at' [] t).2) = true := List.all_eq_true.2 hI
  rw [this, if_pos rfl] at hR
  simp only [fn_l41_evaluated_L1, ↓reduceIte, go_sem, List.length_map, ← hR, and_self, implies_true]
theorem sameHd_ev (p : Pred) (t : Int) : E.C l41_sameCons [.agg (hdQ (p, t)), .agg (hdQ (p, t))] (.one (.bool true)) := by
 have hs := r07_Same_ev Z p p
 have hss : p.same p = true := (Pred.same_iff p p).2 rfl
 rw [hss] at hs
 refine Z.l41_sameCons _ _ ⟨Nat.le_of_ble_eq_true rfl, ?_⟩
 obtain ⟨o, s, n, ks⟩ := p
 rw [hdQ_mk]
 rw [Pred.cells_eq] at hs
 simp only [Pred.op, Pred.name, Pred.n, Pred.kids] at hs
 simp only [fn_l41_sameCons, go_sem, List.length_nil, bne_self_eq_false, beq_self_eq_true, Bool.not_true, Bool.or_self, Bool.or_false]
 refine call_by hs ?_
 simp only [go_sem, List.length_nil, bne_self_eq_false, beq_self_eq_true, Bool.not_true, Bool.or_self, Bool.or_false]
 refine loop_list ([] : List Int) (fun _ => True) (fun done rest => ⟨[(5, .d (.int .i64 0)), (2, .ptr 2 0), (3, .ptr 3 0)], [(2, [.d (.int .i64 3), .d (.str []), .d (.str []), .d (.int .i64 o), .d (.str s), .d (.int .i64 n), .d (.lst (ks.map Pred.cells)), .d (.int .i64 t), .d (.lst [])]), (3, [.d (.int .i64 3), .d (.str []), .d (.str []), .d (.int .i64 o), .d (.str s), .d (.int .i64 n), .d (.lst (ks.map Pred.cells)), .d (.int .i64 t), .d (.lst [])])], []⟩) ?_ trivial ?_ ?_
 ·exact Ent_plain (by simp only [go_sem, Option.isSome_some])
 ·intro done k r hl _
  simp at hl
 ·intro _
  simp only [fn_l41_sameCons_L1, ↓reduceIte, go_sem, List.length_nil]
  try trace_state
theorem sameAnd_ev (l : List (Pred × Int)) : E.C l41_sameCons [.agg (andC l), .agg (andC l)] (.one (.bool true)) := by
 have hs := r07_Same_ev Z zeroP zeroP
 have hss : zeroP.same zeroP = true := (Pred.same_iff zeroP zeroP).2 rfl
 rw [hss, zero_cells] at hs
 have hk := fun q : Pred × Int => sameHd_ev Z q.1 q.2
 refine Z.l41_sameCons _ _ ⟨Nat.le_of_ble_eq_true rfl, ?_⟩
 unfold andC
 simp only [fn_l41_sameCons, go_sem, List.length_map, bne_self_eq_false, beq_self_eq_true, Bool.not_true, Bool.or_self, Bool.or_false]
 refine call_by hs ?_
 simp only [go_sem, List.length_map, bne_self_eq_false, beq_self_eq_true, Bool.not_true, Bool.or_self, Bool.or_false]
 intro _ _
 refine loop_list l (fun _ => True) (fun done rest => ⟨[(5, .d (.int .i64 done.length)), (2, .ptr 2 0), (3, .ptr 3 0)], [(2, [.d (.int .i64 1), .d (.str []), .d (.str []), .d (.int .i64 0), .d (.str []), .d (.int .i64 0), .d (.lst []), .d (.int .i64 0), .d (.lst (l.map hdQ))]), (3, [.d (.int .i64 1), .d (.str []), .d (.str []), .d (.int .i64 0), .d (.str []), .d (.int .i64 0), .d (.lst []), .d (.int .i64 0), .d (.lst (l.map hdQ))])], []⟩) ?_ trivial ?_ ?_
 ·exact Ent_plain (by simp only [go_sem, Option.isSome_some])
 ·intro done q r hl _
  have hlt := lt_mid hl
  have hgk := getD_at (f := hdQ) (d := []) hl
  have hk := hk q
  have hm9 : (∀ e ∈ l.map hdQ, e.length = 9) = True := eq_true (by intro e he; obtain ⟨q, _, rfl⟩ := List.mem_map.1 he; exact hdQ_len q)
  simp only [fn_l41_sameCons_L1, go_sem, hgk, hlt, List.length_map, hm9, hdQ_len]
  intro _
  have hw : IntKind.i64.wrap ((done.length : Int) + 1) = ((done.length + 1 : Nat) : Int) := wrap_succ (by omega)
  refine call_by hk ?_
  simp only [go_sem, hgk, hlt, List.length_map, hm9, hw, List.length_append]
  exact Ent_plain (by simp only [go_sem, Option.isSome_some, List.length_append])
 ·intro _
  simp only [fn_l41_sameCons_L1, ↓reduceIte, go_sem, List.length_map]
  try trace_state
end Go.Abs
end
section
set_option linter.unusedSimpArgs false
set_option linter.unusedVariables false
set_option linter.unusedSectionVars false
namespace Go.Abs
def tyI : List D := [.int .i64 1, .str [], .lst [], .lst [], .int .i64 0, .str [], .int .i64 0, .lst [], .lst []]
def ackS : SigT := ⟨.lst [], .lst [], .lst [], .lst [], .int .i64 6, .str [], .lst [tyI, tyI, tyI], [[109], [110]], .int .i64 0, .str [], .int .i64 0, .lst [], .lst [], [pv [109], pv [110]]⟩
def ackD : DefT := ⟨.str [97, 99, 107], .lst [[.str [109]], [.str [110]]], .int .i64 0, .str [], .int .i64 0, .lst [], .lst [], .lst [], .lst [], .int .i64 0, .bool true, ackS⟩
def mod0 : Mod := ⟨[], .lst [], .lst [], [], .lst [], .lst []⟩
def vi (n : Int) : Val := .mk 1 n [] [] (.lst []) (.lst []) (.lst [])
structure Law41 (E : AEnv) : Prop where
 Z : Sys E
 hG : E.G 0 = some (kws.map .str)
 hIt : ∀ p, E.It pred_before_1 [.ref (Pred.cells p)] (yields p.pre)
 hU : UnionOwn E
 hI : ItoaLaw E
 hObl : ∀ (s c : SigT) (args : List Pred) (tag : Int), (∀ t ∈ s.metric, Tame t) → s.metric.length ≤ 1048576 → (∀ t ∈ c.metric, Tame t) → c.metric.length ≤ 1048576 → (∀ t ∈ args, Tame t) →
  E.C metric_Obligation [.agg s.cells, .agg c.cells, .one (.lst (args.map Pred.cells)), .one (.int .i64 tag)] (.agg (oblC s c args tag))
theorem cnt_pv (s : Str) : (pv s).cnt = 1 := rfl
theorem tame_pv (s : Str) : Tame (pv s) := tame_of_cnt _ (by rw [cnt_pv]; omega)
theorem cnt_two (x y : Str) : ∀ t ∈ [pv x, pv y], t.cnt < 1048576 := fun t ht => by
 rcases List.mem_cons.1 ht with rfl | ht
 ·rw [cnt_pv]; omega
 ·rw [List.mem_singleton.1 ht, cnt_pv]; omega
theorem tame_two {a b : Pred} (ha : Tame a) (hb : Tame b) : ∀ t ∈ [a, b], Tame t := fun t ht => by
 rcases List.mem_cons.1 ht with rfl | ht
 ·exact ha
 ·rw [List.mem_singleton.1 ht]; exact hb
theorem ack_cells : ackD.cells = [.str [97, 99, 107], .lst [[.str [109]], [.str [110]]], .int .i64 0, .str [], .int .i64 0, .lst [], .lst [], .lst [], .lst [], .int .i64 0, .bool true, .lst [], .lst [], .lst [], .lst [], .int .i64 6, .str [], .lst [tyI, tyI, tyI], .lst [[.str [109]], [.str [110]]], .int .i64 0, .str [], .int .i64 0, .lst [], .lst [], .lst [(pv [109]).cells, (pv [110]).cells]] := rfl
theorem ackS_cells : ackS.cells = [.lst [], .lst [], .lst [], .lst [], .int .i64 6, .str [], .lst [tyI, tyI, tyI], .lst [[.str [109]], [.str [110]]], .int .i64 0, .str [], .int .i64 0, .lst [], .lst [], .lst [(pv [109]).cells, (pv [110]).cells]] := rfl
theorem mod0_cells : mod0.cells = [.lst [], .lst [], .lst [], .lst [], .lst [], .lst []] := rfl
theorem vi_cells (n : Int) : (vi n).cells = [.int .i64 1, .int .i64 n, .str [], .lst [], .lst [], .lst [], .lst []] := by unfold vi; rw [Val.cells_mk]; rfl
theorem pv_len (s : Str) : (pv s).cells.length = 4 := Pred.cells_length _
def wantP : Pred := p2 16 (p2 12 (pv [109]) (pv [120])) (p2 15 (p2 10 (pv [109]) (pv [120])) (p2 12 (pv [110]) (pv [121])))
theorem ack_val : metV mod0 ackD.sig.metric ackD.sig.names [vi 2, vi 3] = ([2, 3], true) := by kernel_rfl
theorem ack_val0 : metV mod0 ackD.sig.metric ackD.sig.names [] = ([], false) := by kernel_rfl
theorem less_want : lessP [pv [109], pv [110]] [pv [120], pv [121]] = wantP := by kernel_rfl
theorem less_none : lessP [] [] = falseP := by kernel_rfl
def bndP : Pred := p2 15 (p2 13 (pn 0) (pv [109])) (p2 13 (pn 0) (pv [110]))
theorem bnd_eq : boundP [pv [109], pv [110]] = bndP := by kernel_rfl
theorem bnd_split : splitP bndP = [p2 13 (pn 0) (pv [109]), p2 13 (pn 0) (pv [110])] := by kernel_rfl
def m1P : Pred := p2 7 (pv [109]) (pn 1)
theorem obl_less : lessP (ackS.metric.map (subAll ackS.names [m1P, pn 1])) ackS.metric = .mk 16 [] 0 [p2 12 m1P (pv [109]), p2 15 (p2 10 m1P (pv [109])) (p2 12 (pn 1) (pv [110]))] := by kernel_rfl
theorem obl_cells : oblC ackS ackS [m1P, pn 1] 4 = [.int .i64 1, .str [], .str [], .int .i64 0, .str [], .int .i64 0, .lst [], .int .i64 0, .lst [hdQ (bndP, 4), [.int .i64 3, .str [], .str [], .int .i64 16, .str [], .int .i64 0, .lst [(p2 12 m1P (pv [109])).cells, (p2 15 (p2 10 m1P (pv [109])) (p2 12 (pn 1) (pv [110]))).cells], .int .i64 4, .lst []]]] := by
 unfold oblC
 rw [obl_less, show boundP ackS.metric = bndP from bnd_eq]
 unfold andC
 simp only [List.map_cons, List.map_nil, hdQ_mk]
set_option maxRecDepth 100000
theorem l41_v_ev {E : AEnv} (Z : Sys E) (s : Str) : E.C l41_v [.one (.str s)] (.agg (pv s).cells) := by
 refine Z.l41_v _ _ ⟨Nat.le_of_ble_eq_true rfl, ?_⟩
 simp only [fn_l41_v, go_sem, pv, Pred.cells_eq, Pred.op, Pred.name, Pred.n, Pred.kids]
theorem l41_n_ev {E : AEnv} (Z : Sys E) (n : Int) : E.C l41_n [.one (.int .i64 n)] (.agg (pn n).cells) := by
 refine Z.l41_n _ _ ⟨Nat.le_of_ble_eq_true rfl, ?_⟩
 rw [pn_cells]
 simp only [fn_l41_n, go_sem]
theorem l41_two_ev {E : AEnv} (Z : Sys E) (o : Int) (a b : Pred) : E.C l41_two [.one (.int .i64 o), .agg a.cells, .agg b.cells] (.agg (p2 o a b).cells) := by
 refine Z.l41_two _ _ ⟨Nat.le_of_ble_eq_true rfl, ?_⟩
 rw [p2, Pred.cells_eq (.mk o [] 0 [a, b])]
 simp only [fn_l41_two, go_sem, Pred.op, Pred.name, Pred.n, Pred.kids]
theorem l41_ack_ev {E : AEnv} (Z : Sys E) : E.C l41_ack [] (.agg ackD.cells) := by
 have vm := l41_v_ev Z [109]
 have vn := l41_v_ev Z [110]
 refine Z.l41_ack _ _ ⟨Nat.le_of_ble_eq_true rfl, ?_⟩
 rw [ack_cells]
 simp only [fn_l41_ack, go_sem]
 refine call_by vm ?_
 simp only [go_sem]
 refine call_by vn ?_
 simp only [go_sem, pv_len, tyI]
set_option maxHeartbeats 4000000 in
theorem l41_awake_ev {E : AEnv} (L : Law41 E) : E.C l41_awake [] (.one (.bool true)) := by
 have Z := L.Z
 have vm := l41_v_ev Z [109]
 have vn := l41_v_ev Z [110]
 have vx := l41_v_ev Z [120]
 have vy := l41_v_ev Z [121]
 have n1 := l41_n_ev Z 1
 have t1 := l41_two_ev Z 12 (pv [109]) (pv [120])
 have t2 := l41_two_ev Z 10 (pv [109]) (pv [120])
 have t3 := l41_two_ev Z 12 (pv [110]) (pv [121])
 have t4 := l41_two_ev Z 15 (p2 10 (pv [109]) (pv [120])) (p2 12 (pv [110]) (pv [121]))
 have t5 := l41_two_ev Z 16 (p2 12 (pv [109]) (pv [120])) (p2 15 (p2 10 (pv [109]) (pv [120])) (p2 12 (pv [110]) (pv [121])))
 have t6 := l41_two_ev Z 7 (pv [109]) (pn 1)
 have hack := l41_ack_ev Z
 have tm := tame_two (tame_pv [109]) (tame_pv [110])
 have hl := metric_Less_ev Z [pv [109], pv [110]] [pv [120], pv [121]] tm (tame_two (tame_pv _) (tame_pv _)) (by simp)
 have hl0 := metric_Less_ev Z [] [] (by simp) (by simp) (by simp)
 have hv := metric_Value_ev Z L.hG L.hIt L.hU L.hI mod0 (by intro x hx; cases hx) ackD [vi 2, vi 3] (cnt_two _ _) (by show 2 ≤ 1048576; omega) (by show 2 ≤ 1048576; omega)
 have hv0 := metric_Value_ev Z L.hG L.hIt L.hU L.hI mod0 (by intro x hx; cases hx) ackD [] (cnt_two _ _) (by show 2 ≤ 1048576; omega) (by show 2 ≤ 1048576; omega)
 have ho := L.hObl ackS ackS [m1P, pn 1] 4 tm (by show 2 ≤ 1048576; omega) tm (by show 2 ≤ 1048576; omega) (tame_two (tame_p2 (tame_pv _) (tame_pn _)) (tame_pn _))
 have hs := r07_Same_ev Z wantP wantP
 have hss : wantP.same wantP = true := (Pred.same_iff _ _).2 rfl
 have f1 := metric_Falls_ev Z [1, 9] [2, 0]
 have f2 := metric_Falls_ev Z [1] [1]
 have f3 := metric_Falls_ev Z [-2] [-1]
 have hb := metric_Bounded_ev Z [pv [109], pv [110]] tm (by simp)
 have hsp := r07_Split_ev Z bndP (by show _ ≤ 1073741824; exact Nat.le_of_ble_eq_true (by kernel_rfl))
 rw [hss] at hs
 rw [bnd_split] at hsp
 rw [bnd_eq] at hb
 rw [less_want] at hl
 rw [less_none, false_cells] at hl0
 rw [ack_val] at hv
 rw [ack_val0] at hv0
 rw [obl_cells] at ho
 rw [show fallsS [1, 9] [2, 0] = true by kernel_rfl] at f1
 rw [show fallsS [1] [1] = false by kernel_rfl] at f2
 rw [show fallsS [-2] [-1] = false by kernel_rfl] at f3
 unfold resV at hv hv0
 simp only [List.map_cons, List.map_nil, mod0_cells, ack_cells, ackS_cells, vi_cells, icell] at hl hl0 hv hv0 ho hack f1 f2 f3 hb hsp
 rw [show p2 16 (p2 12 (pv [109]) (pv [120])) (p2 15 (p2 10 (pv [109]) (pv [120])) (p2 12 (pv [110]) (pv [121]))) = wantP from rfl] at t5
 rw [show p2 7 (pv [109]) (pn 1) = m1P from rfl] at t6
 refine Z.l41_awake _ _ ⟨Nat.le_of_ble_eq_true rfl, ?_⟩
 simp only [fn_l41_awake, go_sem]
 repeat
  first
   | refine call_by vm ?_
   | refine call_by vn ?_
   | refine call_by vx ?_
   | refine call_by vy ?_
   | refine call_by n1 ?_
   | refine call_by t1 ?_
   | refine call_by t2 ?_
   | refine call_by t3 ?_
   | refine call_by t4 ?_
   | refine call_by t5 ?_
   | refine call_by t6 ?_
   | refine call_by hl ?_
   | refine call_by hl0 ?_
   | refine call_by hack ?_
   | refine call_by hv ?_
   | refine call_by hv0 ?_
   | refine call_by ho ?_
   | refine call_by hs ?_
   | refine call_by f1 ?_
   | refine call_by f2 ?_
   | refine call_by f3 ?_
   | refine call_by hb ?_
   | refine call_by hsp ?_
  try simp only [go_sem, pv_len, hdQ_len, Pred.cells_length, beq_self_eq_true, bne_self_eq_false, List.mem_cons, List.not_mem_nil, or_false, forall_eq_or_imp, forall_eq, List.length_cons, List.length_nil, Nat.reduceAdd, true_and, and_self, implies_true]
end Go.Abs
end
section
set_option linter.unusedSimpArgs false
set_option linter.unusedVariables false
set_option linter.unusedSectionVars false
namespace Go.Abs
theorem seq4_named {E : AEnv} {a b c d e : AC} {Q : AX → St → Prop} {st : St} (h : ∀ N, N = awp E e Q → awp E a (seqK (awp E b (seqK (awp E c (seqK (awp E d (seqK N Q)) Q)) Q)) Q) st) : awp E (.seq a (.seq b (.seq c (.seq d e)))) Q st := h _ rfl
theorem beq_self_bool (b : Bool) : (b == b) = true := by cases b <;> rfl
set_option maxRecDepth 100000
set_option maxHeartbeats 4000000 in
theorem MetricLess_ev {E : AEnv} (L : Law41 E) (a b : List Pred) (ha : ∀ t ∈ a, Tame t) (hb : ∀ t ∈ b, Tame t) (hal : a.length ≤ 1048576) : E.C l41_MetricLess [.one (.lst (a.map Pred.cells)), .one (.lst (b.map Pred.cells))] (.one (.bool true)) := by
 have Z := L.Z
 have hA := l41_awake_ev L
 have hsa := l41_small_ev Z a
 have hsb := l41_small_ev Z b
 have h1 := metric_Less_ev Z a b ha hb hal
 have h2 := r41_Less_ev Z a b hal
 have h3 := metric_Bounded_ev Z a ha hal
 have h4 := r41_Bounded_ev Z a hal
 have e1 := r07_Same_ev Z (lessP a b) (lessP a b)
 have e2 := r07_Same_ev Z (boundP a) (boundP a)
 rw [(Pred.same_iff _ _).2 rfl] at e1 e2
 refine Z.l41_MetricLess _ _ ⟨Nat.le_of_ble_eq_true rfl, ?_⟩
 simp only [fn_l41_MetricLess, go_sem, List.length_map]
 refine call_by hsa ?_
 simp only [go_sem]
 refine call_g hsb ?_
 simp only [go_sem]
 by_cases hc : (!smallM a || !smallM b) = true
 ·simp only [hc, go_sem]
  refine call_by hA ?_
  simp only [go_sem]
 ·have hc : (!smallM a || !smallM b) = false := by simpa using hc
  simp only [hc, go_sem]
  refine call_by h1 ?_
  simp only [go_sem]
  refine call_by h2 ?_
  simp only [go_sem]
  refine call_by e1 ?_
  simp only [go_sem]
  refine call_by h3 ?_
  simp only [go_sem]
  refine call_by h4 ?_
  simp only [go_sem]
  refine call_by e2 ?_
  simp only [go_sem]
  refine call_by hA ?_
  simp only [go_sem]
theorem MetricFalls_ev {E : AEnv} (L : Law41 E) (a b : List Int) : E.C l41_MetricFalls [.one (.lst (a.map icell)), .one (.lst (b.map icell))] (.one (.bool true)) := by
 have Z := L.Z
 have hA := l41_awake_ev L
 have h1 := metric_Falls_ev Z a b
 have h2 := r41_Falls_ev Z a b
 refine Z.l41_MetricFalls _ _ ⟨Nat.le_of_ble_eq_true rfl, ?_⟩
 simp only [fn_l41_MetricFalls, go_sem, List.length_map]
 intro _ _
 by_cases hc : (decide ((a.length : Int) > 12) || decide ((b.length : Int) > 12)) = true
 ·simp only [hc, go_sem]
  refine call_by hA ?_
  simp only [go_sem]
 ·have hc : (decide ((a.length : Int) > 12) || decide ((b.length : Int) > 12)) = false := by simpa using hc
  simp only [hc, go_sem]
  refine call_by h1 ?_
  simp only [go_sem]
  refine call_by h2 ?_
  simp only [go_sem, beq_self_bool]
  refine call_by hA ?_
  simp only [go_sem]
theorem MetricOrder_ev {E : AEnv} (L : Law41 E) (a b c : List Int) : E.C l41_MetricOrder [.one (.lst (a.map icell)), .one (.lst (b.map icell)), .one (.lst (c.map icell))] (.one (.bool true)) := by
 have Z := L.Z
 have hA := l41_awake_ev L
 have haa := metric_Falls_ev Z a a
 have hab := metric_Falls_ev Z a b
 have hba := metric_Falls_ev Z b a
 have hbc := metric_Falls_ev Z b c
 have hac := metric_Falls_ev Z a c
 rw [fallsS_self] at haa
 have hsy := @fallsS_asym a b
 have htr := @fallsS_trans a b c
 generalize fallsS a b = ab at *
 generalize fallsS b a = ba at *
 generalize fallsS b c = bc at *
 generalize fallsS a c = ac at *
 refine Z.l41_MetricOrder _ _ ⟨Nat.le_of_ble_eq_true rfl, ?_⟩
 simp only [fn_l41_MetricOrder, go_sem, List.length_map]
 intro _ _ _
 by_cases hc : (decide ((a.length : Int) > 12) || decide ((b.length : Int) > 12) || decide ((c.length : Int) > 12)) = true
 ·simp only [hc, go_sem]
  refine call_by hA ?_
  simp only [go_sem]
 ·have hc : (decide ((a.length : Int) > 12) || decide ((b.length : Int) > 12) || decide ((c.length : Int) > 12)) = false := by simpa using hc
  simp only [hc, go_sem]
  refine call_by haa ?_
  simp only [go_sem]
  refine call_by hab ?_
  simp only [go_sem]
  refine call_g hba ?_
  simp only [go_sem, hsy]
  refine call_by hab ?_
  simp only [go_sem]
  refine call_g hbc ?_
  simp only [go_sem]
  refine call_g hac ?_
  simp only [go_sem]
  have hfin : (!ab || !bc || ac) = true := by
   cases ab <;> cases bc <;> simp_all
  simp only [hfin, go_sem]
  refine call_by hA ?_
  simp only [go_sem]
set_option maxHeartbeats 4000000 in
theorem MetricMeans_ev {E : AEnv} (L : Law41 E) (a b : List Pred) (at' : List Coef) (ha : ∀ t ∈ a, Tame t) (hb : ∀ t ∈ b, Tame t) (hal : a.length ≤ 1048576) (hbl : b.length ≤ 1048576) : E.C l41_MetricMeans [.one (.lst (a.map Pred.cells)), .one (.lst (b.map Pred.cells)), .one (.lst (at'.map Coef.cells))] (.one (.bool true)) := by
 have Z := L.Z
 have hA := l41_awake_ev L
 have hsa := l41_small_ev Z a
 have hsb := l41_small_ev Z b
 have hea := l41_evaluated_ev Z L.hG L.hIt a at' hal
 have heb := l41_evaluated_ev Z L.hG L.hIt b at' hbl
 have h1 := metric_Less_ev Z a b ha hb hal
 have h3 := metric_Bounded_ev Z b hb hbl
 have k1 := meaning_Holds_ev Z L.hG L.hIt at' [] (lessP a b)
 have k2 := meaning_Holds_ev Z L.hG L.hIt at' [] (boundP b)
 have hf := metric_Falls_ev Z (evalM at' a).1 (evalM at' b).1
 simp only [List.map_nil] at k1 k2
 unfold resV at hea heb
 have key : (evalM at' a).2 = true → (evalM at' b).2 = true → (HoldsS at' [] (lessP a b)).2 = true → (HoldsS at' [] (boundP b)).2 = true → ((HoldsS at' [] (lessP a b)).1 && (HoldsS at' [] (boundP b)).1) = fallsS (evalM at' a).1 (evalM at' b).1 := by
  intro q1 q2 q3 q4
  unfold evalM at q1 q2 ⊢
  by_cases c1 : a.all (fun t => (EvalS at' [] t).2) = true
  ·by_cases c2 : b.all (fun t => (EvalS at' [] t).2) = true
   ·rw [if_pos c1, if_pos c2]
    exact means_plain (List.all_eq_true.1 c1) (List.all_eq_true.1 c2) q3 q4
   ·rw [if_neg c2] at q2; cases q2
  ·rw [if_neg c1] at q1; cases q1
 generalize evalM at' a = ea at *
 generalize evalM at' b = eb at *
 generalize HoldsS at' [] (lessP a b) = hp at *
 generalize HoldsS at' [] (boundP b) = hq at *
 obtain ⟨xa, oa⟩ := ea
 obtain ⟨xb, ob⟩ := eb
 obtain ⟨pp, pf⟩ := hp
 obtain ⟨qq, qf⟩ := hq
 simp only at *
 refine Z.l41_MetricMeans _ _ ⟨Nat.le_of_ble_eq_true rfl, ?_⟩
 simp only [fn_l41_MetricMeans, go_sem, List.length_map]
 refine call_by hsa ?_
 simp only [go_sem]
 refine call_g hsb ?_
 simp only [go_sem, List.length_map]
 intro _
 by_cases hc : (!smallM a || !smallM b || decide ((at'.length : Int) > 12)) = true
 ·simp only [hc, go_sem]
  refine call_by hA ?_
  simp only [go_sem]
 ·have hc : (!smallM a || !smallM b || decide ((at'.length : Int) > 12)) = false := by simpa using hc
  simp only [hc, go_sem]
  refine call_by hea ?_
  simp only [go_sem]
  refine call_by heb ?_
  simp only [go_sem]
  refine call_by h1 ?_
  simp only [go_sem]
  refine call_by k1 ?_
  simp only [go_sem]
  refine call_by h3 ?_
  simp only [go_sem]
  refine call_by k2 ?_
  simp only [go_sem]
  by_cases hd : (!oa || !ob || !pf || !qf) = true
  ·simp only [hd, go_sem]
   refine call_by hA ?_
   simp only [go_sem]
  ·have hd : (!oa || !ob || !pf || !qf) = false := by simpa using hd
   have key : (pp && qq) = fallsS xa xb := by
    apply key <;> (revert hd; cases oa <;> cases ob <;> cases pf <;> cases qf <;> simp)
   simp only [hd, go_sem]
   refine call_by hf ?_
   simp only [go_sem, key, beq_self_bool]
   refine call_by hA ?_
   simp only [go_sem]
set_option maxHeartbeats 4000000 in
theorem MetricValues_ev {E : AEnv} (L : Law41 E) (m : Mod) (hm : MOk m) (d : DefT) (args : List Val) (ht : ∀ t ∈ d.sig.metric, t.cnt < 1048576) (hts : d.sig.metric.length ≤ 1048576) (hns : d.sig.names.length ≤ 1048576) :
  E.C l41_MetricValues [.agg m.cells, .agg d.cells, .one (.lst (args.map Val.cells))] (.one (.bool true)) := by
 have Z := L.Z
 have hA := l41_awake_ev L
 have hfew := l41_few_ev Z m (fun x hx c hc => by have := (hm x hx c hc).1; omega)
 have hsm := l41_small_ev Z d.sig.metric
 have hli := l41_light_ev Z args
 have h1 := metric_Value_ev Z L.hG L.hIt L.hU L.hI m hm d args ht hts hns
 have h2 := r41_Value_ev Z m d args ht hts hns
 generalize metV m d.sig.metric d.sig.names args = R at *
 generalize fewM m = fw at *
 obtain ⟨ri, rb⟩ := R
 have hsame := l41_same_ev Z ri ri
 rw [beq_self_eq_true] at hsame
 unfold resV at h1 h2
 obtain ⟨d0, d1, d2, d3, d4, d5, d6, d7, d8, d9, d10, s0, s1, s2, s3, s4, s5, s6, names, s8, s9, s10, s11, s12, ts⟩ := d
 obtain ⟨ds, cls, ins, ms, qs, dfs⟩ := m
 simp only [Mod.cells, DefT.cells, SigT.cells] at *
 refine Z.l41_MetricValues _ _ ⟨Nat.le_of_ble_eq_true rfl, ?_⟩
 simp only [fn_l41_MetricValues, go_sem, List.length_map]
 refine call_by hfew ?_
 simp only [go_sem]
 refine call_g hsm ?_
 simp only [go_sem, List.length_map]
 intro _
 refine call_g hli ?_
 simp only [go_sem, List.length_map]
 by_cases hc : (!fw || !smallM ts || decide ((args.length : Int) > 8) || !lightM args) = true
 ·simp only [hc, go_sem]
  refine call_by hA ?_
  simp only [go_sem]
 ·have hc : (!fw || !smallM ts || decide ((args.length : Int) > 8) || !lightM args) = false := by simpa using hc
  simp only [hc, go_sem]
  refine call_by h1 ?_
  simp only [go_sem]
  refine call_by h2 ?_
  simp only [go_sem]
  refine call_by hsame ?_
  simp only [go_sem, beq_self_bool]
  refine call_by hA ?_
  simp only [go_sem]
set_option maxHeartbeats 4000000 in
theorem MetricObliges_ev {E : AEnv} (L : Law41 E) (s c : SigT) (args : List Pred) (tag : Int) (hs : ∀ t ∈ s.metric, Tame t) (hsl : s.metric.length ≤ 1048576) (hc : ∀ t ∈ c.metric, Tame t) (hcl : c.metric.length ≤ 1048576) (ha : ∀ t ∈ args, Tame t) :
  E.C l41_MetricObliges [.agg s.cells, .agg c.cells, .agg [.lst (args.map Pred.cells), .int .i64 tag]] (.one (.bool true)) := by
 have Z := L.Z
 have hA := l41_awake_ev L
 have hn := r07_Nodes_ev Z
 have hs1 := l41_small_ev Z s.metric
 have hs2 := l41_small_ev Z c.metric
 have h1 := L.hObl s c args tag hs hsl hc hcl ha
 have h2 := r41_Obligation_ev Z s c args tag hsl hc hcl
 have h3 := sameAnd_ev Z [(boundP s.metric, tag), (lessP (c.metric.map (subAll c.names args)) s.metric, tag)]
 rw [show andC [(boundP s.metric, tag), (lessP (c.metric.map (subAll c.names args)) s.metric, tag)] = oblC s c args tag from rfl] at h3
 have h9 : (oblC s c args tag).length = 9 := rfl
 generalize oblC s c args tag = O at *
 obtain ⟨s0, s1, s2, s3, s4, s5, s6, sn, s8, s9, s10, s11, s12, sm⟩ := s
 obtain ⟨c0, c1, c2, c3, c4, c5, c6, cn, c8, c9, c10, c11, c12, cm⟩ := c
 simp only [SigT.cells] at *
 refine Z.l41_MetricObliges _ _ ⟨Nat.le_of_ble_eq_true rfl, ?_⟩
 simp only [fn_l41_MetricObliges, go_sem, List.length_map]
 refine call_by hs1 ?_
 simp only [go_sem, List.length_map]
 refine call_g hs2 ?_
 simp only [go_sem, List.length_map]
 intro _ _
 by_cases hq : (!smallM sm || !smallM cm || decide ((args.length : Int) > 8) || decide ((cn.length : Int) > 8)) = true
 ·simp only [hq, go_sem]
  refine call_by hA ?_
  simp only [go_sem]
 ·have hq : (!smallM sm || !smallM cm || decide ((args.length : Int) > 8) || decide ((cn.length : Int) > 8)) = false := by simpa using hq
  simp only [hq, go_sem]
  refine loop_list args (fun done => ∀ y ∈ done, decide (y.nodes > 40) = false) (fun done rest => ⟨[(7, .d (.int .i64 done.length)), (3, .ptr 3 0), (4, .ptr 4 0), (5, .ptr 5 0)],
   [(3, [.d s0, .d s1, .d s2, .d s3, .d s4, .d s5, .d s6, .d (.lst (sn.map fun k => [.str k])), .d s8, .d s9, .d s10, .d s11, .d s12, .d (.lst (sm.map Pred.cells))]), (4, [.d c0, .d c1, .d c2, .d c3, .d c4, .d c5, .d c6, .d (.lst (cn.map fun k => [.str k])), .d c8, .d c9, .d c10, .d c11, .d c12, .d (.lst (cm.map Pred.cells))]), (5, [.d (.lst (args.map Pred.cells)), .d (.int .i64 tag)])], []⟩) ?_ (by simp) ?_ ?_
  ·exact Ent_plain (by simp only [go_sem, Option.isSome_some])
  ·intro done t rest hl hI
   have hlt := lt_mid hl
   have hgk := getD_midP hl
   have hc4 : ∀ p : Pred, p.cells.length = 4 := Pred.cells_length
   simp only [fn_l41_MetricObliges_L1, go_sem, hgk, hlt, List.length_map, hc4]
   intro hlen
   have hw : IntKind.i64.wrap ((done.length : Int) + 1) = ((done.length + 1 : Nat) : Int) := wrap_succ (by omega)
   refine call_by (hn t) ?_
   simp only [go_sem]
   by_cases hb : decide (t.nodes > 40) = true
   ·simp only [hb, go_sem]
    refine call_by hA ?_
    simp only [go_sem]
   ·have hb : decide (t.nodes > 40) = false := by simpa using hb
    simp only [hb, go_sem, hw, List.length_append]
    exact ⟨Ent_plain (by simp only [go_sem, Option.isSome_some, List.length_append]), app_all hI hb⟩
  ·intro _
   simp only [fn_l41_MetricObliges_L1, ↓reduceIte, go_sem, List.length_map]
   intro _
   refine call_by h1 ?_
   simp only [go_sem, h9]
   refine call_by h2 ?_
   simp only [go_sem, h9]
   refine call_by h3 ?_
   simp only [go_sem]
   refine call_by hA ?_
   simp only [go_sem]
theorem zip_left {a b : List Int} {d r : List (Int × Int)} {q : Int × Int} (h : a.zip b = d ++ q :: r) : (a.map icell).getD d.length [] = [.int .i64 q.1] ∧ (b.map icell).getD d.length [] = [.int .i64 q.2] ∧ d.length < a.length ∧ d.length < b.length := by
 have h1 : (a.zip b)[d.length]? = some q := by rw [h]; simp
 rw [List.getElem?_zip_eq_some] at h1
 obtain ⟨h2, h3⟩ := h1
 obtain ⟨e1, e2⟩ := List.getElem?_eq_some_iff.1 h2
 obtain ⟨e3, e4⟩ := List.getElem?_eq_some_iff.1 h3
 refine ⟨?_, ?_, e1, e3⟩
 ·rw [List.getD_eq_getElem?_getD, List.getElem?_map, h2]; rfl
 ·rw [List.getD_eq_getElem?_getD, List.getElem?_map, h3]; rfl
set_option maxHeartbeats 4000000 in
theorem MetricLonger_ev {E : AEnv} (L : Law41 E) (a b : List Int) (front : Int) (left right : List Int) : E.C l41_MetricLonger [.one (.lst (a.map icell)), .one (.lst (b.map icell)), .agg [.int .i64 front, .lst (left.map icell), .lst (right.map icell)]] (.one (.bool true)) := by
 have Z := L.Z
 have hA := l41_awake_ev L
 have hf := metric_Falls_ev Z a b
 have hff := metric_Falls_ev Z (front :: a) (front :: b)
 have hfz := fun x y => metric_Falls_ev Z x y
 simp only [List.map_cons] at hff
 refine Z.l41_MetricLonger _ _ ⟨Nat.le_of_ble_eq_true rfl, ?_⟩
 simp only [fn_l41_MetricLonger, initSlots]
 refine seq4_named fun N hN => ?_
 have tail : a.length ≤ 12 → b.length ≤ 12 → left.length ≤ 12 → fallsS a b = true → ∀ st : St, getS st.slots 0 = .d (.lst (a.map icell)) → getS st.slots 1 = .d (.lst (b.map icell)) → getS st.slots 5 = .ptr 5 0 → getM st.mem 5 = some [.d (.int .i64 front), .d (.lst (left.map icell)), .d (.lst (right.map icell))] →
   getT st.tk 55 = none → getT st.tk 58 = none → getT st.tk 7 = none → getT st.tk 8 = none → N st := by
  intro ha hb hll hab st e0 e1 e5 m5 t1 t2 t3 t4
  subst hN
  simp only [go_sem, e0, e1, e5, m5, t1, t2, List.length_map]
  refine ⟨⟨by simp, by omega, by omega⟩, ⟨by simp, by omega, by omega⟩, ?_⟩
  have hzl : (left.zip right).length ≤ left.length := by rw [List.length_zip]; exact Nat.min_le_left _ _
  have hlib := icell_lens left
  have hrib := icell_lens right
  refine loop_list (left.zip right) (fun done => (∀ q ∈ done, decide (q.2 < 0) = false)) (fun done rest => ⟨[(9, .d (.int .i64 done.length)), (5, .ptr 5 0), (7, .own 7 1 ((a ++ done.map (·.1)).map icell)), (8, .own 8 1 ((b ++ done.map (·.2)).map icell))], [(5, [.d (.int .i64 front), .d (.lst (left.map icell)), .d (.lst (right.map icell))])], [(7, true), (8, true)]⟩) ?_ (by simp) ?_ ?_
  ·refine Ent_own [(7, 55), (8, 58)] ?_
   simp only [go_sem, e5, m5, t1, t2, List.contains_cons, List.contains_nil, Nat.reduceBEq, Option.isSome_some, List.map_nil, List.append_nil]
  ·intro done q rest hl hI
   obtain ⟨g1, g2, l1, l2⟩ := zip_left hl
   have l1' : (done.length : Int) < left.length := by omega
   have l2' : (done.length : Int) < right.length := by omega
   have hdl : done.length ≤ left.length := by omega
   simp only [fn_l41_MetricLonger_L1, go_sem, g1, g2, l1', l2', List.length_map, hlib, hrib]
   intro _ _
   have hw : IntKind.i64.wrap ((done.length : Int) + 1) = ((done.length + 1 : Nat) : Int) := wrap_succ (by omega)
   by_cases hn : decide (q.2 < 0) = true
   ·simp only [hn, go_sem]
    refine call_by hA ?_
    simp only [go_sem]
   ·have hn : decide (q.2 < 0) = false := by simpa using hn
    simp only [hn, go_sem, g1, g2, l1', l2', List.length_map, hlib, hrib]
    have b1 : ((a ++ done.map (·.1)).length + 1) * 8 ≤ 2 ^ 46 := by rw [List.length_append, List.length_map]; omega
    have b2 : ((b ++ done.map (·.2)).length + 1) * 8 ≤ 2 ^ 46 := by rw [List.length_append, List.length_map]; omega
    refine ⟨⟨by simp, b1, by rw [List.length_append, List.length_map]; omega⟩, ⟨by simp, b2, by rw [List.length_append, List.length_map]; omega⟩, ?_, app_all hI hn⟩
    refine Ent_own [(7, 87), (8, 95)] ?_
    simp only [go_sem, List.contains_cons, List.contains_nil, Nat.reduceBEq, Option.isSome_some, List.map_append, List.map_cons, List.map_nil, icell, hw, List.length_append, List.length_singleton, List.append_assoc, List.length_cons, List.length_nil]
  ·intro hI
   simp only [fn_l41_MetricLonger_L1, ↓reduceIte, go_sem, List.length_map]
   have hcond : (decide (((left.zip right).length : Int) < left.length) && decide (((left.zip right).length : Int) < right.length)) = false := by
    rw [List.length_zip, Bool.and_eq_false_iff, decide_eq_false_iff_not, decide_eq_false_iff_not]
    omega
   simp only [hcond, go_sem]
   intro _ _
   have hz := fallsS_behind (a := a) (b := b) (l := (left.zip right).map (·.1)) (r := (left.zip right).map (·.2)) (by rw [List.length_map, List.length_map]) (fun y hy => by
    obtain ⟨q, hq, rfl⟩ := List.mem_map.1 hy
    have := hI q hq
    rw [decide_eq_false_iff_not] at this
    omega) hab
   have hfz := hfz (a ++ (left.zip right).map (·.1)) (b ++ (left.zip right).map (·.2))
   rw [hz] at hfz
   refine call_by hfz ?_
   simp only [go_sem]
   refine call_by hA ?_
   simp only [go_sem]
 simp only [go_sem, List.length_map]
 intro _ _ _ _
 by_cases hq : (decide ((a.length : Int) > 12) || decide ((b.length : Int) > 12) || decide ((left.length : Int) > 12) || decide ((right.length : Int) > 12)) = true
 ·simp only [hq, go_sem]
  refine call_by hA ?_
  simp only [go_sem]
 ·have hq : (decide ((a.length : Int) > 12) || decide ((b.length : Int) > 12) || decide ((left.length : Int) > 12) || decide ((right.length : Int) > 12)) = false := by simpa using hq
  have hal : a.length ≤ 12 := by simp only [Bool.or_eq_false_iff, decide_eq_false_iff_not] at hq; omega
  have hll : left.length ≤ 12 := by simp only [Bool.or_eq_false_iff, decide_eq_false_iff_not] at hq; omega
  have hbl : b.length ≤ 12 := by simp only [Bool.or_eq_false_iff, decide_eq_false_iff_not] at hq; omega
  simp only [hq, go_sem]
  refine call_by hf ?_
  simp only [go_sem]
  by_cases hab : fallsS a b = true
  ·simp only [hab, go_sem]
   by_cases hfr : decide (front ≥ 0) = true
   ·have hfr0 : 0 ≤ front := by simpa using hfr
    rw [fallsS_front hfr0 hab] at hff
    simp only [hfr, go_sem]
    refine ⟨⟨by simp, by omega, by omega⟩, ⟨by simp, by omega, by omega⟩, ?_⟩
    refine call_by hff ?_
    simp only [go_sem]
    exact tail hal hbl hll hab _ (by simp only [go_sem]) (by simp only [go_sem]) (by simp only [go_sem]) (by simp only [go_sem]) (by simp only [go_sem]) (by simp only [go_sem]) (by simp only [go_sem]) (by simp only [go_sem])
   ·have hfr : decide (front ≥ 0) = false := by simpa using hfr
    simp only [hfr, go_sem]
    refine call_skip ?_
    simp only [go_sem]
    exact tail hal hbl hll hab _ (by simp only [go_sem]) (by simp only [go_sem]) (by simp only [go_sem]) (by simp only [go_sem]) (by simp only [go_sem]) (by simp only [go_sem]) (by simp only [go_sem]) (by simp only [go_sem])
  ·have hab : fallsS a b = false := by simpa using hab
   simp only [hab, go_sem]
   refine call_by hA ?_
   simp only [go_sem]
end Go.Abs
end
