/-
  CONTRACTS: what the functions answer, as plain Lean functions, each by evaluation at the abstract machine.
-/
import Derived.Test.YtehngpkgdcnkiaaGreatDoorCon2
set_option linter.unusedSimpArgs false
set_option linter.unusedVariables false
set_option linter.unusedSectionVars false
set_option maxRecDepth 100000
section
namespace Go.Abs
def symNames (m : Mod) (s : Str) : List Str := sTag :: (if (conS s m.datas).2.2 then (ofData m (conS s m.datas).1.name).map (·.name) else [])
def fact1 (m : Mod) (x : Val) (i : Int) (f : Str) : Option Fact := if (x.value m f).2 then some ⟨f, [i], (x.value m f).1⟩ else none
def symsL (m : Mod) (x : Va) (i : Int) (name : Str) : List Fact := (symNames m x.name).filterMap fun f => if name == [] || name == f then fact1 m x.val i f else none
def symsAll (m : Mod) (name : Str) : List Va → Nat → List Fact
 | [], _ => []
 | x :: l, i => symsL m x (i : Int) name ++ symsAll m name l (i + 1)
noncomputable def symS (m : Mod) (v : Va) (name : Str) : List Fact := symsAll m name (v.parts []) 0
def aboutS (m : Mod) (x : Va) (i : Int) : List Fact := (sVal :: symNames m x.name).filterMap (fact1 m x.val i)
theorem symsAll_snoc (m : Mod) (name : Str) : ∀ (l : List Va) (x : Va) (i : Nat), symsAll m name (l ++ [x]) i = symsAll m name l i ++ symsL m x ((i + l.length : Nat) : Int) name
 | [], x, i => by simp [symsAll]
 | y :: l, x, i => by
  rw [List.cons_append, symsAll, symsAll, symsAll_snoc m name l x (i + 1), List.append_assoc, List.length_cons, show i + 1 + l.length = i + (l.length + 1) by omega]
theorem symNames_len (m : Mod) (s : Str) : (symNames m s).length ≤ m.meas.length + 1 := by
 unfold symNames
 rw [List.length_cons]
 split
 ·have := ofData_len m (conS s m.datas).1.name
  rw [List.length_map]; omega
 ·simp
theorem symsL_len (m : Mod) (x : Va) (i : Int) (name : Str) : (symsL m x i name).length ≤ m.meas.length + 1 := by
 unfold symsL
 exact Nat.le_trans (List.length_filterMap_le _ _) (symNames_len m _)
theorem symsAll_len (m : Mod) (name : Str) : ∀ (l : List Va) (i : Nat), (symsAll m name l i).length ≤ l.length * (m.meas.length + 1)
 | [], _ => by simp [symsAll]
 | x :: l, i => by
  rw [symsAll, List.length_append, List.length_cons, Nat.succ_mul]
  have h1 := symsL_len m x i name
  have h2 := symsAll_len m name l (i + 1)
  omega
theorem value_val (m : Mod) (x : Va) (h : x.op = 3) : (x.val.value m sVal).2 = false := by
 obtain ⟨o, n, s, ks, ps, bd, bs⟩ := x
 have h : o = 3 := h
 subst h
 rw [Va.val_mk, Val.value_eq]
 rfl
theorem about_filter (m : Mod) (x : Va) (h : x.op = 3) (i : Int) (name : Str) : (aboutS m x i).filter (fun f => name == [] || f.name == name) = symsL m x i name := by
 unfold aboutS symsL
 have h0 : fact1 m x.val i sVal = none := by unfold fact1; rw [value_val m x h]; rfl
 rw [List.filterMap_cons, h0]
 simp only
 generalize symNames m x.name = l
 induction l with
 | nil => rfl
 | cons f l ih =>
  rw [List.filterMap_cons, List.filterMap_cons]
  cases hf : fact1 m x.val i f with
  | none =>
   have : (if (name == [] || name == f) = true then none else (none : Option Fact)) = none := by split <;> rfl
   rw [this]
   exact ih
  | some y =>
   have hy : y.name = f := by
    unfold fact1 at hf
    split at hf
    ·cases hf; rfl
    ·cases hf
   have hs : (f == name) = (name == f) := by rw [Bool.eq_iff_iff, beq_iff_eq, beq_iff_eq]; exact eq_comm
   simp only
   rw [List.filter_cons, hy, hs]
   split
   ·show y :: _ = y :: _; rw [ih]
   ·exact ih
theorem parts_op {P : Va → Prop} (v : Va) (hP : ∀ x : Va, x.op = 3 → P x) : ∀ l, (∀ x ∈ l, P x) → ∀ x ∈ v.parts l, P x := by
 induction v using Va.ind with
 | h o n s ks ps bd bs ih _ =>
 intro l hl
 rw [Va.parts_mk]
 have h0 : ∀ x ∈ addV (.mk o n s ks ps bd bs) l, P x := by
  unfold addV
  split
  ·rename_i hc
   intro x hx
   rcases List.mem_append.1 hx with hx | hx
   ·exact hl x hx
   ·rw [List.mem_singleton.1 hx]
    refine hP _ ?_
    rw [Bool.and_eq_true, beq_iff_eq] at hc
    exact hc.1
  ·exact hl
 generalize addV (.mk o n s ks ps bd bs) l = L at h0
 clear hl
 induction ks generalizing L with
 | nil => exact h0
 | cons k ks ihk =>
  rw [List.foldl_cons]
  exact ihk (fun q hq => ih q (by simp [hq])) _ (ih k (by simp) L h0)
theorem parts_data (v : Va) : ∀ x ∈ v.parts [], x.op = 3 := parts_op (P := fun x => x.op = 3) v (fun _ h => h) [] (by simp)
theorem slen1 (l : List Str) : (∀ e ∈ l.map (fun k => [D.str k]), e.length = 1) = True := eq_true (by simp)
theorem symNames_len2 {m : Mod} (hm : MBig m) (s : Str) : (symNames m s).length ≤ 1048577 := by
 have := symNames_len m s
 have := hm.len
 omega
theorem syms_bound {m : Mod} (hm : MBig m) {v : Va} (hv : v.cnt ≤ 1048576) {l r : List Va} (h : v.parts [] = l ++ r) (name : Str) (i : Nat) : (symsAll m name l i).length ≤ 1099512676352 := by
 have h1 := symsAll_len m name l i
 have h2 := parts_len v []
 have h3 : l.length ≤ 1048576 := by
  have : (v.parts []).length = l.length + r.length := by rw [h, List.length_append]
  simp only [List.length_nil] at h2
  omega
 have h4 : m.meas.length + 1 ≤ 1048577 := by have := hm.len; omega
 have := Nat.mul_le_mul h3 h4
 omega
variable {E : AEnv} (Z : Sys E)
include Z
set_option maxHeartbeats 4000000 in
theorem measure_Symbols_ev (hV : ∀ (x : Val) (s : Str) (m : Mod), MOk m → E.C measure_Value [.agg m.cells, .one (.str s), .agg x.cells] (res2 (x.value m s))) (m : Mod) (hm : MBig m) (v : Va) (hv : v.cnt ≤ 1048576) (name : Str) :
  E.C measure_Symbols [.agg m.cells, .agg v.cells, .one (.str name)] (.one (.lst ((symS m v name).map Fact.cells))) := by
 have hparts := measure_parts_ev Z v [] (by simp; omega)
 have hml := hm.len
 refine Z.measure_Symbols _ _ ⟨Nat.le_of_ble_eq_true rfl, ?_⟩
 generalize hR : symS m v name = R
 unfold symS at hR
 have hbd := fun (l r : List Va) (h : v.parts [] = l ++ r) => syms_bound hm hv h name 0
 have hpl := parts_len v []
 generalize v.parts [] = P at *
 obtain ⟨v0, v1, v2, v3, v4, v5, v6, hvc⟩ := cells7 (Va.cells_length v)
 simp only [hvc] at hparts
 have hmod : m.cells = [.lst (m.datas.map DataT.cells), m.cls, m.ins, .lst (m.meas.map Meas.cells), m.quals, m.defs] := rfl
 have hcon := fun s => syntax_Con_ev Z m s
 have hval := fun (x : Va) s => hV x.val s m hm.ok
 simp only [fn_measure_Symbols, hmod, hvc, go_sem]
 refine call_by hparts ?_
 simp only [go_sem, List.length_map, List.map_nil, List.not_mem_nil, false_implies, implies_true]
 intro hlen
 refine loop_list P (fun _ => True) (fun done rest => ⟨[(23, .d (.int .i64 done.length)), (22, .d (.int .i64 P.length)), (21, .own 21 7 (P.map Va.cells)), (7, .own 7 3 ((symsAll m name done 0).map Fact.cells)), (2, .d (.str name)), (3, .ptr 3 0)],
  [(3, [.d (.lst (m.datas.map DataT.cells)), .d m.cls, .d m.ins, .d (.lst (m.meas.map Meas.cells)), .d m.quals, .d m.defs])], [(21, true), (7, true)]⟩) ?_ trivial ?_ ?_
 ·refine Ent_conv 7 7 3 [] [(21, 21), (7, 7)] (by simp only [go_sem]) (by simp) (by simp only [go_sem]) ?_
  simp only [Ent0, go_sem, List.contains_nil, List.contains_cons, Nat.reduceBEq, Option.isSome_some, symsAll, List.map_nil]
 ·intro done x r hl _
  have hlt := lt_mid hl
  have hgk := getD_at (f := Va.cells) (d := []) hl
  have hb := hbd done (x :: r) hl
  have hw : IntKind.i64.wrap ((done.length : Int) + 1) = ((done.length + 1 : Nat) : Int) := wrap_succ (by omega)
  have hval := hval x
  have hcon := hcon x.name
  have hnl := symNames_len2 hm x.name
  have hsn := symsAll_snoc m name done x 0
  rw [Nat.zero_add] at hsn
  have hsl : symsL m x done.length name = (symNames m x.name).filterMap fun f => if name == [] || name == f then fact1 m x.val done.length f else none := rfl
  have hsL := symsL_len m x done.length name
  rw [hsn]
  generalize symsAll m name done 0 = A at *
  have hnm : symNames m x.name = sTag :: (if (conS x.name m.datas).2.2 then (ofData m (conS x.name m.datas).1.name).map (·.name) else []) := rfl
  have hx2 : ∃ x0 x1 x3 x4 x5 x6, x.cells = [x0, x1, .str x.name, x3, x4, x5, x6] := by
   obtain ⟨o, n, s, ks, ps, bd, bs⟩ := x
   exact ⟨_, _, _, _, _, _, Va.cells_mk o n s ks ps bd bs⟩
  obtain ⟨x0, x1, x3, x4, x5, x6, hxc⟩ := hx2
  have hxv : x.val.cells = [x0, x1, .str x.name, x3, x4, x5, x6] := hxc
  simp only [hxv] at hval
  rw [hxc] at hgk
  unfold fact1 at hsl
  generalize x.val.value m = V at *
  generalize x.name = xn at *
  simp only [fn_measure_Symbols_L3, go_sem, hgk, hlt, List.length_map, Va.lens]
  refine call_by hcon ?_
  generalize conS xn m.datas = C at *
  obtain ⟨⟨dn, dv, dp, dc⟩, ix, known⟩ := C
  simp only at hnm
  simp only [go_sem, DataT.cells, List.length_map]
  intro hml2
  refine loop_named fun K hK => ?_
  refine loop_list m.meas (fun _ => True) (fun dn' _ => ⟨[(40, .d (.int .i64 dn'.length)), (39, .d (.int .i64 m.meas.length)), (38, .d (.lst (m.meas.map Meas.cells))), (13, .own 13 1 ((sTag :: (if known then (dn'.filter fun y => y.data == dn).map (·.name) else [])).map fun k => [.str k])), (12, .d (.bool known)), (10, .ptr 10 0), (9, .ptr 9 0), (8, .d (.int .i64 done.length)), (23, .d (.int .i64 done.length)), (22, .d (.int .i64 P.length)), (21, .own 21 7 (P.map Va.cells)), (7, .own 7 3 (A.map Fact.cells)), (2, .d (.str name)), (3, .ptr 3 0)],
   [(3, [.d (.lst (m.datas.map DataT.cells)), .d m.cls, .d m.ins, .d (.lst (m.meas.map Meas.cells)), .d m.quals, .d m.defs]), (9, [.d x0, .d x1, .d (.str xn), .d x3, .d x4, .d x5, .d x6]), (10, [.d (.str dn), .d dv, .d dp, .d (.lst (dc.map ConT.cells))])], [(13, true), (21, true), (7, true)]⟩) ?_ trivial ?_ ?_
  ·refine Ent_conv 13 13 1 [[.str sTag]] [(13, 13), (21, 21), (7, 7)] (by simp only [go_sem]; rfl) (by simp) (by simp only [go_sem]) ?_
   simp only [Ent0, go_sem, List.contains_nil, List.contains_cons, Nat.reduceBEq, Option.isSome_some, List.filter_nil, List.map_nil, ite_self, List.map_cons]
  ·intro dn' y r' hl' _
   have hlt' := lt_mid hl'
   have hgy := getD_at (f := Meas.cells) (d := []) hl'
   have hw' : IntKind.i64.wrap ((dn'.length : Int) + 1) = ((dn'.length + 1 : Nat) : Int) := wrap_succ (by omega)
   have hdl : dn'.length ≤ m.meas.length := by rw [hl']; simp
   have hfl : (dn'.filter fun y => y.data == dn).length ≤ dn'.length := List.length_filter_le _ _
   have hfs := filter_snoc (fun y : Meas => y.data == dn) dn' y
   rw [hfs]
   generalize dn'.filter (fun y => y.data == dn) = F at *
   have hNl : (sTag :: (if known then F.map (·.name) else [])).length ≤ F.length + 1 := by
    cases known <;> simp
   have q1 : ((sTag :: (if known then F.map (·.name) else [])).length + 1) * 16 ≤ 2 ^ 46 := by omega
   have q2 : (sTag :: (if known then F.map (·.name) else [])).length ≤ 9223372036854775806 := by omega
   obtain ⟨ya, yb, yc, yl, yi⟩ := y
   obtain ⟨i0, i1, i2, i3, hic⟩ := cells4 (Pred.cells_length yi)
   have hyc : Meas.cells ⟨ya, yb, yc, yl, yi⟩ = [.str ya, .str yb, .str yc, .lst (yl.map Cas.cells), i0, i1, i2, i3] := by show _ :: _ :: _ :: _ :: yi.cells = _; rw [hic]
   rw [hyc] at hgy
   have hnx : (sTag :: (if known = true then (F ++ if (yb == dn) = true then [({ name := ya, data := yb, result := yc, cases := yl, inv := yi } : Meas)] else []).map (·.name) else [])) = if (known && (yb == dn)) = true then (sTag :: (if known then F.map (·.name) else [])) ++ [ya] else (sTag :: (if known then F.map (·.name) else [])) := by
    cases known <;> cases (yb == dn) <;> simp
   simp only [hnx]
   generalize (sTag :: (if known then F.map (·.name) else [])) = N at *
   simp only [fn_measure_Symbols_L2, go_sem, hgy, hlt', List.length_map, Meas.lens]
   by_cases hc : (known && (yb == dn)) = true
   ·simp only [hc, go_sem, List.length_map, q1, q2, slen1, List.mem_singleton, forall_eq, hw', List.length_append]
    exact Ent_own [(13, 56), (21, 21), (7, 7)] (by simp only [go_sem, List.contains_nil, List.contains_cons, Nat.reduceBEq, Option.isSome_some, List.map_append, List.map_cons, List.map_nil, if_true])
   ·have hc : (known && (yb == dn)) = false := by simpa only [Bool.not_eq_true] using hc
    simp only [hc, go_sem, hw', List.length_append]
    exact Ent_own [(13, 13), (21, 21), (7, 7)] (by simp only [go_sem, List.contains_nil, List.contains_cons, Nat.reduceBEq, Option.isSome_some, Bool.false_eq_true, if_false])
  ·intro _
   have hof : m.meas.filter (fun y => y.data == dn) = ofData m dn := rfl
   rw [hof, ← hnm]
   generalize symNames m xn = N at *
   simp only [fn_measure_Symbols_L2, go_sem, hK, List.length_map]
   intro hNl
   refine loop_named fun K2 hK2 => ?_
   refine loop_list N (fun _ => True) (fun dq _ => ⟨[(60, .d (.int .i64 dq.length)), (59, .d (.int .i64 N.length)), (58, .own 13 1 (N.map fun k => [.str k])), (9, .ptr 9 0), (8, .d (.int .i64 done.length)), (23, .d (.int .i64 done.length)), (22, .d (.int .i64 P.length)), (21, .own 21 7 (P.map Va.cells)), (7, .own 7 3 ((A ++ dq.filterMap fun f => if name == [] || name == f then (if (V f).2 then some (⟨f, [(done.length : Int)], (V f).1⟩ : Fact) else none) else none).map Fact.cells)), (2, .d (.str name)), (3, .ptr 3 0)],
    [(3, [.d (.lst (m.datas.map DataT.cells)), .d m.cls, .d m.ins, .d (.lst (m.meas.map Meas.cells)), .d m.quals, .d m.defs]), (9, [.d x0, .d x1, .d (.str xn), .d x3, .d x4, .d x5, .d x6])], [(13, true), (21, true), (7, true)]⟩) ?_ trivial ?_ ?_
   ·exact Ent_own [(13, 13), (21, 21), (7, 7)] (by simp only [go_sem, List.contains_nil, List.contains_cons, Nat.reduceBEq, Option.isSome_some, List.filterMap_nil, List.append_nil])
   ·intro dq f r' hl' _
    have hlt' := lt_mid hl'
    have hgf := getD_at (f := fun k : Str => [D.str k]) (d := []) hl'
    have hw' : IntKind.i64.wrap ((dq.length : Int) + 1) = ((dq.length + 1 : Nat) : Int) := wrap_succ (by omega)
    have hdl : dq.length ≤ N.length := by rw [hl']; simp
    have hval := hval f
    have hfl : (dq.filterMap fun f => if name == [] || name == f then (if (V f).2 then some (⟨f, [(done.length : Int)], (V f).1⟩ : Fact) else none) else none).length ≤ dq.length := List.length_filterMap_le _ _
    rw [fm_snoc]
    generalize (dq.filterMap fun f => if name == [] || name == f then (if (V f).2 then some (⟨f, [(done.length : Int)], (V f).1⟩ : Fact) else none) else none) = B at *
    have q1 : (A.length + B.length + 1) * 48 ≤ 2 ^ 46 := by omega
    have q2 : A.length + B.length ≤ 9223372036854775806 := by omega
    generalize V f = w at *
    obtain ⟨wn, wb⟩ := w
    unfold res2 at hval
    simp only at hval
    simp only [fn_measure_Symbols_L1, go_sem, hgf, hlt', List.length_map, slen1]
    refine call_by hval ?_
    simp only [go_sem]
    generalize (name == []) = n1 at *
    generalize (name == f) = n2 at *
    by_cases hc : (wb && (n1 || n2)) = true
    ·have hc2 := hc
     rw [Bool.and_eq_true] at hc2
     obtain ⟨rfl, hn⟩ := hc2
     simp only [hc, go_sem, List.length_map, q1, q2, Fact.lens, List.mem_singleton, forall_eq, hw', List.length_append, hn, if_true, Option.toList_some]
     exact Ent_own [(13, 13), (21, 21), (7, 88)] (by simp only [go_sem, List.contains_nil, List.contains_cons, Nat.reduceBEq, Option.isSome_some, List.map_append, List.map_cons, List.map_nil, if_true, List.append_assoc, Fact.cells, icell])
    ·have hc : (wb && (n1 || n2)) = false := by simpa only [Bool.not_eq_true] using hc
     have hnone : (if (n1 || n2) = true then if wb = true then some ({ name := f, args := [(done.length : Int)], res := wn } : Fact) else none else none) = none := by
      cases wb <;> cases n1 <;> cases n2 <;> first | rfl | cases hc
     simp only [hc, go_sem, hw', List.length_append, hnone, Option.toList_none, List.append_nil]
     exact Ent_own [(13, 13), (21, 21), (7, 7)] (by simp only [go_sem, List.contains_nil, List.contains_cons, Nat.reduceBEq, Option.isSome_some, List.append_nil])
   ·intro _
    simp only [fn_measure_Symbols_L1, go_sem, hK2, hw, List.length_append, List.length_map]
    exact Ent_own [(21, 21), (7, 7)] (by simp only [go_sem, List.contains_nil, List.contains_cons, Nat.reduceBEq, Option.isSome_some, hsl, List.length_append])
 ·intro _
  simp only [fn_measure_Symbols_L3, go_sem, List.length_map, hR]
end Go.Abs
end
section
namespace Go.Abs
theorem Ent_conv2 {st st1 : St} (k t sz : Nat) (es : List (List D)) (k2 t2 sz2 : Nat) (es2 : List (List D)) (mp : TMap) (h1 : getS st.slots k = .full es) (h2 : ∀ e ∈ es, e.length = sz) (h3 : getT st.tk t = none)
  (g1 : getS ((k, .own t sz es) :: st.slots) k2 = .full es2) (g2 : ∀ e ∈ es2, e.length = sz2) (g3 : getT ((t, true) :: st.tk) t2 = none)
  (h : Ent0 mp { st with slots := (k2, .own t2 sz2 es2) :: (k, .own t sz es) :: st.slots, tk := (t2, true) :: (t, true) :: st.tk } st1) : Ent st st1 := ⟨[(.s k, t, sz), (.s k2, t2, sz2)], mp, _, ⟨_, ⟨es, h1, h2, h3, rfl⟩, _, ⟨es2, g1, g2, g3, rfl⟩, rfl⟩, h⟩
theorem seq4_named' {E : AEnv} {a b c d e : AC} {Q : AX → St → Prop} {st : St} (h : ∀ N, N = awp E e Q → awp E a (seqK (awp E b (seqK (awp E c (seqK (awp E d (seqK N Q)) Q)) Q)) Q) st) : awp E (.seq a (.seq b (.seq c (.seq d e)))) Q st := h _ rfl
variable {E : AEnv} (Z : Sys E)
include Z
theorem r34_Parts_ev (v : Va) : ∀ l : List Va, l.length + v.cnt ≤ 1073741824 → E.C r34_Parts [.one (.lst (l.map Va.cells)), .agg v.cells, .one (.bool false)] (.own (some 0) 7 ((v.parts l).map Va.cells)) := by
 induction v using Va.ind with
 | h o n s ks ps bd bs ih _ =>
 intro l hn
 have hsame := fun x => r29_Same_ev Z x (.mk o n s ks ps bd bs)
 refine Z.r34_Parts _ _ ⟨Nat.le_of_ble_eq_true rfl, ?_⟩
 generalize hR : Va.parts (.mk o n s ks ps bd bs) l = R
 rw [Va.parts_mk] at hR
 have hadd : addV (.mk o n s ks ps bd bs) l = if o == 3 && !memV l (.mk o n s ks ps bd bs) then l ++ [.mk o n s ks ps bd bs] else l := rfl
 rw [Va.cnt_mk] at hn
 have hcx := Va.cells_mk o n s ks ps bd bs
 generalize hvv : Va.mk o n s ks ps bd bs = v at *
 generalize D.lst (ps.map fun k => [D.str k]) = c4 at *
 generalize D.lst (bd.map ExV.cells) = c5 at *
 generalize D.lst (bs.map BndV.cells) = c6 at *
 have hal := addV_len v l
 generalize addV v l = L0 at *
 have hrs : fn_r34_Parts.rs = [.t 6] := rfl
 simp only [fn_r34_Parts]
 refine seq2_named fun N hN => ?_
 have tail : ∀ (st : St) (t : Nat), getS st.slots 0 = .own t 7 (L0.map Va.cells) → getT st.tk t = some true → getS st.slots 4 = .ptr 4 0 → getS st.slots 2 = .d (.bool false) → st.mem = [(4, [.d (.int .i64 o), .d (.int .i64 n), .d (.str s), .d (.lst (ks.map Va.cells)), .d c4, .d c5, .d c6])] → N st := by
  intro st t h1 ht h2 h3 hm
  obtain ⟨sl, mm, tk⟩ := st
  simp only at h1 ht h2 h3 hm
  subst hm
  rw [hN]
  simp only [go_sem, h2]
  refine loop_list ks (fun _ => True) (fun done rest => ⟨[(9, .d (.int .i64 done.length)), (4, .ptr 4 0), (2, .d (.bool false)), (0, .own 0 7 ((done.foldl (fun l k => Va.parts k l) L0).map Va.cells))], [(4, [.d (.int .i64 o), .d (.int .i64 n), .d (.str s), .d (.lst (ks.map Va.cells)), .d c4, .d c5, .d c6])], [(0, true)]⟩) ?_ trivial ?_ ?_
  ·exact Ent_own [(0, t)] (by simp only [go_sem, List.contains_nil, Option.isSome_some, List.foldl_nil, h1, ht, h2, h3])
  ·intro done k r hl _
   have hlt := lt_mid hl
   have hgk := getD_at (f := Va.cells) (d := []) hl
   have hk' := ih k (mem_at' hl) (done.foldl (fun l k => Va.parts k l) L0) (by
    have h1 := parts_fold_len done L0 fun k _ l => parts_len k l
    have h2 : Va.cnts ks = Va.cnts done + (k.cnt + Va.cnts r) := by rw [hl, Va.cnts_app, Va.cnts]
    omega)
   have hfo : (done ++ [k]).foldl (fun l k => Va.parts k l) L0 = Va.parts k (done.foldl (fun l k => Va.parts k l) L0) := by rw [List.foldl_append]; rfl
   have hw : (ks.length : Int) ≤ 9223372036854775807 → IntKind.i64.wrap ((done.length : Int) + 1) = ((done.length + 1 : Nat) : Int) := fun h => wrap_succ (by omega)
   rw [hfo]
   generalize done.foldl (fun l k => Va.parts k l) L0 = A at *
   generalize Va.parts k A = B at *
   obtain ⟨a0, b0, c0, d0, e0, f0, g0, hck⟩ := cells7 (Va.cells_length k)
   simp only [hck] at hgk hk'
   simp only [fn_r34_Parts_L1, go_sem, hlt, hgk, List.length_map, Va.lens]
   intro hml
   refine call_by hk' ?_
   simp only [go_sem, hw hml, List.length_append]
   exact Ent_own [(0, 56)] (by simp only [go_sem, List.contains_nil, Option.isSome_some])
  ·intro _
   simp only [fn_r34_Parts_L1, ↓reduceIte, go_sem, List.length_map, hR, implies_true]
 clear hN
 have hq1 : (l.length + 1) * 128 ≤ 2 ^ 46 := by omega
 have hq2 : l.length ≤ 9223372036854775806 := by omega
 have hmem : ∀ a : List Va, memV a v = a.any fun x => eqB x v := fun _ => rfl
 simp only [hcx] at hsame
 simp only [go_sem, hcx, Bool.and_false, Bool.false_or]
 cases c1 : (o == 3) with
 | false =>
  rw [c1, Bool.false_and, if_neg (by simp)] at hadd
  simp only [go_sem]
  refine tail _ 0 ?_ ?_ ?_ ?_ ?_ <;> simp only [go_sem, hadd]
 | true =>
 rw [c1, Bool.true_and] at hadd
 simp only [go_sem]
 refine loop_named fun K hK => ?_
 refine loop_list l (fun _ => True) (fun done rest => ⟨[(8, .d (.int .i64 done.length)), (7, .d (.bool (memV done v))), (4, .ptr 4 0), (2, .d (.bool false)), (0, .own 0 7 (l.map Va.cells))], [(4, [.d (.int .i64 o), .d (.int .i64 n), .d (.str s), .d (.lst (ks.map Va.cells)), .d c4, .d c5, .d c6])], [(0, true)]⟩) ?_ trivial ?_ ?_
 ·exact Ent_own [(0, 0)] (by simp only [go_sem, List.contains_nil, Option.isSome_some, memV, List.any_nil])
 ·intro done x r hl _
  have hlt := lt_mid hl
  have hgk := getD_at (f := Va.cells) (d := []) hl
  have hs := hsame x
  have hw : (l.length : Int) ≤ 9223372036854775807 → IntKind.i64.wrap ((done.length : Int) + 1) = ((done.length + 1 : Nat) : Int) := fun h => wrap_succ (by omega)
  have hmx : memV (done ++ [x]) v = (memV done v || eqB x v) := by unfold memV; rw [List.any_append, List.any_cons, List.any_nil, Bool.or_false]
  rw [hmx]
  generalize eqB x v = e at *
  generalize memV done v = b at *
  obtain ⟨a0, b0, c0, d0, e0, f0, g0, hck⟩ := cells7 (Va.cells_length x)
  simp only [hck] at hgk hs
  simp only [fn_r34_Parts_L2, go_sem, hlt, hgk, List.length_map, Va.lens]
  intro hml
  refine call_g hs ?_
  simp only [go_sem, hw hml, List.length_append]
  exact Ent_own [(0, 0)] (by simp only [go_sem, List.contains_nil, Option.isSome_some])
 ·intro _
  simp only [fn_r34_Parts_L2, ↓reduceIte, go_sem, List.length_map, hK]
  intro _
  generalize memV l v = e at *
  cases e with
  | false =>
   rw [Bool.not_false, if_pos rfl] at hadd
   simp only [go_sem, List.length_map, hq1, hq2, Va.lens, List.mem_singleton, forall_eq]
   refine tail _ 41 ?_ ?_ ?_ ?_ ?_ <;> simp only [go_sem, hadd, List.map_append, List.map_cons, List.map_nil, hcx]
  | true =>
   rw [Bool.not_true, if_neg (by simp)] at hadd
   simp only [go_sem]
   refine tail _ 0 ?_ ?_ ?_ ?_ ?_ <;> simp only [go_sem, hadd]
set_option maxHeartbeats 4000000 in
theorem r34_About_ev (m : Mod) (hm : MBig m) (x : Va) (i : Int) : E.C r34_About [.agg m.cells, .agg x.cells, .one (.int .i64 i)] (.one (.lst ((aboutS m x i).map Fact.cells))) := by
 have hml := hm.len
 have hval := fun s => r34_Value_ev Z m x.val s
 have hcon := r20_Con_ev Z m x.name
 have hms := fun dn => r34_Measures_ev Z m hm dn
 refine Z.r34_About _ _ ⟨Nat.le_of_ble_eq_true rfl, ?_⟩
 generalize hR : aboutS m x i = R
 unfold aboutS fact1 at hR
 have hnl := symNames_len2 hm x.name
 have hnm : symNames m x.name = sTag :: (if (conS x.name m.datas).2.2 then (ofData m (conS x.name m.datas).1.name).map (·.name) else []) := rfl
 have hol := fun dn => ofData_len m dn
 have hx2 : ∃ x0 x1 x3 x4 x5 x6, x.cells = [x0, x1, .str x.name, x3, x4, x5, x6] := by
  obtain ⟨o, n, s, ks, ps, bd, bs⟩ := x
  exact ⟨_, _, _, _, _, _, Va.cells_mk o n s ks ps bd bs⟩
 obtain ⟨x0, x1, x3, x4, x5, x6, hxc⟩ := hx2
 have hxv : x.val.cells = [x0, x1, .str x.name, x3, x4, x5, x6] := hxc
 simp only [hxv] at hval
 have hmod : m.cells = [.lst (m.datas.map DataT.cells), m.cls, m.ins, .lst (m.meas.map Meas.cells), m.quals, m.defs] := rfl
 generalize x.val.value m = V at *
 generalize x.name = xn at *
 simp only [fn_r34_About, hmod, hxc]
 refine seq4_named' fun N hN => ?_
 have tail : ∀ (st : St), Ent { st with slots := (14, .d (.int .i64 0)) :: st.slots } ⟨[(14, .d (.int .i64 (0 : Nat))), (8, .own 8 1 ((sVal :: symNames m xn).map fun k => [.str k])), (7, .own 7 3 []), (2, .d (.int .i64 i)), (4, .ptr 4 0), (3, .ptr 3 0)], [(3, [.d (.lst (m.datas.map DataT.cells)), .d m.cls, .d m.ins, .d (.lst (m.meas.map Meas.cells)), .d m.quals, .d m.defs]), (4, [.d x0, .d x1, .d (.str xn), .d x3, .d x4, .d x5, .d x6])], [(8, true), (7, true)]⟩ → N st := by
  intro st hE
  obtain ⟨sl, mm, tk⟩ := st
  rw [hN]
  simp only [go_sem]
  have hNl : (sVal :: symNames m xn).length ≤ 1048578 := by rw [List.length_cons]; omega
  generalize sVal :: symNames m xn = NL at *
  refine loop_list NL (fun _ => True) (fun dq _ => ⟨[(14, .d (.int .i64 dq.length)), (8, .own 8 1 (NL.map fun k => [.str k])), (7, .own 7 3 ((dq.filterMap fun f => if (V f).2 = true then some (⟨f, [i], (V f).1⟩ : Fact) else none).map Fact.cells)), (2, .d (.int .i64 i)), (4, .ptr 4 0), (3, .ptr 3 0)],
   [(3, [.d (.lst (m.datas.map DataT.cells)), .d m.cls, .d m.ins, .d (.lst (m.meas.map Meas.cells)), .d m.quals, .d m.defs]), (4, [.d x0, .d x1, .d (.str xn), .d x3, .d x4, .d x5, .d x6])], [(8, true), (7, true)]⟩) hE trivial ?_ ?_
  ·intro dq f r hl _
   have hlt := lt_mid hl
   have hgf := getD_at (f := fun k : Str => [D.str k]) (d := []) hl
   have hw : (NL.length : Int) ≤ 9223372036854775807 → IntKind.i64.wrap ((dq.length : Int) + 1) = ((dq.length + 1 : Nat) : Int) := fun h => wrap_succ (by omega)
   have hdl : dq.length ≤ NL.length := by rw [hl]; simp
   have hval := hval f
   have hfl : (dq.filterMap fun f => if (V f).2 = true then some (⟨f, [i], (V f).1⟩ : Fact) else none).length ≤ dq.length := List.length_filterMap_le _ _
   rw [fm_snoc]
   generalize (dq.filterMap fun f => if (V f).2 = true then some (⟨f, [i], (V f).1⟩ : Fact) else none) = B at *
   have q1 : (B.length + 1) * 48 ≤ 2 ^ 46 := by omega
   have q2 : B.length ≤ 9223372036854775806 := by omega
   generalize V f = w at *
   obtain ⟨wn, wb⟩ := w
   unfold res2 at hval
   simp only at hval
   simp only [fn_r34_About_L1, go_sem, hgf, hlt, List.length_map, slen1]
   intro hml2
   refine call_by hval ?_
   simp only [go_sem, hgf, hlt, List.length_map, slen1]
   cases wb with
   | true =>
    simp only [go_sem, hgf, hlt, List.length_map, slen1, q1, q2, Fact.lens, List.mem_singleton, forall_eq, hw hml2, List.length_append]
    exact Ent_own [(8, 8), (7, 72)] (by simp only [go_sem, List.contains_nil, List.contains_cons, Nat.reduceBEq, Option.isSome_some, List.map_append, List.map_cons, List.map_nil, if_true, Fact.cells, icell, Option.toList_some])
   | false =>
    simp only [go_sem, hw hml2, List.length_append]
    exact Ent_own [(8, 8), (7, 7)] (by simp only [go_sem, List.contains_nil, List.contains_cons, Nat.reduceBEq, Option.isSome_some, Bool.false_eq_true, if_false, Option.toList_none, List.append_nil])
  ·intro _
   simp only [fn_r34_About_L1, ↓reduceIte, go_sem, List.length_map, hR, implies_true]
 clear hN
 simp only [go_sem]
 refine call_by hcon ?_
 generalize conS xn m.datas = C at *
 obtain ⟨⟨dn, dv, dp, dc⟩, ix, known⟩ := C
 simp only at hnm
 simp only [go_sem, DataT.cells]
 cases known with
 | false =>
  simp only [Bool.false_eq_true, if_false] at hnm
  simp only [go_sem]
  refine tail _ ?_
  rw [hnm]
  refine Ent_conv2 8 8 1 [[.str sVal], [.str sTag]] 7 7 3 [] [(8, 8), (7, 7)] (by simp only [go_sem]; rfl) (by simp) (by simp only [go_sem]) (by simp only [go_sem]) (by simp) (by simp only [go_sem]) ?_
  simp only [Ent0, go_sem, List.contains_nil, List.contains_cons, Nat.reduceBEq, Option.isSome_some, List.map_cons, List.map_nil]
 | true =>
 simp only [if_true] at hnm
 simp only [go_sem]
 refine call_by (hms dn) ?_
 simp only [go_sem]
 have hol := hol dn
 generalize ofData m dn = ms at *
 refine loop_named fun K hK => ?_
 refine loop_list ms (fun _ => True) (fun dm _ => ⟨[(13, .d (.int .i64 dm.length)), (12, .d (.lst (ms.map Meas.cells))), (8, .own 8 1 ((sVal :: sTag :: dm.map (·.name)).map fun k => [.str k])), (7, .full []), (2, .d (.int .i64 i)), (4, .ptr 4 0), (3, .ptr 3 0)],
   [(3, [.d (.lst (m.datas.map DataT.cells)), .d m.cls, .d m.ins, .d (.lst (m.meas.map Meas.cells)), .d m.quals, .d m.defs]), (4, [.d x0, .d x1, .d (.str xn), .d x3, .d x4, .d x5, .d x6])], [(8, true)]⟩) ?_ trivial ?_ ?_
 ·refine Ent_conv 8 8 1 [[.str sVal], [.str sTag]] [(8, 8)] (by simp only [go_sem]; rfl) (by simp) (by simp only [go_sem]) ?_
  simp only [Ent0, go_sem, List.contains_nil, List.contains_cons, Nat.reduceBEq, Option.isSome_some, List.map_cons, List.map_nil]
 ·intro dm y r hl _
  have hlt := lt_mid hl
  have hgy := getD_at (f := Meas.cells) (d := []) hl
  have hw : (ms.length : Int) ≤ 9223372036854775807 → IntKind.i64.wrap ((dm.length : Int) + 1) = ((dm.length + 1 : Nat) : Int) := fun h => wrap_succ (by omega)
  have hdl : dm.length ≤ ms.length := by rw [hl]; simp
  have hnl2 : (sVal :: sTag :: dm.map (·.name)).length = dm.length + 2 := by simp
  have hsn : sVal :: sTag :: (dm ++ [y]).map (·.name) = (sVal :: sTag :: dm.map (·.name)) ++ [y.name] := by simp
  rw [hsn]
  generalize sVal :: sTag :: dm.map (·.name) = NN at *
  have q1 : (NN.length + 1) * 16 ≤ 2 ^ 46 := by omega
  have q2 : NN.length ≤ 9223372036854775806 := by omega
  obtain ⟨ya, yb, yc, yl, yi⟩ := y
  obtain ⟨i0, i1, i2, i3, hic⟩ := cells4 (Pred.cells_length yi)
  have hyc : Meas.cells ⟨ya, yb, yc, yl, yi⟩ = [.str ya, .str yb, .str yc, .lst (yl.map Cas.cells), i0, i1, i2, i3] := by show _ :: _ :: _ :: _ :: yi.cells = _; rw [hic]
  rw [hyc] at hgy
  simp only [fn_r34_About_L2, go_sem, hgy, hlt, List.length_map, Meas.lens]
  intro hml2
  simp only [go_sem, hgy, hlt, List.length_map, Meas.lens, q1, q2, slen1, List.mem_singleton, forall_eq, hw hml2, List.length_append]
  exact Ent_own [(8, 44)] (by simp only [go_sem, List.contains_nil, List.contains_cons, Nat.reduceBEq, Option.isSome_some, List.map_append, List.map_cons, List.map_nil])
 ·intro _
  simp only [fn_r34_About_L2, ↓reduceIte, go_sem, List.length_map, hK]
  intro _
  refine tail _ ?_
  rw [hnm]
  refine Ent_conv 7 7 3 [] [(8, 8), (7, 7)] (by simp only [go_sem]) (by simp) (by simp only [go_sem]) ?_
  simp only [Ent0, go_sem, List.contains_nil, List.contains_cons, Nat.reduceBEq, Option.isSome_some]
end Go.Abs
end
section
namespace Go.Abs
theorem aboutS_len {m : Mod} (hm : MBig m) (x : Va) (i : Int) : (aboutS m x i).length ≤ 1048578 := by
 unfold aboutS
 have h1 := List.length_filterMap_le (fact1 m x.val i) (sVal :: symNames m x.name)
 have h2 := symNames_len2 hm x.name
 rw [List.length_cons] at h1
 omega
variable {E : AEnv} (Z : Sys E)
include Z
set_option maxHeartbeats 4000000 in
theorem r34_Symbols_ev (m : Mod) (hm : MBig m) (v : Va) (hv : v.cnt ≤ 1048576) (name : Str) : E.C r34_Symbols [.agg m.cells, .agg v.cells, .one (.str name)] (.one (.lst ((symS m v name).map Fact.cells))) := by
 have hparts := r34_Parts_ev Z v [] (by simp; omega)
 refine Z.r34_Symbols _ _ ⟨Nat.le_of_ble_eq_true rfl, ?_⟩
 generalize hR : symS m v name = R
 unfold symS at hR
 have hop := parts_data v
 have hbd := fun (l r : List Va) (h : v.parts [] = l ++ r) => syms_bound hm hv h name 0
 generalize v.parts [] = P at *
 obtain ⟨v0, v1, v2, v3, v4, v5, v6, hvc⟩ := cells7 (Va.cells_length v)
 simp only [hvc] at hparts
 have hmod : m.cells = [.lst (m.datas.map DataT.cells), m.cls, m.ins, .lst (m.meas.map Meas.cells), m.quals, m.defs] := rfl
 have habout := fun x i => r34_About_ev Z m hm x i
 simp only [fn_r34_Symbols, hmod, hvc, go_sem]
 refine call_by hparts ?_
 simp only [go_sem, List.length_map, List.map_nil, List.not_mem_nil, false_implies, implies_true]
 refine loop_list P (fun _ => True) (fun done rest => ⟨[(9, .d (.int .i64 done.length)), (8, .own 8 7 (P.map Va.cells)), (7, .own 7 3 ((symsAll m name done 0).map Fact.cells)), (2, .d (.str name)), (3, .ptr 3 0)],
  [(3, [.d (.lst (m.datas.map DataT.cells)), .d m.cls, .d m.ins, .d (.lst (m.meas.map Meas.cells)), .d m.quals, .d m.defs])], [(8, true), (7, true)]⟩) ?_ trivial ?_ ?_
 ·refine Ent_conv 7 7 3 [] [(8, 13), (7, 7)] (by simp only [go_sem]) (by simp) (by simp only [go_sem]) ?_
  simp only [Ent0, go_sem, List.contains_nil, List.contains_cons, Nat.reduceBEq, Option.isSome_some, symsAll, List.map_nil]
 ·intro done x r hl _
  have hlt := lt_mid hl
  have hgk := getD_at (f := Va.cells) (d := []) hl
  have hb := hbd done (x :: r) hl
  have hw : (P.length : Int) ≤ 9223372036854775807 → IntKind.i64.wrap ((done.length : Int) + 1) = ((done.length + 1 : Nat) : Int) := fun h => wrap_succ (by omega)
  have habout := habout x done.length
  have hal := aboutS_len hm x done.length
  have hsn := symsAll_snoc m name done x 0
  rw [Nat.zero_add, ← about_filter m x (hop x (mem_at' hl))] at hsn
  rw [hsn]
  generalize symsAll m name done 0 = A at *
  generalize aboutS m x done.length = B at *
  obtain ⟨x0, x1, x2, x3, x4, x5, x6, hxc⟩ := cells7 (Va.cells_length x)
  simp only [hxc] at hgk habout
  simp only [fn_r34_Symbols_L2, go_sem, hgk, hlt, List.length_map, Va.lens]
  intro hml
  refine call_by habout ?_
  simp only [go_sem]
  refine loop_named fun K hK => ?_
  refine loop_list B (fun _ => True) (fun dq _ => ⟨[(11, .d (.int .i64 dq.length)), (10, .d (.lst (B.map Fact.cells))), (9, .d (.int .i64 done.length)), (8, .own 8 7 (P.map Va.cells)), (7, .own 7 3 ((A ++ dq.filter fun f => name == [] || f.name == name).map Fact.cells)), (2, .d (.str name)), (3, .ptr 3 0)],
   [(3, [.d (.lst (m.datas.map DataT.cells)), .d m.cls, .d m.ins, .d (.lst (m.meas.map Meas.cells)), .d m.quals, .d m.defs])], [(8, true), (7, true)]⟩) ?_ trivial ?_ ?_
  ·exact Ent_own [(8, 8), (7, 7)] (by simp only [go_sem, List.contains_nil, List.contains_cons, Nat.reduceBEq, Option.isSome_some, List.filter_nil, List.append_nil])
  ·intro dq f r' hl' _
   have hlt' := lt_mid hl'
   have hgf := getD_at (f := Fact.cells) (d := []) hl'
   have hw' : (B.length : Int) ≤ 9223372036854775807 → IntKind.i64.wrap ((dq.length : Int) + 1) = ((dq.length + 1 : Nat) : Int) := fun h => wrap_succ (by omega)
   have hdl : dq.length ≤ B.length := by rw [hl']; simp
   have hfl : (dq.filter fun f => name == [] || f.name == name).length ≤ dq.length := List.length_filter_le _ _
   rw [filter_snoc]
   generalize (dq.filter fun f => name == [] || f.name == name) = C at *
   have q1 : (A.length + C.length + 1) * 48 ≤ 2 ^ 46 := by omega
   have q2 : A.length + C.length ≤ 9223372036854775806 := by omega
   obtain ⟨fn, fa, fr⟩ := f
   simp only [Fact.cells] at hgf
   simp only [fn_r34_Symbols_L1, go_sem, hgf, hlt', List.length_map, Fact.lens]
   intro hml2
   generalize (name == []) = n1 at *
   generalize (fn == name) = n2 at *
   by_cases hc : (n1 || n2) = true
   ·simp only [hc, go_sem, hgf, hlt', List.length_map, q1, q2, Fact.lens, List.mem_singleton, forall_eq, hw' hml2, List.length_append, if_true]
    exact Ent_own [(8, 8), (7, 50)] (by simp only [go_sem, List.contains_nil, List.contains_cons, Nat.reduceBEq, Option.isSome_some, List.map_append, List.map_cons, List.map_nil, List.append_assoc, Fact.cells])
   ·have hc : (n1 || n2) = false := by simpa only [Bool.not_eq_true] using hc
    simp only [hc, go_sem, hw' hml2, List.length_append, Bool.false_eq_true, if_false, List.append_nil]
    exact Ent_own [(8, 8), (7, 7)] (by simp only [go_sem, List.contains_nil, List.contains_cons, Nat.reduceBEq, Option.isSome_some])
  ·intro _
   simp only [fn_r34_Symbols_L1, ↓reduceIte, go_sem, List.length_map, hK]
   intro _
   simp only [go_sem, hw hml, List.length_append]
   exact Ent_own [(8, 8), (7, 7)] (by simp only [go_sem, List.contains_nil, List.contains_cons, Nat.reduceBEq, Option.isSome_some, List.length_append])
 ·intro _
  simp only [fn_r34_Symbols_L2, ↓reduceIte, go_sem, List.length_map, hR, implies_true]
theorem r34_SameFacts_ev (l : List Fact) : E.C r34_SameFacts [.one (.lst (l.map Fact.cells)), .one (.lst (l.map Fact.cells))] (.one (.bool true)) := by
 refine Z.r34_SameFacts _ _ ⟨Nat.le_of_ble_eq_true rfl, ?_⟩
 simp only [fn_r34_SameFacts, go_sem, List.length_map, bne_self_eq_false]
 intro _ _
 refine loop_list l (fun _ => True) (fun done rest => ⟨[(5, .d (.int .i64 done.length)), (0, .d (.lst (l.map Fact.cells))), (1, .d (.lst (l.map Fact.cells)))], [], []⟩) ?_ trivial ?_ ?_
 ·exact Ent_plain (by simp only [go_sem])
 ·intro done f r hl _
  have hlt := lt_mid hl
  have hgf := getD_at (f := Fact.cells) (d := []) hl
  have hw : (l.length : Int) ≤ 9223372036854775807 → IntKind.i64.wrap ((done.length : Int) + 1) = ((done.length + 1 : Nat) : Int) := fun h => wrap_succ (by omega)
  obtain ⟨fn, fa, fr⟩ := f
  simp only [Fact.cells] at hgf
  simp only [fn_r34_SameFacts_L2, go_sem, hgf, hlt, List.length_map, Fact.lens, bne_self_eq_false, beq_self_eq_true]
  intro hml
  refine loop_named fun K hK => ?_
  refine loop_list fa (fun _ => True) (fun dq _ => ⟨[(6, .d (.int .i64 dq.length)), (5, .d (.int .i64 done.length)), (0, .d (.lst (l.map Fact.cells))), (1, .d (.lst (l.map Fact.cells)))], [], []⟩) ?_ trivial ?_ ?_
  ·exact Ent_plain (by simp only [go_sem])
  ·intro dq a r' hl' _
   have hlt' := lt_mid hl'
   have hga : (fa.map icell).getD dq.length [] = [.int .i64 a] := getD_at (f := icell) (d := []) hl'
   have hia := icell_lens fa
   have hw' : (fa.length : Int) ≤ 9223372036854775807 → IntKind.i64.wrap ((dq.length : Int) + 1) = ((dq.length + 1 : Nat) : Int) := fun h => wrap_succ (by omega)
   simp only [fn_r34_SameFacts_L1, go_sem, hgf, hlt, hlt', hga, hia, List.length_map, Fact.lens, bne_self_eq_false]
   intro hml2
   simp only [go_sem, hw' hml2, List.length_append]
   exact Ent_plain (by simp only [go_sem, List.length_append])
  ·intro _
   simp only [fn_r34_SameFacts_L1, ↓reduceIte, go_sem, hgf, hlt, List.length_map, Fact.lens, hK]
   intro _
   simp only [go_sem, hw hml, List.length_append]
   exact Ent_plain (by simp only [go_sem])
 ·intro _
  simp only [fn_r34_SameFacts_L2, ↓reduceIte, go_sem, List.length_map, implies_true]
end Go.Abs
end
section
namespace Go.Abs
def tyIC : List D := [.int .i64 1, .str [], .lst [], .lst [], .int .i64 0, .str [], .int .i64 0, .lst [], .lst []]
def tyLC : List D := [.int .i64 4, .str [76, 105, 115, 116], .lst [], .lst [], .int .i64 0, .str [], .int .i64 0, .lst [], .lst []]
def conNil : ConT := ⟨[78, 105, 108], .lst [], .lst []⟩
def conCons : ConT := ⟨[67, 111, 110, 115], .lst [[.str [120]], [.str [114, 101, 115, 116]]], .lst [tyIC, tyLC]⟩
def listD : DataT := ⟨[76, 105, 115, 116], .lst [], .lst [], [conNil, conCons]⟩
def lenB : Pred := p2 6 (pn 1) (papp [108, 101, 110] [pv [114, 101, 115, 116]])
def casNil : Cas := ⟨[78, 105, 108], [], pn 0⟩
def casCons : Cas := ⟨[67, 111, 110, 115], [[120], [114, 101, 115, 116]], lenB⟩
def lenI : Pred := p2 13 (pn 0) (pv [118])
def lenM : Meas := ⟨[108, 101, 110], [76, 105, 115, 116], [73, 110, 116], [casNil, casCons], lenI⟩
def listsM : Mod := ⟨[listD], .lst [], .lst [], [lenM], .lst [], .lst []⟩
theorem lists_big : MBig listsM where
 ok := by
  intro x hx c hc
  rw [List.mem_singleton.1 (show x ∈ [lenM] from hx)] at hc
  rcases List.mem_cons.1 (show c ∈ [casNil, casCons] from hc) with rfl | hc
  ·exact ⟨by show 1 < 1048576; omega, by show 0 ≤ 1048576; omega⟩
  ·rw [List.mem_singleton.1 hc]; exact ⟨by show _ + 1 ≤ 1048576; exact Nat.le_of_ble_eq_true (by kernel_rfl), by show 2 ≤ 1048576; omega⟩
 inv := by
  intro x hx
  rw [List.mem_singleton.1 (show x ∈ [lenM] from hx)]
  show _ + 1 ≤ 1048576
  exact Nat.le_of_ble_eq_true (by kernel_rfl)
 len := by show 1 ≤ 1048576; omega
def hypsL : List Pred := splitP (invS listsM (pv [114, 101, 115, 116]) [76, 105, 115, 116])
def inv3 : List Pred := [subAll [sV] [papp [108, 101, 110] [pv [114, 101, 115, 116]]] lenI, p2 13 (pn 0) (papp sTag [pv [114, 101, 115, 116]]), p2 13 (papp sTag [pv [114, 101, 115, 116]]) (pn 1)]
theorem hyps_eq : hypsL = inv3 := by kernel_rfl
def headN : Pred := subAll [sV] [pn 0] lenI
def headC : Pred := subAll [sV] [lenB] lenI
theorem headN_cells : headN.cells = [.int .i64 13, .str [], .int .i64 0, .lst [(pn 0).cells, (pn 0).cells]] := by kernel_rfl
theorem headC_cells : headC.cells = [.int .i64 13, .str [], .int .i64 0, .lst [(pn 0).cells, lenB.cells]] := by kernel_rfl
theorem lenI_cells : lenI.cells = [.int .i64 13, .str [], .int .i64 0, .lst [(pn 0).cells, (pv [118]).cells]] := by kernel_rfl
theorem lenB_cells : lenB.cells = [.int .i64 6, .str [], .int .i64 0, .lst [(pn 1).cells, (papp [108, 101, 110] [pv [114, 101, 115, 116]]).cells]] := by kernel_rfl
theorem pn0_cells : (pn 0).cells = [.int .i64 1, .str [], .int .i64 0, .lst []] := by kernel_rfl
theorem casNil_cells : casNil.cells = [.str [78, 105, 108], .lst [], .int .i64 1, .str [], .int .i64 0, .lst []] := by kernel_rfl
theorem casCons_cells : casCons.cells = [.str [67, 111, 110, 115], .lst [[.str [120]], [.str [114, 101, 115, 116]]], .int .i64 6, .str [], .int .i64 0, .lst [(pn 1).cells, (papp [108, 101, 110] [pv [114, 101, 115, 116]]).cells]] := by kernel_rfl
theorem lenM_cells : lenM.cells = [.str [108, 101, 110], .str [76, 105, 115, 116], .str [73, 110, 116], .lst [casNil.cells, casCons.cells], .int .i64 13, .str [], .int .i64 0, .lst [(pn 0).cells, (pv [118]).cells]] := by kernel_rfl
theorem listD_cells : listD.cells = [.str [76, 105, 115, 116], .lst [], .lst [], .lst [conNil.cells, conCons.cells]] := by kernel_rfl
theorem conNil_cells : conNil.cells = [.str [78, 105, 108], .lst [], .lst []] := rfl
theorem conCons_cells : conCons.cells = [.str [67, 111, 110, 115], .lst [[.str [120]], [.str [114, 101, 115, 116]]], .lst [tyIC, tyLC]] := rfl
theorem listsM_cells : listsM.cells = [.lst [listD.cells], .lst [], .lst [], .lst [lenM.cells], .lst [], .lst []] := rfl
def oblN : List D := [.lst [], .lst [], .int .i64 13, .str [], .int .i64 0, .lst [(pn 0).cells, (pn 0).cells], .int .i64 0]
def oblC4 : List D := [.lst [[.str [120], .str [73, 110, 116]], [.str [114, 101, 115, 116], .str [76, 105, 115, 116]]], .lst (hypsL.map Pred.cells), .int .i64 13, .str [], .int .i64 0, .lst [(pn 0).cells, lenB.cells], .int .i64 0]
theorem hyps_len : hypsL.length = 3 := by rw [hyps_eq]; rfl
theorem tame_pvX (s : Str) : Tame (pv s) := tame_of_cnt _ (by show 1 ≤ 1048576; omega)
theorem split_zero : splitP zeroP = [] := by kernel_rfl
variable {E : AEnv} (Z : Sys E)
include Z
theorem l34_v_ev (s : Str) : E.C l34_v [.one (.str s)] (.agg (pv s).cells) := by
 refine Z.l34_v _ _ ⟨Nat.le_of_ble_eq_true rfl, ?_⟩
 simp only [fn_l34_v, go_sem, pv, Pred.cells_eq, Pred.op, Pred.name, Pred.n, Pred.kids, List.map_nil]
theorem l34_n_ev (n : Int) : E.C l34_n [.one (.int .i64 n)] (.agg (pn n).cells) := by
 refine Z.l34_n _ _ ⟨Nat.le_of_ble_eq_true rfl, ?_⟩
 rw [pn, Pred.cells_eq]
 simp only [fn_l34_n, go_sem, Pred.op, Pred.name, Pred.n, Pred.kids, List.map_nil]
theorem l34_two_ev (o : Int) (a b : Pred) : E.C l34_two [.one (.int .i64 o), .agg a.cells, .agg b.cells] (.agg (p2 o a b).cells) := by
 refine Z.l34_two _ _ ⟨Nat.le_of_ble_eq_true rfl, ?_⟩
 rw [p2, Pred.cells_eq (.mk o [] 0 [a, b])]
 simp only [fn_l34_two, go_sem, Pred.op, Pred.name, Pred.n, Pred.kids]
theorem l34_app_ev (s : Str) (a : Pred) : E.C l34_app [.one (.str s), .agg a.cells] (.agg (papp s [a]).cells) := by
 refine Z.l34_app _ _ ⟨Nat.le_of_ble_eq_true rfl, ?_⟩
 rw [papp, Pred.cells_eq (.mk 4 s 0 [a])]
 simp only [fn_l34_app, go_sem, Pred.op, Pred.name, Pred.n, Pred.kids]
theorem l34_lists_ev : E.C l34_lists [] (.agg listsM.cells) := by
 have n0 := l34_n_ev Z 0
 have n1 := l34_n_ev Z 1
 have vr := l34_v_ev Z [114, 101, 115, 116]
 have vv := l34_v_ev Z [118]
 have ap := l34_app_ev Z [108, 101, 110] (pv [114, 101, 115, 116])
 have t1 := l34_two_ev Z 6 (pn 1) (papp [108, 101, 110] [pv [114, 101, 115, 116]])
 have t2 := l34_two_ev Z 13 (pn 0) (pv [118])
 rw [show p2 6 (pn 1) (papp [108, 101, 110] [pv [114, 101, 115, 116]]) = lenB from rfl, lenB_cells] at t1
 rw [show p2 13 (pn 0) (pv [118]) = lenI from rfl, lenI_cells] at t2
 have hpl : ∀ p : Pred, p.cells.length = 4 := Pred.cells_length
 rw [listsM_cells, listD_cells, lenM_cells, conNil_cells, conCons_cells, casNil_cells, casCons_cells]
 rw [pn0_cells] at n0
 refine Z.l34_lists _ _ ⟨Nat.le_of_ble_eq_true rfl, ?_⟩
 simp only [fn_l34_lists, go_sem, tyIC, tyLC]
 refine call_by n0 ?_
 simp only [go_sem]
 refine call_by n1 ?_
 simp only [go_sem]
 refine call_by vr ?_
 simp only [go_sem]
 refine call_by ap ?_
 simp only [go_sem]
 refine call_by t1 ?_
 simp only [go_sem]
 refine call_by n0 ?_
 simp only [go_sem]
 refine call_by vv ?_
 simp only [go_sem]
 rw [← pn0_cells]
 refine call_by t2 ?_
 simp only [go_sem, pn0_cells]
theorem sort_Of_I : E.C sort_Of [.agg tyIC] (.tup [.one (.str [73, 110, 116]), .one (.bool true)]) := by
 refine Z.sort_Of _ _ ⟨Nat.le_of_ble_eq_true rfl, ?_⟩
 simp only [fn_sort_Of, go_sem, tyIC, beq_self_eq_true]
theorem sort_Of_L : E.C sort_Of [.agg tyLC] (.tup [.one (.str [76, 105, 115, 116]), .one (.bool true)]) := by
 refine Z.sort_Of _ _ ⟨Nat.le_of_ble_eq_true rfl, ?_⟩
 simp only [fn_sort_Of, go_sem, tyLC, Int.reduceBEq, beq_self_eq_true, List.length_nil, Int.ofNat_zero, implies_true]
end Go.Abs
end
section
namespace Go.Abs
theorem cells6 {l : List D} (h : l.length = 6) : ∃ a b c d e f, l = [a, b, c, d, e, f] := by
 match l, h with
 | [a, b, c, d, e, f], _ => exact ⟨_, _, _, _, _, _, rfl⟩
theorem inv_cnt : (invS listsM (pv [114, 101, 115, 116]) [76, 105, 115, 116]).cnt ≤ 1048576 := Nat.le_of_ble_eq_true (by kernel_rfl)
theorem zeroP_cells4 : zeroP.cells = [.int .i64 0, .str [], .int .i64 0, .lst []] := by kernel_rfl
theorem tame_lenI : Tame lenI := tame_of_cnt _ (Nat.le_of_ble_eq_true (by kernel_rfl))
theorem tame_lenB : Tame lenB := tame_of_cnt _ (Nat.le_of_ble_eq_true (by kernel_rfl))
theorem pv_cells (s : Str) : (pv s).cells = [.int .i64 3, .str s, .int .i64 0, .lst []] := by rw [pv, Pred.cells_eq]; rfl
variable {E : AEnv} (Z : Sys E)
include Z
theorem oblN_ev : E.C measure_obligation [.agg listsM.cells, .agg listD.cells, .agg conNil.cells, .agg lenM.cells, .agg casNil.cells] (.agg oblN) := by
 have hs := pred_Subst_ev Z sV (pn 0) lenI (tame_pn' 0) tame_lenI
 rw [show subAll [sV] [pn 0] lenI = headN from rfl, headN_cells, lenI_cells] at hs
 refine Z.measure_obligation _ _ ⟨Nat.le_of_ble_eq_true rfl, ?_⟩
 rw [listsM_cells]
 generalize [D.lst [listD.cells], D.lst [], D.lst [], D.lst [lenM.cells], D.lst [], D.lst []] = mc
 rw [listD_cells, conNil_cells, conCons_cells, lenM_cells, casNil_cells, casCons_cells]
 simp only [pn0_cells] at hs ⊢
 simp only [fn_measure_obligation, go_sem]
 refine call_by hs ?_
 simp only [go_sem, List.length_nil, Int.natCast_zero]
 refine awp_round (s1 := ⟨[(28, .d (.int .i64 0)), (27, .d (.int .i64 0)), (26, .d (.lst [])), (11, .ptr 11 0), (10, .ptr 10 0)], [(10, [.full [], .full [], .d (.int .i64 0), .d (.str []), .d (.int .i64 0), .full [], .d (.int .i64 0)]), (11, [.full [], .full [], .d (.int .i64 13), .d (.str []), .d (.int .i64 0), .d (.lst [[.int .i64 1, .str [], .int .i64 0, .lst []], [.int .i64 1, .str [], .int .i64 0, .lst []]]), .d (.int .i64 0)])], []⟩) ?_ ?_
 ·exact Ent_plain (by simp only [go_sem, Option.isSome_some])
 simp only [fn_measure_obligation_L2, go_sem, oblN, pn0_cells]
set_option maxHeartbeats 4000000 in
theorem oblC_ev (hE : ∀ (m : Mod), MBig m → ∀ (value : Pred) (s : Str), Tame value → E.C measure_Invariants [.agg m.cells, .agg value.cells, .one (.str s)] (.agg (invS m value s).cells)) : E.C measure_obligation [.agg listsM.cells, .agg listD.cells, .agg conCons.cells, .agg lenM.cells, .agg casCons.cells] (.agg oblC4) := by
 have hs := pred_Subst_ev Z sV lenB lenI tame_lenB tame_lenI
 rw [show subAll [sV] [lenB] lenI = headC from rfl, headC_cells, lenI_cells, lenB_cells] at hs
 have hsi := sort_Of_I Z
 have hsl := sort_Of_L Z
 have hz := pred_Split_ev Z zeroP (tame_of_cnt _ (by show 1 ≤ 1048576; omega)) (by show 1 ≤ 1073741824; omega)
 rw [split_zero, zeroP_cells4] at hz
 have hv := measure_variable_ev Z [114, 101, 115, 116]
 have hi := hE listsM lists_big (pv [114, 101, 115, 116]) [76, 105, 115, 116] (tame_pvX _)
 have hh := pred_Split_ev Z (invS listsM (pv [114, 101, 115, 116]) [76, 105, 115, 116]) (tame_of_cnt _ inv_cnt) (Nat.le_trans inv_cnt (by omega))
 rw [show splitP (invS listsM (pv [114, 101, 115, 116]) [76, 105, 115, 116]) = hypsL from rfl] at hh
 have hic : (invS listsM (pv [114, 101, 115, 116]) [76, 105, 115, 116]).cells.length = 4 := Pred.cells_length _
 generalize invS listsM (pv [114, 101, 115, 116]) [76, 105, 115, 116] = iv at *
 have hhl := hyps_len
 have w1 : IntKind.i64.wrap (0 + 1) = 1 := by kernel_rfl
 have w2 : IntKind.i64.wrap (1 + 1) = 2 := by kernel_rfl
 refine Z.measure_obligation _ _ ⟨Nat.le_of_ble_eq_true rfl, ?_⟩
 unfold oblC4
 generalize hypsL = HL at *
 obtain ⟨m0, m1, m2, m3, m4, m5, hmc⟩ := cells6 (l := listsM.cells) rfl
 rw [hmc] at hi ⊢
 clear hmc
 rw [listD_cells]
 generalize D.lst [conNil.cells, conCons.cells] = ds
 rw [conCons_cells, lenM_cells, casCons_cells]
 rw [pv_cells] at hi hv
 generalize hb1 : D.lst [(pn 1).cells, (papp [108, 101, 110] [pv [114, 101, 115, 116]]).cells] = b1 at *
 generalize hb2 : D.lst [(pn 0).cells, (pv [118]).cells] = b2 at *
 rw [lenB_cells, hb1]
 generalize hh3 : D.lst [(pn 0).cells, [D.int IntKind.i64 6, D.str [], D.int IntKind.i64 0, b1]] = h3 at *
 clear hb1 hb2 hh3
 obtain ⟨h0, hh0⟩ : ∃ h, h = D.int IntKind.i64 13 := ⟨_, rfl⟩
 simp only [fn_measure_obligation, go_sem, List.length_nil, List.length_cons, Int.natCast_zero, Int.reduceBEq, Int.reduceBNe, Int.cast_ofNat_Int, Nat.reducePow, ge_iff_le, Int.reduceLE, Int.reduceGE, Int.reduceLT, decide_false, decide_true, Nat.reduceBEq, Bool.not_true, Bool.not_false, beq_self_eq_true, bne_self_eq_false, List.mem_singleton, forall_eq, List.mem_cons, List.not_mem_nil, or_false, forall_eq_or_imp]
 refine call_by hs ?_
 simp only [go_sem, List.length_nil, List.length_cons, Int.natCast_zero, Int.reduceBEq, Int.reduceBNe, Int.cast_ofNat_Int, Nat.reducePow, ge_iff_le, Int.reduceLE, Int.reduceGE, Int.reduceLT, decide_false, decide_true, Nat.reduceBEq, Bool.not_true, Bool.not_false, beq_self_eq_true, bne_self_eq_false, List.mem_singleton, forall_eq, List.mem_cons, List.not_mem_nil, or_false, forall_eq_or_imp]
 obtain ⟨h1, hh1⟩ : ∃ h, h = D.str [] := ⟨_, rfl⟩
 obtain ⟨h2, hh2⟩ : ∃ h, h = D.int IntKind.i64 0 := ⟨_, rfl⟩
 refine awp_round (s1 := ⟨[(28, .d (.int .i64 0)), (27, .d (.int .i64 2)), (26, .d (.lst [[.str [120]], [.str [114, 101, 115, 116]]])), (11, .ptr 11 0), (10, .ptr 10 0), (5, .ptr 5 0), (6, .ptr 6 0), (7, .ptr 7 0)], [(5, [.d m0, .d m1, .d m2, .d m3, .d m4, .d m5]), (6, [.d (.str [76, 105, 115, 116]), .d (.lst []), .d (.lst []), .d ds]), (7, [.d (.str [67, 111, 110, 115]), .d (.lst [[.str [120]], [.str [114, 101, 115, 116]]]), .d (.lst [tyIC, tyLC])]), (10, [.full [], .full [], .d (.int .i64 0), .d (.str []), .d (.int .i64 0), .full [], .d (.int .i64 0)]), (11, [.full [], .full [], .d h0, .d h1, .d h2, .d h3, .d (.int .i64 0)])], []⟩) ?_ ?_
 ·exact Ent_plain (by simp only [go_sem, Option.isSome_some, hh0, hh1, hh2])
 simp only [fn_measure_obligation_L2, go_sem, List.length_nil, List.length_cons, Int.natCast_zero, Int.reduceBEq, Int.reduceBNe, Int.cast_ofNat_Int, Nat.reducePow, ge_iff_le, Int.reduceLE, Int.reduceGE, Int.reduceLT, decide_false, decide_true, Nat.reduceBEq, Bool.not_true, Bool.not_false, beq_self_eq_true, bne_self_eq_false, List.mem_singleton, forall_eq, List.mem_cons, List.not_mem_nil, or_false, forall_eq_or_imp, tyIC, tyLC]
 refine call_by hsi ?_
 simp only [go_sem, List.length_nil, List.length_cons, Int.natCast_zero, Int.reduceBEq, Int.reduceBNe, Int.cast_ofNat_Int, Nat.reducePow, ge_iff_le, Int.reduceLE, Int.reduceGE, Int.reduceLT, decide_false, decide_true, Nat.reduceBEq, Bool.not_true, Bool.not_false, beq_self_eq_true, bne_self_eq_false, List.mem_singleton, forall_eq, List.mem_cons, List.not_mem_nil, or_false, forall_eq_or_imp]
 refine call_by hz ?_
 simp only [go_sem, List.length_nil, List.length_cons, Int.natCast_zero, Int.reduceBEq, Int.reduceBNe, Int.cast_ofNat_Int, Nat.reducePow, ge_iff_le, Int.reduceLE, Int.reduceGE, Int.reduceLT, decide_false, decide_true, Nat.reduceBEq, Bool.not_true, Bool.not_false, beq_self_eq_true, bne_self_eq_false, List.mem_singleton, forall_eq, List.mem_cons, List.not_mem_nil, or_false, forall_eq_or_imp]
 refine awp_round (s1 := ⟨[(62, .d (.int .i64 0)), (61, .d (.int .i64 0)), (15, .d (.str [73, 110, 116])), (13, .d (.str [120])), (28, .d (.int .i64 0)), (27, .d (.int .i64 2)), (26, .d (.lst [[.str [120]], [.str [114, 101, 115, 116]]])), (11, .ptr 11 0), (10, .ptr 10 0), (5, .ptr 5 0), (6, .ptr 6 0), (7, .ptr 7 0)], [(5, [.d m0, .d m1, .d m2, .d m3, .d m4, .d m5]), (6, [.d (.str [76, 105, 115, 116]), .d (.lst []), .d (.lst []), .d ds]), (7, [.d (.str [67, 111, 110, 115]), .d (.lst [[.str [120]], [.str [114, 101, 115, 116]]]), .d (.lst [tyIC, tyLC])]), (10, [.full [], .full [], .d (.int .i64 0), .d (.str []), .d (.int .i64 0), .full [], .d (.int .i64 0)]), (11, [.own 1 2 [[.str [120], .str [73, 110, 116]]], .full [], .d h0, .d h1, .d h2, .d h3, .d (.int .i64 0)])], [(1, true)]⟩) ?_ ?_
 ·exact Ent_own [(1, 56)] (by simp only [go_sem, List.contains_nil, List.contains_cons, Nat.reduceBEq, Option.isSome_some, tyIC, tyLC, w1, w2])
 simp only [fn_measure_obligation_L1, go_sem, List.length_nil, List.length_cons, Int.natCast_zero, Int.reduceBEq, Int.reduceBNe, Int.cast_ofNat_Int, Nat.reducePow, ge_iff_le, Int.reduceLE, Int.reduceGE, Int.reduceLT, decide_false, decide_true, Nat.reduceBEq, Bool.not_true, Bool.not_false, beq_self_eq_true, bne_self_eq_false, List.mem_singleton, forall_eq, List.mem_cons, List.not_mem_nil, or_false, forall_eq_or_imp]
 refine awp_round (s1 := ⟨[(28, .d (.int .i64 1)), (27, .d (.int .i64 2)), (26, .d (.lst [[.str [120]], [.str [114, 101, 115, 116]]])), (11, .ptr 11 0), (10, .ptr 10 0), (5, .ptr 5 0), (6, .ptr 6 0), (7, .ptr 7 0)], [(5, [.d m0, .d m1, .d m2, .d m3, .d m4, .d m5]), (6, [.d (.str [76, 105, 115, 116]), .d (.lst []), .d (.lst []), .d ds]), (7, [.d (.str [67, 111, 110, 115]), .d (.lst [[.str [120]], [.str [114, 101, 115, 116]]]), .d (.lst [tyIC, tyLC])]), (10, [.full [], .full [], .d (.int .i64 0), .d (.str []), .d (.int .i64 0), .full [], .d (.int .i64 0)]), (11, [.own 1 2 [[.str [120], .str [73, 110, 116]]], .full [], .d h0, .d h1, .d h2, .d h3, .d (.int .i64 0)])], [(1, true)]⟩) ?_ ?_
 ·exact Ent_own [(1, 1)] (by simp only [go_sem, List.contains_nil, List.contains_cons, Nat.reduceBEq, Option.isSome_some, tyIC, tyLC, w1, w2])
 simp only [fn_measure_obligation_L2, go_sem, List.length_nil, List.length_cons, Int.natCast_zero, Int.reduceBEq, Int.reduceBNe, Int.cast_ofNat_Int, Nat.reducePow, ge_iff_le, Int.reduceLE, Int.reduceGE, Int.reduceLT, decide_false, decide_true, Nat.reduceBEq, Bool.not_true, Bool.not_false, beq_self_eq_true, bne_self_eq_false, List.mem_singleton, forall_eq, List.mem_cons, List.not_mem_nil, or_false, forall_eq_or_imp, tyIC, tyLC]
 refine call_by hsl ?_
 simp only [go_sem, List.length_nil, List.length_cons, Int.natCast_zero, Int.reduceBEq, Int.reduceBNe, Int.cast_ofNat_Int, Nat.reducePow, ge_iff_le, Int.reduceLE, Int.reduceGE, Int.reduceLT, decide_false, decide_true, Nat.reduceBEq, Bool.not_true, Bool.not_false, beq_self_eq_true, bne_self_eq_false, List.mem_singleton, forall_eq, List.mem_cons, List.not_mem_nil, or_false, forall_eq_or_imp]
 refine call_by hz ?_
 simp only [go_sem, List.length_nil, List.length_cons, Int.natCast_zero, Int.reduceBEq, Int.reduceBNe, Int.cast_ofNat_Int, Nat.reducePow, ge_iff_le, Int.reduceLE, Int.reduceGE, Int.reduceLT, decide_false, decide_true, Nat.reduceBEq, Bool.not_true, Bool.not_false, beq_self_eq_true, bne_self_eq_false, List.mem_singleton, forall_eq, List.mem_cons, List.not_mem_nil, or_false, forall_eq_or_imp]
 refine awp_round (s1 := ⟨[(62, .d (.int .i64 0)), (61, .d (.int .i64 0)), (15, .d (.str [76, 105, 115, 116])), (13, .d (.str [114, 101, 115, 116])), (28, .d (.int .i64 1)), (27, .d (.int .i64 2)), (26, .d (.lst [[.str [120]], [.str [114, 101, 115, 116]]])), (11, .ptr 11 0), (10, .ptr 10 0), (5, .ptr 5 0), (6, .ptr 6 0), (7, .ptr 7 0)], [(5, [.d m0, .d m1, .d m2, .d m3, .d m4, .d m5]), (6, [.d (.str [76, 105, 115, 116]), .d (.lst []), .d (.lst []), .d ds]), (7, [.d (.str [67, 111, 110, 115]), .d (.lst [[.str [120]], [.str [114, 101, 115, 116]]]), .d (.lst [tyIC, tyLC])]), (10, [.full [], .full [], .d (.int .i64 0), .d (.str []), .d (.int .i64 0), .full [], .d (.int .i64 0)]), (11, [.own 1 2 [[.str [120], .str [73, 110, 116]], [.str [114, 101, 115, 116], .str [76, 105, 115, 116]]], .full [], .d h0, .d h1, .d h2, .d h3, .d (.int .i64 0)])], [(1, true)]⟩) ?_ ?_
 ·exact Ent_own [(1, 56)] (by simp only [go_sem, List.contains_nil, List.contains_cons, Nat.reduceBEq, Option.isSome_some, tyIC, tyLC, w1, w2])
 simp only [fn_measure_obligation_L1, go_sem, List.length_nil, List.length_cons, Int.natCast_zero, Int.reduceBEq, Int.reduceBNe, Int.cast_ofNat_Int, Nat.reducePow, ge_iff_le, Int.reduceLE, Int.reduceGE, Int.reduceLT, decide_false, decide_true, Nat.reduceBEq, Bool.not_true, Bool.not_false, beq_self_eq_true, bne_self_eq_false, List.mem_singleton, forall_eq, List.mem_cons, List.not_mem_nil, or_false, forall_eq_or_imp]
 refine call_by hv ?_
 simp only [go_sem, List.length_nil, List.length_cons, Int.natCast_zero, Int.reduceBEq, Int.reduceBNe, Int.cast_ofNat_Int, Nat.reducePow, ge_iff_le, Int.reduceLE, Int.reduceGE, Int.reduceLT, decide_false, decide_true, Nat.reduceBEq, Bool.not_true, Bool.not_false, beq_self_eq_true, bne_self_eq_false, List.mem_singleton, forall_eq, List.mem_cons, List.not_mem_nil, or_false, forall_eq_or_imp]
 refine call_by hi ?_
 simp only [go_sem, List.length_nil, List.length_cons, Int.natCast_zero, Int.reduceBEq, Int.reduceBNe, Int.cast_ofNat_Int, Nat.reducePow, ge_iff_le, Int.reduceLE, Int.reduceGE, Int.reduceLT, decide_false, decide_true, Nat.reduceBEq, Bool.not_true, Bool.not_false, beq_self_eq_true, bne_self_eq_false, List.mem_singleton, forall_eq, List.mem_cons, List.not_mem_nil, or_false, forall_eq_or_imp, hic]
 refine call_by hh ?_
 simp only [go_sem, List.length_nil, List.length_cons, Int.natCast_zero, Int.reduceBEq, Int.reduceBNe, Int.cast_ofNat_Int, Nat.reducePow, ge_iff_le, Int.reduceLE, Int.reduceGE, Int.reduceLT, decide_false, decide_true, Nat.reduceBEq, Bool.not_true, Bool.not_false, beq_self_eq_true, bne_self_eq_false, List.mem_singleton, forall_eq, List.mem_cons, List.not_mem_nil, or_false, forall_eq_or_imp, List.length_map, cells_map_len, hhl]
 refine awp_round (s1 := ⟨[(28, .d (.int .i64 2)), (27, .d (.int .i64 2)), (26, .d (.lst [[.str [120]], [.str [114, 101, 115, 116]]])), (11, .ptr 11 0), (10, .ptr 10 0), (5, .ptr 5 0), (6, .ptr 6 0), (7, .ptr 7 0)], [(5, [.d m0, .d m1, .d m2, .d m3, .d m4, .d m5]), (6, [.d (.str [76, 105, 115, 116]), .d (.lst []), .d (.lst []), .d ds]), (7, [.d (.str [67, 111, 110, 115]), .d (.lst [[.str [120]], [.str [114, 101, 115, 116]]]), .d (.lst [tyIC, tyLC])]), (10, [.full [], .full [], .d (.int .i64 0), .d (.str []), .d (.int .i64 0), .full [], .d (.int .i64 0)]), (11, [.own 1 2 [[.str [120], .str [73, 110, 116]], [.str [114, 101, 115, 116], .str [76, 105, 115, 116]]], .own 2 4 (HL.map Pred.cells), .d h0, .d h1, .d h2, .d h3, .d (.int .i64 0)])], [(1, true), (2, true)]⟩) ?_ ?_
 ·exact Ent_own [(1, 1), (2, 99)] (by simp only [go_sem, List.contains_nil, List.contains_cons, Nat.reduceBEq, Option.isSome_some, tyIC, tyLC, w1, w2])
 simp only [fn_measure_obligation_L2, go_sem, List.length_nil, List.length_cons, Int.natCast_zero, Int.reduceBEq, Int.reduceBNe, Int.cast_ofNat_Int, Nat.reducePow, ge_iff_le, Int.reduceLE, Int.reduceGE, Int.reduceLT, decide_false, decide_true, Nat.reduceBEq, Bool.not_true, Bool.not_false, beq_self_eq_true, bne_self_eq_false, List.mem_singleton, forall_eq, List.mem_cons, List.not_mem_nil, or_false, forall_eq_or_imp, hh0, hh1, hh2]
end Go.Abs
end
section
namespace Go.Abs
def hornC : List D := [.lst [[.str [108, 101, 110], .lst [[.str [76, 105, 115, 116]]], .str [73, 110, 116]]], .lst [], .lst [oblN, [.lst [[.str [120], .str [73, 110, 116]], [.str [114, 101, 115, 116], .str [76, 105, 115, 116]]], .lst (hypsL.map Pred.cells), .int .i64 13, .str [], .int .i64 0, .lst [(pn 0).cells, lenB.cells], .int .i64 1]]]
theorem data_lists : dataS [76, 105, 115, 116] listsM.datas = (listD, true) := by rfl
theorem cas_nil : findCas lenM.cases [78, 105, 108] = (casNil, true) := by rfl
theorem cas_cons : findCas lenM.cases [67, 111, 110, 115] = (casCons, true) := by rfl
theorem lenI_nz : lenI.same zeroP = false := by kernel_rfl
variable {E : AEnv} (Z : Sys E)
include Z
set_option maxHeartbeats 4000000 in
theorem measure_Obligations_lists (hE : ∀ (m : Mod), MBig m → ∀ (value : Pred) (s : Str), Tame value → E.C measure_Invariants [.agg m.cells, .agg value.cells, .one (.str s)] (.agg (invS m value s).cells)) : E.C measure_Obligations [.agg listsM.cells] (.agg hornC) := by
 have h1 := oblN_ev Z
 have h2 := oblC_ev Z hE
 have hd := syntax_Data_ev Z listsM [76, 105, 115, 116]
 rw [data_lists] at hd
 have hc1 := measure_caseOf_ev Z lenM [78, 105, 108]
 rw [cas_nil] at hc1
 have hc2 := measure_caseOf_ev Z lenM [67, 111, 110, 115]
 rw [cas_cons] at hc2
 have hz := pred_Same_ev Z lenI zeroP
 rw [lenI_nz, lenI_cells, zeroP_cells4] at hz
 have w1 : IntKind.i64.wrap (0 + 1) = 1 := by kernel_rfl
 have w2 : IntKind.i64.wrap (1 + 1) = 2 := by kernel_rfl
 refine Z.measure_Obligations _ _ ⟨Nat.le_of_ble_eq_true rfl, ?_⟩
 unfold hornC
 unfold oblN at h1 ⊢
 unfold oblC4 at h2
 simp only [listsM_cells, lenM_cells, listD_cells, conNil_cells, conCons_cells] at h1 h2 hd hc1 hc2 ⊢
 generalize hy : D.lst (hypsL.map Pred.cells) = hyp at *
 generalize hlc : D.lst [casNil.cells, casCons.cells] = lc at *
 generalize hb2 : D.lst [(pn 0).cells, (pv [118]).cells] = b2 at *
 generalize hk1 : D.lst [[D.str [120]], [D.str [114, 101, 115, 116]]] = k1 at *
 generalize hk2 : D.lst [tyIC, tyLC] = k2 at *
 generalize hq1 : D.lst [(pn 0).cells, (pn 0).cells] = q1 at *
 generalize hq2 : D.lst [(pn 0).cells, lenB.cells] = q2 at *
 obtain ⟨a0, a1, a2, a3, a4, a5, ha⟩ := cells6 (l := casNil.cells) (Cas.cells_length _)
 obtain ⟨b0, b1, b3, b4, b5, b6, hb⟩ := cells6 (l := casCons.cells) (Cas.cells_length _)
 rw [ha] at h1 hc1
 rw [hb] at h2 hc2
 clear ha hb hy hlc hb2 hk1 hk2 hq1 hq2
 simp only [fn_measure_Obligations, go_sem, List.length_nil, List.length_cons, Int.natCast_zero, Int.reduceBEq, Int.reduceBNe, Int.cast_ofNat_Int, Nat.reducePow, ge_iff_le, Int.reduceLE, Int.reduceGE, Int.reduceLT, decide_false, decide_true, Nat.reduceBEq, Bool.not_true, Bool.not_false, beq_self_eq_true, bne_self_eq_false, List.mem_singleton, forall_eq, List.mem_cons, List.not_mem_nil, or_false, forall_eq_or_imp, w1, w2]
 refine awp_round (s1 := ⟨[(18, .d (.int .i64 0)), (17, .d (.int .i64 1)), (16, .d (.lst [[.str [108, 101, 110], .str [76, 105, 115, 116], .str [73, 110, 116], lc, .int .i64 13, .str [], .int .i64 0, b2]])), (1, .ptr 1 0), (2, .ptr 2 0), (3, .ptr 3 0)], [(1, [.d (.lst [[.str [76, 105, 115, 116], .lst [], .lst [], .lst [[.str [78, 105, 108], .lst [], .lst []], [.str [67, 111, 110, 115], k1, k2]]]]), .d (.lst []), .d (.lst []), .d (.lst [[.str [108, 101, 110], .str [76, 105, 115, 116], .str [73, 110, 116], lc, .int .i64 13, .str [], .int .i64 0, b2]]), .d (.lst []), .d (.lst [])]), (2, [.full [], .full [], .full []]), (3, [.full [], .full [], .full []])], []⟩) ?_ ?_
 ·exact Ent_plain (by simp only [go_sem, Option.isSome_some])
 simp only [fn_measure_Obligations_L3, go_sem, List.length_nil, List.length_cons, Int.natCast_zero, Int.reduceBEq, Int.reduceBNe, Int.cast_ofNat_Int, Nat.reducePow, ge_iff_le, Int.reduceLE, Int.reduceGE, Int.reduceLT, decide_false, decide_true, Nat.reduceBEq, Bool.not_true, Bool.not_false, beq_self_eq_true, bne_self_eq_false, List.mem_singleton, forall_eq, List.mem_cons, List.not_mem_nil, or_false, forall_eq_or_imp, w1, w2]
 refine awp_round (s1 := ⟨[(18, .d (.int .i64 1)), (17, .d (.int .i64 1)), (16, .d (.lst [[.str [108, 101, 110], .str [76, 105, 115, 116], .str [73, 110, 116], lc, .int .i64 13, .str [], .int .i64 0, b2]])), (1, .ptr 1 0), (2, .ptr 2 0), (3, .ptr 3 0)], [(1, [.d (.lst [[.str [76, 105, 115, 116], .lst [], .lst [], .lst [[.str [78, 105, 108], .lst [], .lst []], [.str [67, 111, 110, 115], k1, k2]]]]), .d (.lst []), .d (.lst []), .d (.lst [[.str [108, 101, 110], .str [76, 105, 115, 116], .str [73, 110, 116], lc, .int .i64 13, .str [], .int .i64 0, b2]]), .d (.lst []), .d (.lst [])]), (2, [.full [], .full [], .full []]), (3, [.own 1 3 [[.str [108, 101, 110], .lst [[.str [76, 105, 115, 116]]], .str [73, 110, 116]]], .full [], .full []])], [(1, true)]⟩) ?_ ?_
 ·exact Ent_own [(1, 33)] (by simp only [go_sem, List.contains_nil, List.contains_cons, Nat.reduceBEq, Option.isSome_some, w1, w2])
 simp only [fn_measure_Obligations_L3, go_sem, List.length_nil, List.length_cons, Int.natCast_zero, Int.reduceBEq, Int.reduceBNe, Int.cast_ofNat_Int, Nat.reducePow, ge_iff_le, Int.reduceLE, Int.reduceGE, Int.reduceLT, decide_false, decide_true, Nat.reduceBEq, Bool.not_true, Bool.not_false, beq_self_eq_true, bne_self_eq_false, List.mem_singleton, forall_eq, List.mem_cons, List.not_mem_nil, or_false, forall_eq_or_imp, w1, w2]
 refine awp_round (s1 := ⟨[(39, .d (.int .i64 0)), (38, .d (.int .i64 1)), (37, .d (.lst [[.str [108, 101, 110], .str [76, 105, 115, 116], .str [73, 110, 116], lc, .int .i64 13, .str [], .int .i64 0, b2]])), (1, .ptr 1 0), (2, .ptr 2 0), (3, .ptr 3 0)], [(1, [.d (.lst [[.str [76, 105, 115, 116], .lst [], .lst [], .lst [[.str [78, 105, 108], .lst [], .lst []], [.str [67, 111, 110, 115], k1, k2]]]]), .d (.lst []), .d (.lst []), .d (.lst [[.str [108, 101, 110], .str [76, 105, 115, 116], .str [73, 110, 116], lc, .int .i64 13, .str [], .int .i64 0, b2]]), .d (.lst []), .d (.lst [])]), (2, [.full [], .full [], .full []]), (3, [.own 1 3 [[.str [108, 101, 110], .lst [[.str [76, 105, 115, 116]]], .str [73, 110, 116]]], .full [], .full []])], [(1, true)]⟩) ?_ ?_
 ·exact Ent_own [(1, 1)] (by simp only [go_sem, List.contains_nil, List.contains_cons, Nat.reduceBEq, Option.isSome_some, w1, w2])
 simp only [fn_measure_Obligations_L2, go_sem, List.length_nil, List.length_cons, Int.natCast_zero, Int.reduceBEq, Int.reduceBNe, Int.cast_ofNat_Int, Nat.reducePow, ge_iff_le, Int.reduceLE, Int.reduceGE, Int.reduceLT, decide_false, decide_true, Nat.reduceBEq, Bool.not_true, Bool.not_false, beq_self_eq_true, bne_self_eq_false, List.mem_singleton, forall_eq, List.mem_cons, List.not_mem_nil, or_false, forall_eq_or_imp, w1, w2]
 refine call_by hd ?_
 simp only [go_sem, List.length_nil, List.length_cons, Int.natCast_zero, Int.reduceBEq, Int.reduceBNe, Int.cast_ofNat_Int, Nat.reducePow, ge_iff_le, Int.reduceLE, Int.reduceGE, Int.reduceLT, decide_false, decide_true, Nat.reduceBEq, Bool.not_true, Bool.not_false, beq_self_eq_true, bne_self_eq_false, List.mem_singleton, forall_eq, List.mem_cons, List.not_mem_nil, or_false, forall_eq_or_imp, w1, w2]
 refine call_by hz ?_
 simp only [go_sem, List.length_nil, List.length_cons, Int.natCast_zero, Int.reduceBEq, Int.reduceBNe, Int.cast_ofNat_Int, Nat.reducePow, ge_iff_le, Int.reduceLE, Int.reduceGE, Int.reduceLT, decide_false, decide_true, Nat.reduceBEq, Bool.not_true, Bool.not_false, beq_self_eq_true, bne_self_eq_false, List.mem_singleton, forall_eq, List.mem_cons, List.not_mem_nil, or_false, forall_eq_or_imp, w1, w2]
 refine awp_round (s1 := ⟨[(61, .d (.int .i64 0)), (60, .d (.int .i64 2)), (59, .d (.lst [[.str [78, 105, 108], .lst [], .lst []], [.str [67, 111, 110, 115], k1, k2]])), (7, .ptr 7 0), (8, .ptr 8 0), (39, .d (.int .i64 0)), (38, .d (.int .i64 1)), (37, .d (.lst [[.str [108, 101, 110], .str [76, 105, 115, 116], .str [73, 110, 116], lc, .int .i64 13, .str [], .int .i64 0, b2]])), (1, .ptr 1 0), (2, .ptr 2 0), (3, .ptr 3 0)], [(1, [.d (.lst [[.str [76, 105, 115, 116], .lst [], .lst [], .lst [[.str [78, 105, 108], .lst [], .lst []], [.str [67, 111, 110, 115], k1, k2]]]]), .d (.lst []), .d (.lst []), .d (.lst [[.str [108, 101, 110], .str [76, 105, 115, 116], .str [73, 110, 116], lc, .int .i64 13, .str [], .int .i64 0, b2]]), .d (.lst []), .d (.lst [])]), (2, [.full [], .full [], .full []]), (3, [.own 1 3 [[.str [108, 101, 110], .lst [[.str [76, 105, 115, 116]]], .str [73, 110, 116]]], .full [], .full []]), (7, [.d (.str [108, 101, 110]), .d (.str [76, 105, 115, 116]), .d (.str [73, 110, 116]), .d lc, .d (.int .i64 13), .d (.str []), .d (.int .i64 0), .d b2]), (8, [.d (.str [76, 105, 115, 116]), .d (.lst []), .d (.lst []), .d (.lst [[.str [78, 105, 108], .lst [], .lst []], [.str [67, 111, 110, 115], k1, k2]])])], [(1, true)]⟩) ?_ ?_
 ·exact Ent_own [(1, 1)] (by simp only [go_sem, List.contains_nil, List.contains_cons, Nat.reduceBEq, Option.isSome_some, w1, w2])
 simp only [fn_measure_Obligations_L1, go_sem, List.length_nil, List.length_cons, Int.natCast_zero, Int.reduceBEq, Int.reduceBNe, Int.cast_ofNat_Int, Nat.reducePow, ge_iff_le, Int.reduceLE, Int.reduceGE, Int.reduceLT, decide_false, decide_true, Nat.reduceBEq, Bool.not_true, Bool.not_false, beq_self_eq_true, bne_self_eq_false, List.mem_singleton, forall_eq, List.mem_cons, List.not_mem_nil, or_false, forall_eq_or_imp, w1, w2]
 refine call_by hc1 ?_
 simp only [go_sem, List.length_nil, List.length_cons, Int.natCast_zero, Int.reduceBEq, Int.reduceBNe, Int.cast_ofNat_Int, Nat.reducePow, ge_iff_le, Int.reduceLE, Int.reduceGE, Int.reduceLT, decide_false, decide_true, Nat.reduceBEq, Bool.not_true, Bool.not_false, beq_self_eq_true, bne_self_eq_false, List.mem_singleton, forall_eq, List.mem_cons, List.not_mem_nil, or_false, forall_eq_or_imp, w1, w2]
 refine call_by h1 ?_
 simp only [go_sem, List.length_nil, List.length_cons, Int.natCast_zero, Int.reduceBEq, Int.reduceBNe, Int.cast_ofNat_Int, Nat.reducePow, ge_iff_le, Int.reduceLE, Int.reduceGE, Int.reduceLT, decide_false, decide_true, Nat.reduceBEq, Bool.not_true, Bool.not_false, beq_self_eq_true, bne_self_eq_false, List.mem_singleton, forall_eq, List.mem_cons, List.not_mem_nil, or_false, forall_eq_or_imp, w1, w2]
 refine awp_round (s1 := ⟨[(61, .d (.int .i64 1)), (60, .d (.int .i64 2)), (59, .d (.lst [[.str [78, 105, 108], .lst [], .lst []], [.str [67, 111, 110, 115], k1, k2]])), (7, .ptr 7 0), (8, .ptr 8 0), (39, .d (.int .i64 0)), (38, .d (.int .i64 1)), (37, .d (.lst [[.str [108, 101, 110], .str [76, 105, 115, 116], .str [73, 110, 116], lc, .int .i64 13, .str [], .int .i64 0, b2]])), (1, .ptr 1 0), (2, .ptr 2 0), (3, .ptr 3 0)], [(1, [.d (.lst [[.str [76, 105, 115, 116], .lst [], .lst [], .lst [[.str [78, 105, 108], .lst [], .lst []], [.str [67, 111, 110, 115], k1, k2]]]]), .d (.lst []), .d (.lst []), .d (.lst [[.str [108, 101, 110], .str [76, 105, 115, 116], .str [73, 110, 116], lc, .int .i64 13, .str [], .int .i64 0, b2]]), .d (.lst []), .d (.lst [])]), (2, [.full [], .full [], .full []]), (3, [.own 1 3 [[.str [108, 101, 110], .lst [[.str [76, 105, 115, 116]]], .str [73, 110, 116]]], .full [], .own 2 7 [[.lst [], .lst [], .int .i64 13, .str [], .int .i64 0, q1, .int .i64 0]]]), (7, [.d (.str [108, 101, 110]), .d (.str [76, 105, 115, 116]), .d (.str [73, 110, 116]), .d lc, .d (.int .i64 13), .d (.str []), .d (.int .i64 0), .d b2]), (8, [.d (.str [76, 105, 115, 116]), .d (.lst []), .d (.lst []), .d (.lst [[.str [78, 105, 108], .lst [], .lst []], [.str [67, 111, 110, 115], k1, k2]])])], [(1, true), (2, true)]⟩) ?_ ?_
 ·exact Ent_own [(1, 1), (2, 87)] (by simp only [go_sem, List.contains_nil, List.contains_cons, Nat.reduceBEq, Option.isSome_some, w1, w2])
 simp only [fn_measure_Obligations_L1, go_sem, List.length_nil, List.length_cons, Int.natCast_zero, Int.reduceBEq, Int.reduceBNe, Int.cast_ofNat_Int, Nat.reducePow, ge_iff_le, Int.reduceLE, Int.reduceGE, Int.reduceLT, decide_false, decide_true, Nat.reduceBEq, Bool.not_true, Bool.not_false, beq_self_eq_true, bne_self_eq_false, List.mem_singleton, forall_eq, List.mem_cons, List.not_mem_nil, or_false, forall_eq_or_imp, w1, w2]
 refine call_by hc2 ?_
 simp only [go_sem, List.length_nil, List.length_cons, Int.natCast_zero, Int.reduceBEq, Int.reduceBNe, Int.cast_ofNat_Int, Nat.reducePow, ge_iff_le, Int.reduceLE, Int.reduceGE, Int.reduceLT, decide_false, decide_true, Nat.reduceBEq, Bool.not_true, Bool.not_false, beq_self_eq_true, bne_self_eq_false, List.mem_singleton, forall_eq, List.mem_cons, List.not_mem_nil, or_false, forall_eq_or_imp, w1, w2]
 refine call_by h2 ?_
 simp only [go_sem, List.length_nil, List.length_cons, Int.natCast_zero, Int.reduceBEq, Int.reduceBNe, Int.cast_ofNat_Int, Nat.reducePow, ge_iff_le, Int.reduceLE, Int.reduceGE, Int.reduceLT, decide_false, decide_true, Nat.reduceBEq, Bool.not_true, Bool.not_false, beq_self_eq_true, bne_self_eq_false, List.mem_singleton, forall_eq, List.mem_cons, List.not_mem_nil, or_false, forall_eq_or_imp, w1, w2]
 refine awp_round (s1 := ⟨[(61, .d (.int .i64 2)), (60, .d (.int .i64 2)), (59, .d (.lst [[.str [78, 105, 108], .lst [], .lst []], [.str [67, 111, 110, 115], k1, k2]])), (7, .ptr 7 0), (8, .ptr 8 0), (39, .d (.int .i64 0)), (38, .d (.int .i64 1)), (37, .d (.lst [[.str [108, 101, 110], .str [76, 105, 115, 116], .str [73, 110, 116], lc, .int .i64 13, .str [], .int .i64 0, b2]])), (1, .ptr 1 0), (2, .ptr 2 0), (3, .ptr 3 0)], [(1, [.d (.lst [[.str [76, 105, 115, 116], .lst [], .lst [], .lst [[.str [78, 105, 108], .lst [], .lst []], [.str [67, 111, 110, 115], k1, k2]]]]), .d (.lst []), .d (.lst []), .d (.lst [[.str [108, 101, 110], .str [76, 105, 115, 116], .str [73, 110, 116], lc, .int .i64 13, .str [], .int .i64 0, b2]]), .d (.lst []), .d (.lst [])]), (2, [.full [], .full [], .full []]), (3, [.own 1 3 [[.str [108, 101, 110], .lst [[.str [76, 105, 115, 116]]], .str [73, 110, 116]]], .full [], .own 2 7 [[.lst [], .lst [], .int .i64 13, .str [], .int .i64 0, q1, .int .i64 0], [.lst [[.str [120], .str [73, 110, 116]], [.str [114, 101, 115, 116], .str [76, 105, 115, 116]]], hyp, .int .i64 13, .str [], .int .i64 0, q2, .int .i64 1]]]), (7, [.d (.str [108, 101, 110]), .d (.str [76, 105, 115, 116]), .d (.str [73, 110, 116]), .d lc, .d (.int .i64 13), .d (.str []), .d (.int .i64 0), .d b2]), (8, [.d (.str [76, 105, 115, 116]), .d (.lst []), .d (.lst []), .d (.lst [[.str [78, 105, 108], .lst [], .lst []], [.str [67, 111, 110, 115], k1, k2]])])], [(1, true), (2, true)]⟩) ?_ ?_
 ·exact Ent_own [(1, 1), (2, 87)] (by simp only [go_sem, List.contains_nil, List.contains_cons, Nat.reduceBEq, Option.isSome_some, w1, w2])
 simp only [fn_measure_Obligations_L1, go_sem, List.length_nil, List.length_cons, Int.natCast_zero, Int.reduceBEq, Int.reduceBNe, Int.cast_ofNat_Int, Nat.reducePow, ge_iff_le, Int.reduceLE, Int.reduceGE, Int.reduceLT, decide_false, decide_true, Nat.reduceBEq, Bool.not_true, Bool.not_false, beq_self_eq_true, bne_self_eq_false, List.mem_singleton, forall_eq, List.mem_cons, List.not_mem_nil, or_false, forall_eq_or_imp, w1, w2]
 refine awp_round (s1 := ⟨[(39, .d (.int .i64 1)), (38, .d (.int .i64 1)), (37, .d (.lst [[.str [108, 101, 110], .str [76, 105, 115, 116], .str [73, 110, 116], lc, .int .i64 13, .str [], .int .i64 0, b2]])), (1, .ptr 1 0), (2, .ptr 2 0), (3, .ptr 3 0)], [(1, [.d (.lst [[.str [76, 105, 115, 116], .lst [], .lst [], .lst [[.str [78, 105, 108], .lst [], .lst []], [.str [67, 111, 110, 115], k1, k2]]]]), .d (.lst []), .d (.lst []), .d (.lst [[.str [108, 101, 110], .str [76, 105, 115, 116], .str [73, 110, 116], lc, .int .i64 13, .str [], .int .i64 0, b2]]), .d (.lst []), .d (.lst [])]), (2, [.full [], .full [], .full []]), (3, [.own 1 3 [[.str [108, 101, 110], .lst [[.str [76, 105, 115, 116]]], .str [73, 110, 116]]], .full [], .own 2 7 [[.lst [], .lst [], .int .i64 13, .str [], .int .i64 0, q1, .int .i64 0], [.lst [[.str [120], .str [73, 110, 116]], [.str [114, 101, 115, 116], .str [76, 105, 115, 116]]], hyp, .int .i64 13, .str [], .int .i64 0, q2, .int .i64 1]]])], [(1, true), (2, true)]⟩) ?_ ?_
 ·exact Ent_own [(1, 1), (2, 2)] (by simp only [go_sem, List.contains_nil, List.contains_cons, Nat.reduceBEq, Option.isSome_some, w1, w2])
 simp only [fn_measure_Obligations_L2, go_sem, List.length_nil, List.length_cons, Int.natCast_zero, Int.reduceBEq, Int.reduceBNe, Int.cast_ofNat_Int, Nat.reducePow, ge_iff_le, Int.reduceLE, Int.reduceGE, Int.reduceLT, decide_false, decide_true, Nat.reduceBEq, Bool.not_true, Bool.not_false, beq_self_eq_true, bne_self_eq_false, List.mem_singleton, forall_eq, List.mem_cons, List.not_mem_nil, or_false, forall_eq_or_imp, w1, w2]
end Go.Abs
end
section
namespace Go.Abs
theorem inv_len (l : List Meas) (value : Pred) : (l.filterMap (inv1 value)).length ≤ l.length := List.length_filterMap_le _ _
variable {E : AEnv} (Z : Sys E)
include Z
set_option maxHeartbeats 4000000 in
theorem measure_Invariants_ev (m : Mod) (hm : MBig m) (value : Pred) (s : Str) (hv : Tame value) : E.C measure_Invariants [.agg m.cells, .agg value.cells, .one (.str s)] (.agg (invS m value s).cells) := by
 have hml := hm.len
 have hdat := syntax_Data_ev Z m s
 have h0 := pred_And_ev Z [] (by simp)
 have htag := measure_app_ev Z sTag value
 have happ := fun s => measure_app_ev Z s value
 have hnum := fun n => measure_number_ev Z n
 have hop := fun o a b => measure_op_ev Z o a b
 have hsame := fun p => pred_Same_ev Z p zeroP
 have hsub : ∀ x ∈ m.meas, E.C pred_Subst [.agg x.inv.cells, .one (.str sV), .agg (papp x.name [value]).cells] (.agg (subAll [sV] [papp x.name [value]] x.inv).cells) := fun x hx => pred_Subst_ev Z sV (papp x.name [value]) x.inv (tame_papp hv) (hm.tinv hx)
 have hand : ∀ dn k, E.C pred_And [.one (.lst ((invL (ofData m dn) value k).map Pred.cells))] (.agg (andP (invL (ofData m dn) value k)).cells) := fun dn k => pred_And_ev Z _ (fun p hp _ => inv_tame hm hv (fun x hx => ofData_mem hx) k p hp)
 refine Z.measure_Invariants _ _ ⟨Nat.le_of_ble_eq_true rfl, ?_⟩
 generalize hR : invS m value s = R
 unfold invS at hR
 simp only [fn_measure_Invariants, Mod.cells, go_sem]
 have hpl : ∀ p : Pred, p.cells.length = 4 := Pred.cells_length
 obtain ⟨v0, v1, v2, v3, hvc⟩ := cells4 (Pred.cells_length value)
 simp only [hvc] at htag happ ⊢
 simp only [go_sem]
 refine call_by hdat ?_
 generalize dataS s m.datas = C at *
 obtain ⟨⟨dn, dv, dp, dc⟩, known⟩ := C
 simp only [go_sem, DataT.cells] at hR ⊢
 cases known with
 | false =>
  simp only [Bool.false_eq_true, if_false] at hR
  simp only [go_sem]
  refine call_by h0 ?_
  simp only [go_sem, hpl, List.length_map, hR]
 | true =>
 simp only [if_true] at hR
 simp only [go_sem]
 intro hml2
 refine loop_list m.meas (fun _ => True) (fun done rest => ⟨[(25, .d (.int .i64 done.length)), (24, .d (.int .i64 m.meas.length)), (23, .d (.lst (m.meas.map Meas.cells))), (9, .own 9 4 (((done.filter fun x => x.data == dn).filterMap (inv1 value)).map Pred.cells)), (7, .ptr 7 0), (4, .ptr 4 0), (6, .ptr 6 0)], [(4, [.d v0, .d v1, .d v2, .d v3]), (7, [.d (.str dn), .d dv, .d dp, .d (.lst (dc.map ConT.cells))]), (6, [.d (.int .i64 0), .d (.str []), .d (.int .i64 0), .full []])], [(9, true)]⟩) ?_ trivial ?_ ?_
 ·refine Ent_conv 9 9 4 [] [(9, 9)] (by simp only [go_sem]) (by simp) (by simp only [go_sem]) ?_
  simp only [Ent0, go_sem, List.contains_nil, Option.isSome_some, List.filter_nil, List.filterMap_nil, List.map_nil]
 ·intro done x r hl _
  have hlt := lt_mid hl
  have hgk := getD_at (f := Meas.cells) (d := []) hl
  have hxm : x ∈ m.meas := mem_at' hl
  have hdl : done.length ≤ m.meas.length := by rw [hl]; simp
  have hel := inv_len (done.filter fun x => x.data == dn) value
  have hfl : (done.filter fun x => x.data == dn).length ≤ done.length := List.length_filter_le _ _
  have hw : IntKind.i64.wrap ((done.length : Int) + 1) = ((done.length + 1 : Nat) : Int) := wrap_succ (by omega)
  have o1 : (((done.filter fun x => x.data == dn).filterMap (inv1 value)).length + 1) * 56 ≤ 2 ^ 46 := by omega
  have o2 : ((done.filter fun x => x.data == dn).filterMap (inv1 value)).length ≤ 9223372036854775806 := by omega
  have hsub := hsub x hxm
  have hsame := hsame x.inv
  have hsn : ((done ++ [x]).filter fun x => x.data == dn).filterMap (inv1 value) = (done.filter fun x => x.data == dn).filterMap (inv1 value) ++ (if x.data == dn then (inv1 value x).toList else []) := by
   rw [filter_snoc]
   split
   ·rw [fm_snoc]
   ·simp
  have hi1 : inv1 value x = if x.inv.same zeroP = true then none else some (subAll [sV] [papp x.name [value]] x.inv) := rfl
  rw [hsn, hi1]
  clear hsn hi1
  generalize (done.filter fun x => x.data == dn).filterMap (inv1 value) = A at *
  obtain ⟨xa, xb, xc, xl, xinv⟩ := x
  simp only at hsub hsame
  have hxc : Meas.cells ⟨xa, xb, xc, xl, xinv⟩ = .str xa :: .str xb :: .str xc :: .lst (xl.map Cas.cells) :: xinv.cells := rfl
  obtain ⟨i0, i1, i2, i3, hic⟩ := cells4 (Pred.cells_length xinv)
  rw [hxc, hic] at hgk
  rw [hic] at hsub hsame
  rw [zeroP_cells4] at hsame
  simp only
  generalize xinv.same zeroP = e at *
  generalize subAll [sV] [papp xa [value]] xinv = sp at *
  simp only [fn_measure_Invariants_L1, go_sem, hgk, hlt, List.length_map, Meas.lens]
  refine call_g hsame ?_
  simp only [go_sem]
  generalize (xb == dn) = b at *
  by_cases hc : (b && !e) = true
  ·have hc2 := hc
   rw [Bool.and_eq_true, Bool.not_eq_true'] at hc2
   obtain ⟨rfl, rfl⟩ := hc2
   simp only [go_sem]
   refine call_by (happ xa) ?_
   simp only [go_sem]
   refine call_by hsub ?_
   simp only [go_sem, hpl, o1, o2, hw, List.length_append, List.length_map, List.mem_singleton, forall_eq, cells_map_len]
   exact Ent_own [(9, 50)] (by simp only [go_sem, List.contains_nil, Option.isSome_some, if_true, Bool.false_eq_true, if_false, Option.toList_some, List.map_append, List.map_cons, List.map_nil])
  ·have hc : (b && !e) = false := by simpa only [Bool.not_eq_true] using hc
   have hnil : (if b = true then (if e = true then none else some sp).toList else []) = [] := by cases b <;> cases e <;> first | rfl | cases hc
   simp only [hc, go_sem, hw, List.length_append, hnil, List.append_nil]
   exact Ent_own [(9, 9)] (by simp only [go_sem, List.contains_nil, Option.isSome_some])
 ·intro _
  have hof : m.meas.filter (fun x => x.data == dn) = ofData m dn := rfl
  have hol := ofData_len m dn
  have hil := inv_len (ofData m dn) value
  have hand := hand dn dc.length
  unfold invL at hand hR
  rw [hof]
  generalize (ofData m dn).filterMap (inv1 value) = A at *
  have o1 : (A.length + 2) * 56 ≤ 2 ^ 46 := by omega
  have o2 : A.length ≤ 9223372036854775805 := by omega
  have htc : (papp sTag [value]).cells.length = 4 := hpl _
  generalize papp sTag [value] = tp at *
  simp only [fn_measure_Invariants_L1, ↓reduceIte, go_sem, List.length_map]
  refine call_by htag ?_
  simp only [go_sem, htc, List.length_map]
  refine call_by (hnum 0) ?_
  simp only [go_sem, htc, List.length_map]
  refine call_by (hop 13 (pn 0) tp) ?_
  simp only [go_sem, htc, List.length_map]
  refine call_by (hnum (IntKind.i64.wrap ((dc.length : Int) - 1))) ?_
  simp only [go_sem, htc, List.length_map]
  refine call_by (hop 13 tp (pn (IntKind.i64.wrap ((dc.length : Int) - 1)))) ?_
  simp only [go_sem, hpl, o1, o2, List.length_map, List.mem_cons, List.not_mem_nil, or_false, forall_eq_or_imp, forall_eq, cells_map_len, List.length_cons, List.length_nil]
  rw [List.map_append, List.map_cons, List.map_cons, List.map_nil] at hand
  refine call_by hand ?_
  simp only [go_sem, hpl, List.length_map, hR]
set_option maxHeartbeats 4000000 in
theorem r34_Invariants_ev (m : Mod) (hm : MBig m) (value : Pred) (s : Str) : E.C r34_Invariants [.agg m.cells, .agg value.cells, .one (.str s)] (.agg (invS m value s).cells) := by
 have hml := hm.len
 have hdat := r20_Data_ev Z m s
 have h0 := r07_And_ev Z []
 have htag := r34_apply_ev Z sTag value
 have happ := fun s => r34_apply_ev Z s value
 have hnum := fun n => r34_number_ev Z n
 have hop := fun o a b => r34_two_ev Z o a b
 have hzero := fun p => r34_zero_ev Z p
 have hsub : ∀ x ∈ m.meas, E.C r07_Subst [.agg x.inv.cells, .one (.str sV), .agg (papp x.name [value]).cells] (.agg (subAll [sV] [papp x.name [value]] x.inv).cells) := fun x hx => r07_Subst_ev Z sV (papp x.name [value]) x.inv (hm.tinv hx)
 have hand : ∀ dn k, E.C r07_And [.one (.lst ((invL (ofData m dn) value k).map Pred.cells))] (.agg (andP (invL (ofData m dn) value k)).cells) := fun dn k => r07_And_ev Z _
 refine Z.r34_Invariants _ _ ⟨Nat.le_of_ble_eq_true rfl, ?_⟩
 generalize hR : invS m value s = R
 unfold invS at hR
 simp only [fn_r34_Invariants, Mod.cells, go_sem]
 have hpl : ∀ p : Pred, p.cells.length = 4 := Pred.cells_length
 obtain ⟨v0, v1, v2, v3, hvc⟩ := cells4 (Pred.cells_length value)
 simp only [hvc] at htag happ ⊢
 simp only [go_sem]
 refine call_by hdat ?_
 generalize dataS s m.datas = C at *
 obtain ⟨⟨dn, dv, dp, dc⟩, known⟩ := C
 simp only [go_sem, DataT.cells] at hR ⊢
 cases known with
 | false =>
  simp only [Bool.false_eq_true, if_false] at hR
  simp only [go_sem]
  refine call_by h0 ?_
  simp only [go_sem, hpl, List.length_map, hR]
 | true =>
 simp only [if_true] at hR
 simp only [go_sem]
 refine call_by (r34_Measures_ev Z m hm dn) ?_
 simp only [go_sem]
 have hom : ∀ x ∈ ofData m dn, x ∈ m.meas := fun x hx => ofData_mem hx
 have hol := ofData_len m dn
 have hand := hand dn dc.length
 unfold invL at hand hR
 generalize ofData m dn = ms at *
 refine loop_list ms (fun _ => True) (fun done rest => ⟨[(11, .d (.int .i64 done.length)), (10, .d (.lst (ms.map Meas.cells))), (9, .own 9 4 ((done.filterMap (inv1 value)).map Pred.cells)), (7, .ptr 7 0), (4, .ptr 4 0), (6, .ptr 6 0)], [(4, [.d v0, .d v1, .d v2, .d v3]), (7, [.d (.str dn), .d dv, .d dp, .d (.lst (dc.map ConT.cells))]), (6, [.d (.int .i64 0), .d (.str []), .d (.int .i64 0), .full []])], [(9, true)]⟩) ?_ trivial ?_ ?_
 ·refine Ent_conv 9 9 4 [] [(9, 9)] (by simp only [go_sem]) (by simp) (by simp only [go_sem]) ?_
  simp only [Ent0, go_sem, List.contains_nil, Option.isSome_some, List.filterMap_nil, List.map_nil]
 ·intro done x r hl _
  have hlt := lt_mid hl
  have hgk := getD_at (f := Meas.cells) (d := []) hl
  have hxm : x ∈ m.meas := hom x (mem_at' hl)
  have hdl : done.length ≤ ms.length := by rw [hl]; simp
  have hel := inv_len done value
  have hw : (ms.length : Int) ≤ 9223372036854775807 → IntKind.i64.wrap ((done.length : Int) + 1) = ((done.length + 1 : Nat) : Int) := fun h => wrap_succ (by omega)
  have o1 : ((done.filterMap (inv1 value)).length + 1) * 56 ≤ 2 ^ 46 := by omega
  have o2 : (done.filterMap (inv1 value)).length ≤ 9223372036854775806 := by omega
  have hsub := hsub x hxm
  have hzero := hzero x.inv
  have hi1 : inv1 value x = if x.inv.same zeroP = true then none else some (subAll [sV] [papp x.name [value]] x.inv) := rfl
  rw [fm_snoc, hi1]
  clear hi1
  generalize done.filterMap (inv1 value) = A at *
  obtain ⟨xa, xb, xc, xl, xinv⟩ := x
  simp only at hsub hzero
  have hxc : Meas.cells ⟨xa, xb, xc, xl, xinv⟩ = .str xa :: .str xb :: .str xc :: .lst (xl.map Cas.cells) :: xinv.cells := rfl
  obtain ⟨i0, i1, i2, i3, hic⟩ := cells4 (Pred.cells_length xinv)
  rw [hxc, hic] at hgk
  rw [hic] at hsub hzero
  simp only
  generalize xinv.same zeroP = e at *
  generalize subAll [sV] [papp xa [value]] xinv = sp at *
  simp only [fn_r34_Invariants_L1, go_sem, hgk, hlt, List.length_map, Meas.lens]
  intro hml3
  refine call_by hzero ?_
  simp only [go_sem]
  cases e with
  | false =>
   simp only [go_sem, hgk, hlt, List.length_map, Meas.lens]
   refine call_by (happ xa) ?_
   simp only [go_sem]
   refine call_by hsub ?_
   simp only [go_sem, hpl, o1, o2, hw hml3, List.length_append, List.length_map, List.mem_singleton, forall_eq, cells_map_len]
   exact Ent_own [(9, 53)] (by simp only [go_sem, List.contains_nil, Option.isSome_some, Bool.false_eq_true, if_false, Option.toList_some, List.map_append, List.map_cons, List.map_nil])
  | true =>
   simp only [go_sem, hw hml3, List.length_append, if_true, Option.toList_none, List.append_nil]
   exact Ent_own [(9, 9)] (by simp only [go_sem, List.contains_nil, Option.isSome_some])
 ·intro _
  have hil := inv_len ms value
  generalize ms.filterMap (inv1 value) = A at *
  have o1 : (A.length + 2) * 56 ≤ 2 ^ 46 := by omega
  have o2 : A.length ≤ 9223372036854775805 := by omega
  have htc : (papp sTag [value]).cells.length = 4 := hpl _
  generalize papp sTag [value] = tp at *
  simp only [fn_r34_Invariants_L1, ↓reduceIte, go_sem, List.length_map]
  intro _
  refine call_by (hnum 0) ?_
  simp only [go_sem, htc, List.length_map]
  refine call_by htag ?_
  simp only [go_sem, htc, List.length_map]
  refine call_by (hop 13 (pn 0) tp) ?_
  simp only [go_sem, htc, List.length_map]
  refine call_by htag ?_
  simp only [go_sem, htc, List.length_map]
  refine call_by (hnum (IntKind.i64.wrap ((dc.length : Int) - 1))) ?_
  simp only [go_sem, htc, List.length_map]
  refine call_by (hop 13 tp (pn (IntKind.i64.wrap ((dc.length : Int) - 1)))) ?_
  simp only [go_sem, hpl, o1, o2, List.length_map, List.mem_cons, List.not_mem_nil, or_false, forall_eq_or_imp, forall_eq, cells_map_len, List.length_cons, List.length_nil]
  rw [List.map_append, List.map_cons, List.map_cons, List.map_nil] at hand
  refine call_by hand ?_
  simp only [go_sem, hpl, List.length_map, hR]
end Go.Abs
end
section
namespace Go.Abs
def appsI : Pred → Int
 | .mk o _ _ ks => go ks (if o == 4 then 1 else 0)
where
 go : List Pred → Int → Int
 | [], a => a
 | k :: ks, a => go ks (IntKind.i64.wrap (a + appsI k))
theorem appsI_go : ∀ (ks : List Pred) (a : Int), appsI.go ks a = ks.foldl (fun a k => IntKind.i64.wrap (a + appsI k)) a
 | [], _ => by rw [appsI.go]; rfl
 | k :: ks, a => by rw [appsI.go, appsI_go ks]; rfl
theorem appsI_mk (o : Int) (s : Str) (n : Int) (ks : List Pred) : appsI (.mk o s n ks) = ks.foldl (fun a k => IntKind.i64.wrap (a + appsI k)) (if o == 4 then 1 else 0) := by rw [appsI, appsI_go]
def lightC (c : Cas) : Bool := !(decide (c.body.nodes > 40) || decide (appsI c.body > 3))
def lightX (x : Meas) : Bool := !(decide ((x.cases.length : Int) > 8) || decide (x.inv.nodes > 40)) && x.cases.all lightC
def light34 (m : Mod) : Bool := !(decide ((m.datas.length : Int) > 8) || decide ((m.meas.length : Int) > 8)) && (m.datas.all (fun d => !decide ((d.cons.length : Int) > 8)) && m.meas.all lightX)
def maxI4 (a b : Int) : Int := if b > a then b else a
mutual
def szA : Va → Int × Int
 | .mk _ _ _ ks _ _ _ => ((szAs ks (1, 0)).1, IntKind.i64.wrap ((szAs ks (1, 0)).2 + 1))
def szAs : List Va → Int × Int → Int × Int
 | [], a => a
 | k :: ks, a => szAs ks (IntKind.i64.wrap (a.1 + (szA k).1), maxI4 a.2 (szA k).2)
end
def szAStep (a : Int × Int) (k : Va) : Int × Int := (IntKind.i64.wrap (a.1 + (szA k).1), maxI4 a.2 (szA k).2)
theorem szAs_eq : ∀ (ks : List Va) (a : Int × Int), szAs ks a = ks.foldl szAStep a
 | [], _ => by rw [szAs]; rfl
 | k :: ks, a => by rw [szAs, szAs_eq ks]; rfl
theorem szA_mk (o n : Int) (s : Str) (ks : List Va) (ps : List Str) (bd : List ExV) (bs : List BndV) : szA (.mk o n s ks ps bd bs) = ((ks.foldl szAStep (1, 0)).1, IntKind.i64.wrap ((ks.foldl szAStep (1, 0)).2 + 1)) := by rw [szA, szAs_eq]
def few34 (v : Va) : Bool := decide ((szA v).1 ≤ 30) && decide ((szA v).2 ≤ 7)
theorem allE_mid {α : Type} {l a r : List α} {x : α} {f : α → Bool} (h : l = a ++ x :: r) (hI : ∀ y ∈ a, f y = true) : l.all f = (f x && r.all f) := by
 rw [h, List.all_append, List.all_eq_true.2 hI, List.all_cons]; rfl
variable {E : AEnv} (Z : Sys E)
include Z
theorem l34_apps_ev (p : Pred) : E.C l34_apps [.agg p.cells] (.one (.int .i64 (appsI p))) := by
 induction p using Pred.ind with
 | h o s n ks ih =>
 refine Z.l34_apps _ _ ⟨Nat.le_of_ble_eq_true rfl, ?_⟩
 generalize hR : appsI (.mk o s n ks) = R
 rw [appsI_mk] at hR
 rw [Pred.cells_eq]
 simp only [fn_l34_apps, Pred.op, Pred.name, Pred.n, Pred.kids]
 refine seq3_named fun N hN => ?_
 have tail : ∀ (st : St) (k0 : Int), getS st.slots 3 = .d (.int .i64 k0) → getS st.slots 1 = .ptr 1 0 → st.mem = [(1, [.d (.int .i64 o), .d (.str s), .d (.int .i64 n), .d (.lst (ks.map Pred.cells))])] → ks.foldl (fun a k => IntKind.i64.wrap (a + appsI k)) k0 = R → N st := by
  intro st k0 h3 h1 hm hk
  obtain ⟨sl, mm, tk⟩ := st
  simp only at h3 h1 hm
  subst hm
  rw [hN]
  simp only [go_sem]
  refine loop_list ks (fun _ => True) (fun done rest => ⟨[(4, .d (.int .i64 done.length)), (3, .d (.int .i64 (done.foldl (fun a k => IntKind.i64.wrap (a + appsI k)) k0))), (1, .ptr 1 0)], [(1, [.d (.int .i64 o), .d (.str s), .d (.int .i64 n), .d (.lst (ks.map Pred.cells))])], []⟩) ?_ trivial ?_ ?_
  ·exact Ent_plain (by simp only [go_sem, Option.isSome_some, List.foldl_nil, h3, h1])
  ·intro done k r hl _
   have hlt := lt_mid hl
   have hgk := getD_midP hl
   have hk' := ih k (mem_at' hl)
   have hw : (ks.length : Int) ≤ 9223372036854775807 → IntKind.i64.wrap ((done.length : Int) + 1) = ((done.length + 1 : Nat) : Int) := fun h => wrap_succ (by omega)
   have hst : (done ++ [k]).foldl (fun a k => IntKind.i64.wrap (a + appsI k)) k0 = IntKind.i64.wrap (done.foldl (fun a k => IntKind.i64.wrap (a + appsI k)) k0 + appsI k) := by rw [List.foldl_append]; rfl
   rw [hst]
   generalize done.foldl (fun a k => IntKind.i64.wrap (a + appsI k)) k0 = A at *
   obtain ⟨i0, i1, i2, i3, hic⟩ := cells4 (Pred.cells_length k)
   rw [hic] at hgk hk'
   simp only [fn_l34_apps_L1, go_sem, hgk, hlt, List.length_map, cells_map_len]
   intro hml
   refine call_by hk' ?_
   simp only [go_sem, hw hml, List.length_append]
   exact Ent_plain (by simp only [go_sem, Option.isSome_some])
  ·intro _
   simp only [fn_l34_apps_L1, ↓reduceIte, go_sem, List.length_map, hk, implies_true]
 clear hN
 simp only [go_sem]
 cases c1 : (o == 4) with
 | true =>
  rw [c1, if_pos rfl] at hR
  simp only [go_sem]
  refine tail _ 1 ?_ ?_ ?_ hR <;> simp only [go_sem]
 | false =>
  rw [c1, if_neg (by simp)] at hR
  simp only [go_sem]
  refine tail _ 0 ?_ ?_ ?_ hR <;> simp only [go_sem]
theorem l34_size_ev (v : Va) : E.C l34_size [.agg v.cells] (.tup [.one (.int .i64 (szA v).1), .one (.int .i64 (szA v).2)]) := by
 induction v using Va.ind with
 | h o n s ks ps bd bs ih _ =>
 refine Z.l34_size _ _ ⟨Nat.le_of_ble_eq_true rfl, ?_⟩
 rw [szA_mk, Va.cells_mk]
 generalize D.lst (ps.map fun k => [D.str k]) = c4 at *
 generalize D.lst (bd.map ExV.cells) = c5 at *
 generalize D.lst (bs.map BndV.cells) = c6 at *
 simp only [fn_l34_size, go_sem, List.length_map]
 refine loop_list ks (fun _ => True) (fun done rest => ⟨[(6, .d (.int .i64 done.length)), (4, .d (.int .i64 (done.foldl szAStep (1, 0)).1)), (5, .d (.int .i64 (done.foldl szAStep (1, 0)).2)), (1, .ptr 1 0)], [(1, [.d (.int .i64 o), .d (.int .i64 n), .d (.str s), .d (.lst (ks.map Va.cells)), .d c4, .d c5, .d c6])], []⟩) ?_ trivial ?_ ?_
 ·exact Ent_plain (by simp only [go_sem, Option.isSome_some, List.foldl_nil])
 ·intro done k r hl _
  have hlt := lt_mid hl
  have hga := getD_at (f := Va.cells) (d := []) hl
  have hk := ih k (mem_at' hl)
  have hw : ∀ h : (ks.length : Int) ≤ 9223372036854775807, IntKind.i64.wrap ((done.length : Int) + 1) = ((done.length + 1 : Nat) : Int) := fun h => wrap_succ (by omega)
  have hst : (done ++ [k]).foldl szAStep (1, 0) = szAStep (done.foldl szAStep (1, 0)) k := by rw [List.foldl_append]; rfl
  obtain ⟨a0, b0, c0, d0, e0, f0, g0, hcx⟩ := cells7 (Va.cells_length k)
  rw [hcx] at hga hk
  simp only [fn_l34_size_L1, go_sem, hga, hlt, List.length_map, Va.lens]
  intro hlen
  refine call_by hk ?_
  simp only [go_sem, hga, hlt, List.length_map, hw hlen, List.length_append]
  exact Ent_plain (by simp only [go_sem, Option.isSome_some, hst, szAStep, maxI4, List.length_append])
 ·intro _
  simp only [fn_l34_size_L1, ↓reduceIte, go_sem, List.length_map, implies_true]
theorem l34_few_ev (v : Va) : E.C l34_few [.agg v.cells] (.one (.bool (few34 v))) := by
 have h := l34_size_ev Z v
 refine Z.l34_few _ _ ⟨Nat.le_of_ble_eq_true rfl, ?_⟩
 obtain ⟨a0, b0, c0, d0, e0, f0, g0, hcx⟩ := cells7 (Va.cells_length v)
 rw [hcx] at h ⊢
 unfold few34
 simp only [fn_l34_few, go_sem]
 refine call_by h ?_
 simp only [go_sem]
set_option maxHeartbeats 4000000 in
theorem l34_light_ev (m : Mod) : E.C l34_light [.agg m.cells] (.one (.bool (light34 m))) := by
 have hn := r07_Nodes_ev Z
 have hap := l34_apps_ev Z
 refine Z.l34_light _ _ ⟨Nat.le_of_ble_eq_true rfl, ?_⟩
 generalize hR : light34 m = R
 unfold light34 at hR
 obtain ⟨ds, cls, ins, ms, qs, dfs⟩ := m
 simp only [Mod.cells] at *
 simp only [fn_l34_light, go_sem, List.length_map]
 intro _ _
 cases c1 : (decide ((ds.length : Int) > 8) || decide ((ms.length : Int) > 8)) with
 | true =>
  rw [c1] at hR
  simp only [Bool.not_true, Bool.false_and] at hR
  subst hR
  simp only [go_sem]
 | false =>
 rw [c1] at hR
 simp only [Bool.not_false, Bool.true_and] at hR
 simp only [go_sem]
 refine loop_named fun K hK => ?_
 refine loop_list ds (fun done => ∀ y ∈ done, (!decide ((y.cons.length : Int) > 8)) = true) (fun done rest => ⟨[(3, .d (.int .i64 done.length)), (1, .ptr 1 0)], [(1, [.d (.lst (ds.map DataT.cells)), .d cls, .d ins, .d (.lst (ms.map Meas.cells)), .d qs, .d dfs])], []⟩) ?_ (by simp) ?_ ?_
 ·exact Ent_plain (by simp only [go_sem, Option.isSome_some])
 ·intro done d r hl hI
  have hlt := lt_mid hl
  have hga := getD_at (f := DataT.cells) (d := []) hl
  have hw : ∀ h : (ds.length : Int) ≤ 9223372036854775807, IntKind.i64.wrap ((done.length : Int) + 1) = ((done.length + 1 : Nat) : Int) := fun h => wrap_succ (by omega)
  rw [allE_mid hl hI] at hR
  simp only [DataT.cells] at hga
  simp only [fn_l34_light_L3, go_sem, hga, hlt, List.length_map, DataT.lens]
  intro hlen _
  cases c2 : decide ((d.cons.length : Int) > 8) with
  | true =>
   rw [c2] at hR
   simp only [Bool.not_true, Bool.false_and] at hR
   subst hR
   simp only [go_sem, hK]
  | false =>
   simp only [go_sem, hw hlen, List.length_append]
   exact ⟨Ent_plain (by simp only [go_sem, Option.isSome_some, List.length_append]), app_all hI (by rw [c2]; rfl)⟩
 intro hI0
 rw [List.all_eq_true.2 hI0, Bool.true_and] at hR
 simp only [fn_l34_light_L3, ↓reduceIte, go_sem, List.length_map, hK]
 intro _
 clear hK hI0
 refine loop_list ms (fun done => ∀ y ∈ done, lightX y = true) (fun done rest => ⟨[(4, .d (.int .i64 done.length)), (1, .ptr 1 0)], [(1, [.d (.lst (ds.map DataT.cells)), .d cls, .d ins, .d (.lst (ms.map Meas.cells)), .d qs, .d dfs])], []⟩) ?_ (by simp) ?_ ?_
 ·exact Ent_plain (by simp only [go_sem, Option.isSome_some])
 ·intro done x r hl hI
  have hlt := lt_mid hl
  have hga := getD_at (f := Meas.cells) (d := []) hl
  rw [allE_mid hl hI] at hR
  have hw : ∀ h : (ms.length : Int) ≤ 9223372036854775807, IntKind.i64.wrap ((done.length : Int) + 1) = ((done.length + 1 : Nat) : Int) := fun h => wrap_succ (by omega)
  have hfx : lightX x = (!(decide ((x.cases.length : Int) > 8) || decide (x.inv.nodes > 40)) && x.cases.all lightC) := rfl
  rw [hfx] at hR
  have hfx : (!(decide ((x.cases.length : Int) > 8) || decide (x.inv.nodes > 40)) && x.cases.all lightC) = true → lightX x = true := fun h => h
  have hni := hn x.inv
  obtain ⟨xn, xd, xr, xc, xi⟩ := x
  have hxc : Meas.cells ⟨xn, xd, xr, xc, xi⟩ = .str xn :: .str xd :: .str xr :: .lst (xc.map Cas.cells) :: xi.cells := rfl
  obtain ⟨i0, i1, i2, i3, hic⟩ := cells4 (Pred.cells_length xi)
  rw [hxc, hic] at hga
  simp only at *
  rw [hic] at hni
  simp only [fn_l34_light_L2, go_sem, hga, hlt, List.length_map, Meas.lens]
  intro hlen _
  refine call_g hni ?_
  simp only [go_sem]
  cases c3 : (decide ((xc.length : Int) > 8) || decide (xi.nodes > 40)) with
  | true =>
   rw [c3] at hR
   simp only [Bool.not_true, Bool.false_and] at hR
   subst hR
   simp only [go_sem]
  | false =>
  rw [c3] at hR hfx
  simp only [Bool.not_false, Bool.true_and] at hR hfx
  simp only [go_sem]
  refine loop_list xc (fun done => ∀ y ∈ done, lightC y = true) (fun done' rest => ⟨[(5, .d (.int .i64 done'.length)), (4, .d (.int .i64 done.length)), (1, .ptr 1 0)], [(1, [.d (.lst (ds.map DataT.cells)), .d cls, .d ins, .d (.lst (ms.map Meas.cells)), .d qs, .d dfs])], []⟩) ?_ (by simp) ?_ ?_
  ·exact Ent_plain (by simp only [go_sem, Option.isSome_some])
  ·intro done' c r' hl' hI'
   have hlt' := lt_mid hl'
   have hga' := getD_at (f := Cas.cells) (d := []) hl'
   rw [allE_mid hl' hI'] at hR
   have hw' : ∀ h : (xc.length : Int) ≤ 9223372036854775807, IntKind.i64.wrap ((done'.length : Int) + 1) = ((done'.length + 1 : Nat) : Int) := fun h => wrap_succ (by omega)
   have hfc : lightC c = !(decide (c.body.nodes > 40) || decide (appsI c.body > 3)) := rfl
   rw [hfc] at hR
   have hn := hn c.body
   have hap := hap c.body
   obtain ⟨cc, cn, cb⟩ := c
   have hcc : Cas.cells ⟨cc, cn, cb⟩ = .str cc :: .lst (cn.map fun k => [.str k]) :: cb.cells := rfl
   obtain ⟨b0, b1, b2, b3, hbc⟩ := cells4 (Pred.cells_length cb)
   rw [hcc, hbc] at hga'
   simp only at *
   rw [hbc] at hn hap
   simp only [fn_l34_light_L1, go_sem, hga, hga', hlt, hlt', List.length_map, Meas.lens, Cas.lens]
   intro hlen'
   refine call_by hn ?_
   simp only [go_sem, hga, hga', hlt, hlt', List.length_map, Meas.lens, Cas.lens]
   refine call_g hap ?_
   simp only [go_sem, List.length_map]
   cases hb : (decide (cb.nodes > 40) || decide (appsI cb > 3)) with
   | true =>
    rw [hb] at hR
    simp only [Bool.not_true, Bool.false_and] at hR
    subst hR
    simp only [go_sem]
   | false =>
    simp only [go_sem, hw' hlen', List.length_append]
    exact ⟨Ent_plain (by simp only [go_sem, Option.isSome_some, List.length_append]), app_all hI' (by show (!(_ || _)) = true; rw [hb]; rfl)⟩
  ·intro hI'
   simp only [fn_l34_light_L1, ↓reduceIte, go_sem, hga, hlt, List.length_map, Meas.lens, hw hlen]
   intro _
   exact ⟨Ent_plain (by simp only [go_sem, Option.isSome_some, List.length_append]), app_all hI (hfx (List.all_eq_true.2 hI'))⟩
 ·intro hI
  rw [List.all_eq_true.2 hI] at hR
  subst hR
  simp only [fn_l34_light_L2, ↓reduceIte, go_sem, List.length_map, implies_true]
end Go.Abs
end
section
namespace Go.Abs
structure Law34 (E : AEnv) : Prop where
 Z : Sys E
 hG : E.G 0 = some (kws.map .str)
 hIt : ∀ p, E.It pred_before_1 [.ref (Pred.cells p)] (yields p.pre)
 hU : UnionOwn E
 hI : ItoaLaw E
def noneV : Va := .mk 3 0 [78, 105, 108] [] [] [] []
def consV (k : Int) (v : Va) : Va := .mk 3 0 [67, 111, 110, 115] [.mk 1 k [] [] [] [] [], v] [] [] []
def cellV : Va := .mk 4 7 [] [] [] [] []
theorem noneV_cells : noneV.cells = [.int .i64 3, .int .i64 0, .str [78, 105, 108], .lst [], .lst [], .lst [], .lst []] := by unfold noneV; rw [Va.cells_mk]; rfl
theorem cellV_cells : cellV.cells = [.int .i64 4, .int .i64 7, .str [], .lst [], .lst [], .lst [], .lst []] := by unfold cellV; rw [Va.cells_mk]; rfl
theorem consV_cells (k : Int) (v : Va) : (consV k v).cells = [.int .i64 3, .int .i64 0, .str [67, 111, 110, 115], .lst [[.int .i64 1, .int .i64 k, .str [], .lst [], .lst [], .lst [], .lst []], v.cells], .lst [], .lst [], .lst []] := by
 unfold consV
 rw [Va.cells_mk, List.map_cons, List.map_cons, Va.cells_mk]
 rfl
theorem parts_cons : (consV 5 noneV).parts [] = [consV 5 noneV, noneV] := by
 have hne : eqB (consV 5 noneV) noneV = false := eqB_ne fun e => by
  have := congrArg Va.name e
  simp [consV, noneV, Va.name] at this
 have h1 : addV (consV 5 noneV) [] = [consV 5 noneV] := by simp [addV, memV, consV, Va.op]
 have h2 : ∀ l, Va.parts (.mk 1 5 [] [] [] [] []) l = l := fun l => by
  rw [Va.parts_mk]
  simp [addV, Va.op]
 have h3 : Va.parts noneV [consV 5 noneV] = [consV 5 noneV, noneV] := by
  have : noneV = .mk 3 0 [78, 105, 108] [] [] [] [] := rfl
  rw [this, Va.parts_mk, ← this]
  simp [addV, memV, hne]
  rfl
 have hc : consV 5 noneV = .mk 3 0 [67, 111, 110, 115] [.mk 1 5 [] [] [] [] [], noneV] [] [] [] := rfl
 rw [hc, Va.parts_mk, ← hc, h1, List.foldl_cons, List.foldl_cons, List.foldl_nil, h2, h3]
def f0 : Fact := ⟨[116, 97, 103], [0], 1⟩
def f1 : Fact := ⟨[108, 101, 110], [0], 1⟩
def f2 : Fact := ⟨[116, 97, 103], [1], 0⟩
def f3 : Fact := ⟨[108, 101, 110], [1], 0⟩
theorem syms_cons : symS listsM (consV 5 noneV) [] = [f0, f1, f2, f3] := by
 unfold symS
 rw [parts_cons]
 kernel_rfl
theorem syms_len : symS listsM (consV 5 noneV) [108, 101, 110] = [f1, f3] := by
 unfold symS
 rw [parts_cons]
 kernel_rfl
theorem val_len : (consV 5 noneV).val.value listsM [108, 101, 110] = (1, true) := by kernel_rfl
theorem val_tag : (consV 5 noneV).val.value listsM [116, 97, 103] = (1, true) := by kernel_rfl
theorem val_val : cellV.val.value listsM [118, 97, 108] = (7, true) := by kernel_rfl
theorem val_sum : noneV.val.value listsM [115, 117, 109] = (0, false) := by kernel_rfl
def want34 : Pred := p2 15 (p2 10 (papp [116, 97, 103] [pv [108]]) (pn 1)) (p2 10 (papp [108, 101, 110] [pv [108]]) (p2 6 (pn 1) (papp [108, 101, 110] [pv [98]])))
theorem eqns_want : eqnsS listsM [67, 111, 110, 115] [pv [97], pv [98]] (pv [108]) = want34 := by kernel_rfl
theorem inv_split : (splitP (invS listsM (pv [108]) [76, 105, 115, 116])).length = 3 := by kernel_rfl
theorem inv_cnt2 : (invS listsM (pv [108]) [76, 105, 115, 116]).cnt ≤ 1048576 := Nat.le_of_ble_eq_true (by kernel_rfl)
theorem cons_cnt : (consV 5 noneV).cnt ≤ 1048576 := Nat.le_of_ble_eq_true (by kernel_rfl)
theorem tame2 {a b : Pred} (ha : Tame a) (hb : Tame b) : ∀ t ∈ [a, b], Tame t := fun t ht => by
 rcases List.mem_cons.1 ht with rfl | ht
 ·exact ha
 ·rw [List.mem_singleton.1 ht]; exact hb
theorem Law34.value {E : AEnv} (L : Law34 E) (x : Val) (s : Str) (m : Mod) (hm : MOk m) : E.C measure_Value [.agg m.cells, .one (.str s), .agg x.cells] (res2 (x.value m s)) := measure_Value_ev L.Z L.hG L.hIt L.hU L.hI m hm x s
theorem l34_cons_ev {E : AEnv} (Z : Sys E) (k : Int) (v : Va) : E.C l34_cons [.one (.int .i64 k), .agg v.cells] (.agg (consV k v).cells) := by
 refine Z.l34_cons _ _ ⟨Nat.le_of_ble_eq_true rfl, ?_⟩
 rw [consV_cells]
 obtain ⟨a0, b0, c0, d0, e0, f0, g0, hcx⟩ := cells7 (Va.cells_length v)
 rw [hcx]
 simp only [fn_l34_cons, go_sem]
set_option maxHeartbeats 8000000 in
theorem l34_awake_ev {E : AEnv} (L : Law34 E) : E.C l34_awake [] (.one (.bool true)) := by
 have Z := L.Z
 have hE := fun m hm value s hv => measure_Invariants_ev Z m hm value s hv
 have hls := l34_lists_ev Z
 have hcs := l34_cons_ev Z 5 noneV
 have v1 := L.value (consV 5 noneV).val [108, 101, 110] listsM lists_big.ok
 have v2 := L.value (consV 5 noneV).val [116, 97, 103] listsM lists_big.ok
 have v3 := L.value cellV.val [118, 97, 108] listsM lists_big.ok
 have v4 := L.value noneV.val [115, 117, 109] listsM lists_big.ok
 rw [val_len] at v1
 rw [val_tag] at v2
 rw [val_val] at v3
 rw [val_sum] at v4
 unfold res2 at v1 v2 v3 v4
 have hs1 := measure_Symbols_ev Z L.value listsM lists_big (consV 5 noneV) cons_cnt []
 have hs2 := measure_Symbols_ev Z L.value listsM lists_big (consV 5 noneV) cons_cnt [108, 101, 110]
 rw [syms_cons] at hs1
 rw [syms_len] at hs2
 have he := measure_Equations_ev Z listsM lists_big [67, 111, 110, 115] [pv [97], pv [98]] (pv [108]) (tame2 (tame_pvX _) (tame_pvX _)) (tame_pvX _)
 rw [eqns_want] at he
 have hw := r07_Same_ev Z want34 want34
 rw [(Pred.same_iff _ _).2 rfl] at hw
 have ho := measure_Obligations_lists Z hE
 have hi := hE listsM lists_big (pv [108]) [76, 105, 115, 116] (tame_pvX _)
 have hsp := r07_Split_ev Z (invS listsM (pv [108]) [76, 105, 115, 116]) (Nat.le_trans inv_cnt2 (by omega))
 have hsl := inv_split
 have hil : (invS listsM (pv [108]) [76, 105, 115, 116]).cells.length = 4 := Pred.cells_length _
 generalize invS listsM (pv [108]) [76, 105, 115, 116] = iv at *
 have va := l34_v_ev Z [97]
 have vb := l34_v_ev Z [98]
 have vl := l34_v_ev Z [108]
 have n1 := l34_n_ev Z 1
 have a1 := l34_app_ev Z [116, 97, 103] (pv [108])
 have a2 := l34_app_ev Z [108, 101, 110] (pv [108])
 have a3 := l34_app_ev Z [108, 101, 110] (pv [98])
 have t1 := l34_two_ev Z 10 (papp [116, 97, 103] [pv [108]]) (pn 1)
 have t2 := l34_two_ev Z 6 (pn 1) (papp [108, 101, 110] [pv [98]])
 have t3 := l34_two_ev Z 10 (papp [108, 101, 110] [pv [108]]) (p2 6 (pn 1) (papp [108, 101, 110] [pv [98]]))
 have t4 := l34_two_ev Z 15 (p2 10 (papp [116, 97, 103] [pv [108]]) (pn 1)) (p2 10 (papp [108, 101, 110] [pv [108]]) (p2 6 (pn 1) (papp [108, 101, 110] [pv [98]])))
 rw [show p2 15 (p2 10 (papp [116, 97, 103] [pv [108]]) (pn 1)) (p2 10 (papp [108, 101, 110] [pv [108]]) (p2 6 (pn 1) (papp [108, 101, 110] [pv [98]]))) = want34 from rfl] at t4
 have hpl : ∀ p : Pred, p.cells.length = 4 := Pred.cells_length
 have hhl := hyps_len
 have hml : listsM.cells.length = 6 := rfl
 obtain ⟨m0, m1, m2, m3, m4, m5, hmc⟩ := cells6 (l := listsM.cells) rfl
 have hcc : (consV 5 noneV).val.cells = (consV 5 noneV).cells := rfl
 have hcn : noneV.val.cells = noneV.cells := rfl
 have hc4 : cellV.val.cells = cellV.cells := rfl
 rw [hcc] at v1 v2
 rw [hcn] at v4
 rw [hc4] at v3
 obtain ⟨x0, x1, x2, x3, x4, x5, x6, hxc⟩ := cells7 (Va.cells_length (consV 5 noneV))
 simp only [hmc, hxc, noneV_cells, cellV_cells] at hls hcs v1 v2 v3 v4 hs1 hs2 he ho hi
 unfold hornC oblN at ho
 simp only [List.map_cons, List.map_nil, f0, f1, f2, f3, Fact.cells, icell] at hs1 hs2 he
 generalize hypsL = HL at *
 generalize splitP iv = SP at *
 clear hmc hxc hcc hcn hc4 hml hE
 refine Z.l34_awake _ _ ⟨Nat.le_of_ble_eq_true rfl, ?_⟩
 simp only [fn_l34_awake, go_sem]
 repeat
  first
   | refine call_by hls ?_
   | refine call_by hcs ?_
   | refine call_by v1 ?_
   | refine call_by v2 ?_
   | refine call_by v3 ?_
   | refine call_by v4 ?_
   | refine call_by hs1 ?_
   | refine call_by hs2 ?_
   | refine call_by he ?_
   | refine call_by va ?_
   | refine call_by vb ?_
   | refine call_by vl ?_
   | refine call_by n1 ?_
   | refine call_by a1 ?_
   | refine call_by a2 ?_
   | refine call_by a3 ?_
   | refine call_by t1 ?_
   | refine call_by t2 ?_
   | refine call_by t3 ?_
   | refine call_by t4 ?_
   | refine call_by ho ?_
   | refine call_by hw ?_
   | refine call_by hi ?_
   | refine call_by hsp ?_
  try simp only [go_sem, hpl, hhl, hsl, hil, List.length_map, beq_self_eq_true, bne_self_eq_false, List.mem_cons, List.not_mem_nil, or_false, forall_eq_or_imp, forall_eq, List.length_cons, List.length_nil, Nat.reduceAdd, Nat.reduceMul, Int.reduceBEq, Int.reduceBNe, Int.cast_ofNat_Int, true_and, and_self, implies_true]
end Go.Abs
end
section
namespace Go.Abs
set_option maxHeartbeats 4000000 in
theorem MeasureWrites_ev {E : AEnv} (L : Law34 E) (m : Mod) (hm : MBig m) (con : Str) (fields : List Pred) (value : Pred) (sort : Str) (hf : ∀ p ∈ fields, Tame p) (hv : Tame value) :
  E.C l34_MeasureWrites [.agg m.cells, .one (.str con), .agg (.lst (fields.map Pred.cells) :: (value.cells ++ [.str sort]))] (.one (.bool true)) := by
 have Z := L.Z
 have hA := l34_awake_ev L
 have hli := l34_light_ev Z m
 have hn := r07_Nodes_ev Z
 have hnv := hn value
 have h1 := measure_Equations_ev Z m hm con fields value hf hv
 have h2 := r34_Equations_ev Z m hm con fields value hf hv
 have h3 := measure_Invariants_ev Z m hm value sort hv
 have h4 := r34_Invariants_ev Z m hm value sort
 have s1 := r07_Same_ev Z (eqnsS m con fields value) (eqnsS m con fields value)
 have s2 := r07_Same_ev Z (invS m value sort) (invS m value sort)
 rw [(Pred.same_iff _ _).2 rfl] at s1 s2
 have hpl : ∀ p : Pred, p.cells.length = 4 := Pred.cells_length
 generalize eqnsS m con fields value = EQ at *
 generalize invS m value sort = IV at *
 generalize light34 m = lt at *
 obtain ⟨m0, m1, m2, m3, m4, m5, hmc⟩ := cells6 (l := m.cells) rfl
 obtain ⟨v0, v1, v2, v3, hvc⟩ := cells4 (Pred.cells_length value)
 rw [hmc] at hli h1 h2 h3 h4 ⊢
 rw [hvc] at hnv h1 h2 h3 h4 ⊢
 clear hmc
 refine Z.l34_MeasureWrites _ _ ⟨Nat.le_of_ble_eq_true rfl, ?_⟩
 simp only [fn_l34_MeasureWrites, go_sem, List.cons_append, List.nil_append, List.length_map]
 refine call_by hli ?_
 simp only [go_sem, List.length_map]
 intro _ _ _
 refine call_g hnv ?_
 simp only [go_sem]
 by_cases hc : (!lt || decide ((con.length : Int) > 200) || decide ((fields.length : Int) > 8) || decide ((sort.length : Int) > 200) || decide (value.nodes > 60)) = true
 ·simp only [hc, go_sem]
  refine call_by hA ?_
  simp only [go_sem]
 ·have hc : (!lt || decide ((con.length : Int) > 200) || decide ((fields.length : Int) > 8) || decide ((sort.length : Int) > 200) || decide (value.nodes > 60)) = false := by simpa only [Bool.not_eq_true] using hc
  simp only [hc, go_sem]
  refine loop_list fields (fun _ => True) (fun done rest => ⟨[(7, .d (.int .i64 done.length)), (5, .ptr 5 0), (3, .ptr 3 0), (1, .d (.str con))], [(5, [.d (.lst (fields.map Pred.cells)), .d v0, .d v1, .d v2, .d v3, .d (.str sort)]), (3, [.d m0, .d m1, .d m2, .d m3, .d m4, .d m5])], []⟩) ?_ trivial ?_ ?_
  ·exact Ent_plain (by simp only [go_sem, Option.isSome_some])
  ·intro done p r hl _
   have hlt := lt_mid hl
   have hgp := getD_midP hl
   have hw : (fields.length : Int) ≤ 9223372036854775807 → IntKind.i64.wrap ((done.length : Int) + 1) = ((done.length + 1 : Nat) : Int) := fun h => wrap_succ (by omega)
   have hnp := hn p
   obtain ⟨i0, i1, i2, i3, hic⟩ := cells4 (Pred.cells_length p)
   rw [hic] at hgp hnp
   simp only [fn_l34_MeasureWrites_L1, go_sem, hgp, hlt, List.length_map, cells_map_len]
   intro hml
   refine call_by hnp ?_
   simp only [go_sem]
   cases hb : decide (p.nodes > 60) with
   | true =>
    simp only [go_sem]
    refine call_by hA ?_
    simp only [go_sem]
   | false =>
    simp only [go_sem, hw hml, List.length_append]
    exact Ent_plain (by simp only [go_sem, Option.isSome_some])
  ·intro _
   simp only [fn_l34_MeasureWrites_L1, ↓reduceIte, go_sem, List.length_map]
   intro _
   refine call_by h1 ?_
   simp only [go_sem, hpl, List.length_map]
   refine call_by h2 ?_
   simp only [go_sem, hpl, List.length_map]
   refine call_by s1 ?_
   simp only [go_sem, hpl, List.length_map]
   refine call_by h3 ?_
   simp only [go_sem, hpl, List.length_map]
   refine call_by h4 ?_
   simp only [go_sem, hpl, List.length_map]
   refine call_by s2 ?_
   simp only [go_sem, hpl, List.length_map]
   refine call_by hA ?_
   simp only [go_sem]
set_option maxHeartbeats 4000000 in
theorem MeasureSymbols_ev {E : AEnv} (L : Law34 E) (m : Mod) (hm : MBig m) (x : Va) (hx : x.cnt ≤ 1048576) (name : Str) : E.C l34_MeasureSymbols [.agg m.cells, .agg x.cells, .one (.str name)] (.one (.bool true)) := by
 have Z := L.Z
 have hA := l34_awake_ev L
 have hli := l34_light_ev Z m
 have hfe := l34_few_ev Z x
 have h1 := measure_Symbols_ev Z L.value m hm x hx name
 have h2 := r34_Symbols_ev Z m hm x hx name
 have h3 := r34_SameFacts_ev Z (symS m x name)
 generalize symS m x name = S at *
 generalize light34 m = lt at *
 generalize few34 x = fw at *
 obtain ⟨m0, m1, m2, m3, m4, m5, hmc⟩ := cells6 (l := m.cells) rfl
 obtain ⟨x0, x1, x2, x3, x4, x5, x6, hxc⟩ := cells7 (Va.cells_length x)
 rw [hmc] at hli h1 h2 ⊢
 rw [hxc] at hfe h1 h2 ⊢
 clear hmc hxc
 refine Z.l34_MeasureSymbols _ _ ⟨Nat.le_of_ble_eq_true rfl, ?_⟩
 simp only [fn_l34_MeasureSymbols, go_sem]
 refine call_by hli ?_
 simp only [go_sem]
 intro _
 refine call_g hfe ?_
 simp only [go_sem]
 by_cases hc : (!lt || decide ((name.length : Int) > 200) || !fw) = true
 ·simp only [hc, go_sem]
  refine call_by hA ?_
  simp only [go_sem]
 ·have hc : (!lt || decide ((name.length : Int) > 200) || !fw) = false := by simpa only [Bool.not_eq_true] using hc
  simp only [hc, go_sem]
  refine call_by h1 ?_
  simp only [go_sem]
  refine call_by h2 ?_
  simp only [go_sem]
  refine call_by h3 ?_
  simp only [go_sem]
  refine call_by hA ?_
  simp only [go_sem]
end Go.Abs
end
section
namespace Go.Abs
mutual
def Va.subs : Va → List Va
 | .mk o n s ks ps bd bs => .mk o n s ks ps bd bs :: Va.subss ks
def Va.subss : List Va → List Va
 | [] => []
 | k :: ks => Va.subs k ++ Va.subss ks
end
theorem mem_subss {z : Va} : ∀ {ks : List Va}, z ∈ Va.subss ks ↔ ∃ k ∈ ks, z ∈ k.subs
 | [] => by simp [Va.subss]
 | k :: ks => by
  rw [Va.subss, List.mem_append, mem_subss (ks := ks)]
  simp
theorem mem_subs {z : Va} {o n : Int} {s : Str} {ks : List Va} {ps : List Str} {bd : List ExV} {bs : List BndV} : z ∈ (Va.mk o n s ks ps bd bs).subs ↔ z = .mk o n s ks ps bd bs ∨ ∃ k ∈ ks, z ∈ k.subs := by
 rw [Va.subs, List.mem_cons, mem_subss]
theorem subs_trans {x y z : Va} (h1 : y ∈ x.subs) (h2 : z ∈ y.subs) : z ∈ x.subs := by
 induction x using Va.ind with
 | h o n s ks ps bd bs ih _ =>
 rcases mem_subs.1 h1 with rfl | ⟨k, hk, h⟩
 ·exact h2
 ·exact mem_subs.2 (.inr ⟨k, hk, ih k hk h⟩)
theorem memV_iff {l : List Va} {v : Va} : memV l v = true ↔ v ∈ l := by
 unfold memV
 rw [List.any_eq_true]
 constructor
 ·rintro ⟨x, hx, e⟩; rw [← eqB_iff.1 e]; exact hx
 ·exact fun h => ⟨v, h, eqB_self v⟩
theorem mem_addV {z v : Va} {l : List Va} : z ∈ addV v l ↔ z ∈ l ∨ (v.op = 3 ∧ z = v) := by
 unfold addV
 by_cases ho : v.op = 3
 ·by_cases hm : v ∈ l
  ·have : memV l v = true := memV_iff.2 hm
   rw [this]
   simp only [Bool.not_true, Bool.and_false, Bool.false_eq_true, if_false]
   exact ⟨fun h => .inl h, fun h => h.elim id fun h => h.2 ▸ hm⟩
  ·have : memV l v = false := by rw [Bool.eq_false_iff]; exact fun h => hm (memV_iff.1 h)
   rw [this, ho]
   simp
 ·have : (v.op == 3) = false := by simpa using ho
  rw [this]
  simp [ho]
theorem mem_parts {z : Va} (v : Va) : ∀ {l : List Va}, z ∈ v.parts l ↔ z ∈ l ∨ (z ∈ v.subs ∧ z.op = 3) := by
 induction v using Va.ind with
 | h o n s ks ps bd bs ih _ =>
 intro l
 rw [Va.parts_mk]
 have key : ∀ (qs : List Va) (L : List Va), (∀ k ∈ qs, k ∈ ks) → (z ∈ qs.foldl (fun l k => Va.parts k l) L ↔ z ∈ L ∨ ∃ k ∈ qs, z ∈ k.subs ∧ z.op = 3) := by
  intro qs
  induction qs with
  | nil => intro L _; simp
  | cons k qs ihq =>
   intro L hq
   rw [List.foldl_cons, ihq _ fun k hk => hq k (by simp [hk]), ih k (hq k (by simp))]
   constructor
   ·rintro ((h | h) | ⟨q, hq, h⟩)
    ·exact .inl h
    ·exact .inr ⟨k, by simp, h⟩
    ·exact .inr ⟨q, by simp [hq], h⟩
   ·rintro (h | ⟨q, hq, h⟩)
    ·exact .inl (.inl h)
    ·rcases List.mem_cons.1 hq with rfl | hq
     ·exact .inl (.inr h)
     ·exact .inr ⟨q, hq, h⟩
 rw [key ks _ fun _ h => h, mem_addV, mem_subs]
 constructor
 ·rintro ((h | ⟨h1, h2⟩) | ⟨k, hk, h1, h2⟩)
  ·exact .inl h
  ·exact .inr ⟨.inl h2, by rw [h2]; exact h1⟩
  ·exact .inr ⟨.inr ⟨k, hk, h1⟩, h2⟩
 ·rintro (h | ⟨h1 | ⟨k, hk, h1⟩, h2⟩)
  ·exact .inl (.inl h)
  ·exact .inl (.inr ⟨by rw [h1] at h2; exact h2, h1⟩)
  ·exact .inr ⟨k, hk, h1, h2⟩
theorem parts_trans {x y z : Va} (h1 : y ∈ x.parts []) (h2 : z ∈ y.parts []) : z ∈ x.parts [] := by
 rcases (mem_parts x).1 h1 with h | ⟨h1, _⟩
 ·cases h
 rcases (mem_parts y).1 h2 with h | ⟨h2, h3⟩
 ·cases h
 exact (mem_parts x).2 (.inr ⟨subs_trans h1 h2, h3⟩)
theorem mem_symsL {m : Mod} {x : Va} {i : Int} {name : Str} {f : Fact} : f ∈ symsL m x i name ↔ ∃ fn ∈ symNames m x.name, (name == [] || name == fn) = true ∧ (x.val.value m fn).2 = true ∧ f = ⟨fn, [i], (x.val.value m fn).1⟩ := by
 unfold symsL
 rw [List.mem_filterMap]
 constructor
 ·rintro ⟨fn, h1, h2⟩
  split at h2
  ·rename_i hc
   unfold fact1 at h2
   split at h2
   ·rename_i hv; cases h2; exact ⟨fn, h1, hc, hv, rfl⟩
   ·cases h2
  ·cases h2
 ·rintro ⟨fn, h1, hc, hv, rfl⟩
  refine ⟨fn, h1, ?_⟩
  rw [if_pos hc]
  unfold fact1
  rw [if_pos hv]
theorem mem_symsAll {m : Mod} {name : Str} {f : Fact} : ∀ {l : List Va} {i : Nat}, f ∈ symsAll m name l i ↔ ∃ (j : Nat) (y : Va), l[j]? = some y ∧ f ∈ symsL m y ((i + j : Nat) : Int) name
 | [], i => by simp [symsAll]
 | x :: l, i => by
  rw [symsAll, List.mem_append, mem_symsAll (l := l)]
  constructor
  ·rintro (h | ⟨j, y, h1, h2⟩)
   ·exact ⟨0, x, rfl, h⟩
   ·exact ⟨j + 1, y, h1, by rw [show i + (j + 1) = i + 1 + j by omega]; exact h2⟩
  ·rintro ⟨j, y, h1, h2⟩
   cases j with
   | zero =>
    simp only [List.getElem?_cons_zero, Option.some.injEq] at h1
    subst h1
    exact .inl h2
   | succ j =>
    refine .inr ⟨j, y, by simpa using h1, ?_⟩
    rw [show i + 1 + j = i + (j + 1) by omega]; exact h2
theorem sym_arg {m : Mod} {v : Va} {name : Str} {f : Fact} (h : f ∈ symS m v name) : ∃ (j : Nat) (y : Va), (v.parts [])[j]? = some y ∧ f.args = [(j : Int)] ∧ f.name ∈ symNames m y.name ∧ (name == [] || name == f.name) = true ∧ (y.val.value m f.name).2 = true ∧ f.res = (y.val.value m f.name).1 := by
 obtain ⟨j, y, h1, h2⟩ := mem_symsAll.1 h
 rw [Nat.zero_add] at h2
 obtain ⟨fn, g1, g2, g3, rfl⟩ := mem_symsL.1 h2
 exact ⟨j, y, h1, rfl, g1, g2, g3, rfl⟩
noncomputable def hitF (all : List Va) (f : Fact) (z : Va) (w : Fact) : Bool := match w.args with
 | [k] => w.name == f.name && (w.res == f.res) && (match all[k.toNat]? with | some y => eqB y z | none => false)
 | _ => false
theorem part_hit {m : Mod} {x y z : Va} {name : Str} {f : Fact} {j : Nat} (hy : y ∈ x.parts []) (hz : (y.parts [])[j]? = some z) (hfn : f.name ∈ symNames m z.name) (hc : (name == [] || name == f.name) = true) (hv : (z.val.value m f.name).2 = true) (hr : f.res = (z.val.value m f.name).1) :
  (symS m x name).any (hitF (x.parts []) f z) = true := by
 have hzx := parts_trans hy (List.mem_of_getElem? hz)
 obtain ⟨k, hk, e⟩ := List.getElem_of_mem hzx
 have hk' : (x.parts [])[k]? = some z := by rw [List.getElem?_eq_getElem hk, e]
 rw [List.any_eq_true]
 refine ⟨⟨f.name, [(k : Int)], f.res⟩, ?_, ?_⟩
 ·unfold symS
  refine mem_symsAll.2 ⟨k, z, hk', ?_⟩
  rw [Nat.zero_add]
  exact mem_symsL.2 ⟨f.name, hfn, hc, hv, by rw [hr]⟩
 ·unfold hitF
  simp only [beq_self_eq_true, Bool.true_and, Int.toNat_natCast, hk', eqB_self]
end Go.Abs
end
section
namespace Go.Abs
theorem sym_all {m : Mod} {v : Va} {name : Str} {f : Fact} (h : f ∈ symS m v name) : ∃ (j : Nat) (y : Va), (v.parts [])[j]? = some y ∧ f.args = [(j : Int)] := by
 obtain ⟨j, y, h1, h2, _⟩ := sym_arg h
 exact ⟨j, y, h1, h2⟩
theorem getD_get {l : List Va} {k : Nat} {y : Va} (h : l[k]? = some y) : (l.map Va.cells).getD k [] = y.cells ∧ (k : Int) < (l.length : Int) := by
 obtain ⟨hk, e⟩ := List.getElem?_eq_some_iff.1 h
 refine ⟨?_, by omega⟩
 rw [List.getD_eq_getElem?_getD, List.getElem?_map, h]
 rfl
theorem any_snoc {α : Type} (f : α → Bool) (a : List α) (x : α) : (a ++ [x]).any f = (a.any f || f x) := by rw [List.any_append, List.any_cons, List.any_nil, Bool.or_false]
set_option maxHeartbeats 8000000 in
theorem MeasureParts_ev {E : AEnv} (L : Law34 E) (m : Mod) (hm : MBig m) (x : Va) (hx : x.cnt ≤ 1048576) (name : Str) (hsub : ∀ y ∈ x.subs, y.cnt ≤ x.cnt) : E.C l34_MeasureParts [.agg m.cells, .agg x.cells, .one (.str name)] (.one (.bool true)) := by
 have Z := L.Z
 have hA := l34_awake_ev L
 have hli := l34_light_ev Z m
 have hfe := l34_few_ev Z x
 have h1 := r34_Parts_ev Z x [] (by simp; omega)
 have h2 := measure_Symbols_ev Z L.value m hm x hx name
 have hps : ∀ y ∈ x.parts [], y.cnt ≤ 1048576 := fun y hy => by
  rcases (mem_parts x).1 hy with h | ⟨h, _⟩
  ·cases h
  ·have := hsub y h; omega
 have hp := fun (y : Va) hy => r34_Parts_ev Z y [] (by simp; have := hps y hy; omega)
 have hs := fun (y : Va) hy => measure_Symbols_ev Z L.value m hm y (hps y hy) name
 have hsame := fun a b => r29_Same_ev Z a b
 have hall : ∀ w ∈ symS m x name, ∃ (k : Nat) (y : Va), (x.parts [])[k]? = some y ∧ w.args = [(k : Int)] := fun w hw => sym_all hw
 have hhit : ∀ (y z : Va) (f : Fact) (j : Nat), y ∈ x.parts [] → f ∈ symS m y name → (y.parts [])[j]? = some z → f.args = [(j : Int)] → (symS m x name).any (hitF (x.parts []) f z) = true := by
  intro y z f j hy hf hz hj
  obtain ⟨j', z', g1, g2, g3, g4, g5, g6⟩ := sym_arg hf
  rw [hj] at g2
  have : (j : Int) = j' := by simpa using g2
  have : j = j' := by omega
  subst this
  rw [hz] at g1
  obtain rfl := Option.some.inj g1
  exact part_hit hy hz g3 g4 g5 g6
 have hpl := parts_len x []
 have hown : ∀ y ∈ x.parts [], (y.parts []).length ≤ 1048576 := fun y hy => by have h3 := parts_len y []; have h4 := hps y hy; simp only [List.length_nil] at h3; omega
 generalize symS m x name = W at *
 generalize x.parts [] = P at *
 generalize light34 m = lt at *
 generalize few34 x = fw at *
 obtain ⟨m0, m1, m2, m3, m4, m5, hmc⟩ := cells6 (l := m.cells) rfl
 have hx2 : ∃ x1 x2 x3 x4 x5 x6, x.cells = [.int .i64 x.op, x1, x2, x3, x4, x5, x6] := by
  obtain ⟨o, n, s, ks, ps, bd, bs⟩ := x
  exact ⟨_, _, _, _, _, _, Va.cells_mk o n s ks ps bd bs⟩
 obtain ⟨x1, x2, x3, x4, x5, x6, hxc⟩ := hx2
 generalize x.op = xo at *
 rw [hmc] at hli h2 ⊢
 rw [hxc] at hfe h1 h2 ⊢
 simp only [hmc] at hs
 clear hmc hxc
 refine Z.l34_MeasureParts _ _ ⟨Nat.le_of_ble_eq_true rfl, ?_⟩
 simp only [fn_l34_MeasureParts, go_sem]
 refine call_by hli ?_
 simp only [go_sem]
 intro _
 refine call_g hfe ?_
 simp only [go_sem]
 by_cases hc : (!lt || decide ((name.length : Int) > 200) || !fw || xo != 3) = true
 ·simp only [hc, go_sem]
  refine call_by hA ?_
  simp only [go_sem]
 have hc : (!lt || decide ((name.length : Int) > 200) || !fw || xo != 3) = false := by simpa only [Bool.not_eq_true] using hc
 simp only [hc, go_sem]
 refine call_by h1 ?_
 simp only [go_sem, List.map_nil, List.not_mem_nil, false_implies, implies_true]
 refine call_by h2 ?_
 simp only [go_sem]
 refine loop_list P (fun _ => True) (fun done rest => ⟨[(9, .d (.int .i64 done.length)), (8, .d (.lst (W.map Fact.cells))), (7, .own 7 7 (P.map Va.cells)), (2, .d (.str name)), (3, .ptr 3 0)], [(3, [.d m0, .d m1, .d m2, .d m3, .d m4, .d m5])], [(7, true)]⟩) ?_ trivial ?_ ?_
 ·exact Ent_own [(7, 36)] (by simp only [go_sem, List.contains_nil, List.contains_cons, Nat.reduceBEq, Option.isSome_some])
 ·intro done y r hl _
  have hlt := lt_mid hl
  have hgy := getD_at (f := Va.cells) (d := []) hl
  have hyP : y ∈ P := mem_at' hl
  have hw : (P.length : Int) ≤ 9223372036854775807 → IntKind.i64.wrap ((done.length : Int) + 1) = ((done.length + 1 : Nat) : Int) := fun h => wrap_succ (by omega)
  have hp := hp y hyP
  have hs := hs y hyP
  have hown := hown y hyP
  have hhit := fun z f j => hhit y z f j hyP
  have hsa : ∀ f ∈ symS m y name, ∃ (k : Nat) (z : Va), (y.parts [])[k]? = some z ∧ f.args = [(k : Int)] := fun w hw => sym_all hw
  generalize y.parts [] = O at *
  generalize symS m y name = S at *
  obtain ⟨a0, b0, c0, d0, e0, f0, g0, hcy⟩ := cells7 (Va.cells_length y)
  rw [hcy] at hgy hp hs
  simp only [fn_l34_MeasureParts_L3, go_sem, hgy, hlt, List.length_map, Va.lens]
  intro hml
  refine call_by hs ?_
  simp only [go_sem, hgy, hlt, List.length_map, Va.lens]
  refine call_by hp ?_
  simp only [go_sem, List.map_nil, List.not_mem_nil, false_implies, implies_true]
  refine loop_named fun K hK => ?_
  refine loop_list S (fun _ => True) (fun dk _ => ⟨[(12, .d (.int .i64 dk.length)), (11, .own 11 7 (O.map Va.cells)), (10, .d (.lst (S.map Fact.cells))), (9, .d (.int .i64 done.length)), (8, .d (.lst (W.map Fact.cells))), (7, .own 7 7 (P.map Va.cells)), (2, .d (.str name)), (3, .ptr 3 0)], [(3, [.d m0, .d m1, .d m2, .d m3, .d m4, .d m5])], [(11, true), (7, true)]⟩) ?_ trivial ?_ ?_
  ·exact Ent_own [(11, 58), (7, 7)] (by simp only [go_sem, List.contains_nil, List.contains_cons, Nat.reduceBEq, Option.isSome_some])
  ·intro dk f r' hl' _
   have hlt' := lt_mid hl'
   have hgf := getD_at (f := Fact.cells) (d := []) hl'
   have hfS : f ∈ S := mem_at' hl'
   have hw' : (S.length : Int) ≤ 9223372036854775807 → IntKind.i64.wrap ((dk.length : Int) + 1) = ((dk.length + 1 : Nat) : Int) := fun h => wrap_succ (by omega)
   obtain ⟨j, z, hz, hfa⟩ := hsa f hfS
   have hhit := hhit z f j hfS hz hfa
   obtain ⟨hgz, hjl⟩ := getD_get hz
   obtain ⟨fn, fa, fr⟩ := f
   simp only at hfa
   subst hfa
   have hfc : Fact.cells ⟨fn, [(j : Int)], fr⟩ = [.str fn, .lst [[.int .i64 j]], .int .i64 fr] := rfl
   rw [hfc] at hgf
   have hj0 : ((j : Int) < 0) = False := eq_false (by omega)
   have hj1 : ((j : Int) ≥ (O.length : Int)) = False := eq_false (by omega)
   simp only [fn_l34_MeasureParts_L2, go_sem, hgf, hlt', List.length_map, Fact.lens, List.length_cons, List.length_nil, Int.cast_ofNat_Int, Nat.reduceAdd, bne_self_eq_false, hj0, hj1, decide_false, List.mem_singleton, forall_eq, Int.reduceBNe, Int.natCast_one]
   intro hml2 _
   have hpos : ((j : Int) ≥ 0) = True := eq_true (by omega)
   have hjlt : ((j : Int) < (O.length : Int)) = True := eq_true hjl
   refine loop_named fun K2 hK2 => ?_
   refine loop_list W (fun _ => True) (fun dj _ => ⟨[(14, .d (.int .i64 dj.length)), (13, .d (.bool (dj.any (hitF P ⟨fn, [(j : Int)], fr⟩ z)))), (12, .d (.int .i64 dk.length)), (11, .own 11 7 (O.map Va.cells)), (10, .d (.lst (S.map Fact.cells))), (9, .d (.int .i64 done.length)), (8, .d (.lst (W.map Fact.cells))), (7, .own 7 7 (P.map Va.cells)), (2, .d (.str name)), (3, .ptr 3 0)], [(3, [.d m0, .d m1, .d m2, .d m3, .d m4, .d m5])], [(11, true), (7, true)]⟩) ?_ trivial ?_ ?_
   ·exact Ent_own [(11, 11), (7, 7)] (by simp only [go_sem, List.contains_nil, List.contains_cons, Nat.reduceBEq, Option.isSome_some, List.any_nil])
   ·intro dj w rj hlj _
    have hltj := lt_mid hlj
    have hgw := getD_at (f := Fact.cells) (d := []) hlj
    have hwj : (W.length : Int) ≤ 9223372036854775807 → IntKind.i64.wrap ((dj.length : Int) + 1) = ((dj.length + 1 : Nat) : Int) := fun h => wrap_succ (by omega)
    obtain ⟨k, y', hk, hwa⟩ := hall w (mem_at' hlj)
    obtain ⟨hgk, hkl⟩ := getD_get hk
    obtain ⟨wn, wa, wr⟩ := w
    simp only at hwa
    subst hwa
    have hwc : Fact.cells ⟨wn, [(k : Int)], wr⟩ = [.str wn, .lst [[.int .i64 k]], .int .i64 wr] := rfl
    rw [hwc] at hgw
    have hkpos : ((k : Int) ≥ 0) = True := eq_true (by omega)
    have hklt : ((k : Int) < (P.length : Int)) = True := eq_true hkl
    have hsm := hsame y' z
    have hb : hitF P ⟨fn, [(j : Int)], fr⟩ z ⟨wn, [(k : Int)], wr⟩ = (wn == fn && (wr == fr) && eqB y' z) := by
     unfold hitF
     simp only [Int.toNat_natCast, hk]
    obtain ⟨p0, p1, p2, p3, p4, p5, p6, hcy'⟩ := cells7 (Va.cells_length y')
    obtain ⟨z0, z1, z2, z3, z4, z5, z6, hcz⟩ := cells7 (Va.cells_length z)
    rw [hcy'] at hgk hsm
    rw [hcz] at hgz hsm
    rw [any_snoc, hb]
    generalize dj.any (hitF P ⟨fn, [(j : Int)], fr⟩ z) = B
    simp only [fn_l34_MeasureParts_L1, go_sem, hgw, hgf, hltj, hlt', List.length_map, Fact.lens, List.length_cons, List.length_nil, List.mem_singleton, forall_eq, hgk, hgz, hkpos, hklt, hjlt, decide_true, Int.cast_ofNat_Int, Nat.reduceAdd, Int.natCast_one, Va.lens, imp_self, implies_true, beq_self_eq_true, Bool.and_true, Nat.le_refl]
    intro hml3
    refine call_g hsm ?_
    simp only [go_sem]
    exact Ent_own [(11, 11), (7, 7)] (by simp only [go_sem, List.contains_nil, List.contains_cons, Nat.reduceBEq, Option.isSome_some, List.length_append, List.length_cons, List.length_nil, Nat.zero_add, hwj hml3])
   ·simp (maxSteps := 2000000) only [fn_l34_MeasureParts_L1, go_sem, List.length_map, Fact.lens, Int.lt_irrefl, decide_false]
    intro hml3
    rw [hK2]
    clear hK2
    simp only [blockK_exit, if_true, seqK_normal]
    simp only [go_sem, hhit]
    exact Ent_own [(11, 11), (7, 7)] (by simp only [go_sem, List.contains_nil, List.contains_cons, Nat.reduceBEq, Option.isSome_some, List.length_append, List.length_cons, List.length_nil, Nat.zero_add, hw' hml2])
  ·simp (maxSteps := 2000000) only [fn_l34_MeasureParts_L2, go_sem, List.length_map, Fact.lens, Int.lt_irrefl, decide_false]
   intro hml2
   rw [hK]
   clear hK
   simp only [blockK_exit, if_true, seqK_normal]
   simp only [go_sem]
   exact Ent_own [(7, 7)] (by simp only [go_sem, List.contains_nil, List.contains_cons, Nat.reduceBEq, Option.isSome_some, List.length_append, List.length_cons, List.length_nil, Nat.zero_add, hw hml])
 ·simp only [fn_l34_MeasureParts_L3, go_sem, List.length_map, Va.lens, Int.lt_irrefl, decide_false]
  intro hml
  refine call_by hA ?_
  simp only [go_sem]
theorem cnt_mem : ∀ {ks : List Va} {k : Va}, k ∈ ks → k.cnt ≤ Va.cnts ks
 | q :: qs, k, h => by
  rw [Va.cnts]
  rcases List.mem_cons.1 h with rfl | h
  ·omega
  ·have := cnt_mem h; omega
theorem subs_cnt (x : Va) : ∀ y ∈ x.subs, y.cnt ≤ x.cnt := by
 induction x using Va.ind with
 | h o n s ks ps bd bs ih _ =>
 intro y hy
 rcases mem_subs.1 hy with rfl | ⟨k, hk, h⟩
 ·exact Nat.le_refl _
 ·have := ih k hk y h
  have h2 := cnt_mem hk
  rw [Va.cnt_mk]
  omega
end Go.Abs
end
