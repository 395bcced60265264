/-
  CONTRACTS: what the functions answer, as plain Lean functions, each by evaluation at the abstract machine.
-/
import Derived.Sort.Walk0
import Derived.Test.YtcjbgglnoelfcaaGreatDoorCon1
section
set_option linter.unusedSimpArgs false
set_option linter.unusedVariables false
set_option linter.unusedSectionVars false
namespace Go.Abs
open Go.RowKit Go.Sort Go.Proofs
theorem ops_nil {F : Fence} {n : Nat} {P : Program} {ops : Array Oper} {Q : Exit → Act → World → Prop} {a : Act} {w : World} (h : Q .normal a w) : wpOpsIn F n P ops Q [] a w := h
theorem run_mv {P : Program} {a : Act} {w : World} {x : Operand} {o : Oper} (ho : o.op = .move x) : (execOp a.eval o).run P w = .ok (.value (a.eval x)) w := by
 unfold execOp; simp [ho]
theorem run_asg {P : Program} {a : Act} {w : World} {x : Operand} {o : Oper} (ho : o.op = .assign x) : (execOp a.eval o).run P w = .ok (.value (a.eval x)) w := by
 unfold execOp; simp [ho]
theorem run_app {P : Program} {a : Act} {w w' : World} {x y : Operand} {t : Nat} {v : Value} {o : Oper} (ho : o.op = .call ⟨.builtin .append, #[x, y], #[t, t]⟩) (h : ∀ ty, (Builtin.append_ #[t, t] ty #[a.eval x, a.eval y]).run P w = .ok v w') : (execOp a.eval o).run P w = .ok (.value v) w' := by
 unfold execOp; simp [ho, resolve, invoke, builtin, h]
theorem run_fn {P : Program} {a : Act} {w : World} {x : Operand} {t : Nat} {f : FuncId} {o : Oper} (hen : Enters P f) (ho : o.op = .call ⟨.value (.func f), #[x], #[t]⟩) : (execOp a.eval o).run P w = .ok (.enter f #[a.eval x]) w := by
 obtain ⟨fn, hfn, hname, hbody⟩ := hen
 have hname' : ¬ fn.name = "runtime.NumGoroutine" := by simpa using hname
 have hbody' : ¬ fn.body = none := by intro e; simp [e] at hbody
 unfold execOp
 simp [ho, resolve, invoke, callFunc, Deferred.ofValue, Act.eval, hfn, hname', hbody']
theorem run_bsl0 {P : Program} {a : Act} {w : World} {t e : TypeId} {ie : TypeInfo} {o : Oper} (hu : P.underlying t = some (.slice e)) (hie : P.info? e = some ie) (ho : o.op = .buildSlice t 0 #[]) : (execOp a.eval o).run P w = .ok (.value (.slice (some ⟨w.heap.size, 0, none⟩) 0 0)) (w.alloc (.cells #[] e)) := by
 unfold execOp
 simp [ho, Instr.buildSlice, run_underlying hu, run_sizeOf hie, Instr.fill, newRow]
 congr 2
 exact Array.ext (by simp) (by simp)
theorem end_tmp {P : Program} {T : Nat → Option Ty} {fn : Func} {tmps : Array Value} {k : Nat} {w : World} (hres : fn.results.toList.mapM (trRes T) = some [.t k]) : (results fn tmps).run P w = .ok (tmps.getD k undef) w := by
 have hone : ∃ rv, fn.results.toList = [rv] ∧ trRes T rv = some (.t k) := by
  generalize fn.results.toList = l at hres
  cases l with
  | nil => simp at hres
  | cons rv l =>
   simp only [List.mapM_cons, Option.bind_eq_bind, Option.bind_eq_some_iff, Option.pure_def, Option.some.injEq] at hres
   obtain ⟨x', hx, xs, hxs, hrs⟩ := hres
   cases hrs
   cases l with
   | nil => exact ⟨rv, rfl, hx⟩
   | cons rv2 l =>
    simp only [List.mapM_cons, Option.bind_eq_bind, Option.bind_eq_some_iff, Option.pure_def, Option.some.injEq] at hxs
    obtain ⟨_, _, _, _, hxs⟩ := hxs
    cases hxs
 obtain ⟨rv, hrv, htx⟩ := hone
 cases rv with
 | tmp t =>
  simp only [trRes, Option.some.injEq, R.t.injEq] at htx
  subst htx
  rw [results_eq, Array.mapM_eq_mapM_toList, hrv]
  simp only [List.mapM_cons, List.mapM_nil, Sem.run_bind, Sem.run_map, rvRun]
  simp
 | cell a t =>
  simp only [trRes, Option.bind_eq_bind, Option.bind_eq_some_iff] at htx
  obtain ⟨_, _, h⟩ := htx
  cases h
theorem leaves_end {P : Program} {fn : Func} {tmps : Array Value} {R : Ending → World → Prop} {w : World} {v : Value} (h1 : (results fn tmps).run P w = .ok v w) (h2 : R (.returned v) w) : LeavesInM Fence.wide 0 P fn tmps R [] .returning w := ⟨v, h1, h2⟩
theorem EvOwn.plain {P : Program} {G : Nat → Option (List D)} {f : FuncId} {args : List CV} {sz : Nat} {es : List (List D)} (h : EvOwn P G f args none sz es) : EvD P G f args (.one (.lst es)) := by
 refine ⟨h.1, fun w S cargs hl hg ha => ?_⟩
 refine (h.2 w S cargs [] hl hg ha rfl).mono ?_
 rintro e w' ⟨v, S', rfl, h1, _, _, hb, hk, hn, hv⟩
 have hn' : ∀ b, OwnX P w [] b → w.heap.size ≤ b := fun b h => by rcases h with h | ⟨h, _⟩; exact h; cases h
 exact ⟨v, S', rfl, h1, ⟨hb.os, hb.tape, hb.output, hb.size, fun k hk => hb.block k fun ho => by have := hn' k ho; omega⟩, fun b o hs => (hk b o hs).1, fun b o hs => (hn b o hs).imp id (hn' b), hv⟩
theorem union_ev {P : Program} {G : Nat → Option (List D)} {f fs fc t : Nat} {eb : Nat} {T : Nat → Option Ty} {fn : Func} {cd : Code} (hf : P.funcs[f]? = some fn) (hname : (fn.name == "runtime.NumGoroutine") = false) (hcd : fn.body = some cd)
  (hseg : (segs cd).map (fun l => l.map fun p => p.2.toList.map opc) = some (unionOps t fs fc)) (hnt : fn.ntmps = 15) (hres : fn.results.toList.mapM (trRes T) = some [.t 4]) (hT : ∀ t ty, T t = some ty → chkTy P t ty = true) (ht : chkTy P t (.slice 1 eb) = true) (heb : eb ≤ 16)
  (hes : Enters P fs) (hec : Enters P fc) (hsort : SortLaw P fs) (hcomp : CompactLaw P fc) (sa sb : List (List UInt8)) (hlen : sa.length + sb.length < 4398046511104) :
  Ev P G f [.one (.lst (sa.map fun s => [.str s])), .one (.lst (sb.map fun s => [.str s]))] (.own none 1 ((Lib.compact (sorted (sa ++ sb))).map fun s => [.str s])) := by
 obtain ⟨e, ie, z, hu, hie, q1, q2, q3, q4, q5⟩ := slice_facts ht
 refine ⟨⟨fn, hf, hname, by simp [hcd]⟩, fun w S cargs X hlive hglob hargs hX => ?_⟩
 obtain rfl : X = [] := hX
 obtain ⟨va, r, e1, h1, vb, r2, rfl, h2, e3⟩ := hargs
 simp only [RepCL] at e3
 subst e3
 obtain rfl : cargs = #[va, vb] := by cases cargs; simp_all
 have h1 : Rep w S (.lst (sa.map fun s => [.str s])) va := h1
 have h2 : Rep w S (.lst (sb.map fun s => [.str s])) vb := h2
 have one : ∀ (l : List (List UInt8)), ∀ x ∈ (l.map fun s => [D.str s]), x.length = 1 := fun l x hx => by
  obtain ⟨s, _, rfl⟩ := List.mem_map.1 hx; rfl
 obtain ⟨i0, r0, c0, rfl, hl0, hseg⟩ := segs_map hseg
 obtain ⟨i1, r1, c1, rfl, hl1, hseg⟩ := segs_map hseg
 obtain ⟨i2, r2, c2, rfl, hl2, hseg⟩ := segs_map hseg
 obtain ⟨i3, r3, c3, rfl, hl3, hseg⟩ := segs_map hseg
 obtain rfl := segs_end hseg
 refine callsIn_wide.1 (callsIn_of_wp_marks (n := 0) (R := GivesO P w S [] 1 _) hf hcd trivial ?_)
 have hT0 : #[va, vb] ++ Array.replicate (fn.ntmps - #[va, vb].size) undef = #[va, vb, undef, undef, undef, undef, undef, undef, undef, undef, undef, undef, undef, undef, undef] := by rw [hnt]; rfl
 rw [hT0]
 have hF : FW Fence.wide := FW.wide
 refine wpIn_seq (wpIn_ops hl0 ?_)
 show wpOpsIn _ _ _ _ _ [0] _ _
 rw [wpOpsIn_cons]
 refine wpOp_val hF (v := .slice none 0 0) (by rw [hl0]; rfl) (by simp) (fun o ho => run_asg ho) ?_
 refine ops_nil ?_
 show Code.wpIn _ _ _ _ _ ⟨#[va, vb, undef, undef, .slice none 0 0, undef, undef, undef, undef, undef, undef, undef, undef, undef, undef], []⟩ _
 refine wpIn_seq (wpIn_ops hl1 ?_)
 show wpOpsIn _ _ _ _ _ [0, 1, 2, 3, 4, 5] _ _
 simp only [wpOpsIn_cons]
 refine wpOp_val hF (v := (.slice (some ⟨w.heap.size, 0, none⟩) 0 0)) (by rw [hl1]; rfl) (by simp) (fun o ho => run_bsl0 hu hie ho) ?_
 show wpOpIn _ _ _ _ _ _ _ ⟨#[va, vb, undef, undef, .slice none 0 0, undef, (.slice (some ⟨w.heap.size, 0, none⟩) 0 0), undef, undef, undef, undef, undef, undef, undef, undef], []⟩ _
 refine wpOp_val hF (v := va) (by rw [hl1]; rfl) (by simp) (fun o ho => run_mv ho) ?_
 show wpOpIn _ _ _ _ _ _ _ ⟨#[va, vb, undef, undef, .slice none 0 0, undef, (.slice (some ⟨w.heap.size, 0, none⟩) 0 0), va, undef, undef, undef, undef, undef, undef, undef], []⟩ _
 have keep : ∀ {w' : World}, Below w.heap.size w w' → Keeps w S w' S := fun hb b o hs => by
  obtain ⟨v, hv⟩ := hlive b o hs
  exact ⟨hs, hb.cell (p := ⟨b, o, none⟩) (cell_lt hv)⟩
 have hb1 : Below w.heap.size w (w.alloc (.cells #[] e)) := (Below.refl _ _).alloc (Nat.le_refl _) _
 have own1 : (w.alloc (.cells #[] e)).ownsRow w.heap.size e 1 (.slice (some ⟨w.heap.size, 0, none⟩) 0 0) ([] : List Value).length [] :=
  ⟨rfl, .inr ⟨w.heap.size, 0, #[], rfl, Nat.le_refl _, heap_alloc_new w _, Nat.le_refl _, by unfold maxLen; omega, rfl, rfl⟩⟩
 obtain ⟨v8, w2, l2, hl2r, hrun2, own2, hg2, hn2⟩ := own_app (ty := t) (eb := eb) hu hie q1 q2 q4 q5 own1 (Rep.keep (keep hb1) _ _ h1) (one sa) (by have := hb1.size; exact this) (by simp only [List.length_nil, List.length_map]; unfold maxLen; omega) (by
  simp only [List.length_nil, List.length_map, Nat.zero_add]
  exact Nat.le_trans (Nat.mul_le_mul (Nat.le_of_lt (by omega : sa.length < 4398046511104)) heb) (by omega))
 obtain ⟨rfl, hsa⟩ := strs_values hl2r
 have hb2 : Below w.heap.size w w2 := hb1.grown hg2 hb1.size (fun k hk => (own1.lt k hk).1)
 obtain ⟨v10, w3, l3, hl3r, hrun3, own3, hg3, hn3⟩ := own_app (ty := t) (eb := eb) hu hie q1 q2 q4 q5 own2 (Rep.keep (keep hb2) _ _ h2) (one sb) hb2.size (by simp only [List.length_nil, List.length_map, List.nil_append]; unfold maxLen; omega) (by
  simp only [List.length_nil, List.length_map, List.nil_append]
  exact Nat.le_trans (Nat.mul_le_mul (Nat.le_of_lt hlen) heb) (by omega))
 obtain ⟨rfl, hsb⟩ := strs_values hl3r
 have hb3 : Below w.heap.size w w3 := hb2.grown hg3 hb2.size (fun k hk => (own2.lt k hk).1)
 simp only [List.nil_append] at own3 hn3 own2
 rw [← List.map_append] at own3
 have hnn : v10 ≠ .slice none 0 0 := fun h => by have := hn2 (hn3 h); cases this
 obtain ⟨g, cap, rfl, hgB, hgw, hgc, hgm, _, hHold⟩ := Lib.holds_of_ownsRow own3 hnn
 have rty : ∀ (v v2 v' : Value) (wa wb : World), (∃ ty, (Builtin.append_ #[t, t] ty #[v, v2]).run P wa = .ok v' wb) → ∀ ty, (Builtin.append_ #[t, t] ty #[v, v2]).run P wa = .ok v' wb := fun v v2 v' wa wb ⟨ty, h⟩ ty' => h
 refine wpOp_val hF (v := v8) (by rw [hl1]; rfl) (by simp) (fun o ho => run_app (x := .tmp 6) (y := .tmp 7) ho (rty _ _ _ _ _ ⟨t, hrun2⟩)) ?_
 show wpOpIn _ _ _ _ _ _ _ ⟨#[va, vb, undef, undef, .slice none 0 0, undef, (.slice (some ⟨w.heap.size, 0, none⟩) 0 0), va, v8, undef, undef, undef, undef, undef, undef], []⟩ _
 refine wpOp_val hF (v := vb) (by rw [hl1]; rfl) (by simp) (fun o ho => run_mv ho) ?_
 show wpOpIn _ _ _ _ _ _ _ ⟨#[va, vb, undef, undef, .slice none 0 0, undef, (.slice (some ⟨w.heap.size, 0, none⟩) 0 0), va, v8, vb, undef, undef, undef, undef, undef], []⟩ _
 refine wpOp_val hF (v := (.slice (some ⟨g, 0, none⟩) (List.map encStr (sa ++ sb)).length cap)) (by rw [hl1]; rfl) (by simp) (fun o ho => run_app (x := .tmp 8) (y := .tmp 9) ho (rty _ _ _ _ _ ⟨t, hrun3⟩)) ?_
 show wpOpIn _ _ _ _ _ _ _ ⟨#[va, vb, undef, undef, .slice none 0 0, undef, (.slice (some ⟨w.heap.size, 0, none⟩) 0 0), va, v8, vb, (.slice (some ⟨g, 0, none⟩) (List.map encStr (sa ++ sb)).length cap), undef, undef, undef, undef], []⟩ _
 refine wpOp_val hF (v := (.slice (some ⟨g, 0, none⟩) (List.map encStr (sa ++ sb)).length cap)) (by rw [hl1]; rfl) (by simp) (fun o ho => run_asg ho) ?_
 refine ops_nil ?_
 show Code.wpIn _ _ _ _ _ ⟨#[va, vb, undef, undef, .slice none 0 0, (.slice (some ⟨g, 0, none⟩) (List.map encStr (sa ++ sb)).length cap), (.slice (some ⟨w.heap.size, 0, none⟩) 0 0), va, v8, vb, (.slice (some ⟨g, 0, none⟩) (List.map encStr (sa ++ sb)).length cap), undef, undef, undef, undef], []⟩ _
 refine wpIn_seq (wpIn_ops hl2 ?_)
 show wpOpsIn _ _ _ _ _ [0, 1] _ _
 simp only [wpOpsIn_cons]
 refine wpOp_val hF (v := (.slice (some ⟨g, 0, none⟩) (List.map encStr (sa ++ sb)).length cap)) (by rw [hl2]; rfl) (by simp) (fun o ho => run_mv ho) ?_
 show wpOpIn _ _ _ _ _ _ _ ⟨#[va, vb, undef, undef, .slice none 0 0, (.slice (some ⟨g, 0, none⟩) (List.map encStr (sa ++ sb)).length cap), (.slice (some ⟨w.heap.size, 0, none⟩) 0 0), va, v8, vb, (.slice (some ⟨g, 0, none⟩) (List.map encStr (sa ++ sb)).length cap), (.slice (some ⟨g, 0, none⟩) (List.map encStr (sa ++ sb)).length cap), undef, undef, undef], []⟩ _
 have hlen3 : (List.map encStr (sa ++ sb)).length = (sa ++ sb).length := by simp
 refine wpOp_call hF (by rw [hl2]; rfl) (by simp) (fun o ho => run_fn hes ho) (R := fun e w' => e = .returned (.tuple #[]) ∧ ∃ n os, w' = grow (putRow encStr (Sort.ahead w3 n) g 0 (sorted (sa ++ sb)).toArray) os) ?_ ?_
 ·have := hsort g 0 cap (sa ++ sb) w3 hHold hgw (by rw [List.length_append]; omega)
  rw [← hlen3] at this
  exact this
 rintro e' w4 ⟨rfl, nn, os, rfl⟩
 refine ⟨_, rfl, ?_⟩
 refine ops_nil ?_
 show Code.wpIn _ _ _ _ _ ⟨#[va, vb, undef, undef, .slice none 0 0, (.slice (some ⟨g, 0, none⟩) (List.map encStr (sa ++ sb)).length cap), (.slice (some ⟨w.heap.size, 0, none⟩) 0 0), va, v8, vb, (.slice (some ⟨g, 0, none⟩) (List.map encStr (sa ++ sb)).length cap), (.slice (some ⟨g, 0, none⟩) (List.map encStr (sa ++ sb)).length cap), .tuple #[], undef, undef], []⟩ _
 have hset : (sorted (sa ++ sb)).length = (sa ++ sb).length := by simp
 have hb4 : Below w.heap.size w (grow (putRow encStr (Sort.ahead w3 nn) g 0 (sorted (sa ++ sb)).toArray) os) := hb3.grown (grownBy_sorted _) hb3.size (fun k hk => by cases hk; exact hgB)
 obtain ⟨_, hshape⟩ := own3
 rcases hshape with ⟨h0, _⟩ | ⟨g', cap', cur, hv, _, hcell, hn3', hm3, hs3, ht3⟩
 ·exact absurd h0 hnn
 obtain ⟨rfl, rfl⟩ : g = g' ∧ cap = cap' := by cases hv; exact ⟨rfl, rfl⟩
 rw [hlen3] at hn3'
 have own4 := ownsRow_sorted (n := nn) (os := os) hset hgB hcell hn3' hm3 hs3
 rw [← hset] at own4
 obtain ⟨g', cap', hv', _, hg4, _, _, _, hHold4⟩ := Lib.holds_of_ownsRow own4 (by simp)
 obtain ⟨rfl, rfl⟩ : g = g' ∧ cap = cap' := by cases hv'; exact ⟨rfl, rfl⟩
 refine wpIn_seq (wpIn_ops hl3 ?_)
 show wpOpsIn _ _ _ _ _ [0, 1, 2] _ _
 simp only [wpOpsIn_cons]
 refine wpOp_val hF (v := (.slice (some ⟨g, 0, none⟩) (List.map encStr (sa ++ sb)).length cap)) (by rw [hl3]; rfl) (by simp) (fun o ho => run_mv ho) ?_
 show wpOpIn _ _ _ _ _ _ _ ⟨#[va, vb, undef, undef, .slice none 0 0, (.slice (some ⟨g, 0, none⟩) (List.map encStr (sa ++ sb)).length cap), (.slice (some ⟨w.heap.size, 0, none⟩) 0 0), va, v8, vb, (.slice (some ⟨g, 0, none⟩) (List.map encStr (sa ++ sb)).length cap), (.slice (some ⟨g, 0, none⟩) (List.map encStr (sa ++ sb)).length cap), .tuple #[], (.slice (some ⟨g, 0, none⟩) (List.map encStr (sa ++ sb)).length cap), undef], []⟩ _
 refine wpOp_call hF (by rw [hl3]; rfl) (by simp) (fun o ho => run_fn hec ho) (R := fun e w' => e = .returned (.slice (some ⟨g, 0, none⟩) (Lib.compact (sorted (sa ++ sb))).length cap) ∧ ∃ q, w' = putRow encStr (Sort.ahead (grow (putRow encStr (Sort.ahead w3 nn) g 0 (sorted (sa ++ sb)).toArray) os) q) g 0 (Lib.compact (sorted (sa ++ sb)) ++ List.replicate ((sorted (sa ++ sb)).length - (Lib.compact (sorted (sa ++ sb))).length) []).toArray) ?_ ?_
 ·show Calls P fc #[.slice (some ⟨g, 0, none⟩) (List.map encStr (sa ++ sb)).length cap] _ _
  rw [← show (sorted (sa ++ sb)).length = (List.map encStr (sa ++ sb)).length from hset.trans hlen3.symm]
  exact hcomp g 0 cap (sorted (sa ++ sb)) _ hHold4 (by rw [hset, List.length_append]; omega) (by rw [hset]; exact hn3')
 rintro e' w5 ⟨rfl, q, rfl⟩
 refine ⟨_, rfl, ?_⟩
 show wpOpIn _ _ _ _ _ _ _ ⟨#[va, vb, undef, undef, .slice none 0 0, (.slice (some ⟨g, 0, none⟩) (List.map encStr (sa ++ sb)).length cap), (.slice (some ⟨w.heap.size, 0, none⟩) 0 0), va, v8, vb, (.slice (some ⟨g, 0, none⟩) (List.map encStr (sa ++ sb)).length cap), (.slice (some ⟨g, 0, none⟩) (List.map encStr (sa ++ sb)).length cap), .tuple #[], (.slice (some ⟨g, 0, none⟩) (List.map encStr (sa ++ sb)).length cap), (.slice (some ⟨g, 0, none⟩) (Lib.compact (sorted (sa ++ sb))).length cap)], []⟩ _
 refine wpOp_val hF (v := (.slice (some ⟨g, 0, none⟩) (Lib.compact (sorted (sa ++ sb))).length cap)) (by rw [hl3]; rfl) (by simp) (fun o ho => run_asg ho) ?_
 refine ops_nil ?_
 show Code.wpIn _ _ _ _ _ ⟨#[va, vb, undef, undef, (.slice (some ⟨g, 0, none⟩) (Lib.compact (sorted (sa ++ sb))).length cap), (.slice (some ⟨g, 0, none⟩) (List.map encStr (sa ++ sb)).length cap), (.slice (some ⟨w.heap.size, 0, none⟩) 0 0), va, v8, vb, (.slice (some ⟨g, 0, none⟩) (List.map encStr (sa ++ sb)).length cap), (.slice (some ⟨g, 0, none⟩) (List.map encStr (sa ++ sb)).length cap), .tuple #[], (.slice (some ⟨g, 0, none⟩) (List.map encStr (sa ++ sb)).length cap), (.slice (some ⟨g, 0, none⟩) (Lib.compact (sorted (sa ++ sb))).length cap)], []⟩ _
 refine wpIn_ret ?_
 have hcl : (Lib.compact (sorted (sa ++ sb))).length ≤ (sorted (sa ++ sb)).length := Lib.compact_length_le _
 have hb5 := Lib.below_putRow (enc := encStr) (q := q) (d := (Lib.compact (sorted (sa ++ sb)) ++ List.replicate ((sorted (sa ++ sb)).length - (Lib.compact (sorted (sa ++ sb))).length) []).toArray) hb4 hgB
 have own5 := Lib.ownsRow_putRow (q := q) (ys := Lib.compact (sorted (sa ++ sb)) ++ List.replicate ((sorted (sa ++ sb)).length - (Lib.compact (sorted (sa ++ sb))).length) []) own4 (by rw [List.length_append, List.length_replicate]; omega) hcl
 rw [List.take_left' rfl] at own5
 generalize hW : putRow encStr (Sort.ahead (grow (putRow encStr (Sort.ahead w3 nn) g 0 (sorted (sa ++ sb)).toArray) os) q) g 0 (Lib.compact (sorted (sa ++ sb)) ++ List.replicate ((sorted (sa ++ sb)).length - (Lib.compact (sorted (sa ++ sb))).length) []).toArray = w5 at *
 have hcells := own5.cells (g := g) rfl
 have hsm : ∀ s ∈ Lib.compact (sorted (sa ++ sb)), s.length ≤ 9223372036854775807 := fun s hs => by
  have := List.mem_mergeSort.1 (compact_mem hs)
  rcases List.mem_append.1 this with h | h
  ·exact hsa s h
  ·exact hsb s h
 have hrep : Rep w5 (fun b o => S b o ∨ (b = g ∧ o < (Lib.compact (sorted (sa ++ sb))).length)) (.lst ((Lib.compact (sorted (sa ++ sb))).map fun s => [.str s])) (.slice (some ⟨g, 0, none⟩) (Lib.compact (sorted (sa ++ sb))).length cap) := by
  have := rep_lst_row (cap := cap) (b := g) (one (Lib.compact (sorted (sa ++ sb)))) (w := w5) (S := fun b o => S b o ∨ (b = g ∧ o < (Lib.compact (sorted (sa ++ sb))).length)) (values_strs hsm) (fun j v hj => ?_) (by rw [List.length_map]; exact Nat.le_trans hcl (by rw [hset]; exact hn3')) hm3
  ·rw [List.length_map] at this; exact this
  ·have hlt := (List.getElem?_eq_some_iff.1 hj).1
   have := hcells j v hj
   rw [addr_add, Nat.zero_add] at this
   exact ⟨this, .inr ⟨rfl, by simpa using hlt⟩⟩
 have hlb : ∀ b o, S b o → b < w.heap.size := fun b o hs => by
  obtain ⟨v, hv⟩ := hlive b o hs
  exact cell_lt hv
 obtain ⟨_, hrow⟩ := own5
 rcases hrow with ⟨e0, _⟩ | ⟨g0, cap0, cur, e0, _, hg0, hcap, hmax, hsz, _⟩
 ·cases e0
 ·cases e0
  refine leaves_end (end_tmp hres) ⟨_, _, rfl, hrep, one _, ⟨_, _, _, rfl, .inr ⟨g, rfl, .inl hgB, ⟨cur, _, hg0, hsz⟩, hcap, hmax, fun o ho hS => ?_⟩⟩, ⟨hb5.os, hb5.tape, hb5.output, hb5.size, fun k hk => hb5.block k (Nat.lt_of_not_le fun h => hk (.inl h))⟩, fun b o hs => ⟨.inl hs, hb5.cell (p := ⟨b, o, none⟩) (hlb b o hs)⟩, fun b o hs => ?_, fun b o hs => ?_⟩
  ·rcases hS with hS | ⟨_, hS⟩
   ·have := hlb _ _ hS; omega
   ·omega
  ·rcases hs with hs | ⟨rfl, _⟩
   ·exact .inl hs
   ·exact .inr (.inl hgB)
  ·rcases hs with hs | ⟨rfl, ho⟩
   ·obtain ⟨v, hv⟩ := hlive b o hs
    exact ⟨v, (hb5.cell (p := ⟨b, o, none⟩) (cell_lt hv)).trans hv⟩
   ·have := hcells o (encStr ((Lib.compact (sorted (sa ++ sb)))[o])) (by rw [List.getElem?_map, List.getElem?_eq_getElem ho]; rfl)
    rw [addr_add, Nat.zero_add] at this
    exact ⟨_, this⟩
end Go.Abs
end
section
set_option linter.unusedSimpArgs false
set_option linter.unusedVariables false
set_option linter.unusedSectionVars false
namespace Go.Abs
open Go.Proofs
theorem mem_freeL {l : List Pred} {x : Str} : x ∈ freeL l ↔ ∃ q ∈ l, q.op = 3 ∧ q.name = x := by
 unfold freeL
 simp [List.mem_map, List.mem_filter, and_assoc]
theorem mem_pre {o : Int} {s : Str} {n : Int} {ks : List Pred} {q : Pred} : q ∈ Pred.pre (.mk o s n ks) ↔ q = .mk o s n ks ∨ ∃ k ∈ ks, q ∈ k.pre := by
 rw [Pred.pre_eq, List.mem_cons]
 refine or_congr Iff.rfl ?_
 induction ks with
 | nil => simp [Pred.pre.pres]
 | cons k ks ih => rw [Pred.pre.pres, List.mem_append, ih]; simp
theorem mem_freeSi {p : Pred} {x : Str} : x ∈ freeS p ↔ ∃ q ∈ p.pre, q.op = 3 ∧ q.name = x := by
 unfold freeS
 rw [mem_unionS, mem_freeL]; simp
def hasP (l : List Pred) (p : Pred) : Bool := l.any fun y => p.same y
theorem same_comm (a b : Pred) : a.same b = b.same a := by
 rw [Bool.eq_iff_iff, Pred.same_iff, Pred.same_iff]; exact eq_comm
theorem hasP_mid {done r l : List Pred} {k p : Pred} (hl : l = done ++ k :: r) (h : ∀ y ∈ done, p.same y = false) : hasP l p = if p.same k then true else hasP r p := by
 subst hl
 unfold hasP
 rw [List.any_append, List.any_cons]
 have : done.any (fun y => p.same y) = false := by
  rw [List.any_eq_false]; intro y hy; rw [h y hy]; simp
 rw [this, Bool.false_or]
 cases p.same k <;> rfl
theorem hasP_none {l : List Pred} {p : Pred} (h : ∀ y ∈ l, p.same y = false) : hasP l p = false := by
 unfold hasP; rw [List.any_eq_false]; intro y hy; rw [h y hy]; simp
def innerP (t : Int) : Pred → List Pred → List Pred
 | .mk o s n ks, l => if o == t && !hasP (inners ks l) (.mk o s n ks) then inners ks l ++ [.mk o s n ks] else inners ks l
where
 inners : List Pred → List Pred → List Pred
 | [], l => l
 | k :: ks, l => inners ks (innerP t k l)
theorem inners_fold (t : Int) (ks l : List Pred) : innerP.inners t ks l = ks.foldl (fun l k => innerP t k l) l := by
 induction ks generalizing l with
 | nil => rw [innerP.inners]; rfl
 | cons k ks ih => rw [innerP.inners, ih]; rfl
theorem innerP_eq (t o : Int) (s : Str) (n : Int) (ks l : List Pred) : innerP t (.mk o s n ks) l =
  if o == t && !hasP (ks.foldl (fun l k => innerP t k l) l) (.mk o s n ks) then ks.foldl (fun l k => innerP t k l) l ++ [.mk o s n ks] else ks.foldl (fun l k => innerP t k l) l := by
 rw [innerP, inners_fold]
theorem inner_fold_len (t : Int) : ∀ (ks l : List Pred), (∀ k ∈ ks, ∀ l, (innerP t k l).length ≤ l.length + k.cnt) → (ks.foldl (fun l k => innerP t k l) l).length ≤ l.length + Pred.cnts ks
 | [], l, _ => by simp
 | k :: ks, l, h => by
  rw [List.foldl_cons, Pred.cnts]
  have h1 := inner_fold_len t ks (innerP t k l) fun y hy => h y (by simp [hy])
  have h2 := h k (by simp) l
  omega
theorem innerP_len (t : Int) (p : Pred) : ∀ l, (innerP t p l).length ≤ l.length + p.cnt := by
 induction p using Pred.ind with
 | h o s n ks ih =>
 intro l
 have h := inner_fold_len t ks l ih
 rw [innerP_eq, Pred.cnt]
 split
 ·rw [List.length_append, List.length_singleton]; omega
 ·omega
def splitP : Pred → List Pred
 | .mk o s n [a, b] => if o == 15 then splitP a ++ splitP b else if voidP (.mk o s n [a, b]) then [] else [.mk o s n [a, b]]
 | p => if voidP p then [] else [p]
theorem splitP_and (s : Str) (n : Int) (a b : Pred) : splitP (.mk 15 s n [a, b]) = splitP a ++ splitP b := by rw [splitP]; rfl
theorem splitP_else {o : Int} {s : Str} {n : Int} {ks : List Pred} (h : (o == 15 && (ks.length : Int) == 2) = false) : splitP (.mk o s n ks) = if voidP (.mk o s n ks) then [] else [.mk o s n ks] := by
 match ks with
 | [] => rw [splitP]; intro _ _ _ _ _ h; cases h
 | [a] => rw [splitP]; intro _ _ _ _ _ h; cases h
 | [a, b] =>
  have ho : (o == 15) = false := by
   have e : (((([a, b] : List Pred).length : Nat) : Int) == 2) = true := rfl
   rw [e, Bool.and_true] at h; exact h
  rw [splitP, ho]; rfl
 | a :: b :: c :: r => rw [splitP]; intro _ _ _ _ _ h; cases h
end Go.Abs
end
section
set_option linter.unusedSimpArgs false
set_option linter.unusedVariables false
set_option linter.unusedSectionVars false
namespace Go.Abs
structure SSol where
 name : Str
 pred : Pred
def SSol.cells (v : SSol) : List D := .str v.name :: v.pred.cells
theorem sub_one {x : Str} {b : Pred} {o : Int} {s : Str} {n : Int} {ks : List Pred} : subAll [x] [b] (.mk o s n ks) = if o == 3 && s == x then b else .mk o s n (ks.map (subAll [x] [b])) := by
 rw [subAll_eq]
 have e : (decide (findIx s 0 [x] ≥ 0) && decide (findIx s 0 [x] < (([b] : List Pred).length : Int))) = (s == x) := by
  unfold findIx
  by_cases h : x = s
  ·subst h; simp
  ·simp only [h, if_false, beq_eq_false_iff_ne.2 (fun e : s = x => h e.symm)]
   unfold findIx
   rfl
 rw [e]
 by_cases h : (o == 3 && s == x) = true
 ·rw [if_pos h, if_pos h]
  have hs : s = x := by simp at h; exact h.2
  subst hs
  unfold findIx
  simp
 ·rw [if_neg h, if_neg h]
theorem map_id_of {l : List Pred} {f : Pred → Pred} (h : ∀ k ∈ l, f k = k) : l.map f = l := by
 induction l with
 | nil => rfl
 | cons k l ih => rw [List.map_cons, h k (by simp), ih fun y hy => h y (by simp [hy])]
def Vars : Pred → Prop := AllN fun q => q.op = 3 → q.kids = [] ∧ q.n = 0
theorem sub_self {x : Str} (p : Pred) (h : Vars p) : subAll [x] [.mk 3 x 0 []] p = p := by
 induction p using Pred.ind with
 | h o s n ks ih =>
 rw [sub_one]
 by_cases hc : (o == 3 && s == x) = true
 ·rw [if_pos hc]
  simp at hc
  obtain ⟨rfl, rfl⟩ := hc
  obtain ⟨h1, h2⟩ := h.top rfl
  simp only [Pred.kids, Pred.n] at h1 h2
  rw [h1, h2]
 ·rw [if_neg hc, map_id_of fun k hk => ih k hk (h.kid hk)]
end Go.Abs
end
section
set_option linter.unusedSimpArgs false
set_option linter.unusedVariables false
set_option linter.unusedSectionVars false
namespace Go.Abs
theorem cnts_app (a b : List Pred) : Pred.cnts (a ++ b) = Pred.cnts a + Pred.cnts b := by
 induction a with
 | nil => simp [Pred.cnts]
 | cons x a ih => rw [List.cons_append, Pred.cnts, Pred.cnts, ih]; omega
theorem getD_in {l : List Pred} {i : Nat} (h : i < l.length) : l.getD i zeroP ∈ l := by
 rw [List.getD_eq_getElem?_getD, List.getElem?_eq_getElem h]
 exact List.getElem_mem h
theorem subAll_tame {names : List Str} {by' : List Pred} (hb : ∀ b ∈ by', Tame b) (p : Pred) (hp : Tame p) : Tame (subAll names by' p) := by
 induction p using Pred.ind with
 | h o s n ks ih =>
 rw [subAll_eq]
 split
 ·rename_i hc
  simp only [Bool.and_eq_true, decide_eq_true_eq] at hc
  exact hb _ (getD_in (l := by') (i := (findIx s 0 names).toNat) (by omega))
 ·refine AllN.mk ?_ fun k hk => ?_
  ·have := hp.top
   simpa [Pred.kids] using this
  ·obtain ⟨k', hk', rfl⟩ := List.mem_map.1 hk
   exact ih k' hk' (hp.kid hk')
theorem true_tame : Tame trueP := tame_of_cnt _ (by decide)
end Go.Abs
end
section
set_option linter.unusedSimpArgs false
set_option linter.unusedVariables false
set_option linter.unusedSectionVars false
namespace Go.Abs
set_option maxRecDepth 100000
variable {E : AEnv} (Z : Sys E)
include Z
theorem r07_Has_ev (l : List Pred) (p : Pred) : E.C r07_Has [.one (.lst (l.map Pred.cells)), .agg p.cells] (.one (.bool (hasP l p))) := by
 have hs := r07_Same_ev Z
 refine Z.r07_Has _ _ ⟨Nat.le_of_ble_eq_true rfl, ?_⟩
 generalize hR : hasP l p = R
 obtain ⟨o, s, n, ks⟩ := p
 have hs := fun k => hs k (.mk o s n ks)
 rw [Pred.cells_eq (.mk o s n ks)] at *
 simp only [fn_r07_Has, go_sem, Pred.op, Pred.name, Pred.n, Pred.kids] at hs ⊢
 intro hlen
 refine loop_list l (fun done => ∀ y ∈ done, (Pred.mk o s n ks).same y = false) (fun done rest => ⟨[(9, .d (.int .i64 done.length)), (8, .d (.int .i64 l.length)), (7, .d (.lst (l.map Pred.cells))), (3, .ptr 3 0)], [(3, [.d (.int .i64 o), .d (.str s), .d (.int .i64 n), .d (.lst (ks.map Pred.cells))])], []⟩) ?_ (by simp) ?_ ?_
 ·exact Ent_plain (by simp only [go_sem, Option.isSome_some])
 ·intro done k r hl hI
  have hlt := lt_mid hl
  have hw : IntKind.i64.wrap ((done.length : Int) + 1) = ((done.length + 1 : Nat) : Int) := wrap_succ (by omega)
  rw [hasP_mid hl hI, same_comm] at hR
  simp only [fn_r07_Has_L1, go_sem, hlt, getD_midP hl, List.length_map, drop_cells]
  refine call_by (hs k) ?_
  cases c0 : k.same (Pred.mk o s n ks) with
  | true =>
   simp only [c0, go_sem] at hR ⊢
   exact hR
  | false =>
   simp only [go_sem, hw, List.length_append]
   exact ⟨Ent_plain (by simp only [go_sem, Option.isSome_some]), app_all hI (by rw [same_comm]; exact c0)⟩
 ·intro hI
  rw [hasP_none hI] at hR
  simp only [fn_r07_Has_L1, go_sem, ← hR]
end Go.Abs
end
section
set_option linter.unusedSimpArgs false
set_option linter.unusedVariables false
set_option linter.unusedSectionVars false
namespace Go.Abs
theorem splitP_len (p : Pred) : (splitP p).length ≤ p.cnt := by
 induction p using Pred.ind with
 | h o s n ks ih =>
 cases hc : (o == 15 && (ks.length : Int) == 2) with
 | true =>
  obtain ⟨ho, hk⟩ := Bool.and_eq_true_iff.1 hc
  have hk2 : ((ks.length : Nat) : Int) = 2 := by simpa using hk
  obtain ⟨a, b, rfl⟩ := pair_split (l := ks) (by omega)
  have ho : o = 15 := by simpa using ho
  subst ho
  rw [splitP_and, List.length_append]
  have h1 := ih a (by simp)
  have h2 := ih b (by simp)
  simp only [Pred.cnt, Pred.cnts]
  omega
 | false =>
  rw [splitP_else hc, Pred.cnt]
  split <;> simp
set_option maxRecDepth 100000
variable {E : AEnv} (Z : Sys E)
include Z
theorem r07_collect_ev (t : Int) (p : Pred) : ∀ l : List Pred, l.length + p.cnt ≤ 1073741824 → E.C r07_collect [.agg p.cells, .one (.int .i64 t), .one (.lst (l.map Pred.cells))] (.own (some 2) 4 ((innerP t p l).map Pred.cells)) := by
 induction p using Pred.ind with
 | h o s n ks ih =>
 intro l hn
 have hhas := fun l => r07_Has_ev Z l (.mk o s n ks)
 refine Z.r07_collect _ _ ⟨Nat.le_of_ble_eq_true rfl, ?_⟩
 have hlenK := inner_fold_len t
 generalize hR : innerP t (.mk o s n ks) l = R
 rw [innerP_eq] at hR
 rw [Pred.cnt] at hn
 rw [Pred.cells_eq (.mk o s n ks)] at *
 have hrs : fn_r07_collect.rs = [.t 6] := rfl
 simp only [fn_r07_collect, go_sem, Pred.op, Pred.name, Pred.n, Pred.kids] at hhas ⊢
 intro hlen
 refine loop_named fun K' hK => ?_
 refine loop_list ks (fun _ => True) (fun done rest => ⟨[(12, .d (.int .i64 done.length)), (11, .d (.int .i64 ks.length)), (10, .d (.lst (ks.map Pred.cells))), (1, .d (.int .i64 t)), (2, .own 2 4 ((done.foldl (fun l k => innerP t k l) l).map Pred.cells)), (3, .ptr 3 0)], [(3, [.d (.int .i64 o), .d (.str s), .d (.int .i64 n), .d (.lst (ks.map Pred.cells))])], [(2, true)]⟩) ?_ trivial ?_ ?_
 ·exact Ent_own [(2, 2)] (by simp only [go_sem, List.contains_nil, Option.isSome_some, List.foldl_nil])
 ·intro done k r hl _
  have hk' := ih k (by rw [hl]; simp) (done.foldl (fun l k => innerP t k l) l) (by
   have h1 := hlenK done l fun k _ l => innerP_len t k l
   have h2 : Pred.cnts ks = Pred.cnts done + (k.cnt + Pred.cnts r) := by rw [hl, cnts_app, Pred.cnts]
   omega)
  have hlt := lt_mid hl
  have hw : IntKind.i64.wrap ((done.length : Int) + 1) = ((done.length + 1 : Nat) : Int) := wrap_succ (by omega)
  simp only [fn_r07_collect_L1, go_sem, hlt, getD_midP hl, List.length_map, drop_cells]
  refine call_by hk' ?_
  simp only [go_sem, hw, List.length_append]
  refine Ent_own [(2, 19)] ?_
  simp only [go_sem, List.contains_nil, Option.isSome_some, List.foldl_append, List.foldl_cons, List.foldl_nil]
 ·intro _
  have h1 := hlenK ks l fun k _ l => innerP_len t k l
  generalize ks.foldl (fun l k => innerP t k l) l = m at *
  simp only [fn_r07_collect_L1, go_sem, hK]
  cases c0 : (o == t) with
  | false =>
   simp only [c0, go_sem] at hR ⊢
   refine ⟨.one (.bool false), ?_⟩
   simp only [go_sem, hrs, hR]
  | true =>
   simp only [c0, go_sem] at hR ⊢
   refine call_by (hhas m) ?_
   simp only [go_sem]
   cases c1 : hasP m (.mk o s n ks) with
   | true =>
    simp only [c1, go_sem] at hR ⊢
    simp only [hrs, hR, go_sem]
   | false =>
    simp only [c1, go_sem] at hR ⊢
    have ha : (m.length + 1) * 56 ≤ 2 ^ 46 := by omega
    simp only [go_sem, List.length_map, Pred.lens_true, ha]
    refine ⟨⟨by simp, by omega⟩, ?_⟩
    rw [← hR]
    simp only [hrs, go_sem, List.map_append, List.map_cons, List.map_nil, Pred.cells_eq (.mk o s n ks), Pred.op, Pred.name, Pred.n, Pred.kids]
theorem r07_Apps_ev (p : Pred) (hn : p.cnt ≤ 1073741824) : E.C r07_Apps [.agg p.cells] (.one (.lst ((innerP 4 p []).map Pred.cells))) := by
 have h := r07_collect_ev Z 4 p [] (by simpa using hn)
 refine Z.r07_Apps _ _ ⟨Nat.le_of_ble_eq_true rfl, ?_⟩
 generalize innerP 4 p [] = R at *
 rw [Pred.cells_eq p] at *
 simp only [fn_r07_Apps, go_sem]
 refine call_by h ?_
 simp only [go_sem, List.not_mem_nil, false_implies, implies_true]
theorem r07_Split_ev (p : Pred) (hn : p.cnt ≤ 1073741824) : E.C r07_Split [.agg p.cells] (.one (.lst ((splitP p).map Pred.cells))) := by
 induction p using Pred.ind with
 | h o s n ks ih =>
 have hv := r07_Void_ev Z (.mk o s n ks)
 refine Z.r07_Split _ _ ⟨Nat.le_of_ble_eq_true rfl, ?_⟩
 have hrs : fn_r07_Split.rs = [.t 2] := rfl
 cases hc : (o == 15 && (ks.length : Int) == 2) with
 | true =>
  obtain ⟨ho, hk⟩ := Bool.and_eq_true_iff.1 hc
  have hk2 : ((ks.length : Nat) : Int) = 2 := by simpa using hk
  obtain ⟨a, b, rfl⟩ := pair_split (l := ks) (by omega)
  have ho : o = 15 := by simpa using ho
  subst ho
  have hla := splitP_len a
  have hlb := splitP_len b
  simp only [Pred.cnt, Pred.cnts] at hn
  have ha := ih a (by simp) (by omega)
  have hb := ih b (by simp) (by omega)
  have hcl : Pred.cells (.mk 15 s n [a, b]) = [.int .i64 15, .str s, .int .i64 n, .lst [a.cells, b.cells]] := by rw [Pred.cells_eq]; rfl
  rw [splitP_and, hcl]
  generalize splitP a = A at *
  generalize splitP b = B at *
  have h4 : (∀ e ∈ [a.cells, b.cells], e.length = 4) = True := eq_true (by simp [Pred.cells_length])
  have o0 : A.length * 56 ≤ 2 ^ 46 := by omega
  have o1 : (A.length + B.length) * 56 ≤ 2 ^ 46 := by omega
  have o2 : A.length + B.length ≤ 9223372036854775807 := by omega
  have o3 : A.length ≤ 9223372036854775807 := by omega
  simp only [fn_r07_Split, go_sem, beq_self_eq_true, h4, Int.ofNat_eq_natCast]
  refine call_by ha ?_
  simp only [go_sem, h4, List.length_map, Pred.lens_true, o0, o3, List.not_mem_nil, false_implies, implies_true, Nat.zero_add]
  refine call_by hb ?_
  simp only [go_sem, h4, List.length_map, Pred.lens_true, o1, o2, hrs, List.map_append]
 | false =>
  rw [splitP_else hc]
  rw [Pred.cells_eq (.mk o s n ks)] at *
  simp only [fn_r07_Split, go_sem, Pred.op, Pred.name, Pred.n, Pred.kids] at hv ⊢
  intro _
  simp only [hc, go_sem]
  refine call_by hv ?_
  cases c1 : voidP (.mk o s n ks) with
  | true =>
   simp only [go_sem, hrs, List.map_nil]
  | false =>
   simp only [go_sem, hrs, Pred.cells_eq (.mk o s n ks), Pred.op, Pred.name, Pred.n, Pred.kids]
end Go.Abs
end
section
set_option linter.unusedSimpArgs false
set_option linter.unusedVariables false
set_option linter.unusedSectionVars false
namespace Go.Abs
theorem SSol.lens (l : List SSol) : (∀ e ∈ l.map SSol.cells, e.length = 5) = True := lens_map (f := SSol.cells) (fun s => by simp [SSol.cells, Pred.cells_length]) l
attribute [go_sem] SSol.lens
theorem SSol.cells_mk (t : Str) (o : Int) (s : Str) (n : Int) (ks : List Pred) : SSol.cells ⟨t, .mk o s n ks⟩ = [.str t, .int .i64 o, .str s, .int .i64 n, .lst (ks.map Pred.cells)] := by
 unfold SSol.cells; rw [Pred.cells_eq]; rfl
set_option maxRecDepth 100000
variable {E : AEnv} (Z : Sys E)
include Z
end Go.Abs
end
section
set_option linter.unusedSimpArgs false
set_option linter.unusedVariables false
set_option linter.unusedSectionVars false
namespace Go.Abs
theorem call_skip {d : Option Nat} {K : St → Prop} {st : St} {av : List AV} (hk : callK (some false) d K st av (.one (.bool false))) : ∃ r, callK (some false) d K st av r := ⟨_, hk⟩
set_option maxRecDepth 100000
section
variable {E : AEnv} (Z : Sys E)
include Z
end
end Go.Abs
end
section
set_option linter.unusedSimpArgs false
set_option linter.unusedVariables false
set_option linter.unusedSectionVars false
namespace Go.Abs
theorem and_false {l done r : List Pred} {k : Pred} (hl : l = done ++ k :: r) (hk : k.same falseP = true) : andP l = falseP := by
 unfold andP
 have : l.any isFalse = true := by
  rw [hl, List.any_append, List.any_cons, isFalse_eq, hk]; simp
 rw [if_pos this]
set_option maxRecDepth 100000
end Go.Abs
end
section
set_option linter.unusedSimpArgs false
set_option linter.unusedVariables false
set_option linter.unusedSectionVars false
namespace Go.Abs
inductive Val where
 | mk (op n : Int) (name : Str) (kids : List Val) (ps bd bs : D)
namespace Val
def op : Val → Int | .mk o _ _ _ _ _ _ => o
def n : Val → Int | .mk _ n _ _ _ _ _ => n
def name : Val → Str | .mk _ _ s _ _ _ _ => s
def kids : Val → List Val | .mk _ _ _ k _ _ _ => k
mutual
def cells : Val → List D
 | .mk o n s ks p b d => [.int .i64 o, .int .i64 n, .str s, .lst (cellss ks), p, b, d]
def cellss : List Val → List (List D)
 | [] => []
 | k :: ks => cells k :: cellss ks
end
theorem cellss_eq (ks : List Val) : cellss ks = ks.map cells := by
 induction ks with
 | nil => simp [cellss]
 | cons k ks ih => simp [cellss, ih]
theorem cells_mk (o n : Int) (s : Str) (ks : List Val) (p b d : D) : cells (.mk o n s ks p b d) = [.int .i64 o, .int .i64 n, .str s, .lst (ks.map cells), p, b, d] := by rw [cells, cellss_eq]
theorem cells_length (v : Val) : (cells v).length = 7 := by cases v; rw [cells_mk]; rfl
theorem lens (l : List Val) : (∀ e ∈ l.map cells, e.length = 7) = True := lens_map (f := cells) cells_length l
theorem ind {P : Val → Prop} (h : ∀ o n s ks p b d, (∀ k ∈ ks, P k) → P (.mk o n s ks p b d)) : ∀ v, P v :=
 fun v => Val.rec (motive_1 := P) (motive_2 := fun ks => ∀ k ∈ ks, P k) h (fun k hk => by cases hk) (fun k ks hk hks x hx => by
  rcases List.mem_cons.1 hx with rfl | hx
  ·exact hk
  ·exact hks x hx) v
end Val
attribute [go_sem] Val.cells_length Val.lens
structure ConT where
 name : Str
 a : D
 b : D
def ConT.cells (c : ConT) : List D := [.str c.name, c.a, c.b]
structure DataT where
 name : Str
 vs : D
 ps : D
 cons : List ConT
def DataT.cells (d : DataT) : List D := [.str d.name, d.vs, d.ps, .lst (d.cons.map ConT.cells)]
def DataT.zero : DataT := ⟨[], .lst [], .lst [], []⟩
structure Cas where
 con : Str
 names : List Str
 body : Pred
def Cas.cells (c : Cas) : List D := .str c.con :: .lst (c.names.map fun k => [.str k]) :: c.body.cells
def Cas.zero : Cas := ⟨[], [], zeroP⟩
structure Meas where
 name : Str
 data : Str
 result : Str
 cases : List Cas
 inv : Pred
def Meas.cells (x : Meas) : List D := .str x.name :: .str x.data :: .str x.result :: .lst (x.cases.map Cas.cells) :: x.inv.cells
def Meas.zero : Meas := ⟨[], [], [], [], zeroP⟩
structure Mod where
 datas : List DataT
 cls : D
 ins : D
 meas : List Meas
 quals : D
 defs : D
def Mod.cells (m : Mod) : List D := [.lst (m.datas.map DataT.cells), m.cls, m.ins, .lst (m.meas.map Meas.cells), m.quals, m.defs]
theorem ConT.lens (l : List ConT) : (∀ e ∈ l.map ConT.cells, e.length = 3) = True := lens_map (f := ConT.cells) (fun _ => rfl) l
theorem DataT.lens (l : List DataT) : (∀ e ∈ l.map DataT.cells, e.length = 4) = True := lens_map (f := DataT.cells) (fun _ => rfl) l
theorem Cas.cells_length (c : Cas) : c.cells.length = 6 := by simp [Cas.cells, Pred.cells_length]
theorem Meas.cells_length (c : Meas) : c.cells.length = 8 := by simp [Meas.cells, Pred.cells_length]
theorem Cas.lens (l : List Cas) : (∀ e ∈ l.map Cas.cells, e.length = 6) = True := lens_map (f := Cas.cells) Cas.cells_length l
theorem Meas.lens (l : List Meas) : (∀ e ∈ l.map Meas.cells, e.length = 8) = True := lens_map (f := Meas.cells) Meas.cells_length l
attribute [go_sem] Cas.cells_length Meas.cells_length ConT.lens DataT.lens Cas.lens Meas.lens
def conIx (s : Str) : Nat → List ConT → Option Nat
 | _, [] => none
 | i, c :: r => if c.name == s then some i else conIx s (i + 1) r
def conOf (s : Str) : List DataT → Option (DataT × Nat)
 | [] => none
 | d :: r => match conIx s 0 d.cons with
  | some i => some (d, i)
  | none => conOf s r
def conS (s : Str) (l : List DataT) : DataT × Int × Bool := match conOf s l with
 | some (d, i) => (d, i, true)
 | none => (DataT.zero, 0, false)
theorem conIx_mid {s : Str} {c : ConT} {r : List ConT} : ∀ {a : List ConT} (i : Nat), (∀ y ∈ a, (y.name == s) = false) → conIx s i (a ++ c :: r) = if c.name == s then some (i + a.length) else conIx s (i + a.length + 1) r
 | [], i, _ => by rw [List.nil_append, conIx]; rfl
 | x :: a, i, h => by
  rw [List.cons_append, conIx, h x (by simp), conIx_mid (i + 1) fun y hy => h y (by simp [hy]), List.length_cons]
  rw [if_neg (by simp), show i + 1 + a.length = i + (a.length + 1) by omega]
theorem conIx_none {s : Str} : ∀ {a : List ConT} (i : Nat), (∀ y ∈ a, (y.name == s) = false) → conIx s i a = none
 | [], _, _ => rfl
 | x :: a, i, h => by rw [conIx, h x (by simp), conIx_none (i + 1) fun y hy => h y (by simp [hy])]; simp
theorem conOf_mid {s : Str} {d : DataT} {r : List DataT} : ∀ {a : List DataT}, (∀ y ∈ a, conIx s 0 y.cons = none) → conOf s (a ++ d :: r) = match conIx s 0 d.cons with
  | some i => some (d, i)
  | none => conOf s r
 | [], _ => by rw [List.nil_append, conOf]
 | x :: a, h => by
  rw [List.cons_append, conOf, h x (by simp)]
  exact conOf_mid fun y hy => h y (by simp [hy])
theorem conOf_none {s : Str} : ∀ {a : List DataT}, (∀ y ∈ a, conIx s 0 y.cons = none) → conOf s a = none
 | [], _ => rfl
 | x :: a, h => by rw [conOf, h x (by simp)]; exact conOf_none fun y hy => h y (by simp [hy])
def numd (base : Str) (n : Nat) : Str := base ++ Lib.itoa (n : Int)
def freshN (used : List Str) (base : Str) : Nat → Nat → Nat
 | 0, n => n
 | k + 1, n => if used.contains (numd base n) then freshN used base k (n + 1) else n
def freshS (used : List Str) (base : Str) : Str := if used.contains base then numd base (freshN used base (used.length + 1) 1) else base
theorem sub_len : ∀ {a b : List Str}, a.Nodup → (∀ x ∈ a, x ∈ b) → a.length ≤ b.length
 | [], b, _, _ => Nat.zero_le _
 | x :: a, b, hn, h => by
  obtain ⟨h1, h2⟩ := List.nodup_cons.1 hn
  have hx := h x (by simp)
  have : a.length ≤ (b.erase x).length := sub_len h2 fun y hy => by
   have hne : y ≠ x := fun e => h1 (e ▸ hy)
   exact (List.mem_erase_of_ne hne).2 (h y (by simp [hy]))
  have hl := List.length_erase_of_mem hx
  have hp := List.length_pos_of_mem hx
  rw [List.length_cons]; omega
theorem numd_inj {base : Str} {a b : Nat} (h : numd base a = numd base b) : a = b := by
 have := itoa_inj (List.append_cancel_left h)
 omega
theorem numd_nodup (base : Str) : ∀ (k n : Nat), ((List.range' n k).map (numd base)).Nodup := by
 intro k n
 unfold List.Nodup
 rw [List.pairwise_map]
 have : (List.range' n k).Pairwise (· ≠ ·) := List.nodup_range'
 exact this.imp fun h e => h (numd_inj e)
theorem taken_le {used : List Str} {base : Str} {k : Nat} (h : ∀ i, 1 ≤ i → i ≤ k → numd base i ∈ used) : k ≤ used.length := by
 have := sub_len (numd_nodup base k 1) (b := used) fun x hx => by
  obtain ⟨i, hi, rfl⟩ := List.mem_map.1 hx
  have := List.mem_range'_1.1 hi
  exact h i (by omega) (by omega)
 simpa using this
theorem freshN_spec {used : List Str} {base : Str} : ∀ (k n : Nat), n + k = used.length + 2 → 1 ≤ n → (∀ i, 1 ≤ i → i < n → numd base i ∈ used) → numd base (freshN used base k n) ∉ used ∧ n ≤ freshN used base k n ∧ freshN used base k n ≤ used.length + 1
 | 0, n, h, h1, hall => by
  have h3 : n - 1 ≤ used.length := taken_le (base := base) fun i a b => hall i a (by omega)
  omega
 | k + 1, n, h, h1, hall => by
  rw [freshN]
  split
  ·rename_i hc
   obtain ⟨a, b, c⟩ := freshN_spec (used := used) (base := base) k (n + 1) (by omega) (by omega) fun i x y => by
    by_cases hi : i = n
    ·subst hi; exact List.contains_iff_mem.1 hc
    ·exact hall i x (by omega)
   exact ⟨a, by omega, c⟩
  ·rename_i hc
   have : n - 1 ≤ used.length := taken_le (used := used) (base := base) (k := n - 1) fun i a b => hall i a (by omega)
   exact ⟨fun hm => hc (List.contains_iff_mem.2 hm), Nat.le_refl _, by omega⟩
theorem freshN_at {used : List Str} {base : Str} : ∀ (k n m : Nat), n + k = used.length + 2 → 1 ≤ n → (∀ i, n ≤ i → i < m → numd base i ∈ used) → (∀ i, 1 ≤ i → i < n → numd base i ∈ used) → n ≤ m → numd base m ∉ used → freshN used base k n = m
 | 0, n, m, h, h1, ha, hb, hnm, hno => by
  have := taken_le (used := used) (base := base) (k := n - 1) fun i a b => hb i a (by omega)
  omega
 | k + 1, n, m, h, h1, ha, hb, hnm, hno => by
  rw [freshN]
  by_cases hm : n = m
  ·subst hm
   rw [if_neg fun hc => hno (List.contains_iff_mem.1 hc)]
  ·have hn := ha n (Nat.le_refl _) (by omega)
   rw [if_pos (List.contains_iff_mem.2 hn)]
   refine freshN_at k (n + 1) m (by omega) (by omega) (fun i a b => ha i (by omega) b) (fun i a b => ?_) (by omega) hno
   by_cases hi : i = n
   ·subst hi; exact hn
   ·exact hb i a (by omega)
theorem freshS_not {used : List Str} {base : Str} : freshS used base ∉ used := by
 unfold freshS
 split
 ·exact (freshN_spec (used.length + 1) 1 (by omega) (Nat.le_refl _) fun i a b => by omega).1
 ·rename_i h
  exact fun hm => h (List.contains_iff_mem.2 hm)
theorem freshS_base {used : List Str} {base : Str} (h : used.contains base = false) : freshS used base = base := by unfold freshS; rw [h]; rfl
theorem freshS_num {used : List Str} {base : Str} (h : used.contains base = true) {m : Nat} (h1 : 1 ≤ m) (ha : ∀ i, 1 ≤ i → i < m → numd base i ∈ used) (hm : numd base m ∉ used) : freshS used base = numd base m := by
 unfold freshS
 rw [if_pos h, freshN_at (used.length + 1) 1 m (by omega) (Nat.le_refl _) ha (fun i a b => by omega) h1 hm]
theorem freshS_cases {used : List Str} {base : Str} : freshS used base = base ∨ ∃ n : Nat, 1 ≤ n ∧ n ≤ used.length + 1 ∧ freshS used base = numd base n := by
 unfold freshS
 split
 ·obtain ⟨_, b, c⟩ := freshN_spec (used := used) (base := base) (used.length + 1) 1 (by omega) (Nat.le_refl _) fun i a b => by omega
  exact .inr ⟨_, b, c, rfl⟩
 ·exact .inl rfl
end Go.Abs
end
section
set_option linter.unusedSimpArgs false
set_option linter.unusedVariables false
set_option linter.unusedSectionVars false
namespace Go.Abs
def appVar (o : Int) (ks : List Pred) : Option Str := if o == 4 then (match ks with
 | [.mk o2 x _ _] => if o2 == 3 then some x else none
 | _ => none) else none
theorem appVar_some {o : Int} {ks : List Pred} {x : Str} (h : appVar o ks = some x) : o = 4 ∧ ∃ n l, ks = [.mk 3 x n l] := by
 unfold appVar at h
 split at h
 ·rename_i ho
  refine ⟨by simpa using ho, ?_⟩
  split at h
  ·rename_i o2 y n l
   split at h
   ·rename_i h3
    have h3 : o2 = 3 := by simpa using h3
    cases h
    exact ⟨n, l, by rw [h3]⟩
   ·cases h
  ·cases h
 ·cases h
structure FSt where
 used : List Str
 at' : List Coef
abbrev KFun := Str → Str → Option (Int × Bool)
def sZ : Str := [122]
def FSt.next (K : KFun) (x s : Str) (st : FSt) : FSt := ⟨st.used ++ [freshS st.used sZ], match K x s with
 | some (a, true) => st.at' ++ [⟨freshS st.used sZ, a⟩]
 | _ => st.at'⟩
def flatP (all : Bool) (K : KFun) : Pred → FSt → Pred × FSt
 | .mk o s n ks, st => match appVar o ks with
  | some x => if all || (K x s).isSome then (pv (freshS st.used sZ), st.next K x s) else (.mk o s n (go ks st).1, (go ks st).2)
  | none => (.mk o s n (go ks st).1, (go ks st).2)
where
 go : List Pred → FSt → List Pred × FSt
 | [], st => ([], st)
 | k :: ks, st => ((flatP all K k st).1 :: (go ks (flatP all K k st).2).1, (go ks (flatP all K k st).2).2)
def isCut (all : Bool) (K : KFun) (o : Int) (s : Str) (ks : List Pred) : Option Str := match appVar o ks with
 | some x => if all || (K x s).isSome then some x else none
 | none => none
theorem flatP_cut {all : Bool} {K : KFun} {o : Int} {s : Str} {n : Int} {ks : List Pred} {x : Str} (h : isCut all K o s ks = some x) (st : FSt) : flatP all K (.mk o s n ks) st = (pv (freshS st.used sZ), st.next K x s) := by
 unfold isCut at h
 rw [flatP]
 split at h
 ·rename_i y hy
  split at h
  ·rename_i hc; cases h; rw [if_pos hc]
  ·cases h
 ·cases h
theorem flatP_node {all : Bool} {K : KFun} {o : Int} {s : Str} {n : Int} {ks : List Pred} (h : isCut all K o s ks = none) (st : FSt) : flatP all K (.mk o s n ks) st = (.mk o s n (flatP.go all K ks st).1, (flatP.go all K ks st).2) := by
 unfold isCut at h
 rw [flatP]
 split at h
 ·rename_i y hy
  split at h
  ·cases h
  ·rename_i hc; rw [if_neg hc]
 ·rfl
theorem go_app {all : Bool} {K : KFun} : ∀ (a b : List Pred) (st : FSt), flatP.go all K (a ++ b) st = ((flatP.go all K a st).1 ++ (flatP.go all K b (flatP.go all K a st).2).1, (flatP.go all K b (flatP.go all K a st).2).2)
 | [], b, st => by simp [flatP.go]
 | k :: a, b, st => by simp only [List.cons_append, flatP.go, go_app a b]
theorem go_one {all : Bool} {K : KFun} (k : Pred) (st : FSt) : flatP.go all K [k] st = ([(flatP all K k st).1], (flatP all K k st).2) := by simp only [flatP.go]
theorem go_len {all : Bool} {K : KFun} : ∀ (l : List Pred) (st : FSt), (flatP.go all K l st).1.length = l.length
 | [], _ => rfl
 | k :: l, st => by simp only [flatP.go, List.length_cons, go_len l]
theorem findC_snoc {x z : Str} {a : Int} {l : List Coef} (h : x ≠ z) : findC x (l ++ [⟨z, a⟩]) = findC x l := by
 induction l with
 | nil =>
  have : (z == x) = false := by simpa using fun e => h e.symm
  simp [findC, this]
 | cons c l ih =>
  rw [List.cons_append, findC, findC, ih]
theorem findC_new {z : Str} {a : Int} {l : List Coef} (h : ∀ c ∈ l, c.name ≠ z) : findC z (l ++ [⟨z, a⟩]) = (a, true) := by
 rw [findC_mid fun y hy => by simpa using h y hy]
 simp
theorem findC_not {z : Str} {l : List Coef} (h : ∀ c ∈ l, c.name ≠ z) : findC z l = (0, false) := findC_all fun y hy => by simpa using h y hy
def FSt.Ok (st : FSt) : Prop := ∀ c ∈ st.at', c.name ∈ st.used
def FSt.Sub (st st' : FSt) : Prop := ∀ x ∈ st.used, x ∈ st'.used
def FSt.Keep (st : FSt) (A : List Coef) : Prop := ∀ x ∈ st.used, findC x A = findC x st.at'
theorem FSt.Keep.trans {st st' : FSt} {A : List Coef} (hs : st.Sub st') (hk : st.Keep st'.at') (h : st'.Keep A) : st.Keep A := fun x hx => (h x (hs x hx)).trans (hk x hx)
theorem FSt.next_ok {K : KFun} {x s : Str} {st : FSt} (h : st.Ok) : (st.next K x s).Ok := by
 intro c hc
 have hc : c ∈ st.at' ∨ c.name = freshS st.used sZ := by
  unfold FSt.next at hc
  simp only at hc
  split at hc
  ·rcases List.mem_append.1 hc with hc | hc
   ·exact .inl hc
   ·simp only [List.mem_singleton] at hc; subst hc; exact .inr rfl
  ·exact .inl hc
 show c.name ∈ st.used ++ [freshS st.used sZ]
 rcases hc with hc | hc
 ·exact List.mem_append_left _ (h c hc)
 ·rw [hc]; simp
theorem FSt.next_sub {K : KFun} {x s : Str} {st : FSt} : st.Sub (st.next K x s) := fun y hy => List.mem_append_left _ hy
theorem FSt.next_keep {K : KFun} {x s : Str} {st : FSt} : st.Keep (st.next K x s).at' := by
 intro y hy
 have hne : y ≠ freshS st.used sZ := fun e => freshS_not (e ▸ hy)
 show findC y (match K x s with | some (a, true) => st.at' ++ [⟨freshS st.used sZ, a⟩] | _ => st.at') = _
 split
 ·exact findC_snoc hne
 ·rfl
def kval (K : KFun) (x s : Str) : Int × Bool := match K x s with
 | some (a, true) => (a, inRange a)
 | _ => (0, false)
def evalK (all : Bool) (K : KFun) (at0 : List Coef) : Pred → Int × Bool
 | .mk o s n ks => match isCut all K o s ks with
  | some x => kval K x s
  | none => if oks ks then topP at0 [] o s n (ns ks) else (0, false)
where
 oks : List Pred → Bool
 | [] => true
 | k :: ks => (evalK all K at0 k).2 && oks ks
 ns : List Pred → List Int
 | [] => []
 | k :: ks => (evalK all K at0 k).1 :: ns ks
theorem evalK_eq (all : Bool) (K : KFun) (at0 : List Coef) (o : Int) (s : Str) (n : Int) (ks : List Pred) : evalK all K at0 (.mk o s n ks) = match isCut all K o s ks with
  | some x => kval K x s
  | none => if ks.all (fun k => (evalK all K at0 k).2) then topP at0 [] o s n (ks.map fun k => (evalK all K at0 k).1) else (0, false) := by
 rw [evalK]
 have h1 : evalK.oks all K at0 ks = ks.all (fun k => (evalK all K at0 k).2) := by
  induction ks with
  | nil => rfl
  | cons k ks ih => rw [evalK.oks, ih]; rfl
 have h2 : evalK.ns all K at0 ks = ks.map fun k => (evalK all K at0 k).1 := by
  clear h1
  induction ks with
  | nil => rfl
  | cons k ks ih => rw [evalK.ns, ih]; rfl
 rw [h1, h2]
def HasVar (p : Pred) (x : Str) : Prop := ∃ q ∈ p.pre, q.op = 3 ∧ q.name = x
theorem HasVar.kid {o : Int} {s : Str} {n : Int} {ks : List Pred} {k : Pred} {x : Str} (hk : k ∈ ks) (h : HasVar k x) : HasVar (.mk o s n ks) x := by
 obtain ⟨q, h1, h2⟩ := h
 exact ⟨q, mem_pre.2 (.inr ⟨k, hk, h1⟩), h2⟩
theorem HasVar.top {s : Str} {n : Int} {ks : List Pred} : HasVar (.mk 3 s n ks) s := ⟨_, mem_pre.2 (.inl rfl), rfl, rfl⟩
def FSt.Knows (st : FSt) (at0 : List Coef) (P : Str → Prop) : Prop := ∀ x, P x → x ∈ st.used ∧ findC x st.at' = findC x at0
theorem FSt.Knows.next {st st' : FSt} {at0 : List Coef} {P Q : Str → Prop} (h : st.Knows at0 P) (hs : st.Sub st') (hk : st.Keep st'.at') (hq : ∀ x, Q x → P x) : st'.Knows at0 Q := fun x hx => by
 obtain ⟨a, b⟩ := h x (hq x hx)
 exact ⟨hs x a, (hk x a).trans b⟩
theorem topP_at {A at0 : List Coef} {o : Int} {s : Str} {n : Int} {l : List Int} (h : o = 3 → findC s A = findC s at0) : topP A [] o s n l = topP at0 [] o s n l := by
 unfold topP
 by_cases h3 : o = 3
 ·rw [h h3]
 ·have : (o == 3) = false := by simpa using h3
  simp only [this, Bool.false_eq_true, if_false]
theorem flat_val (all : Bool) (K : KFun) (at0 : List Coef) (p : Pred) : ∀ st : FSt, st.Ok → st.Knows at0 (HasVar p) →
  (flatP all K p st).2.Ok ∧ st.Sub (flatP all K p st).2 ∧ st.Keep (flatP all K p st).2.at' ∧ ∀ A, (flatP all K p st).2.Keep A → valP A [] (flatP all K p st).1 = evalK all K at0 p := by
 induction p using Pred.ind with
 | h o s n ks ih =>
 intro st hok hkn
 cases hc : isCut all K o s ks with
 | some x =>
  rw [flatP_cut hc]
  refine ⟨FSt.next_ok hok, FSt.next_sub, FSt.next_keep, fun A hA => ?_⟩
  have hz := hA (freshS st.used sZ) (by show _ ∈ st.used ++ [_]; simp)
  have hnot : ∀ c ∈ st.at', c.name ≠ freshS st.used sZ := fun c hc e => freshS_not (e ▸ hok c hc)
  rw [evalK_eq, hc]
  show valP A [] (.mk 3 (freshS st.used sZ) 0 []) = kval K x s
  rw [valP_eq]
  simp only [List.all_nil, if_true, List.map_nil]
  unfold topP
  simp only [show ((3 : Int) == 1) = false from rfl, show ((3 : Int) == 2) = false from rfl, show ((3 : Int) == 3) = true from rfl, Bool.or_self, Bool.false_eq_true, if_false, if_true]
  rw [hz]
  unfold kval FSt.next
  simp only
  split
  ·rename_i a ha
   rw [findC_new hnot]
   simp
  ·rw [findC_not hnot]
   rfl
 | none =>
  have key : ∀ (l : List Pred), (∀ k ∈ l, k ∈ ks) → ∀ st : FSt, st.Ok → st.Knows at0 (HasVar (.mk o s n ks)) →
    (flatP.go all K l st).2.Ok ∧ st.Sub (flatP.go all K l st).2 ∧ st.Keep (flatP.go all K l st).2.at' ∧ ∀ A, (flatP.go all K l st).2.Keep A → (flatP.go all K l st).1.map (valP A []) = l.map (evalK all K at0) := by
   intro l
   induction l with
   | nil => intro _ st hok hkn; exact ⟨hok, fun _ h => h, fun _ _ => rfl, fun _ _ => rfl⟩
   | cons k l ihl =>
    intro hin st hok hkn
    obtain ⟨a1, a2, a3, a4⟩ := ih k (hin k (by simp)) st hok (hkn.next (fun _ h => h) (fun _ _ => rfl) fun x hx => hx.kid (hin k (by simp)))
    obtain ⟨b1, b2, b3, b4⟩ := ihl (fun y hy => hin y (by simp [hy])) _ a1 (hkn.next a2 a3 fun _ h => h)
    simp only [flatP.go]
    refine ⟨b1, fun x hx => b2 x (a2 x hx), a3.trans a2 b3 |> fun _ => FSt.Keep.trans a2 a3 b3, fun A hA => ?_⟩
    rw [List.map_cons, List.map_cons, b4 A hA, a4 A (FSt.Keep.trans b2 b3 hA)]
  obtain ⟨a1, a2, a3, a4⟩ := key ks (fun _ h => h) st hok hkn
  rw [flatP_node hc]
  refine ⟨a1, a2, a3, fun A hA => ?_⟩
  have h4 := a4 A hA
  rw [evalK_eq, hc, valP_eq]
  have e1 : (flatP.go all K ks st).1.all (fun k => (valP A [] k).2) = ks.all (fun k => (evalK all K at0 k).2) := by
   have := congrArg (fun l : List (Int × Bool) => l.all (·.2)) h4
   simpa [List.all_map, Function.comp_def] using this
  have e2 : (flatP.go all K ks st).1.map (fun k => (valP A [] k).1) = ks.map (fun k => (evalK all K at0 k).1) := by
   have := congrArg (fun l : List (Int × Bool) => l.map (·.1)) h4
   simpa [List.map_map, Function.comp_def] using this
  rw [e1, e2, topP_at fun h3 => ?_]
  subst h3
  obtain ⟨u1, u2⟩ := hkn s HasVar.top
  rw [← u2]
  exact (FSt.Keep.trans a2 a3 hA) s u1
theorem itoa_digits (n : Nat) : ∀ c ∈ Lib.itoa (n : Int), 48 ≤ c.toNat ∧ c.toNat ≤ 57 := by
 rw [Lib.itoa_nonneg]; exact decDigits_mem n
theorem scan_digits : ∀ (l : List UInt8) (i : Nat), (∀ c ∈ l, 48 ≤ c.toNat ∧ c.toNat ≤ 57) → scan badName i l = true
 | [], _, _ => rfl
 | c :: l, i, h => by
  have hc := h c (by simp)
  rw [scan, scan_digits l (i + 1) fun x hx => h x (by simp [hx])]
  have : isDigit c.toNat = true := by unfold isDigit; simp; omega
  simp [badName, this]
theorem core_z (l : List UInt8) (h : ∀ c ∈ l, 48 ≤ c.toNat ∧ c.toNat ≤ 57) (hl : l.length ≤ 23) : isCore (122 :: l) = true := by
 have hcut : cutAt (122 :: l) = (122 :: l, [], false) := cutAt_no fun c hc => by
  rcases List.mem_cons.1 hc with rfl | hc
  ·decide
  ·have := h c hc; omega
 have hk : kws.contains (122 :: l) = false := by
  rw [← Bool.not_eq_true, List.contains_iff_mem]
  intro hm
  have : ∀ k ∈ kws, k.head? ≠ some 122 := by decide +kernel
  exact this _ hm rfl
 have hn : isName (122 :: l) = true := by
  unfold isName
  rw [hk, List.drop_one, List.tail_cons, scan_digits l 1 h]
  have : isSized (122 :: l) = true := by unfold isSized; simp; omega
  rw [this]
  rfl
 unfold isCore
 rw [hcut]
 simp only [hn, Bool.not_true, Bool.false_and, Bool.not_false, Bool.and_true, Bool.false_eq_true, if_false]
 simp
 omega
theorem fresh_core {used : List Str} (h : used.length < 1099511627776) : isCore (freshS used sZ) = true := by
 rcases freshS_cases (used := used) (base := sZ) with e | ⟨n, h1, h2, e⟩
 ·rw [e]; exact core_z [] (fun _ h => by cases h) (by simp)
 ·rw [e]
  show isCore (122 :: Lib.itoa (n : Int)) = true
  exact core_z _ (itoa_digits n) (Nat.le_trans (Lib.itoa_length_le n (by omega) (by omega)) (by omega))
theorem err_pv {z : Str} (h : isCore z = true) : Pred.err (pv z) = 0 := by
 show nodeE 3 z 0 [] = 0
 unfold nodeE calledOk isOpNamed kidsOk
 simp [h]
theorem good_mk {o : Int} {s : Str} {n : Int} {ks : List Pred} (h : nodeE o s n ks = 0) (hk : ∀ k ∈ ks, Good k) : Good (.mk o s n ks) := by
 intro q hq
 rcases mem_pre.1 hq with rfl | ⟨k, h1, h2⟩
 ·exact h
 ·exact hk k h1 q h2
theorem nodeE_kids_same {o : Int} {s : Str} {n : Int} {ks ks' : List Pred} (hl : ks'.length = ks.length) (h8 : (ks.map Pred.op).getD 0 0 = 1 → (ks'.map Pred.op).getD 0 0 = 1) (h : nodeE o s n ks = 0) : nodeE o s n ks' = 0 := by
 unfold nodeE at h ⊢
 rw [hl]
 split at h
 ·cases h
 ·rename_i c1
  rw [if_neg c1]
  split at h
  ·cases h
  ·rename_i c2
   rw [if_neg c2]
   split at h
   ·cases h
   ·rename_i c3
    rw [if_neg c3]
    split at h
    ·cases h
    ·rename_i c4
     rw [if_neg]
     simp only [Bool.and_eq_true, beq_iff_eq, bne_iff_ne, ne_eq, not_and, Decidable.not_not] at c4 ⊢
     exact fun e => h8 (c4 e)
theorem flat_op1 {all : Bool} {K : KFun} {p : Pred} {st : FSt} (h : p.op = 1) : (flatP all K p st).1.op = 1 := by
 obtain ⟨o, s, n, ks⟩ := p
 have h : o = 1 := h
 subst h
 have : isCut all K 1 s ks = none := rfl
 rw [flatP_node this]
 rfl
theorem flat_used {all : Bool} {K : KFun} (p : Pred) : ∀ st : FSt, (flatP all K p st).2.used.length ≤ st.used.length + p.cnt := by
 induction p using Pred.ind with
 | h o s n ks ih =>
 intro st
 cases hc : isCut all K o s ks with
 | some x =>
  rw [flatP_cut hc]
  show (st.used ++ [_]).length ≤ _
  rw [List.length_append, Pred.cnt]; simp
 | none =>
  have key : ∀ (l : List Pred), (∀ k ∈ l, k ∈ ks) → ∀ st : FSt, (flatP.go all K l st).2.used.length ≤ st.used.length + Pred.cnts l := by
   intro l
   induction l with
   | nil => intro _ st; simp [flatP.go]
   | cons k l ihl =>
    intro hin st
    have h1 := ih k (hin k (by simp)) st
    have h2 := ihl (fun y hy => hin y (by simp [hy])) (flatP all K k st).2
    simp only [flatP.go, Pred.cnts]
    omega
  rw [flatP_node hc]
  have := key ks (fun _ h => h) st
  rw [Pred.cnt]
  show (flatP.go all K ks st).2.used.length ≤ _
  omega
theorem flat_good {all : Bool} {K : KFun} (p : Pred) (hg : Good p) : ∀ st : FSt, st.used.length + p.cnt < 1099511627776 → Good (flatP all K p st).1 := by
 induction p using Pred.ind with
 | h o s n ks ih =>
 intro st hl
 cases hc : isCut all K o s ks with
 | some x =>
  rw [flatP_cut hc]
  intro q hq
  have hq : q = pv (freshS st.used sZ) := by
   rcases mem_pre.1 (show q ∈ Pred.pre (.mk 3 (freshS st.used sZ) 0 []) from hq) with h | ⟨k, hk, _⟩
   ·exact h
   ·cases hk
  rw [hq]
  exact err_pv (fresh_core (by omega))
 | none =>
  rw [Pred.cnt] at hl
  have key : ∀ (l : List Pred), (∀ k ∈ l, k ∈ ks) → ∀ st : FSt, st.used.length + Pred.cnts l < 1099511627776 → ∀ k ∈ (flatP.go all K l st).1, Good k := by
   intro l
   induction l with
   | nil => intro _ st _ k hk; simp [flatP.go] at hk
   | cons k l ihl =>
    intro hin st hlen
    have hu := flat_used (all := all) (K := K) k st
    rw [Pred.cnts] at hlen
    intro q hq
    simp only [flatP.go, List.mem_cons] at hq
    rcases hq with rfl | hq
    ·exact ih k (hin k (by simp)) (hg.kid (hin k (by simp))) st (by omega)
    ·exact ihl (fun y hy => hin y (by simp [hy])) _ (by omega) q hq
  rw [flatP_node hc]
  refine good_mk (nodeE_kids_same (go_len ks st) (fun h1 => ?_) (show nodeE o s n ks = 0 from AllN.top hg)) (key ks (fun _ h => h) st (by omega))
  cases ks with
  | nil => exact h1
  | cons k ks =>
   simp only [flatP.go, List.map_cons, List.getD_cons_zero] at h1 ⊢
   exact flat_op1 h1
theorem flat_size {all : Bool} {K : KFun} (p : Pred) : ∀ st : FSt, (flatP all K p st).1.cnt ≤ p.cnt ∧ (flatP all K p st).1.dep ≤ p.dep := by
 induction p using Pred.ind with
 | h o s n ks ih =>
 intro st
 cases hc : isCut all K o s ks with
 | some x =>
  rw [flatP_cut hc]
  show Pred.cnt (.mk 3 _ 0 []) ≤ _ ∧ Pred.dep (.mk 3 _ 0 []) ≤ _
  rw [Pred.cnt, Pred.cnt, Pred.dep, Pred.dep, Pred.cnts, Pred.deps]
  omega
 | none =>
  have key : ∀ (l : List Pred), (∀ k ∈ l, k ∈ ks) → ∀ st : FSt, Pred.cnts (flatP.go all K l st).1 ≤ Pred.cnts l ∧ Pred.deps (flatP.go all K l st).1 ≤ Pred.deps l := by
   intro l
   induction l with
   | nil => intro _ st; simp [flatP.go]
   | cons k l ihl =>
    intro hin st
    have h1 := ih k (hin k (by simp)) st
    have h2 := ihl (fun y hy => hin y (by simp [hy])) (flatP all K k st).2
    simp only [flatP.go, Pred.cnts, Pred.deps]
    omega
  rw [flatP_node hc]
  have := key ks (fun _ h => h) st
  show Pred.cnt (.mk o s n _) ≤ _ ∧ Pred.dep (.mk o s n _) ≤ _
  rw [Pred.cnt, Pred.cnt, Pred.dep, Pred.dep]
  omega
theorem formE_good {p : Pred} (h : Good p) : p.formE = 0 := by
 rw [Pred.formE_first]; exact Pred.first_all h
theorem check_of_good {p q : Pred} (hp : p.checkE = 0) (hc : p.cnt < 2 ^ 62) (hg : Good q) (h1 : q.cnt ≤ p.cnt) (h2 : q.dep ≤ p.dep) : q.checkE = 0 := by
 obtain ⟨a, b, _⟩ := Pred.checkE_parts hp
 have d := Pred.dep_cnt p
 rw [Pred.nodes_cnt _ hc] at a
 rw [Pred.depth_dep _ (by omega)] at b
 refine Pred.checkE_of ?_ ?_ (formE_good hg)
 ·rw [Pred.nodes_cnt _ (by omega)]; omega
 ·rw [Pred.depth_dep _ (by omega)]; omega
theorem flat_eval {all : Bool} {K : KFun} {at0 : List Coef} {p : Pred} (hc : p.cnt < 1048576) {st : FSt} (hu : st.used.length < 4294967296) (hok : st.Ok) (hk : ∀ x, HasVar p x → x ∈ st.used) (h0 : st.at' = at0) (hp : p.checkE = 0) :
  EvalS (flatP all K p st).2.at' [] (flatP all K p st).1 = norm2 (evalK all K at0 p) := by
 have hg := flat_good (all := all) (K := K) p (good_of hp) st (by omega)
 have hs := flat_size (all := all) (K := K) p st
 have hce := check_of_good hp (by omega) hg hs.1 hs.2
 obtain ⟨_, _, _, h4⟩ := flat_val all K at0 p st hok fun x hx => ⟨hk x hx, by rw [h0]⟩
 unfold EvalS
 rw [hce, ← h4 _ (fun _ _ => rfl), val_norm _ _ _ hg]
 rfl
end Go.Abs
end
section
set_option linter.unusedSimpArgs false
set_option linter.unusedVariables false
set_option linter.unusedSectionVars false
namespace Go.Abs
structure FEnt where
 op : Int
 n : Int
 f : Str → Int × Bool
def fieldE {α : Type} (names : List Str) (es : List α) (s : Str) : Option α := ((names.zip es).find? fun q => q.1 == s).map (·.2)
def opR (o a b : Int) : Int × Bool := if o == 9 then subI 0 a else if o == 14 then (tru (a == 0), true) else opI o a b
theorem norm2_opR (o a b : Int) : norm2 (opR o a b) = opR o a b := by
 unfold opR
 split
 ·exact norm2_sub _ _
 ·split
  ·rfl
  ·unfold opI
   repeat' split
   all_goals first | exact norm2_add _ _ | exact norm2_sub _ _ | exact norm2_mul _ _ | rfl
def varR (names : List Str) (ents : List FEnt) (s : Str) : Int × Bool := match fieldE names ents s with
 | some e => if (e.op == 1 || e.op == 2) && inRange e.n then (e.n, true) else (0, false)
 | none => (0, false)
def appR (names : List Str) (ents : List FEnt) (x s : Str) : Int × Bool := match fieldE names ents x with
 | some e => if (e.f s).2 && inRange (e.f s).1 then ((e.f s).1, true) else (0, false)
 | none => (0, false)
def bodyR (names : List Str) (ents : List FEnt) : Pred → Int × Bool
 | .mk o s n ks => if o == 1 || o == 2 then (n, true) else if o == 3 then varR names ents s
  else if o == 4 then (match appVar 4 ks with
   | some x => appR names ents x s
   | none => (0, false))
  else if oks ks && !ks.isEmpty then opR o ((ns ks).getD 0 0) ((ns ks).getD 1 0) else (0, false)
where
 oks : List Pred → Bool
 | [] => true
 | k :: ks => (bodyR names ents k).2 && oks ks
 ns : List Pred → List Int
 | [] => []
 | k :: ks => (bodyR names ents k).1 :: ns ks
theorem bodyR_eq (names : List Str) (ents : List FEnt) (o : Int) (s : Str) (n : Int) (ks : List Pred) : bodyR names ents (.mk o s n ks) =
  if o == 1 || o == 2 then (n, true) else if o == 3 then varR names ents s
  else if o == 4 then (match appVar 4 ks with
   | some x => appR names ents x s
   | none => (0, false))
  else if ks.all (fun k => (bodyR names ents k).2) && !ks.isEmpty then opR o ((ks.map fun k => (bodyR names ents k).1).getD 0 0) ((ks.map fun k => (bodyR names ents k).1).getD 1 0) else (0, false) := by
 rw [bodyR]
 have h1 : bodyR.oks names ents ks = ks.all (fun k => (bodyR names ents k).2) := by
  induction ks with
  | nil => rfl
  | cons k ks ih => rw [bodyR.oks, ih]; rfl
 have h2 : bodyR.ns names ents ks = ks.map fun k => (bodyR names ents k).1 := by
  clear h1
  induction ks with
  | nil => rfl
  | cons k ks ih => rw [bodyR.ns, ih]; rfl
 rw [h1, h2]
def kfun (names : List Str) (ents : List FEnt) : KFun := fun x s => (fieldE names ents x).map fun e => e.f s
def PointOf (names : List Str) (ents : List FEnt) (at0 : List Coef) : Prop := ∀ x, findC x at0 = match fieldE names ents x with
 | some e => if e.op == 1 || e.op == 2 then (e.n, true) else (0, false)
 | none => (0, false)
theorem all_eq_of {α : Type} {f g : α → Int × Bool} {l : List α} (h : ∀ k ∈ l, norm2 (f k) = g k) : l.all (fun k => (f k).2) = l.all (fun k => (g k).2) := by
 induction l with
 | nil => rfl
 | cons k l ih =>
  rw [List.all_cons, List.all_cons, ih fun x hx => h x (by simp [hx]), ← h k (by simp), norm2_snd]
theorem map_eq_of {α : Type} {f g : α → Int × Bool} {l : List α} (h : ∀ k ∈ l, norm2 (f k) = g k) (ha : l.all (fun k => (f k).2) = true) : l.map (fun k => (f k).1) = l.map (fun k => (g k).1) := by
 refine List.map_congr_left fun k hk => ?_
 rw [← h k hk]
 have := List.all_eq_true.1 ha k hk
 unfold norm2; rw [this]; rfl
theorem body_eval {names : List Str} {ents : List FEnt} {at0 : List Coef} (h0 : PointOf names ents at0) (p : Pred) (hp : Good p) : norm2 (evalK true (kfun names ents) at0 p) = bodyR names ents p := by
 induction p using Pred.ind with
 | h o s n ks ih =>
 obtain ⟨⟨o1, o2⟩, hk, _, _⟩ := hp.top
 have ih' : ∀ k ∈ ks, norm2 (evalK true (kfun names ents) at0 k) = bodyR names ents k := fun k hk => ih k hk (hp.kid hk)
 have hall := all_eq_of ih'
 have hmap := map_eq_of ih'
 rw [evalK_eq, bodyR_eq]
 cases hc : appVar o ks with
 | some x =>
  obtain ⟨rfl, _⟩ := appVar_some hc
  have hcut : isCut true (kfun names ents) 4 s ks = some x := by unfold isCut; rw [hc]; rfl
  rw [hcut, hc]
  simp only [show ((4 : Int) == 1) = false from rfl, show ((4 : Int) == 2) = false from rfl, show ((4 : Int) == 3) = false from rfl, show ((4 : Int) == 4) = true from rfl, Bool.or_self, Bool.false_eq_true, if_false, if_true]
  unfold kval kfun appR
  cases fieldE names ents x with
  | none => rfl
  | some e =>
   simp only [Option.map_some]
   generalize e.f s = r
   obtain ⟨a, b⟩ := r
   cases b with
   | false => rfl
   | true =>
    simp only [norm2, Bool.true_and]
 | none =>
  have hcut : isCut true (kfun names ents) o s ks = none := by unfold isCut; rw [hc]
  rw [hcut]
  simp only
  by_cases h12 : (o == 1 || o == 2) = true
  ·have hks : ks = [] := kids_leaf hk (by rw [h12]; rfl)
   subst hks
   simp only [List.all_nil, if_true, topP, h12, norm2]
  ·simp only [h12, Bool.false_eq_true, if_false]
   by_cases h3 : (o == 3) = true
   ·have hks : ks = [] := kids_leaf hk (by rw [h3]; simp)
    subst hks
    simp only [List.all_nil, if_true, topP, h12, h3, Bool.false_eq_true, if_false, h0 s]
    unfold varR
    cases fieldE names ents s with
    | none => rfl
    | some e =>
     simp only [norm2]
     cases (e.op == 1 || e.op == 2) with
     | false => rfl
     | true => simp only [if_true, Bool.true_and]
   ·simp only [h3, Bool.false_eq_true, if_false]
    by_cases h4 : (o == 4) = true
    ·have h4' : o = 4 := by simpa using h4
     subst h4'
     rw [hc]
     simp only [h4, if_true, topP, h12, h3, Bool.false_eq_true, if_false, findF, factP]
     split <;> rfl
    ·simp only [h4, Bool.false_eq_true, if_false]
     by_cases h5 : (o == 5) = true
     ·have h5' : o = 5 := by simpa using h5
      subst h5'
      have e1 : ∀ l, topP at0 [] 5 s n l = (0, false) := fun l => rfl
      have e2 : ∀ a b, opR 5 a b = (0, false) := fun a b => rfl
      rw [e1, e2]
      simp only [ite_self]
      rfl
     ·have hne : ks.isEmpty = false := by
        cases ks with
        | nil =>
         exfalso
         unfold kidsOk at hk
         simp only [Bool.not_eq_true] at h12 h3 h4 h5
         simp only [Bool.or_eq_false_iff] at h12
         rw [h12.1, h12.2, h3, h4, h5] at hk
         simp at hk
        | cons => rfl
      rw [hne, ← hall]
      simp only [Bool.not_false, Bool.and_true]
      cases ha : ks.all (fun k => (evalK true (kfun names ents) at0 k).2) with
      | false => rfl
      | true =>
       rw [hmap ha]
       simp only [if_true]
       have e : ∀ l : List Int, topP at0 [] o s n l = opR o (l.getD 0 0) (l.getD 1 0) := fun l => by
        unfold topP opR
        simp only [h12, h3, h4, h5, Bool.false_eq_true, if_false]
       rw [e, norm2_opR]
def valStep (m : Mod) (o n : Int) (s : Str) (ents : List FEnt) (sym : Str) : Int × Bool :=
 if sym == sVal then (if o != 4 then (0, false) else (n, true))
 else if o != 3 || !(conS s m.datas).2.2 then (0, false)
 else if sym == sTag then ((conS s m.datas).2.1, true)
 else match m.meas.find? (fun x => x.name == sym) with
  | none => (0, false)
  | some x => if x.data != (conS s m.datas).1.name then (0, false) else match x.cases.find? (fun c => c.con == s) with
   | none => (0, false)
   | some c => if c.names.length != ents.length || c.body.checkE != 0 then (0, false) else bodyR c.names ents c.body
mutual
def Val.value (m : Mod) : Val → Str → Int × Bool
 | .mk o n s ks _ _ _ => valStep m o n s (Val.ents m ks)
def Val.ents (m : Mod) : List Val → List FEnt
 | [] => []
 | k :: ks => ⟨k.op, k.n, Val.value m k⟩ :: Val.ents m ks
end
def Val.ent (m : Mod) (k : Val) : FEnt := ⟨k.op, k.n, k.value m⟩
theorem Val.ents_eq (m : Mod) (ks : List Val) : Val.ents m ks = ks.map (Val.ent m) := by
 induction ks with
 | nil => simp [Val.ents]
 | cons k ks ih => simp [Val.ents, ih, Val.ent]
theorem Val.value_eq (m : Mod) (o n : Int) (s : Str) (ks : List Val) (p b d : D) : Val.value m (.mk o n s ks p b d) = valStep m o n s (ks.map (Val.ent m)) := by rw [Val.value, Val.ents_eq]
def putF (acc : List (D × MV) × List Coef) (x : Str × Val) : List (D × MV) × List Coef :=
 if mapHas acc.1 (.str x.1) then acc else ((.str x.1, .agg x.2.cells) :: acc.1, if x.2.op == 1 || x.2.op == 2 then acc.2 ++ [⟨x.1, x.2.n⟩] else acc.2)
def putsF (l : List (Str × Val)) : List (D × MV) × List Coef := l.foldl putF ([], [])
theorem putsF_snoc (l : List (Str × Val)) (x : Str × Val) : putsF (l ++ [x]) = putF (putsF l) x := by unfold putsF; rw [List.foldl_append]; rfl
def fieldZ {α : Type} (l : List (Str × α)) (s : Str) : Option α := (l.find? fun q => q.1 == s).map (·.2)
theorem fieldZ_snoc {α : Type} (l : List (Str × α)) (x : Str × α) (s : Str) : fieldZ (l ++ [x]) s = (fieldZ l s).or (if x.1 == s then some x.2 else none) := by
 unfold fieldZ
 rw [List.find?_append]
 cases l.find? fun q => q.1 == s with
 | some y => rfl
 | none =>
  simp only [Option.none_or, Option.map_none, List.find?_cons, List.find?_nil]
  cases x.1 == s <;> rfl
theorem snoc_ind {α : Type} {P : List α → Prop} (h0 : P []) (h : ∀ l x, P l → P (l ++ [x])) (l : List α) : P l := by
 have : ∀ r : List α, P r.reverse := by
  intro r
  induction r with
  | nil => exact h0
  | cons x r ih => rw [List.reverse_cons]; exact h _ _ ih
 simpa using this l.reverse
theorem putsF_get (l : List (Str × Val)) (s : Str) : mapGet (putsF l).1 (.str s) = (fieldZ l s).map fun v => .agg v.cells := by
 induction l using snoc_ind with
 | h0 => rfl
 | h l x ih =>
  rw [putsF_snoc, fieldZ_snoc]
  unfold putF
  split
  ·rename_i hh
   unfold mapHas at hh
   rw [ih]
   by_cases hx : x.1 = s
   ·rw [hx, ih] at hh
    cases hf : fieldZ l s with
    | none => rw [hf] at hh; cases hh
    | some v => rfl
   ·have : (x.1 == s) = false := by simpa using hx
    rw [this]
    cases fieldZ l s <;> rfl
  ·rename_i hh
   rw [mapGet, show keyEq (D.str x.1) (D.str s) = (x.1 == s) from rfl]
   by_cases hx : x.1 = s
   ·subst hx
    simp only [mapHas, Bool.not_eq_true, Option.isSome_eq_false_iff, Option.isNone_iff_eq_none] at hh
    rw [hh] at ih
    have : fieldZ l x.1 = none := by
     cases hf : fieldZ l x.1 with
     | none => rfl
     | some v => rw [hf] at ih; cases ih
    rw [this]
    simp
   ·have : (x.1 == s) = false := by simpa using hx
    rw [this, ih]
    cases fieldZ l s <;> rfl
theorem putsF_at (l : List (Str × Val)) (s : Str) : findC s (putsF l).2 = match fieldZ l s with
  | some v => if v.op == 1 || v.op == 2 then (v.n, true) else (0, false)
  | none => (0, false) := by
 induction l using snoc_ind with
 | h0 => rfl
 | h l x ih =>
  rw [putsF_snoc, fieldZ_snoc]
  have hg := putsF_get l x.1
  unfold putF
  split
  ·rename_i hh
   unfold mapHas at hh
   rw [hg] at hh
   rw [ih]
   by_cases hx : x.1 = s
   ·rw [hx] at hh
    cases hf : fieldZ l s with
    | none => rw [hf] at hh; cases hh
    | some v => rfl
   ·have : (x.1 == s) = false := by simpa using hx
    rw [this]
    cases fieldZ l s <;> rfl
  ·rename_i hh
   simp only [mapHas, Bool.not_eq_true, Option.isSome_eq_false_iff, Option.isNone_iff_eq_none] at hh
   rw [hh] at hg
   by_cases hx : x.1 = s
   ·subst hx
    have hn : fieldZ l x.1 = none := by
     cases hf : fieldZ l x.1 with
     | none => rfl
     | some v => rw [hf] at hg; cases hg
    rw [hn] at ih ⊢
    simp only [Option.none_or, beq_self_eq_true, if_true]
    split
    ·rename_i hv
     have key : ∀ l : List Coef, findC x.1 l = (0, false) → findC x.1 (l ++ [⟨x.1, x.2.n⟩]) = (x.2.n, true) := by
      intro l
      induction l with
      | nil => intro _; simp [findC]
      | cons c l ihl =>
       intro h
       rw [findC] at h
       rw [List.cons_append, findC]
       by_cases hc : (c.name == x.1) = true
       ·rw [if_pos hc] at h; simp at h
       ·rw [if_neg hc] at h ⊢; exact ihl h
     exact key _ ih
    ·exact ih
   ·have : (x.1 == s) = false := by simpa using hx
    rw [this]
    have hne : findC s (if (x.2.op == 1 || x.2.op == 2) = true then (putsF l).2 ++ [⟨x.1, x.2.n⟩] else (putsF l).2) = findC s (putsF l).2 := by
     split
     ·exact findC_snoc fun e => hx e.symm
     ·rfl
    simp only [Bool.false_eq_true, if_false, Option.or_none]
    exact hne.trans ih
theorem putsF_names (l : List (Str × Val)) : ∀ c ∈ (putsF l).2, ∃ x ∈ l, x.1 = c.name := by
 induction l using snoc_ind with
 | h0 => intro c hc; cases hc
 | h l x ih =>
  rw [putsF_snoc]
  unfold putF
  intro c hc
  split at hc
  ·obtain ⟨y, h1, h2⟩ := ih c hc; exact ⟨y, List.mem_append_left _ h1, h2⟩
  ·split at hc
   ·rcases List.mem_append.1 hc with hc | hc
    ·obtain ⟨y, h1, h2⟩ := ih c hc; exact ⟨y, List.mem_append_left _ h1, h2⟩
    ·simp only [List.mem_singleton] at hc; subst hc; exact ⟨x, by simp, rfl⟩
   ·obtain ⟨y, h1, h2⟩ := ih c hc; exact ⟨y, List.mem_append_left _ h1, h2⟩
theorem putsF_len (l : List (Str × Val)) : (putsF l).1.length ≤ l.length ∧ (putsF l).2.length ≤ l.length := by
 induction l using snoc_ind with
 | h0 => exact ⟨Nat.le_refl _, Nat.le_refl _⟩
 | h l x ih =>
  rw [putsF_snoc]
  unfold putF
  rw [List.length_append, List.length_singleton]
  split
  ·omega
  ·simp only [List.length_cons]
   split
   ·rw [List.length_append, List.length_singleton]; omega
   ·omega
theorem fieldE_map {α β : Type} (names : List Str) (es : List α) (f : α → β) (s : Str) : fieldE names (es.map f) s = (fieldE names es s).map f := by
 unfold fieldE
 have : names.zip (es.map f) = (names.zip es).map fun q => (q.1, f q.2) := by rw [List.zip_map_right]; rfl
 rw [this, List.find?_map, Option.map_map, Option.map_map]
 rfl
def tabK (m : Mod) (l : List (Str × Val)) : KFun := fun x s => (fieldZ l x).map fun v => v.value m s
theorem tabK_eq (m : Mod) (names : List Str) (ks : List Val) : tabK m (names.zip ks) = kfun names (ks.map (Val.ent m)) := by
 funext x s
 unfold tabK kfun
 rw [fieldE_map, Option.map_map]
 rfl
theorem puts_point (m : Mod) (names : List Str) (ks : List Val) : PointOf names (ks.map (Val.ent m)) (putsF (names.zip ks)).2 := by
 intro x
 rw [putsF_at, fieldE_map]
 unfold fieldE fieldZ
 cases (names.zip ks).find? fun q => q.1 == x <;> rfl
theorem value_flat {m : Mod} {names : List Str} {ks : List Val} {body : Pred} {used : List Str} (hc : body.cnt < 1048576) (hu : used.length < 4294967296) (h1 : ∀ x ∈ names, x ∈ used) (h2 : ∀ x, HasVar body x → x ∈ used) (hb : body.checkE = 0) :
  EvalS (flatP true (tabK m (names.zip ks)) body ⟨used, (putsF (names.zip ks)).2⟩).2.at' [] (flatP true (tabK m (names.zip ks)) body ⟨used, (putsF (names.zip ks)).2⟩).1 = bodyR names (ks.map (Val.ent m)) body := by
 rw [flat_eval (at0 := (putsF (names.zip ks)).2) hc hu (fun c hc => ?_) h2 rfl hb, tabK_eq, body_eval (puts_point m names ks) body (good_of hb)]
 obtain ⟨x, h3, h4⟩ := putsF_names _ c hc
 rw [← h4]
 exact h1 _ (List.of_mem_zip h3).1
end Go.Abs
end
section
set_option linter.unusedSimpArgs false
set_option linter.unusedVariables false
set_option linter.unusedSectionVars false
namespace Go.Abs
def measR (K : KFun) : Pred → Pred × Bool
 | .mk o s n ks => match isCut false K o s ks with
  | some x => (match K x s with
   | some r => (pn r.1, r.2)
   | none => (zeroP, false))
  | none => if oks ks then (.mk o s n (ns ks), true) else (zeroP, false)
where
 oks : List Pred → Bool
 | [] => true
 | k :: ks => (measR K k).2 && oks ks
 ns : List Pred → List Pred
 | [] => []
 | k :: ks => (measR K k).1 :: ns ks
theorem measR_eq (K : KFun) (o : Int) (s : Str) (n : Int) (ks : List Pred) : measR K (.mk o s n ks) = match isCut false K o s ks with
  | some x => (match K x s with
   | some r => (pn r.1, r.2)
   | none => (zeroP, false))
  | none => if ks.all (fun k => (measR K k).2) then (.mk o s n (ks.map fun k => (measR K k).1), true) else (zeroP, false) := by
 rw [measR]
 have h1 : measR.oks K ks = ks.all (fun k => (measR K k).2) := by
  induction ks with
  | nil => rfl
  | cons k ks ih => rw [measR.oks, ih]; rfl
 have h2 : measR.ns K ks = ks.map fun k => (measR K k).1 := by
  clear h1
  induction ks with
  | nil => rfl
  | cons k ks ih => rw [measR.ns, ih]; rfl
 rw [h1, h2]
theorem isCut_some {all : Bool} {K : KFun} {o : Int} {s : Str} {ks : List Pred} {x : Str} (h : isCut all K o s ks = some x) : appVar o ks = some x ∧ (all || (K x s).isSome) = true := by
 unfold isCut at h
 split at h
 ·rename_i y hy
  split at h
  ·rename_i hc; cases h; exact ⟨hy, hc⟩
  ·cases h
 ·cases h
theorem meas_op1 {K : KFun} {p : Pred} (h : p.op = 1) (h2 : (measR K p).2 = true) : (measR K p).1.op = 1 := by
 obtain ⟨o, s, n, ks⟩ := p
 have h : o = 1 := h
 subst h
 have hc : isCut false K 1 s ks = none := rfl
 rw [measR_eq, hc] at h2 ⊢
 simp only at h2 ⊢
 split
 ·rfl
 ·rename_i hn; rw [if_neg hn] at h2; cases h2
theorem err_pn {n : Int} : Pred.err (pn n) = 0 ↔ inRange n = true := by
 show nodeE 1 [] n [] = 0 ↔ _
 unfold nodeE calledOk isOpNamed kidsOk
 cases h : inRange n <;> simp [h]
theorem pre_pn (n : Int) : (pn n).pre = [pn n] := by unfold pn; rw [Pred.pre_eq]; rfl
theorem good_pn {n : Int} : Good (pn n) ↔ inRange n = true := by
 constructor
 ·intro h; exact err_pn.1 (h _ (by rw [pre_pn]; simp))
 ·intro h q hq
  rw [pre_pn] at hq
  simp only [List.mem_singleton] at hq
  subst hq
  exact err_pn.2 h
theorem all_false {α : Type} {f : α → Bool} {l : List α} {k : α} (hk : k ∈ l) (h : f k = false) : l.all f = false := by
 rw [List.all_eq_false]; exact ⟨k, hk, by simp [h]⟩
theorem meas_val (K : KFun) (at0 : List Coef) (p : Pred) (hp : Good p) :
  ((measR K p).2 = true → (Good (measR K p).1 ∧ valP at0 [] (measR K p).1 = evalK false K at0 p) ∨ (¬ Good (measR K p).1 ∧ (evalK false K at0 p).2 = false)) ∧ ((measR K p).2 = false → (evalK false K at0 p).2 = false) := by
 induction p using Pred.ind with
 | h o s n ks ih =>
 rw [measR_eq, evalK_eq]
 cases hc : isCut false K o s ks with
 | some x =>
  obtain ⟨_, hk⟩ := isCut_some hc
  simp only [Bool.false_or] at hk
  obtain ⟨r, hr⟩ := Option.isSome_iff_exists.1 hk
  obtain ⟨a, b⟩ := r
  simp only [hr, kval]
  cases b with
  | false => exact ⟨fun h => (by cases h), fun _ => rfl⟩
  | true =>
   refine ⟨fun _ => ?_, fun h => by cases h⟩
   cases ha : inRange a with
   | true =>
    refine .inl ⟨good_pn.2 ha, ?_⟩
    show valP at0 [] (.mk 1 [] a []) = (a, inRange a)
    rw [valP_eq, ha]
    rfl
   | false => exact .inr ⟨fun h => (by rw [good_pn, ha] at h; cases h), ha⟩
 | none =>
  simp only
  have ih' := fun k hk => ih k hk (hp.kid hk)
  cases ha : ks.all (fun k => (measR K k).2) with
  | false =>
   rw [if_neg (by simp)]
   refine ⟨fun h => (by cases h), fun _ => ?_⟩
   obtain ⟨k, hk, hf⟩ := List.all_eq_false.1 ha
   have := (ih' k hk).2 (by simpa using hf)
   rw [all_false hk this]
   rfl
  | true =>
   rw [if_pos rfl]
   refine ⟨fun _ => ?_, fun h => by cases h⟩
   have hall := List.all_eq_true.1 ha
   by_cases hg : ∀ k ∈ ks, Good (measR K k).1
   ·refine .inl ⟨good_mk (nodeE_kids_same (by simp) (fun h1 => ?_) (show nodeE o s n ks = 0 from AllN.top hp)) (fun k' hk' => ?_), ?_⟩
    ·cases ks with
     | nil => exact h1
     | cons k ks =>
      simp only [List.map_cons, List.getD_cons_zero] at h1 ⊢
      exact meas_op1 h1 (hall k (by simp))
    ·obtain ⟨k, hk, rfl⟩ := List.mem_map.1 hk'
     exact hg k hk
    ·have he : ∀ k ∈ ks, valP at0 [] (measR K k).1 = evalK false K at0 k := fun k hk => by
       rcases (ih' k hk).1 (hall k hk) with h | h
       ·exact h.2
       ·exact absurd (hg k hk) h.1
     rw [valP_eq]
     have e1 : (ks.map fun k => (measR K k).1).all (fun k => (valP at0 [] k).2) = ks.all (fun k => (evalK false K at0 k).2) := by
      rw [List.all_map]
      rw [Bool.eq_iff_iff, List.all_eq_true, List.all_eq_true]
      constructor
      ·intro h k hk; rw [← he k hk]; exact h k hk
      ·intro h k hk; show (valP at0 [] (measR K k).1).2 = true; rw [he k hk]; exact h k hk
     have e2 : (ks.map fun k => (measR K k).1).map (fun k => (valP at0 [] k).1) = ks.map (fun k => (evalK false K at0 k).1) := by
      rw [List.map_map]
      exact List.map_congr_left fun k hk => by show (valP at0 [] (measR K k).1).1 = _; rw [he k hk]
     rw [e1, e2]
   ·obtain ⟨k, hk, hgk⟩ : ∃ k ∈ ks, ¬ Good (measR K k).1 := by
      apply Classical.byContradiction
      intro h
      exact hg fun k hk => Classical.byContradiction fun hn => h ⟨k, hk, hn⟩
    refine .inr ⟨fun h => hgk (h.kid (List.mem_map.2 ⟨k, hk, rfl⟩)), ?_⟩
    have : (evalK false K at0 k).2 = false := by
     rcases (ih' k hk).1 (hall k hk) with h | h
     ·exact absurd h.1 hgk
     ·exact h.2
    rw [all_false hk this]
    rfl
theorem meas_size {K : KFun} (p : Pred) : (measR K p).1.cnt ≤ p.cnt ∧ (measR K p).1.dep ≤ p.dep := by
 induction p using Pred.ind with
 | h o s n ks ih =>
 rw [measR_eq]
 have one : ∀ q : Pred, q.kids = [] → q.cnt = 1 ∧ q.dep = 1 := fun q hq => by
  obtain ⟨a, b, c, d⟩ := q
  have hq : d = [] := hq
  subst hq
  rw [Pred.cnt, Pred.dep, Pred.cnts, Pred.deps]; exact ⟨rfl, rfl⟩
 have top : 1 ≤ Pred.cnt (.mk o s n ks) ∧ 1 ≤ Pred.dep (.mk o s n ks) := by rw [Pred.cnt, Pred.dep]; omega
 split
 ·split
  ·rename_i r _
   obtain ⟨a, b⟩ := one (pn r.1) rfl
   simp only [a, b]; exact top
  ·obtain ⟨a, b⟩ := one zeroP rfl
   simp only [a, b]; exact top
 ·split
  ·have key : ∀ (l : List Pred), (∀ k ∈ l, k ∈ ks) → Pred.cnts (l.map fun k => (measR K k).1) ≤ Pred.cnts l ∧ Pred.deps (l.map fun k => (measR K k).1) ≤ Pred.deps l := by
     intro l
     induction l with
     | nil => intro _; exact ⟨Nat.le_refl _, Nat.le_refl _⟩
     | cons k l ihl =>
      intro hin
      have h1 := ih k (hin k (by simp))
      have h2 := ihl fun y hy => hin y (by simp [hy])
      simp only [List.map_cons, Pred.cnts, Pred.deps]
      omega
   have := key ks fun _ h => h
   show Pred.cnt (.mk o s n _) ≤ _ ∧ Pred.dep (.mk o s n _) ≤ _
   rw [Pred.cnt, Pred.cnt, Pred.dep, Pred.dep]
   omega
  ·obtain ⟨a, b⟩ := one zeroP rfl
   simp only [a, b]; exact top
theorem meas_eval {K : KFun} {at0 : List Coef} {p : Pred} (hc : p.cnt < 1048576) (hp : p.checkE = 0) : norm2 (evalK false K at0 p) = if (measR K p).2 then EvalS at0 [] (measR K p).1 else (0, false) := by
 obtain ⟨h1, h2⟩ := meas_val K at0 p (good_of hp)
 cases hm : (measR K p).2 with
 | false =>
  have := h2 hm
  unfold norm2; rw [this]; rfl
 | true =>
  rw [if_pos rfl]
  rcases h1 hm with ⟨hg, he⟩ | ⟨hg, he⟩
  ·have hs := meas_size (K := K) p
   have hce := check_of_good hp (by omega) hg hs.1 hs.2
   unfold EvalS
   rw [hce, ← he, val_norm _ _ _ hg]
   rfl
  ·have : (measR K p).1.checkE ≠ 0 := fun e => hg (good_of e)
   have e1 : EvalS at0 [] (measR K p).1 = (0, false) := by unfold EvalS; rw [if_pos (by simpa using this)]
   rw [e1]
   unfold norm2
   rw [he]
   rfl
def metOne (K : KFun) (at0 : List Coef) (t : Pred) : Int × Bool := if t.checkE != 0 then (0, false) else norm2 (evalK false K at0 t)
def metS (K : KFun) (at0 : List Coef) (ts : List Pred) : List Int × Bool := if ts.all (fun t => (metOne K at0 t).2) then (ts.map fun t => (metOne K at0 t).1, true) else ([], false)
theorem metS_bad {K : KFun} {at0 : List Coef} {a r : List Pred} {t : Pred} (h : (metOne K at0 t).2 = false) : metS K at0 (a ++ t :: r) = ([], false) := by
 unfold metS
 rw [all_false (f := fun t => (metOne K at0 t).2) (k := t) (by simp) h]
 rfl
theorem metS_all {K : KFun} {at0 : List Coef} {a : List Pred} (h : ∀ t ∈ a, (metOne K at0 t).2 = true) : metS K at0 a = (a.map fun t => (metOne K at0 t).1, true) := by
 unfold metS
 rw [List.all_eq_true.2 h]
 rfl
theorem mapHas_puts (l : List (Str × Val)) (s : Str) : mapHas (putsF l).1 (.str s) = (l.map (·.1)).contains s := by
 unfold mapHas
 rw [putsF_get, Option.isSome_map]
 unfold fieldZ
 rw [Option.isSome_map, Bool.eq_iff_iff, List.find?_isSome, List.contains_iff_mem]
 constructor
 ·rintro ⟨x, h1, h2⟩; exact List.mem_map.2 ⟨x, h1, by simpa using h2⟩
 ·intro h
  obtain ⟨x, h1, h2⟩ := List.mem_map.1 h
  exact ⟨x, h1, by simpa using h2⟩
theorem findIx_here (s : Str) (a r : List Str) : (findIx s 0 (a ++ s :: r) == (a.length : Int)) = !a.contains s := by
 by_cases h : s ∈ a
 ·have h1 : a.contains s = true := List.contains_iff_mem.2 h
  obtain ⟨b, c, rfl, hb⟩ : ∃ b c, a = b ++ s :: c ∧ s ∉ b := by
   clear h1
   induction a with
   | nil => cases h
   | cons x a ih =>
    by_cases hx : x = s
    ·exact ⟨[], a, by rw [hx]; rfl, by simp⟩
    ·obtain ⟨b, c, e, hb⟩ := ih (by rcases List.mem_cons.1 h with h | h; exact absurd h.symm hx; exact h)
     exact ⟨x :: b, c, by rw [e]; rfl, by simp only [List.mem_cons, not_or]; exact ⟨fun e => hx e.symm, hb⟩⟩
  rw [h1, List.append_assoc, findIx_app _ _ _ _ hb, List.cons_append, findIx]
  simp
  omega
 ·have h1 : a.contains s = false := by rw [← Bool.not_eq_true, List.contains_iff_mem]; exact h
  rw [h1, findIx_app _ _ _ _ h, findIx]
  simp
def lexL : List Int → List Int → Bool
 | x :: a, y :: b => if x == y then lexL a b else decide (x < y)
 | _, _ => false
def fallsS (a b : List Int) : Bool := a.length == b.length && b.all (fun y => decide (0 ≤ y)) && lexL a b
theorem lexL_self : ∀ a : List Int, lexL a a = false
 | [] => rfl
 | x :: a => by rw [lexL, lexL_self a]; simp
theorem lexL_asym : ∀ {a b : List Int}, lexL a b = true → lexL b a = false
 | [], b, h => by simp [lexL] at h
 | x :: a, [], h => by simp [lexL] at h
 | x :: a, y :: b, h => by
  rw [lexL] at h ⊢
  by_cases hx : x = y
  ·subst hx
   simp only [beq_self_eq_true, if_true] at h ⊢
   exact lexL_asym h
  ·have e1 : (x == y) = false := by simpa using hx
   have e2 : (y == x) = false := by simpa using fun e => hx e.symm
   simp only [e1, e2, Bool.false_eq_true, if_false, decide_eq_true_eq, decide_eq_false_iff_not] at h ⊢
   omega
theorem lexL_trans : ∀ {a b c : List Int}, lexL a b = true → lexL b c = true → lexL a c = true
 | [], b, c, h, _ => by simp [lexL] at h
 | x :: a, [], c, h, _ => by simp [lexL] at h
 | x :: a, y :: b, [], _, h => by simp [lexL] at h
 | x :: a, y :: b, z :: c, h, h' => by
  rw [lexL] at h h' ⊢
  by_cases hx : x = y
  ·subst hx
   simp only [beq_self_eq_true, if_true] at h
   by_cases hz : x = z
   ·subst hz
    simp only [beq_self_eq_true, if_true] at h' ⊢
    exact lexL_trans h h'
   ·have e1 : (x == z) = false := by simpa using hz
    simp only [e1, Bool.false_eq_true, if_false] at h' ⊢
    exact h'
  ·have e1 : (x == y) = false := by simpa using hx
   simp only [e1, Bool.false_eq_true, if_false, decide_eq_true_eq] at h
   by_cases hz : y = z
   ·subst hz
    simp only [e1, Bool.false_eq_true, if_false, decide_eq_true_eq]
    exact h
   ·have e2 : (y == z) = false := by simpa using hz
    simp only [e2, Bool.false_eq_true, if_false, decide_eq_true_eq] at h'
    have e3 : (x == z) = false := by simp; omega
    simp only [e3, Bool.false_eq_true, if_false, decide_eq_true_eq]
    omega
theorem lexL_app : ∀ {a b l r : List Int}, lexL a b = true → lexL (a ++ l) (b ++ r) = true
 | [], b, l, r, h => by simp [lexL] at h
 | x :: a, [], l, r, h => by simp [lexL] at h
 | x :: a, y :: b, l, r, h => by
  rw [lexL] at h
  rw [List.cons_append, List.cons_append, lexL]
  split
  ·rename_i hx; rw [if_pos hx] at h; exact lexL_app h
  ·rename_i hx; rw [if_neg hx] at h; exact h
theorem fallsS_self (a : List Int) : fallsS a a = false := by unfold fallsS; rw [lexL_self, Bool.and_false]
theorem fallsS_asym {a b : List Int} : (fallsS a b && fallsS b a) = false := by
 unfold fallsS
 cases h : lexL a b with
 | false => simp
 | true => rw [lexL_asym h]; simp
theorem fallsS_trans {a b c : List Int} (h : fallsS a b = true) (h' : fallsS b c = true) : fallsS a c = true := by
 unfold fallsS at h h' ⊢
 simp only [Bool.and_eq_true, beq_iff_eq] at h h' ⊢
 exact ⟨⟨h.1.1.trans h'.1.1, h'.1.2⟩, lexL_trans h.2 h'.2⟩
theorem fallsS_front {a b : List Int} {f : Int} (hf : 0 ≤ f) (h : fallsS a b = true) : fallsS (f :: a) (f :: b) = true := by
 unfold fallsS at h ⊢
 simp only [Bool.and_eq_true, beq_iff_eq, List.length_cons, List.all_cons, lexL, if_true, decide_eq_true_eq] at h ⊢
 exact ⟨⟨by omega, hf, h.1.2⟩, h.2⟩
theorem fallsS_behind {a b l r : List Int} (hl : l.length = r.length) (hr : ∀ y ∈ r, 0 ≤ y) (h : fallsS a b = true) : fallsS (a ++ l) (b ++ r) = true := by
 unfold fallsS at h ⊢
 simp only [Bool.and_eq_true, beq_iff_eq, List.length_append, List.all_append] at h ⊢
 exact ⟨⟨by omega, h.1.2, List.all_eq_true.2 fun y hy => by simpa using hr y hy⟩, lexL_app h.2⟩
end Go.Abs
end
section
set_option linter.unusedSimpArgs false
set_option linter.unusedVariables false
set_option linter.unusedSectionVars false
namespace Go.Abs
def eqP (q : Pred × Pred) : Pred := p2 10 q.1 q.2
def ltP (q : Pred × Pred) : Pred := p2 12 q.1 q.2
def lessStp (acc : Option Pred × List Pred) (q : Pred × Pred) : Option Pred × List Pred :=
 (some (match acc.1 with
  | none => andP (acc.2 ++ [ltP q])
  | some o => p2 16 o (andP (acc.2 ++ [ltP q]))), acc.2 ++ [eqP q])
def lessGo (l : List (Pred × Pred)) : Option Pred × List Pred := l.foldl lessStp (none, [])
theorem lessGo_snoc (l : List (Pred × Pred)) (q : Pred × Pred) : lessGo (l ++ [q]) = lessStp (lessGo l) q := by unfold lessGo; rw [List.foldl_append]; rfl
theorem lessGo_snd (l : List (Pred × Pred)) : (lessGo l).2 = l.map eqP := by
 induction l using snoc_ind with
 | h0 => rfl
 | h l q ih => rw [lessGo_snoc, lessStp, ih, List.map_append]; rfl
def lessP (a b : List Pred) : Pred := if a.length != b.length || a.length == 0 then falseP else (lessGo (a.zip b)).1.getD zeroP
def leZ (t : Pred) : Pred := p2 13 (pn 0) t
def boundP (a : List Pred) : Pred := andP (a.map leZ)
def Bv (at' : List Coef) (p : Pred) (b : Bool) : Prop := valR at' [] p = (tru b, true)
theorem tru_nz (b : Bool) : (tru b != 0) = b := by cases b <;> rfl
theorem bv_two {at' : List Coef} {o : Int} {a b : Pred} {x y : Int} (h1 : valR at' [] a = (x, true)) (h2 : valR at' [] b = (y, true)) (ho : o ≠ 1 ∧ o ≠ 2 ∧ o ≠ 3 ∧ o ≠ 4 ∧ o ≠ 5) : valR at' [] (p2 o a b) = compI o x y := by
 unfold p2
 rw [valR_eq]
 have e : ∀ k : Int, o ≠ k → (o == k) = false := fun k h => by simpa using h
 obtain ⟨a1, a2, a3, a4, a5⟩ := ho
 simp only [e _ a1, e _ a2, e _ a3, e _ a5, Bool.or_self, Bool.false_eq_true, if_false, List.all_cons, List.all_nil, h1, h2, Bool.and_self, if_true, List.map_cons, List.map_nil, topR, e _ a4]
 rfl
theorem bv_lt {at' : List Coef} {a b : Pred} {x y : Int} (h1 : valR at' [] a = (x, true)) (h2 : valR at' [] b = (y, true)) : Bv at' (p2 12 a b) (decide (x < y)) := by
 unfold Bv; rw [bv_two h1 h2 (by omega)]; rfl
theorem bv_eq {at' : List Coef} {a b : Pred} {x y : Int} (h1 : valR at' [] a = (x, true)) (h2 : valR at' [] b = (y, true)) : Bv at' (p2 10 a b) (x == y) := by
 unfold Bv; rw [bv_two h1 h2 (by omega)]; rfl
theorem bv_le {at' : List Coef} {a b : Pred} {x y : Int} (h1 : valR at' [] a = (x, true)) (h2 : valR at' [] b = (y, true)) : Bv at' (p2 13 a b) (decide (x ≤ y)) := by
 unfold Bv; rw [bv_two h1 h2 (by omega)]; rfl
theorem bv_and {at' : List Coef} {a b : Pred} {x y : Bool} (h1 : Bv at' a x) (h2 : Bv at' b y) : Bv at' (p2 15 a b) (x && y) := by
 unfold Bv; rw [bv_two h1 h2 (by omega)]
 show (tru (tru x != 0 && tru y != 0), true) = _
 rw [tru_nz, tru_nz]
theorem bv_or {at' : List Coef} {a b : Pred} {x y : Bool} (h1 : Bv at' a x) (h2 : Bv at' b y) : Bv at' (p2 16 a b) (x || y) := by
 unfold Bv; rw [bv_two h1 h2 (by omega)]
 show (tru (tru x != 0 || tru y != 0), true) = _
 rw [tru_nz, tru_nz]
theorem bv_true {at' : List Coef} : Bv at' trueP true := by unfold Bv trueP; rw [valR_eq]; rfl
def Cmp (p : Pred) : Prop := p.op ≠ 0 ∧ p.op ≠ 2
theorem Cmp.void {p : Pred} (h : Cmp p) : voidP p = false := by
 unfold voidP
 rw [Bool.or_eq_false_iff]
 constructor <;> rw [← Bool.not_eq_true, Pred.same_iff]
 ·rintro rfl; exact h.1 rfl
 ·rintro rfl; exact h.2 rfl
theorem Cmp.false {p : Pred} (h : Cmp p) : isFalse p = false := by
 unfold isFalse
 rw [h.void, Bool.not_false, Bool.true_and, ← Bool.not_eq_true, Pred.same_iff]
 rintro rfl; exact h.2 rfl
theorem andGo_cmp {l : List Pred} (h : ∀ p ∈ l, Cmp p) : (andGo l).2 = !l.isEmpty ∧ (andGo l).1.op ≠ 0 := by
 induction l using snoc_ind with
 | h0 => exact ⟨rfl, by decide⟩
 | h l q ih =>
  have hq := h q (by simp)
  rw [andGo_app, andStp, hq.void]
  simp only [Bool.false_eq_true, if_false]
  split
  ·exact ⟨by simp, by show (15 : Int) ≠ 0; decide⟩
  ·exact ⟨by simp, hq.1⟩
theorem andP_cmp {l : List Pred} (h : ∀ p ∈ l, Cmp p) : andP l = (andGo l).1 := by
 unfold andP
 rw [if_neg]
 rw [Bool.not_eq_true, List.any_eq_false]
 intro p hp
 rw [(h p hp).false]; simp
theorem and_val {at' : List Coef} {f : Pred → Bool} {l : List Pred} (h : ∀ p ∈ l, Cmp p) (hv : ∀ p ∈ l, Bv at' p (f p)) : Bv at' (andP l) (l.all f) := by
 rw [andP_cmp h]
 induction l using snoc_ind with
 | h0 => exact bv_true
 | h l q ih =>
  have hq := h q (by simp)
  have hl : ∀ p ∈ l, Cmp p := fun p hp => h p (by simp [hp])
  have ih := ih hl fun p hp => hv p (by simp [hp])
  have hb := hv q (by simp)
  rw [andGo_app, andStp, hq.void]
  simp only [Bool.false_eq_true, if_false, (andGo_cmp hl).1]
  rw [List.all_append, List.all_cons, List.all_nil, Bool.and_true]
  cases l with
  | nil => simpa using hb
  | cons p l =>
   simp only [List.isEmpty_cons, Bool.not_false, if_true]
   exact bv_and ih hb
theorem lexL_snoc : ∀ {a b : List Int} {x y : Int}, a.length = b.length → lexL (a ++ [x]) (b ++ [y]) = (lexL a b || (a == b && decide (x < y)))
 | [], [], x, y, _ => by
  simp only [List.nil_append, lexL, Bool.false_or, beq_self_eq_true, Bool.true_and]
  by_cases h : x = y
  ·subst h; simp
  ·have : (x == y) = false := by simpa using h
   simp [this]
 | [], _ :: _, x, y, h => by simp at h
 | _ :: _, [], x, y, h => by simp at h
 | u :: a, v :: b, x, y, h => by
  rw [List.cons_append, List.cons_append, lexL, lexL, lexL_snoc (a := a) (b := b) (by simpa using h)]
  by_cases hx : u = v
  ·subst hx
   simp only [beq_self_eq_true, if_true]
   congr 2
   rw [Bool.eq_iff_iff]; simp
  ·have e1 : (u == v) = false := by simpa using hx
   have e2 : ((u :: a : List Int) == v :: b) = false := by simp [hx]
   simp only [e1, e2, Bool.false_eq_true, if_false, Bool.false_and, Bool.or_false]
def evI (at' : List Coef) (p : Pred) : Int := (valR at' [] p).1
theorem less_val {at' : List Coef} {l : List (Pred × Pred)} (hv : ∀ q ∈ l, (valR at' [] q.1).2 = true ∧ (valR at' [] q.2).2 = true) (hne : l ≠ []) :
  ∃ o, (lessGo l).1 = some o ∧ o.op ≠ 0 ∧ Bv at' o (lexL (l.map fun q => evI at' q.1) (l.map fun q => evI at' q.2)) := by
 induction l using snoc_ind with
 | h0 => exact absurd rfl hne
 | h l q ih =>
  have e : ∀ p : Pred, (valR at' [] p).2 = true → valR at' [] p = (evI at' p, true) := fun p h => by rw [evI, ← h]
  obtain ⟨h1, h2⟩ := hv q (by simp)
  have hl : ∀ q ∈ l, (valR at' [] q.1).2 = true ∧ (valR at' [] q.2).2 = true := fun p hp => hv p (by simp [hp])
  rw [lessGo_snoc]
  let f : Pred → Bool := fun p => (valR at' [] p).1 != 0
  have hcmp : ∀ p ∈ l.map eqP ++ [ltP q], Cmp p := fun p hp => by
   rcases List.mem_append.1 hp with hp | hp
   ·obtain ⟨r, _, rfl⟩ := List.mem_map.1 hp
    exact ⟨by show (10 : Int) ≠ 0; decide, by show (10 : Int) ≠ 2; decide⟩
   ·simp only [List.mem_singleton] at hp; subst hp
    exact ⟨by show (12 : Int) ≠ 0; decide, by show (12 : Int) ≠ 2; decide⟩
  have heq : ∀ r ∈ l, Bv at' (eqP r) (evI at' r.1 == evI at' r.2) := fun r hr => bv_eq (e _ (hl r hr).1) (e _ (hl r hr).2)
  have hlt : Bv at' (ltP q) (decide (evI at' q.1 < evI at' q.2)) := bv_lt (e _ h1) (e _ h2)
  have fB : ∀ {p : Pred} {b : Bool}, Bv at' p b → f p = b := fun {p b} h => by
   show ((valR at' [] p).1 != 0) = b
   rw [h]; exact tru_nz b
  have hone := and_val (at' := at') (f := f) hcmp fun p hp => by
   rcases List.mem_append.1 hp with hp | hp
   ·obtain ⟨r, hr, rfl⟩ := List.mem_map.1 hp
    rw [fB (heq r hr)]; exact heq r hr
   ·simp only [List.mem_singleton] at hp; subst hp
    rw [fB hlt]; exact hlt
  have hall : (l.map eqP ++ [ltP q]).all f = (((l.map fun q => evI at' q.1) == (l.map fun q => evI at' q.2)) && decide (evI at' q.1 < evI at' q.2)) := by
   rw [List.all_append, List.all_cons, List.all_nil, Bool.and_true, fB hlt]
   congr 1
   have : ∀ m : List (Pred × Pred), (∀ r ∈ m, r ∈ l) → (m.map eqP).all f = ((m.map fun q => evI at' q.1) == (m.map fun q => evI at' q.2)) := by
    intro m
    induction m with
    | nil => intro _; rfl
    | cons r m ihm =>
     intro hm
     rw [List.map_cons, List.all_cons, fB (heq r (hm r (by simp))), ihm fun x hx => hm x (by simp [hx])]
     rw [List.map_cons, List.map_cons, Bool.eq_iff_iff]; simp
   exact this l fun _ h => h
  rw [hall] at hone
  have hop : (andP (l.map eqP ++ [ltP q])).op ≠ 0 := by rw [andP_cmp hcmp]; exact (andGo_cmp hcmp).2
  rw [List.map_append, List.map_append, List.map_cons, List.map_nil, List.map_cons, List.map_nil, lexL_snoc (by simp)]
  simp only [lessStp, lessGo_snd]
  by_cases hn : l = []
  ·subst hn
   refine ⟨_, rfl, hop, ?_⟩
   simpa [lessGo, lexL] using hone
  ·obtain ⟨o, ho, _, hb⟩ := ih hl hn
   rw [ho]
   refine ⟨_, rfl, by show (16 : Int) ≠ 0; decide, ?_⟩
   exact bv_or hb hone
theorem bound_val {at' : List Coef} {l : List Pred} (hv : ∀ t ∈ l, (valR at' [] t).2 = true) : (boundP l).op ≠ 0 ∧ Bv at' (boundP l) ((l.map (evI at')).all fun y => decide (0 ≤ y)) := by
 have e : ∀ p : Pred, (valR at' [] p).2 = true → valR at' [] p = (evI at' p, true) := fun p h => by rw [evI, ← h]
 have h0 : valR at' [] (pn 0) = (0, true) := by unfold pn; rw [valR_eq]; rfl
 have hcmp : ∀ p ∈ l.map leZ, Cmp p := fun p hp => by
  obtain ⟨r, _, rfl⟩ := List.mem_map.1 hp
  exact ⟨by show (13 : Int) ≠ 0; decide, by show (13 : Int) ≠ 2; decide⟩
 let f : Pred → Bool := fun p => (valR at' [] p).1 != 0
 have hb : ∀ t ∈ l, Bv at' (leZ t) (decide (0 ≤ evI at' t)) := fun t ht => bv_le h0 (e _ (hv t ht))
 have fB : ∀ {p : Pred} {b : Bool}, Bv at' p b → f p = b := fun {p b} h => by
  show ((valR at' [] p).1 != 0) = b
  rw [h]; exact tru_nz b
 have hone := and_val (at' := at') (f := f) hcmp fun p hp => by
  obtain ⟨r, hr, rfl⟩ := List.mem_map.1 hp
  rw [fB (hb r hr)]; exact hb r hr
 have hall : (l.map leZ).all f = (l.map (evI at')).all fun y => decide (0 ≤ y) := by
  rw [List.all_map, List.all_map, Bool.eq_iff_iff, List.all_eq_true, List.all_eq_true]
  constructor
  ·intro h t ht; have := h t ht; simp only [Function.comp] at this ⊢; rw [fB (hb t ht)] at this; exact this
  ·intro h t ht; have := h t ht; simp only [Function.comp] at this ⊢; rw [fB (hb t ht)]; exact this
 rw [hall] at hone
 refine ⟨?_, hone⟩
 unfold boundP
 rw [andP_cmp hcmp]; exact (andGo_cmp hcmp).2
theorem EvalS_ok {at' : List Coef} {p : Pred} (h : (EvalS at' [] p).2 = true) : EvalS at' [] p = valR at' [] p := by
 unfold EvalS at h ⊢
 split at h
 ·cases h
 ·rename_i hc; rw [if_neg hc]
theorem holdsB {at' : List Coef} {p : Pred} {b : Bool} (h0 : p.op ≠ 0) (hb : Bv at' p b) (h : (HoldsS at' [] p).2 = true) : (HoldsS at' [] p).1 = b := by
 have hz : p.same zeroP = false := by rw [← Bool.not_eq_true, Pred.same_iff]; rintro rfl; exact h0 rfl
 unfold HoldsS at h ⊢
 rw [hz] at h ⊢
 simp only [Bool.false_eq_true, if_false] at h ⊢
 have := EvalS_ok h
 rw [this, hb] at *
 simp [tru_nz]
theorem means_plain {at' : List Coef} {a b : List Pred} (ha : ∀ t ∈ a, (EvalS at' [] t).2 = true) (hb : ∀ t ∈ b, (EvalS at' [] t).2 = true) (hf : (HoldsS at' [] (lessP a b)).2 = true) (hg : (HoldsS at' [] (boundP b)).2 = true) :
  ((HoldsS at' [] (lessP a b)).1 && (HoldsS at' [] (boundP b)).1) = fallsS (a.map fun t => (EvalS at' [] t).1) (b.map fun t => (EvalS at' [] t).1) := by
 have va : ∀ t ∈ a, (valR at' [] t).2 = true := fun t ht => by rw [← EvalS_ok (ha t ht)]; exact ha t ht
 have vb : ∀ t ∈ b, (valR at' [] t).2 = true := fun t ht => by rw [← EvalS_ok (hb t ht)]; exact hb t ht
 have ma : a.map (fun t => (EvalS at' [] t).1) = a.map (evI at') := List.map_congr_left fun t ht => by rw [EvalS_ok (ha t ht)]; rfl
 have mb : b.map (fun t => (EvalS at' [] t).1) = b.map (evI at') := List.map_congr_left fun t ht => by rw [EvalS_ok (hb t ht)]; rfl
 obtain ⟨o2, hb2⟩ := bound_val vb
 rw [ma, mb, holdsB o2 hb2 hg]
 unfold lessP at hf ⊢
 by_cases hc : (a.length != b.length || a.length == 0) = true
 ·rw [if_pos hc]
  have : (HoldsS at' [] falseP).1 = false := rfl
  rw [this, Bool.false_and]
  unfold fallsS
  simp only [Bool.or_eq_true, bne_iff_ne, ne_eq, beq_iff_eq] at hc
  rcases hc with hc | hc
  ·have : ((a.map (evI at')).length == (b.map (evI at')).length) = false := by simpa using hc
   rw [this]; rfl
  ·have : a = [] := List.eq_nil_of_length_eq_zero hc
   subst this
   simp [lexL]
 ·rw [if_neg hc] at hf ⊢
  simp only [Bool.or_eq_true, bne_iff_ne, ne_eq, beq_iff_eq, not_or, Decidable.not_not] at hc
  obtain ⟨hl, h0⟩ := hc
  have hne : a.zip b ≠ [] := fun e => by
   have := congrArg List.length e
   rw [List.length_zip, List.length_nil] at this
   omega
  obtain ⟨o, ho, h1, h2⟩ := less_val (at' := at') (l := a.zip b) (fun q hq => ⟨va _ (List.of_mem_zip (show (q.1, q.2) ∈ a.zip b from hq)).1, vb _ (List.of_mem_zip (show (q.1, q.2) ∈ a.zip b from hq)).2⟩) hne
  rw [ho] at hf ⊢
  simp only [Option.getD_some] at hf ⊢
  rw [holdsB h1 h2 hf]
  have e1 : (a.zip b).map (fun q => evI at' q.1) = a.map (evI at') := by
   have := congrArg (List.map (evI at')) (List.map_fst_zip (l₁ := a) (l₂ := b) (by omega))
   rw [List.map_map] at this; exact this
  have e2 : (a.zip b).map (fun q => evI at' q.2) = b.map (evI at') := by
   have := congrArg (List.map (evI at')) (List.map_snd_zip (l₁ := a) (l₂ := b) (by omega))
   rw [List.map_map] at this; exact this
  rw [e1, e2]
  unfold fallsS
  have : ((a.map (evI at')).length == (b.map (evI at')).length) = true := by simpa using hl
  rw [this, Bool.true_and, Bool.and_comm]
end Go.Abs
end
section
set_option linter.unusedSimpArgs false
set_option linter.unusedVariables false
set_option linter.unusedSectionVars false
namespace Go.Abs
theorem ixF_mid {α : Type} {f : α → Bool} {done r : List α} {x : α} (h : ∀ y ∈ done, f y = false) : (done ++ x :: r).findIdx? f = if f x then some done.length else (r.findIdx? f).map fun i => i + done.length + 1 := by
 induction done with
 | nil =>
  rw [List.nil_append, List.findIdx?_cons]
  split
  ·rfl
  ·simp
 | cons y done ih =>
  rw [List.cons_append, List.findIdx?_cons, h y (by simp), ih fun z hz => h z (by simp [hz])]
  simp only [Bool.false_eq_true, if_false]
  split
  ·simp
  ·rw [Option.map_map]
   congr 1
theorem ixF_none {α : Type} {f : α → Bool} {l : List α} (h : ∀ y ∈ l, f y = false) : l.findIdx? f = none := by
 rw [List.findIdx?_eq_none_iff]; exact h
def ixI {α : Type} (f : α → Bool) (l : List α) : Int := match l.findIdx? f with
 | some i => i
 | none => -1
theorem ixI_cases {α : Type} (f : α → Bool) (l : List α) : (∃ a x r, l = a ++ x :: r ∧ (∀ y ∈ a, f y = false) ∧ f x = true ∧ ixI f l = a.length ∧ l.find? f = some x) ∨ ((∀ y ∈ l, f y = false) ∧ ixI f l = -1 ∧ l.find? f = none) := by
 cases h : l.find? f with
 | none =>
  have hall : ∀ y ∈ l, f y = false := fun y hy => by have := List.find?_eq_none.1 h y hy; simpa using this
  refine .inr ⟨hall, ?_, rfl⟩
  unfold ixI; rw [ixF_none hall]
 | some x =>
  obtain ⟨hx, a, r, rfl, ha⟩ := List.find?_eq_some_iff_append.1 h
  have ha' : ∀ y ∈ a, f y = false := fun y hy => by simpa using ha y hy
  refine .inl ⟨a, x, r, rfl, ha', hx, ?_, rfl⟩
  unfold ixI; rw [ixF_mid ha', if_pos hx]
def findM (l : List Meas) (s : Str) : Meas × Bool := match l.find? (fun x => x.name == s) with
 | some x => (x, true)
 | none => (Meas.zero, false)
def findCas (l : List Cas) (s : Str) : Cas × Bool := match l.find? (fun x => x.con == s) with
 | some x => (x, true)
 | none => (Cas.zero, false)
theorem Meas.cells_mk (a b c : Str) (l : List Cas) (o : Int) (s : Str) (n : Int) (ks : List Pred) : Meas.cells ⟨a, b, c, l, .mk o s n ks⟩ = [.str a, .str b, .str c, .lst (l.map Cas.cells), .int .i64 o, .str s, .int .i64 n, .lst (ks.map Pred.cells)] := by rw [Meas.cells, Pred.cells_eq]; rfl
theorem Cas.cells_mk (a : Str) (l : List Str) (o : Int) (s : Str) (n : Int) (ks : List Pred) : Cas.cells ⟨a, l, .mk o s n ks⟩ = [.str a, .lst (l.map fun k => [.str k]), .int .i64 o, .str s, .int .i64 n, .lst (ks.map Pred.cells)] := by rw [Cas.cells, Pred.cells_eq]; rfl
theorem Meas.cells_zero : Meas.zero.cells = [.str [], .str [], .str [], .lst [], .int .i64 0, .str [], .int .i64 0, .lst []] := Meas.cells_mk _ _ _ _ _ _ _ _
theorem Cas.cells_zero : Cas.zero.cells = [.str [], .lst [], .int .i64 0, .str [], .int .i64 0, .lst []] := Cas.cells_mk _ _ _ _ _ _
theorem DataT.cells_zero : DataT.zero.cells = [.str [], .lst [], .lst [], .lst []] := rfl
theorem getD_atF {α : Type} {f : α → List D} {l a r : List α} {x : α} {n : Nat} (hl : l = a ++ x :: r) (hn : a.length = n) : (l.map f).getD n [] = f x := by subst hn; exact getD_at hl
def Val.zero : Val := .mk 0 0 [] [] (.lst []) (.lst []) (.lst [])
theorem Val.cells_zero : Val.zero.cells = [.int .i64 0, .int .i64 0, .str [], .lst [], .lst [], .lst [], .lst []] := Val.cells_mk _ _ _ _ _ _ _
theorem fieldE_mid {names na nr : List Str} {ks ka kr : List Val} {x s : Str} {k : Val} (h1 : names = na ++ x :: nr) (h2 : ks = ka ++ k :: kr) (hl : na.length = ka.length) (h : ∀ y ∈ na, (y == s) = false) : fieldE names ks s = if x == s then some k else fieldE nr kr s := by
 subst h1 h2
 unfold fieldE
 rw [List.zip_append hl, List.zip_cons_cons]
 have : ∀ q ∈ na.zip ka, (q.1 == s) = false := fun q hq => h q.1 (List.of_mem_zip (show (q.1, q.2) ∈ na.zip ka from hq)).1
 rw [find_mid this]
 simp only
 split <;> rfl
theorem fieldE_none {names : List Str} {ks : List Val} {s : Str} (h : ∀ y ∈ names, (y == s) = false) : fieldE names ks s = none := by
 unfold fieldE
 have : ∀ q ∈ names.zip ks, (q.1 == s) = false := fun q hq => h q.1 (List.of_mem_zip (show (q.1, q.2) ∈ names.zip ks from hq)).1
 rw [find_all this]; rfl
def fieldR (names : List Str) (ks : List Val) (s : Str) : Val × Bool := match fieldE names ks s with
 | some k => (k, true)
 | none => (Val.zero, false)
set_option maxRecDepth 100000
variable {E : AEnv} (Z : Sys E)
include Z
theorem syntax_Con_ev (m : Mod) (s : Str) : E.C syntax_Con [.agg m.cells, .one (.str s)] (.tup [.agg (conS s m.datas).1.cells, .one (.int .i64 (conS s m.datas).2.1), .one (.bool (conS s m.datas).2.2)]) := by
 refine Z.syntax_Con _ _ ⟨Nat.le_of_ble_eq_true rfl, ?_⟩
 generalize hR : conS s m.datas = R
 simp only [fn_syntax_Con, Mod.cells, go_sem]
 intro hlen
 refine loop_list m.datas (fun done => ∀ y ∈ done, conIx s 0 y.cons = none) (fun done rest => ⟨[(14, .d (.int .i64 done.length)), (13, .d (.int .i64 m.datas.length)), (12, .d (.lst (m.datas.map DataT.cells))), (1, .d (.str s)), (4, .ptr 4 0)], [(4, [.d (.str []), .full [], .full [], .full []])], []⟩) ?_ (by simp) ?_ ?_
 ·exact Ent_plain (by simp only [go_sem, Option.isSome_some])
 ·intro done d r hl hI
  have hx := getD_at (f := DataT.cells) (d := []) hl
  have hlt := lt_mid hl
  have hw : IntKind.i64.wrap ((done.length : Int) + 1) = ((done.length + 1 : Nat) : Int) := wrap_succ (by omega)
  have hR' : conS s m.datas = match conIx s 0 d.cons with
    | some i => (d, (i : Int), true)
    | none => match conOf s r with
     | some (d, i) => (d, (i : Int), true)
     | none => (DataT.zero, 0, false) := by
   unfold conS
   rw [hl, conOf_mid hI]
   cases conIx s 0 d.cons <;> rfl
  rw [hR'] at hR
  simp only [fn_syntax_Con_L2, go_sem, hx, hlt, DataT.cells]
  intro hlen2
  refine loop_named fun K hK => ?_
  refine loop_list d.cons (fun dn => ∀ y ∈ dn, (y.name == s) = false) (fun dn rest => ⟨[(21, .d (.int .i64 dn.length)), (20, .d (.int .i64 d.cons.length)), (19, .d (.lst (d.cons.map ConT.cells))), (14, .d (.int .i64 done.length)), (13, .d (.int .i64 m.datas.length)), (12, .d (.lst (m.datas.map DataT.cells))), (1, .d (.str s)), (4, .ptr 4 0), (8, .ptr 8 0)], [(4, [.d (.str []), .full [], .full [], .full []]), (8, [.d (.str d.name), .d d.vs, .d d.ps, .d (.lst (d.cons.map ConT.cells))])], []⟩) ?_ (by simp) ?_ ?_
  ·exact Ent_plain (by simp only [go_sem, Option.isSome_some])
  ·intro dn c r2 hl2 hI2
   have hx2 := getD_at (f := ConT.cells) (d := []) hl2
   have hlt2 := lt_mid hl2
   have hw2 : IntKind.i64.wrap ((dn.length : Int) + 1) = ((dn.length + 1 : Nat) : Int) := wrap_succ (by omega)
   rw [hl2, conIx_mid 0 hI2] at hR
   simp only [fn_syntax_Con_L1, go_sem, hx2, hlt2, ConT.cells]
   cases h1 : (c.name == s) with
   | true =>
    simp only [h1, go_sem] at hR ⊢
    simp only [hK, go_sem, ← hR, DataT.cells, and_self, hl2, Nat.zero_add]
   | false =>
    simp only [go_sem, hw2, List.length_append]
    exact ⟨Ent_plain (by simp only [go_sem, Option.isSome_some]), app_all hI2 h1⟩
  ·intro hI2
   have hno := conIx_none 0 hI2
   simp only [fn_syntax_Con_L1, go_sem, hK, hw, List.length_append]
   exact ⟨Ent_plain (by simp only [go_sem, Option.isSome_some]), app_all hI hno⟩
 ·intro hI
  have hR' : conS s m.datas = (DataT.zero, 0, false) := by unfold conS; rw [conOf_none hI]
  rw [hR'] at hR
  simp only [fn_syntax_Con_L2, go_sem, ← hR, DataT.cells_zero, and_self]
theorem r20_Con_ev (m : Mod) (s : Str) : E.C r20_Con [.agg m.cells, .one (.str s)] (.tup [.agg (conS s m.datas).1.cells, .one (.int .i64 (conS s m.datas).2.1), .one (.bool (conS s m.datas).2.2)]) := by
 refine Z.r20_Con _ _ ⟨Nat.le_of_ble_eq_true rfl, ?_⟩
 generalize hR : conS s m.datas = R
 simp only [fn_r20_Con, Mod.cells, go_sem]
 refine loop_list m.datas (fun done => ∀ y ∈ done, conIx s 0 y.cons = none) (fun done rest => ⟨[(7, .d (.int .i64 done.length)), (2, .ptr 2 0), (1, .d (.str s)), (4, .ptr 4 0)], [(2, [.d (.lst (m.datas.map DataT.cells)), .d m.cls, .d m.ins, .d (.lst (m.meas.map Meas.cells)), .d m.quals, .d m.defs]), (4, [.d (.str []), .full [], .full [], .full []])], []⟩) ?_ (by simp) ?_ ?_
 ·exact Ent_plain (by simp only [go_sem, Option.isSome_some])
 ·intro done d r hl hI
  have hx := getD_at (f := DataT.cells) (d := []) hl
  have hlt := lt_mid hl
  have hR' : conS s m.datas = match conIx s 0 d.cons with
    | some i => (d, (i : Int), true)
    | none => match conOf s r with
     | some (d, i) => (d, (i : Int), true)
     | none => (DataT.zero, 0, false) := by
   unfold conS
   rw [hl, conOf_mid hI]
   cases conIx s 0 d.cons <;> rfl
  rw [hR'] at hR
  simp only [fn_r20_Con_L2, go_sem, hlt, List.length_map]
  intro hlen
  have hw : IntKind.i64.wrap ((done.length : Int) + 1) = ((done.length + 1 : Nat) : Int) := wrap_succ (by omega)
  refine loop_named fun K hK => ?_
  refine loop_list d.cons (fun dn => ∀ y ∈ dn, (y.name == s) = false) (fun dn rest => ⟨[(8, .d (.int .i64 dn.length)), (7, .d (.int .i64 done.length)), (2, .ptr 2 0), (1, .d (.str s)), (4, .ptr 4 0)], [(2, [.d (.lst (m.datas.map DataT.cells)), .d m.cls, .d m.ins, .d (.lst (m.meas.map Meas.cells)), .d m.quals, .d m.defs]), (4, [.d (.str []), .full [], .full [], .full []])], []⟩) ?_ (by simp) ?_ ?_
  ·exact Ent_plain (by simp only [go_sem, Option.isSome_some])
  ·intro dn c r2 hl2 hI2
   have hx2 := getD_at (f := ConT.cells) (d := []) hl2
   have hlt2 := lt_mid hl2
   rw [hl2, conIx_mid 0 hI2] at hR
   simp only [fn_r20_Con_L1, go_sem, hx, hlt, DataT.cells, List.length_map, hlt2]
   intro hlen2
   have hw2 : IntKind.i64.wrap ((dn.length : Int) + 1) = ((dn.length + 1 : Nat) : Int) := wrap_succ (by omega)
   simp only [go_sem, hx, hlt, DataT.cells, List.length_map, hlt2, hx2, ConT.cells]
   cases h1 : (c.name == s) with
   | true =>
    simp only [h1, go_sem] at hR ⊢
    simp only [hx, hlt, List.length_map, DataT.cells, go_sem, hK, ← hR, and_self, hl2, Nat.zero_add]
   | false =>
    simp only [go_sem, hw2, List.length_append]
    exact ⟨Ent_plain (by simp only [go_sem, Option.isSome_some]), app_all hI2 h1⟩
  ·intro hI2
   have hno := conIx_none 0 hI2
   simp only [fn_r20_Con_L1, go_sem, hx, hlt, DataT.cells, List.length_map]
   intro _
   simp only [go_sem, hK, hw, List.length_append]
   exact ⟨Ent_plain (by simp only [go_sem, Option.isSome_some]), app_all hI hno⟩
 ·intro hI
  have hR' : conS s m.datas = (DataT.zero, 0, false) := by unfold conS; rw [conOf_none hI]
  rw [hR'] at hR
  simp only [fn_r20_Con_L2, go_sem, List.length_map]
  intro _
  simp only [go_sem, ← hR, DataT.cells_zero, and_self]
theorem ixMeas_ev (l : List Meas) (s : Str) : E.C slices_IndexFunc_api_Measure_api_Measure [.one (.lst (l.map Meas.cells)), .one (.clo measure_find_1 [.ref [.str s]])] (.one (.int .i64 (ixI (fun x : Meas => x.name == s) l))) := by
 refine Z.slices_IndexFunc_api_Measure_api_Measure _ _ ⟨Nat.le_of_ble_eq_true rfl, ?_⟩
 have hf : ∀ x : Meas, E.C measure_find_1 [.agg x.cells, .one (.ref [.str s])] (.one (.bool (x.name == s))) := fun x => by
  obtain ⟨a, b, c, cs, o, t, n, ks⟩ := x
  refine Z.measure_find_1 _ _ ⟨Nat.le_of_ble_eq_true rfl, ?_⟩
  simp only [fn_measure_find_1, Meas.cells_mk, go_sem]
 generalize hR : ixI (fun x : Meas => x.name == s) l = R
 simp only [fn_slices_IndexFunc_api_Measure_api_Measure, go_sem]
 intro hlen
 refine loop_list l (fun done => ∀ y ∈ done, (y.name == s) = false) (fun done rest => ⟨[(8, .d (.int .i64 done.length)), (7, .d (.int .i64 l.length)), (0, .d (.lst (l.map Meas.cells))), (1, .d (.clo measure_find_1 [.ref [.str s]]))], [], []⟩) ?_ (by simp) ?_ ?_
 ·exact Ent_plain (by simp only [go_sem])
 ·intro done x r hl hI
  have hx := getD_at (f := Meas.cells) (d := []) hl
  have hlt := lt_mid hl
  have hw : IntKind.i64.wrap ((done.length : Int) + 1) = ((done.length + 1 : Nat) : Int) := wrap_succ (by omega)
  unfold ixI at hR
  rw [hl, ixF_mid hI] at hR
  have hx4 : (Meas.cells x).take 8 = Meas.cells x := List.take_of_length_le (Nat.le_of_eq (Meas.cells_length x))
  simp only [fn_slices_IndexFunc_api_Measure_api_Measure_L1, go_sem, hx, hlt, List.length_map, hx4]
  refine call_by (hf x) ?_
  cases h1 : (x.name == s) with
  | true =>
   simp only [h1, go_sem] at hR ⊢
   exact hR
  | false =>
   simp only [go_sem, hw, List.length_append]
   exact ⟨Ent_plain (by simp only [go_sem]), app_all hI h1⟩
 ·intro hI
  unfold ixI at hR
  rw [ixF_none hI] at hR
  simp only [fn_slices_IndexFunc_api_Measure_api_Measure_L1, go_sem, ← hR]
theorem measure_find_ev (m : Mod) (s : Str) : E.C measure_find [.agg m.cells, .one (.str s)] (.tup [.agg (findM m.meas s).1.cells, .one (.bool (findM m.meas s).2)]) := by
 have hix := ixMeas_ev Z m.meas s
 refine Z.measure_find _ _ ⟨Nat.le_of_ble_eq_true rfl, ?_⟩
 simp only [fn_measure_find, Mod.cells, go_sem]
 refine call_byM (by simp only [CV.flat, flatD]) hix ?_
 rcases ixI_cases (fun x : Meas => x.name == s) m.meas with ⟨a, x, r, hl, ha, hx, h1, h2⟩ | ⟨ha, h1, h2⟩
 ·have hg := getD_at (f := Meas.cells) (d := []) hl
  have hlt := lt_mid hl
  have hneg : ((a.length : Int) < 0) = False := eq_false (by omega)
  have hR : findM m.meas s = (x, true) := by unfold findM; rw [h2]
  rw [h1, hR]
  obtain ⟨b, c, d, cs, o, t, n, ks⟩ := x
  simp only [go_sem, hneg, decide_false, hg, hlt, List.length_map, Meas.cells_mk, and_self]
 ·have hR : findM m.meas s = (Meas.zero, false) := by unfold findM; rw [h2]
  rw [h1, hR]
  simp only [go_sem, Meas.cells_zero, and_self]
theorem ixCas_ev (l : List Cas) (s : Str) : E.C slices_IndexFunc_api_Case_api_Case [.one (.lst (l.map Cas.cells)), .one (.clo measure_caseOf_1 [.ref [.str s]])] (.one (.int .i64 (ixI (fun x : Cas => x.con == s) l))) := by
 refine Z.slices_IndexFunc_api_Case_api_Case _ _ ⟨Nat.le_of_ble_eq_true rfl, ?_⟩
 have hf : ∀ x : Cas, E.C measure_caseOf_1 [.agg x.cells, .one (.ref [.str s])] (.one (.bool (x.con == s))) := fun x => by
  obtain ⟨a, cs, o, t, n, ks⟩ := x
  refine Z.measure_caseOf_1 _ _ ⟨Nat.le_of_ble_eq_true rfl, ?_⟩
  simp only [fn_measure_caseOf_1, Cas.cells_mk, go_sem]
 generalize hR : ixI (fun x : Cas => x.con == s) l = R
 simp only [fn_slices_IndexFunc_api_Case_api_Case, go_sem]
 intro hlen
 refine loop_list l (fun done => ∀ y ∈ done, (y.con == s) = false) (fun done rest => ⟨[(8, .d (.int .i64 done.length)), (7, .d (.int .i64 l.length)), (0, .d (.lst (l.map Cas.cells))), (1, .d (.clo measure_caseOf_1 [.ref [.str s]]))], [], []⟩) ?_ (by simp) ?_ ?_
 ·exact Ent_plain (by simp only [go_sem])
 ·intro done x r hl hI
  have hx := getD_at (f := Cas.cells) (d := []) hl
  have hlt := lt_mid hl
  have hw : IntKind.i64.wrap ((done.length : Int) + 1) = ((done.length + 1 : Nat) : Int) := wrap_succ (by omega)
  unfold ixI at hR
  rw [hl, ixF_mid hI] at hR
  have hx4 : (Cas.cells x).take 6 = Cas.cells x := List.take_of_length_le (Nat.le_of_eq (Cas.cells_length x))
  simp only [fn_slices_IndexFunc_api_Case_api_Case_L1, go_sem, hx, hlt, List.length_map, hx4]
  refine call_by (hf x) ?_
  cases h1 : (x.con == s) with
  | true =>
   simp only [h1, go_sem] at hR ⊢
   exact hR
  | false =>
   simp only [go_sem, hw, List.length_append]
   exact ⟨Ent_plain (by simp only [go_sem]), app_all hI h1⟩
 ·intro hI
  unfold ixI at hR
  rw [ixF_none hI] at hR
  simp only [fn_slices_IndexFunc_api_Case_api_Case_L1, go_sem, ← hR]
theorem measure_caseOf_ev (x : Meas) (s : Str) : E.C measure_caseOf [.agg x.cells, .one (.str s)] (.tup [.agg (findCas x.cases s).1.cells, .one (.bool (findCas x.cases s).2)]) := by
 have hix := ixCas_ev Z x.cases s
 refine Z.measure_caseOf _ _ ⟨Nat.le_of_ble_eq_true rfl, ?_⟩
 obtain ⟨b0, c0, d0, cs0, o0, t0, n0, ks0⟩ := x
 simp only [fn_measure_caseOf, Meas.cells_mk, go_sem] at hix ⊢
 refine call_byM (by simp only [CV.flat, flatD]) hix ?_
 rcases ixI_cases (fun x : Cas => x.con == s) cs0 with ⟨a, x, r, hl, ha, hx, h1, h2⟩ | ⟨ha, h1, h2⟩
 ·have hg := getD_at (f := Cas.cells) (d := []) hl
  have hlt := lt_mid hl
  have hneg : ((a.length : Int) < 0) = False := eq_false (by omega)
  have hR : findCas cs0 s = (x, true) := by unfold findCas; rw [h2]
  rw [h1, hR]
  obtain ⟨b, cs, o, t, n, ks⟩ := x
  simp only [go_sem, hneg, decide_false, hg, hlt, List.length_map, Cas.cells_mk, and_self]
 ·have hR : findCas cs0 s = (Cas.zero, false) := by unfold findCas; rw [h2]
  rw [h1, hR]
  simp only [go_sem, Cas.cells_zero, and_self]
theorem r34_find_ev (m : Mod) (s : Str) : E.C r34_find [.agg m.cells, .one (.str s)] (.tup [.agg (findM m.meas s).1.cells, .one (.bool (findM m.meas s).2)]) := by
 refine Z.r34_find _ _ ⟨Nat.le_of_ble_eq_true rfl, ?_⟩
 generalize hR : findM m.meas s = R
 unfold findM at hR
 simp only [fn_r34_find, Mod.cells, go_sem]
 refine loop_list m.meas (fun done => ∀ y ∈ done, (y.name == s) = false) (fun done rest => ⟨[(6, .d (.int .i64 done.length)), (2, .ptr 2 0), (1, .d (.str s)), (4, .ptr 4 0)], [(2, [.d (.lst (m.datas.map DataT.cells)), .d m.cls, .d m.ins, .d (.lst (m.meas.map Meas.cells)), .d m.quals, .d m.defs]), (4, [.d (.str []), .d (.str []), .d (.str []), .full [], .d (.int .i64 0), .d (.str []), .d (.int .i64 0), .full []])], []⟩) ?_ (by simp) ?_ ?_
 ·exact Ent_plain (by simp only [go_sem, Option.isSome_some])
 ·intro done x r hl hI
  have hx := getD_at (f := Meas.cells) (d := []) hl
  have hlt := lt_mid hl
  rw [hl, find_mid hI] at hR
  obtain ⟨b, c, d, cs, o, t, n, ks⟩ := x
  simp only [fn_r34_find_L1, go_sem, hlt, List.length_map]
  intro hlen
  have hw : IntKind.i64.wrap ((done.length : Int) + 1) = ((done.length + 1 : Nat) : Int) := wrap_succ (by omega)
  simp only [go_sem, hx, hlt, List.length_map, Meas.cells_mk]
  cases h1 : (b == s) with
  | true =>
   simp only [h1, go_sem, hx, hlt, List.length_map, Meas.cells_mk] at hR ⊢
   simp only [← hR, Meas.cells_mk, and_self]
  | false =>
   simp only [go_sem, hw, List.length_append]
   exact ⟨Ent_plain (by simp only [go_sem, Option.isSome_some]), app_all hI h1⟩
 ·intro hI
  rw [find_all hI] at hR
  simp only [fn_r34_find_L1, go_sem, List.length_map]
  intro _
  simp only [go_sem, ← hR, Meas.cells_zero, and_self]
theorem r34_Case_ev (x : Meas) (s : Str) : E.C r34_Case [.agg x.cells, .one (.str s)] (.tup [.agg (findCas x.cases s).1.cells, .one (.bool (findCas x.cases s).2)]) := by
 refine Z.r34_Case _ _ ⟨Nat.le_of_ble_eq_true rfl, ?_⟩
 generalize hR : findCas x.cases s = R
 unfold findCas at hR
 obtain ⟨b0, c0, d0, cs0, o0, t0, n0, ks0⟩ := x
 simp only [fn_r34_Case, Meas.cells_mk, go_sem] at hR ⊢
 refine loop_list cs0 (fun done => ∀ y ∈ done, (y.con == s) = false) (fun done rest => ⟨[(6, .d (.int .i64 done.length)), (2, .ptr 2 0), (1, .d (.str s)), (4, .ptr 4 0)], [(2, [.d (.str b0), .d (.str c0), .d (.str d0), .d (.lst (cs0.map Cas.cells)), .d (.int .i64 o0), .d (.str t0), .d (.int .i64 n0), .d (.lst (ks0.map Pred.cells))]), (4, [.d (.str []), .full [], .d (.int .i64 0), .d (.str []), .d (.int .i64 0), .full []])], []⟩) ?_ (by simp) ?_ ?_
 ·exact Ent_plain (by simp only [go_sem, Option.isSome_some])
 ·intro done x r hl hI
  have hx := getD_at (f := Cas.cells) (d := []) hl
  have hlt := lt_mid hl
  rw [hl, find_mid hI] at hR
  obtain ⟨b, cs, o, t, n, ks⟩ := x
  simp only [fn_r34_Case_L1, go_sem, hlt, List.length_map]
  intro hlen
  have hw : IntKind.i64.wrap ((done.length : Int) + 1) = ((done.length + 1 : Nat) : Int) := wrap_succ (by omega)
  simp only [go_sem, hx, hlt, List.length_map, Cas.cells_mk]
  cases h1 : (b == s) with
  | true =>
   simp only [h1, go_sem, hx, hlt, List.length_map, Cas.cells_mk] at hR ⊢
   simp only [← hR, Cas.cells_mk, and_self]
  | false =>
   simp only [go_sem, hw, List.length_append]
   exact ⟨Ent_plain (by simp only [go_sem, Option.isSome_some]), app_all hI h1⟩
 ·intro hI
  rw [find_all hI] at hR
  simp only [fn_r34_Case_L1, go_sem, List.length_map]
  intro _
  simp only [go_sem, ← hR, Cas.cells_zero, and_self]
theorem r34_field_ev (names : List Str) (ks : List Val) (hlen : names.length = ks.length) (s : Str) : E.C r34_field [.one (.lst (names.map fun k => [.str k])), .one (.lst (ks.map Val.cells)), .one (.str s)] (.tup [.agg (fieldR names ks s).1.cells, .one (.bool (fieldR names ks s).2)]) := by
 refine Z.r34_field _ _ ⟨Nat.le_of_ble_eq_true rfl, ?_⟩
 generalize hR : fieldR names ks s = R
 unfold fieldR at hR
 have l1 : (∀ e ∈ names.map (fun k : Str => [D.str k]), e.length = 1) = True := eq_true (by simp)
 simp only [fn_r34_field, go_sem]
 refine loop_list names (fun done => ∀ y ∈ done, (y == s) = false) (fun done rest => ⟨[(8, .d (.int .i64 done.length)), (0, .d (.lst (names.map fun k => [.str k]))), (1, .d (.lst (ks.map Val.cells))), (2, .d (.str s)), (6, .ptr 6 0)], [(6, [.d (.int .i64 0), .d (.int .i64 0), .d (.str []), .full [], .full [], .full [], .full []])], []⟩) ?_ (by simp) ?_ ?_
 ·exact Ent_plain (by simp only [go_sem, Option.isSome_some])
 ·intro done x r hl hI
  obtain ⟨kd, k, kr, hk, hkl⟩ := at_split (b := ks) (n := done.length) (by rw [← hlen, hl]; simp)
  have hx : (names.map fun k : Str => [D.str k]).getD done.length [] = [.str x] := by rw [hl]; simp
  have hx2 := getD_atF (f := Val.cells) hk hkl
  have hlt := lt_mid hl
  have hlt2 := lt_mid hk
  rw [hkl] at hlt2
  rw [fieldE_mid hl hk hkl.symm hI] at hR
  simp only [fn_r34_field_L1, go_sem, hlt, List.length_map, l1]
  intro hlen
  have hw : IntKind.i64.wrap ((done.length : Int) + 1) = ((done.length + 1 : Nat) : Int) := wrap_succ (by omega)
  obtain ⟨a, b, c, d, e, f, g⟩ := k
  simp only [go_sem, hx, hlt, List.length_map, l1]
  cases h1 : (x == s) with
  | true =>
   simp only [h1, go_sem, hx2, hlt2, List.length_map, Val.cells_mk] at hR ⊢
   simp only [← hR, Val.cells_mk, and_self]
  | false =>
   simp only [go_sem, hw, List.length_append]
   exact ⟨Ent_plain (by simp only [go_sem, Option.isSome_some]), app_all hI h1⟩
 ·intro hI
  rw [fieldE_none hI] at hR
  simp only [fn_r34_field_L1, go_sem, List.length_map]
  intro _
  simp only [go_sem, ← hR, Val.cells_zero, and_self]
theorem r34_is_ev (b : Bool) : E.C r34_is [.one (.bool b)] (.one (.int .i64 (tru b))) := by
 refine Z.r34_is _ _ ⟨Nat.le_of_ble_eq_true rfl, ?_⟩
 cases b <;> simp only [fn_r34_is, go_sem, tru]
end Go.Abs
end
section
set_option linter.unusedSimpArgs false
set_option linter.unusedVariables false
set_option linter.unusedSectionVars false
namespace Go.Abs
def takenM (l : List Str) : List (D × MV) := l.reverse.map fun s => (.str s, .one (.bool true))
theorem takenM_snoc (l : List Str) (s : Str) : takenM (l ++ [s]) = (.str s, .one (.bool true)) :: takenM l := by simp [takenM]
theorem takenM_len (l : List Str) : (takenM l).length = l.length := by simp [takenM]
theorem takenM_at (l : List Str) (s : Str) : mapAt (takenM l) (.str s) (.one (.bool false)) = .one (.bool (l.contains s)) := by
 induction l using snoc_ind with
 | h0 => rfl
 | h l x ih =>
  rw [takenM_snoc]
  unfold mapAt at ih ⊢
  rw [mapGet, keyEq_str]
  by_cases hx : x = s
  ·subst hx; simp
  ·have h1 : (x == s) = false := by simpa using hx
   have h2 : (l ++ [x]).contains s = l.contains s := by
    rw [Bool.eq_iff_iff, List.contains_iff_mem, List.contains_iff_mem]; simp [Ne.symm hx]
   rw [h1, h2]
   exact ih
def ItoaLaw (E : AEnv) : Prop := ∀ n, I64 n → E.C strconv_Itoa [.one (.int .i64 n)] (.one (.str (Lib.itoa n)))
theorem seq3_named {E : AEnv} {a b c d : AC} {Q : AX → St → Prop} {st : St} (h : ∀ N, N = awp E d Q → awp E a (seqK (awp E b (seqK (awp E c (seqK N Q)) Q)) Q) st) : awp E (.seq a (.seq b (.seq c d))) Q st := h _ rfl
set_option maxRecDepth 100000
variable {E : AEnv} (Z : Sys E)
include Z
theorem names_Fresh_ev (hI : ItoaLaw E) (used : List Str) (base : Str) (hu : used.length < 4611686018427387904) (hb : base.length < 4611686018427387904) : E.C names_Fresh [.one (.lst (used.map fun k => [.str k])), .one (.str base)] (.one (.str (freshS used base))) := by
 refine Z.names_Fresh _ _ ⟨Nat.le_of_ble_eq_true rfl, ?_⟩
 have l1 : (∀ e ∈ used.map (fun k : Str => [D.str k]), e.length = 1) = True := eq_true (by simp)
 simp only [fn_names_Fresh, go_sem]
 intro hlen
 refine loop_named fun K hK => ?_
 refine loop_list used (fun _ => True) (fun done rest => ⟨[(13, .d (.int .i64 done.length)), (12, .d (.int .i64 used.length)), (11, .d (.lst (used.map fun k => [.str k]))), (1, .d (.str base)), (5, .mref 10)], [(10, [.mp ty_str ty_bool (takenM done)])], []⟩) ?_ trivial ?_ ?_
 ·exact Ent_plain (by simp only [go_sem, Option.isSome_some, takenM, List.reverse_nil])
 ·intro done x r hl _
  have hx : (used.map fun k : Str => [D.str k]).getD done.length [] = [.str x] := by rw [hl]; simp
  have hlt := lt_mid hl
  have hw : IntKind.i64.wrap ((done.length : Int) + 1) = ((done.length + 1 : Nat) : Int) := wrap_succ (by omega)
  have hdl : done.length < 9223372036854775807 := by
   have : done.length ≤ used.length := by rw [hl]; simp
   omega
  simp only [fn_names_Fresh_L2, go_sem, hx, hlt, List.length_map, l1, AV.toMV, takenM_len, hdl]
  simp only [go_sem, hw, List.length_append]
  exact Ent_plain (by simp only [go_sem, Option.isSome_some, takenM_snoc])
 ·intro _
  simp only [fn_names_Fresh_L2, go_sem, hK, takenM_at, MV.av]
  cases hc : used.contains base with
  | false =>
   simp only [go_sem, freshS_base hc]
  | true =>
   simp only [go_sem]
   refine loop_named fun K2 hK2 => ?_
   refine loop_meas (fun n : Nat => ⟨[(8, .d (.int .i64 n)), (1, .d (.str base)), (5, .mref 10)], [(10, [.mp ty_str ty_bool (takenM used)])], []⟩) (fun n => 1 ≤ n ∧ ∀ i, 1 ≤ i → i < n → numd base i ∈ used) (fun n => used.length + 2 - n) 1 ?_ ⟨Nat.le_refl _, fun i a b => by omega⟩ ?_
   ·exact Ent_plain (by simp only [go_sem, Option.isSome_some]; try rfl)
   ·rintro n ⟨h1, h2⟩
    have hn : n - 1 ≤ used.length := taken_le (base := base) fun i a b => h2 i a (by omega)
    have hI64 : I64 (n : Int) := ⟨by omega, by omega⟩
    have hil := Lib.itoa_length_le (n : Int) hI64.1 hI64.2
    have o1 : base.length + (Lib.itoa (n : Int)).length ≤ 9223372036854775807 := by omega
    have hw : IntKind.i64.wrap ((n : Int) + 1) = ((n + 1 : Nat) : Int) := wrap_succ (by omega)
    simp only [fn_names_Fresh_L1, go_sem]
    refine call_by (hI _ hI64) ?_
    simp only [go_sem, o1, takenM_at, MV.av]
    cases hc2 : used.contains (base ++ Lib.itoa (n : Int)) with
    | false =>
     have hno : numd base n ∉ used := fun hm => by
      have := List.contains_iff_mem.2 hm
      rw [show numd base n = base ++ Lib.itoa (n : Int) from rfl, hc2] at this
      cases this
     have hfr := freshS_num hc h1 h2 hno
     simp only [go_sem, hK2, hfr, numd]
    | true =>
     simp only [go_sem, hw]
     refine ⟨n + 1, Ent_plain (by simp only [go_sem, Option.isSome_some]), ⟨by omega, fun i a b => ?_⟩, by omega⟩
     by_cases hi : i = n
     ·subst hi; exact List.contains_iff_mem.1 hc2
     ·exact h2 i a (by omega)
theorem r34_operation_ev (o : Int) (l : List Int) (h0 : l ≠ []) : E.C r34_operation [.one (.int .i64 o), .one (.lst (l.map icell))] (res2 (opR o (l.getD 0 0) (l.getD 1 0))) := by
 have ha := fun a b => r01_Add_ev Z a b
 have hs := fun a b => r01_Sub_ev Z a b
 have hm := fun a b => r01_Mul_ev Z a b
 have hi := fun b => r34_is_ev Z b
 unfold res2 at *
 refine Z.r34_operation _ _ ⟨Nat.le_of_ble_eq_true rfl, ?_⟩
 obtain ⟨a, r, rfl⟩ := List.exists_cons_of_ne_nil h0
 have lpos : ((0 : Int) < ((a :: r).length : Int)) = True := eq_true (by rw [List.length_cons]; omega)
 have l1 := icell_lens (a :: r)
 have hg0 : ((a :: r).map icell).getD 0 [] = [.int .i64 a] := rfl
 generalize hb : (a :: r).getD 1 0 = b
 have hg1 : (1 : Int) < ((a :: r).length : Int) → ((a :: r).map icell).getD 1 [] = [.int .i64 b] := by
  intro h
  cases r with
  | nil => simp at h
  | cons c r => subst hb; rfl
 have hb0 : ¬ (1 : Int) < ((a :: r).length : Int) → b = 0 := by
  intro h
  cases r with
  | nil => subst hb; rfl
  | cons c r => exact absurd (by rw [List.length_cons, List.length_cons]; omega) h
 rw [List.getD_cons_zero]
 have hlm : ((a :: r).map icell).length = (a :: r).length := List.length_map _
 generalize (a :: r).length = m at *
 generalize (a :: r).map icell = L at *
 clear hb h0
 subst hlm
 simp only [fn_r34_operation]
 refine seq3_named fun N hN => ?_
 have tail : ∀ st : St, getS st.slots 0 = .d (.int .i64 o) → getS st.slots 6 = .d (.int .i64 a) → getS st.slots 7 = .d (.int .i64 b) → N st := by
  intro st e0 e6 e7
  subst hN
  clear hg0 hg1 lpos l1 hb0
  generalize hR : opR o a b = R
  unfold opR at hR
  cases c9 : (o == 9) with
  | true =>
   have e9 : o = 9 := by simpa using c9
   subst e9
   change subI 0 a = R at hR
   simp only [↓reduceIte, go_sem, e0, e6, e7] at hR ⊢; refine call_by (hs 0 a) ?_; simp only [go_sem, ← hR, and_self]
  | false =>
  cases c14 : (o == 14) with
  | true =>
   have e14 : o = 14 := by simpa using c14
   subst e14
   change (tru (a == 0), true) = R at hR
   simp only [↓reduceIte, go_sem, e0, e6, e7] at hR ⊢; refine call_by (hi _) ?_; simp only [go_sem, ← hR, and_self]
  | false =>
  unfold opI at hR
  simp only [c9, c14, Bool.false_eq_true, if_false] at hR
  cases c6 : (o == 6) with
  | true => simp only [↓reduceIte, go_sem, e0, e6, e7, c6] at hR ⊢; refine call_by (ha a b) ?_; simp only [go_sem, ← hR, and_self]
  | false =>
  cases c7 : (o == 7) with
  | true => simp only [↓reduceIte, go_sem, e0, e6, e7, c6, c7] at hR ⊢; refine call_by (hs a b) ?_; simp only [go_sem, ← hR, and_self]
  | false =>
  cases c8 : (o == 8) with
  | true => simp only [↓reduceIte, go_sem, e0, e6, e7, c6, c7, c8] at hR ⊢; refine call_by (hm a b) ?_; simp only [go_sem, ← hR, and_self]
  | false =>
  cases c10 : (o == 10) with
  | true => simp only [↓reduceIte, go_sem, e0, e6, e7, c6, c7, c8, c9, c10] at hR ⊢; refine call_by (hi _) ?_; simp only [go_sem, ← hR, and_self]
  | false =>
  cases c11 : (o == 11) with
  | true => simp only [↓reduceIte, go_sem, e0, e6, e7, c6, c7, c8, c9, c10, c11] at hR ⊢; refine call_by (hi _) ?_; simp only [go_sem, ← hR, and_self]
  | false =>
  cases c12 : (o == 12) with
  | true => simp only [↓reduceIte, go_sem, e0, e6, e7, c6, c7, c8, c9, c10, c11, c12] at hR ⊢; refine call_by (hi _) ?_; simp only [go_sem, ← hR, and_self]
  | false =>
  cases c13 : (o == 13) with
  | true => simp only [↓reduceIte, go_sem, e0, e6, e7, c6, c7, c8, c9, c10, c11, c12, c13] at hR ⊢; refine call_by (hi _) ?_; simp only [go_sem, ← hR, and_self]
  | false =>
  cases c15 : (o == 15) with
  | true => simp only [↓reduceIte, go_sem, e0, e6, e7, c6, c7, c8, c9, c10, c11, c12, c13, c14, c15] at hR ⊢; refine call_by (hi _) ?_; simp only [go_sem, ← hR, and_self]
  | false =>
  cases c16 : (o == 16) with
  | true => simp only [↓reduceIte, go_sem, e0, e6, e7, c6, c7, c8, c9, c10, c11, c12, c13, c14, c15, c16] at hR ⊢; refine call_by (hi _) ?_; simp only [go_sem, ← hR, and_self]
  | false =>
  cases c17 : (o == 17) with
  | true => simp only [↓reduceIte, go_sem, e0, e6, e7, c6, c7, c8, c9, c10, c11, c12, c13, c14, c15, c16, c17] at hR ⊢; refine call_by (hi _) ?_; simp only [go_sem, ← hR, and_self]
  | false =>
  cases c18 : (o == 18) with
  | true => simp only [↓reduceIte, go_sem, e0, e6, e7, c6, c7, c8, c9, c10, c11, c12, c13, c14, c15, c16, c17, c18] at hR ⊢; refine call_by (hi _) ?_; simp only [go_sem, ← hR, and_self]
  | false =>
  simp only [↓reduceIte, go_sem, e0, e6, e7, c6, c7, c8, c9, c10, c11, c12, c13, c14, c15, c16, c17, c18] at hR ⊢; simp only [go_sem, ← hR]
 clear hN
 simp only [go_sem, lpos, l1, hg0, Int.toNat_zero]
 intro _
 by_cases h1 : (1 : Int) < (L.length : Int)
 ·simp only [go_sem, h1, hg1 h1, l1, gt_iff_lt, Int.toNat_one, decide_true]
  refine tail _ ?_ ?_ ?_ <;> simp only [go_sem]
 ·simp only [go_sem, h1, gt_iff_lt, decide_false]
  have := hb0 h1
  subst this
  refine tail _ ?_ ?_ ?_ <;> simp only [go_sem]
end Go.Abs
end
section
set_option linter.unusedSimpArgs false
set_option linter.unusedVariables false
set_option linter.unusedSectionVars false
namespace Go.Abs
theorem fieldR_some {names : List Str} {ks : List Val} {s : Str} {k : Val} (h : fieldE names ks s = some k) : fieldR names ks s = (k, true) := by unfold fieldR; rw [h]
theorem fieldR_none {names : List Str} {ks : List Val} {s : Str} (h : fieldE names ks s = none) : fieldR names ks s = (Val.zero, false) := by unfold fieldR; rw [h]
theorem fieldE_mem {names : List Str} {ks : List Val} {s : Str} {k : Val} (h : fieldE names ks s = some k) : k ∈ ks := by
 unfold fieldE at h
 rw [Option.map_eq_some_iff] at h
 obtain ⟨q, h1, rfl⟩ := h
 exact (List.of_mem_zip (show (q.1, q.2) ∈ names.zip ks from List.mem_of_find?_eq_some h1)).2
theorem seq2_named {E : AEnv} {a b c : AC} {Q : AX → St → Prop} {st : St} (h : ∀ N, N = awp E c Q → awp E a (seqK (awp E b (seqK N Q)) Q) st) : awp E (.seq a (.seq b c)) Q st := h _ rfl
set_option maxRecDepth 100000
variable {E : AEnv} (Z : Sys E)
include Z
theorem r34_body_ev (m : Mod) (names : List Str) (ks : List Val) (hlen : names.length = ks.length) (hV : ∀ k ∈ ks, ∀ s, E.C r34_Value [.agg m.cells, .one (.str s), .agg k.cells] (res2 (k.value m s))) (p : Pred) (hp : Good p) :
  E.C r34_body [.agg m.cells, .agg p.cells, .one (.lst (names.map fun k => [.str k])), .one (.lst (ks.map Val.cells))] (res2 (bodyR names (ks.map (Val.ent m)) p)) := by
 induction p using Pred.ind with
 | h o s n qs ih =>
 obtain ⟨⟨o1, o2⟩, hk, _, _⟩ := hp.top
 have hmost := kids_most hk
 have hfield := fun s => r34_field_ev Z names ks hlen s
 have hin := fun n => r01_In_ev Z n
 refine Z.r34_body _ _ ⟨Nat.le_of_ble_eq_true rfl, ?_⟩
 rw [bodyR_eq]
 generalize hR : (if o == 1 || o == 2 then _ else _ : Int × Bool) = R
 rw [Pred.cells_eq (.mk o s n qs)]
 simp only [fn_r34_body, Mod.cells, Pred.op, Pred.name, Pred.n, Pred.kids]
 refine seq2_named fun N hN => ?_
 cases c1 : (o == 1) with
 | true => simp only [↓reduceIte, go_sem, c1] at hR ⊢; simp only [← hR, and_self]
 | false =>
 cases c2 : (o == 2) with
 | true => simp only [↓reduceIte, go_sem, c1, c2] at hR ⊢; simp only [← hR, and_self]
 | false =>
 cases c3 : (o == 3) with
 | true =>
  simp only [↓reduceIte, go_sem, c1, c2, c3] at hR ⊢
  refine call_by (hfield s) ?_
  unfold varR at hR
  rw [fieldE_map] at hR
  cases hf : fieldE names ks s with
  | none =>
   rw [hf] at hR
   simp only [Option.map_none] at hR
   simp only [go_sem, fieldR_none hf, Val.cells_zero]
   refine call_skip ?_
   simp only [go_sem, ← hR, and_self]
  | some k =>
   rw [hf] at hR
   obtain ⟨ko, kn, kname, kk, kp, kb, kd⟩ := k
   have hb : (ko != 1 && ko != 2) = !(ko == 1 || ko == 2) := by simp only [bne, Bool.not_or]
   simp only [Option.map_some, Val.ent, Val.op, Val.n] at hR
   simp only [go_sem, fieldR_some hf, Val.cells_mk, hb]
   cases k1 : (ko == 1 || ko == 2) with
   | false =>
    rw [k1] at hR
    simp only [go_sem]
    refine call_skip ?_
    simp only [go_sem] at hR ⊢
    simp only [← hR, and_self]
   | true =>
    rw [k1] at hR
    simp only [go_sem]
    refine call_by (hin kn) ?_
    cases k2 : inRange kn with
    | false =>
     rw [k2] at hR
     simp only [go_sem] at hR ⊢
     simp only [← hR, and_self]
    | true =>
     rw [k2] at hR
     simp only [go_sem] at hR ⊢
     simp only [← hR, and_self]
 | false =>
 cases c4 : (o == 4) with
 | true =>
  have e4 : o = 4 := by simpa using c4
  subst e4
  simp only [c1, c2, c3, c4, Bool.or_self, Bool.false_eq_true, if_false, if_true] at hR
  rcases qs with _ | ⟨⟨q1, q2, q3, q4⟩, _ | ⟨b, r⟩⟩
  ·change (0, false) = R at hR
   simp only [↓reduceIte, go_sem, c1, c2, c3, c4, Int.reduceBEq, Int.reduceBNe]
   simp only [← hR, go_sem, Int.reduceBEq, Int.reduceBNe, false_implies, and_self]
  ·have l1 : (∀ e ∈ [[D.int .i64 q1, D.str q2, D.int .i64 q3, D.lst (List.map Pred.cells q4)]], e.length = 4) = True := eq_true (by simp)
   have e1 : ((1 : Int) != 1) = false := rfl
   cases c5 : (q1 == 3) with
   | false =>
    have c5' : (q1 != 3) = true := by rw [bne, c5]; rfl
    have hav : appVar 4 [Pred.mk q1 q2 q3 q4] = none := by
     unfold appVar
     simp only [c5, Bool.false_eq_true, if_false]
     rfl
    rw [hav] at hR
    simp only [↓reduceIte, go_sem, c1, c2, c3, c4, Pred.cells_eq (.mk q1 q2 q3 q4), Pred.op, Pred.name, Pred.n, Pred.kids, c5', l1, e1, Int.reduceBEq, Int.reduceBNe]
    simp only [← hR, and_self]
   | true =>
    have c5' : (q1 != 3) = false := by rw [bne, c5]; rfl
    have hav : appVar 4 [Pred.mk q1 q2 q3 q4] = some q2 := by
     unfold appVar
     simp only [c5, if_true]
     rfl
    rw [hav] at hR
    simp only at hR
    unfold appR at hR
    rw [fieldE_map] at hR
    simp only [↓reduceIte, go_sem, c1, c2, c3, c4, Pred.cells_eq (.mk q1 q2 q3 q4), Pred.op, Pred.name, Pred.n, Pred.kids, c5', l1, e1, Int.reduceBEq, Int.reduceBNe]
    refine call_by (hfield q2) ?_
    cases hf : fieldE names ks q2 with
    | none =>
     rw [hf] at hR
     simp only [Option.map_none] at hR
     simp only [go_sem, fieldR_none hf, Val.cells_zero, ← hR, and_self]
    | some k =>
     rw [hf] at hR
     simp only [Option.map_some, Val.ent] at hR
     have hv := hV k (fieldE_mem hf) s
     generalize k.value m s = w at *
     obtain ⟨ko, kn, kname, kk, kp, kb, kd⟩ := k
     simp only [go_sem, fieldR_some hf, Val.cells_mk] at hv ⊢
     unfold res2 at hv
     refine call_by hv ?_
     simp only [go_sem]
     cases w2 : w.2 with
     | false =>
      rw [w2] at hR
      simp only [go_sem]
      refine call_skip ?_
      simp only [go_sem] at hR ⊢
      simp only [← hR, and_self]
     | true =>
      rw [w2] at hR
      simp only [go_sem]
      refine call_by (hin w.1) ?_
      cases k2 : inRange w.1 with
      | false =>
       rw [k2] at hR
       simp only [go_sem] at hR ⊢
       simp only [← hR, and_self]
      | true =>
       rw [k2] at hR
       simp only [go_sem] at hR ⊢
       simp only [← hR, and_self]
  ·have e2 : (((r.length + 1 + 1 : Nat) : Int) != 1) = true := by rw [bne_iff_ne]; omega
   have hav : appVar 4 (Pred.mk q1 q2 q3 q4 :: b :: r) = none := rfl
   rw [hav] at hR
   simp only at hR
   simp only [↓reduceIte, go_sem, c1, c2, c3, c4, Int.reduceBEq, Int.reduceBNe, e2, Pred.cells_eq (.mk q1 q2 q3 q4), Pred.op, Pred.name, Pred.n, Pred.kids]
   intro _
   simp only [go_sem, ← hR, and_self]
 | false =>
 have hne : qs.isEmpty = false := by
  cases qs with
  | nil =>
   exfalso
   unfold kidsOk at hk
   rw [c1, c2, c3, c4] at hk
   simp only [Bool.or_self, Bool.false_eq_true, if_false, Bool.false_or] at hk
   split at hk
   ·simp at hk
   ·split at hk <;> simp at hk
  | cons => rfl
 simp only [c1, c2, c3, c4, Bool.or_self, Bool.false_eq_true, if_false, hne, Bool.not_false, Bool.and_true] at hR
 simp only [↓reduceIte, go_sem, c1, c2, c3, c4, hN]
 clear hN
 refine loop_named fun K hK => ?_
 refine loop_list qs (fun done => ∀ y ∈ done, (bodyR names (ks.map (Val.ent m)) y).2 = true) (fun done rest => ⟨[(16, .d (.int .i64 done.length)), (15, .own 15 1 ((done.map fun y => (bodyR names (ks.map (Val.ent m)) y).1).map icell)), (2, .d (.lst (names.map fun k => [.str k]))), (3, .d (.lst (ks.map Val.cells))), (4, .ptr 4 0), (5, .ptr 5 0)], [(4, [.d (.lst (m.datas.map DataT.cells)), .d m.cls, .d m.ins, .d (.lst (m.meas.map Meas.cells)), .d m.quals, .d m.defs]), (5, [.d (.int .i64 o), .d (.str s), .d (.int .i64 n), .d (.lst (qs.map Pred.cells))])], [(15, true)]⟩) ?_ (by simp) ?_ ?_
 ·exact Ent_conv 15 15 1 [] [(15, 15)] rfl (by simp) rfl ⟨rfl, by simp only [go_sem, List.contains_nil], by simp only [go_sem, Option.isSome_some], by simp only [go_sem, Option.isSome_some]⟩
 ·intro done k r hl hI
  have hk' := ih k (by rw [hl]; simp) (hp.kid (by rw [hl]; simp))
  have hlt := lt_mid hl
  have hgk := getD_midP hl
  have hdl : done.length ≤ 24 := by
   have : done.length ≤ qs.length := by rw [hl]; simp
   omega
  have hw : IntKind.i64.wrap ((done.length : Int) + 1) = ((done.length + 1 : Nat) : Int) := wrap_succ (by omega)
  unfold res2 at hk'
  simp only [fn_r34_body_L1, go_sem, hlt, List.length_map]
  intro _
  simp only [go_sem, hgk, hlt, List.length_map]
  refine call_by hk' ?_
  simp only [go_sem]
  cases hb : (bodyR names (ks.map (Val.ent m)) k).2 with
  | false =>
   rw [all_false (f := fun k => (bodyR names (ks.map (Val.ent m)) k).2) (k := k) (by rw [hl]; simp) hb] at hR
   simp only [go_sem] at hR ⊢
   simp only [go_sem, hK, ← hR, and_self]
  | true =>
   have o1 : (done.length + 1) * 8 ≤ 2 ^ 46 := by omega
   have o2 : done.length ≤ 9223372036854775806 := by omega
   simp only [go_sem, hw, List.length_append, List.length_map, o1, o2, List.mem_singleton, forall_eq]
   exact ⟨Ent_own [(15, 123)] (by simp only [go_sem, List.contains_nil, Option.isSome_some, List.map_append, List.map_cons, List.map_nil, icell]), app_all hI hb⟩
 ·intro hI
  rw [List.all_eq_true.2 hI] at hR
  simp only [if_true] at hR
  have hne' : qs.map (fun y => (bodyR names (ks.map (Val.ent m)) y).1) ≠ [] := by
   cases qs with
   | nil => cases hne
   | cons => simp
  have hop := r34_operation_ev Z o _ hne'
  unfold res2 at hop
  have hz : ((qs.length : Int) == 0) = false := by
   cases qs with
   | nil => cases hne
   | cons => simp; omega
  simp only [fn_r34_body_L1, go_sem, List.length_map, hK]
  intro _
  simp only [go_sem, List.length_map, hz]
  intro _
  refine call_by hop ?_
  simp only [go_sem, hR, and_self]
theorem r34_Value_ev (m : Mod) (v : Val) : ∀ s, E.C r34_Value [.agg m.cells, .one (.str s), .agg v.cells] (res2 (v.value m s)) := by
 induction v using Val.ind with
 | h o n nm ks pa bd bs ih =>
 intro s
 have hcon := r20_Con_ev Z m nm
 have hfind := r34_find_ev Z m s
 have hcase := fun x => r34_Case_ev Z x nm
 have hchk := fun p => r07_Check_ev Z p
 refine Z.r34_Value _ _ ⟨Nat.le_of_ble_eq_true rfl, ?_⟩
 rw [Val.value_eq]
 generalize hR : valStep m o n nm (ks.map (Val.ent m)) s = R
 unfold valStep at hR
 simp only [fn_r34_Value, Mod.cells, Val.cells_mk]
 cases c1 : (s == sVal) with
 | true =>
  simp only [c1, if_true] at hR
  have c1' : (s == [118, 97, 108]) = true := c1
  cases c2 : (o != 4) with
  | true =>
   simp only [c2, if_true] at hR
   simp only [↓reduceIte, go_sem, c1', c2, ← hR, and_self]
  | false =>
   simp only [c2, Bool.false_eq_true, if_false] at hR
   simp only [↓reduceIte, go_sem, c1', c2, ← hR, and_self]
 | false =>
 have c1' : (s == [118, 97, 108]) = false := c1
 simp only [c1, Bool.false_eq_true, if_false] at hR
 simp only [↓reduceIte, go_sem, c1']
 refine call_by hcon ?_
 generalize conS nm m.datas = C at *
 obtain ⟨dt, ix, known⟩ := C
 obtain ⟨dn, dv, dp, dc⟩ := dt
 simp only [go_sem, DataT.cells]
 cases c2 : (o != 3 || !known) with
 | true =>
  simp only [c2, if_true] at hR
  simp only [↓reduceIte, go_sem, c2, ← hR, and_self]
 | false =>
 simp only [c2, Bool.false_eq_true, if_false] at hR
 simp only [↓reduceIte, go_sem, c2]
 cases c3 : (s == sTag) with
 | true =>
  have c3' : (s == [116, 97, 103]) = true := c3
  simp only [c3, if_true] at hR
  simp only [↓reduceIte, go_sem, c3', ← hR, and_self]
 | false =>
 have c3' : (s == [116, 97, 103]) = false := c3
 simp only [c3, Bool.false_eq_true, if_false] at hR
 simp only [↓reduceIte, go_sem, c3']
 refine call_by hfind ?_
 unfold findM
 cases hf : m.meas.find? (fun x => x.name == s) with
 | none =>
  rw [hf] at hR
  simp only at hR
  simp only [go_sem, Meas.cells_zero, ← hR, and_self]
 | some x =>
 rw [hf] at hR
 simp only at hR
 have hcase := hcase x
 obtain ⟨xa, xb, xc, xl, xo, xs, xn, xk⟩ := x
 simp only [go_sem, Meas.cells_mk] at hcase ⊢
 rw [show (xb != dn) = !(xb == dn) from rfl] at hR
 cases c4 : (xb == dn) with
 | false =>
  simp only [c4, Bool.not_false, if_true] at hR
  simp only [go_sem, ← hR, and_self]
 | true =>
 simp only [c4, Bool.not_true, Bool.false_eq_true, if_false] at hR
 simp only [go_sem]
 refine call_by hcase ?_
 unfold findCas
 cases hg : xl.find? (fun c => c.con == nm) with
 | none =>
  rw [hg] at hR
  simp only at hR
  simp only [go_sem, Cas.cells_zero]
  refine call_skip ?_
  simp only [go_sem, ← hR, and_self]
 | some c =>
 rw [hg] at hR
 simp only at hR
 have hchk := hchk c.body
 have hbody := fun hl hg => r34_body_ev Z m c.names ks hl (fun k hk s => ih k hk s) c.body hg
 unfold res2 at hbody
 obtain ⟨ca, cl, co, cs, cn, ck⟩ := c
 simp only [Pred.cells_eq (.mk co cs cn ck), Pred.op, Pred.name, Pred.n, Pred.kids] at hchk hbody
 simp only [List.length_map] at hR
 simp only [go_sem, Cas.cells_mk]
 intro _ _
 generalize hQ : (Pred.mk co cs cn ck).checkE = q at *
 by_cases hl : cl.length = ks.length
 ·have hb1 : (cl.length != ks.length) = false := by simp [hl]
  have hb2 : ((cl.length : Int) != (ks.length : Int)) = false := by simp [hl]
  simp only [hb1, Bool.false_or] at hR
  simp only [hb2, go_sem]
  refine call_by hchk ?_
  simp only [go_sem]
  cases c6 : (q != 0) with
  | true =>
   simp only [c6, if_true] at hR
   simp only [go_sem, ← hR, and_self]
  | false =>
   simp only [c6, Bool.false_eq_true, if_false] at hR
   have hq0 : q = 0 := by simpa using c6
   rw [hq0] at hQ
   simp only [go_sem]
   refine call_by (hbody hl (good_of hQ)) ?_
   simp only [go_sem, hR, and_self]
 ·have hb1 : (cl.length != ks.length) = true := by simp [hl]
  have hb2 : ((cl.length : Int) != (ks.length : Int)) = true := by simp; omega
  simp only [hb1, Bool.true_or, if_true] at hR
  simp only [hb2, go_sem]
  refine call_skip ?_
  simp only [go_sem, ← hR, and_self]
end Go.Abs
end
section
set_option linter.unusedSimpArgs false
set_option linter.unusedVariables false
set_option linter.unusedSectionVars false
namespace Go.Abs
def UnionOwn (E : AEnv) : Prop := ∀ a b : List Str, a.length + b.length < 4398046511104 → E.C names_Union [.one (.lst (a.map fun s => [.str s])), .one (.lst (b.map fun s => [.str s]))] (.own none 1 ((unionS a b).map fun s => [.str s]))
theorem flat_len {all : Bool} {K : KFun} (p : Pred) : ∀ st : FSt, (flatP all K p st).2.used.length + (flatP all K p st).2.at'.length ≤ st.used.length + st.at'.length + 2 * p.cnt := by
 induction p using Pred.ind with
 | h o s n ks ih =>
 intro st
 cases hc : isCut all K o s ks with
 | some x =>
  rw [flatP_cut hc]
  show (st.used ++ [freshS st.used sZ]).length + (match K x s with | some (a, true) => st.at' ++ [(⟨freshS st.used sZ, a⟩ : Coef)] | _ => st.at').length ≤ _
  rw [List.length_append, Pred.cnt, List.length_singleton]
  split
  ·rw [List.length_append, List.length_singleton]; omega
  ·omega
 | none =>
  have key : ∀ (l : List Pred), (∀ k ∈ l, k ∈ ks) → ∀ st : FSt, (flatP.go all K l st).2.used.length + (flatP.go all K l st).2.at'.length ≤ st.used.length + st.at'.length + 2 * Pred.cnts l := by
   intro l
   induction l with
   | nil => intro _ st; simp [flatP.go]
   | cons k l ihl =>
    intro hin st
    have h1 := ih k (hin k (by simp)) st
    have h2 := ihl (fun y hy => hin y (by simp [hy])) (flatP all K k st).2
    simp only [flatP.go, Pred.cnts]
    omega
  rw [flatP_node hc]
  have := key ks (fun _ h => h) st
  rw [Pred.cnt]
  show (flatP.go all K ks st).2.used.length + (flatP.go all K ks st).2.at'.length ≤ _
  omega
theorem go_flat_len {all : Bool} {K : KFun} : ∀ (l : List Pred) (st : FSt), (flatP.go all K l st).2.used.length + (flatP.go all K l st).2.at'.length ≤ st.used.length + st.at'.length + 2 * Pred.cnts l
 | [], st => by simp [flatP.go]
 | k :: l, st => by
  have h1 := flat_len (all := all) (K := K) k st
  have h2 := go_flat_len (all := all) (K := K) l (flatP all K k st).2
  simp only [flatP.go, Pred.cnts]
  omega
theorem Matches_map (σ τ : TMap) (l : List D) : Matches σ τ (l.map .d) (l.map .d) = True := by
 induction l with
 | nil => rfl
 | cons x l ih => simp only [List.map_cons, Matches, Match1, AV.toD, true_and, ih]
theorem map_ren1 (σ τ : TMap) (l : List D) : (l.map AV.d).map (AV.ren1 σ τ) = l.map .d := by rw [List.map_map]; rfl
attribute [go_sem] Matches_map map_ren1
set_option maxRecDepth 100000
variable {E : AEnv} (Z : Sys E)
include Z
theorem pred_Free_own (hU : UnionOwn E) (hIt : ∀ p, E.It pred_before_1 [.ref (Pred.cells p)] (yields p.pre)) (p : Pred) (hp : p.pre.length ≤ 1048576) : E.C pred_Free [.agg p.cells] (.own none 1 ((freeS p).map fun s => [.str s])) := by
 have h3 := pred_before_ev Z p
 have hit := hIt p
 have hu := hU (freeL p.pre) [] (by have := freeL_len p.pre; simp only [List.length_nil]; omega)
 refine Z.pred_Free _ _ ⟨Nat.le_of_ble_eq_true rfl, ?_⟩
 unfold freeS
 generalize unionS (freeL p.pre) [] = U at *
 rw [Pred.cells_eq] at *
 simp only [fn_pred_Free, go_sem]
 refine call_by h3 ?_
 simp only [go_sem]
 refine rng_by hit (fun a => ∃ l, a = yields l) (fun a => ⟨[(3, .ptr 3 0)], [(3, [.own 3 1 (a.flatMap fv)])], [(3, true)]⟩) ?_ ⟨[], rfl⟩ ?_ ?_
 ·exact Ent_convm 3 0 3 1 _ [] [(3, 3)] rfl rfl (by simp) rfl (by simp only [Ent0, go_sem, List.contains_nil, Option.isSome_some, List.flatMap_nil])
 ·intro a x b hx ⟨l, hl⟩
  obtain ⟨a', q, b', e1, rfl, rfl⟩ := yields_mid hx
  refine ⟨rfl, ?_⟩
  have hlen : (freeL a').length + 1 ≤ 1048576 := by
   have h1 := freeL_len a'
   have h2 := congrArg List.length e1
   simp only [List.length_append, List.length_cons] at h2
   omega
  rw [List.flatMap_append]
  have hones := fv_ones (yields a')
  have hlen2 : ((yields a').flatMap fv).length + 1 ≤ 1048576 := by rw [fv_yields, List.length_map]; exact hlen
  generalize (yields a').flatMap fv = fs at *
  obtain ⟨o, s, n, ks⟩ := q
  have hfv := fv_cells o s n ks
  simp only [List.flatMap_cons, List.flatMap_nil, List.append_nil, hfv]
  have hy : yields a' ++ [[CV.agg (Pred.cells (.mk o s n ks))]] = yields (a' ++ [.mk o s n ks]) := by simp [yields]
  rw [hy, Pred.cells_eq]
  simp only [fn_pred_Free_A1, fn_pred_Free_B1, go_sem, Pred.op, Pred.name, Pred.n, Pred.kids]
  cases h2 : (o == 3) with
  | true =>
   have ha1 : (fs.length + 1) * 16 ≤ 2 ^ 46 := by omega
   simp only [h2, go_sem]
   refine ⟨⟨by simp, ha1, by omega⟩, Ent_own [(3, 15)] ?_, a' ++ [.mk o s n ks], rfl⟩
   simp only [go_sem, List.contains_nil, Option.isSome_some]
  | false =>
   simp only [h2, go_sem]
   exact ⟨Ent_own [(3, 3)] (by simp only [go_sem, List.contains_nil, Option.isSome_some]), a' ++ [.mk o s n ks], rfl⟩
 ·intro _
  rw [fv_yields]
  simp only [go_sem]
  refine call_by hu ?_
  simp only [go_sem]
theorem measure_variable_ev (s : Str) : E.C measure_variable [.one (.str s)] (.agg (pv s).cells) := by
 refine Z.measure_variable _ _ ⟨Nat.le_of_ble_eq_true rfl, ?_⟩
 unfold pv
 rw [Pred.cells_eq]
 simp only [fn_measure_variable, go_sem, Pred.op, Pred.name, Pred.n, Pred.kids, List.map_nil]
end Go.Abs
end
section
set_option linter.unusedSimpArgs false
set_option linter.unusedVariables false
set_option linter.unusedSectionVars false
namespace Go.Abs
def bxM (m : Mod) (kvs : List (D × MV)) (st : FSt) : Mem := [(1000, [.d (.lst (m.datas.map DataT.cells)), .d m.cls, .d m.ins, .d (.lst (m.meas.map Meas.cells)), .d m.quals, .d m.defs, .mref 1001, .own 2000 1 (st.used.map fun k => [.str k]), .own 2001 2 (st.at'.map Coef.cells)]), (1001, [.mp ty_str ty_agg kvs])]
def bxT : List (Nat × Bool) := [(2000, true), (2001, true)]
attribute [go_sem] MatchVs MatchV Match1 Matches MatchMem noTwice isMp keep1 fresh1 afterB renMem AV.ren1 newAll killAll CV.isOwn retKB retB resCV0 resCVs0 initA
set_option maxRecDepth 100000
variable {E : AEnv} (Z : Sys E)
include Z
set_option maxHeartbeats 4000000 in
theorem measure_flat_ev (hI : ItoaLaw E) (m : Mod) (l : List (Str × Val)) (hV : ∀ q ∈ l, ∀ s, E.C measure_Value [.agg m.cells, .one (.str s), .agg q.2.cells] (res2 (q.2.value m s))) (p : Pred) :
  ∀ st : FSt, st.used.length + st.at'.length + 2 * p.cnt ≤ 1073741824 → E.C measure_body_flat [] (.bx [.ptr 1000 0, .agg (p.cells.map .d)] (bxM m (putsF l).1 st) bxT (.agg (flatP true (tabK m l) p st).1.cells) (bxM m (putsF l).1 (flatP true (tabK m l) p st).2) bxT) := by
 induction p using Pred.ind with
 | h o s n ks ih =>
 intro st hb
 refine Z.measure_body_flat _ _ ⟨Nat.le_of_ble_eq_true rfl, Nat.le_of_ble_eq_true rfl, rfl, ?_⟩
 rw [Pred.cells_eq (.mk o s n ks)]
 simp only [fn_measure_body_flat, bxM, bxT, Pred.op, Pred.name, Pred.n, Pred.kids]
 refine seq2_named fun N hN => ?_
 have tail : isCut true (tabK m l) o s ks = none → ∀ st' : St, getS st'.slots 0 = .ptr 1000 0 → getS st'.slots 3 = .ptr 3 0 → getS st'.slots 4 = .ptr 4 0 →
   st'.mem = (4, [.d (.int .i64 0), .d (.str []), .d (.int .i64 0), .full []]) :: (3, [.d (.int .i64 o), .d (.str s), .d (.int .i64 n), .d (.lst (ks.map Pred.cells))]) :: bxM m (putsF l).1 st → st'.tk = bxT → N st' := by
  intro hcut st' e0 e3 e4 em et
  rw [flatP_node hcut] at hN
  subst hN
  rw [Pred.cnt] at hb
  simp only [go_sem, e0, e3, e4, em, et, bxM]
  intro hlen
  refine loop_named fun K hK => ?_
  have hst : (⟨st.used, st.at'⟩ : FSt) = st := rfl
  refine loop_list ks (fun _ => True) (fun done rest => ⟨[(90, .d (.int .i64 done.length)), (89, .d (.int .i64 ks.length)), (88, .d (.lst (ks.map Pred.cells))), (0, .ptr 1000 0), (4, .ptr 4 0), (10, .ptr 10 0)],
   (10, [.d (.int .i64 o), .d (.str s), .d (.int .i64 n), .own 10 4 ((flatP.go true (tabK m l) done st).1.map Pred.cells)]) :: (4, [.d (.int .i64 0), .d (.str []), .d (.int .i64 0), .full []]) :: bxM m (putsF l).1 (flatP.go true (tabK m l) done st).2, [(10, true), (2000, true), (2001, true)]⟩) ?_ trivial ?_ ?_
  ·refine Ent_convm 10 3 10 4 _ [] [(10, 10), (2000, 2000), (2001, 2001)] (by simp only [go_sem]; rfl) rfl (by simp) (by simp only [go_sem, et, bxT]) ?_
   simp only [Ent0, go_sem, e0, e4, et, bxT, flatP.go, bxM, List.contains_cons, List.contains_nil, Option.isSome_some, Nat.reduceBEq]
  ·intro done k r hl _
   have hlt := lt_mid hl
   have hw : IntKind.i64.wrap ((done.length : Int) + 1) = ((done.length + 1 : Nat) : Int) := wrap_succ (by omega)
   have hgk := getD_midP hl
   have hcn : Pred.cnts ks = Pred.cnts done + (k.cnt + Pred.cnts r) := by rw [hl, cnts_app, Pred.cnts]
   have hgl := go_flat_len (all := true) (K := tabK m l) done st
   have hdl := go_len (all := true) (K := tabK m l) done st
   have hlc : done.length ≤ Pred.cnts done := by
    have : ∀ a : List Pred, a.length ≤ Pred.cnts a := by
     intro a
     induction a with
     | nil => exact Nat.zero_le _
     | cons x a iha =>
      rw [Pred.cnts, List.length_cons]
      have : 1 ≤ x.cnt := by obtain ⟨_, _, _, _⟩ := x; rw [Pred.cnt]; omega
      omega
    exact this done
   have hgo : flatP.go true (tabK m l) (done ++ [k]) st = ((flatP.go true (tabK m l) done st).1 ++ [(flatP true (tabK m l) k (flatP.go true (tabK m l) done st).2).1], (flatP true (tabK m l) k (flatP.go true (tabK m l) done st).2).2) := by
    rw [go_app, go_one]
   rw [hgo]
   have hk' := ih k (by rw [hl]; simp) (flatP.go true (tabK m l) done st).2 (by omega)
   generalize flatP.go true (tabK m l) done st = Dn at *
   obtain ⟨dp, ds⟩ := Dn
   simp only at hk' hdl hgl ⊢
   generalize flatP true (tabK m l) k ds = Kn at *
   obtain ⟨kp, ks'⟩ := Kn
   simp only at hk' ⊢
   have o1 : (dp.length + 1) * 56 ≤ 2 ^ 46 := by omega
   have o2 : dp.length ≤ 9223372036854775806 := by omega
   have ht2 := Pred.lens_true dp
   simp only [fn_measure_body_flat_L1, go_sem, hgk, hlt, List.length_map, bxM, Pred.cells_length, drop_cells]
   have okX : ∀ sl : List (Nat × AV), ∀ c12 c12', okB ⟨sl, (12, c12) :: (12, c12') :: (10, [.d (.int .i64 o), .d (.str s), .d (.int .i64 n), .own 10 4 (dp.map Pred.cells)]) :: (4, [.d (.int .i64 0), .d (.str []), .d (.int .i64 0), .full []]) :: bxM m (putsF l).1 ds, [(10, true), (2000, true), (2001, true)]⟩ [.ptr 1000 0, .agg (k.cells.map .d)]
     { σ := [(1000, 1000), (1001, 1001)], τ := [(2000, 2000), (2001, 2001)], τ1 := [(2000, 3000), (2001, 3001)], as0 := [.ptr 1000 0, .agg (k.cells.map .d)], m0 := bxM m (putsF l).1 ds, m1 := bxM m (putsF l).1 ks', r := .agg kp.cells } := by
    intro sl c12 c12'
    simp only [okB, go_sem, bxM, List.contains_cons, List.contains_nil, Nat.reduceBEq, List.mem_cons, List.not_mem_nil, or_false, forall_eq_or_imp, forall_eq, List.all_cons, List.all_nil]
   refine ⟨⟨{ σ := [(1000, 1000), (1001, 1001)], τ := [(2000, 2000), (2001, 2001)], τ1 := [(2000, 3000), (2001, 3001)], as0 := [.ptr 1000 0, .agg (k.cells.map .d)], m0 := bxM m (putsF l).1 ds, m1 := bxM m (putsF l).1 ks', r := .agg kp.cells }, ⟨rfl, okX _ _ _, hk'⟩, ?_⟩, ⟨{ σ := [(1000, 1000), (1001, 1001)], τ := [(2000, 2000), (2001, 2001)], τ1 := [(2000, 3000), (2001, 3001)], as0 := [.ptr 1000 0, .agg (k.cells.map .d)], m0 := bxM m (putsF l).1 ds, m1 := bxM m (putsF l).1 ks', r := .agg kp.cells }, ⟨rfl, okX _ _ _, hk'⟩, ?_⟩⟩
   ·simp only [go_sem, bxM, Option.getD_some, Pred.cells_length, List.length_map, o1, o2, ht2, hw, List.length_append, List.mem_singleton, forall_eq]
    exact Ent_own [(10, 100), (2000, 3000), (2001, 3001)] (by simp only [go_sem, List.contains_cons, List.contains_nil, Option.isSome_some, Nat.reduceBEq, List.map_append, List.map_cons, List.map_nil, List.length_append])
   ·simp only [go_sem, bxM, Option.getD_some, Pred.cells_length, List.length_map, o1, o2, ht2, hw, List.length_append, List.mem_singleton, forall_eq]
    exact Ent_own [(10, 100), (2000, 3000), (2001, 3001)] (by simp only [go_sem, List.contains_cons, List.contains_nil, Option.isSome_some, Nat.reduceBEq, List.map_append, List.map_cons, List.map_nil, List.length_append])
  ·intro _
   simp only [fn_measure_body_flat_L1, go_sem, hK, bxM, Pred.cells_length]
   exact ⟨by rw [Pred.cells_eq]; rfl, Ent_own [(2000, 2000), (2001, 2001)] (by simp only [go_sem, List.contains_cons, List.contains_nil, Option.isSome_some, Nat.reduceBEq])⟩
 by_cases h4 : o = 4
 ·subst h4
  rcases ks with _ | ⟨q, _ | ⟨q2, r⟩⟩
  ·clear hN
   simp only [go_sem, Int.reduceBEq, false_implies]
   refine tail rfl _ ?_ ?_ ?_ rfl rfl <;> simp only [go_sem]
  ·obtain ⟨q1, q2, q3, q4⟩ := q
   have l1 : (∀ e ∈ [[D.int .i64 q1, D.str q2, D.int .i64 q3, D.lst (List.map Pred.cells q4)]], e.length = 4) = True := eq_true (by simp)
   have e1 : ((1 : Int) == 1) = true := rfl
   cases c5 : (q1 == 3) with
   | false =>
    have hcut : isCut true (tabK m l) 4 s [Pred.mk q1 q2 q3 q4] = none := by
     unfold isCut appVar
     simp only [c5, Bool.false_eq_true, if_false]
     rfl
    clear hN
    simp only [go_sem, Int.reduceBEq, false_implies, Pred.cells_eq (.mk q1 q2 q3 q4), Pred.op, Pred.name, Pred.n, Pred.kids, l1, c5]
    refine tail hcut _ ?_ ?_ ?_ ?_ rfl <;> simp only [go_sem, Pred.cells_eq (.mk q1 q2 q3 q4), Pred.op, Pred.name, Pred.n, Pred.kids, bxM]
   | true =>
    have c5' : q1 = 3 := by simpa using c5
    subst c5'
    have hcut : isCut true (tabK m l) 4 s [Pred.mk 3 q2 q3 q4] = some q2 := rfl
    clear tail hN
    rw [flatP_cut hcut]
    have hget := putsF_get l q2
    have hfr := names_Fresh_ev Z hI st.used sZ (by omega) (by decide)
    have hvar := measure_variable_ev Z (freshS st.used sZ)
    generalize hz : freshS st.used sZ = z at *
    have ht1 : (∀ e ∈ st.used.map (fun k : Str => [D.str k]), e.length = 1) = True := eq_true (by simp)
    have ht2 := Coef.lens st.at'
    have o1 : (st.used.length + 1) * 16 ≤ 2 ^ 46 := by omega
    have o2 : st.used.length ≤ 9223372036854775806 := by omega
    have o3 : (st.at'.length + 1) * 24 ≤ 2 ^ 46 := by omega
    have o4 : st.at'.length ≤ 9223372036854775806 := by omega
    simp only [sZ] at hfr
    cases hf : fieldZ l q2 with
    | none =>
     rw [hf] at hget
     have hk : tabK m l q2 s = none := by unfold tabK; rw [hf]; rfl
     have hat : ∀ x, mapAt (putsF l).1 (.str q2) x = x := fun x => by unfold mapAt; rw [hget]; rfl
     have hhas : mapHas (putsF l).1 (.str q2) = false := by unfold mapHas; rw [hget]; rfl
     simp only [go_sem, Int.reduceBEq, false_implies, Pred.cells_eq (.mk 3 q2 q3 q4), Pred.op, Pred.name, Pred.n, Pred.kids, l1, hat, hhas, MV.av]
     refine call_by hfr ?_
     simp only [go_sem, ht1, o1, o2, List.length_map, List.mem_singleton, forall_eq]
     refine call_by hvar ?_
     unfold FSt.next
     rw [hk, hz]
     simp only [go_sem, Pred.cells_length]
     refine Ent_own [(2000, 67), (2001, 2001)] ?_
     simp only [go_sem, List.contains_cons, List.contains_nil, Option.isSome_some, List.map_append, List.map_cons, List.map_nil, Nat.reduceBEq]
    | some v =>
     rw [hf] at hget
     have hmem : ∃ q ∈ l, q.2 = v := by
      unfold fieldZ at hf
      rw [Option.map_eq_some_iff] at hf
      obtain ⟨q, h1, rfl⟩ := hf
      exact ⟨q, List.mem_of_find?_eq_some h1, rfl⟩
     obtain ⟨q, hq, rfl⟩ := hmem
     have hv := hV q hq s
     have hk : tabK m l q2 s = some (q.2.value m s) := by unfold tabK; rw [hf]; rfl
     generalize q.2.value m s = w at *
     obtain ⟨w1, w2⟩ := w
     unfold res2 at hv
     have hat : ∀ x, mapAt (putsF l).1 (.str q2) x = .agg q.2.cells := fun x => by unfold mapAt; rw [hget]; rfl
     have hhas : mapHas (putsF l).1 (.str q2) = true := by unfold mapHas; rw [hget]; rfl
     obtain ⟨qn, vo, vn, vs, vk, vp, vb, vd⟩ := q
     simp only [Val.cells_mk] at hv hat
     simp only [go_sem, Int.reduceBEq, false_implies, Pred.cells_eq (.mk 3 q2 q3 q4), Pred.op, Pred.name, Pred.n, Pred.kids, l1, hat, hhas, MV.av]
     refine call_by hv ?_
     simp only [go_sem]
     refine call_by hfr ?_
     simp only [go_sem, ht1, o1, o2, List.length_map, List.mem_singleton, forall_eq]
     unfold FSt.next
     rw [hk, hz]
     cases w2 with
     | false =>
      simp only [go_sem]
      refine call_by hvar ?_
      simp only [go_sem, Pred.cells_length]
      refine Ent_own [(2000, 67), (2001, 2001)] ?_
      simp only [go_sem, List.contains_cons, List.contains_nil, Option.isSome_some, List.map_append, List.map_cons, List.map_nil, Nat.reduceBEq]
     | true =>
      simp only [go_sem, ht2, o3, o4, List.length_map, List.mem_singleton, forall_eq]
      refine call_by hvar ?_
      simp only [go_sem, Pred.cells_length]
      refine Ent_own [(2000, 67), (2001, 80)] ?_
      simp only [go_sem, List.contains_cons, List.contains_nil, Option.isSome_some, List.map_append, List.map_cons, List.map_nil, Coef.cells, Nat.reduceBEq]
  ·obtain ⟨q1, qs, q3, q4⟩ := q
   have e2 : (((r.length + 1 + 1 : Nat) : Int) == 1) = false := by rw [beq_eq_false_iff_ne]; omega
   clear hN
   simp only [go_sem, Int.reduceBEq, false_implies, e2, Pred.cells_eq (.mk q1 qs q3 q4), Pred.op, Pred.name, Pred.n, Pred.kids]
   intro _
   refine tail rfl _ ?_ ?_ ?_ ?_ rfl <;> simp only [go_sem, Pred.cells_eq (.mk q1 qs q3 q4), Pred.op, Pred.name, Pred.n, Pred.kids, bxM]
 ·have h4' : (o == 4) = false := by simpa using h4
  have hcut : isCut true (tabK m l) o s ks = none := by
   unfold isCut appVar
   simp only [h4', Bool.false_eq_true, if_false]
  clear hN
  rcases ks with _ | ⟨⟨q1, qs, q3, q4⟩, r⟩
  ·simp only [go_sem, h4', false_implies]
   refine tail hcut _ ?_ ?_ ?_ rfl rfl <;> simp only [go_sem]
  ·simp only [go_sem, h4', false_implies, Pred.cells_eq (.mk q1 qs q3 q4), Pred.op, Pred.name, Pred.n, Pred.kids]
   refine tail hcut _ ?_ ?_ ?_ ?_ rfl <;> simp only [go_sem, Pred.cells_eq (.mk q1 qs q3 q4), Pred.op, Pred.name, Pred.n, Pred.kids, bxM]
end Go.Abs
end
section
set_option linter.unusedSimpArgs false
set_option linter.unusedVariables false
set_option linter.unusedSectionVars false
namespace Go.Abs
def MOk (m : Mod) : Prop := ∀ x ∈ m.meas, ∀ c ∈ x.cases, c.body.cnt < 1048576 ∧ c.names.length ≤ 1048576
theorem zip_at {names na nr : List Str} {x : Str} {done : List Val} (h : names = na ++ x :: nr) (hl : na.length = done.length) (k : Val) : names.zip (done ++ [k]) = names.zip done ++ [(x, k)] := by
 subst h
 have h1 : (na ++ x :: nr).zip done = na.zip done := by
  have := List.zip_append (l₁ := na) (l₂ := done) (r₁ := x :: nr) (r₂ := []) hl
  simpa using this
 rw [h1, List.zip_append hl]
 simp
theorem puts_has {l : List (Str × Val)} {x : Str} {k : Val} (h : mapHas (putsF l).1 (.str x) = true) : putsF (l ++ [(x, k)]) = putsF l := by rw [putsF_snoc, putF, if_pos h]
theorem puts_new {l : List (Str × Val)} {x : Str} {k : Val} (h : mapHas (putsF l).1 (.str x) = false) : putsF (l ++ [(x, k)]) = ((.str x, .agg k.cells) :: (putsF l).1, if k.op == 1 || k.op == 2 then (putsF l).2 ++ [⟨x, k.n⟩] else (putsF l).2) := by rw [putsF_snoc, putF, if_neg (by rw [h]; simp)]
theorem pre_le (p : Pred) : p.pre.length ≤ p.cnt := by
 induction p using Pred.ind with
 | h o s n ks ih =>
 rw [Pred.pre_eq, Pred.cnt, List.length_cons]
 have : ∀ l : List Pred, (∀ k ∈ l, k.pre.length ≤ k.cnt) → (Pred.pre.pres l).length ≤ Pred.cnts l := by
  intro l
  induction l with
  | nil => intro _; simp [Pred.pre.pres, Pred.cnts]
  | cons a l ih =>
   intro h
   have h1 := h a (by simp)
   have h2 := ih fun k hk => h k (by simp [hk])
   rw [Pred.pre.pres, Pred.cnts, List.length_append]; omega
 have := this ks ih
 omega
theorem freeS_len (p : Pred) : (freeS p).length ≤ p.cnt := by
 unfold freeS
 have h1 := unionS_len (freeL p.pre) []
 have h2 := freeL_len p.pre
 have h3 := pre_le p
 simp only [List.length_nil] at h1
 omega
set_option maxRecDepth 100000
variable {E : AEnv} (Z : Sys E)
include Z
set_option maxHeartbeats 4000000 in
theorem measure_Value_ev (hG : E.G 0 = some (kws.map .str)) (hIt : ∀ p, E.It pred_before_1 [.ref (Pred.cells p)] (yields p.pre)) (hU : UnionOwn E) (hI : ItoaLaw E) (m : Mod) (hm : MOk m) (v : Val) : ∀ s, E.C measure_Value [.agg m.cells, .one (.str s), .agg v.cells] (res2 (v.value m s)) := by
 induction v using Val.ind with
 | h o n nm ks pa bd bs ih =>
 intro s
 have hcon := syntax_Con_ev Z m nm
 have hfind := measure_find_ev Z m s
 have hcase := fun x => measure_caseOf_ev Z x nm
 have hchk := fun p => pred_Check_ev Z hG hIt p
 have hfree := fun p hp => pred_Free_own Z hU hIt p hp
 have heval := fun at' p => meaning_Eval_ev Z hG hIt at' [] p
 refine Z.measure_Value _ _ ⟨Nat.le_of_ble_eq_true rfl, ?_⟩
 rw [Val.value_eq]
 generalize hR : valStep m o n nm (ks.map (Val.ent m)) s = R
 unfold valStep at hR
 simp only [fn_measure_Value, Mod.cells, Val.cells_mk]
 cases c1 : (s == sVal) with
 | true =>
  simp only [c1, if_true] at hR
  have c1' : (s == [118, 97, 108]) = true := c1
  cases c2 : (o != 4) with
  | true =>
   simp only [c2, if_true] at hR
   simp only [↓reduceIte, go_sem, c1', c2, ← hR, and_self]
  | false =>
   simp only [c2, Bool.false_eq_true, if_false] at hR
   simp only [↓reduceIte, go_sem, c1', c2, ← hR, and_self]
 | false =>
 have c1' : (s == [118, 97, 108]) = false := c1
 simp only [c1, Bool.false_eq_true, if_false] at hR
 simp only [↓reduceIte, go_sem, c1']
 refine call_by hcon ?_
 generalize conS nm m.datas = C at *
 obtain ⟨dt, ix, known⟩ := C
 obtain ⟨dn, dv, dp, dc⟩ := dt
 simp only [go_sem, DataT.cells]
 cases c2 : (o != 3 || !known) with
 | true =>
  simp only [c2, if_true] at hR
  simp only [↓reduceIte, go_sem, c2, ← hR, and_self]
 | false =>
 simp only [c2, Bool.false_eq_true, if_false] at hR
 simp only [↓reduceIte, go_sem, c2]
 cases c3 : (s == sTag) with
 | true =>
  have c3' : (s == [116, 97, 103]) = true := c3
  simp only [c3, if_true] at hR
  simp only [↓reduceIte, go_sem, c3', ← hR, and_self]
 | false =>
 have c3' : (s == [116, 97, 103]) = false := c3
 simp only [c3, Bool.false_eq_true, if_false] at hR
 simp only [↓reduceIte, go_sem, c3']
 refine call_by hfind ?_
 unfold findM
 cases hf : m.meas.find? (fun x => x.name == s) with
 | none =>
  rw [hf] at hR
  simp only at hR
  simp only [go_sem, Meas.cells_zero, ← hR, and_self]
 | some x =>
 rw [hf] at hR
 simp only at hR
 have hcase := hcase x
 have hmx := hm x (List.mem_of_find?_eq_some hf)
 obtain ⟨xa, xb, xc, xl, xo, xs, xn, xk⟩ := x
 simp only [go_sem, Meas.cells_mk] at hcase ⊢
 rw [show (xb != dn) = !(xb == dn) from rfl] at hR
 cases c4 : (xb == dn) with
 | false =>
  simp only [c4, Bool.not_false, if_true] at hR
  simp only [go_sem, ← hR, and_self]
 | true =>
 simp only [c4, Bool.not_true, Bool.false_eq_true, if_false] at hR
 simp only [go_sem]
 refine call_by hcase ?_
 unfold findCas
 cases hg : xl.find? (fun c => c.con == nm) with
 | none =>
  rw [hg] at hR
  simp only at hR
  simp only [go_sem, Cas.cells_zero]
  refine call_skip ?_
  simp only [go_sem, ← hR, and_self]
 | some c =>
 rw [hg] at hR
 simp only at hR
 obtain ⟨hb1, hb2⟩ := hmx c (List.mem_of_find?_eq_some hg)
 have hchk := hchk c.body
 have hfree := hfree c.body (by have := pre_le c.body; omega)
 have hfl := freeS_len c.body
 have hvf := fun h3 => value_flat (m := m) (names := c.names) (ks := ks) (body := c.body) (used := freeS c.body ++ c.names) hb1 (by rw [List.length_append]; omega) (fun x hx => List.mem_append_right _ hx) (fun x hx => List.mem_append_left _ (mem_freeSi.2 hx)) h3
 have hflat := fun l => measure_flat_ev Z hI m l
 obtain ⟨ca, cl, cb⟩ := c
 simp only at hchk hfree hfl hvf hb1 hb2
 have hcz : Cas.cells ⟨ca, cl, cb⟩ = .str ca :: .lst (cl.map fun k => [.str k]) :: cb.cells := rfl
 have hcb : cb.cells.length = 4 := Pred.cells_length cb
 simp only [List.length_map] at hR
 simp only [go_sem, hcz]
 intro hl1 hl2
 have hlc : cl.length ≤ 1048576 := hb2
 generalize hQ : cb.checkE = q at *
 by_cases hl : cl.length = ks.length
 ·have e1 : (cl.length != ks.length) = false := by simp [hl]
  have e2 : ((cl.length : Int) != (ks.length : Int)) = false := by simp [hl]
  simp only [e1, Bool.false_or] at hR
  simp only [e2, go_sem]
  refine call_by hchk ?_
  simp only [go_sem]
  cases c6 : (q != 0) with
  | true =>
   simp only [c6, if_true] at hR
   simp only [go_sem, ← hR, and_self]
  | false =>
   simp only [c6, Bool.false_eq_true, if_false] at hR
   have hq0 : q = 0 := by simpa using c6
   have hvf := hvf hq0
   generalize freeS cb = U at *
   have hU1 : (∀ e ∈ U.map (fun k : Str => [D.str k]), e.length = 1) = True := eq_true (by simp)
   have hU2 : (∀ e ∈ cl.map (fun k : Str => [D.str k]), e.length = 1) = True := eq_true (by simp)
   have o1 : (U.length + cl.length) * 16 ≤ 2 ^ 46 := by omega
   have o2 : U.length + cl.length ≤ 9223372036854775807 := by omega
   have hcb4 : (cb.cells.map AV.d).length = 4 := by rw [List.length_map]; exact hcb
   simp only [go_sem, hcb4, hcb, List.length_map]
   have hpl := putsF_len (cl.zip ks)
   have hzl : (cl.zip ks).length = ks.length := by rw [List.length_zip, hl, Nat.min_self]
   have hfl := hflat (cl.zip ks) (fun q hq s => ih q.2 (List.of_mem_zip (show (q.1, q.2) ∈ cl.zip ks from hq)).2 s) cb ⟨U ++ cl, (putsF (cl.zip ks)).2⟩ (by simp only [List.length_append]; omega)
   have hlen3 : (flatP true (tabK m (cl.zip ks)) cb ⟨U ++ cl, (putsF (cl.zip ks)).2⟩).1.cells.length = 4 := Pred.cells_length _
   generalize flatP true (tabK m (cl.zip ks)) cb ⟨U ++ cl, (putsF (cl.zip ks)).2⟩ = F at *
   obtain ⟨Fp, Fs⟩ := F
   simp only at hfl hvf hlen3
   have hev := heval Fs.at' Fp
   unfold res2 at hev
   rw [hvf] at hev
   simp only [List.map_nil] at hev
   refine ⟨?_, ?_⟩ <;> (
    refine call_by hfree ?_
    simp only [go_sem, hU1, hU2, o1, o2, List.length_map, hcb4]
    intro _
    refine loop_named fun K hK => ?_
    refine loop_list ks (fun _ => True) (fun done rest => ⟨[(97, .d (.int .i64 done.length)), (96, .d (.int .i64 ks.length)), (95, .d (.lst (ks.map Val.cells))), (14, .ptr 93 0), (13, .ptr 13 0)],
     [(93, [.d (.lst (m.datas.map DataT.cells)), .d m.cls, .d m.ins, .d (.lst (m.meas.map Meas.cells)), .d m.quals, .d m.defs, .mref 85, .own 91 1 ((U ++ cl).map fun k => [.str k]), .own 93 2 ((putsF (cl.zip done)).2.map Coef.cells)]), (85, [.mp ty_str ty_agg (putsF (cl.zip done)).1]), (13, .d (.str ca) :: .d (.lst (cl.map fun k => [.str k])) :: cb.cells.map .d)], [(91, true), (93, true)]⟩) ?_ trivial ?_ ?_
    ·refine Ent_convm 93 8 93 2 _ [] [(91, 91), (93, 93)] (by simp only [go_sem]; rfl) rfl (by simp) (by simp only [go_sem]) ?_
     simp only [Ent0, go_sem, List.zip_nil_right, putsF, List.foldl_nil, List.contains_cons, List.contains_nil, Option.isSome_some, Nat.reduceBEq, List.map_append]
    ·intro done k r hlk _
     obtain ⟨na, x, nr, hcl, hnl⟩ := at_split (b := cl) (n := done.length) (by rw [hl, hlk]; simp)
     have hlt := lt_mid hlk
     have hlt2 : (done.length : Int) < cl.length := by rw [hl]; exact hlt
     have hw : IntKind.i64.wrap ((done.length : Int) + 1) = ((done.length + 1 : Nat) : Int) := wrap_succ (by omega)
     have hgk := getD_at (f := Val.cells) (d := []) hlk
     have hgx : (cl.map fun k : Str => [D.str k]).getD done.length [] = [.str x] := by rw [hcl, ← hnl]; simp
     rw [zip_at hcl hnl k]
     have hpd := putsF_len (cl.zip done)
     have hdz : (cl.zip done).length ≤ done.length := by rw [List.length_zip]; exact Nat.min_le_right _ _
     have hdk : done.length ≤ ks.length := by rw [hlk]; simp
     have hph := @puts_has (cl.zip done) x k
     have hpn := @puts_new (cl.zip done) x k
     have hget := putsF_get (cl.zip done) x
     generalize fieldZ (cl.zip done) x = fz at *
     generalize putsF (cl.zip done ++ [(x, k)]) = P1 at *
     generalize putsF (cl.zip done) = P0 at *
     obtain ⟨kv0, at0⟩ := P0
     obtain ⟨vo, vn, vs, vk, vp, vb, vd⟩ := k
     have hA := Coef.lens at0
     simp only [Val.op, Val.n] at hpn
     simp only [Val.cells_mk] at hgk hpn
     have p1 : kv0.length < 9223372036854775807 := by simp only at hpd; omega
     have p2 : (at0.length + 1) * 24 ≤ 2 ^ 46 := by simp only at hpd; omega
     have p3 : at0.length ≤ 9223372036854775806 := by simp only at hpd; omega
     cases fz with
     | some v' =>
      have hat : ∀ z, mapAt kv0 (.str x) z = .agg v'.cells := fun z => by unfold mapAt; rw [hget]; rfl
      have hhas : mapHas kv0 (.str x) = true := by unfold mapHas; rw [hget]; rfl
      rw [hph hhas]
      obtain ⟨wo, wn, ws, wk, wp, wb, wd⟩ := v'
      simp only [Val.cells_mk] at hat
      simp only [fn_measure_Value_L1, go_sem, hgk, hgx, hlt, hlt2, hU2, List.length_map, hat, hhas, MV.av]
      simp only [go_sem, hw, List.length_append]
      exact Ent_own [(91, 91), (93, 93)] (by simp only [go_sem, List.contains_cons, List.contains_nil, Option.isSome_some, Nat.reduceBEq])
     | none =>
      have hat : ∀ z, mapAt kv0 (.str x) z = z := fun z => by unfold mapAt; rw [hget]; rfl
      have hhas : mapHas kv0 (.str x) = false := by unfold mapHas; rw [hget]; rfl
      rw [hpn hhas]
      simp only [fn_measure_Value_L1, go_sem, hgk, hgx, hlt, hlt2, hU2, List.length_map, hat, hhas, MV.av, AV.toMV, p1]
      by_cases hvo : (vo == 1 || vo == 2) = true
      ·simp only [hvo, go_sem, p2, p3, hw, List.length_append, List.mem_singleton, forall_eq, List.map_append]
       exact Ent_own [(91, 91), (93, 148)] (by simp only [go_sem, List.contains_cons, List.contains_nil, Option.isSome_some, Nat.reduceBEq, List.map_append, List.map_cons, List.map_nil, Coef.cells])
      ·have hvo : (vo == 1 || vo == 2) = false := by simpa using hvo
       simp only [hvo, go_sem, hw, List.length_append, Bool.false_eq_true]
       exact Ent_own [(91, 91), (93, 93)] (by simp only [go_sem, List.contains_cons, List.contains_nil, Option.isSome_some, Nat.reduceBEq, List.map_append, Bool.false_eq_true])
    ·intro _
     simp only [fn_measure_Value_L1, go_sem, hK]
     refine ⟨{ σ := [(1000, 93), (1001, 85)], τ := [(2000, 91), (2001, 93)], τ1 := [(2000, 3000), (2001, 3001)], as0 := [.ptr 1000 0, .agg (cb.cells.map .d)], m0 := bxM m (putsF (cl.zip ks)).1 ⟨U ++ cl, (putsF (cl.zip ks)).2⟩, m1 := bxM m (putsF (cl.zip ks)).1 Fs, r := .agg Fp.cells }, ⟨rfl, ?_, hfl⟩, ?_⟩
     ·simp only [okB, go_sem, bxM, List.contains_cons, List.contains_nil, Nat.reduceBEq, List.mem_cons, List.not_mem_nil, or_false, forall_eq_or_imp, forall_eq, List.all_cons, List.all_nil]
     ·simp only [go_sem, bxM, Option.getD_some, hlen3, List.length_map]
      refine call_by hev ?_
      simp only [go_sem, hR, and_self])
 ·have e1 : (cl.length != ks.length) = true := by simp [hl]
  have e2 : ((cl.length : Int) != (ks.length : Int)) = true := by simp; omega
  simp only [e1, Bool.true_or, if_true] at hR
  simp only [e2, go_sem]
  refine call_skip ?_
  simp only [go_sem, ← hR, and_self]
end Go.Abs
end
section
set_option linter.unusedSimpArgs false
set_option linter.unusedVariables false
set_option linter.unusedSectionVars false
namespace Go.Abs
set_option maxRecDepth 100000
variable {E : AEnv} (Z : Sys E)
include Z
set_option maxHeartbeats 4000000 in
theorem metric_flat_ev (hI : ItoaLaw E) (m : Mod) (l : List (Str × Val)) (hV : ∀ q ∈ l, ∀ s, E.C measure_Value [.agg m.cells, .one (.str s), .agg q.2.cells] (res2 (q.2.value m s))) (p : Pred) :
  ∀ st : FSt, st.used.length + st.at'.length + 2 * p.cnt ≤ 1073741824 → E.C metric_term_flat [] (.bx [.ptr 1000 0, .agg (p.cells.map .d)] (bxM m (putsF l).1 st) bxT (.agg (flatP false (tabK m l) p st).1.cells) (bxM m (putsF l).1 (flatP false (tabK m l) p st).2) bxT) := by
 induction p using Pred.ind with
 | h o s n ks ih =>
 intro st hb
 refine Z.metric_term_flat _ _ ⟨Nat.le_of_ble_eq_true rfl, Nat.le_of_ble_eq_true rfl, rfl, ?_⟩
 rw [Pred.cells_eq (.mk o s n ks)]
 simp only [fn_metric_term_flat, bxM, bxT, Pred.op, Pred.name, Pred.n, Pred.kids]
 refine seq2_named fun N hN => ?_
 have tail : isCut false (tabK m l) o s ks = none → ∀ st' : St, getS st'.slots 0 = .ptr 1000 0 → getS st'.slots 3 = .ptr 3 0 → getS st'.slots 4 = .ptr 4 0 →
   getM st'.mem 4 = some [.d (.int .i64 0), .d (.str []), .d (.int .i64 0), .full []] → getM st'.mem 3 = some [.d (.int .i64 o), .d (.str s), .d (.int .i64 n), .d (.lst (ks.map Pred.cells))] → getM st'.mem 10 = none →
   getM st'.mem 1000 = getM (bxM m (putsF l).1 st) 1000 → getM st'.mem 1001 = getM (bxM m (putsF l).1 st) 1001 → st'.tk = bxT → N st' := by
  intro hcut st' e0 e3 e4 m4 m3 m10 m1000 m1001 et
  simp only [bxM, getM, if_true, Nat.reduceEqDiff, if_false] at m1000 m1001
  rw [flatP_node hcut] at hN
  subst hN
  rw [Pred.cnt] at hb
  simp only [go_sem, e0, e3, e4, m3, m4, m10, et, bxM]
  intro hlen
  refine loop_named fun K hK => ?_
  have hst : (⟨st.used, st.at'⟩ : FSt) = st := rfl
  refine loop_list ks (fun _ => True) (fun done rest => ⟨[(90, .d (.int .i64 done.length)), (89, .d (.int .i64 ks.length)), (88, .d (.lst (ks.map Pred.cells))), (0, .ptr 1000 0), (4, .ptr 4 0), (10, .ptr 10 0)],
   (10, [.d (.int .i64 o), .d (.str s), .d (.int .i64 n), .own 10 4 ((flatP.go false (tabK m l) done st).1.map Pred.cells)]) :: (4, [.d (.int .i64 0), .d (.str []), .d (.int .i64 0), .full []]) :: bxM m (putsF l).1 (flatP.go false (tabK m l) done st).2, [(10, true), (2000, true), (2001, true)]⟩) ?_ trivial ?_ ?_
  ·refine Ent_convm 10 3 10 4 _ [] [(10, 10), (2000, 2000), (2001, 2001)] (by simp only [go_sem]; rfl) rfl (by simp) (by simp only [go_sem, et, bxT]) ?_
   simp only [Ent0, go_sem, e0, e4, et, bxT, m4, m1000, m1001, flatP.go, bxM, List.contains_cons, List.contains_nil, Option.isSome_some, Nat.reduceBEq]
  ·intro done k r hl _
   have hlt := lt_mid hl
   have hw : IntKind.i64.wrap ((done.length : Int) + 1) = ((done.length + 1 : Nat) : Int) := wrap_succ (by omega)
   have hgk := getD_midP hl
   have hcn : Pred.cnts ks = Pred.cnts done + (k.cnt + Pred.cnts r) := by rw [hl, cnts_app, Pred.cnts]
   have hgl := go_flat_len (all := false) (K := tabK m l) done st
   have hdl := go_len (all := false) (K := tabK m l) done st
   have hlc : done.length ≤ Pred.cnts done := by
    have : ∀ a : List Pred, a.length ≤ Pred.cnts a := by
     intro a
     induction a with
     | nil => exact Nat.zero_le _
     | cons x a iha =>
      rw [Pred.cnts, List.length_cons]
      have : 1 ≤ x.cnt := by obtain ⟨_, _, _, _⟩ := x; rw [Pred.cnt]; omega
      omega
    exact this done
   have hgo : flatP.go false (tabK m l) (done ++ [k]) st = ((flatP.go false (tabK m l) done st).1 ++ [(flatP false (tabK m l) k (flatP.go false (tabK m l) done st).2).1], (flatP false (tabK m l) k (flatP.go false (tabK m l) done st).2).2) := by
    rw [go_app, go_one]
   rw [hgo]
   have hk' := ih k (by rw [hl]; simp) (flatP.go false (tabK m l) done st).2 (by omega)
   generalize flatP.go false (tabK m l) done st = Dn at *
   obtain ⟨dp, ds⟩ := Dn
   simp only at hk' hdl hgl ⊢
   generalize flatP false (tabK m l) k ds = Kn at *
   obtain ⟨kp, ks'⟩ := Kn
   simp only at hk' ⊢
   have o1 : (dp.length + 1) * 56 ≤ 2 ^ 46 := by omega
   have o2 : dp.length ≤ 9223372036854775806 := by omega
   have ht2 := Pred.lens_true dp
   simp only [fn_metric_term_flat_L1, go_sem, hgk, hlt, List.length_map, bxM, Pred.cells_length, drop_cells]
   have okX : ∀ sl : List (Nat × AV), ∀ c12 c12', okB ⟨sl, (12, c12) :: (12, c12') :: (10, [.d (.int .i64 o), .d (.str s), .d (.int .i64 n), .own 10 4 (dp.map Pred.cells)]) :: (4, [.d (.int .i64 0), .d (.str []), .d (.int .i64 0), .full []]) :: bxM m (putsF l).1 ds, [(10, true), (2000, true), (2001, true)]⟩ [.ptr 1000 0, .agg (k.cells.map .d)]
     { σ := [(1000, 1000), (1001, 1001)], τ := [(2000, 2000), (2001, 2001)], τ1 := [(2000, 3000), (2001, 3001)], as0 := [.ptr 1000 0, .agg (k.cells.map .d)], m0 := bxM m (putsF l).1 ds, m1 := bxM m (putsF l).1 ks', r := .agg kp.cells } := by
    intro sl c12 c12'
    simp only [okB, go_sem, bxM, List.contains_cons, List.contains_nil, Nat.reduceBEq, List.mem_cons, List.not_mem_nil, or_false, forall_eq_or_imp, forall_eq, List.all_cons, List.all_nil]
   refine ⟨⟨{ σ := [(1000, 1000), (1001, 1001)], τ := [(2000, 2000), (2001, 2001)], τ1 := [(2000, 3000), (2001, 3001)], as0 := [.ptr 1000 0, .agg (k.cells.map .d)], m0 := bxM m (putsF l).1 ds, m1 := bxM m (putsF l).1 ks', r := .agg kp.cells }, ⟨rfl, okX _ _ _, hk'⟩, ?_⟩, ⟨{ σ := [(1000, 1000), (1001, 1001)], τ := [(2000, 2000), (2001, 2001)], τ1 := [(2000, 3000), (2001, 3001)], as0 := [.ptr 1000 0, .agg (k.cells.map .d)], m0 := bxM m (putsF l).1 ds, m1 := bxM m (putsF l).1 ks', r := .agg kp.cells }, ⟨rfl, okX _ _ _, hk'⟩, ?_⟩⟩
   ·simp only [go_sem, bxM, Option.getD_some, Pred.cells_length, List.length_map, o1, o2, ht2, hw, List.length_append, List.mem_singleton, forall_eq]
    exact Ent_own [(10, 100), (2000, 3000), (2001, 3001)] (by simp only [go_sem, List.contains_cons, List.contains_nil, Option.isSome_some, Nat.reduceBEq, List.map_append, List.map_cons, List.map_nil, List.length_append])
   ·simp only [go_sem, bxM, Option.getD_some, Pred.cells_length, List.length_map, o1, o2, ht2, hw, List.length_append, List.mem_singleton, forall_eq]
    exact Ent_own [(10, 100), (2000, 3000), (2001, 3001)] (by simp only [go_sem, List.contains_cons, List.contains_nil, Option.isSome_some, Nat.reduceBEq, List.map_append, List.map_cons, List.map_nil, List.length_append])
  ·intro _
   simp only [fn_metric_term_flat_L1, go_sem, hK, bxM, Pred.cells_length]
   exact ⟨by rw [Pred.cells_eq]; rfl, Ent_own [(2000, 2000), (2001, 2001)] (by simp only [go_sem, List.contains_cons, List.contains_nil, Option.isSome_some, Nat.reduceBEq])⟩
 by_cases h4 : o = 4
 ·subst h4
  rcases ks with _ | ⟨q, _ | ⟨q2, r⟩⟩
  ·clear hN
   simp only [go_sem, Int.reduceBEq, false_implies]
   refine tail rfl _ ?_ ?_ ?_ ?_ ?_ ?_ ?_ ?_ rfl <;> simp only [go_sem, bxM]
  ·obtain ⟨q1, q2, q3, q4⟩ := q
   have l1 : (∀ e ∈ [[D.int .i64 q1, D.str q2, D.int .i64 q3, D.lst (List.map Pred.cells q4)]], e.length = 4) = True := eq_true (by simp)
   have e1 : ((1 : Int) == 1) = true := rfl
   cases c5 : (q1 == 3) with
   | false =>
    have hcut : isCut false (tabK m l) 4 s [Pred.mk q1 q2 q3 q4] = none := by
     unfold isCut appVar
     simp only [c5, Bool.false_eq_true, if_false]
     rfl
    clear hN
    simp only [go_sem, Int.reduceBEq, false_implies, Pred.cells_eq (.mk q1 q2 q3 q4), Pred.op, Pred.name, Pred.n, Pred.kids, l1, c5]
    refine tail hcut _ ?_ ?_ ?_ ?_ ?_ ?_ ?_ ?_ rfl <;> simp only [go_sem, Pred.cells_eq (.mk q1 q2 q3 q4), Pred.op, Pred.name, Pred.n, Pred.kids, bxM]
   | true =>
    have c5' : q1 = 3 := by simpa using c5
    subst c5'
    have hget := putsF_get l q2
    cases hf : fieldZ l q2 with
    | none =>
     rw [hf] at hget
     have hk : tabK m l q2 s = none := by unfold tabK; rw [hf]; rfl
     have hcut : isCut false (tabK m l) 4 s [Pred.mk 3 q2 q3 q4] = none := by
      unfold isCut
      rw [show appVar 4 [Pred.mk 3 q2 q3 q4] = some q2 from rfl]
      simp only [hk]
      rfl
     have hat : ∀ x, mapAt (putsF l).1 (.str q2) x = x := fun x => by unfold mapAt; rw [hget]; rfl
     have hhas : mapHas (putsF l).1 (.str q2) = false := by unfold mapHas; rw [hget]; rfl
     clear hN
     simp only [go_sem, Int.reduceBEq, false_implies, Pred.cells_eq (.mk 3 q2 q3 q4), Pred.op, Pred.name, Pred.n, Pred.kids, l1, hat, hhas, MV.av]
     refine tail hcut _ ?_ ?_ ?_ ?_ ?_ ?_ ?_ ?_ rfl <;> simp only [go_sem, Pred.cells_eq (.mk 3 q2 q3 q4), Pred.op, Pred.name, Pred.n, Pred.kids, bxM]
    | some v =>
     clear tail hN
     rw [hf] at hget
     have hmem : ∃ q ∈ l, q.2 = v := by
      unfold fieldZ at hf
      rw [Option.map_eq_some_iff] at hf
      obtain ⟨q, h1, rfl⟩ := hf
      exact ⟨q, List.mem_of_find?_eq_some h1, rfl⟩
     obtain ⟨q, hq, rfl⟩ := hmem
     have hv := hV q hq s
     have hk : tabK m l q2 s = some (q.2.value m s) := by unfold tabK; rw [hf]; rfl
     have hcut : isCut false (tabK m l) 4 s [Pred.mk 3 q2 q3 q4] = some q2 := by
      unfold isCut
      rw [show appVar 4 [Pred.mk 3 q2 q3 q4] = some q2 from rfl]
      simp only [hk]
      rfl
     rw [flatP_cut hcut]
     have hfr := names_Fresh_ev Z hI st.used sZ (by omega) (by decide)
     generalize hz : freshS st.used sZ = z at *
     have ht1 : (∀ e ∈ st.used.map (fun k : Str => [D.str k]), e.length = 1) = True := eq_true (by simp)
     have ht2 := Coef.lens st.at'
     have o1 : (st.used.length + 1) * 16 ≤ 2 ^ 46 := by omega
     have o2 : st.used.length ≤ 9223372036854775806 := by omega
     have o3 : (st.at'.length + 1) * 24 ≤ 2 ^ 46 := by omega
     have o4 : st.at'.length ≤ 9223372036854775806 := by omega
     simp only [sZ] at hfr
     generalize q.2.value m s = w at *
     obtain ⟨w1, w2⟩ := w
     unfold res2 at hv
     have hat : ∀ x, mapAt (putsF l).1 (.str q2) x = .agg q.2.cells := fun x => by unfold mapAt; rw [hget]; rfl
     have hhas : mapHas (putsF l).1 (.str q2) = true := by unfold mapHas; rw [hget]; rfl
     obtain ⟨qn, vo, vn, vs, vk, vp, vb, vd⟩ := q
     simp only [Val.cells_mk] at hv hat
     have hpv : (pv z).cells = [.int .i64 3, .str z, .int .i64 0, .lst []] := by unfold pv; rw [Pred.cells_eq]; rfl
     rw [hpv]
     simp only [go_sem, Int.reduceBEq, false_implies, Pred.cells_eq (.mk 3 q2 q3 q4), Pred.op, Pred.name, Pred.n, Pred.kids, l1, hat, hhas, MV.av]
     refine call_by hfr ?_
     simp only [go_sem, ht1, o1, o2, List.length_map, List.mem_singleton, forall_eq]
     refine call_by hv ?_
     unfold FSt.next
     rw [hk, hz]
     cases w2 with
     | false =>
      simp only [go_sem]
      refine Ent_own [(2000, 56), (2001, 2001)] ?_
      simp only [go_sem, List.contains_cons, List.contains_nil, Option.isSome_some, List.map_append, List.map_cons, List.map_nil, Nat.reduceBEq]
     | true =>
      simp only [go_sem, ht2, o3, o4, List.length_map, List.mem_singleton, forall_eq]
      refine Ent_own [(2000, 56), (2001, 80)] ?_
      simp only [go_sem, List.contains_cons, List.contains_nil, Option.isSome_some, List.map_append, List.map_cons, List.map_nil, Coef.cells, Nat.reduceBEq]
  ·obtain ⟨q1, qs, q3, q4⟩ := q
   have e2 : (((r.length + 1 + 1 : Nat) : Int) == 1) = false := by rw [beq_eq_false_iff_ne]; omega
   clear hN
   simp only [go_sem, Int.reduceBEq, false_implies, e2, Pred.cells_eq (.mk q1 qs q3 q4), Pred.op, Pred.name, Pred.n, Pred.kids]
   intro _
   refine tail rfl _ ?_ ?_ ?_ ?_ ?_ ?_ ?_ ?_ rfl <;> simp only [go_sem, Pred.cells_eq (.mk q1 qs q3 q4), Pred.op, Pred.name, Pred.n, Pred.kids, bxM]
 ·have h4' : (o == 4) = false := by simpa using h4
  have hcut : isCut false (tabK m l) o s ks = none := by
   unfold isCut appVar
   simp only [h4', Bool.false_eq_true, if_false]
  clear hN
  rcases ks with _ | ⟨⟨q1, qs, q3, q4⟩, r⟩
  ·simp only [go_sem, h4', false_implies]
   refine tail hcut _ ?_ ?_ ?_ ?_ ?_ ?_ ?_ ?_ rfl <;> simp only [go_sem, bxM]
  ·simp only [go_sem, h4', false_implies, Pred.cells_eq (.mk q1 qs q3 q4), Pred.op, Pred.name, Pred.n, Pred.kids]
   refine tail hcut _ ?_ ?_ ?_ ?_ ?_ ?_ ?_ ?_ rfl <;> simp only [go_sem, Pred.cells_eq (.mk q1 qs q3 q4), Pred.op, Pred.name, Pred.n, Pred.kids, bxM]
end Go.Abs
end
section
set_option linter.unusedSimpArgs false
set_option linter.unusedVariables false
set_option linter.unusedSectionVars false
namespace Go.Abs
structure SigT where
 s0 : D
 s1 : D
 s2 : D
 s3 : D
 s4 : D
 s5 : D
 s6 : D
 names : List Str
 s8 : D
 s9 : D
 s10 : D
 s11 : D
 s12 : D
 metric : List Pred
def SigT.cells (x : SigT) : List D := [x.s0, x.s1, x.s2, x.s3, x.s4, x.s5, x.s6, .lst (x.names.map fun k => [.str k]), x.s8, x.s9, x.s10, x.s11, x.s12, .lst (x.metric.map Pred.cells)]
structure DefT where
 d0 : D
 d1 : D
 d2 : D
 d3 : D
 d4 : D
 d5 : D
 d6 : D
 d7 : D
 d8 : D
 d9 : D
 d10 : D
 sig : SigT
def DefT.cells (x : DefT) : List D := x.d0 :: x.d1 :: x.d2 :: x.d3 :: x.d4 :: x.d5 :: x.d6 :: x.d7 :: x.d8 :: x.d9 :: x.d10 :: x.sig.cells
theorem zip_atL {ka kr args : List Val} {k : Val} {x : Str} {done : List Str} (h : args = ka ++ k :: kr) (hl : done.length = ka.length) : (done ++ [x]).zip args = done.zip args ++ [(x, k)] := by
 subst h
 have h1 : done.zip (ka ++ k :: kr) = done.zip ka := by
  have := List.zip_append (l₁ := done) (l₂ := ka) (r₁ := []) (r₂ := k :: kr) hl
  simpa using this
 rw [h1, List.zip_append hl]
 simp
def metV (m : Mod) (ts : List Pred) (names : List Str) (args : List Val) : List Int × Bool := if ts.length == 0 || args.length != names.length then ([], false) else metS (tabK m (names.zip args)) (putsF (names.zip args)).2 ts
def resV (r : List Int × Bool) : CV := .tup [.one (.lst (r.1.map icell)), .one (.bool r.2)]
theorem mem_at {α : Type} {l a r : List α} {x : α} (h : l = a ++ x :: r) : x ∈ l := by rw [h]; simp
set_option maxRecDepth 100000
variable {E : AEnv} (Z : Sys E)
include Z
set_option maxHeartbeats 8000000 in
theorem metric_Value_ev (hG : E.G 0 = some (kws.map .str)) (hIt : ∀ p, E.It pred_before_1 [.ref (Pred.cells p)] (yields p.pre)) (hU : UnionOwn E) (hI : ItoaLaw E) (m : Mod) (hm : MOk m) (d : DefT) (args : List Val) (ht : ∀ t ∈ d.sig.metric, t.cnt < 1048576) (hts : d.sig.metric.length ≤ 1048576) (hns : d.sig.names.length ≤ 1048576) :
  E.C metric_Value [.agg m.cells, .agg d.cells, .one (.lst (args.map Val.cells))] (resV (metV m d.sig.metric d.sig.names args)) := by
 have hchk := fun p => pred_Check_ev Z hG hIt p
 have hfree := fun p hp => pred_Free_own Z hU hIt p hp
 have heval := fun at' p => meaning_Eval_ev Z hG hIt at' [] p
 have hflat := fun l => metric_flat_ev Z hI m l fun q _ s => measure_Value_ev Z hG hIt hU hI m hm q.2 s
 refine Z.metric_Value _ _ ⟨Nat.le_of_ble_eq_true rfl, ?_⟩
 generalize hR : metV m d.sig.metric d.sig.names args = R
 obtain ⟨d0, d1, d2, d3, d4, d5, d6, d7, d8, d9, d10, s0, s1, s2, s3, s4, s5, s6, names, s8, s9, s10, s11, s12, ts⟩ := d
 unfold metV at hR
 simp only at hR ht hts hns
 simp only [fn_metric_Value, Mod.cells, DefT.cells, SigT.cells, go_sem, List.length_map]
 intro hlen
 cases c1 : ((ts.length : Int) == 0) with
 | true =>
  have c1' : (ts.length == 0) = true := by simpa using c1
  rw [c1'] at hR
  simp only [Bool.true_or, if_true] at hR
  simp only [go_sem, ← hR, List.map_nil, and_self, false_implies]
 | false =>
 have c1' : (ts.length == 0) = false := by simpa using c1
 rw [c1'] at hR
 simp only [Bool.false_or] at hR
 simp only [go_sem]
 intro _ _
 cases c2 : ((args.length : Int) != (names.length : Int)) with
 | true =>
  have c2' : (args.length != names.length) = true := by
   rw [bne_iff_ne] at c2 ⊢; omega
  rw [c2'] at hR
  simp only [if_true] at hR
  simp only [go_sem, ← hR, List.map_nil, and_self]
 | false =>
 have hal : args.length = names.length := by
  have : ¬ (args.length : Int) ≠ names.length := by rw [← bne_iff_ne, c2]; simp
  omega
 have c2' : (args.length != names.length) = false := by rw [hal]; simp
 rw [c2'] at hR
 simp only [Bool.false_eq_true, if_false] at hR
 simp only [go_sem]
 intro _
 have hn1 : (∀ e ∈ names.map (fun k : Str => [D.str k]), e.length = 1) = True := eq_true (by simp)
 have hav := Val.lens args
 have hpl := putsF_len (names.zip args)
 have hzl : (names.zip args).length = names.length := by rw [List.length_zip, hal, Nat.min_self]
 refine loop_named fun KK hKK => ?_
 refine loop_list ts (fun done => ∀ y ∈ done, (metOne (tabK m (names.zip args)) (putsF (names.zip args)).2 y).2 = true) (fun done rest => ⟨[(40, .d (.int .i64 done.length)), (39, .d (.int .i64 ts.length)), (38, .d (.lst (ts.map Pred.cells))), (3, .ptr 3 0), (8, .d (.lst (names.map fun k => [.str k]))), (2, .d (.lst (args.map Val.cells))), (9, .own 9 1 ((done.map fun y => (metOne (tabK m (names.zip args)) (putsF (names.zip args)).2 y).1).map icell))],
  [(3, [.d (.lst (m.datas.map DataT.cells)), .d m.cls, .d m.ins, .d (.lst (m.meas.map Meas.cells)), .d m.quals, .d m.defs])], [(9, true)]⟩) ?_ (by simp) ?_ ?_
 ·exact Ent_conv 9 9 1 [] [(9, 9)] (by simp only [go_sem]) (by simp) rfl ⟨rfl, by simp only [go_sem, List.contains_nil], by simp only [go_sem, Option.isSome_some, List.map_nil], by simp only [go_sem, Option.isSome_some]⟩
 ·intro done t rest hl hInv
  have htt := ht t (mem_at hl)
  have hlt := lt_mid hl
  have hgk := getD_midP hl
  have hdl : done.length ≤ ts.length := by rw [hl]; simp
  have hw : IntKind.i64.wrap ((done.length : Int) + 1) = ((done.length + 1 : Nat) : Int) := wrap_succ (by omega)
  have hct4 : t.cells.length = 4 := Pred.cells_length t
  have hchk := hchk t
  simp only [fn_metric_Value_L2, go_sem, hgk, hlt, List.length_map, hct4]
  refine call_by hchk ?_
  simp only [go_sem]
  cases hq : (t.checkE != 0) with
  | true =>
   have hone : (metOne (tabK m (names.zip args)) (putsF (names.zip args)).2 t).2 = false := by unfold metOne; rw [hq]; rfl
   rw [hl, metS_bad hone] at hR
   simp only [go_sem, hKK, ← hR, List.map_nil, and_self]
  | false =>
   have hq0 : t.checkE = 0 := by simpa using hq
   have hfl0 := freeS_len t
   have hfree := hfree t (by have := pre_le t; omega)
   have hone : metOne (tabK m (names.zip args)) (putsF (names.zip args)).2 t = norm2 (evalK false (tabK m (names.zip args)) (putsF (names.zip args)).2 t) := by unfold metOne; rw [hq]; rfl
   have hvf := flat_eval (all := false) (K := tabK m (names.zip args)) (at0 := (putsF (names.zip args)).2) htt (st := ⟨freeS t ++ names, (putsF (names.zip args)).2⟩) (by simp only [List.length_append]; omega) (fun c hc => by
    obtain ⟨x, h3, h4⟩ := putsF_names _ c hc
    rw [← h4]
    exact List.mem_append_right _ (List.of_mem_zip (show (x.1, x.2) ∈ names.zip args from h3)).1) (fun x hx => List.mem_append_left _ (mem_freeSi.2 hx)) rfl hq0
   rw [← hone] at hvf
   generalize hmo : metOne (tabK m (names.zip args)) (putsF (names.zip args)).2 t = mo at *
   have hflt := hflat (names.zip args) t ⟨freeS t ++ names, (putsF (names.zip args)).2⟩ (by simp only [List.length_append]; omega)
   generalize freeS t = U at *
   have hlen3 : (flatP false (tabK m (names.zip args)) t ⟨U ++ names, (putsF (names.zip args)).2⟩).1.cells.length = 4 := Pred.cells_length _
   generalize flatP false (tabK m (names.zip args)) t ⟨U ++ names, (putsF (names.zip args)).2⟩ = F at *
   obtain ⟨Fp, Fs⟩ := F
   simp only at hflt hvf hlen3
   have hev := heval Fs.at' Fp
   unfold res2 at hev
   rw [hvf] at hev
   simp only [List.map_nil] at hev
   have hU1 : (∀ e ∈ U.map (fun k : Str => [D.str k]), e.length = 1) = True := eq_true (by simp)
   have o1 : (U.length + names.length) * 16 ≤ 2 ^ 46 := by omega
   have o2 : U.length + names.length ≤ 9223372036854775807 := by omega
   simp only [go_sem]
   refine ⟨?_, ?_⟩ <;> (
    refine call_by hfree ?_
    simp only [go_sem, hU1, hn1, o1, o2, List.length_map]
    intro _
    refine loop_named fun K hK => ?_
    refine loop_list names (fun _ => True) (fun dn rest => ⟨[(57, .d (.int .i64 dn.length)), (56, .d (.int .i64 names.length)), (55, .d (.lst (names.map fun k => [.str k]))), (12, .ptr 54 0), (2, .d (.lst (args.map Val.cells))),
      (9, .own 9 1 ((done.map fun y => (metOne (tabK m (names.zip args)) (putsF (names.zip args)).2 y).1).map icell)), (40, .d (.int .i64 done.length)), (39, .d (.int .i64 ts.length)), (38, .d (.lst (ts.map Pred.cells))), (3, .ptr 3 0), (8, .d (.lst (names.map fun k => [.str k]))), (11, .ptr 11 0)],
     [(54, [.d (.lst (m.datas.map DataT.cells)), .d m.cls, .d m.ins, .d (.lst (m.meas.map Meas.cells)), .d m.quals, .d m.defs, .mref 48, .own 52 1 ((U ++ names).map fun k => [.str k]), .own 54 2 ((putsF (dn.zip args)).2.map Coef.cells)]), (48, [.mp ty_str ty_agg (putsF (dn.zip args)).1]), (11, t.cells.map .d), (3, [.d (.lst (m.datas.map DataT.cells)), .d m.cls, .d m.ins, .d (.lst (m.meas.map Meas.cells)), .d m.quals, .d m.defs])], [(9, true), (52, true), (54, true)]⟩) ?_ trivial ?_ ?_
    ·refine Ent_convm 54 8 54 2 _ [] [(9, 9), (52, 52), (54, 54)] (by simp only [go_sem]; rfl) rfl (by simp) (by simp only [go_sem]) ?_
     simp only [Ent0, go_sem, List.zip_nil_left, putsF, List.foldl_nil, List.contains_cons, List.contains_nil, Option.isSome_some, Nat.reduceBEq, List.map_append]
    ·intro dn x r hdn _
     obtain ⟨ka, k, kr, hka, hkl⟩ := at_split (b := args) (n := dn.length) (by rw [hal, hdn]; simp)
     have hlt3 := lt_mid hdn
     have hlt4 : (dn.length : Int) < args.length := by rw [hal]; exact hlt3
     have hw3 : IntKind.i64.wrap ((dn.length : Int) + 1) = ((dn.length + 1 : Nat) : Int) := wrap_succ (by omega)
     have hgx : (names.map fun k : Str => [D.str k]).getD dn.length [] = [.str x] := by rw [hdn]; simp
     have hga := getD_atF (f := Val.cells) hka hkl
     rw [zip_atL (x := x) hka hkl.symm]
     have hpd := putsF_len (dn.zip args)
     have hdz : (dn.zip args).length ≤ dn.length := by rw [List.length_zip]; exact Nat.min_le_left _ _
     have hdk : dn.length ≤ names.length := by rw [hdn]; simp
     have hph := @puts_has (dn.zip args) x k
     have hpn := @puts_new (dn.zip args) x k
     have hget := putsF_get (dn.zip args) x
     generalize fieldZ (dn.zip args) x = fz at *
     generalize putsF (dn.zip args ++ [(x, k)]) = P1 at *
     generalize putsF (dn.zip args) = P0 at *
     obtain ⟨kv0, at0⟩ := P0
     obtain ⟨vo, vn, vs, vk, vp, vb, vd⟩ := k
     have hA := Coef.lens at0
     simp only [Val.op, Val.n] at hpn
     simp only [Val.cells_mk] at hga hpn
     have p1 : kv0.length < 9223372036854775807 := by simp only at hpd; omega
     have p2 : (at0.length + 1) * 24 ≤ 2 ^ 46 := by simp only at hpd; omega
     have p3 : at0.length ≤ 9223372036854775806 := by simp only at hpd; omega
     cases fz with
     | some v' =>
      have hat : ∀ z, mapAt kv0 (.str x) z = .agg v'.cells := fun z => by unfold mapAt; rw [hget]; rfl
      have hhas : mapHas kv0 (.str x) = true := by unfold mapHas; rw [hget]; rfl
      rw [hph hhas]
      obtain ⟨wo, wn, ws, wk, wp, wb, wd⟩ := v'
      simp only [Val.cells_mk] at hat
      simp only [fn_metric_Value_L1, go_sem, hgx, hga, hlt3, hlt4, hn1, List.length_map, hat, hhas, MV.av]
      simp only [go_sem, hw3, List.length_append]
      exact Ent_own [(9, 9), (52, 52), (54, 54)] (by simp only [go_sem, List.contains_cons, List.contains_nil, Option.isSome_some, Nat.reduceBEq])
     | none =>
      have hat : ∀ z, mapAt kv0 (.str x) z = z := fun z => by unfold mapAt; rw [hget]; rfl
      have hhas : mapHas kv0 (.str x) = false := by unfold mapHas; rw [hget]; rfl
      rw [hpn hhas]
      simp only [fn_metric_Value_L1, go_sem, hgx, hga, hlt3, hlt4, hn1, List.length_map, hat, hhas, MV.av, AV.toMV, p1]
      by_cases hvo : (vo == 1 || vo == 2) = true
      ·simp only [hvo, go_sem, p2, p3, hw3, List.length_append, List.mem_singleton, forall_eq, List.map_append]
       exact Ent_own [(9, 9), (52, 52), (54, 108)] (by simp only [go_sem, List.contains_cons, List.contains_nil, Option.isSome_some, Nat.reduceBEq, List.map_append, List.map_cons, List.map_nil, Coef.cells])
      ·have hvo : (vo == 1 || vo == 2) = false := by simpa using hvo
       simp only [hvo, go_sem, hw3, List.length_append, Bool.false_eq_true]
       exact Ent_own [(9, 9), (52, 52), (54, 54)] (by simp only [go_sem, List.contains_cons, List.contains_nil, Option.isSome_some, Nat.reduceBEq, List.map_append, Bool.false_eq_true])
    ·intro _
     have hct5 : (t.cells.map AV.d).length = 4 := by rw [List.length_map]; exact hct4
     simp (maxSteps := 1000000) only [fn_metric_Value_L1, go_sem]
     rw [hK]
     clear hK
     simp only [blockK_exit, if_true, seqK_normal]
     refine seq_named fun N hN => ?_
     simp only [go_sem, hct5, hct4, List.length_map]
     refine ⟨{ σ := [(1000, 54), (1001, 48)], τ := [(2000, 52), (2001, 54)], τ1 := [(2000, 3000), (2001, 3001)], as0 := [.ptr 1000 0, .agg (t.cells.map .d)], m0 := bxM m (putsF (names.zip args)).1 ⟨U ++ names, (putsF (names.zip args)).2⟩, m1 := bxM m (putsF (names.zip args)).1 Fs, r := .agg Fp.cells }, ⟨rfl, ?_, hflt⟩, ?_⟩
     ·simp only [okB, go_sem, bxM, List.contains_cons, List.contains_nil, Nat.reduceBEq, List.mem_cons, List.not_mem_nil, or_false, forall_eq_or_imp, forall_eq, List.all_cons, List.all_nil]
     ·simp only [go_sem, bxM, Option.getD_some, hlen3, List.length_map]
      rw [hN]
      clear hN
      simp only [go_sem, hlen3, List.length_map]
      refine call_by hev ?_
      simp only [go_sem]
      by_cases hb : mo.2 = true
      ·have q1 : (done.length + 1) * 8 ≤ 2 ^ 46 := by omega
       have q2 : done.length ≤ 9223372036854775806 := by omega
       simp only [hb, go_sem, Bool.false_eq_true, hw, List.length_append, List.length_map, q1, q2, List.mem_singleton, forall_eq]
       refine ⟨Ent_own [(9, 129)] ?_, app_all hInv (by rw [hmo]; exact hb)⟩
       simp only [go_sem, List.contains_cons, List.contains_nil, Option.isSome_some, Nat.reduceBEq, List.map_append, List.map_cons, List.map_nil, hmo, icell]
      ·have hb : mo.2 = false := by simpa using hb
       rw [hl, metS_bad (by rw [hmo]; exact hb)] at hR
       simp only [hb, go_sem, hKK, ← hR, List.map_nil, and_self])
 ·intro hInv
  simp only [fn_metric_Value_L2, go_sem, hKK]
  rw [metS_all hInv] at hR
  simp only [← hR, and_self]
end Go.Abs
end
section
set_option linter.unusedSimpArgs false
set_option linter.unusedVariables false
set_option linter.unusedSectionVars false
namespace Go.Abs
theorem ix_field {names : List Str} {args : List Val} (hl : names.length = args.length) {x : Str} (hx : x ∈ names) : ∃ na nr ka k kr, names = na ++ x :: nr ∧ args = ka ++ k :: kr ∧ na.length = ka.length ∧ findIx x 0 names = na.length ∧ fieldZ (names.zip args) x = some k := by
 induction names generalizing args with
 | nil => cases hx
 | cons y names ih =>
  cases args with
  | nil => simp at hl
  | cons a args =>
   by_cases hy : y = x
   ·subst hy
    refine ⟨[], names, [], a, args, rfl, rfl, rfl, ?_, ?_⟩
    ·rw [findIx]; simp
    ·unfold fieldZ; simp
   ·obtain ⟨na, nr, ka, k, kr, h1, h2, h3, h4, h5⟩ := ih (args := args) (by simpa using hl) (by rcases List.mem_cons.1 hx with h | h; exact absurd h.symm hy; exact h)
    have hna : x ∉ na := by
     intro hm
     have := findIx_here x na nr
     rw [← h1, h4] at this
     rw [List.contains_iff_mem.2 hm] at this
     simp at this
    refine ⟨y :: na, nr, a :: ka, k, kr, by rw [h1]; rfl, by rw [h2]; rfl, by simp [h3], ?_, ?_⟩
    ·have := findIx_app x (y :: na) 0 (x :: nr) (by simp only [List.mem_cons, not_or]; exact ⟨fun e => hy e.symm, hna⟩)
     rw [h1, ← List.cons_append, this, findIx]
     simp
    ·unfold fieldZ at h5 ⊢
     rw [List.zip_cons_cons, List.find?_cons]
     have : (y == x) = false := by simpa using hy
     simp only [this]
     exact h5
theorem field_none {names : List Str} {args : List Val} {x : Str} (hx : x ∉ names) : fieldZ (names.zip args) x = none := by
 unfold fieldZ
 rw [Option.map_eq_none_iff, List.find?_eq_none]
 intro q hq e
 have := (List.of_mem_zip (show (q.1, q.2) ∈ names.zip args from hq)).1
 rw [show q.1 = x by simpa using e] at this
 exact hx this
set_option maxRecDepth 100000
variable {E : AEnv} (Z : Sys E)
include Z
theorem r41_index_ev (l : List Str) (s : Str) : E.C r41_index [.one (.lst (l.map fun k => [.str k])), .one (.str s)] (.one (.int .i64 (findIx s 0 l))) := by
 refine Z.r41_index _ _ ⟨Nat.le_of_ble_eq_true rfl, ?_⟩
 have hls : (∀ e ∈ l.map fun k : Str => [D.str k], e.length = 1) = True := eq_true (by simp)
 simp only [fn_r41_index, go_sem]
 refine loop_list l (fun done => s ∉ done) (fun done rest => ⟨[(5, .d (.int .i64 done.length)), (0, .d (.lst (l.map fun k => [.str k]))), (1, .d (.str s))], [], []⟩) ?_ (by simp) ?_ ?_
 ·exact Ent_plain (by simp only [go_sem])
 ·intro done k r hl hI
  have hlt := lt_mid hl
  have hx : (l.map fun k : Str => [D.str k]).getD done.length [] = [.str k] := by rw [hl]; exact getD_mid _ _ _ _ _
  simp only [fn_r41_index_L1, go_sem, hlt, List.length_map]
  intro _
  have hw : IntKind.i64.wrap ((done.length : Int) + 1) = ((done.length + 1 : Nat) : Int) := wrap_succ (by omega)
  simp only [go_sem, hlt, hx, hls, List.length_map]
  cases h1 : (k == s) with
  | true =>
   simp only [go_sem]
   have h1 : k = s := by simpa using h1
   rw [hl, findIx_app s done 0 _ hI, findIx, if_pos h1, Nat.zero_add]
  | false =>
   simp only [go_sem, hw, List.length_append]
   refine ⟨Ent_plain (by simp only [go_sem]), ?_⟩
   have h1 : k ≠ s := by simpa using h1
   simp only [List.mem_append, List.mem_singleton, not_or]
   exact ⟨hI, fun e => h1 e.symm⟩
 ·intro hI
  simp only [fn_r41_index_L1, go_sem, List.length_map]
  intro _
  simp only [go_sem, findIx_none s l 0 hI]
set_option maxHeartbeats 4000000 in
theorem r41_measured_ev (m : Mod) (names : List Str) (args : List Val) (hal : names.length = args.length) (p : Pred) (hp : p.cnt ≤ 1048576) :
  E.C r41_measured [.agg m.cells, .agg p.cells, .one (.lst (names.map fun k => [.str k])), .one (.lst (args.map Val.cells))] (.tup [.agg (measR (tabK m (names.zip args)) p).1.cells, .one (.bool (measR (tabK m (names.zip args)) p).2)]) := by
 induction p using Pred.ind with
 | h o s n ks ih =>
 have hix := fun x => r41_index_ev Z names x
 have hval := fun v => r34_Value_ev Z m v s
 refine Z.r41_measured _ _ ⟨Nat.le_of_ble_eq_true rfl, ?_⟩
 generalize hR : measR (tabK m (names.zip args)) (.mk o s n ks) = R
 rw [measR_eq] at hR
 rw [Pred.cnt] at hp
 rw [Pred.cells_eq (.mk o s n ks)]
 have hav := Val.lens args
 simp only [fn_r41_measured, Mod.cells, Pred.op, Pred.name, Pred.n, Pred.kids]
 refine seq2_named fun N hN => ?_
 have tail : isCut false (tabK m (names.zip args)) o s ks = none → ∀ st' : St, getS st'.slots 2 = .d (.lst (names.map fun k => [.str k])) → getS st'.slots 3 = .d (.lst (args.map Val.cells)) → getS st'.slots 4 = .ptr 4 0 → getS st'.slots 5 = .ptr 5 0 → getS st'.slots 8 = .ptr 8 0 →
   getM st'.mem 4 = some [.d (.lst (m.datas.map DataT.cells)), .d m.cls, .d m.ins, .d (.lst (m.meas.map Meas.cells)), .d m.quals, .d m.defs] → getM st'.mem 5 = some [.d (.int .i64 o), .d (.str s), .d (.int .i64 n), .d (.lst (ks.map Pred.cells))] → getM st'.mem 8 = some [.d (.int .i64 0), .d (.str []), .d (.int .i64 0), .full []] → getM st'.mem 12 = none → st'.tk = [] → N st' := by
  intro hcut st' e2 e3 e4 e5 e8 m4 m5 m8 m12 et
  rw [hcut] at hR
  simp only at hR
  subst hN
  simp only [go_sem, e2, e3, e4, e5, e8, m4, m5, m8, m12, et]
  refine loop_named fun K hK => ?_
  refine loop_list ks (fun done => ∀ y ∈ done, (measR (tabK m (names.zip args)) y).2 = true) (fun done rest => ⟨[(13, .d (.int .i64 done.length)), (2, .d (.lst (names.map fun k => [.str k]))), (3, .d (.lst (args.map Val.cells))), (4, .ptr 4 0), (5, .ptr 5 0), (8, .ptr 8 0), (12, .ptr 12 0)],
   [(12, [.d (.int .i64 o), .d (.str s), .d (.int .i64 n), .own 12 4 ((done.map fun y => (measR (tabK m (names.zip args)) y).1).map Pred.cells)]), (4, [.d (.lst (m.datas.map DataT.cells)), .d m.cls, .d m.ins, .d (.lst (m.meas.map Meas.cells)), .d m.quals, .d m.defs]), (5, [.d (.int .i64 o), .d (.str s), .d (.int .i64 n), .d (.lst (ks.map Pred.cells))]), (8, [.d (.int .i64 0), .d (.str []), .d (.int .i64 0), .full []])], [(12, true)]⟩) ?_ (by simp) ?_ ?_
  ·refine Ent_convm 12 3 12 4 _ [] [(12, 12)] (by simp only [go_sem]; rfl) rfl (by simp) (by simp only [go_sem, et]) ?_
   simp only [Ent0, go_sem, e2, e3, e4, e5, e8, m4, m5, m8, et, List.contains_cons, List.contains_nil, Option.isSome_some, Nat.reduceBEq, List.map_nil]
  ·intro done k r hl hI
   have hlt := lt_mid hl
   have hgk := getD_midP hl
   have hcn : Pred.cnts ks = Pred.cnts done + (k.cnt + Pred.cnts r) := by rw [hl, cnts_app, Pred.cnts]
   have hk' := ih k (by rw [hl]; simp) (by omega)
   have hlc : done.length ≤ Pred.cnts done := by
    have : ∀ a : List Pred, a.length ≤ Pred.cnts a := by
     intro a
     induction a with
     | nil => exact Nat.zero_le _
     | cons x a iha =>
      rw [Pred.cnts, List.length_cons]
      have : 1 ≤ x.cnt := by obtain ⟨_, _, _, _⟩ := x; rw [Pred.cnt]; omega
      omega
    exact this done
   have o1 : (done.length + 1) * 56 ≤ 2 ^ 46 := by omega
   have o2 : done.length ≤ 9223372036854775806 := by omega
   have ht2 := fun l : List Pred => Pred.lens_true l
   simp only [fn_r41_measured_L1, go_sem, hgk, hlt, List.length_map]
   intro _
   have hw : IntKind.i64.wrap ((done.length : Int) + 1) = ((done.length + 1 : Nat) : Int) := wrap_succ (by omega)
   refine call_by hk' ?_
   have hc4 := Pred.cells_length (measR (tabK m (names.zip args)) k).1
   simp only [go_sem, List.length_map, hc4]
   by_cases hb : (measR (tabK m (names.zip args)) k).2 = true
   ·simp only [hb, go_sem, Bool.false_eq_true, hw, List.length_append, List.length_map, o1, o2, hc4, List.mem_singleton, forall_eq]
    refine ⟨Ent_own [(12, 96)] ?_, app_all hI hb⟩
    simp only [go_sem, List.contains_cons, List.contains_nil, Option.isSome_some, Nat.reduceBEq, List.map_append, List.map_cons, List.map_nil]
   ·have hb : (measR (tabK m (names.zip args)) k).2 = false := by simpa using hb
    rw [all_false (f := fun k => (measR (tabK m (names.zip args)) k).2) (mem_at hl) hb] at hR
    have hz : zeroP.cells = [.int .i64 0, .str [], .int .i64 0, .lst []] := zeroP_cells
    simp only [hb, go_sem, hK, ← hR, Bool.false_eq_true, if_false, hz, and_self]
  ·intro hI
   rw [List.all_eq_true.2 hI] at hR
   simp only [if_true] at hR
   simp only [fn_r41_measured_L1, go_sem, List.length_map]
   intro _
   simp only [go_sem, hK, ← hR, Pred.cells_eq (.mk o s n (ks.map fun k => (measR (tabK m (names.zip args)) k).1)), Pred.op, Pred.name, Pred.n, Pred.kids, and_self]
 by_cases h4 : o = 4
 ·subst h4
  rcases ks with _ | ⟨q, _ | ⟨q2, r⟩⟩
  ·clear hN hR
   simp only [go_sem, Int.reduceBEq, false_implies]
   refine call_skip ?_
   simp only [go_sem]
   refine tail rfl _ ?_ ?_ ?_ ?_ ?_ ?_ ?_ ?_ ?_ rfl <;> simp only [go_sem]
  ·obtain ⟨q1, q2, q3, q4⟩ := q
   have l1 : (∀ e ∈ [[D.int .i64 q1, D.str q2, D.int .i64 q3, D.lst (List.map Pred.cells q4)]], e.length = 4) = True := eq_true (by simp)
   cases c5 : (q1 == 3) with
   | false =>
    have hcut : isCut false (tabK m (names.zip args)) 4 s [Pred.mk q1 q2 q3 q4] = none := by
     unfold isCut appVar
     simp only [c5, Bool.false_eq_true, if_false]
     rfl
    clear hN hR
    simp only [go_sem, Int.reduceBEq, false_implies, Pred.cells_eq (.mk q1 q2 q3 q4), Pred.op, Pred.name, Pred.n, Pred.kids, l1, c5]
    refine call_skip ?_
    simp only [go_sem]
    refine tail hcut _ ?_ ?_ ?_ ?_ ?_ ?_ ?_ ?_ ?_ rfl <;> simp only [go_sem, Pred.cells_eq (.mk q1 q2 q3 q4), Pred.op, Pred.name, Pred.n, Pred.kids]
   | true =>
    have c5' : q1 = 3 := by simpa using c5
    subst c5'
    have hav4 : appVar 4 [Pred.mk 3 q2 q3 q4] = some q2 := rfl
    by_cases hx : q2 ∈ names
    ·obtain ⟨na, nr, ka, k, kr, h1, h2, h3, h6, h5⟩ := ix_field hal hx
     have hk : tabK m (names.zip args) q2 s = some (k.value m s) := by unfold tabK; rw [h5]; rfl
     have hcut : isCut false (tabK m (names.zip args)) 4 s [Pred.mk 3 q2 q3 q4] = some q2 := by
      unfold isCut
      rw [hav4]
      simp only [hk]
      rfl
     rw [hcut] at hR
     simp only [hk] at hR
     have hval := hval k
     unfold res2 at hval
     generalize k.value m s = w at *
     obtain ⟨w1, w2⟩ := w
     have hga := getD_atF (f := Val.cells) h2 h3.symm
     have hlt3 : (na.length : Int) < args.length := by rw [h3]; exact lt_mid h2
     have hge : ((na.length : Int) ≥ 0) = True := eq_true (by omega)
     have hix := hix q2
     rw [h6] at hix
     obtain ⟨vo, vn, vs, vk, vp, vb, vd⟩ := k
     simp only [Val.cells_mk] at hval hga
     have hpn : (pn w1).cells = [.int .i64 1, .str [], .int .i64 w1, .lst []] := by unfold pn; rw [Pred.cells_eq]; rfl
     clear tail hN
     simp only [go_sem, Int.reduceBEq, false_implies, Pred.cells_eq (.mk 3 q2 q3 q4), Pred.op, Pred.name, Pred.n, Pred.kids, l1]
     refine call_by hix ?_
     simp only [go_sem, hge, decide_true, l1]
     refine call_by hix ?_
     simp only [go_sem, hga, hlt3, List.length_map, hav]
     refine call_by hval ?_
     simp only [go_sem, ← hR, hpn, and_self]
    ·have hneg := findIx_none q2 names 0 hx
     have hk : tabK m (names.zip args) q2 s = none := by unfold tabK; rw [field_none hx]; rfl
     have hcut : isCut false (tabK m (names.zip args)) 4 s [Pred.mk 3 q2 q3 q4] = none := by
      unfold isCut
      rw [hav4]
      simp only [hk]
      rfl
     have hix := hix q2
     rw [hneg] at hix
     have hm1 : ((-1 : Int) ≥ 0) = False := eq_false (by omega)
     clear hN hR
     simp only [go_sem, Int.reduceBEq, false_implies, Pred.cells_eq (.mk 3 q2 q3 q4), Pred.op, Pred.name, Pred.n, Pred.kids, l1]
     refine call_by hix ?_
     simp only [go_sem, hm1, decide_false]
     refine tail hcut _ ?_ ?_ ?_ ?_ ?_ ?_ ?_ ?_ ?_ rfl <;> simp only [go_sem, Pred.cells_eq (.mk 3 q2 q3 q4), Pred.op, Pred.name, Pred.n, Pred.kids]
  ·obtain ⟨q1, qs, q3, q4⟩ := q
   have e2 : (((r.length + 1 + 1 : Nat) : Int) == 1) = false := by rw [beq_eq_false_iff_ne]; omega
   clear hN hR
   simp only [go_sem, Int.reduceBEq, false_implies, e2, Pred.cells_eq (.mk q1 qs q3 q4), Pred.op, Pred.name, Pred.n, Pred.kids]
   intro _
   refine call_skip ?_
   simp only [go_sem]
   refine tail rfl _ ?_ ?_ ?_ ?_ ?_ ?_ ?_ ?_ ?_ rfl <;> simp only [go_sem, Pred.cells_eq (.mk q1 qs q3 q4), Pred.op, Pred.name, Pred.n, Pred.kids]
 ·have h4' : (o == 4) = false := by simpa using h4
  have hcut : isCut false (tabK m (names.zip args)) o s ks = none := by
   unfold isCut appVar
   simp only [h4', Bool.false_eq_true, if_false]
  clear hN hR
  rcases ks with _ | ⟨⟨q1, qs, q3, q4⟩, r⟩
  ·simp only [go_sem, h4', false_implies]
   refine call_skip ?_
   simp only [go_sem]
   refine tail hcut _ ?_ ?_ ?_ ?_ ?_ ?_ ?_ ?_ ?_ rfl <;> simp only [go_sem]
  ·simp only [go_sem, h4', false_implies, Pred.cells_eq (.mk q1 qs q3 q4), Pred.op, Pred.name, Pred.n, Pred.kids]
   refine call_skip ?_
   simp only [go_sem]
   refine tail hcut _ ?_ ?_ ?_ ?_ ?_ ?_ ?_ ?_ ?_ rfl <;> simp only [go_sem, Pred.cells_eq (.mk q1 qs q3 q4), Pred.op, Pred.name, Pred.n, Pred.kids]
end Go.Abs
end
