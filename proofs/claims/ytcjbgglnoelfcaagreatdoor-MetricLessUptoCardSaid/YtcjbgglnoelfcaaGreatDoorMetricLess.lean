/-
  MetricLess: the law of layer 41 returns true for all lists of predicates, up to the size that the row states.
-/
import Derived.Test.YtcjbgglnoelfcaaGreatDoorDo1
section
set_option linter.unusedSimpArgs false
set_option linter.unusedVariables false
set_option linter.unusedSectionVars false
set_option maxRecDepth 100000
namespace Go.Abs.Seat.MetricLess
open Go Go.Abs Go.Proofs Go.Proofs.YtcjbgglnoelfcaaGreatDoor Go.RowKit Go.ChangeShapes
theorem standIn : ∀ t ∈ (#[22, 22] : Array TypeId).toList, Tryz.pinned.checked.prog.wantsStandIn t = false := of_decide_eq_true (by kernel_rfl)
theorem readable : ∀ t ∈ (#[22, 22] : Array TypeId).toList, Tryz.prog.readableRec t = true ∧ t < Tryz.prog.types.size := of_decide_eq_true (by kernel_rfl)
theorem size : Tryz.f3.params.size = 2 := by rw [Tryz.params3]; rfl
theorem res : Tryz.f3.resultTypes = #[4] := by kernel_rfl
theorem fits (H : Type) : ∀ l : List (DataW H), l.length = Tryz.f3.params.size → (Rows.metricLessSpec.fn H l).results = [.lit (.bool true)] ∧ (Rows.metricLessSpec.fn H l).args = l ∧ (Rows.metricLessSpec.fn H l).vars = [] := by
 intro l hl
 rw [size] at hl
 obtain ⟨a0, a1, rfl⟩ : ∃ a0 a1, l = [a0, a1] := by
  match l, hl with
  | [a0, a1], _ => exact ⟨a0, a1, rfl⟩
 exact ⟨rfl, rfl, rfl⟩
theorem contract (H : Type) (enc : TypeId × Value → H) (W : World) (base : Nat) (args : Array Value) (ds gs : List (DataW H)) (before : List MemPlace)
  (hval : ∀ (j : Nat) t v, Tryz.f3.params[j]? = some t → args[j]? = some v → Value.okWide Tryz.prog W .any base t v)
  (hW : DataW.Whole enc Tryz.prog Tryz.f3.params.toList Rows.metricLessSpec.vars false W args.toList ds gs before) (hL : laidMetH Tryz.prog Rows.metricLessRow.laid W) (hS : W.ShapedOpen Tryz.prog) (hsz : Rows.uptoSmall H (ds ++ gs) = true) :
  Calls Tryz.prog 3 args W fun e W' => ∃ v, e = .returned v ∧ Rows.metricLessSpec.post enc Tryz.prog Tryz.f3 false true false false W args v W' := by
 obtain ⟨p, q, hA0, hV, hpq, hfz, hnd⟩ := id hW
 have hA : DataW.TrodAll enc Tryz.prog W 0 (fun _ => true) true Tryz.f3.params.toList args.toList ds p := hA0
 rw [Tryz.params3] at hA hval
 obtain ⟨v0, vs0, d0, ds0, p0, q0, hargs, rfl, rfl, ⟨n0, h0⟩, r0⟩ := trodAll_cons hA
 obtain ⟨v1, vs1, d1, ds1, p1, q1, rfl, rfl, rfl, ⟨n1, h1⟩, r1⟩ := trodAll_cons r0
 obtain ⟨rfl, rfl, rfl⟩ := trodAll_nil r1
 obtain rfl : args = #[v0, v1] := by cases args; simp_all
 obtain ⟨x0, y0, s0⟩ := rep_one Tryz.underlying22 (.inr (.inr (.inr ⟨_, rfl⟩))) (hval 0 22 v0 rfl rfl) (rd_preds n0) h0
 obtain ⟨x1, y1, s1⟩ := rep_one Tryz.underlying22 (.inr (.inr (.inr ⟨_, rfl⟩))) (hval 1 22 v1 rfl rfl) (rd_preds n1) h1
 have walk : Calls Tryz.prog 3 #[v0, v1] W fun e w' => e = .returned (.bool true) ∧ Below W.heap.size W w' := door_calls (MetricLess_ev law41G x0 x1 (each_tame s0 hsz (by simp)) (each_tame s1 hsz (by simp)) (small_len s0 hsz (by simp))) (glob1 hS hL) (repCL_cons y0 (repCL_cons y1 (rfl)))
 exact walk.mono fun e W' h => ⟨_, h.1, post_same hW rfl (fits H) h.2 laidOut (by rw [Tryz.params3]; exact readable) Tryz.underlying4 res⟩
theorem reads (os : Os) {H : Type} (enc : TypeId × Value → H) : ∃ places, DataW.whole enc Tryz.prog ((laidWorld os).forCall (fun _ _ => 0) ⟨#[], #[.slice none 0 0, .slice none 0 0], []⟩).memory Tryz.f3.params.toList Rows.metricLessSpec.vars false (#[.slice none 0 0, .slice none 0 0] : Array Value).toList 8 = some ([.nil, .nil], [], places) :=
 ⟨[], by kernel_rfl⟩
theorem laid_met (os : Os) : laidMet Tryz.prog Rows.metricLessRow.laid ((laidWorld os).forCall (fun _ _ => 0) ⟨#[], #[.slice none 0 0, .slice none 0 0], []⟩).memory :=
 laidMet_of_run' 8 (by kernel_rfl) (by kernel_rfl)
theorem lifted (os : Os) (started : os.Started) (H : Type) (enc : TypeId × Value → H) (F : Stop.Interp) :
  ReturnsInHanded {} Tryz.checked os 3 .any ((Rows.OpenSpec.upto Rows.metricLessSpec).preRow enc Tryz.prog Tryz.f3 Rows.metricLessUptoRow.domain false Rows.metricLessUptoRow.laid) (((Rows.OpenSpec.upto Rows.metricLessSpec).at F).post enc Tryz.prog Tryz.f3 false true false false) := by
 obtain ⟨places, hx⟩ := reads os enc
 refine returnsInHanded_of_row (C := Tryz.checked) (s := Rows.OpenSpec.upto Rows.metricLessSpec) own started (by kernel_rfl) Tryz.func3
  (witness_row_at (enc := enc) (C := Tryz.checked) false (laidWorld os) #[.slice none 0 0, .slice none 0 0] rfl (by kernel_rfl) (by kernel_rfl) (by kernel_rfl)
   (OpenSpec.preRow_of_cond 8 hx (by kernel_rfl) (fun k hk => by cases hk; kernel_rfl) (by kernel_rfl) (laid_met os))) ?_
 intro W base args ds gs before hval hW _ hc _ hL hS _
 exact contract H enc W base args ds gs before hval hW hL hS (hc _ rfl)
theorem said : Rows.MetricLessUptoSaid :=
 OpenClaim.holds_of_cond 3 Tryz.f3 rfl rfl rfl rfl rfl rfl rfl ⟨rfl, rfl, rfl, rfl, rfl⟩ rfl rfl rfl rfl rfl (by kernel_rfl) Tryz.func3 (by kernel_rfl)
  (of_decide_eq_true (by kernel_rfl)) (by unfold Func.isWrapper; first | (rw [if_pos (by decide +kernel)]; kernel_rfl) | (rw [if_neg (by decide +kernel)]; exact ⟨rfl, rfl⟩))
  (fun os started H enc _ F => by rw [OpenClaim.pre_eq_preRow]; exact lifted os started H enc F)
theorem plain (f : FuncId) (fn : Func) (hf : Tryz.pinned.checked.prog.funcNamed "liquidcheck/liquidchecklaw41.MetricLess" = some f) (hfn : Tryz.pinned.checked.prog.funcs[f]? = some fn) :
  false = Tryz.pinned.checked.prog.looks [] ∧ ∀ (j : Nat) t, fn.params[j]? = some t → Tryz.pinned.checked.prog.wantsStandIn t = false := by
 obtain rfl : f = 3 := Option.some.inj ((show Tryz.prog.funcNamed "liquidcheck/liquidchecklaw41.MetricLess" = some 3 by kernel_rfl).symm.trans hf) |>.symm
 obtain rfl : fn = Tryz.f3 := (Option.some.inj (Tryz.func3.symm.trans hfn)).symm
 refine ⟨by kernel_rfl, fun j t ht => ?_⟩
 rw [Tryz.params3] at ht
 exact standIn t (Array.mem_toList_iff.2 (Array.mem_of_getElem? ht))
theorem card : Rows.MetricLessUptoCardSaid :=
 Claim7.holds_tied_plain_at .later [] _ _ _ _ said (fun _ h => by cases h) (by kernel_rfl) (fun _ h => by cases h) metricLessUpto_row_tie rfl ⟨rfl, rfl⟩ (by kernel_rfl) rfl plain (by kernel_rfl)
end Go.Abs.Seat.MetricLess
end
namespace Go.Proofs.YtcjbgglnoelfcaaGreatDoor
/-- MetricLess: the law of layer 41 returns true for all lists of predicates, up to the size that the row states. -/
theorem metricLess_holds : Rows.MetricLessUptoCardSaid := Go.Abs.Seat.MetricLess.card
end Go.Proofs.YtcjbgglnoelfcaaGreatDoor
