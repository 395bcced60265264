/-
  MetricMeans: the law of layer 41 returns true for all lists of predicates and points, up to the size that the row states.
-/
import Derived.Test.YtcjbgglnoelfcaaGreatDoorDo1
section
set_option linter.unusedSimpArgs false
set_option linter.unusedVariables false
set_option linter.unusedSectionVars false
set_option maxRecDepth 100000
namespace Go.Abs.Seat.MetricMeans
open Go Go.Abs Go.Proofs Go.Proofs.YtcjbgglnoelfcaaGreatDoor Go.RowKit Go.ChangeShapes
theorem standIn : ∀ t ∈ (#[22, 22, 83] : Array TypeId).toList, Tryz.pinned.checked.prog.wantsStandIn t = false := of_decide_eq_true (by kernel_rfl)
theorem readable : ∀ t ∈ (#[22, 22, 83] : Array TypeId).toList, Tryz.prog.readableRec t = true ∧ t < Tryz.prog.types.size := of_decide_eq_true (by kernel_rfl)
theorem size : Tryz.f9.params.size = 3 := by rw [Tryz.params9]; rfl
theorem res : Tryz.f9.resultTypes = #[4] := by kernel_rfl
theorem fits (H : Type) : ∀ l : List (DataW H), l.length = Tryz.f9.params.size → (Rows.metricMeansSpec.fn H l).results = [.lit (.bool true)] ∧ (Rows.metricMeansSpec.fn H l).args = l ∧ (Rows.metricMeansSpec.fn H l).vars = [] := by
 intro l hl
 rw [size] at hl
 obtain ⟨a0, a1, a2, rfl⟩ : ∃ a0 a1 a2, l = [a0, a1, a2] := by
  match l, hl with
  | [a0, a1, a2], _ => exact ⟨a0, a1, a2, rfl⟩
 exact ⟨rfl, rfl, rfl⟩
theorem contract (H : Type) (enc : TypeId × Value → H) (W : World) (base : Nat) (args : Array Value) (ds gs : List (DataW H)) (before : List MemPlace)
  (hval : ∀ (j : Nat) t v, Tryz.f9.params[j]? = some t → args[j]? = some v → Value.okWide Tryz.prog W .any base t v)
  (hW : DataW.Whole enc Tryz.prog Tryz.f9.params.toList Rows.metricMeansSpec.vars false W args.toList ds gs before) (hL : laidMetH Tryz.prog Rows.metricMeansRow.laid W) (hS : W.ShapedOpen Tryz.prog) (hsz : Rows.uptoSmall H (ds ++ gs) = true) :
  Calls Tryz.prog 9 args W fun e W' => ∃ v, e = .returned v ∧ Rows.metricMeansSpec.post enc Tryz.prog Tryz.f9 false true false false W args v W' := by
 obtain ⟨p, q, hA0, hV, hpq, hfz, hnd⟩ := id hW
 have hA : DataW.TrodAll enc Tryz.prog W 0 (fun _ => true) true Tryz.f9.params.toList args.toList ds p := hA0
 rw [Tryz.params9] at hA hval
 obtain ⟨v0, vs0, d0, ds0, p0, q0, hargs, rfl, rfl, ⟨n0, h0⟩, r0⟩ := trodAll_cons hA
 obtain ⟨v1, vs1, d1, ds1, p1, q1, rfl, rfl, rfl, ⟨n1, h1⟩, r1⟩ := trodAll_cons r0
 obtain ⟨v2, vs2, d2, ds2, p2, q2, rfl, rfl, rfl, ⟨n2, h2⟩, r2⟩ := trodAll_cons r1
 obtain ⟨rfl, rfl, rfl⟩ := trodAll_nil r2
 obtain rfl : args = #[v0, v1, v2] := by cases args; simp_all
 obtain ⟨x0, y0, s0⟩ := rep_one Tryz.underlying22 (.inr (.inr (.inr ⟨_, rfl⟩))) (hval 0 22 v0 rfl rfl) (rd_preds n0) h0
 obtain ⟨x1, y1, s1⟩ := rep_one Tryz.underlying22 (.inr (.inr (.inr ⟨_, rfl⟩))) (hval 1 22 v1 rfl rfl) (rd_preds n1) h1
 obtain ⟨x2, y2, s2⟩ := rep_one Tryz.underlying83 (.inr (.inr (.inr ⟨_, rfl⟩))) (hval 2 83 v2 rfl rfl) (rd_point n2) h2
 have walk : Calls Tryz.prog 9 #[v0, v1, v2] W fun e w' => e = .returned (.bool true) ∧ Below W.heap.size W w' := door_calls (MetricMeans_ev law41G x0 x1 x2 (each_tame s0 hsz (by simp)) (each_tame s1 hsz (by simp)) (small_len s0 hsz (by simp)) (small_len s1 hsz (by simp))) (glob1 hS hL) (repCL_cons y0 (repCL_cons y1 (repCL_cons y2 (rfl))))
 exact walk.mono fun e W' h => ⟨_, h.1, post_same hW rfl (fits H) h.2 laidOut (by rw [Tryz.params9]; exact readable) Tryz.underlying4 res⟩
theorem reads (os : Os) {H : Type} (enc : TypeId × Value → H) : ∃ places, DataW.whole enc Tryz.prog ((laidWorld os).forCall (fun _ _ => 0) ⟨#[], #[.slice none 0 0, .slice none 0 0, .slice none 0 0], []⟩).memory Tryz.f9.params.toList Rows.metricMeansSpec.vars false (#[.slice none 0 0, .slice none 0 0, .slice none 0 0] : Array Value).toList 8 = some ([.nil, .nil, .nil], [], places) :=
 ⟨[], by kernel_rfl⟩
theorem laid_met (os : Os) : laidMet Tryz.prog Rows.metricMeansRow.laid ((laidWorld os).forCall (fun _ _ => 0) ⟨#[], #[.slice none 0 0, .slice none 0 0, .slice none 0 0], []⟩).memory :=
 laidMet_of_run' 8 (by kernel_rfl) (by kernel_rfl)
theorem lifted (os : Os) (started : os.Started) (H : Type) (enc : TypeId × Value → H) (F : Stop.Interp) :
  ReturnsInHanded {} Tryz.checked os 9 .any ((Rows.OpenSpec.upto Rows.metricMeansSpec).preRow enc Tryz.prog Tryz.f9 Rows.metricMeansUptoRow.domain false Rows.metricMeansUptoRow.laid) (((Rows.OpenSpec.upto Rows.metricMeansSpec).at F).post enc Tryz.prog Tryz.f9 false true false false) := by
 obtain ⟨places, hx⟩ := reads os enc
 refine returnsInHanded_of_row (C := Tryz.checked) (s := Rows.OpenSpec.upto Rows.metricMeansSpec) own started (by kernel_rfl) Tryz.func9
  (witness_row_at (enc := enc) (C := Tryz.checked) false (laidWorld os) #[.slice none 0 0, .slice none 0 0, .slice none 0 0] rfl (by kernel_rfl) (by kernel_rfl) (by kernel_rfl)
   (OpenSpec.preRow_of_cond 8 hx (by kernel_rfl) (fun k hk => by cases hk; kernel_rfl) (by kernel_rfl) (laid_met os))) ?_
 intro W base args ds gs before hval hW _ hc _ hL hS _
 exact contract H enc W base args ds gs before hval hW hL hS (hc _ rfl)
theorem said : Rows.MetricMeansUptoSaid :=
 OpenClaim.holds_of_cond 9 Tryz.f9 rfl rfl rfl rfl rfl rfl rfl ⟨rfl, rfl, rfl, rfl, rfl⟩ rfl rfl rfl rfl rfl (by kernel_rfl) Tryz.func9 (by kernel_rfl)
  (of_decide_eq_true (by kernel_rfl)) (by unfold Func.isWrapper; first | (rw [if_pos (by decide +kernel)]; kernel_rfl) | (rw [if_neg (by decide +kernel)]; exact ⟨rfl, rfl⟩))
  (fun os started H enc _ F => by rw [OpenClaim.pre_eq_preRow]; exact lifted os started H enc F)
theorem plain (f : FuncId) (fn : Func) (hf : Tryz.pinned.checked.prog.funcNamed "liquidcheck/liquidchecklaw41.MetricMeans" = some f) (hfn : Tryz.pinned.checked.prog.funcs[f]? = some fn) :
  false = Tryz.pinned.checked.prog.looks [] ∧ ∀ (j : Nat) t, fn.params[j]? = some t → Tryz.pinned.checked.prog.wantsStandIn t = false := by
 obtain rfl : f = 9 := Option.some.inj ((show Tryz.prog.funcNamed "liquidcheck/liquidchecklaw41.MetricMeans" = some 9 by kernel_rfl).symm.trans hf) |>.symm
 obtain rfl : fn = Tryz.f9 := (Option.some.inj (Tryz.func9.symm.trans hfn)).symm
 refine ⟨by kernel_rfl, fun j t ht => ?_⟩
 rw [Tryz.params9] at ht
 exact standIn t (Array.mem_toList_iff.2 (Array.mem_of_getElem? ht))
theorem card : Rows.MetricMeansUptoCardSaid :=
 Claim7.holds_tied_plain_at .later [] _ _ _ _ said (fun _ h => by cases h) (by kernel_rfl) (fun _ h => by cases h) metricMeansUpto_row_tie rfl ⟨rfl, rfl⟩ (by kernel_rfl) rfl plain (by kernel_rfl)
end Go.Abs.Seat.MetricMeans
end
namespace Go.Proofs.YtcjbgglnoelfcaaGreatDoor
/-- MetricMeans: the law of layer 41 returns true for all lists of predicates and points, up to the size that the row states. -/
theorem metricMeans_holds : Rows.MetricMeansUptoCardSaid := Go.Abs.Seat.MetricMeans.card
end Go.Proofs.YtcjbgglnoelfcaaGreatDoor
