/-
  PredLists: the law of layer 7 returns true for every predicate, up to the size that the row states.
-/
import Derived.Test.YtaipocfddbaakaaDoorDo1
section
set_option linter.unusedSimpArgs false
set_option linter.unusedVariables false
set_option linter.unusedSectionVars false
set_option maxRecDepth 100000
namespace Go.Abs.Seat.PredLists
open Go Go.Abs Go.Proofs Go.Proofs.YtaipocfddbaakaaDoor Go.RowKit Go.ChangeShapes
theorem standIn : ∀ t ∈ (#[25] : Array TypeId).toList, Tryd.pinned.checked.prog.wantsStandIn t = false := of_decide_eq_true (by kernel_rfl)
theorem readable : ∀ t ∈ (#[25] : Array TypeId).toList, Tryd.prog.readableRec t = true ∧ t < Tryd.prog.types.size := of_decide_eq_true (by kernel_rfl)
theorem size : Tryd.f8.params.size = 1 := by rw [Tryd.params8]; rfl
theorem res : Tryd.f8.resultTypes = #[4] := by kernel_rfl
theorem fits (H : Type) : ∀ l : List (DataW H), l.length = Tryd.f8.params.size → (Rows.predListsSpec.fn H l).results = [.lit (.bool true)] ∧ (Rows.predListsSpec.fn H l).args = l ∧ (Rows.predListsSpec.fn H l).vars = [] := by
  intro l hl
  rw [size] at hl
  obtain ⟨a0, rfl⟩ : ∃ a0, l = [a0] := by
    match l, hl with
    | [a0], _ => exact ⟨a0, rfl⟩
  exact ⟨rfl, rfl, rfl⟩
theorem contract (H : Type) (enc : TypeId × Value → H) (W : World) (base : Nat) (args : Array Value) (ds gs : List (DataW H)) (before : List MemPlace)
    (hval : ∀ (j : Nat) t v, Tryd.f8.params[j]? = some t → args[j]? = some v → Value.okWide Tryd.prog W .any base t v)
    (hW : DataW.Whole enc Tryd.prog Tryd.f8.params.toList Rows.predListsSpec.vars false W args.toList ds gs before) (hL : laidMetH Tryd.prog Rows.predListsRow.laid W) (hS : W.ShapedOpen Tryd.prog) (hsz : Rows.uptoSmall H (ds ++ gs) = true) :
    Calls Tryd.prog 8 args W fun e W' => ∃ v, e = .returned v ∧ Rows.predListsSpec.post enc Tryd.prog Tryd.f8 false true false false W args v W' := by
  obtain ⟨p, q, hA0, hV, hpq, hfz, hnd⟩ := id hW
  have hA : DataW.TrodAll enc Tryd.prog W 0 (fun _ => true) true Tryd.f8.params.toList args.toList ds p := hA0
  rw [Tryd.params8] at hA hval
  obtain ⟨v0, vs0, d0, ds0, p0, q0, hargs, rfl, rfl, ⟨n0, h0⟩, r0⟩ := trodAll_cons hA
  obtain ⟨rfl, rfl, rfl⟩ := trodAll_nil r0
  obtain rfl : args = #[v0] := by cases args; simp_all
  obtain ⟨x0, y0, s0⟩ := rep_agg Tryd.underlying25 (hval 0 25 v0 rfl rfl) (rd_pred n0) h0
  have walk : Calls Tryd.prog 8 #[v0] W fun e w' => e = .returned (.bool true) ∧ Below W.heap.size W w' := door_calls (PredLists_ev law7 x0 (small_big s0 hsz (by simp))) (glob0 hS hL) (repCL_cons y0 (rfl))
  exact walk.mono fun e W' h => ⟨_, h.1, post_same hW rfl (fits H) h.2 laidOut (by rw [Tryd.params8]; exact readable) Tryd.underlying4 res⟩
theorem reads (os : Os) {H : Type} (enc : TypeId × Value → H) : ∃ places, DataW.whole enc Tryd.prog ((laidWorld os).forCall (fun _ _ => 0) ⟨#[], #[.agg #[.int .i64 0, .string ⟨#[]⟩, .int .i64 0, .slice none 0 0]], []⟩).memory Tryd.f8.params.toList Rows.predListsSpec.vars false (#[.agg #[.int .i64 0, .string ⟨#[]⟩, .int .i64 0, .slice none 0 0]] : Array Value).toList 8 = some ([.agg [.lit (.int .i64 0), .lit (.string []), .lit (.int .i64 0), .nil]], [], places) :=
  ⟨[], by kernel_rfl⟩
theorem laid_met (os : Os) : laidMet Tryd.prog Rows.predListsRow.laid ((laidWorld os).forCall (fun _ _ => 0) ⟨#[], #[.agg #[.int .i64 0, .string ⟨#[]⟩, .int .i64 0, .slice none 0 0]], []⟩).memory :=
  laidMet_of_run' 8 (by kernel_rfl) (by kernel_rfl)
theorem lifted (os : Os) (started : os.Started) (H : Type) (enc : TypeId × Value → H) (F : Stop.Interp) :
    ReturnsInHanded {} Tryd.checked os 8 .any ((Rows.OpenSpec.upto Rows.predListsSpec).preRow enc Tryd.prog Tryd.f8 Rows.predListsUptoRow.domain false Rows.predListsUptoRow.laid) (((Rows.OpenSpec.upto Rows.predListsSpec).at F).post enc Tryd.prog Tryd.f8 false true false false) := by
  obtain ⟨places, hx⟩ := reads os enc
  refine returnsInHanded_of_row (C := Tryd.checked) (s := Rows.OpenSpec.upto Rows.predListsSpec) own started (by kernel_rfl) Tryd.func8
    (witness_row_at (enc := enc) (C := Tryd.checked) false (laidWorld os) #[.agg #[.int .i64 0, .string ⟨#[]⟩, .int .i64 0, .slice none 0 0]] rfl (by kernel_rfl) (by kernel_rfl) (by kernel_rfl)
      (OpenSpec.preRow_of_cond 8 hx (by kernel_rfl) (fun k hk => by cases hk; kernel_rfl) (by kernel_rfl) (laid_met os))) ?_
  intro W base args ds gs before hval hW _ hc _ hL hS _
  exact contract H enc W base args ds gs before hval hW hL hS (hc _ rfl)
theorem said : Rows.PredListsUptoSaid :=
  OpenClaim.holds_of_cond 8 Tryd.f8 rfl rfl rfl rfl rfl rfl rfl ⟨rfl, rfl, rfl, rfl, rfl⟩ rfl rfl rfl rfl rfl (by kernel_rfl) Tryd.func8 (by kernel_rfl)
    (of_decide_eq_true (by kernel_rfl)) (by unfold Func.isWrapper; first | (rw [if_pos (by decide +kernel)]; kernel_rfl) | (rw [if_neg (by decide +kernel)]; exact ⟨rfl, rfl⟩))
    (fun os started H enc _ F => by rw [OpenClaim.pre_eq_preRow]; exact lifted os started H enc F)
theorem plain (f : FuncId) (fn : Func) (hf : Tryd.pinned.checked.prog.funcNamed "liquidcheck/liquidchecklaw07.PredLists" = some f) (hfn : Tryd.pinned.checked.prog.funcs[f]? = some fn) :
    false = Tryd.pinned.checked.prog.looks [] ∧ ∀ (j : Nat) t, fn.params[j]? = some t → Tryd.pinned.checked.prog.wantsStandIn t = false := by
  obtain rfl : f = 8 := Option.some.inj ((show Tryd.prog.funcNamed "liquidcheck/liquidchecklaw07.PredLists" = some 8 by kernel_rfl).symm.trans hf) |>.symm
  obtain rfl : fn = Tryd.f8 := (Option.some.inj (Tryd.func8.symm.trans hfn)).symm
  refine ⟨by kernel_rfl, fun j t ht => ?_⟩
  rw [Tryd.params8] at ht
  exact standIn t (Array.mem_toList_iff.2 (Array.mem_of_getElem? ht))
theorem card : Rows.PredListsUptoCardSaid :=
  Claim7.holds_tied_plain_at .later [] _ _ _ _ said (fun _ h => by cases h) (by kernel_rfl) (fun _ h => by cases h) predListsUpto_row_tie rfl ⟨rfl, rfl⟩ (by kernel_rfl) rfl plain (by kernel_rfl)
end Go.Abs.Seat.PredLists
end
namespace Go.Proofs.YtaipocfddbaakaaDoor
/-- PredLists: the law of layer 7 returns true for every predicate, up to the size that the row states. -/
theorem predLists_holds : Rows.PredListsUptoCardSaid := Go.Abs.Seat.PredLists.card
end Go.Proofs.YtaipocfddbaakaaDoor
