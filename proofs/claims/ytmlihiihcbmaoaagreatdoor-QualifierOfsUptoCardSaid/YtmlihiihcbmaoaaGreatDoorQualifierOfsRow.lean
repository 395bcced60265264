/-
  THE LAW AS A ROW: Of returns the qualifiers of the conjuncts (at most 8 predicates of 60 nodes), for arguments of bounded size (Upto).
-/
import Derived.Test.YtmlihiihcbmaoaaGreatDoorDo1
set_option linter.unusedSimpArgs false
set_option linter.unusedVariables false
set_option linter.unusedSectionVars false
set_option maxRecDepth 100000
section
namespace Go.Abs.Seat.QualifierOfs
open Go Go.Abs Go.Proofs Go.Proofs.YtmlihiihcbmaoaaGreatDoor Go.RowKit Go.ChangeShapes
theorem standIn : ∀ t ∈ (#[25, 35] : Array TypeId).toList, Tryz.pinned.checked.prog.wantsStandIn t = false := of_decide_eq_true (by kernel_rfl)
theorem readable : ∀ t ∈ (#[25, 35] : Array TypeId).toList, Tryz.prog.readableRec t = true ∧ t < Tryz.prog.types.size := of_decide_eq_true (by kernel_rfl)
theorem size : Tryz.f6.params.size = 2 := by rw [Tryz.params6]; rfl
theorem res : Tryz.f6.resultTypes = #[4] := by kernel_rfl
theorem fits (H : Type) : ∀ l : List (DataW H), l.length = Tryz.f6.params.size → (Rows.qualifierOfsSpec.fn H l).results = [.lit (.bool true)] ∧ (Rows.qualifierOfsSpec.fn H l).args = l ∧ (Rows.qualifierOfsSpec.fn H l).vars = [] := by
 intro l hl
 rw [size] at hl
 obtain ⟨a0, a1, rfl⟩ : ∃ a0 a1, l = [a0, a1] := by
  match l, hl with
  | [a0, a1], _ => exact ⟨a0, a1, rfl⟩
 exact ⟨rfl, rfl, rfl⟩
theorem contract (H : Type) (enc : TypeId × Value → H) (W : World) (base : Nat) (args : Array Value) (ds gs : List (DataW H)) (before : List MemPlace)
  (hval : ∀ (j : Nat) t v, Tryz.f6.params[j]? = some t → args[j]? = some v → Value.okWide Tryz.prog W .any base t v)
  (hW : DataW.Whole enc Tryz.prog Tryz.f6.params.toList Rows.qualifierOfsSpec.vars false W args.toList ds gs before) (hL : laidMetH Tryz.prog Rows.qualifierOfsRow.laid W) (hS : W.ShapedOpen Tryz.prog) (hsz : Rows.uptoSmall H (ds ++ gs) = true) :
  Calls Tryz.prog 6 args W fun e W' => ∃ v, e = .returned v ∧ Rows.qualifierOfsSpec.post enc Tryz.prog Tryz.f6 false true false false W args v W' := by
 obtain ⟨p, q, hA0, hV, hpq, hfz, hnd⟩ := id hW
 have hA : DataW.TrodAll enc Tryz.prog W 0 (fun _ => true) true Tryz.f6.params.toList args.toList ds p := hA0
 rw [Tryz.params6] at hA hval
 obtain ⟨v0, vs0, d0, ds0, p0, q0, hargs, rfl, rfl, ⟨n0, h0⟩, r0⟩ := trodAll_cons hA
 obtain ⟨v1, vs1, d1, ds1, p1, q1, rfl, rfl, rfl, ⟨n1, h1⟩, r1⟩ := trodAll_cons r0
 obtain ⟨rfl, rfl, rfl⟩ := trodAll_nil r1
 obtain rfl : args = #[v0, v1] := by cases args; simp_all
 obtain ⟨x0, y0, s0⟩ := rep_one Tryz.underlying25 (.inr (.inr (.inr ⟨_, rfl⟩))) (hval 0 25 v0 rfl rfl) (rd_preds n0) h0
 obtain ⟨x1, y1, s1⟩ := rep_one Tryz.underlying35 (.inr (.inl rfl)) (hval 1 35 v1 rfl rfl) (rd_sortS n1) h1
 have walk : Calls Tryz.prog 6 #[v0, v1] W fun e w' => e = .returned (.bool true) ∧ Below W.heap.size W w' := yvI (yyn law45G x0 x1 (yvM s0 hsz (by simp))) (glob1 hS hL) (yvL y0 (yvL y1 (rfl)))
 exact walk.mono fun e W' h => ⟨_, h.1, yjg hW rfl (fits H) h.2 laidOut (by rw [Tryz.params6]; exact readable) Tryz.underlying4 res⟩
theorem reads (os : Os) {H : Type} (enc : TypeId × Value → H) : ∃ places, DataW.whole enc Tryz.prog ((laidWorld os).forCall (fun _ _ => 0) ⟨#[], #[.slice none 0 0, .string ⟨#[]⟩], []⟩).memory Tryz.f6.params.toList Rows.qualifierOfsSpec.vars false (#[.slice none 0 0, .string ⟨#[]⟩] : Array Value).toList 8 = some ([.nil, .lit (.string [])], [], places) :=
 ⟨[], by kernel_rfl⟩
theorem laid_met (os : Os) : laidMet Tryz.prog Rows.qualifierOfsRow.laid ((laidWorld os).forCall (fun _ _ => 0) ⟨#[], #[.slice none 0 0, .string ⟨#[]⟩], []⟩).memory :=
 laidMet_of_run' 8 (by kernel_rfl) (by kernel_rfl)
theorem lifted (os : Os) (started : os.Started) (H : Type) (enc : TypeId × Value → H) (F : Stop.Interp) :
  ReturnsInHanded {} Tryz.checked os 6 .any ((Rows.OpenSpec.upto Rows.qualifierOfsSpec).preRow enc Tryz.prog Tryz.f6 Rows.qualifierOfsUptoRow.domain false Rows.qualifierOfsUptoRow.laid) (((Rows.OpenSpec.upto Rows.qualifierOfsSpec).at F).post enc Tryz.prog Tryz.f6 false true false false) := by
 obtain ⟨places, hx⟩ := reads os enc
 refine returnsInHanded_of_row (C := Tryz.checked) (s := Rows.OpenSpec.upto Rows.qualifierOfsSpec) own started (by kernel_rfl) Tryz.func6
  (witness_row_at (enc := enc) (C := Tryz.checked) false (laidWorld os) #[.slice none 0 0, .string ⟨#[]⟩] rfl (by kernel_rfl) (by kernel_rfl) (by kernel_rfl)
   (OpenSpec.preRow_of_cond 8 hx (by kernel_rfl) (fun k hk => by cases hk; kernel_rfl) (by kernel_rfl) (laid_met os))) ?_
 intro W base args ds gs before hval hW _ hc _ hL hS _
 exact contract H enc W base args ds gs before hval hW hL hS (hc _ rfl)
end Go.Abs.Seat.QualifierOfs
end
