/-
  AtomsAsks answers true for every input of at most 1048576 parts
-/
import Derived.Test.YtkaaomojgmbgdaaGreatDoorAtomsAsksRow
set_option linter.unusedSimpArgs false
set_option linter.unusedVariables false
set_option linter.unusedSectionVars false
set_option maxRecDepth 100000
section
namespace Go.Abs.Seat.AtomsAsks
open Go Go.Abs Go.Proofs Go.Proofs.YtkaaomojgmbgdaaGreatDoor Go.RowKit Go.ChangeShapes
theorem Ig{a b:Bool}(ha:a=true)(hb:b=true):(a&&b)=true:=by rw[ha,hb];rfl
set_option maxHeartbeats 4000000 in
theorem said:Rows.AtomsAsksUptoSaid:=
 OpenClaim.holds_of_cond 5 Tryz.f5 rfl rfl rfl rfl rfl rfl rfl ⟨rfl,rfl,rfl,rfl,rfl⟩ rfl rfl rfl rfl rfl (by kernel_rfl) Tryz.func5 (by
   unfold joinedFacts
   repeat' with_reducible refine Ig ?_ ?_
   all_goals (as_aux_lemma=>kernel_rfl))
  (of_decide_eq_true (by kernel_rfl)) (by unfold Func.isWrapper;first|(rw[if_pos (by decide+kernel)];kernel_rfl)|(rw[if_neg (by decide+kernel)];exact⟨rfl,rfl⟩))
  (fun os started H enc _ F=>by rw[OpenClaim.pre_eq_preRow];exact lifted os started H enc F)
theorem plain(f:FuncId)(fn:Func)(hf:Tryz.pinned.checked.prog.funcNamed "liquidcheck/liquidchecklaw12.AtomsAsks"=some f)(sX:Tryz.pinned.checked.prog.funcs[f]? =some fn):
  true=Tryz.pinned.checked.prog.looks []∧∀(j:Nat) t,fn.params[j]? =some t→Tryz.pinned.checked.prog.wantsStandIn t=false:=by
 obtain rfl:f=5:=Option.some.inj ((show Tryz.prog.funcNamed "liquidcheck/liquidchecklaw12.AtomsAsks"=some 5 by kernel_rfl).symm.trans hf)|>.symm;obtain rfl:fn=Tryz.f5:=(Option.some.inj (Tryz.func5.symm.trans sX)).symm;refine⟨by kernel_rfl,fun j t ht=>?_⟩;rw[Tryz.params5]at ht;exact Co t (Array.mem_toList_iff.2 (Array.mem_of_getElem? ht))
theorem card:Rows.AtomsAsksUptoCardSaid:=
 Claim7.holds_tied_plain_at .later [] _ _ _ _ said (fun _ h=>by cases h) (by kernel_rfl) (fun _ h=>by cases h) atomsAsksUpto_row_tie rfl ⟨rfl,rfl⟩ (by kernel_rfl) rfl plain (by kernel_rfl)
end Go.Abs.Seat.AtomsAsks
end
namespace Go.Proofs.YtkaaomojgmbgdaaGreatDoor
/-- AtomsAsks answers true for every input of at most 1048576 parts -/
theorem atomsAsks_holds:Rows.AtomsAsksUptoCardSaid:=Go.Abs.Seat.AtomsAsks.card
end Go.Proofs.YtkaaomojgmbgdaaGreatDoor
