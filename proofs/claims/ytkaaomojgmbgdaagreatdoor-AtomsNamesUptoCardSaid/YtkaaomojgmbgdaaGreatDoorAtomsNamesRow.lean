/-
  THE LAW AS A ROW: AtomsNames answers true for every input of at most 1048576 parts
-/
import Derived.Test.YtkaaomojgmbgdaaGreatDoorDo1
set_option linter.unusedSimpArgs false
set_option linter.unusedVariables false
set_option linter.unusedSectionVars false
set_option maxRecDepth 100000
section
namespace Go.Abs.Seat.AtomsNames
open Go Go.Abs Go.Proofs Go.Proofs.YtkaaomojgmbgdaaGreatDoor Go.RowKit Go.ChangeShapes
theorem standIn:∀t∈(#[25,25]:Array TypeId).toList,Tryz.pinned.checked.prog.wantsStandIn t=false:=of_decide_eq_true (by kernel_rfl)
theorem readable:∀t∈(#[25,25]:Array TypeId).toList,Tryz.prog.readableRec t=true∧t<Tryz.prog.types.size:=of_decide_eq_true (by kernel_rfl)
theorem size:Tryz.f3.params.size=2:=by rw[Tryz.params3];rfl
theorem res:Tryz.f3.resultTypes=#[4]:=by kernel_rfl
theorem fits(H:Type):∀l:List (DataW H),l.length=Tryz.f3.params.size→(Rows.atomsNamesSpec.fn H l).results=[.lit (.bool true)]∧(Rows.atomsNamesSpec.fn H l).args=l∧(Rows.atomsNamesSpec.fn H l).vars=[]:=by
 intro l hl
 rw[size]at hl
 obtain⟨a0,a1,rfl⟩:∃a0 a1,l=[a0,a1]:=by
  match l,hl with
  |[a0,a1],_=>exact⟨a0,a1,rfl⟩
 exact⟨rfl,rfl,rfl⟩
theorem contract(H:Type)(enc:TypeId×Value→H)(W:World)(base:Nat)(args:Array Value)(ds gs:List (DataW H))(before:List MemPlace)
  (hval:∀(j:Nat) t v,Tryz.f3.params[j]? =some t→args[j]? =some v→Value.okWide Tryz.prog W .any base t v)
  (hW:DataW.Whole enc Tryz.prog Tryz.f3.params.toList Rows.atomsNamesSpec.vars false W args.toList ds gs before) (hL:laidMetH Tryz.prog Rows.atomsNamesRow.laid W) (hS:W.ShapedOpen Tryz.prog) (hsz:Rows.uptoSmall H (ds++gs)=true):
  Calls Tryz.prog 3 args W fun e W'=>∃v,e=.returned v∧Rows.atomsNamesSpec.post enc Tryz.prog Tryz.f3 false true false false W args v W':=by
 obtain⟨p,q,hA0,hV,hpq,hfz,hnd⟩:=id hW
 have hA:DataW.TrodAll enc Tryz.prog W 0 (fun _=>true) true Tryz.f3.params.toList args.toList ds p:=hA0
 rw[Tryz.params3]at hA hval
 obtain⟨v0,vs0,d0,ds0,p0,q0,hargs,rfl,rfl,⟨n0,h0⟩,r0⟩:=trodAll_cons hA
 obtain⟨v1,vs1,d1,ds1,p1,q1,rfl,rfl,rfl,⟨n1,h1⟩,r1⟩:=trodAll_cons r0
 obtain⟨rfl,rfl,rfl⟩:=trodAll_nil r1
 obtain rfl:args=#[v0,v1]:=by cases args;simp_all
 obtain⟨x0,y0,s0⟩:=rep_agg Tryz.underlying25 (hval 0 25 v0 rfl rfl) (rd_predI n0) h0
 obtain⟨x1,y1,s1⟩:=rep_agg Tryz.underlying25 (hval 1 25 v1 rfl rfl) (yQQ n1) h1
 have walk:Calls Tryz.prog 3 #[v0,v1] W fun e w'=>e=.returned (.bool true)∧Below W.heap.size W w':=yQ3 (yKi law12G x0.1 x1 x0.2 (sz_small s0 hsz (by simp)) (sz_small s1 hsz (by simp))) (glob1 hS hL) (yQ5 y0 (yQ5 y1 (rfl)))
 exact walk.mono fun e W' h=>⟨_,h.1,xzw hW rfl (fits H) h.2 laidOut (by rw[Tryz.params3];exact readable) Tryz.underlying4 res⟩
theorem reads(os:Os){H:Type}(enc:TypeId×Value→H):∃places,DataW.whole enc Tryz.prog ((laidWorld os).forCall (fun _ _=>0) ⟨#[],#[.agg #[.int .i64 0,.string ⟨#[]⟩,.int .i64 0,.slice none 0 0],.agg #[.int .i64 0,.string ⟨#[]⟩,.int .i64 0,.slice none 0 0]],[]⟩).memory Tryz.f3.params.toList Rows.atomsNamesSpec.vars false (#[.agg #[.int .i64 0,.string ⟨#[]⟩,.int .i64 0,.slice none 0 0],.agg #[.int .i64 0,.string ⟨#[]⟩,.int .i64 0,.slice none 0 0]]:Array Value).toList 8=some ([.agg [.lit (.int .i64 0),.lit (.string []),.lit (.int .i64 0),.nil],.agg [.lit (.int .i64 0),.lit (.string []),.lit (.int .i64 0),.nil]],[],places):=
 ⟨[],by kernel_rfl⟩
theorem laid_met(os:Os):laidMet Tryz.prog Rows.atomsNamesRow.laid ((laidWorld os).forCall (fun _ _=>0) ⟨#[],#[.agg #[.int .i64 0,.string ⟨#[]⟩,.int .i64 0,.slice none 0 0],.agg #[.int .i64 0,.string ⟨#[]⟩,.int .i64 0,.slice none 0 0]],[]⟩).memory:=
 laidMet_laidAll #[.agg #[.int .i64 0,.string ⟨#[]⟩,.int .i64 0,.slice none 0 0],.agg #[.int .i64 0,.string ⟨#[]⟩,.int .i64 0,.slice none 0 0]] (by kernel_rfl) (by kernel_rfl)
theorem lifted(os:Os)(started:os.Started)(H:Type)(enc:TypeId×Value→H)(F:Stop.Interp):
  ReturnsInHanded {} Tryz.checked os 3 .any ((Rows.OpenSpec.upto Rows.atomsNamesSpec).preRow enc Tryz.prog Tryz.f3 Rows.atomsNamesUptoRow.domain false Rows.atomsNamesUptoRow.laid) (((Rows.OpenSpec.upto Rows.atomsNamesSpec).at F).post enc Tryz.prog Tryz.f3 false true false false):=by
 obtain⟨places,hx⟩:=reads os enc
 refine returnsInHanded_of_row (C:=Tryz.checked) (s:=Rows.OpenSpec.upto Rows.atomsNamesSpec) own started (by kernel_rfl) Tryz.func3
  (witness_row_atRef (enc:=enc) (C:=Tryz.checked) false (laidWorld os) #[.agg #[.int .i64 0,.string ⟨#[]⟩,.int .i64 0,.slice none 0 0],.agg #[.int .i64 0,.string ⟨#[]⟩,.int .i64 0,.slice none 0 0]] (World.laidAll_os _ _ _) (by kernel_rfl) (by kernel_rfl) (by kernel_rfl)
   (OpenSpec.preRow_of_cond 8 hx (by kernel_rfl) (fun k hk=>by cases hk;kernel_rfl) (by kernel_rfl) (laid_met os))) ?_
 intro W base args ds gs before hval hW _ hc _ hL hS _
 exact contract H enc W base args ds gs before hval hW hL hS (hc _ rfl)
end Go.Abs.Seat.AtomsNames
end
