/-
  THE LAW AS A ROW: AtomsAsks answers true for every input of at most 1048576 parts
-/
import Derived.Test.YtkaaomojgmbgdaaGreatDoorDo1
set_option linter.unusedSimpArgs false
set_option linter.unusedVariables false
set_option linter.unusedSectionVars false
set_option maxRecDepth 100000
section
namespace Go.Abs.Seat.AtomsAsks
open Go Go.Abs Go.Proofs Go.Proofs.YtkaaomojgmbgdaaGreatDoor Go.RowKit Go.ChangeShapes
theorem Co:∀t∈(#[39,25]:Array TypeId).toList,Tryz.pinned.checked.prog.wantsStandIn t=false:=of_decide_eq_true (by kernel_rfl)
theorem readable:∀t∈(#[39,25]:Array TypeId).toList,Tryz.prog.readableRec t=true∧t<Tryz.prog.types.size:=of_decide_eq_true (by kernel_rfl)
theorem size:Tryz.f5.params.size=2:=by rw[Tryz.params5];rfl
theorem res:Tryz.f5.resultTypes=#[4]:=by kernel_rfl
theorem fits(H):∀l:List (DataW H),l.length=Tryz.f5.params.size→(Rows.atomsAsksSpec.fn H l).results=[.lit (.bool true)]∧(Rows.atomsAsksSpec.fn H l).args=l∧(Rows.atomsAsksSpec.fn H l).vars=[]:=by
 intro l hl;rw[size]at hl;obtain⟨a0,a1,rfl⟩:∃a0 a1,l=[a0,a1]:=by
  match l,hl with
  |[a0,a1],_=>exact⟨a0,a1,rfl⟩
 exact⟨rfl,rfl,rfl⟩
theorem contract(H)(enc)(W)(base)(args)(ds gs)(before)
  (fA:∀(j:Nat) t v,Tryz.f5.params[j]? =some t→args[j]? =some v→Value.okWide Tryz.prog W .any base t v)
  (hW:DataW.Whole enc Tryz.prog Tryz.f5.params.toList Rows.atomsAsksSpec.vars false W args.toList ds gs before) (hL:laidMetH Tryz.prog Rows.atomsAsksRow.laid W) (hS:W.ShapedOpen Tryz.prog) (cU:Rows.uptoSmall H (ds++gs)=true):
  Calls Tryz.prog 5 args W fun e W'=>∃v,e=.returned v∧Rows.atomsAsksSpec.post enc Tryz.prog Tryz.f5 false true false false W args v W':=by
 obtain⟨p,q,hA0,hV,QM,hfz,xL⟩:=id hW;have hA:DataW.TrodAll enc Tryz.prog W 0 (fun _=>true) true Tryz.f5.params.toList args.toList ds p:=hA0;rw[Tryz.params5]at hA fA;obtain⟨v0,vs0,d0,ds0,p0,q0,bU,rfl,rfl,⟨n0,h0⟩,r0⟩:=trodAll_cons hA;obtain⟨v1,vs1,d1,ds1,p1,q1,rfl,rfl,rfl,⟨n1,h1⟩,r1⟩:=trodAll_cons r0;obtain⟨rfl,rfl,rfl⟩:=trodAll_nil r1;obtain rfl:args=#[v0,v1]:=by cases args;simp_all
 obtain⟨x0,y0,s0⟩:=u3 Tryz.underlying39 (fA 0 39 v0 rfl rfl) (Fy n0) h0;obtain⟨x1,y1,s1⟩:=u3 Tryz.underlying25 (fA 1 25 v1 rfl rfl) (yQQ n1) h1;have walk:Calls Tryz.prog 5 #[v0,v1] W fun e w'=>e=.returned (.bool true)∧Below W.heap.size W w':=yQ3 (yJp Fv x0 (EF s0 cU (by simp)) x1 (An s1 cU (by simp))) (Iv hS hL) (Vg y0 (Vg y1 (rfl)));exact walk.mono fun e W' h=>⟨_,h.1,xzw hW rfl (fits H) h.2 laidOut (by rw[Tryz.params5];exact readable) Tryz.underlying4 res⟩
theorem reads(os){H}(enc:TypeId×Value→H):∃places,DataW.whole enc Tryz.prog ((po os).forCall (fun _ _=>0) ⟨#[],#[.agg #[.slice none 0 0,.slice none 0 0,.slice none 0 0],.agg #[.int .i64 0,.string ⟨#[]⟩,.int .i64 0,.slice none 0 0]],[]⟩).memory Tryz.f5.params.toList Rows.atomsAsksSpec.vars false (#[.agg #[.slice none 0 0,.slice none 0 0,.slice none 0 0],.agg #[.int .i64 0,.string ⟨#[]⟩,.int .i64 0,.slice none 0 0]]:Array Value).toList 8=some ([.agg [.nil,.nil,.nil],.agg [.lit (.int .i64 0),.lit (.string []),.lit (.int .i64 0),.nil]],[],places):=
 ⟨[],by kernel_rfl⟩
theorem zW(os):laidMet Tryz.prog Rows.atomsAsksRow.laid ((po os).forCall (fun _ _=>0) ⟨#[],#[.agg #[.slice none 0 0,.slice none 0 0,.slice none 0 0],.agg #[.int .i64 0,.string ⟨#[]⟩,.int .i64 0,.slice none 0 0]],[]⟩).memory:=
 laidMet_laidAll #[.agg #[.slice none 0 0,.slice none 0 0,.slice none 0 0],.agg #[.int .i64 0,.string ⟨#[]⟩,.int .i64 0,.slice none 0 0]] (by kernel_rfl) (by kernel_rfl)
theorem lifted(os)(started:os.Started)(H)(enc:TypeId×Value→H)(F):
  ReturnsInHanded {} Tryz.checked os 5 .any ((Rows.OpenSpec.upto Rows.atomsAsksSpec).preRow enc Tryz.prog Tryz.f5 Rows.atomsAsksUptoRow.domain false Rows.atomsAsksUptoRow.laid) (((Rows.OpenSpec.upto Rows.atomsAsksSpec).at F).post enc Tryz.prog Tryz.f5 false true false false):=by
 obtain⟨places,hx⟩:=reads os enc;refine returnsInHanded_of_row (C:=Tryz.checked) (s:=Rows.OpenSpec.upto Rows.atomsAsksSpec) own started (by kernel_rfl) Tryz.func5
  (witness_row_atRef (enc:=enc) (C:=Tryz.checked) false (po os) #[.agg #[.slice none 0 0,.slice none 0 0,.slice none 0 0],.agg #[.int .i64 0,.string ⟨#[]⟩,.int .i64 0,.slice none 0 0]] (World.laidAll_os _ _ _) (by kernel_rfl) (by kernel_rfl) (by kernel_rfl)
   (OpenSpec.preRow_of_cond 8 hx (by kernel_rfl) (fun k hk=>by cases hk;kernel_rfl) (by kernel_rfl) (zW os))) ?_
 intro W base args ds gs before fA hW _ hc _ hL hS _;exact contract H enc W base args ds gs before fA hW hL hS (hc _ rfl)
end Go.Abs.Seat.AtomsAsks
end
