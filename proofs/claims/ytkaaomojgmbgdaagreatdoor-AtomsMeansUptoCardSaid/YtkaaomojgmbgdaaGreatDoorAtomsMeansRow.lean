/-
  THE LAW AS A ROW: AtomsMeans answers true for every input of at most 1048576 parts
-/
import Derived.Test.YtkaaomojgmbgdaaGreatDoorDo1
set_option linter.unusedSimpArgs false
set_option linter.unusedVariables false
set_option linter.unusedSectionVars false
set_option maxRecDepth 100000
section
namespace Go.Abs.Seat.AtomsMeans
open Go Go.Abs Go.Proofs Go.Proofs.YtkaaomojgmbgdaaGreatDoor Go.RowKit Go.ChangeShapes
theorem standIn:∀t∈(#[39,25,77]:Array TypeId).toList,Tryz.pinned.checked.prog.wantsStandIn t=false:=of_decide_eq_true (by kernel_rfl)
theorem readable:∀t∈(#[39,25,77]:Array TypeId).toList,Tryz.prog.readableRec t=true∧t<Tryz.prog.types.size:=of_decide_eq_true (by kernel_rfl)
theorem size:Tryz.f9.params.size=3:=by rw[Tryz.params9];rfl
theorem res:Tryz.f9.resultTypes=#[4]:=by kernel_rfl
theorem fits(H):∀l:List (DataW H),l.length=Tryz.f9.params.size→(Rows.atomsMeansSpec.fn H l).results=[.lit (.bool true)]∧(Rows.atomsMeansSpec.fn H l).args=l∧(Rows.atomsMeansSpec.fn H l).vars=[]:=by
 intro l hl;rw[size]at hl;obtain⟨a0,a1,a2,rfl⟩:∃a0 a1 a2,l=[a0,a1,a2]:=by
  match l,hl with
  |[a0,a1,a2],_=>exact⟨a0,a1,a2,rfl⟩
 exact⟨rfl,rfl,rfl⟩
theorem contract(H)(enc)(W)(base)(args)(ds gs)(before)
  (hval:∀(j:Nat) t v,Tryz.f9.params[j]? =some t→args[j]? =some v→Value.okWide Tryz.prog W .any base t v)
  (hW:DataW.Whole enc Tryz.prog Tryz.f9.params.toList Rows.atomsMeansSpec.vars false W args.toList ds gs before) (hL:laidMetH Tryz.prog Rows.atomsMeansRow.laid W) (hS:W.ShapedOpen Tryz.prog) (hsz:Rows.uptoSmall H (ds++gs)=true):
  Calls Tryz.prog 9 args W fun e W'=>∃v,e=.returned v∧Rows.atomsMeansSpec.post enc Tryz.prog Tryz.f9 false true false false W args v W':=by
 obtain⟨p,q,hA0,hV,hpq,hfz,hnd⟩:=id hW;have hA:DataW.TrodAll enc Tryz.prog W 0 (fun _=>true) true Tryz.f9.params.toList args.toList ds p:=hA0;rw[Tryz.params9]at hA hval;obtain⟨v0,vs0,d0,ds0,p0,q0,hargs,rfl,rfl,⟨n0,h0⟩,r0⟩:=trodAll_cons hA;obtain⟨v1,vs1,d1,ds1,p1,q1,rfl,rfl,rfl,⟨n1,h1⟩,r1⟩:=trodAll_cons r0;obtain⟨v2,vs2,d2,ds2,p2,q2,rfl,rfl,rfl,⟨n2,h2⟩,r2⟩:=trodAll_cons r1;obtain⟨rfl,rfl,rfl⟩:=trodAll_nil r2;obtain rfl:args=#[v0,v1,v2]:=by cases args;simp_all
 obtain⟨x0,y0,s0⟩:=rep_agg Tryz.underlying39 (hval 0 39 v0 rfl rfl) (rd_env n0) h0;obtain⟨x1,y1,s1⟩:=rep_agg Tryz.underlying25 (hval 1 25 v1 rfl rfl) (yQQ n1) h1;obtain⟨x2,y2,s2⟩:=rep_agg Tryz.underlying77 (hval 2 77 v2 rfl rfl) (rd_world n2) h2;have walk:Calls Tryz.prog 9 #[v0,v1,v2] W fun e w'=>e=.returned (.bool true)∧Below W.heap.size W w':=yQ3 (means_of x0 (env_ok s0 hsz (by simp)) x1 (sz_small s1 hsz (by simp)) x2 (yQ0 s2 hsz (by simp)) law12mG) (glob1 hS hL) (yQ5 y0 (yQ5 y1 (yQ5 y2 (rfl))));exact walk.mono fun e W' h=>⟨_,h.1,xzw hW rfl (fits H) h.2 laidOut (by rw[Tryz.params9];exact readable) Tryz.underlying4 res⟩
theorem reads(os){H}(enc:TypeId×Value→H):∃places,DataW.whole enc Tryz.prog ((laidWorld os).forCall (fun _ _=>0) ⟨#[],#[.agg #[.slice none 0 0,.slice none 0 0,.slice none 0 0],.agg #[.int .i64 0,.string ⟨#[]⟩,.int .i64 0,.slice none 0 0],.agg #[.slice none 0 0,.slice none 0 0]],[]⟩).memory Tryz.f9.params.toList Rows.atomsMeansSpec.vars false (#[.agg #[.slice none 0 0,.slice none 0 0,.slice none 0 0],.agg #[.int .i64 0,.string ⟨#[]⟩,.int .i64 0,.slice none 0 0],.agg #[.slice none 0 0,.slice none 0 0]]:Array Value).toList 8=some ([.agg [.nil,.nil,.nil],.agg [.lit (.int .i64 0),.lit (.string []),.lit (.int .i64 0),.nil],.agg [.nil,.nil]],[],places):=
 ⟨[],by kernel_rfl⟩
theorem laid_met(os):laidMet Tryz.prog Rows.atomsMeansRow.laid ((laidWorld os).forCall (fun _ _=>0) ⟨#[],#[.agg #[.slice none 0 0,.slice none 0 0,.slice none 0 0],.agg #[.int .i64 0,.string ⟨#[]⟩,.int .i64 0,.slice none 0 0],.agg #[.slice none 0 0,.slice none 0 0]],[]⟩).memory:=
 laidMet_laidAll #[.agg #[.slice none 0 0,.slice none 0 0,.slice none 0 0],.agg #[.int .i64 0,.string ⟨#[]⟩,.int .i64 0,.slice none 0 0],.agg #[.slice none 0 0,.slice none 0 0]] (by kernel_rfl) (by kernel_rfl)
theorem lifted(os)(started:os.Started)(H)(enc:TypeId×Value→H)(F):
  ReturnsInHanded {} Tryz.checked os 9 .any ((Rows.OpenSpec.upto Rows.atomsMeansSpec).preRow enc Tryz.prog Tryz.f9 Rows.atomsMeansUptoRow.domain false Rows.atomsMeansUptoRow.laid) (((Rows.OpenSpec.upto Rows.atomsMeansSpec).at F).post enc Tryz.prog Tryz.f9 false true false false):=by
 obtain⟨places,hx⟩:=reads os enc;refine returnsInHanded_of_row (C:=Tryz.checked) (s:=Rows.OpenSpec.upto Rows.atomsMeansSpec) own started (by kernel_rfl) Tryz.func9
  (witness_row_atRef (enc:=enc) (C:=Tryz.checked) false (laidWorld os) #[.agg #[.slice none 0 0,.slice none 0 0,.slice none 0 0],.agg #[.int .i64 0,.string ⟨#[]⟩,.int .i64 0,.slice none 0 0],.agg #[.slice none 0 0,.slice none 0 0]] (World.laidAll_os _ _ _) (by kernel_rfl) (by kernel_rfl) (by kernel_rfl)
   (OpenSpec.preRow_of_cond 8 hx (by kernel_rfl) (fun k hk=>by cases hk;kernel_rfl) (by kernel_rfl) (laid_met os))) ?_
 intro W base args ds gs before hval hW _ hc _ hL hS _;exact contract H enc W base args ds gs before hval hW hL hS (hc _ rfl)
end Go.Abs.Seat.AtomsMeans
end
