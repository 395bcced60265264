/-
  CONTRACTS: what the functions answer, as plain Lean functions, each by evaluation at the abstract machine.
-/
import Derived.Sort.Walk0
import Derived.Lib.Join
import Derived.Test.YtkaaomojgmbgdaaGreatDoorCon1
set_option linter.unusedSimpArgs false
set_option linter.unusedVariables false
set_option linter.unusedSectionVars false
set_option maxRecDepth 100000
section
namespace Go.Abs
def BC(o:Int)(r:Option Int):Int:=match r with
 |none=> -1
 |some s=>p7 (s==0||(o==13&&decide (s<0)))
def aX(signs:List Int):Pred→Int
 |.mk o _ n []=>if o==2 then p7 (n==1)else-1
 |.mk o _ _ [a]=>if o==14 then lR (aX signs a)else-1
 |.mk o _ _ [a,b]=>if o==13||o==10 then BC o (pO signs [a,b])else if o==15 then pT (aX signs a) (aX signs b)
   else if o==16 then lR (pT (lR (aX signs a)) (lR (aX signs b)))else if o==17 then lR (pT (aX signs a) (lR (aX signs b)))
   else if o==18 then(if decide (aX signs a<0)||decide (aX signs b<0)then-1 else p7 (aX signs a==aX signs b))else-1
 |.mk _ _ _ (_::_::_::_)=> -1
theorem yXP(o)(r):rL (BC o r):=by
 cases r with
 |none=>exact⟨Int.le_refl _,by show(-1:Int)≤1;decide⟩
 |some s=>exact R6 _
theorem LV(signs)(p):rL (aX signs p):=by
 induction p using Pred.ind with
 |h o s n ks ih=>
  rcases ks with _|⟨a,_|⟨b,_|⟨c,r⟩⟩⟩
  ·rw[aX];split
   ·exact R6 _
   ·unfold rL;omega
  ·rw[aX];split
   ·exact LP (ih a (by simp))
   ·unfold rL;omega
  ·rw[aX];split
   ·exact yXP _ _
   split
   ·exact Hm _ _
   split
   ·exact LP (Hm _ _)
   split
   ·exact LP (Hm _ _)
   split
   ·split
    ·unfold rL;omega
    ·exact R6 _
   ·unfold rL;omega
  ·rw[aX];unfold rL;omega
inductive yH:Pred→Pred→Prop
 |self (p:Pred):yH p p
 |ej {q k p:Pred} (hk:k∈p.kids) (h:yH q k):yH q p
def mE(p:Pred):Prop:=∀q,yH q p→q.name.length≤1073741824
theorem mE.ej{o}{s:aD}{n ks}(h:mE (.mk o s n ks)){k}(hk:k∈ks):mE k:=fun q hq=>h q (.ej hk hq)
theorem mE.name{p}(h:mE p):p.name.length≤1073741824:=h p (.self p)
variable{E:ax}(Z:Sys E)
include Z
set_option maxHeartbeats 8000000 in
theorem V6(hA:wB E)(hI:fu E)(signs)(kC:signs.length≤1000)(p):mE p→E.C BH [.agg p.cells,.one (.aw (signs.map eT))] (.one (.int .i64 (aX signs p))):=by
 induction p using Pred.ind with
 |h o s n ks ih=>
  intro hn;have B8:=fun b=>zJ2 Z b;have oP:=fun n h=>zJq Z (n:=n) h;have hand:=fun a b=>yxs Z a b;have kO:=yxu Z hA hI o s n ks signs (fun k hk=>(hn.ej hk).name) kC;refine Z.BH _ _ ⟨bn rfl,?_⟩;simp only[Dy]at kO;rcases ks with _|⟨a,_|⟨b,_|⟨c,r⟩⟩⟩
  ·rw[aX];have sK:pO signs []=none:=rfl;simp only[sK,bM,mN,Option.getD_none,Option.isSome_none]at kO;simp only[xZ,go_sem,bM,mN,lN,nZ];cases c2:(o==2)with
   |true=>have h0:decide ((0:Int)>0)=false:=rfl;simp only[go_sem,h0];refine aR (B8 _) ?_;simp only[go_sem];try rfl
   |false=>
    simp only[go_sem];cases Ge:(o==13)with
    |true=>simp only[go_sem];refine aR kO ?_;simp only[go_sem];try rfl
    |false=>
     simp only[go_sem];cases CW:(o==10)with
     |true=>simp only[go_sem];refine aR kO ?_;simp only[go_sem];try rfl
     |false=>
      have h1:((0:Int)==1)=false:=rfl;have h2:((0:Int) !=2)=true:=rfl;simp only[go_sem];cases x4:(o==14)with
      |true=>simp only[go_sem,h1];try rfl
      |false=>simp only[go_sem,h1,h2];try rfl
  ·rw[aX];have sK:pO signs [a]=none:=rfl;have ha:=Pred.bm a;have my:=ih a (by simp) (hn.ej (by simp));have hs:=LV signs a;have B5:=oP _ hs;generalize aX signs a=va at*
   simp only[sK,bM,mC,mN,ha,Option.getD_none,Option.isSome_none]at kO;rw[ha]at my;simp only[xZ,go_sem,bM,mC,mN,lC,lN,zA,Int.natCast_one,ha];cases c2:(o==2)with
   |true=>
    have x4:(o==14)=false:=by have:o=2:=by simpa using c2
                              subst this;rfl
    have h0:decide ((1:Int)>0)=true:=rfl;simp only[go_sem,h0,x4];try rfl
   |false=>
    simp only[go_sem];cases Ge:(o==13)with
    |true=>
     have x4:(o==14)=false:=by have:o=13:=by simpa using Ge
                               subst this;rfl
     simp only[go_sem];refine aR kO ?_;simp only[go_sem,x4];try rfl
    |false=>
     simp only[go_sem];cases CW:(o==10)with
     |true=>
      have x4:(o==14)=false:=by have:o=10:=by simpa using CW
                                subst this;rfl
      simp only[go_sem];refine aR kO ?_;simp only[go_sem,x4];try rfl
     |false=>
      have h1:((1:Int)==1)=true:=rfl;have h2:((1:Int) !=2)=true:=rfl;simp only[go_sem];cases x4:(o==14)with
      |true=>simp only[go_sem,h1];refine⟨by simp,?_⟩;refine aR my ?_;simp only[go_sem];refine aR B5 ?_;simp only[go_sem];try rfl
      |false=>simp only[go_sem,h1,h2];try rfl
  ·rw[aX];have ha:=Pred.bm a;have hb:=Pred.bm b;have my:=ih a (by simp) (hn.ej (by simp));have nM:=ih b (by simp) (hn.ej (by simp));have U9:=LV signs a;have lP:=LV signs b;generalize aX signs a=va at*
   generalize aX signs b=vb at*
   have B5:=oP _ U9;have Mu:=oP _ lP;have A6:=oP _ (Hm (lR va) (lR vb));have wU:=oP _ (Hm va (lR vb));generalize pO signs [a,b]=R at*
   simp only[bM,mC,mN,ha,hb]at kO;rw[ha]at my;rw[hb]at nM;have hlen:(∀(e:List D),e∈[[D.int IntKind.i64 a.op,D.str a.name,D.int IntKind.i64 a.n,D.aw (List.map Pred.cells a.kids)],[D.int IntKind.i64 b.op,D.str b.name,D.int IntKind.i64 b.n,D.aw (List.map Pred.cells b.kids)]]→e.length=4)=True:=eq_true (by simp);have F:∀{p:Prop},p→p:=fun h=>h;by_cases h2:o=2
   ·subst h2;simp only[xZ,go_sem,bM,mC,mN,lC,lN,zA,Nat.reduceAdd,Int.cast_ofNat_Int,ha,hb,Int.reduceBEq,Int.reduceGT,Int.reduceLT,decide_true,decide_false];try rfl
   by_cases EH:o=13
   ·subst EH;simp only[xZ,go_sem,bM,mC,mN,lC,lN,zA,Nat.reduceAdd,Int.cast_ofNat_Int,ha,hb,Int.reduceBEq,Int.reduceGT,Int.reduceLT,decide_true,decide_false];refine aR kO ?_;cases R with
    |none=>simp only[go_sem,Option.isSome_none,Option.getD_none];try rfl
    |some x=>simp only[go_sem,oS,Option.getD_some];refine aR (B8 _) ?_;simp only[go_sem];try rfl
   by_cases rR:o=10
   ·subst rR;simp only[xZ,go_sem,bM,mC,mN,lC,lN,zA,Nat.reduceAdd,Int.cast_ofNat_Int,ha,hb,Int.reduceBEq,Int.reduceGT,Int.reduceLT,decide_true,decide_false];refine aR kO ?_;cases R with
    |none=>simp only[go_sem,Option.isSome_none,Option.getD_none];try rfl
    |some x=>simp only[go_sem,oS,Option.getD_some];refine aR (B8 _) ?_;simp only[go_sem];try rfl
   by_cases vw:o=14
   ·subst vw;simp only[xZ,go_sem,bM,mC,mN,lC,lN,zA,Nat.reduceAdd,Int.cast_ofNat_Int,ha,hb,Int.reduceBEq,Int.reduceGT,Int.reduceLT,decide_true,decide_false];try rfl
   have e2:(o==2)=false:=by simpa using h2
   have L5:(o==13)=false:=by simpa using EH
   have L4:(o==10)=false:=by simpa using rR
   have U4:(o==14)=false:=by simpa using vw
   by_cases hr:o<15∨18<o
   ·have e15:(o==15)=false:=by simp;omega
    have e16:(o==16)=false:=by simp;omega
    have e17:(o==17)=false:=by simp;omega
    have e18:(o==18)=false:=by simp;omega
    have hq:(decide (o<15)||decide (o>18))=true:=by simp;omega
    simp only[xZ,go_sem,bM,mC,mN,lC,lN,zA,Nat.reduceAdd,Int.cast_ofNat_Int,ha,hb,e2,L5,L4,U4,e15,e16,e17,e18,Int.reduceBNe,hq]
   ·obtain h|h|h|h:o=15∨o=16∨o=17∨o=18:=by omega
    ·subst h;simp only[xZ,go_sem,bM,mC,mN,lC,lN,zA,Nat.reduceAdd,Int.cast_ofNat_Int,ha,hb,Int.reduceBEq,Int.reduceBNe,Int.reduceGT,Int.reduceLT,decide_true,decide_false];refine⟨by simp,?_⟩;refine aR my ?_;simp only[go_sem,bM,mC,mN,lC,lN,zA,Nat.reduceAdd,Int.cast_ofNat_Int,ha,hb,Int.reduceBEq,Int.reduceBNe,Int.reduceGT,Int.reduceLT,decide_true,decide_false];cases c0:(va==0)with
     |true=>
      have:pT va vb=0:=by unfold pT;rw[c0];rfl
      rw[this];simp only[go_sem,bM,mC,mN,lC,lN,zA,Nat.reduceAdd,Int.cast_ofNat_Int,ha,hb,Int.reduceBEq,Int.reduceBNe,Int.reduceGT,Int.reduceLT,decide_true,decide_false];try rfl
     |false=>simp only[go_sem,bM,mC,mN,lC,lN,zA,Nat.reduceAdd,Int.cast_ofNat_Int,ha,hb,Int.reduceBEq,Int.reduceBNe,Int.reduceGT,Int.reduceLT,decide_true,decide_false];refine⟨by simp,?_⟩;refine aR nM ?_;simp only[go_sem,bM,mC,mN,lC,lN,zA,Nat.reduceAdd,Int.cast_ofNat_Int,ha,hb,Int.reduceBEq,Int.reduceBNe,Int.reduceGT,Int.reduceLT,decide_true,decide_false];refine aR (hand _ _) ?_;simp only[go_sem,bM,mC,mN,lC,lN,zA,Nat.reduceAdd,Int.cast_ofNat_Int,ha,hb,Int.reduceBEq,Int.reduceBNe,Int.reduceGT,Int.reduceLT,decide_true,decide_false];try rfl
    ·subst h;simp only[xZ,go_sem,bM,mC,mN,lC,lN,zA,Nat.reduceAdd,Int.cast_ofNat_Int,ha,hb,Int.reduceBEq,Int.reduceBNe,Int.reduceGT,Int.reduceLT,decide_true,decide_false];refine⟨by simp,?_⟩;refine aR my ?_;simp only[go_sem,bM,mC,mN,lC,lN,zA,Nat.reduceAdd,Int.cast_ofNat_Int,ha,hb,Int.reduceBEq,Int.reduceBNe,Int.reduceGT,Int.reduceLT,decide_true,decide_false];refine⟨by simp,?_⟩;refine aR nM ?_;simp only[go_sem,bM,mC,mN,lC,lN,zA,Nat.reduceAdd,Int.cast_ofNat_Int,ha,hb,Int.reduceBEq,Int.reduceBNe,Int.reduceGT,Int.reduceLT,decide_true,decide_false];refine aR B5 ?_;simp only[go_sem,bM,mC,mN,lC,lN,zA,Nat.reduceAdd,Int.cast_ofNat_Int,ha,hb,Int.reduceBEq,Int.reduceBNe,Int.reduceGT,Int.reduceLT,decide_true,decide_false];refine aR Mu ?_;simp only[go_sem,bM,mC,mN,lC,lN,zA,Nat.reduceAdd,Int.cast_ofNat_Int,ha,hb,Int.reduceBEq,Int.reduceBNe,Int.reduceGT,Int.reduceLT,decide_true,decide_false];refine aR (hand _ _) ?_;simp only[go_sem,bM,mC,mN,lC,lN,zA,Nat.reduceAdd,Int.cast_ofNat_Int,ha,hb,Int.reduceBEq,Int.reduceBNe,Int.reduceGT,Int.reduceLT,decide_true,decide_false];refine aR A6 ?_;simp only[go_sem,bM,mC,mN,lC,lN,zA,Nat.reduceAdd,Int.cast_ofNat_Int,ha,hb,Int.reduceBEq,Int.reduceBNe,Int.reduceGT,Int.reduceLT,decide_true,decide_false];try rfl
    ·subst h;simp only[xZ,go_sem,bM,mC,mN,lC,lN,zA,Nat.reduceAdd,Int.cast_ofNat_Int,ha,hb,Int.reduceBEq,Int.reduceBNe,Int.reduceGT,Int.reduceLT,decide_true,decide_false];refine⟨by simp,?_⟩;refine aR my ?_;simp only[go_sem,bM,mC,mN,lC,lN,zA,Nat.reduceAdd,Int.cast_ofNat_Int,ha,hb,Int.reduceBEq,Int.reduceBNe,Int.reduceGT,Int.reduceLT,decide_true,decide_false];refine⟨by simp,?_⟩;refine aR nM ?_;simp only[go_sem,bM,mC,mN,lC,lN,zA,Nat.reduceAdd,Int.cast_ofNat_Int,ha,hb,Int.reduceBEq,Int.reduceBNe,Int.reduceGT,Int.reduceLT,decide_true,decide_false];refine aR Mu ?_;simp only[go_sem,bM,mC,mN,lC,lN,zA,Nat.reduceAdd,Int.cast_ofNat_Int,ha,hb,Int.reduceBEq,Int.reduceBNe,Int.reduceGT,Int.reduceLT,decide_true,decide_false];refine aR (hand _ _) ?_;simp only[go_sem,bM,mC,mN,lC,lN,zA,Nat.reduceAdd,Int.cast_ofNat_Int,ha,hb,Int.reduceBEq,Int.reduceBNe,Int.reduceGT,Int.reduceLT,decide_true,decide_false];refine aR wU ?_;simp only[go_sem,bM,mC,mN,lC,lN,zA,Nat.reduceAdd,Int.cast_ofNat_Int,ha,hb,Int.reduceBEq,Int.reduceBNe,Int.reduceGT,Int.reduceLT,decide_true,decide_false];try rfl
    ·subst h;simp only[xZ,go_sem,bM,mC,mN,lC,lN,zA,Nat.reduceAdd,Int.cast_ofNat_Int,ha,hb,Int.reduceBEq,Int.reduceBNe,Int.reduceGT,Int.reduceLT,decide_true,decide_false];refine⟨by simp,?_⟩;refine aR my ?_;simp only[go_sem,bM,mC,mN,lC,lN,zA,Nat.reduceAdd,Int.cast_ofNat_Int,ha,hb,Int.reduceBEq,Int.reduceBNe,Int.reduceGT,Int.reduceLT,decide_true,decide_false];refine⟨by simp,?_⟩;refine aR nM ?_;simp only[go_sem,bM,mC,mN,lC,lN,zA,Nat.reduceAdd,Int.cast_ofNat_Int,ha,hb,Int.reduceBEq,Int.reduceBNe,Int.reduceGT,Int.reduceLT,decide_true,decide_false];cases c0:(decide (va<0)||decide (vb<0))with
     |true=>simp only[go_sem,bM,mC,mN,lC,lN,zA,Nat.reduceAdd,Int.cast_ofNat_Int,ha,hb,Int.reduceBEq,Int.reduceBNe,Int.reduceGT,Int.reduceLT,decide_true,decide_false];try rfl
     |false=>simp only[go_sem,bM,mC,mN,lC,lN,zA,Nat.reduceAdd,Int.cast_ofNat_Int,ha,hb,Int.reduceBEq,Int.reduceBNe,Int.reduceGT,Int.reduceLT,decide_true,decide_false];refine aR (B8 _) ?_;simp only[go_sem,bM,mC,mN,lC,lN,zA,Nat.reduceAdd,Int.cast_ofNat_Int,ha,hb,Int.reduceBEq,Int.reduceBNe,Int.reduceGT,Int.reduceLT,decide_true,decide_false];try rfl
  ·rw[aX];have ha:=Pred.bm a;have hb:=Pred.bm b;have sK:pO signs (a::b::c::r)=none:=rfl;have g0:decide (((a::b::c::r).length:Int)>0)=true:=by simp<;>omega
   have g1:(((a::b::c::r).length:Int)==1)=false:=by simp<;>omega
   have g2:(((a::b::c::r).length:Int) !=2)=true:=by simp<;>omega
   generalize mQ:a::b::c::r=ks at*
   simp only[sK,bM,Option.getD_none,Option.isSome_none]at kO;simp only[xZ,go_sem,bM,g0,g1,g2];cases c2:(o==2)with
   |true=>simp only[go_sem,g0];try rfl
   |false=>
    simp only[go_sem];cases Ge:(o==13)with
    |true=>simp only[go_sem];refine aR kO ?_;simp only[go_sem];try rfl
    |false=>
     simp only[go_sem];cases CW:(o==10)with
     |true=>simp only[go_sem];refine aR kO ?_;simp only[go_sem];try rfl
     |false=>
      simp only[go_sem];cases x4:(o==14)with
      |true=>simp only[go_sem,g1];try rfl
      |false=>simp only[go_sem,g1,g2];try rfl
end Go.Abs
end
section
namespace Go.Abs
def fv:List CV→List (List D)
 |[.agg (.int _ o:: .str s::_)]=>if o==3 then[[.str s]]else[]
 |_=>[]
variable{E:ax}(Z:Sys E)
include Z
end Go.Abs
end
section
namespace Go.Abs
open Go.RowKit Go.Sort Go.Proofs
theorem tF.plain{P G f args sz es}(h:tF P G f args none sz es):Er P G f args (.one (.aw es)):=by
 refine⟨h.1,fun w S aW hl hg ha=>?_⟩;refine(h.2 w S aW [] hl hg ha rfl).mono ?_
 rintro e w' ⟨v,S',rfl,h1,_,_,hb,hk,hn,hv⟩
 have xK:∀b,mZ P w [] b→w.heap.size≤b:=fun b h=>by rcases h with h|⟨h,_⟩;exact h;cases h
 exact⟨v,S',rfl,h1,⟨hb.os,hb.tape,hb.output,hb.size,fun k hk=>hb.block k fun ho=>by have:=xK k ho;omega⟩,fun b o hs=>(hk b o hs).1,fun b o hs=>(hn b o hs).imp id (xK b),hv⟩
end Go.Abs
end
section
namespace Go.Abs
def nK(l:List Pred)(p:Pred):Bool:=l.any fun y=>p.same y
theorem yk5(a b:Pred):a.same b=b.same a:=by
 rw[Bool.eq_iff_iff,Pred.wz,Pred.wz];exact eq_comm
theorem yqo{done r l k p}(hl:l=done++k::r)(h:∀y∈done,p.same y=false):nK l p=if p.same k then true else nK r p:=by
 subst hl;unfold nK;rw[List.any_append,List.any_cons];have:done.any (fun y=>p.same y)=false:=by rw[List.any_eq_false];intro y hy;rw[h y hy];simp
 rw[this,Bool.false_or];cases p.same k<;>rfl
theorem ykk{l p}(h:∀y∈l,p.same y=false):nK l p=false:=by
 unfold nK;rw[List.any_eq_false];intro y hy;rw[h y hy];simp
def au(t:Int):Pred→List Pred→List Pred
 |.mk o s n ks,l=>if o==t&&!nK (nv ks l) (.mk o s n ks)then nv ks l++[.mk o s n ks]else nv ks l
where
 nv:List Pred→List Pred→List Pred
 |[],l=>l
 |k::ks,l=>nv ks (au t k l)
theorem yv2(t)(ks l):au.nv t ks l=ks.foldl (fun l k=>au t k l) l:=by
 induction ks generalizing l with
 |nil=>rw[au.nv];rfl
 |cons k ks ih=>rw[au.nv,ih];rfl
theorem Hi(t o)(s:aD)(n)(ks l):au t (.mk o s n ks) l=
  if o==t&&!nK (ks.foldl (fun l k=>au t k l) l) (.mk o s n ks)then ks.foldl (fun l k=>au t k l) l++[.mk o s n ks]else ks.foldl (fun l k=>au t k l) l:=by
 rw[au,yv2]
theorem Pf(t):∀ks l,(∀k∈ks,∀l,(au t k l).length≤l.length+k.cX)→(ks.foldl (fun l k=>au t k l) l).length≤l.length+Pred.bw ks
 |[],l,_=>by simp
 |k::ks,l,h=>by rw[List.foldl_cons,Pred.bw];have h1:=Pf t ks (au t k l) fun y hy=>h y (by simp[hy]);have h2:=h k (by simp) l;omega
theorem HY(t)(p):∀l,(au t p l).length≤l.length+p.cX:=by
 induction p using Pred.ind with
 |h o s n ks ih=>
 intro l;have h:=Pf t ks l ih;rw[Hi,Pred.cX];split
 ·rw[lA,List.length_singleton];omega
 ·omega
end Go.Abs
end
section
namespace Go.Abs
structure ug where
 name:aD
 pred:Pred
def ug.cells(v:ug):List D:=.str v.name::v.pred.cells
theorem sub_one{x b o}{s:aD}{n ks}:kD [x] [b] (.mk o s n ks)=if o==3&&s==x then b else .mk o s n (ks.map (kD [x] [b])):=by
 rw[yWZ];have e:(decide (fj s 0 [x]≥0)&&decide (fj s 0 [x]<(([b]:List Pred).length:Int)))=(s==x):=by
  unfold fj;by_cases h:x=s
  ·subst h;simp
  ·simp only[h,if_false,beq_eq_false_iff_ne.2 (fun e:s=x=>h e.symm)];unfold fj;rfl
 rw[e];by_cases h:(o==3&&s==x)=true
 ·rw[if_pos h,if_pos h];have hs:s=x:=by simp at h;exact h.2
  subst hs;unfold fj;simp
 ·rw[if_neg h,if_neg h]
theorem yXZ{l:List Pred}{f}(h:∀k∈l,f k=k):l.map f=l:=by
 induction l with
 |nil=>rfl
 |cons k l ih=>rw[mC,h k (by simp),ih fun y hy=>h y (by simp[hy])]
def Ps:Pred→Prop:=cW fun q=>q.op=3→q.kids=[]∧q.n=0
theorem sub_self{x}(p)(h:Ps p):kD [x] [.mk 3 x 0 []] p=p:=by
 induction p using Pred.ind with
 |h o s n ks ih=>
 rw[sub_one];by_cases hc:(o==3&&s==x)=true
 ·rw[if_pos hc];simp at hc;obtain⟨rfl,rfl⟩:=hc;obtain⟨h1,h2⟩:=h.top rfl;simp only[Pred.kids,Pred.n]at h1 h2;rw[h1,h2]
 ·rw[if_neg hc,yXZ fun k hk=>ih k hk (h.ej hk)]
end Go.Abs
end
section
namespace Go.Abs
theorem yj2(a b):Pred.bw (a++b)=Pred.bw a+Pred.bw b:=by
 induction a with
 |nil=>simp[Pred.bw]
 |cons x a ih=>rw[List.cons_append,Pred.bw,Pred.bw,ih];omega
end Go.Abs
end
section
namespace Go.Abs
variable{E:ax}(Z:Sys E)
include Z
theorem yjd(l)(p):E.C Lm [.one (.aw (l.map Pred.cells)),.agg p.cells,.one (.clo tN [])] (.one (.bool (nK l p))):=by
 have hs:=CO Z p;refine Z.Lm _ _ ⟨bn rfl,?_⟩;generalize hR:nK l p=R;obtain⟨o,s,n,ks⟩:=p;rw[Pred.bm (.mk o s n ks)]at*
 simp only[zvX,go_sem,Pred.op,Pred.name,Pred.n,Pred.kids]at hs⊢;intro hlen;refine gU l (fun done=>∀y∈done,(Pred.mk o s n ks).same y=false) (fun done rest=>⟨[(11,.d (.int .i64 done.length)),(10,.d (.int .i64 l.length)),(9,.d (.aw (l.map Pred.cells))),(4,.ptr 4 0),(2,.d (.clo tN []))],[(4,[.d (.int .i64 o),.d (.str s),.d (.int .i64 n),.d (.aw (ks.map Pred.cells))])],[]⟩) ?_ (by simp) ?_ ?_
 ·exact dG (by simp only[go_sem,oS])
 ·intro done k r hl hI;have bf:=gw hl;have hw:IntKind.i64.wrap ((done.length:Int)+1)=((done.length+1:Nat):Int):=gn (by omega);rw[yqo hl hI]at hR;simp only[UN,go_sem,bf,rJ hl,lM,On];refine aR (hs k) ?_;cases c0:(Pred.mk o s n ks).same k with
  |true=>simp only[c0,go_sem]at hR⊢;exact hR
  |false=>simp only[go_sem,hw,lA];exact⟨dG (by simp only[go_sem,oS]),qi hI c0⟩
 ·intro hI;rw[ykk hI]at hR;simp only[UN,go_sem,←hR]
theorem yZZ(l)(p):E.C zVq [.one (.aw (l.map Pred.cells)),.agg p.cells] (.one (.bool (nK l p))):=by
 have hs:=V9 Z;refine Z.zVq _ _ ⟨bn rfl,?_⟩;generalize hR:nK l p=R;obtain⟨o,s,n,ks⟩:=p;have hs:=fun k=>hs k (.mk o s n ks);rw[Pred.bm (.mk o s n ks)]at*
 simp only[yyu,go_sem,Pred.op,Pred.name,Pred.n,Pred.kids]at hs⊢;intro hlen;refine gU l (fun done=>∀y∈done,(Pred.mk o s n ks).same y=false) (fun done rest=>⟨[(9,.d (.int .i64 done.length)),(8,.d (.int .i64 l.length)),(7,.d (.aw (l.map Pred.cells))),(3,.ptr 3 0)],[(3,[.d (.int .i64 o),.d (.str s),.d (.int .i64 n),.d (.aw (ks.map Pred.cells))])],[]⟩) ?_ (by simp) ?_ ?_
 ·exact dG (by simp only[go_sem,oS])
 ·intro done k r hl hI;have bf:=gw hl;have hw:IntKind.i64.wrap ((done.length:Int)+1)=((done.length+1:Nat):Int):=gn (by omega);rw[yqo hl hI,yk5]at hR;simp only[zZB,go_sem,bf,rJ hl,lM,On];refine aR (hs k) ?_;cases c0:k.same (Pred.mk o s n ks)with
  |true=>simp only[c0,go_sem]at hR⊢;exact hR
  |false=>simp only[go_sem,hw,lA];exact⟨dG (by simp only[go_sem,oS]),qi hI (by rw[yk5];exact c0)⟩
 ·intro hI;rw[ykk hI]at hR;simp only[zZB,go_sem,←hR]
theorem zKD(t)(p)(hp:dS p):∀l:List Pred,l.length+p.cX≤1073741824→E.C F1 [.agg p.cells,.one (.int .i64 t),.one (.aw (l.map Pred.cells))] (.own (some 2) 4 ((au t p l).map Pred.cells)):=by
 induction p using Pred.ind with
 |h o s n ks ih=>
 intro l hn;have Qi:=zX6 Z _ hp;have ve:=fun l=>yjd Z l (.mk o s n ks);refine Z.F1 _ _ ⟨bn rfl,?_⟩;have ye:=Pf t;generalize hR:au t (.mk o s n ks) l=R;rw[Hi]at hR;rw[Pred.cX]at hn;rw[Pred.bm (.mk o s n ks)]at*
 have ic:T4.rs=[.t 6]:=rfl;simp only[T4,go_sem,Pred.op,Pred.name,Pred.n,Pred.kids]at Qi ve⊢;intro hlen;refine AE fun K' hK=>?_;refine gU ks (fun _=>True) (fun done rest=>⟨[(12,.d (.int .i64 done.length)),(11,.d (.int .i64 ks.length)),(10,.d (.aw (ks.map Pred.cells))),(1,.d (.int .i64 t)),(2,.own 2 4 ((done.foldl (fun l k=>au t k l) l).map Pred.cells)),(3,.ptr 3 0)],[(3,[.d (.int .i64 o),.d (.str s),.d (.int .i64 n),.d (.aw (ks.map Pred.cells))])],[(2,true)]⟩) ?_ trivial ?_ ?_
 ·exact jP [(2,2)] (by simp only[go_sem,cN,oS,List.foldl_nil])
 ·intro done k r hl _;have fR:=ih k (by rw[hl];simp) (hp.ej (by rw[hl];simp)) (done.foldl (fun l k=>au t k l) l) (by
   have h1:=ye done l fun k _ l=>HY t k l;have h2:Pred.bw ks=Pred.bw done+(k.cX+Pred.bw r):=by rw[hl,yj2,Pred.bw]
   omega)
  have bf:=gw hl;have hw:IntKind.i64.wrap ((done.length:Int)+1)=((done.length+1:Nat):Int):=gn (by omega);simp only[Uv,go_sem,bf,rJ hl,lM,On];refine aR fR ?_;simp only[go_sem,hw,lA];refine jP [(2,19)] ?_;simp only[go_sem,cN,oS,List.foldl_append,List.foldl_cons,List.foldl_nil]
 ·intro _;have h1:=ye ks l fun k _ l=>HY t k l;generalize ks.foldl (fun l k=>au t k l) l=m at*
  simp only[Uv,go_sem,hK];cases c0:(o==t)with
  |false=>simp only[c0,go_sem]at hR⊢;refine⟨.one (.bool false),?_⟩;simp only[go_sem,ic,hR]
  |true=>
   simp only[c0,go_sem]at hR⊢;refine aR (ve m) ?_;simp only[go_sem];cases c1:nK m (.mk o s n ks)with
   |true=>simp only[c1,go_sem]at hR⊢;simp only[ic,hR,go_sem]
   |false=>
    simp only[c1,go_sem]at hR⊢;refine aR Qi ?_;have ha:(m.length+1)*56≤2^46:=by omega
    simp only[go_sem,lM,Pred.yt,ha];refine⟨⟨by simp,by omega⟩,?_⟩;rw[←hR];simp only[ic,go_sem,mA,mC,mN,Pred.bm (.mk o s n ks),Pred.op,Pred.name,Pred.n,Pred.kids]
end Go.Abs
end
section
namespace Go.Abs
variable{E:ax}(Z:Sys E)
include Z
theorem zX7(t)(p):∀l:List Pred,l.length+p.cX≤1073741824→E.C UJ [.agg p.cells,.one (.int .i64 t),.one (.aw (l.map Pred.cells))] (.own (some 2) 4 ((au t p l).map Pred.cells)):=by
 induction p using Pred.ind with
 |h o s n ks ih=>
 intro l hn;have ve:=fun l=>yZZ Z l (.mk o s n ks);refine Z.UJ _ _ ⟨bn rfl,?_⟩;have ye:=Pf t;generalize hR:au t (.mk o s n ks) l=R;rw[Hi]at hR;rw[Pred.cX]at hn;rw[Pred.bm (.mk o s n ks)]at*
 have ic:zqm.rs=[.t 6]:=rfl;simp only[zqm,go_sem,Pred.op,Pred.name,Pred.n,Pred.kids]at ve⊢;intro hlen;refine AE fun K' hK=>?_;refine gU ks (fun _=>True) (fun done rest=>⟨[(12,.d (.int .i64 done.length)),(11,.d (.int .i64 ks.length)),(10,.d (.aw (ks.map Pred.cells))),(1,.d (.int .i64 t)),(2,.own 2 4 ((done.foldl (fun l k=>au t k l) l).map Pred.cells)),(3,.ptr 3 0)],[(3,[.d (.int .i64 o),.d (.str s),.d (.int .i64 n),.d (.aw (ks.map Pred.cells))])],[(2,true)]⟩) ?_ trivial ?_ ?_
 ·exact jP [(2,2)] (by simp only[go_sem,cN,oS,List.foldl_nil])
 ·intro done k r hl _;have fR:=ih k (by rw[hl];simp) (done.foldl (fun l k=>au t k l) l) (by
   have h1:=ye done l fun k _ l=>HY t k l;have h2:Pred.bw ks=Pred.bw done+(k.cX+Pred.bw r):=by rw[hl,yj2,Pred.bw]
   omega)
  have bf:=gw hl;have hw:IntKind.i64.wrap ((done.length:Int)+1)=((done.length+1:Nat):Int):=gn (by omega);simp only[zkZ,go_sem,bf,rJ hl,lM,On];refine aR fR ?_;simp only[go_sem,hw,lA];refine jP [(2,19)] ?_;simp only[go_sem,cN,oS,List.foldl_append,List.foldl_cons,List.foldl_nil]
 ·intro _;have h1:=ye ks l fun k _ l=>HY t k l;generalize ks.foldl (fun l k=>au t k l) l=m at*
  simp only[zkZ,go_sem,hK];cases c0:(o==t)with
  |false=>simp only[c0,go_sem]at hR⊢;refine⟨.one (.bool false),?_⟩;simp only[go_sem,ic,hR]
  |true=>
   simp only[c0,go_sem]at hR⊢;refine aR (ve m) ?_;simp only[go_sem];cases c1:nK m (.mk o s n ks)with
   |true=>simp only[c1,go_sem]at hR⊢;simp only[ic,hR,go_sem]
   |false=>
    simp only[c1,go_sem]at hR⊢;have ha:(m.length+1)*56≤2^46:=by omega
    simp only[go_sem,lM,Pred.yt,ha];refine⟨⟨by simp,by omega⟩,?_⟩;rw[←hR];simp only[ic,go_sem,mA,mC,mN,Pred.bm (.mk o s n ks),Pred.op,Pred.name,Pred.n,Pred.kids]
theorem NY(p)(hp:dS p)(hn:p.cX≤1073741824):E.C DY [.agg p.cells] (.one (.aw ((au 4 p []).map Pred.cells))):=by
 have h:=zKD Z 4 p hp [] (by simpa using hn);refine Z.DY _ _ ⟨bn rfl,?_⟩;generalize au 4 p []=R at*
 rw[Pred.bm p]at*
 simp only[zVT,go_sem];refine aR h ?_;simp only[go_sem,List.not_mem_nil,false_implies,implies_true]
theorem yx9(p)(hp:dS p)(hn:p.cX≤1073741824):E.C KK [.agg p.cells] (.one (.aw ((au 5 p []).map Pred.cells))):=by
 have h:=zKD Z 5 p hp [] (by simpa using hn);refine Z.KK _ _ ⟨bn rfl,?_⟩;generalize au 5 p []=R at*
 rw[Pred.bm p]at*
 simp only[zKf,go_sem];refine aR h ?_;simp only[go_sem,List.not_mem_nil,false_implies,implies_true]
theorem yzn(p)(hn:p.cX≤1073741824):E.C zZL [.agg p.cells] (.one (.aw ((au 4 p []).map Pred.cells))):=by
 have h:=zX7 Z 4 p [] (by simpa using hn);refine Z.zZL _ _ ⟨bn rfl,?_⟩;generalize au 4 p []=R at*
 rw[Pred.bm p]at*
 simp only[zQt,go_sem];refine aR h ?_;simp only[go_sem,List.not_mem_nil,false_implies,implies_true]
theorem ykX(p)(hn:p.cX≤1073741824):E.C zZf [.agg p.cells] (.one (.aw ((au 5 p []).map Pred.cells))):=by
 have h:=zX7 Z 5 p [] (by simpa using hn);refine Z.zZf _ _ ⟨bn rfl,?_⟩;generalize au 5 p []=R at*
 rw[Pred.bm p]at*
 simp only[zV7,go_sem];refine aR h ?_;simp only[go_sem,List.not_mem_nil,false_implies,implies_true]
end Go.Abs
end
section
namespace Go.Abs
theorem ug.lens(l:List ug):(∀e∈l.map ug.cells,e.length=5)=True:=Bj (f:=ug.cells) (fun s=>by simp[ug.cells,Pred.mV]) l
attribute [go_sem] ug.lens
variable{E:ax}(Z:Sys E)
include Z
end Go.Abs
end
section
namespace Go.Abs
theorem and_false{l done r k}(hl:l=done++k::r)(hk:k.same dv=true):ig l=dv:=by
 unfold ig;have:l.any isFalse=true:=by rw[hl,List.any_append,List.any_cons,zVb,hk];simp
 rw[if_pos this]
end Go.Abs
end
section
namespace Go.Abs
theorem zVx{E a b c d Q st}(h:∀N,N=cx E d Q→cx E a (jl (cx E b (jl (cx E c (jl N Q)) Q)) Q) st):cx E (.seq a (.seq b (.seq c d))) Q st:=h _ rfl
def jr:aD:=[116,114,117,101]
def fQ:aD:=[102,97,108,115,101]
def kS:List aD:=[[43],[45],[42],[45],[61],[33,61],[60],[60,61],[33],[38],[124],[61,62],[60,61,62]]
def iR(o:Int):aD:=if decide (o<6)||decide (o>18)then[]else kS.getD (o-6).toNat []
def iM(o:Int)(s:aD):aD:=if o==4 then s else if o==5 then 63::s else iR o
def aU:Pred→aD
 |.mk o s n ks=>if o==1 then Lib.itoa n else if o==2 then(if n==1 then jr else fQ)else if o==3 then s else iM o s++[40]++Lib.join (tp ks) [44]++[41]
where tp:List Pred→List aD
 |[]=>[]
 |k::ks=>aU k::tp ks
theorem yX3(ks):aU.tp ks=ks.map aU:=by
 induction ks with
 |nil=>rfl
 |cons k ks ih=>rw[aU.tp,ih];rfl
theorem Ha(o)(s:aD)(n)(ks):aU (.mk o s n ks)=if o==1 then Lib.itoa n else if o==2 then(if n==1 then jr else fQ)else if o==3 then s else iM o s++[40]++Lib.join (ks.map aU) [44]++[41]:=by
 rw[aU,yX3]
def kF:Pred→Prop:=cW fun q=>nG q.op∧nG q.n
theorem yk6(o):(iR o).length≤3:=by
 unfold iR;split
 ·simp
 ·have:∀k,(kS.getD k []).length≤3:=by
    intro k;rcases Nat.lt_or_ge k 13 with h|h
    ·have:∀k,k<13→(kS.getD k []).length≤3:=by decide
     exact this k h
    ·rw[List.getD_eq_getElem?_getD,List.getElem?_eq_none (by exact h)];simp
  exact this _
theorem yXw(o)(s):(iM o s).length≤s.length+3:=by
 unfold iM;split
 ·omega
 ·split
  ·simp
  ·have:=yk6 o;omega
theorem yqw:∀l:List aD,(Lib.join l [44]).length≤(l.map List.length).sum+l.length
 |[]=>by rw[Lib.join_nil];simp
 |x::r=>by
  rw[Lib.join_cons];have:∀r:List aD,(Lib.joinTail [44] r).length≤(r.map List.length).sum+r.length:=by
   intro r;unfold Lib.joinTail;induction r with
   |nil=>simp
   |cons y r ih=>simp at ih⊢;omega
  have:=this r;simp;omega
theorem zVj(p):kF p→(aU p).length+1≤32*p.sz:=by
 induction p using Pred.ind with
 |h o s n ks ih=>
 intro hi;rw[Ha,Pred.sz];have hn:=hi.top.2;have hit:=Lib.itoa_length_le n hn.1 hn.2;have hh:=yXw o s;have hj:=yqw (ks.map aU);have hs:∀l:List Pred,(∀k∈l,(aU k).length+1≤32*k.sz)→((l.map aU).map List.length).sum+l.length≤32*Pred.lS l:=by
  intro l;induction l with
  |nil=>intro _;simp[Pred.lS]
  |cons k l p6=>intro h;have h1:=h k (by simp);have h2:=p6 fun x hx=>h x (by simp[hx]);rw[Pred.lS];simp only[mC,List.sum_cons,lC]at h2⊢;omega
 have hs:=hs ks fun k hk=>ih k hk (hi.ej hk);split
 ·omega
 ·split
  ·split
   ·simp only[jr,lC,lN];omega
   ·simp only[fQ,lC,lN];omega
  ·split
   ·omega
   ·simp only[lA,lC,lN,lM]at hj⊢;omega
theorem Az{ks k}(h:k∈ks):k.sz≤Pred.lS ks:=by
 induction ks with
 |nil=>cases h
 |cons x ks ih=>
  rw[Pred.lS];rcases List.mem_cons.1 h with rfl|h
  ·omega
  ·have:=ih h;omega
theorem BD{o}{s:aD}{n ks}:Pred.lS ks+s.length+5=(Pred.mk o s n ks).sz:=by rw[Pred.sz];omega
theorem NK(l):5*l.length≤Pred.lS l:=by
 induction l with
 |nil=>simp
 |cons k l ih=>
  have h3:5≤k.sz:=by obtain⟨_,_,_,_⟩:=k;rw[Pred.sz];omega
  rw[Pred.lS,lC];omega
def mK(E:ax):Prop:=∀(l:List aD) (sep:aD),l.length≤1048576→(Lib.join l sep).length≤140737488355328→E.C strings_Join [.one (.aw (l.map fun k=>[.str k])),.one (.str sep)] (.one (.str (Lib.join l sep)))
variable{E:ax}(Z:Sys E)
include Z
theorem zvA(b):E.C Lt [.one (.bool b)] (.one (.str (if b then jr else fQ))):=by refine Z.Lt _ _ ⟨bn rfl,?_⟩;cases b<;>simp only[zxz,go_sem,if_true]<;>rfl
theorem zXc(b):E.C Ll [.one (.bool b)] (.one (.str (if b then jr else fQ))):=by have h:=zvA Z b;refine Z.Ll _ _ ⟨bn rfl,?_⟩;simp only[zvy,go_sem];refine aR h ?_;simp only[go_sem]
omit Z in
theorem yxa{o:Int}(h:(decide (o<6)||decide (o>18))=false):o=6∨o=7∨o=8∨o=9∨o=10∨o=11∨o=12∨o=13∨o=14∨o=15∨o=16∨o=17∨o=18:=by
 simp at h;omega
omit Z in
theorem yKd{o:Int}(h:nG o)(h6:¬o<6):IntKind.i64.wrap (o-6)=o-6:=i64_in _ (by unfold nG at h;omega)
theorem yxv(o)(ho:nG o):E.C K5 [.one (.int .i64 o)] (.one (.str (iR o))):=by
 refine Z.K5 _ _ ⟨bn rfl,?_⟩;generalize hR:iR o=R;unfold iR at hR;by_cases h6:o<6
 ·have c6:decide (o<6)=true:=decide_eq_true h6;rw[c6]at hR;subst hR;simp only[Ot,go_sem,c6];try rfl
 ·have c6:decide (o<6)=false:=decide_eq_false h6;have hw:=yKd ho h6;by_cases WI:o>18
  ·have HP:decide (o>18)=true:=decide_eq_true WI;have c19:decide (o-6≥13)=true:=decide_eq_true (by omega);rw[c6,HP]at hR;subst hR;simp only[Ot,go_sem,c6,hw,c19];try rfl
  ·have HP:decide (o>18)=false:=decide_eq_false WI;have hc:(decide (o<6)||decide (o>18))=false:=by rw[c6,HP];rfl
   subst hR;rcases yxa hc with h|h|h|h|h|h|h|h|h|h|h|h|h<;>subst h<;>simp only[Int.reduceSub]at hw<;>(simp only[Ot,go_sem,hw,Int.reduceSub,Int.reduceToNat,Int.reduceLT,Int.reduceLE,Int.reduceGE,zA,Nat.mul_one];try rfl)
theorem yju(o)(ho:nG o):E.C zXG [.one (.int .i64 o)] (.one (.str (iR o))):=by
 refine Z.zXG _ _ ⟨bn rfl,?_⟩;generalize hR:iR o=R;unfold iR at hR;by_cases hc:(decide (o<6)||decide (o>18))=true
 ·rw[hc]at hR;subst hR;simp only[zWl,go_sem];cases c6:decide (o<6)with
  |true=>simp only[go_sem];try rfl
  |false=>
   have HP:decide (o>18)=true:=by simpa[c6]using hc
   simp only[go_sem,HP];try rfl
 ·have hc:(decide (o<6)||decide (o>18))=false:=by simpa using hc
  subst hR;have h6:¬o<6:=by simp at hc;omega
  have hw:=yKd ho h6;rcases yxa hc with h|h|h|h|h|h|h|h|h|h|h|h|h<;>subst h<;>simp only[Int.reduceSub]at hw<;>(simp only[zWl,go_sem,hw,Int.reduceSub,Int.reduceToNat,Int.reduceLT,Int.reduceLE,Int.reduceGT];exact⟨by simp,rfl⟩)
set_option maxHeartbeats 2000000 in
theorem LR(hI:fu E)(hJ:mK E)(p):kF p→p.sz≤1048576→E.C BI [.agg p.cells] (.one (.str (aU p))):=by
 induction p using Pred.ind with
 |h o s n ks ih=>
 intro hi hz;have si:=yxv Z o hi.top.1;have gx:=hI n hi.top.2;have Xh:=fun b=>zXc Z b;have I7:=zVj _ hi;have cU:=@BD o s n ks;refine Z.BI _ _ ⟨bn rfl,?_⟩;rw[Pred.bm];generalize hR:aU (.mk o s n ks)=R at*
 rw[Ha]at hR;simp only[zW4,Pred.op,Pred.name,Pred.n,Pred.kids];refine zVx fun N hN=>?_;have tail:∀(hd:aD),R=hd++[40]++Lib.join (ks.map aU) [44]++[41]→∀cH:St,aC cH.ae 1=.ptr 1 0→aC cH.ae 3=.d (.str hd)→cH.mem=[(1,[.d (.int .i64 o),.d (.str s),.d (.int .i64 n),.d (.aw (ks.map Pred.cells))])]→cH.tk=[]→N cH:=by
  intro hd hR cH e1 e3 em et;subst hN;simp only[go_sem,e1,e3,em,et];intro hlen;refine gU ks (fun _=>True) (fun done rest=>⟨[(39,.d (.int .i64 done.length)),(38,.d (.int .i64 ks.length)),(37,.d (.aw (ks.map Pred.cells))),(3,.d (.str hd)),(4,.own 4 1 (done.map fun k=>[.str (aU k)]))],[],[(4,true)]⟩) ?_ trivial ?_ ?_
  ·exact Bp 4 4 1 [] [(4,4)] rfl (by simp) rfl (by simp only[jz,go_sem,cN,oS,mN,lN,nZ,e3])
  ·intro done k r hl _;have fR:=ih k (by rw[hl];simp) (hi.ej (by rw[hl];simp)) (by have:=Az (ks:=ks) (k:=k) (by rw[hl];simp);omega);have bf:=gw hl;have hw:IntKind.i64.wrap ((done.length:Int)+1)=((done.length+1:Nat):Int):=gn (by omega);have GQ:=NK ks;have sx:done.length<ks.length:=by rw[hl];simp
   simp only[Un,go_sem,bf,rJ hl];refine aR fR ?_;simp only[go_sem,hw,lA,lM];refine⟨⟨by simp,by omega,by omega⟩,jP [(4,47)] ?_⟩;simp only[go_sem,cN,oS,mA]
  ·intro _;have GQ:=NK ks;have A5:ks.map (fun k=>[D.str (aU k)])=(ks.map aU).map fun k=>[D.str k]:=by rw[List.map_map];rfl
   have hRl:R.length=hd.length+1+(Lib.join (ks.map aU) [44]).length+1:=by rw[hR];simp only[lA,lC,lN]
   have hj:=hJ (ks.map aU) [44] (by rw[lM];omega) (by omega);rw[←A5]at hj;simp only[Un,go_sem];refine⟨by omega,?_⟩;refine aR hj ?_;simp only[go_sem,lA];refine⟨by omega,by omega,?_⟩;rw[hR]
 by_cases h1:o=1
 ·subst h1;have qk:Lib.itoa n=R:=hR;subst qk;clear tail hN;simp only[go_sem,Int.reduceBEq];refine aR gx ?_;simp only[go_sem]
 by_cases h2:o=2
 ·subst h2;have qk:(if n==1 then jr else fQ)=R:=hR;subst qk;clear tail hN;simp only[go_sem,Int.reduceBEq];refine aR (Xh _) ?_;simp only[go_sem]
 by_cases h3:o=3
 ·subst h3;have qk:s=R:=hR;subst qk;clear tail hN;simp only[go_sem,Int.reduceBEq]
 have e1:(o==1)=false:=by simpa using h1
 have e2:(o==2)=false:=by simpa using h2
 have e3:(o==3)=false:=by simpa using h3
 simp only[e1,e2,e3,Bool.false_eq_true,if_false]at hR;by_cases h4:o=4
 ·subst h4;clear hN;simp only[go_sem,Int.reduceBEq];refine tail s hR.symm _ ?_ ?_ ?_ rfl<;>simp only[go_sem]
 by_cases h5:o=5
 ·subst h5;clear hN;have ol:0+1+s.length≤9223372036854775807:=by omega
  simp only[go_sem,Int.reduceBEq,ol];refine tail (63::s) hR.symm _ ?_ ?_ ?_ rfl<;>simp only[go_sem]
 ·have e4:(o==4)=false:=by simpa using h4
  have e5:(o==5)=false:=by simpa using h5
  have hh:iM o s=iR o:=by unfold iM;rw[e4,e5];rfl
  rw[hh]at hR;clear hN;simp only[go_sem,e1,e2,e3,e4,e5];refine aR si ?_;simp only[go_sem];refine tail (iR o) hR.symm _ ?_ ?_ ?_ rfl<;>simp only[go_sem]
end Go.Abs
end
section
namespace Go.Abs
theorem yXK(l:List aD)(x sep:aD):Lib.join (l++[x]) sep=if l=[]then x else Lib.join l sep++sep++x:=by
 cases l with
 |nil=>simp[Lib.join_one]
 |cons y l=>rw[List.cons_append,Lib.join_cons,Lib.join_cons];simp[Lib.joinTail]
theorem yQU(a b):Pred.lS (a++b)=Pred.lS a+Pred.lS b:=by
 induction a with
 |nil=>simp[Pred.lS]
 |cons x a ih=>rw[List.cons_append,Pred.lS,Pred.lS,ih];omega
theorem ykD(l)(h:∀k∈l,kF k):(Lib.join (l.map aU) [44]).length≤32*Pred.lS l:=by
 have h1:=yqw (l.map aU);have h2:((l.map aU).map List.length).sum+l.length≤32*Pred.lS l:=by
  clear h1;induction l with
  |nil=>simp[Pred.lS]
  |cons k l p6=>have h1:=zVj k (h k (by simp));have h2:=p6 fun x hx=>h x (by simp[hx]);rw[Pred.lS];simp only[mC,List.sum_cons,lC]at h2⊢;omega
 rw[lM]at h1;omega
def bZ:Pred→Pred
 |.mk o s n ks=>if o==4 then .mk 3 (aU (.mk o s n ks)) 0 []else .mk o s n (nY ks)
where nY:List Pred→List Pred
 |[]=>[]
 |k::ks=>bZ k::nY ks
theorem yK4(ks):bZ.nY ks=ks.map bZ:=by
 induction ks with
 |nil=>rfl
 |cons k ks ih=>rw[bZ.nY,ih];rfl
theorem O6(o)(s:aD)(n)(ks):bZ (.mk o s n ks)=if o==4 then .mk 3 (aU (.mk o s n ks)) 0 []else .mk o s n (ks.map bZ):=by
 rw[bZ,yK4]
theorem HT(p:Pred):p.cX≤p.sz:=by
 induction p using Pred.ind with
 |h o s n ks ih=>
 have:Pred.bw ks≤Pred.lS ks:=by
  induction ks with
  |nil=>simp[Pred.bw,Pred.lS]
  |cons k ks p6=>have h1:=ih k (by simp);have h2:=p6 fun x hx=>ih x (by simp[hx]);rw[Pred.bw,Pred.lS];omega
 rw[Pred.cX,Pred.sz];omega
variable{E:ax}(Z:Sys E)
include Z
set_option maxHeartbeats 2000000 in
theorem yzt(p):kF p→p.sz≤1048576→E.C V3 [.agg p.cells] (.one (.str (aU p))):=by
 induction p using Pred.ind with
 |h o s n ks ih=>
 intro hi hz;have si:=yju Z o hi.top.1;have gx:=zqH Z n hi.top.2.1 hi.top.2.2;have cU:=@BD o s n ks;have kC:=yk6 o;refine Z.V3 _ _ ⟨bn rfl,?_⟩;rw[Pred.bm];generalize hR:aU (.mk o s n ks)=R at*
 rw[Ha]at hR;simp only[zQH,Pred.op,Pred.name,Pred.n,Pred.kids];refine zVx fun N hN=>?_;have tail:∀(hd:aD),hd.length≤s.length+3→R=hd++[40]++Lib.join (ks.map aU) [44]++[41]→∀cH:St,aC cH.ae 1=.ptr 1 0→aC cH.ae 3=.d (.str hd)→cH.mem=[(1,[.d (.int .i64 o),.d (.str s),.d (.int .i64 n),.d (.aw (ks.map Pred.cells))])]→cH.tk=[]→N cH:=by
  intro hd yy hR cH e1 e3 em et;subst hN;have o1:hd.length+(0+1)≤9223372036854775807:=by omega
  simp only[go_sem,e1,e3,em,et,o1];refine gU ks (fun _=>True) (fun done rest=>⟨[(4,.d (.int .i64 done.length)),(1,.ptr 1 0),(3,.d (.str (hd++[40]++Lib.join (done.map aU) [44])))],[(1,[.d (.int .i64 o),.d (.str s),.d (.int .i64 n),.d (.aw (ks.map Pred.cells))])],[]⟩) ?_ trivial ?_ ?_
  ·exact dG (by simp only[go_sem,oS,Lib.join_nil,e1,em,nZ])
  ·intro done k r hl _;have dQ:k∈ks:=by rw[hl];simp
   have fR:=ih k dQ (hi.ej dQ) (by have:=Az dQ;omega);have bf:=gw hl;have GQ:=NK ks;have tU:=ykD done fun x hx=>hi.ej (by rw[hl];simp[hx]);have HS:=zVj k (hi.ej dQ);have U9:Pred.lS done+(k.sz+Pred.lS r)=Pred.lS ks:=by rw[hl,yQU,Pred.lS]
   have sx:done.length<ks.length:=by rw[hl];simp
   have hw:IntKind.i64.wrap ((done.length:Int)+1)=((done.length+1:Nat):Int):=gn (by omega);have hjs:=yXK (done.map aU) (aU k) [44];have hms:(done++[k]).map aU=done.map aU++[aU k]:=by simp
   rw[hms,hjs];generalize aU k=nk at*
   generalize hjd:Lib.join (done.map aU) [44]=jd at*
   simp only[zqt,go_sem,bf,rJ hl,lM];cases done with
   |nil=>
    have hd0:decide (((0:Nat):Int)>0)=false:=rfl;have o2:(hd++[40]++jd).length+nk.length≤9223372036854775807:=by simp only[lA,lC,lN];omega
    have hj0:jd=[]:=by rw[←hjd];rfl
    subst hj0;simp only[go_sem,hd0];intro _;refine aR fR ?_;simp only[go_sem,hw,mN];refine⟨by simp only[lA,lC,lN]at o2⊢;omega,?_⟩;exact dG (by simp only[go_sem,oS,YR,Int.natCast_one])
   |cons y done=>
    have hd0:decide (((y::done).length:Int)>0)=true:=by simp<;>omega
    have b6:((y::done).map aU=[])=False:=by simp
    have o2:(hd++[40]++jd).length+(0+1)≤9223372036854775807:=by simp only[lA,lC,lN];omega
    have o3:(hd++[40]++jd++[44]).length+nk.length≤9223372036854775807:=by simp only[lA,lC,lN];omega
    generalize y::done=dn at*
    simp only[go_sem,hd0];intro _;refine⟨by omega,?_⟩;refine aR fR ?_;simp only[go_sem,hw,b6,if_false];refine⟨by simp only[lA,lC,lN]at o3⊢;omega,?_⟩;exact dG (by simp only[go_sem,oS,List.append_assoc,lA])
  ·intro _;have tU:=ykD ks fun x hx=>hi.ej hx;have o2:(hd++[40]++Lib.join (ks.map aU) [44]).length+(0+1)≤9223372036854775807:=by simp only[lA,lC,lN];omega
   simp only[zqt,go_sem,lM,hR];intro _;omega
 by_cases h1:o=1
 ·subst h1;have qk:Lib.itoa n=R:=hR;subst qk;clear tail hN;simp only[go_sem];refine aR si ?_;simp only[go_sem,Int.reduceBEq];refine aR gx ?_;simp only[go_sem]
 by_cases h2:o=2
 ·subst h2;have qk:(if n==1 then jr else fQ)=R:=hR;subst qk;clear tail hN;simp only[go_sem];refine aR si ?_;cases c:(n==1)<;>simp only[go_sem,Int.reduceBEq,c,if_true]<;>rfl
 by_cases h3:o=3
 ·subst h3;have qk:s=R:=hR;subst qk;clear tail hN;simp only[go_sem];refine aR si ?_;simp only[go_sem,Int.reduceBEq]
 have e1:(o==1)=false:=by simpa using h1
 have e2:(o==2)=false:=by simpa using h2
 have e3:(o==3)=false:=by simpa using h3
 simp only[e1,e2,e3,Bool.false_eq_true,if_false]at hR;by_cases h4:o=4
 ·subst h4;clear hN;simp only[go_sem];refine aR si ?_;simp only[go_sem,Int.reduceBEq];refine tail s (by omega) hR.symm _ ?_ ?_ ?_ rfl<;>simp only[go_sem]
 by_cases h5:o=5
 ·subst h5;clear hN;have ol:0+1+s.length≤9223372036854775807:=by omega
  simp only[go_sem];refine aR si ?_;simp only[go_sem,Int.reduceBEq,ol];refine tail (63::s) (by simp) hR.symm _ ?_ ?_ ?_ rfl<;>simp only[go_sem]
 ·have e4:(o==4)=false:=by simpa using h4
  have e5:(o==5)=false:=by simpa using h5
  have hh:iM o s=iR o:=by unfold iM;rw[e4,e5];rfl
  rw[hh]at hR;clear hN;simp only[go_sem];refine aR si ?_;simp only[go_sem,e1,e2,e3,e4,e5];refine tail (iR o) (by omega) hR.symm _ ?_ ?_ ?_ rfl<;>simp only[go_sem]
theorem yxt(hI:fu E)(hJ:mK E)(p):kF p→p.sz≤1048576→E.C Hf [.agg p.cells] (.agg (bZ p).cells):=by
 induction p using Pred.ind with
 |h o s n ks ih=>
 intro hi hz;have fG:=LR Z hI hJ _ hi hz;have cU:=@BD o s n ks;have GQ:=NK ks;refine Z.Hf _ _ ⟨bn rfl,?_⟩;rw[O6];generalize aU (.mk o s n ks)=nm at*
 rw[Pred.bm (.mk o s n ks)]at fG⊢;simp only[Pred.op,Pred.name,Pred.n,Pred.kids]at fG⊢;cases c:(o==4)with
 |true=>simp only[T2,go_sem,c,if_true];refine aR fG ?_;simp only[go_sem,Pred.bm (.mk 3 nm 0 []),Pred.op,Pred.name,Pred.n,Pred.kids];try rfl
 |false=>
 simp only[T2,go_sem,c,if_false];intro hlen;refine gU ks (fun _=>True) (fun done rest=>⟨[(22,.d (.int .i64 done.length)),(21,.d (.int .i64 ks.length)),(20,.d (.aw (ks.map Pred.cells))),(3,.ptr 3 0),(2,.ptr 2 0)],[(3,[.d (.int .i64 o),.d (.str s),.d (.int .i64 n),.own 3 4 (done.map fun k=>(bZ k).cells)]),(2,[.d (.int .i64 0),.d (.str []),.d (.int .i64 0),.full []])],[(3,true)]⟩) ?_ trivial ?_ ?_
 ·exact Gz 3 3 3 4 _ [] [(3,3)] rfl rfl (by simp) rfl (by simp only[jz,go_sem,cN,oS,mN,nZ,lN])
 ·intro done k r hl _;have dQ:k∈ks:=by rw[hl];simp
  have fR:=ih k dQ (hi.ej dQ) (by have:=Az dQ;omega);have bf:=gw hl;have hd:done.length<ks.length:=by rw[hl];simp
  have hw:IntKind.i64.wrap ((done.length:Int)+1)=((done.length+1:Nat):Int):=gn (by omega);have yY:(done.length+1)*56≤2^46:=by omega
  have ht:(∀e∈done.map (fun k=>(bZ k).cells),e.length=4)=True:=eq_true (by simp[Pred.mV]);simp only[Up,go_sem,bf,rJ hl];refine aR fR ?_;simp only[go_sem,hw,lA,lM,mA,ht,Pred.mV];refine⟨⟨by simp[Pred.mV],yY,by omega⟩,jP [(3,31)] ?_⟩;simp only[go_sem,cN,oS]
 ·intro _;have ht:ks.map (fun k=>(bZ k).cells)=(ks.map bZ).map Pred.cells:=by rw[List.map_map];rfl
  simp only[Up,go_sem];rw[Pred.bm];simp only[go_sem,Pred.op,Pred.name,Pred.n,Pred.kids,ht]
theorem zZT(p):kF p→p.sz≤1048576→E.C Pg [.agg p.cells] (.agg (bZ p).cells):=by
 induction p using Pred.ind with
 |h o s n ks ih=>
 intro hi hz;have fG:=yzt Z _ hi hz;have cU:=@BD o s n ks;have GQ:=NK ks;refine Z.Pg _ _ ⟨bn rfl,?_⟩;rw[O6];generalize aU (.mk o s n ks)=nm at*
 rw[Pred.bm (.mk o s n ks)]at fG⊢;simp only[Pred.op,Pred.name,Pred.n,Pred.kids]at fG⊢;cases c:(o==4)with
 |true=>simp only[zWk,go_sem,c,if_true];refine aR fG ?_;simp only[go_sem,Pred.bm (.mk 3 nm 0 []),Pred.op,Pred.name,Pred.n,Pred.kids];try rfl
 |false=>
 simp only[zWk,go_sem,c,if_false];refine gU ks (fun _=>True) (fun done rest=>⟨[(4,.d (.int .i64 done.length)),(1,.ptr 1 0),(3,.ptr 3 0),(2,.ptr 2 0)],[(1,[.d (.int .i64 o),.d (.str s),.d (.int .i64 n),.d (.aw (ks.map Pred.cells))]),(3,[.d (.int .i64 o),.d (.str s),.d (.int .i64 n),.own 3 4 (done.map fun k=>(bZ k).cells)]),(2,[.d (.int .i64 0),.d (.str []),.d (.int .i64 0),.full []])],[(3,true)]⟩) ?_ trivial ?_ ?_
 ·exact Gz 3 3 3 4 _ [] [(3,3)] rfl rfl (by simp) rfl (by simp only[jz,go_sem,cN,oS,mN,nZ,lN])
 ·intro done k r hl _;have dQ:k∈ks:=by rw[hl];simp
  have fR:=ih k dQ (hi.ej dQ) (by have:=Az dQ;omega);have bf:=gw hl;have hd:done.length<ks.length:=by rw[hl];simp
  have hw:IntKind.i64.wrap ((done.length:Int)+1)=((done.length+1:Nat):Int):=gn (by omega);have yY:(done.length+1)*56≤2^46:=by omega
  have ht:(∀e∈done.map (fun k=>(bZ k).cells),e.length=4)=True:=eq_true (by simp[Pred.mV]);simp only[zqw,go_sem,bf,rJ hl,lM];intro _;refine aR fR ?_;simp only[go_sem,hw,lA,lM,mA,ht,Pred.mV];refine⟨⟨by simp[Pred.mV],yY,by omega⟩,jP [(3,34)] ?_⟩;simp only[go_sem,cN,oS]
 ·intro _;have ht:ks.map (fun k=>(bZ k).cells)=(ks.map bZ).map Pred.cells:=by rw[List.map_map];rfl
  simp only[zqw,go_sem,lM];rw[Pred.bm];simp only[go_sem,Pred.op,Pred.name,Pred.n,Pred.kids,ht]
theorem zWW(hI:fu E)(hJ:mK E)(p)(hi:kF p)(hz:p.sz≤1048576):E.C KS [.agg p.cells] (.tup [.agg (bZ p).cells,.one (.aw ((au 4 p []).map Pred.cells))]):=by
 have h0:=HT p;have h1:=yxt Z hI hJ p hi hz;have h2:=NY Z p (Eo p (by omega)) (by omega);refine Z.KS _ _ ⟨bn rfl,?_⟩;generalize bZ p=q at*
 simp only[Pred.bm]at h1 h2⊢;simp only[zW3,go_sem];refine⟨_,h1,?_⟩;simp only[go_sem];refine⟨_,h2,?_⟩;simp only[go_sem];try rfl
end Go.Abs
end
section
namespace Go.Abs
def iG(v:al)(p:Pred):aD:=(ff v p).1
def eU(v:al)(a b:List Pred):Bool:=a.map (iG v)==b.map (iG v)
def dN(v:al)(a b:Pred):Pred:=.mk (if(ff v a).2==0&&(ff v a).1==aL then 18 else 10) [] 0 [a,b]
def eS(v:al)(a b:Pred):List Pred:=
 if(a.op !=4||b.op !=4||a.name !=b.name||!eU v a.kids b.kids)then[]else[.mk 17 [] 0 [ig (List.zipWith (dN v) a.kids b.kids),dN v a b]]
def bD(v:al):List Pred→List Pred
 |[]=>[]
 |a::r=>r.flatMap (eS v a)++bD v r
theorem Z9{v a b}(h:eU v a b=true):a.length=b.length:=by
 have:a.map (iG v)=b.map (iG v):=by simpa[eU]using h
 simpa using congrArg List.length this
theorem VB{v}:∀{a b},a.length=b.length→eU v a b=(a.zip b).all fun q=>iG v q.1==iG v q.2
 |[],[],_=>rfl
 |x::a,y::b,h=>by have ih:=VB (v:=v) (a:=a) (b:=b) (by simpa using h);unfold eU at ih⊢;rw[mC,mC,List.zip_cons_cons,List.all_cons,←ih];rfl
 |[],y::b,h=>by simp at h
 |x::a,[],h=>by simp at h
theorem yz1{v a b}(h:a.length≠b.length):eU v a b=false:=by
 cases c:eU v a b with
 |false=>rfl
 |true=>exact absurd (Z9 c) h
variable{E:ax}(Z:Sys E)
include Z
theorem D7(o)(a b):E.C yr [.one (.int .i64 o),.agg a.cells,.agg b.cells] (.agg (Pred.mk o [] 0 [a,b]).cells):=by
 refine Z.yr _ _ ⟨bn rfl,?_⟩;rw[Pred.bm (.mk o [] 0 [a,b])];have ha:=Pred.bm a;have hb:=Pred.bm b;generalize a.cells=ca at*
 generalize b.cells=cb at*
 subst ha hb;simp only[zQj,go_sem,Pred.op,Pred.name,Pred.n,Pred.kids,Pred.bm a,Pred.bm b]
theorem K7(a):E.C Cy [.agg a.cells] (.agg (Pred.mk 14 [] 0 [a]).cells):=by refine Z.Cy _ _ ⟨bn rfl,?_⟩;rw[Pred.bm (.mk 14 [] 0 [a])];simp only[zVM,go_sem,Pred.op,Pred.name,Pred.n,Pred.kids,Pred.bm a]
theorem Lb(b):E.C D4 [.one (.bool b)] (.agg (if b then gX else dv).cells):=by refine Z.D4 _ _ ⟨bn rfl,?_⟩;cases b<;>simp only[zXQ,go_sem,if_true,if_false]<;>rfl
theorem zKU(v)(qj:∀p,E.C rF [.agg v.cells,.agg p.cells] (two (ff v p)))(a b):E.C Hw [.agg v.cells,.agg a.cells,.agg b.cells] (.agg (dN v a b).cells):=by
 have h1:=qj a;have h2:=fun o=>D7 Z o a b;refine Z.Hw _ _ ⟨bn rfl,?_⟩;unfold dN;generalize ff v a=R at*
 obtain⟨s,e⟩:=R;unfold two at h1;have ha:=Pred.bm a;have hb:=Pred.bm b;generalize wM:a.cells=ca at*
 generalize A2:b.cells=cb at*
 subst ha hb;simp only[al.cells]at h1⊢;simp only[zqS,go_sem];refine aR h1 ?_;simp only[go_sem];cases c1:(e==0)with
 |false=>simp only[go_sem,if_false];refine aR (h2 10) ?_;simp only[go_sem,Pred.bm (.mk 10 [] 0 [a,b])];try rfl
 |true=>
  cases c2:(s==aL)with
  |false=>have yL:(s==[66,111,111,108])=false:=c2;simp only[go_sem,if_false,yL];refine aR (h2 10) ?_;simp only[go_sem,Pred.bm (.mk 10 [] 0 [a,b])];try rfl
  |true=>have yL:(s==[66,111,111,108])=true:=c2;simp only[go_sem,if_true,yL];refine aR (h2 18) ?_;simp only[go_sem,Pred.bm (.mk 18 [] 0 [a,b])];try rfl
theorem yzx(v)(a b):E.C V8 [.agg v.cells,.agg a.cells,.agg b.cells] (.agg (dN v a b).cells):=by
 have h1:=zKG Z v a;refine Z.V8 _ _ ⟨bn rfl,?_⟩;unfold dN;generalize ff v a=R at*
 obtain⟨s,e⟩:=R;unfold two at h1;simp only[al.cells]at h1⊢;have ha:=Pred.bm a;have hb:=Pred.bm b;generalize wM:a.cells=ca at*
 generalize A2:b.cells=cb at*
 subst ha hb;simp only[zYL,go_sem];refine aR h1 ?_;simp only[go_sem];cases c1:(e==0)with
 |false=>simp only[go_sem,Bool.false_eq_true,if_false,Pred.bm (.mk 10 [] 0 [a,b]),Pred.op,Pred.name,Pred.n,Pred.kids,wM,A2]
 |true=>
  cases c2:(s==aL)with
  |false=>have yL:(s==[66,111,111,108])=false:=c2;simp only[go_sem,Bool.false_eq_true,if_false,yL,Pred.bm (.mk 10 [] 0 [a,b]),Pred.op,Pred.name,Pred.n,Pred.kids,wM,A2]
  |true=>have yL:(s==[66,111,111,108])=true:=c2;simp only[go_sem,if_true,yL,Pred.bm (.mk 18 [] 0 [a,b]),Pred.op,Pred.name,Pred.n,Pred.kids,wM,A2]
theorem zJp(v)(qj:∀p,E.C rF [.agg v.cells,.agg p.cells] (two (ff v p)))(a b):E.C Ea [.agg a.cells,.agg b.cells,.one (.ref v.cells)] (.one (.bool (iG v a==iG v b))):=by
 have h1:=qj a;have h2:=qj b;refine Z.Ea _ _ ⟨bn rfl,?_⟩;unfold iG;generalize ff v a=R at*
 generalize ff v b=S at*
 unfold two at h1 h2;have ha:=Pred.bm a;have hb:=Pred.bm b;generalize wM:a.cells=ca at*
 generalize A2:b.cells=cb at*
 subst ha hb;simp only[al.cells]at h1 h2⊢;simp only[zZ2,go_sem];refine aR h1 ?_;simp only[go_sem];refine aR h2 ?_;simp only[go_sem]
theorem yQg(v)(qj:∀p,E.C rF [.agg v.cells,.agg p.cells] (two (ff v p)))(a b):
  E.C Lv [.one (.aw (a.map Pred.cells)),.one (.aw (b.map Pred.cells)),.one (.clo Ea [.ref v.cells])] (.one (.bool (eU v a b))):=by
 have hf:=fun x y=>zJp Z v qj x y;refine Z.Lv _ _ ⟨bn rfl,?_⟩;generalize hR:eU v a b=R;simp only[zzM,go_sem];intro _ _;by_cases hl:a.length=b.length
 ·have c:((a.length:Int) !=(b.length:Int))=false:=by simp[hl]
  rw[VB hl]at hR;simp only[go_sem,c];intro _;have Fk:(a.zip b).length=a.length:=by rw[List.length_zip,hl,Nat.min_self]
  generalize hz:a.zip b=zs at*
  refine gU zs (fun done=>done.all (fun q=>iG v q.1==iG v q.2)=true) (fun done rest=>⟨[(17,.d (.int .i64 done.length)),(16,.d (.int .i64 a.length)),(15,.d (.aw (a.map Pred.cells))),(1,.d (.aw (b.map Pred.cells))),(2,.d (.clo Ea [.ref v.cells]))],[],[]⟩) ?_ rfl ?_ ?_
  ·exact dG (by simp only[go_sem])
  ·intro done x r gC hI;obtain⟨fd,fr,sd,sr,e1,e2,e3,e4⟩:=HZ (hz.trans gC);have hx:=u4 (f:=Pred.cells) e1 e3;have hy:=u4 (f:=Pred.cells) e2 e4;have bf:=gw gC;have l1:((done.length:Int)<(a.length:Int))=True:=eq_true (by rw[e1,←e3];simp;omega);have l2:((done.length:Int)<(b.length:Int))=True:=eq_true (by rw[e2,←e4];simp;omega);have hw:IntKind.i64.wrap ((done.length:Int)+1)=((done.length+1:Nat):Int):=gn (by omega);rw[gC,List.all_append,hI,Bool.true_and,List.all_cons]at hR;have AK:=hf x.1 x.2;have ha:=Pred.bm x.1;have hb:=Pred.bm x.2;generalize x.1.cells=ca at*
   generalize x.2.cells=cb at*
   subst ha hb;simp only[UY,go_sem,hx,hy,l1,l2];refine aR AK ?_;cases c2:(iG v x.1==iG v x.2)with
   |true=>simp only[go_sem,hw,lA];refine⟨dG (by simp only[go_sem]),?_⟩;rw[List.all_append,hI,List.all_cons,c2];rfl
   |false=>rw[c2]at hR;simp only[go_sem]at hR⊢;exact hR
  ·intro hI;rw[hI]at hR;have l0:decide ((zs.length:Int)<(a.length:Int))=false:=by rw[Fk];simp
   simp only[UY,go_sem,l0,←hR]
 ·have c:((a.length:Int) !=(b.length:Int))=true:=by simp;omega
  rw[yz1 hl]at hR;simp only[go_sem,c,←hR]
theorem yzS(v)(qj:∀p,E.C rF [.agg v.cells,.agg p.cells] (two (ff v p)))(a b):E.C KT [.agg v.cells,.one (.aw (a.map Pred.cells)),.one (.aw (b.map Pred.cells))] (.one (.bool (eU v a b))):=by have h:=yQg Z v qj a b;refine Z.KT _ _ ⟨bn rfl,?_⟩;simp only[al.cells]at h⊢;simp only[zXP,go_sem];refine yj1 (cvs:=[.one (.aw (a.map Pred.cells)),.one (.aw (b.map Pred.cells)),.one (.clo Ea [.ref [.aw (v.vars.map b8.cells),.aw (v.syms.map cI.cells),.aw (v.bT.map bI.cells)]])]) (by simp only[go_sem]) rfl rfl h ?_;simp only[go_sem]
end Go.Abs
end
section
namespace Go.Abs
def tI(v:al):List Pred→List Pred→List Pred
 |[],_=>[]
 |a::d,rest=>(d++rest).flatMap (eS v a)++tI v d rest
theorem VD(v)(d r):bD v (d++r)=tI v d r++bD v r:=by
 induction d with
 |nil=>rfl
 |cons a d ih=>rw[List.cons_append,bD,tI,ih,List.append_assoc]
theorem Vr(v)(x)(r):∀d,tI v (d++[x]) r=tI v d (x::r)++r.flatMap (eS v x)
 |[]=>by simp[tI]
 |a::d=>by rw[List.cons_append,tI,tI,Vr v x r d];simp
theorem VE(v)(a b):(eS v a b).length≤1:=by
 unfold eS;split<;>simp
theorem O1{α β:Type}{f:α→List β}(h:∀x,(f x).length≤1):∀l:List α,(l.flatMap f).length≤l.length
 |[]=>by simp
 |x::l=>by have:=O1 h l;have:=h x;simp only[List.flatMap_cons,lA,lC];omega
theorem OW(v)(r):∀d:List Pred,(tI v d r).length≤d.length*(d.length+r.length)
 |[]=>by simp[tI]
 |a::d=>by
  have h1:=OW v r d;have h2:=O1 (VE v a) (d++r);rw[tI,lA,lC];rw[lA]at h2;have:(d.length+1)*(d.length+1+r.length)=d.length*(d.length+r.length)+d.length+(d.length+1+r.length):=by rw[Nat.add_mul,Nat.one_mul,Nat.add_right_comm d.length 1 r.length,Nat.mul_add _ _ 1,Nat.mul_one]
  omega
theorem ywO(v)(l):(bD v l).length≤l.length*l.length:=by have h:=VD v l [];have h2:=OW v [] l;rw[List.append_nil]at h;rw[h,bD,List.append_nil];simpa using h2
theorem yY3{v a b}(ha:dS a)(hb:dS b):dS (dN v a b):=by
 unfold dN;refine cW.mk ?_ fun k hk=>?_
 ·show Small 2;unfold Small;omega
 ·simp only[List.mem_cons,List.not_mem_nil,or_false]at hk;rcases hk with rfl|rfl
  ·exact ha
  ·exact hb
theorem dS.kids{p}(h:dS p):∀k∈p.kids,dS k:=by obtain⟨o,s,n,ks⟩:=p;exact fun k hk=>cW.ej h hk
theorem dS.small{p}(h:dS p):Small p.kids.length:=by obtain⟨o,s,n,ks⟩:=p;exact cW.top h
theorem zJo{v}:∀{a b},(∀k∈a,dS k)→(∀k∈b,dS k)→∀p∈List.zipWith (dN v) a b,dS p
 |[],_,_,_,p,hp=>by simp at hp
 |_::_,[],_,_,p,hp=>by simp at hp
 |x::a,y::b,ha,hb,p,hp=>by
  rw[List.zipWith_cons_cons]at hp;rcases List.mem_cons.1 hp with rfl|hp
  ·exact yY3 (ha x (by simp)) (hb y (by simp))
  ·exact zJo (fun k hk=>ha k (by simp[hk])) (fun k hk=>hb k (by simp[hk])) p hp
theorem zipWith_map{v}:∀a b,List.zipWith (dN v) a b=(a.zip b).map fun q=>dN v q.1 q.2
 |[],_=>by simp
 |_::_,[]=>by simp
 |x::a,y::b=>by rw[List.zipWith_cons_cons,List.zip_cons_cons,mC,zipWith_map a b]
variable{E:ax}(Z:Sys E)
include Z
set_option maxHeartbeats 4000000 in
theorem zvJ(v)(qj:∀p,E.C rF [.agg v.cells,.agg p.cells] (two (ff v p)))(l)(l9:Small l.length)(bf:∀p∈l,dS p):E.C HC [.agg v.cells,.one (.aw (l.map Pred.cells))] (.one (.aw ((bD v l).map Pred.cells))):=by
 have xG:=fun a b=>yzS Z v qj a b;have heq:=fun a b=>zKU Z v qj a b;have cV:=fun a b=>D7 Z 17 a b;refine Z.HC _ _ ⟨bn rfl,?_⟩;unfold Small at l9;generalize hR:bD v l=R;simp only[al.cells]at xG heq⊢;simp only[zZ1,go_sem];intro hlen;refine gU l (fun done=>True) (fun done rest=>⟨[(14,.d (.int .i64 done.length)),(13,.d (.int .i64 l.length)),(12,.d (.aw (l.map Pred.cells))),(1,.d (.aw (l.map Pred.cells))),(2,.ptr 2 0),(5,.own 5 4 ((tI v done rest).map Pred.cells))],[(2,[.d (.aw (v.vars.map b8.cells)),.d (.aw (v.syms.map cI.cells)),.d (.aw (v.bT.map bI.cells))])],[(5,true)]⟩) ?_ trivial ?_ ?_
 ·exact Bp 5 5 4 [] [(5,5)] rfl (by simp) rfl (by simp only[jz,go_sem,cN,oS,tI,nZ])
 ·intro done a r hl _;have U7:=gw hl;have hw:IntKind.i64.wrap ((done.length:Int)+1)=((done.length+1:Nat):Int):=gn (by omega);have A6:((done.length+1:Nat):Int)≤l.length:=by rw[hl];simp;omega
  have GL:l.drop (done.length+1)=r:=by rw[show done.length+1=(done++[a]).length by simp,hl,show done++a::r=(done++[a])++r by simp];exact List.drop_left' rfl
  have Xe:(l.map Pred.cells).drop (done.length+1)=r.map Pred.cells:=by rw[←List.map_drop,GL]
  have Gj:done.length+(r.length+1)=l.length:=by rw[hl];simp
  have xt:dS a:=bf a (by rw[hl];simp);have nH:=Pred.bm a;have W6:=xt.small;unfold Small at W6;have Xn:=OW v (a::r) done;rw[lC,Gj]at Xn;have Xo:done.length*l.length≤1048575*1048576:=Nat.mul_le_mul (by omega) l9;rw[Vr];simp only[UA,go_sem,U7,rJ hl,nH,hw,A6,Xe,Int.toNat_natCast];intro Ms;refine AE fun K hK=>?_;refine gU r (fun done=>True) (fun dn rest=>⟨[(24,.d (.int .i64 dn.length)),(23,.d (.int .i64 r.length)),(22,.d (.aw (r.map Pred.cells))),(14,.d (.int .i64 done.length)),(13,.d (.int .i64 l.length)),(12,.d (.aw (l.map Pred.cells))),(1,.d (.aw (l.map Pred.cells))),(2,.ptr 2 0),(7,.ptr 7 0),(5,.own 5 4 ((tI v done (a::r)++dn.flatMap (eS v a)).map Pred.cells))],[(7,[.d (.int .i64 a.op),.d (.str a.name),.d (.int .i64 a.n),.d (.aw (a.kids.map Pred.cells))]),(2,[.d (.aw (v.vars.map b8.cells)),.d (.aw (v.syms.map cI.cells)),.d (.aw (v.bT.map bI.cells))])],[(5,true)]⟩) ?_ trivial ?_ ?_
  ·exact jP [(5,5)] (by simp only[go_sem,cN,oS,List.flatMap_nil])
  ·intro dn b r2 fE _;have OO:=gw fE;have qV:IntKind.i64.wrap ((dn.length:Int)+1)=((dn.length+1:Nat):Int):=gn (by omega);have Ms:dn.length+(r2.length+1)=r.length:=by rw[fE];simp
   have Qf:dS b:=bf b (by rw[hl,fE];simp);have x9:=Pred.bm b;have hx:=rJ fE;have Ef:=O1 (VE v a) dn;have MD:(dn++[b]).flatMap (eS v a)=dn.flatMap (eS v a)++eS v a b:=by simp
   rw[MD,←List.append_assoc];generalize hO:tI v done (a::r)++dn.flatMap (eS v a)=O at*
   have hOl:O.length+1≤1048575*1048576+1048576:=by rw[←hO,lA];omega
   have BT:=xG a.kids b.kids;unfold Uz;refine dJ fun N1 h1=>?_;simp only[go_sem,OO];subst h1;refine dJ fun N2 h2=>?_;simp only[go_sem];subst h2;rw[Nd,Br];refine dJ fun N3 h3=>?_;simp only[go_sem,OO,hx,x9];subst h3;refine dJ fun N4 h4=>?_;simp only[go_sem,nH];refine⟨_,fun _=>BT,?_⟩;simp only[go_sem];have u6:eS v a b=if(a.op !=4||b.op !=4||a.name !=b.name||!eU v a.kids b.kids)then[]else[.mk 17 [] 0 [ig (List.zipWith (dN v) a.kids b.kids),dN v a b]]:=rfl
   generalize hB:(a.op !=4||b.op !=4||a.name !=b.name||!eU v a.kids b.kids)=B at u6;have WN:(a.op !=4||b.op !=4||!a.name==b.name||!eU v a.kids b.kids)=B:=hB;simp only[WN];cases B with
   |true=>rw[if_pos rfl]at u6;simp only[go_sem,if_true,u6,qV,lA];exact jP [(5,5)] (by simp only[go_sem,cN,oS])
   |false=>
    rw[if_neg (by decide)]at u6;simp only[go_sem,if_false];subst h4;have wM:eU v a.kids b.kids=true:=by
     cases c:eU v a.kids b.kids with
     |true=>rfl
     |false=>rw[c]at hB;simp at hB
    have CM:=Z9 wM;have II:=Qf.small;unfold Small at II;have Fk:(a.kids.zip b.kids).length=a.kids.length:=by rw[List.length_zip,CM,Nat.min_self]
    have hand:=yzj Z (List.zipWith (dN v) a.kids b.kids) fun p hp _=>zJo xt.kids Qf.kids p hp;rw[zipWith_map]at hand u6;have yc:=heq a b;have Ji:=cV (ig ((a.kids.zip b.kids).map fun q=>dN v q.1 q.2)) (dN v a b);rw[nH,x9]at yc;generalize hz:a.kids.zip b.kids=zs at*
    simp only[go_sem];intro vX;refine AE fun K2 BR=>?_;refine gU zs (fun done=>True) (fun dk rest=>⟨[(55,.d (.int .i64 dk.length)),(54,.d (.int .i64 a.kids.length)),(24,.d (.int .i64 dn.length)),(23,.d (.int .i64 r.length)),(22,.d (.aw (r.map Pred.cells))),(14,.d (.int .i64 done.length)),(13,.d (.int .i64 l.length)),(12,.d (.aw (l.map Pred.cells))),(1,.d (.aw (l.map Pred.cells))),(2,.ptr 2 0),(7,.ptr 7 0),(9,.ptr 9 0),(5,.own 5 4 (O.map Pred.cells)),(10,.own 10 4 (dk.map fun q=>(dN v q.1 q.2).cells))],[(9,[.d (.int .i64 b.op),.d (.str b.name),.d (.int .i64 b.n),.d (.aw (b.kids.map Pred.cells))]),(7,[.d (.int .i64 a.op),.d (.str a.name),.d (.int .i64 a.n),.d (.aw (a.kids.map Pred.cells))]),(2,[.d (.aw (v.vars.map b8.cells)),.d (.aw (v.syms.map cI.cells)),.d (.aw (v.bT.map bI.cells))])],[(10,true),(5,true)]⟩) ?_ trivial ?_ ?_
    ·exact Bp 10 10 4 [] [(10,10),(5,5)] rfl (by simp) rfl (by simp only[jz,go_sem,cN,List.contains_cons,oS,nZ,Nat.reduceBEq])
    ·intro dk x rk GP _;obtain⟨fd,fr,sd,sr,e1,e2,e3,e4⟩:=HZ (hz.trans GP);have MI:=u4 (f:=Pred.cells) e1 e3;have MJ:=u4 (f:=Pred.cells) e2 e4;have l1:((dk.length:Int)<(a.kids.length:Int))=True:=eq_true (by rw[e1,←e3];simp;omega);have l2:((dk.length:Int)<(b.kids.length:Int))=True:=eq_true (by rw[e2,←e4];simp;omega);have hdk:dk.length<a.kids.length:=by rw[e1,←e3];simp
     have OQ:IntKind.i64.wrap ((dk.length:Int)+1)=((dk.length+1:Nat):Int):=gn (by omega);have IV:=heq x.1 x.2;have zO:=Pred.bm x.1;have zP:=Pred.bm x.2;have ht:(∀e∈dk.map (fun q=>(dN v q.1 q.2).cells),e.length=4)=True:=eq_true (fun e he=>by obtain⟨q,_,rfl⟩:=List.mem_map.1 he;exact Pred.mV _);have Bx:=Pred.mV (dN v x.1 x.2);generalize x.1.cells=Wv at*
     generalize x.2.cells=Ww at*
     subst zO zP;simp only[Uy,go_sem,MI,MJ,l1,l2,lM];refine⟨_,IV,?_⟩;simp only[go_sem,OQ,lA,lM,ht,Bx];refine⟨⟨fun e he=>by rw[List.mem_singleton.1 he];exact Bx,by omega,by omega⟩,jP [(10,72),(5,5)] ?_⟩;simp only[go_sem,cN,List.contains_cons,oS,Nat.reduceBEq,mA]
    ·intro _;have l0:decide ((zs.length:Int)<(a.kids.length:Int))=false:=by rw[Fk];simp
     have A5:zs.map (fun q=>(dN v q.1 q.2).cells)=(zs.map fun q=>dN v q.1 q.2).map Pred.cells:=by rw[List.map_map];rfl
     rw[←A5]at hand;generalize hAnd:ig (zs.map fun q=>dN v q.1 q.2)=AN at*
     generalize hEq:dN v a b=EN at*
     have zO:=Pred.bm AN;have zP:=Pred.bm EN;have Di:=Pred.mV (Pred.mk 17 [] 0 [AN,EN]);generalize zB:(Pred.mk 17 [] 0 [AN,EN]).cells=oc at*
     generalize AN.cells=Wv at*
     generalize EN.cells=Ww at*
     subst zO zP;simp only[Uy,go_sem,l0,BR];refine⟨_,hand,?_⟩;simp only[go_sem];refine⟨_,yc,?_⟩;simp only[go_sem];refine⟨_,Ji,?_⟩;simp only[go_sem,lM,Di];refine⟨⟨fun e he=>by rw[List.mem_singleton.1 he];exact Di,by omega,by omega⟩,?_⟩;simp only[u6,qV,lA,mA];exact jP [(5,83)] (by simp only[go_sem,cN,oS,zB])
  ·intro _;unfold Uz;refine dJ fun N1 h1=>?_;simp only[go_sem];subst h1;refine dJ fun N2 h2=>?_;simp only[go_sem,hK,hw,lA];exact jP [(5,5)] (by simp only[go_sem,cN,oS])
 ·intro _;have WY:tI v l []=R:=by rw[←hR,show bD v l=bD v (l++[]) by simp,VD];simp[bD]
  simp only[UA,go_sem,WY]
end Go.Abs
end
section
namespace Go.Abs
theorem yK6{α:Type}{f:α→List D}{l a b r x n}(hl:l=a++(b++x::r))(hn:a.length+b.length=n):(l.map f).getD n []=f x:=by
 refine u4 (a:=a++b) (r:=r) (by rw[hl,List.append_assoc]) (by rw[lA];exact hn)
variable{E:ax}(Z:Sys E)
include Z
set_option maxHeartbeats 4000000 in
theorem zX9(v)(l)(l9:Small l.length)(bf:∀p∈l,dS p):E.C zkc [.agg v.cells,.one (.aw (l.map Pred.cells))] (.one (.aw ((bD v l).map Pred.cells))):=by
 have Jh:=fun a=>zKG Z v a;have heq:=fun a b=>yzx Z v a b;refine Z.zkc _ _ ⟨bn rfl,?_⟩;unfold Small at l9;generalize hR:bD v l=R;simp only[al.cells,two]at Jh heq⊢;simp only[zX1,go_sem];refine gU l (fun done=>True) (fun done rest=>⟨[(6,.d (.int .i64 done.length)),(1,.d (.aw (l.map Pred.cells))),(2,.ptr 2 0),(5,.own 5 4 ((tI v done rest).map Pred.cells))],[(2,[.d (.aw (v.vars.map b8.cells)),.d (.aw (v.syms.map cI.cells)),.d (.aw (v.bT.map bI.cells))])],[(5,true)]⟩) ?_ trivial ?_ ?_
 ·exact Bp 5 5 4 [] [(5,5)] rfl (by simp) rfl (by simp only[jz,go_sem,cN,oS,tI,nZ])
 ·intro done a r hl _;have U7:=gw hl;have hw:IntKind.i64.wrap ((done.length:Int)+1)=((done.length+1:Nat):Int):=gn (by omega);have Gj:done.length+(r.length+1)=l.length:=by rw[hl];simp
  have xt:dS a:=bf a (by rw[hl];simp);have nH:=Pred.bm a;have W6:=xt.small;unfold Small at W6;have Xn:=OW v (a::r) done;rw[lC,Gj]at Xn;have Xo:done.length*l.length≤1048575*1048576:=Nat.mul_le_mul (by omega) l9;rw[Vr];simp only[zk2,go_sem,U7,lM,hw];intro _;refine AE fun K hK=>?_;refine gU r (fun done=>True) (fun dn rest=>⟨[(7,.d (.int .i64 ((done.length+1+dn.length:Nat):Int))),(6,.d (.int .i64 done.length)),(1,.d (.aw (l.map Pred.cells))),(2,.ptr 2 0),(5,.own 5 4 ((tI v done (a::r)++dn.flatMap (eS v a)).map Pred.cells))],[(2,[.d (.aw (v.vars.map b8.cells)),.d (.aw (v.syms.map cI.cells)),.d (.aw (v.bT.map bI.cells))])],[(5,true)]⟩) ?_ trivial ?_ ?_
  ·exact jP [(5,5)] (by simp only[go_sem,cN,oS,List.flatMap_nil,Nat.add_zero])
  ·intro dn b r2 fE _;have Ms:dn.length+(r2.length+1)=r.length:=by rw[fE];simp
   have hlj:(((done.length+1+dn.length:Nat):Int)<(l.length:Int))=True:=eq_true (by omega);have qV:IntKind.i64.wrap (((done.length+1+dn.length:Nat):Int)+1)=((done.length+1+(dn.length+1):Nat):Int):=by rw[gn (by omega)];rfl
   have Qf:dS b:=bf b (by rw[hl,fE];simp);have x9:=Pred.bm b;have MI:=getD_at (f:=Pred.cells) (d:=[]) hl;have MJ:(l.map Pred.cells).getD (done.length+1+dn.length) []=b.cells:=yK6 (a:=done++[a]) (b:=dn) (r:=r2) (by rw[hl,fE];simp) (by simp);have Ef:=O1 (VE v a) dn;have MD:(dn++[b]).flatMap (eS v a)=dn.flatMap (eS v a)++eS v a b:=by simp
   rw[MD,←List.append_assoc];generalize hO:tI v done (a::r)++dn.flatMap (eS v a)=O at*
   have hOl:O.length+1≤1048575*1048576+1048576:=by rw[←hO,lA];omega
   unfold zk1;refine dJ fun N1 h1=>?_;simp only[go_sem,hlj,lM];intro _;subst h1;rw[Nd,Br];refine dJ fun N3 h3=>?_;simp only[go_sem,hlj,U7,lM,MI,MJ,nH,x9,List.contains_cons,cN,Nat.reduceBEq];subst h3;refine dJ fun N4 h4=>?_;simp only[go_sem];intro _ _;have u6:eS v a b=if(a.op !=4||b.op !=4||a.name !=b.name||!eU v a.kids b.kids)then[]else[.mk 17 [] 0 [ig (List.zipWith (dN v) a.kids b.kids),dN v a b]]:=rfl
   generalize hB:(a.op !=4||b.op !=4||a.name !=b.name)=B at u6;have WN:(a.op !=4||b.op !=4||!a.name==b.name)=B:=hB;simp only[WN];by_cases CM:a.kids.length=b.kids.length;case neg=>
    have b6:((a.kids.length:Int) !=(b.kids.length:Int))=true:=by simp;omega
    rw[yz1 CM,Bool.not_false,Bool.or_true,if_pos rfl]at u6;simp only[go_sem,b6,if_true,u6,qV,lA];exact jP [(5,5)] (by simp only[go_sem,cN,oS])
   have b6:((a.kids.length:Int) !=(b.kids.length:Int))=false:=by simp[CM]
   simp only[b6,Bool.or_false];cases B with
   |true=>rw[Bool.true_or,if_pos rfl]at u6;simp only[go_sem,if_true,u6,qV,lA];exact jP [(5,5)] (by simp only[go_sem,cN,oS])
   |false=>
    rw[Bool.false_or]at u6;simp only[go_sem,if_false];subst h4;have II:=Qf.small;unfold Small at II;have Fk:(a.kids.zip b.kids).length=a.kids.length:=by rw[List.length_zip,CM,Nat.min_self]
    have hand:=yy1 Z (List.zipWith (dN v) a.kids b.kids);have haz:=VB (v:=v) CM;rw[zipWith_map]at hand u6;have yc:=heq a b;rw[nH,x9]at yc;generalize hz:a.kids.zip b.kids=zs at*
    have EM:∀d x r,zs=d++x::r→((d++[x]).all fun q=>iG v q.1==iG v q.2)=((d.all fun q=>iG v q.1==iG v q.2)&&(iG v x.1==iG v x.2)):=fun d x r _=>by rw[List.all_append,List.all_cons,List.all_nil,Bool.and_true]
    rw[haz]at u6;refine zVx fun N5 hN4=>?_;simp only[go_sem];refine AE fun K2 BR=>?_;refine gU zs (fun done=>True) (fun dk rest=>⟨[(12,.d (.int .i64 dk.length)),(7,.d (.int .i64 ((done.length+1+dn.length:Nat):Int))),(6,.d (.int .i64 done.length)),(1,.d (.aw (l.map Pred.cells))),(2,.ptr 2 0),(8,.ptr 8 0),(9,.ptr 9 0),(11,.d (.bool (dk.all fun q=>iG v q.1==iG v q.2))),(5,.own 5 4 (O.map Pred.cells)),(10,.own 10 4 (dk.map fun q=>(dN v q.1 q.2).cells))],[(9,[.d (.int .i64 b.op),.d (.str b.name),.d (.int .i64 b.n),.d (.aw (b.kids.map Pred.cells))]),(8,[.d (.int .i64 a.op),.d (.str a.name),.d (.int .i64 a.n),.d (.aw (a.kids.map Pred.cells))]),(2,[.d (.aw (v.vars.map b8.cells)),.d (.aw (v.syms.map cI.cells)),.d (.aw (v.bT.map bI.cells))])],[(10,true),(5,true)]⟩) ?_ trivial ?_ ?_
    ·exact Bp 10 10 4 [] [(10,10),(5,5)] rfl (by simp) rfl (by simp only[jz,go_sem,cN,List.contains_cons,oS,nZ,Nat.reduceBEq,List.all_nil])
    ·intro dk x rk GP _;obtain⟨fd,fr,sd,sr,e1,e2,e3,e4⟩:=HZ (hz.trans GP);have MI:=u4 (f:=Pred.cells) e1 e3;have MJ:=u4 (f:=Pred.cells) e2 e4;have l1:((dk.length:Int)<(a.kids.length:Int))=True:=eq_true (by rw[e1,←e3];simp;omega);have l2:((dk.length:Int)<(b.kids.length:Int))=True:=eq_true (by rw[e2,←e4];simp;omega);have hdk:dk.length<a.kids.length:=by rw[e1,←e3];simp
     have OQ:IntKind.i64.wrap ((dk.length:Int)+1)=((dk.length+1:Nat):Int):=gn (by omega);have IV:=heq x.1 x.2;have E7:=Jh x.1;have Je:=Jh x.2;have cT:=EM dk x rk GP;unfold iG at cT⊢;generalize ff v x.1=R1 at*
     generalize ff v x.2=R2 at*
     have zO:=Pred.bm x.1;have zP:=Pred.bm x.2;have ht:(∀e∈dk.map (fun q=>(dN v q.1 q.2).cells),e.length=4)=True:=eq_true (fun e he=>by obtain⟨q,_,rfl⟩:=List.mem_map.1 he;exact Pred.mV _);have Bx:=Pred.mV (dN v x.1 x.2);generalize (dk.all fun q=>(ff v q.1).1==(ff v q.2).1)=AL at*
     generalize x.1.cells=Wv at*
     generalize x.2.cells=Ww at*
     subst zO zP;simp only[zk0,go_sem,MI,MJ,l1,l2,lM];intro _;refine⟨_,E7,?_⟩;simp only[go_sem,MI,MJ,l1,l2,lM];refine⟨_,Je,?_⟩;simp only[go_sem,MI,MJ,l1,l2,lM];refine⟨_,IV,?_⟩;simp only[go_sem,OQ,lA,lM,ht,Bx];refine⟨⟨fun e he=>by rw[List.mem_singleton.1 he];exact Bx,by omega,by omega⟩,jP [(10,110),(5,5)] ?_⟩;simp only[go_sem,cN,List.contains_cons,oS,Nat.reduceBEq,mA,cT]
    ·intro _;have l0:decide ((zs.length:Int)<(a.kids.length:Int))=false:=by rw[Fk];simp
     have A5:zs.map (fun q=>(dN v q.1 q.2).cells)=(zs.map fun q=>dN v q.1 q.2).map Pred.cells:=by rw[List.map_map];rfl
     rw[←A5]at hand;generalize hAnd:ig (zs.map fun q=>dN v q.1 q.2)=AN at*
     generalize hEq:dN v a b=EN at*
     generalize cT:(zs.all fun q=>iG v q.1==iG v q.2)=AL at*
     simp only[zk0,go_sem,l0,BR,lM];intro _;subst hN4;cases AL with
     |false=>rw[Bool.not_false,if_pos rfl]at u6;simp only[go_sem,u6,qV,lA];exact jP [(5,5)] (by simp only[go_sem,cN,oS])
     |true=>
      rw[Bool.not_true,if_neg (by decide)]at u6;have zO:=Pred.bm AN;have zP:=Pred.bm EN;have Di:=Pred.bm (Pred.mk 17 [] 0 [AN,EN]);simp only[Pred.op,Pred.name,Pred.n,Pred.kids,mC,mN]at Di;generalize zB:(Pred.mk 17 [] 0 [AN,EN]).cells=oc at*
      generalize AN.cells=Wv at*
      generalize EN.cells=Ww at*
      subst zO zP;simp only[go_sem];refine⟨_,hand,?_⟩;simp only[go_sem];refine⟨_,yc,?_⟩;simp only[go_sem,lM];refine⟨⟨fun e he=>by rw[List.mem_singleton.1 he];rfl,by omega,by omega⟩,?_⟩;simp only[u6,qV,lA,mA];exact jP [(5,123)] (by simp only[go_sem,cN,oS,zB,Di])
  ·intro _;have l0:(((done.length+1+r.length:Nat):Int)<(l.length:Int))=False:=eq_false (by omega);unfold zk1;refine dJ fun N1 h1=>?_;simp only[go_sem,lM,l0,hK,hw,lA];intro _;exact jP [(5,5)] (by simp only[go_sem,cN,oS])
 ·intro _;have WY:tI v l []=R:=by rw[←hR,show bD v l=bD v (l++[]) by simp,VD];simp[bD]
  simp only[zk2,go_sem,lM];intro _;simp only[go_sem,WY]
end Go.Abs
end
section
namespace Go.Abs
theorem SR{n g:Int}(h:aq n=true)(hg:g≠0):IntKind.i64.wrap (n.tdiv g)=n.tdiv g:=by
 have:(n.tdiv g).natAbs≤n.natAbs:=by rw[Int.natAbs_tdiv];exact Nat.div_le_self _ _
 rw[sL]at h;exact i64_in _ (by omega)
def oh(l:List ak):Int:=match l with
 |[]=>0
 |x::_=>x.n
def mo(l:List ak):Int:=if oh l<0 then-1 else 1
def bB(a:aH):aH×Int:=
 if cr a !=0 then(bE,0)
 else if(a.aG.length:Int)==0 then(if a.c>0 then(⟨[],1⟩,1)else if a.c<0 then(⟨[],1⟩,-1)else(bE,1))
 else(⟨a.aG.map (gA (eJ (dZ 0 a.aG) a.c*mo a.aG)),a.c.tdiv (eJ (dZ 0 a.aG) a.c*mo a.aG)⟩,mo a.aG)
def wu(r:aH×Int):CV:=.tup [.agg r.1.cells,.one (.int .i64 r.2)]
theorem R9(a b):0≤eJ a b:=by unfold eJ;omega
theorem Vm{a b}(ha:a≠0):0<eJ a b:=by unfold eJ;have:=Nat.gcd_pos_of_pos_left b.natAbs (show 0<a.natAbs by omega);omega
theorem yXi(l):∀g,0≤g→dZ g l=eJ g (dZ 0 l):=by
 induction l with
 |nil=>intro g hg;unfold dZ eJ;simp;omega
 |cons x l ih=>intro g hg;have e1:dZ g (x::l)=dZ (eJ g x.n) l:=rfl;have e2:dZ 0 (x::l)=dZ (eJ 0 x.n) l:=rfl;rw[e1,e2,ih _ (R9 _ _),ih (eJ 0 x.n) (R9 _ _)];unfold eJ;simp[Nat.gcd_assoc]
theorem yXj(l)(c):dZ (eJ c 0) l=eJ (dZ 0 l) c:=by rw[yXi _ _ (R9 _ _)];unfold eJ;simp only[Int.natAbs_natCast,Int.natAbs_zero,Nat.gcd_zero_right];rw[Nat.gcd_comm]
def kV(a b:aH):Bool:=(a.aG.map fun c=>(c.name,c.n))==(b.aG.map fun c=>(c.name,c.n))&&a.c==b.c
theorem zjR{a b}:kV a b=true↔a=b:=by
 constructor
 ·intro h;obtain⟨l,c⟩:=a;obtain⟨m,d⟩:=b;simp only[kV,Bool.and_eq_true,beq_iff_eq]at h;obtain⟨h1,rfl⟩:=h;have:l=m:=by
   clear c;induction l generalizing m with
   |nil=>cases m with
    |nil=>rfl
    |cons y m=>simp at h1
   |cons x l ih=>cases m with
    |nil=>simp at h1
    |cons y m=>simp only[mC,List.cons.injEq,Prod.mk.injEq]at h1;obtain⟨⟨h2,h3⟩,h4⟩:=h1;rw[ih m h4];obtain⟨p,q⟩:=x;obtain⟨p',q'⟩:=y;simp only at h2 h3;rw[h2,h3]
  rw[this]
 ·rintro rfl
  simp[kV]
theorem yk4:∀{l m:List ak},l.length=m.length→((l.map fun c=>(c.name,c.n))==(m.map fun c=>(c.name,c.n)))=(l.zip m).all fun q=>q.1.name==q.2.name&&q.1.n==q.2.n
 |[],[],_=>rfl
 |x::a,y::b,h=>by have ih:=yk4 (l:=a) (m:=b) (by simpa using h);rw[mC,mC,List.zip_cons_cons,List.all_cons,←ih];rfl
 |[],y::b,h=>by simp at h
 |x::a,[],h=>by simp at h
theorem yZ9{l m:List ak}(h:l.length≠m.length):((l.map fun c=>(c.name,c.n))==(m.map fun c=>(c.name,c.n)))=false:=by rw[beq_eq_false_iff_ne];intro e;exact h (by simpa using congrArg List.length e)
variable{E:ax}(Z:Sys E)
include Z
theorem yxD(x){g}(hg:g≠0)(hx:aq x.n=true):E.C CE [] (.bx [.agg (x.cells.map .d),.ptr 1000 0] [(1000,[.d (.int .i64 g)])] [] (.tup [.agg (gA g x).cells,.one (.bool true)]) [(1000,[.d (.int .i64 g)])] []):=by
 refine Z.CE _ _ ⟨bn rfl,bn rfl,rfl,?_⟩;have hq:=SR hx hg;have h0:(g≠0)=True:=eq_true hg;simp only[ak.cells,gA]at*
 simp only[UB,go_sem,mC,mN,hq,h0];exact dG (by simp only[go_sem,oS])
theorem zKw(l:List ak){g}(hg:g≠0)(hl:l.length≤1000)(hr:∀c∈l,aq c.n=true):E.C Ed [.one (.aw (l.map ak.cells)),.one (.int .i64 g)] (.one (.aw ((l.map (gA g)).map ak.cells))):=by
 have h4:=R8 Z CE (.int .i64 g) (gA g) (fun _=>true) l hl fun x hx=>yxD Z x hg (hr x hx);have he:nW (gA g) (fun _=>true) l=(l.map (gA g),true):=by unfold nW;rw[O8 (fun _ _=>rfl)];rfl
 rw[he]at h4;refine Z.Ed _ _ ⟨bn rfl,?_⟩;simp only[Ud,go_sem];refine Ss ⟨[(1000,3)],[],[],_,_,_,_⟩ h4 rfl rfl ?_ ?_
 ·simp only[okB,go_sem,List.cons_append,List.nil_append];exact⟨rfl,rfl,fun p hp=>by rw[List.mem_singleton.1 hp];rfl⟩
 ·simp only[go_sem,List.cons_append,List.nil_append,Option.getD_some]
theorem yzs(a:aH){g}(k)(hg:g≠0)(hl:a.aG.length≤1000)(hr:∀c∈a.aG,aq c.n=true):E.C zxi [.agg a.cells,.one (.int .i64 g),.one (.int .i64 k)] (.agg (aH.mk (a.aG.map (gA g)) k).cells):=by
 refine Z.zxi _ _ ⟨bn rfl,?_⟩;obtain⟨l,c⟩:=a;simp only[aH.cells]at*
 simp only[zqs,go_sem];refine AE fun K hK=>?_;refine gU l (fun _=>True) (fun done rest=>⟨[(8,.d (.int .i64 done.length)),(1,.d (.int .i64 g)),(3,.ptr 3 0),(6,.ptr 6 0),(7,.ptr 7 0)],
  [(7,[.own 7 2 ((done.map (gA g)).map ak.cells),.d (.int .i64 k)]),(6,[.full [],.d (.int .i64 0)]),(3,[.d (.aw (l.map ak.cells)),.d (.int .i64 c)])],[(7,true)]⟩) ?_ trivial ?_ ?_
 ·exact Gz 7 0 7 2 _ [] [(7,7)] rfl rfl (by simp) rfl (by simp only[jz,go_sem,cN,oS,mN,lN,nZ];try rfl)
 ·intro done x r Eh _;have bf:=gw Eh;have yy:done.length<l.length:=by rw[Eh];simp
  have hw:IntKind.i64.wrap ((done.length:Int)+1)=((done.length+1:Nat):Int):=gn (by omega);have hq:=SR (hr x (by rw[Eh];simp)) hg;have h0:(g≠0)=True:=eq_true hg;simp only[zxq,go_sem,getD_at Eh,bf,ak.cells,hw,lM,h0,hq];intro _;refine⟨⟨by simp,by omega,by omega⟩,jP [(7,36)] ?_⟩;simp only[go_sem,cN,oS,lA,lC,lN,zA,mA,mC,mN,ak.cells,gA];try rfl
 ·intro _;simp only[zxq,go_sem,hK];try intro _
  try simp only[go_sem]
omit Z in
theorem yy9(l:List ak):(oh l<0∧mo l= -1)∨(¬oh l<0∧mo l=1):=by
 unfold mo;split
 ·exact .inl ⟨by assumption,rfl⟩
 ·exact .inr ⟨by assumption,rfl⟩
theorem zX4(a):E.C KO [.agg a.cells] (wu (bB a)):=by
 have h1:=GF Z a;refine Z.KO _ _ ⟨bn rfl,?_⟩;generalize hR:bB a=R;unfold bB at hR;obtain⟨l,c⟩:=a;simp only[aH.cells,wu]at*
 cases c0:(cr ⟨l,c⟩ !=0)with
 |true=>rw[c0,if_pos rfl]at hR;subst hR;simp only[Ov,go_sem];refine aR h1 ?_;simp only[c0,go_sem,bE,mN];try exact⟨rfl,rfl⟩
 |false=>
 have h0:cr ⟨l,c⟩=0:=by simpa using c0
 have sY:=Bn h0;have yf:=O9 h0;have⟨tH,yb⟩:=GC h0;simp only at sY yf tH yb;rw[c0,if_neg (by decide)]at hR;cases l with
 |nil=>
  have qC:((([]:List ak).length:Int)==0)=true:=rfl;rw[qC,if_pos rfl]at hR;simp only[Ov,go_sem];refine aR h1 ?_;have hz:(((0:Nat):Int)==0)=true:=rfl;have wg:((0:Int)==0)=true:=rfl;simp only[c0,go_sem,hz,wg,if_true];by_cases hp:c>0
  ·rw[if_pos hp]at hR;subst hR;simp only[go_sem,decide_eq_true hp];try exact⟨rfl,rfl⟩
  ·rw[if_neg hp]at hR;by_cases hn:c<0
   ·rw[if_pos hn]at hR;subst hR;simp only[go_sem,decide_eq_false hp,decide_eq_true hn];try exact⟨rfl,rfl⟩
   ·rw[if_neg hn]at hR;subst hR;simp only[go_sem,decide_eq_false hp,decide_eq_false hn,bE];try exact⟨rfl,rfl⟩
 |cons x l=>
 have hz:(((x::l).length:Int)==0)=false:=by simp;omega
 have BB:((x::l).map ak.cells).getD 0 []=x.cells:=rfl;rw[hz,if_neg (by decide)]at hR;have OM:0<dZ 0 (x::l):=qB fun y hy=>(LJ tH y hy).2;have yd:=KM (g:=0) (by decide) yf;have Gi:=O7 yd yb;have Xk:0<eJ (dZ 0 (x::l)) c:=Vm (by omega);have C8:=yyX Z yb (b:=0) (by decide);have Da:=zq6 Z ⟨x::l,c⟩ (eJ c 0) (O7 yb (by decide)) yf;have Mj:=fun g hg=>zKw Z (x::l) (g:=g) hg (by omega) yf;simp only[aH.cells]at Da;rw[yXj]at Da;have hq:=fun g hg=>SR yb (g:=g) hg;have hs:=yy9 (x::l);have Xl:oh (x::l)=x.n:=rfl;rw[Xl]at hs;have ow:(0:Int)<((x::l).length:Int):=by simp<;>omega
 generalize mo (x::l)=s at*
 generalize eJ (dZ 0 (x::l)) c=g at*
 generalize hL:x::l=L at*
 have tV:(g≠0)=True:=eq_true (by omega);rw[sL]at Gi;simp only[Ov,go_sem];refine aR h1 ?_;simp only[c0,go_sem,hz];intro _;refine⟨_,C8,?_⟩;simp only[go_sem];refine⟨_,Da,?_⟩;simp only[go_sem,BB,ak.cells,lM,ow];rcases hs with⟨gL,rfl⟩|⟨gL,rfl⟩
 ·have Q9:IntKind.i64.wrap (0-g)=g* -1:=(i64_in _ (by omega)).trans (by omega);simp only[decide_eq_true gL,go_sem,Q9];refine⟨_,Mj (g* -1) (by omega),?_⟩;have IZ:(g* -1≠0)=True:=eq_true (by omega);simp only[go_sem,hq (g* -1) (by omega),IZ];subst hR;exact⟨⟨rfl,rfl⟩,rfl⟩
 ·rw[Int.mul_one]at hR;simp only[decide_eq_false gL,go_sem];refine⟨_,Mj g (by omega),?_⟩;simp only[go_sem,hq g (by omega),tV];subst hR;exact⟨⟨rfl,rfl⟩,rfl⟩
theorem zjM(a):E.C Um [.agg a.cells] (wu (bB a)):=by
 have h1:=UL Z a;refine Z.Um _ _ ⟨bn rfl,?_⟩;generalize hR:bB a=R;unfold bB at hR;obtain⟨l,c⟩:=a;simp only[aH.cells,wu]at*
 cases c0:(cr ⟨l,c⟩ !=0)with
 |true=>rw[c0,if_pos rfl]at hR;subst hR;simp only[zZD,go_sem];refine aR h1 ?_;simp only[c0,go_sem,bE,mN];try exact⟨rfl,rfl⟩
 |false=>
 have h0:cr ⟨l,c⟩=0:=by simpa using c0
 have sY:=Bn h0;have yf:=O9 h0;have⟨tH,yb⟩:=GC h0;simp only at sY yf tH yb;rw[c0,if_neg (by decide)]at hR;cases l with
 |nil=>
  have qC:((([]:List ak).length:Int)==0)=true:=rfl;rw[qC,if_pos rfl]at hR;simp only[zZD,go_sem];refine aR h1 ?_;have hz:(((0:Nat):Int)==0)=true:=rfl;have wg:((0:Int)==0)=true:=rfl;simp only[c0,go_sem,hz,wg,if_true];by_cases hp:c>0
  ·rw[if_pos hp]at hR;subst hR;simp only[go_sem,decide_eq_true hp];try exact⟨rfl,rfl⟩
  ·rw[if_neg hp]at hR;by_cases hn:c<0
   ·rw[if_pos hn]at hR;subst hR;simp only[go_sem,decide_eq_false hp,decide_eq_true hn];try exact⟨rfl,rfl⟩
   ·rw[if_neg hn]at hR;subst hR;simp only[go_sem,decide_eq_false hp,decide_eq_false hn,bE];try exact⟨rfl,rfl⟩
 |cons x l=>
 have hz:(((x::l).length:Int)==0)=false:=by simp;omega
 have BB:((x::l).map ak.cells).getD 0 []=x.cells:=rfl;rw[hz,if_neg (by decide)]at hR;have OM:0<dZ 0 (x::l):=qB fun y hy=>(LJ tH y hy).2;have yd:=KM (g:=0) (by decide) yf;have Gi:=O7 yd yb;have Xk:0<eJ (dZ 0 (x::l)) c:=Vm (by omega);have pZ:=zKH Z ⟨x::l,c⟩ yf;have C8:=yy0 Z yd yb;have Mj:=fun g k hg=>yzs Z ⟨x::l,c⟩ (g:=g) k hg (by show(x::l).length≤1000;omega) yf;simp only[aH.cells]at pZ Mj;have hq:=fun g hg=>SR yb (g:=g) hg;have hs:=yy9 (x::l);have Xl:oh (x::l)=x.n:=rfl;rw[Xl]at hs;have ow:(0:Int)<((x::l).length:Int):=by simp<;>omega
 generalize mo (x::l)=s at*
 generalize eJ (dZ 0 (x::l)) c=g at*
 generalize hL:x::l=L at*
 have tV:(g≠0)=True:=eq_true (by omega);rw[sL]at Gi;simp only[zZD,go_sem];refine aR h1 ?_;simp only[c0,go_sem,hz];intro _;refine⟨_,pZ,?_⟩;simp only[go_sem];refine⟨_,C8,?_⟩;simp only[go_sem,BB,ak.cells,lM,ow];rcases hs with⟨gL,rfl⟩|⟨gL,rfl⟩
 ·have Q9:IntKind.i64.wrap (g* -1)=g* -1:=(i64_in _ (by omega));have IZ:(g* -1≠0)=True:=eq_true (by omega);simp only[decide_eq_true gL,go_sem,Q9,hq (g* -1) (by omega),IZ];refine⟨_,Mj (g* -1) _ (by omega),?_⟩;simp only[go_sem];subst hR;exact⟨⟨rfl,rfl⟩,rfl⟩
 ·rw[Int.mul_one]at hR;have Q9:IntKind.i64.wrap (g*1)=g:=(i64_in _ (by omega)).trans (by omega);simp only[decide_eq_false gL,go_sem,Q9,hq g (by omega),tV];refine⟨_,Mj g _ (by omega),?_⟩;simp only[go_sem];subst hR;exact⟨⟨rfl,rfl⟩,rfl⟩
end Go.Abs
end
section
namespace Go.Abs
theorem ak.bm(c:ak):c.cells=[.str c.name,.int .i64 c.n]:=rfl
theorem aH.bm(a:aH):a.cells=[.aw (a.aG.map ak.cells),.int .i64 a.c]:=rfl
structure rC where
 body:Pred
 ah:List aH
def rC.cells(a:rC):List D:=a.body.cells++[.aw (a.ah.map aH.cells)]
theorem rC.bm(a:rC):a.cells=[.int .i64 a.body.op,.str a.body.name,.int .i64 a.body.n,.aw (a.body.kids.map Pred.cells),.aw (a.ah.map aH.cells)]:=by
 unfold rC.cells;rw[Pred.bm];rfl
def DH(a b:rC):Bool:=decide (a.ah.length=b.ah.length)&&a.body.same b.body&&(a.ah.zip b.ah).all fun q=>kV q.1 q.2
variable{E:ax}(Z:Sys E)
include Z
theorem zjN(a b):E.C V5 [.agg a.cells,.agg b.cells] (.one (.bool (kV a b))):=by
 refine Z.V5 _ _ ⟨bn rfl,?_⟩;generalize hR:kV a b=R;unfold kV at hR;obtain⟨l,c⟩:=a;obtain⟨m,d⟩:=b;simp only[aH.cells]at*
 simp only[zQF,go_sem];intro _ _;by_cases hl:l.length=m.length
 ·have b6:((l.length:Int) !=(m.length:Int))=false:=by simp[hl]
  rw[yk4 hl]at hR;simp only[go_sem,b6];cases cc:(c !=d)with
  |true=>
   have:(c==d)=false:=by simpa[bne]using cc
   rw[this,Bool.and_false]at hR;simp only[go_sem,hR]
  |false=>
  have:(c==d)=true:=by simpa[bne]using cc
  rw[this,Bool.and_true]at hR;simp only[go_sem];have Fk:(l.zip m).length=l.length:=by rw[List.length_zip,hl,Nat.min_self]
  generalize hz:l.zip m=zs at*
  refine gU zs (fun done=>done.all (fun q=>q.1.name==q.2.name&&q.1.n==q.2.n)=true) (fun done rest=>⟨[(5,.d (.int .i64 done.length)),(2,.ptr 2 0),(3,.ptr 3 0)],[(2,[.d (.aw (l.map ak.cells)),.d (.int .i64 c)]),(3,[.d (.aw (m.map ak.cells)),.d (.int .i64 d)])],[]⟩) ?_ rfl ?_ ?_
  ·exact dG (by simp only[go_sem,oS])
  ·intro done x r gC hI;obtain⟨fd,fr,sd,sr,e1,e2,e3,e4⟩:=HZ (hz.trans gC);have hx:=u4 (f:=ak.cells) e1 e3;have hy:=u4 (f:=ak.cells) e2 e4;have l1:((done.length:Int)<(l.length:Int))=True:=eq_true (by rw[e1,←e3];simp;omega);have l2:((done.length:Int)<(m.length:Int))=True:=eq_true (by rw[e2,←e4];simp;omega);have iC:=gw gC;have hw:IntKind.i64.wrap ((done.length:Int)+1)=((done.length+1:Nat):Int):=gn (by omega);rw[gC,List.all_append,hI,Bool.true_and,List.all_cons]at hR;simp only[zqr,go_sem,hx,hy,l1,l2,lM,ak.bm];intro _;have hk:jq (D.int .i64 x.1.n) (D.int .i64 x.2.n)=(x.1.n==x.2.n):=rfl;simp only[go_sem,hx,hy,l1,l2,lM,ak.bm,hk];cases c2:(x.1.name==x.2.name&&x.1.n==x.2.n)with
   |true=>simp only[go_sem,hw,lA];refine⟨dG (by simp only[go_sem,oS]),?_⟩;rw[List.all_append,hI,List.all_cons,c2];rfl
   |false=>rw[c2]at hR;simp only[go_sem]at hR⊢;exact hR
  ·intro hI;rw[hI]at hR;have l0:decide ((zs.length:Int)<(l.length:Int))=false:=by rw[Fk];simp
   simp only[zqr,go_sem,l0,lM];intro _;simp only[go_sem,←hR]
 ·have b6:((l.length:Int) !=(m.length:Int))=true:=by simp;omega
  rw[yZ9 hl,Bool.false_and]at hR;simp only[go_sem,b6,←hR]
theorem yzw(a b):E.C zZS [.agg a.cells,.agg b.cells] (.one (.bool (DH a b))):=by
 have h7:=V9 Z a.body b.body;have vH:=fun x y=>zjN Z x y;refine Z.zZS _ _ ⟨bn rfl,?_⟩;generalize hR:DH a b=R;unfold DH at hR;obtain⟨p,l⟩:=a;obtain⟨q,m⟩:=b;simp only[rC.bm]at*
 rw[Pred.bm p,Pred.bm q]at h7;simp only[zQJ,go_sem];intro _ _;refine⟨_,fun _=>h7,?_⟩;by_cases hl:l.length=m.length
 ·have b6:((l.length:Int) !=(m.length:Int))=false:=by simp[hl]
  rw[decide_eq_true hl,Bool.true_and]at hR;simp only[go_sem,b6];cases cc:p.same q with
  |false=>rw[cc,Bool.false_and]at hR;subst hR;simp only[go_sem]
  |true=>
  rw[cc,Bool.true_and]at hR;simp only[go_sem];have Fk:(l.zip m).length=l.length:=by rw[List.length_zip,hl,Nat.min_self]
  generalize hz:l.zip m=zs at*
  refine gU zs (fun done=>done.all (fun q=>kV q.1 q.2)=true) (fun done rest=>⟨[(5,.d (.int .i64 done.length)),(2,.ptr 2 0),(3,.ptr 3 0)],[(2,[.d (.int .i64 p.op),.d (.str p.name),.d (.int .i64 p.n),.d (.aw (p.kids.map Pred.cells)),.d (.aw (l.map aH.cells))]),(3,[.d (.int .i64 q.op),.d (.str q.name),.d (.int .i64 q.n),.d (.aw (q.kids.map Pred.cells)),.d (.aw (m.map aH.cells))])],[]⟩) ?_ rfl ?_ ?_
  ·exact dG (by simp only[go_sem,oS])
  ·intro done x r gC hI;obtain⟨fd,fr,sd,sr,e1,e2,e3,e4⟩:=HZ (hz.trans gC);have hx:=u4 (f:=aH.cells) e1 e3;have hy:=u4 (f:=aH.cells) e2 e4;have l1:((done.length:Int)<(l.length:Int))=True:=eq_true (by rw[e1,←e3];simp;omega);have l2:((done.length:Int)<(m.length:Int))=True:=eq_true (by rw[e2,←e4];simp;omega);have iC:=gw gC;have hw:IntKind.i64.wrap ((done.length:Int)+1)=((done.length+1:Nat):Int):=gn (by omega);rw[gC,List.all_append,hI,Bool.true_and,List.all_cons]at hR;have WH:=vH x.1 x.2;rw[aH.bm x.1,aH.bm x.2]at WH;simp only[zqv,go_sem,hx,hy,l1,l2,lM,aH.bm];intro _;refine⟨_,WH,?_⟩;cases c2:kV x.1 x.2 with
   |true=>simp only[go_sem,hw,lA];refine⟨dG (by simp only[go_sem,oS]),?_⟩;rw[List.all_append,hI,List.all_cons,c2];rfl
   |false=>rw[c2]at hR;simp only[go_sem]at hR⊢;exact hR
  ·intro hI;rw[hI]at hR;have l0:decide ((zs.length:Int)<(l.length:Int))=false:=by rw[Fk];simp
   simp only[zqv,go_sem,l0,lM];intro _;simp only[go_sem,←hR]
 ·have b6:((l.length:Int) !=(m.length:Int))=true:=by simp;omega
  rw[decide_eq_false hl,Bool.false_and,Bool.false_and]at hR;simp only[go_sem,b6,←hR]
end Go.Abs
end
section
namespace Go.Abs
def dc(l:List aD):List (D×MV):=l.reverse.map fun s=>(.str s,.one (.bool true))
theorem yjJ(l)(s:aD):dc (l++[s])=(.str s,.one (.bool true))::dc l:=by simp[dc]
theorem yYe(l):(dc l).length=l.length:=by simp[dc]
theorem yW2(l)(s:aD):mR (dc l) (.str s) (.one (.bool false))=.one (.bool (l.contains s)):=by
 have key:∀r:List aD,mR (r.map fun s=>(D.str s,MV.one (.bool true))) (.str s) (.one (.bool false))=.one (.bool (r.contains s)):=by
  intro r;induction r with
  |nil=>rfl
  |cons x r ih=>
   unfold mR at ih⊢;rw[mC,gk,Zf];by_cases hx:x=s
   ·subst hx;simp
   ·have h1:(x==s)=false:=by simpa using hx
    have h2:(x::r).contains s=r.contains s:=by rw[Bool.eq_iff_iff,List.contains_iff_mem,List.contains_iff_mem];simp[Ne.symm hx]
    rw[h1,h2];exact ih
 unfold dc;rw[key];have:l.reverse.contains s=l.contains s:=by rw[Bool.eq_iff_iff,List.contains_iff_mem,List.contains_iff_mem];simp
 rw[this]
def rW(txt:aH→aD):Nat→List aH→List (D×MV)
 |_,[]=>[]
 |i,f::r=>rW txt (i+1) r++[(.str (txt f),.one (.int .i64 i))]
def gM(txt:aH→aD)(fs:List aH):List (D×MV):=rW txt 0 fs
theorem Zb(txt)(f):∀(fs) i,rW txt i (fs++[f])=(.str (txt f),.one (.int .i64 ((i+fs.length:Nat):Int)))::rW txt i fs
 |[],i=>rfl
 |x::fs,i=>by
  rw[List.cons_append,rW,Zb txt f fs (i+1),rW,lC,List.cons_append];have:i+1+fs.length=i+(fs.length+1):=by omega
  rw[this]
theorem Zc(txt)(f)(fs):gM txt (fs++[f])=(.str (txt f),.one (.int .i64 fs.length))::gM txt fs:=by
 unfold gM;rw[Zb,zA]
theorem ZI(txt)(fs):(gM txt fs).length=fs.length:=by
 unfold gM;have:∀i,(rW txt i fs).length=fs.length:=by
  induction fs with
  |nil=>intro i;rfl
  |cons x fs ih=>intro i;rw[rW,lA,ih];rfl
 exact this 0
def iQ(txt:aH→aD)(k:aD):Nat→List aH→Option Nat
 |_,[]=>none
 |i,f::r=>match iQ txt k (i+1) r with
  |some j=>some j
  |none=>if txt f==k then some i else none
def kG(txt:aH→aD)(fs:List aH)(k:aD):Option Nat:=iQ txt k 0 fs
theorem yZI(a b)(x):gk (a++b) x=match gk a x with|some v=>some v|none=>gk b x:=by
 induction a with
 |nil=>rfl
 |cons p a ih=>
  obtain⟨k,v⟩:=p;rw[List.cons_append,gk,gk];split
  ·rfl
  ·exact ih
theorem Sn(txt)(k:aD):∀(fs) i,gk (rW txt i fs) (.str k)=(iQ txt k i fs).map fun j:Nat=>MV.one (.int .i64 (j:Int))
 |[],_=>rfl
 |f::r,i=>by
  rw[rW,yZI,Sn txt k r (i+1),iQ];cases iQ txt k (i+1) r with
  |some j=>rfl
  |none=>
   simp only[Option.map_none];rw[gk];cases c:(txt f==k)with
   |true=>have c':jq (.str (txt f)) (.str k)=true:=c;rw[if_pos c',if_pos rfl];rfl
   |false=>have c':jq (.str (txt f)) (.str k)=false:=c;rw[c',if_neg (by decide),if_neg (by decide)];rfl
theorem YE(txt)(fs)(k:aD):mR (gM txt fs) (.str k) (.one (.int .i64 0))=.one (.int .i64 (((kG txt fs k).getD 0:Nat):Int)):=by unfold mR gM kG;rw[Sn];cases iQ txt k 0 fs<;>rfl
theorem ZH(txt)(fs)(k:aD):nw (gM txt fs) (.str k)=(kG txt fs k).isSome:=by unfold nw gM kG;rw[Sn];cases iQ txt k 0 fs<;>rfl
theorem Vs(txt)(k):∀(fs) i j,iQ txt k i fs=some j→i≤j∧j<i+fs.length
 |[],_,_,h=>by cases h
 |f::r,i,j,h=>by
  rw[iQ]at h;cases c:iQ txt k (i+1) r with
  |some m=>rw[c]at h;obtain rfl:=Option.some.inj h;have:=Vs txt k r (i+1) m c;rw[lC];omega
  |none=>
   rw[c]at h;simp only at h;split at h
   ·obtain rfl:=Option.some.inj h;rw[lC];omega
   ·cases h
structure QS where
 ah:List aH
 aA:List aD
 bad:Bool
def gS(s:aD):List D:=[.str s]
def gj(v:al)(q:QS)(a b:Nat):List AV:=[.d (.aw (v.vars.map b8.cells)),.d (.aw (v.syms.map cI.cells)),.d (.aw (v.bT.map bI.cells)),.mref 1001,.own a 2 (q.ah.map aH.cells),.own b 1 (q.aA.map gS),.mref 1002,.d (.bool q.bad)]
def jD(v:al)(txt:aH→aD)(q:QS)(a b:Nat):Mem:=[(1000,gj v q a b),(1001,[.mp jt pS (gM txt q.ah)]),(1002,[.mp jt rA (dc q.aA)])]
def QT:List (Nat×Bool):=[(2000,true),(2001,true)]
def jm:bJ:=[(1000,1000),(1001,1001),(1002,1002)]
theorem RB{v txt q c d}:dC [(1000,1000),(1001,1001),(1002,1002)] [(2000,c),(2001,d)] (jD v txt q 2000 2001)=jD v txt q c d:=by
 simp only[jD,gj,dC,aZ,Option.getD_some,mC,mN,AV.oT,AV.gW,Nat.reduceEqDiff,if_true,if_false]
theorem yXn{v txt q c d k m}(h:k<1000):getM (jD v txt q c d++m) k=getM m k:=by
 have h0:¬1000=k:=by omega
 have h1:¬1001=k:=by omega
 have h2:¬1002=k:=by omega
 simp only[jD,List.cons_append,List.nil_append,getM,h0,h1,h2,if_false]
theorem yK9{v txt q c d m}:getM (jD v txt q c d++m) 1000=some (gj v q c d):=rfl
theorem yVa{v txt q c d m}:getM (jD v txt q c d++m) 1001=some [.mp jt pS (gM txt q.ah)]:=rfl
theorem yVb{v txt q c d m}:getM (jD v txt q c d++m) 1002=some [.mp jt rA (dc q.aA)]:=rfl
attribute [go_sem] RB yXn yK9 yVa yVb
theorem bX{E f}{P:eX→Prop}{st av pB r v txt q q' gs}
  (hC:E.C f [] (.bx pB (jD v txt q 2000 2001) QT r (jD v txt q' 2000 2001) QT)) (a b c d) (hr:r.fB=false) (bV:gs=true)
  (hm:fT jm [(2000,a),(2001,b)] av pB) (h0:getM st.mem 1000=some (gj v q a b)) (h1:getM st.mem 1001=some [.mp jt pS (gM txt q.ah)]) (h2:getM st.mem 1002=some [.mp jt rA (dc q.aA)])
  (ha:aE st.tk a=some true) (hb:aE st.tk b=some true) (ki:(a==b)=false) (hc:aE st.tk c=none) (hd:aE st.tk d=none) (qe:(c==d)=false)
  (hK:P ⟨[(1000,1000),(1001,1001),(1002,1002)],[(2000,a),(2001,b)],[(2000,c),(2001,d)],pB,jD v txt q 2000 2001,jD v txt q' 2000 2001,r⟩):
  ∃x:eX,jE E none f gs av st x∧P x:=by
 refine⟨_,⟨rfl,bV,hr,?_,hC⟩,hK⟩
 ·have y5:(b==a)=false:=by rw[beq_eq_false_iff_ne]at ki⊢;exact Ne.symm ki
  simp only[okB,jm]at hm⊢;refine⟨hm,?_,?_,?_⟩
  ·simp only[jD,de,h0,h1,h2,gj];simp only[go_sem]
  ·simp only[mS,ha,hb,List.contains_cons,cN,y5,Bool.or_false,and_self]
  ·simp only[jD,gj,go_sem,hc,hd,List.contains_cons,cN,Nat.reduceBEq,ki,qe,List.mem_cons,List.not_mem_nil,or_false,forall_eq_or_imp,forall_eq,List.all_cons,List.all_nil]
theorem fF{v txt q st}(a b)(h0:getM st.mem 1000=some (gj v q a b))(h1:getM st.mem 1001=some [.mp jt pS (gM txt q.ah)])(h2:getM st.mem 1002=some [.mp jt rA (dc q.aA)])
  (ha:aE st.tk a=some true) (hb:aE st.tk b=some true) (ki:(a==b)=false):nF st ⟨[],jD v txt q 2000 2001,QT⟩:=by
 have y5:(b==a)=false:=by rw[beq_eq_false_iff_ne]at ki⊢;exact Ne.symm ki
 refine jP [(2000,a),(2001,b)] ?_;simp only[jD,gj,QT]at h0⊢;simp only[go_sem,h0,h1,h2,ha,hb,y5,List.contains_cons,cN,oS]
end Go.Abs
end
section
namespace Go.Abs
def bh(o:Int)(i:Nat):Pred:=.mk o [] 0 [.mk 3 (Lib.itoa (i:Int)) 0 [],.mk 1 [] 0 []]
def eK(p:Pred):Pred:=.mk 14 [] 0 [p]
def tP(b:Bool):Pred:=if b then gX else dv
def cE(txt:aH→aD)(d:aH)(q:QS):Nat×QS:=match kG txt q.ah (txt (bB d).1)with
 |some i=>(i,q)
 |none=>(q.ah.length,{q with ah:=q.ah++[(bB d).1]})
def eB(txt:aH→aD)(d:aH)(q:QS):Pred×QS:=if(d.aG.length:Int)==0 then(tP (d.c==0),q)else(bh 10 (cE txt d q).1,(cE txt d q).2)
def dt(txt:aH→aD)(d:aH)(q:QS):Pred×QS:=
 if(d.aG.length:Int)==0 then(tP (decide (d.c≤0)),q)
 else if(bB d).2<0 then(.mk 16 [] 0 [eK (bh 13 (cE txt d q).1),bh 10 (cE txt d q).1],(cE txt d q).2)else(bh 13 (cE txt d q).1,(cE txt d q).2)
def eh(txt:aH→aD)(d:aH)(q:QS):Pred×QS:=
 if(d.aG.length:Int)==0 then(tP (decide (d.c<0)),q)
 else if(bB d).2<0 then(eK (bh 13 (cE txt d q).1),(cE txt d q).2)else(.mk 15 [] 0 [bh 13 (cE txt d q).1,eK (bh 10 (cE txt d q).1)],(cE txt d q).2)
def QS.note(q:QS)(ok:Bool):QS:={q with bad:=q.bad||!ok}
def dI(s:aD):aH×Bool:=cf ⟨[⟨s,1⟩],0⟩ bE
def CS(a:aH):Prop:=a.aG.length≤24∧(∀c∈a.aG,c.name.length≤400∧nG c.n)∧nG a.c
def j4(E:ax)(txt:aH→aD):Prop:=∀a:aH,CS a→E.C SW [.agg a.cells] (.one (.str (txt a)))
theorem yz8:∀{p} {l},eR p l=0→∀c∈l,c.name≠[]∧c.name.length≤400
 |_,[],_,c,hc=>by cases hc
 |p,x::l,h,c,hc=>by
  rw[eR]at h;have h0:iI p x=0:=by
   by_cases e:(iI p x==0)=true
   ·simpa using e
   ·rw[if_neg e]at h;exact h
  rw[h0]at h;rcases List.mem_cons.1 hc with rfl|hc
  ·unfold iI at h0;split at h0
   ·cases h0
   ·rename_i h1;simp only[Bool.or_eq_true,beq_iff_eq,decide_eq_true_eq,not_or]at h1;exact⟨h1.1,by omega⟩
  ·exact yz8 h c hc
theorem Zs{n g:Int}(h:aq n=true):nG (n.tdiv g):=by
 have:(n.tdiv g).natAbs≤n.natAbs:=by rw[Int.natAbs_tdiv];exact Nat.div_le_self _ _
 rw[sL]at h;unfold nG;omega
theorem Y5(d):CS (bB d).1:=by
 unfold bB;split
 ·exact⟨by simp[bE],by simp[bE],by simp[bE,nG]⟩
 ·rename_i h;have h0:cr d=0:=by simpa using h
  have sY:=Bn h0;have yf:=O9 h0;have⟨tH,yb⟩:=GC h0;split
  ·split
   ·exact⟨by simp,by simp,by simp[nG]⟩
   ·split
    ·exact⟨by simp,by simp,by simp[nG]⟩
    ·exact⟨by simp[bE],by simp[bE],by simp[bE,nG]⟩
  ·refine⟨by simpa using sY,fun c hc=>?_,Zs yb⟩;obtain⟨x,hx,rfl⟩:=List.mem_map.1 hc;exact⟨(yz8 tH x hx).2,Zs (yf x hx)⟩
theorem rz(v)(txt)(q):jD v txt q 2000 2001=[(1000,[.d (.aw (v.vars.map b8.cells)),.d (.aw (v.syms.map cI.cells)),.d (.aw (v.bT.map bI.cells)),.mref 1001,.own 2000 2 (q.ah.map aH.cells),.own 2001 1 (q.aA.map gS),.mref 1002,.d (.bool q.bad)]),(1001,[.mp jt pS (gM txt q.ah)]),(1002,[.mp jt rA (dc q.aA)])]:=rfl
theorem ud(o)(i):(bh o i).cells=[.int .i64 o,.str [],.int .i64 0,.aw [[.int .i64 3,.str (Lib.itoa (i:Int)),.int .i64 0,.aw []],[.int .i64 1,.str [],.int .i64 0,.aw []]]]:=by unfold bh;rw[Pred.bm];simp only[Pred.op,Pred.name,Pred.n,Pred.kids,mC,mN,Pred.bm (.mk 3 _ 0 []),Pred.bm (.mk 1 [] 0 [])]
theorem Gr(txt)(d)(q):(cE txt d q).2.ah.length≤q.ah.length+1∧(cE txt d q).1≤q.ah.length∧(cE txt d q).2.aA=q.aA:=by
 unfold cE;cases h:kG txt q.ah (txt (bB d).1)with
 |some i=>have:=Vs txt _ q.ah 0 i h;exact⟨by simp,by simp;omega,rfl⟩
 |none=>exact⟨by simp,by simp,rfl⟩
variable{E:ax}(Z:Sys E)
include Z
variable(v:al)(txt:aH→aD)
theorem Cz(a:aH)(ok)(q):E.C uX [] (.bx [.ptr 1000 0,.agg (a.cells.map .d),.d (.bool ok)] (jD v txt q 2000 2001) QT (.agg a.cells) (jD v txt (q.note ok) 2000 2001) QT):=by
 refine Z.uX _ _ ⟨bn rfl,bn rfl,rfl,?_⟩;cases ok with
 |true=>
  have hq:q.note true=q:=by unfold QS.note;simp
  rw[hq];simp only[Ln,jD,gj,QT,go_sem,aH.bm];exact fF 2000 2001 rfl rfl rfl rfl rfl rfl
 |false=>
  have hq:q.note false=⟨q.ah,q.aA,true⟩:=by unfold QS.note;simp
  rw[hq];simp only[Ln,jD,gj,QT,go_sem,aH.bm];exact fF (q:=⟨q.ah,q.aA,true⟩) 2000 2001 rfl rfl rfl rfl rfl rfl
attribute [local go_sem] AV.tx MV.av
set_option maxHeartbeats 1000000 in
theorem Su(hI:fu E)(hT:j4 E txt)(d)(q)(hq:q.ah.length≤1073741824):E.C CD [] (.bx [.ptr 1000 0,.agg (d.cells.map .d)] (jD v txt q 2000 2001) QT (.tup [.agg (bh 10 (cE txt d q).1).cells,.agg (bh 13 (cE txt d q).1).cells,.one (.bool (decide ((bB d).2<0)))]) (jD v txt (cE txt d q).2 2000 2001) QT):=by
 have hF:=zX4 Z d;have ht:=hT _ (Y5 d);have hit:=hI ((cE txt d q).1:Int) (by have:=(Gr txt d q).2.1;unfold BL;omega);have cV:=fun o=>D7 Z o (.mk 3 (Lib.itoa ((cE txt d q).1:Int)) 0 []) (.mk 1 [] 0 []);have hl:∀o,(bh o (cE txt d q).1).cells=_:=fun o=>ud o (cE txt d q).1;have wN:∀o,Pred.mk o [] 0 [.mk 3 (Lib.itoa ((cE txt d q).1:Int)) 0 [],.mk 1 [] 0 []]=bh o (cE txt d q).1:=fun _=>rfl;simp only[wN,Pred.bm (.mk 3 _ 0 []),Pred.bm (.mk 1 [] 0 []),Pred.op,Pred.name,Pred.n,Pred.kids,mN]at cV;clear wN;generalize vJ:(bh 10 (cE txt d q).1).cells=L10 at*
 generalize vK:(bh 13 (cE txt d q).1).cells=L13 at*
 have qT:=cV 10;have qU:=cV 13;rw[vJ]at qT;rw[vK]at qU;have vO:=hl 10;have vQ:=hl 13;rw[vJ]at vO;rw[vK]at vQ;clear cV hl vJ vK;refine Z.CD _ _ ⟨bn rfl,bn rfl,rfl,?_⟩;generalize hA:cE txt d q=A at*
 obtain⟨i,q1⟩:=A;unfold cE at hA;unfold wu at hF;generalize bB d=F at*
 obtain⟨f,s⟩:=F;have xt:=YE txt q.ah (txt f);have ve:=ZH txt q.ah (txt f);have I3:=ZI txt q.ah;simp only[aH.bm]at*
 simp only[UM,rz v txt q,QT,go_sem];refine⟨_,hF,?_⟩;simp only[go_sem];refine⟨_,ht,?_⟩;simp only[go_sem,xt,ve];cases vX:kG txt q.ah (txt f)with
 |some j=>rw[vX]at hA;obtain⟨rfl,rfl⟩:=Prod.mk.inj hA;simp only[go_sem,oS,Option.getD_some];refine⟨_,hit,?_⟩;simp only[go_sem];refine⟨_,qT,?_⟩;simp only[go_sem];refine⟨_,qU,?_⟩;simp only[go_sem,vO,vQ];exact fF 2000 2001 rfl rfl rfl rfl rfl rfl
 |none=>
  rw[vX]at hA;obtain⟨rfl,rfl⟩:=Prod.mk.inj hA;have mw:=aH.lens q.ah;have o1:(q.ah.length+1)*32≤2^46:=by omega
  have o2:q.ah.length≤9223372036854775806:=by omega
  have o3:q.ah.length<9223372036854775807:=by omega
  simp only[go_sem,Option.isSome_none];intro _;simp only[go_sem,I3,o3,lM,o1,o2,mw];refine⟨fun e he=>by rw[List.mem_singleton.1 he];rfl,?_⟩;refine⟨_,hit,?_⟩;simp only[go_sem];refine⟨_,qT,?_⟩;simp only[go_sem];refine⟨_,qU,?_⟩;simp only[go_sem,vO,vQ];refine fF (q:=⟨q.ah++[f],q.aA,q.bad⟩) 50 2001 ?_ ?_ rfl rfl rfl rfl
  ·simp only[go_sem,gj,mA];rfl
  ·simp only[go_sem,Zc]
end Go.Abs
end
section
namespace Go.Abs
theorem YI(v)(txt)(q)(a b):jD v txt q a b=[(1000,[.d (.aw (v.vars.map b8.cells)),.d (.aw (v.syms.map cI.cells)),.d (.aw (v.bT.map bI.cells)),.mref 1001,.own a 2 (q.ah.map aH.cells),.own b 1 (q.aA.map gS),.mref 1002,.d (.bool q.bad)]),(1001,[.mp jt pS (gM txt q.ah)]),(1002,[.mp jt rA (dc q.aA)])]:=rfl
variable{E:ax}(Z:Sys E)
include Z
variable(v:al)(txt:aH→aD)
theorem yxf(hI:fu E)(hT:j4 E txt)(d)(q)(hq:q.ah.length≤1073741824):E.C Ga [] (.bx [.ptr 1000 0,.agg (d.cells.map .d)] (jD v txt q 2000 2001) QT (.agg (eB txt d q).1.cells) (jD v txt (eB txt d q).2 2000 2001) QT):=by
 have vM:=Su Z v txt hI hT d q hq;have aa:=fun b=>Lb Z b;refine Z.Ga _ _ ⟨bn rfl,bn rfl,rfl,?_⟩;generalize hA:eB txt d q=A at*
 unfold eB at hA;obtain⟨P,q1⟩:=A;generalize cE txt d q=S at*
 obtain⟨i,q2⟩:=S;simp only[aH.bm,mC,mN,ud]at*
 simp only[zkh,rz v txt q,QT,go_sem];intro hl;cases c:((d.aG.length:Int)==0)with
 |true=>rw[c,if_pos rfl]at hA;obtain⟨rfl,rfl⟩:=Prod.mk.inj hA;simp only[go_sem];refine⟨_,aa _,?_⟩;unfold tP;simp only[go_sem];exact fF 2000 2001 rfl rfl rfl rfl rfl rfl
 |false=>rw[c,if_neg (by decide)]at hA;obtain⟨rfl,rfl⟩:=Prod.mk.inj hA;simp only[go_sem];refine bX vM 2000 2001 3000 3001 rfl rfl (by simp only[jm,go_sem]) rfl rfl rfl rfl rfl rfl rfl rfl rfl ?_;simp only[go_sem,ud];exact fF 3000 3001 rfl rfl rfl rfl rfl rfl
theorem yYf(hI:fu E)(hT:j4 E txt)(d)(q)(hq:q.ah.length≤1073741824):E.C CG [] (.bx [.ptr 1000 0,.agg (d.cells.map .d)] (jD v txt q 2000 2001) QT (.agg (dt txt d q).1.cells) (jD v txt (dt txt d q).2 2000 2001) QT):=by
 have vM:=Su Z v txt hI hT d q hq;have aa:=fun b=>Lb Z b;have fk:=fun i=>K7 Z (bh 13 i);have cV:=fun i=>D7 Z 16 (eK (bh 13 i)) (bh 10 i);refine Z.CG _ _ ⟨bn rfl,bn rfl,rfl,?_⟩;generalize hA:dt txt d q=A at*
 unfold dt at hA;obtain⟨P,q1⟩:=A;generalize cE txt d q=S at*
 obtain⟨i,q2⟩:=S;have Df:(eK (bh 13 i)).cells=[.int .i64 14,.str [],.int .i64 0,.aw [(bh 13 i).cells]]:=by unfold eK;rw[Pred.bm];rfl
 have fk:=fk i;have cV:=cV i;have B7:Pred.mk 14 [] 0 [bh 13 i]=eK (bh 13 i):=rfl;rw[B7]at fk;rw[Df]at fk cV;have zB:=Pred.bm (Pred.mk 16 [] 0 [eK (bh 13 i),bh 10 i]);simp only[Pred.op,Pred.name,Pred.n,Pred.kids]at zB;generalize Jg:(Pred.mk 16 [] 0 [eK (bh 13 i),bh 10 i]).cells=oC at*
 simp only[aH.bm,mC,mN,ud]at*
 simp only[UQ,rz v txt q,QT,go_sem];intro hl;cases c:((d.aG.length:Int)==0)with
 |true=>rw[c,if_pos rfl]at hA;obtain⟨rfl,rfl⟩:=Prod.mk.inj hA;simp only[go_sem];refine⟨_,aa _,?_⟩;unfold tP;simp only[go_sem];exact fF 2000 2001 rfl rfl rfl rfl rfl rfl
 |false=>
  rw[c,if_neg (by decide)]at hA;simp only[go_sem];refine bX vM 2000 2001 3000 3001 rfl rfl (by simp only[jm,go_sem]) rfl rfl rfl rfl rfl rfl rfl rfl rfl ?_;simp only[go_sem,ud];by_cases hs:(bB d).2<0
  ·rw[if_pos hs]at hA;obtain⟨rfl,rfl⟩:=Prod.mk.inj hA;simp only[go_sem,decide_eq_true hs,if_true];refine⟨_,fk,?_⟩;simp only[go_sem];refine⟨_,cV,?_⟩;simp only[go_sem,Jg,zB];exact fF 3000 3001 rfl rfl rfl rfl rfl rfl
  ·rw[if_neg hs]at hA;obtain⟨rfl,rfl⟩:=Prod.mk.inj hA;simp only[go_sem,decide_eq_false hs,ud,if_false];exact fF 3000 3001 rfl rfl rfl rfl rfl rfl
theorem yjK(hI:fu E)(hT:j4 E txt)(d)(q)(hq:q.ah.length≤1073741824):E.C Lp [] (.bx [.ptr 1000 0,.agg (d.cells.map .d)] (jD v txt q 2000 2001) QT (.agg (eh txt d q).1.cells) (jD v txt (eh txt d q).2 2000 2001) QT):=by
 have vM:=Su Z v txt hI hT d q hq;have aa:=fun b=>Lb Z b;have fk:=fun o i=>K7 Z (bh o i);have cV:=fun i=>D7 Z 15 (bh 13 i) (eK (bh 10 i));refine Z.Lp _ _ ⟨bn rfl,bn rfl,rfl,?_⟩;generalize hA:eh txt d q=A at*
 unfold eh at hA;obtain⟨P,q1⟩:=A;generalize cE txt d q=S at*
 obtain⟨i,q2⟩:=S;have Df:∀o,(eK (bh o i)).cells=[.int .i64 14,.str [],.int .i64 0,.aw [(bh o i).cells]]:=fun o=>by unfold eK;rw[Pred.bm];rfl
 have fk:=fun o=>fk o i;have cV:=cV i;have B7:∀o,Pred.mk 14 [] 0 [bh o i]=eK (bh o i):=fun o=>rfl;have zw:=fk 10;have zx:=fk 13;rw[B7,Df]at zw zx;rw[Df]at cV;have zB:=Pred.bm (Pred.mk 15 [] 0 [bh 13 i,eK (bh 10 i)]);simp only[Pred.op,Pred.name,Pred.n,Pred.kids]at zB;generalize Jg:(Pred.mk 15 [] 0 [bh 13 i,eK (bh 10 i)]).cells=oC at*
 have Jd:=Df 13;clear fk Df;simp only[aH.bm,mC,mN,ud]at*
 simp only[zwK,rz v txt q,QT,go_sem];intro hl;cases c:((d.aG.length:Int)==0)with
 |true=>rw[c,if_pos rfl]at hA;obtain⟨rfl,rfl⟩:=Prod.mk.inj hA;simp only[go_sem];refine⟨_,aa _,?_⟩;unfold tP;simp only[go_sem];exact fF 2000 2001 rfl rfl rfl rfl rfl rfl
 |false=>
  rw[c,if_neg (by decide)]at hA;simp only[go_sem];refine bX vM 2000 2001 3000 3001 rfl rfl (by simp only[jm,go_sem]) rfl rfl rfl rfl rfl rfl rfl rfl rfl ?_;simp only[go_sem,ud];by_cases hs:(bB d).2<0
  ·rw[if_pos hs]at hA;obtain⟨rfl,rfl⟩:=Prod.mk.inj hA;simp only[go_sem,decide_eq_true hs,if_true];refine⟨_,zx,?_⟩;simp only[go_sem,Jd];exact fF 3000 3001 rfl rfl rfl rfl rfl rfl
  ·rw[if_neg hs]at hA;obtain⟨rfl,rfl⟩:=Prod.mk.inj hA;simp only[go_sem,decide_eq_false hs,if_false];refine⟨_,zw,?_⟩;simp only[go_sem];refine⟨_,cV,?_⟩;simp only[go_sem,Jg,zB];exact fF 3000 3001 rfl rfl rfl rfl rfl rfl
theorem zWc(s:aD)(q):E.C Bu [] (.bx [.ptr 1000 0,.d (.str s)] (jD v txt q 2000 2001) QT (.agg (dI s).1.cells) (jD v txt (q.note (dI s).2) 2000 2001) QT):=by
 have gV:=CA Z ⟨[⟨s,1⟩],0⟩ bE;have dE:=Cz Z v txt (dI s).1 (dI s).2 q;refine Z.Bu _ _ ⟨bn rfl,bn rfl,rfl,?_⟩;have hv:cf ⟨[⟨s,1⟩],0⟩ bE=dI s:=rfl;rw[hv]at gV;generalize dI s=V at*
 obtain⟨L,ok⟩:=V;unfold lv at gV;simp only[aH.bm,mC,mN,bE,ak.bm]at*
 simp only[US,rz v txt q,QT,go_sem];refine⟨_,gV,?_⟩;simp only[go_sem];refine bX dE 2000 2001 3000 3001 rfl rfl (by simp only[jm,go_sem]) rfl rfl rfl rfl rfl rfl rfl rfl rfl ?_;simp only[go_sem];exact fF 3000 3001 rfl rfl rfl rfl rfl rfl
end Go.Abs
end
section
namespace Go.Abs
theorem DW(q:QS)(a b):(q.note a).note b=q.note (a&&b):=by
 unfold QS.note;cases a<;>cases b<;>simp
theorem LM(q:QS):q.note true=q:=by unfold QS.note;simp
theorem DX(q:QS)(a):(q.note a).ah=q.ah:=rfl
def aj:Pred→aH×Bool
 |.mk o s n ks=>
  if o==1 then(⟨[],n⟩,true)
  else match ks with
   |[a,b]=>
    if o==6 then((cf (aj a).1 (aj b).1).1,(aj a).2&&(aj b).2&&(cf (aj a).1 (aj b).1).2)
    else if o==7 then((cf (aj a).1 (aF (aj b).1 (-1)).1).1,(aj a).2&&(aj b).2&&(aF (aj b).1 (-1)).2&&(cf (aj a).1 (aF (aj b).1 (-1)).1).2)
    else if o==8 then((aF (aj b).1 a.n).1,(aj b).2&&(aF (aj b).1 a.n).2)
    else dI (aU (.mk o s n [a,b]))
   |[a]=>if o==9 then((aF (aj a).1 (-1)).1,(aj a).2&&(aF (aj a).1 (-1)).2)else dI (aU (.mk o s n [a]))
   |l=>dI (aU (.mk o s n l))
theorem yVi{o}{s:aD}{n ks}(h:Pred.err (.mk o s n ks)=0):nG o∧nG n:=by
 have h':dr o s n ks=0:=h;unfold dr at h';by_cases c1:(decide (o<1)||decide (o>18)||!s==[]&&!bG o||n !=0&&!(o==1||o==2)||!bN o ks.length)=true
 ·rw[if_pos c1]at h';cases h'
 ·rw[if_neg c1]at h';by_cases c2:(o==1&&!aq n||o==2&&(decide (n<0)||decide (n>1)))=true
  ·rw[if_pos c2]at h';cases h'
  ·simp only[Bool.or_eq_true,decide_eq_true_eq,not_or,Bool.and_eq_true,not_and,bne_iff_ne,Bool.not_eq_true',Bool.or_eq_false_iff,beq_eq_false_iff_ne,ne_eq]at c1 c2;have ho:1≤o∧o≤18:=by omega
   refine And.intro (by unfold nG;omega) ?_;by_cases h1:o=1
   ·have:=c2.1 (by simpa using h1);have hr:aq n=true:=by simpa using this
    rw[sL]at hr;unfold nG;omega
   ·by_cases h2:o=2
    ·have:=c2.2 (by simpa using h2);unfold nG;omega
    ·have:n=0:=by
       have:=c1.1.2;by_cases hn:n=0
       ·exact hn
       ·exact absurd h2 (this hn h1)
     subst this;unfold nG;omega
theorem HU{p}(h:Good p):kF p:=fun q hq=>by have:=h q hq;obtain⟨o,s,n,ks⟩:=q;exact yVi this
variable{E:ax}(Z:Sys E)
include Z
variable(v:al)(txt:aH→aD)
set_option maxHeartbeats 4000000 in
theorem yxe(hI:fu E)(hJ:mK E)(p):∀q:QS,Good p→p.sz≤1048576→E.C yw [] (.bx [.ptr 1000 0,.agg (p.cells.map .d)] (jD v txt q 2000 2001) QT (.agg (aj p).1.cells) (jD v txt (q.note (aj p).2) 2000 2001) QT):=by
 induction p using Pred.ind with
 |h o s n ks ih=>
 intro q ha hz;have hi:=HU ha;obtain⟨_,uZ,_,_⟩:=ha.top;have fG:=LR Z hI hJ _ hi hz;have cU:=@BD o s n ks;refine Z.yw _ _ ⟨bn rfl,bn rfl,rfl,?_⟩;have fH:∀(L:aH) (ok:Bool),(L,ok)=dI (aU (.mk o s n ks))→E.C Bu [] (.bx [.ptr 1000 0,.d (.str (aU (.mk o s n ks)))] (jD v txt q 2000 2001) QT (.agg L.cells) (jD v txt (q.note ok) 2000 2001) QT):=by intro L ok h;have:=zWc Z v txt (aU (.mk o s n ks)) q;rw[←h]at this;exact this
 generalize hN:aU (.mk o s n ks)=N at*
 generalize hR:aj (.mk o s n ks)=R at*
 obtain⟨L,ok⟩:=R;rw[Pred.bm (.mk o s n ks)]at fG⊢;simp only[Pred.op,Pred.name,Pred.n,Pred.kids]at fG⊢;by_cases h1:o=1
 ·subst h1;obtain rfl:=TT uZ (by decide);have qk:((⟨[],n⟩:aH),true)=(L,ok):=by rw[←hR];rfl
  obtain⟨rfl,rfl⟩:=Prod.mk.inj qk;rw[LM];simp only[F9,rz v txt q,QT,go_sem,aH.bm,Int.reduceBEq];exact fF 2000 2001 rfl rfl rfl rfl rfl rfl
 have e1:(o==1)=false:=by simpa using h1
 by_cases h6:o=6
 ·subst h6;obtain⟨a,b,rfl⟩:=G9 uZ (by decide) (by decide) (by decide) (by decide) (by decide) (by decide) (by decide);rw[aj]at hR;have qk:((cf (aj a).1 (aj b).1).1,(aj a).2&&(aj b).2&&(cf (aj a).1 (aj b).1).2)=(L,ok):=hR;have my:=ih a (by simp) q (ha.ej (by simp)) (by have:=Az (ks:=[a,b]) (k:=a) (by simp);omega);have nM:=ih b (by simp) (q.note (aj a).2) (ha.ej (by simp)) (by have:=Az (ks:=[a,b]) (k:=b) (by simp);omega);have gV:=CA Z (aj a).1 (aj b).1;have dE:=Cz Z v txt (cf (aj a).1 (aj b).1).1 (cf (aj a).1 (aj b).1).2 ((q.note (aj a).2).note (aj b).2);have ji:(∀e∈[a.cells,b.cells],e.length=4)=True:=eq_true (by simp[Pred.mV]);unfold lv at gV;generalize aj a=A at*
  generalize aj b=B at*
  generalize cf A.1 B.1=S at*
  obtain⟨rfl,rfl⟩:=Prod.mk.inj qk;rw[DW]at nM dE;rw[DW]at dE;clear fH fG hR qk;simp only[aH.bm,mC,mN]at*
  simp only[F9,rz v txt q,QT,go_sem,Int.reduceBEq,lC,lN,mC,mN,ji];refine bX my 2000 2001 3000 3001 rfl rfl (by simp only[jm,go_sem]) rfl rfl rfl rfl rfl rfl rfl rfl rfl ?_;simp only[go_sem,ji];refine⟨?_,?_⟩;all_goals
   refine bX nM 3000 3001 3002 3003 rfl rfl (by simp only[jm,go_sem]) rfl rfl rfl rfl rfl rfl rfl rfl rfl ?_;simp only[go_sem,ji];refine⟨_,gV,?_⟩;simp only[go_sem];refine bX dE 3002 3003 3004 3005 rfl rfl (by simp only[jm,go_sem]) rfl rfl rfl rfl rfl rfl rfl rfl rfl ?_;simp only[go_sem];exact fF 3004 3005 rfl rfl rfl rfl rfl rfl
 by_cases h7:o=7
 ·subst h7;obtain⟨a,b,rfl⟩:=G9 uZ (by decide) (by decide) (by decide) (by decide) (by decide) (by decide) (by decide);rw[aj]at hR;have qk:((cf (aj a).1 (aF (aj b).1 (-1)).1).1,(aj a).2&&(aj b).2&&(aF (aj b).1 (-1)).2&&(cf (aj a).1 (aF (aj b).1 (-1)).1).2)=(L,ok):=hR;have my:=ih a (by simp) q (ha.ej (by simp)) (by have:=Az (ks:=[a,b]) (k:=a) (by simp);omega);have nM:=ih b (by simp) (q.note (aj a).2) (ha.ej (by simp)) (by have:=Az (ks:=[a,b]) (k:=b) (by simp);omega);have wZ:=HA Z (aj b).1 (-1);have gV:=CA Z (aj a).1 (aF (aj b).1 (-1)).1;have zI:=Cz Z v txt (aF (aj b).1 (-1)).1 (aF (aj b).1 (-1)).2 ((q.note (aj a).2).note (aj b).2);have dE:=Cz Z v txt (cf (aj a).1 (aF (aj b).1 (-1)).1).1 (cf (aj a).1 (aF (aj b).1 (-1)).1).2 (((q.note (aj a).2).note (aj b).2).note (aF (aj b).1 (-1)).2);have ji:(∀e∈[a.cells,b.cells],e.length=4)=True:=eq_true (by simp[Pred.mV]);unfold lv at gV wZ;generalize aj a=A at*
  generalize aj b=B at*
  generalize aF B.1 (-1)=C at*
  generalize cf A.1 C.1=S at*
  obtain⟨rfl,rfl⟩:=Prod.mk.inj qk;simp only[DW]at nM dE zI;clear fH fG hR qk;simp only[aH.bm,mC,mN]at*
  simp only[F9,rz v txt q,QT,go_sem,Int.reduceBEq,lC,lN,mC,mN,ji];refine bX my 2000 2001 3000 3001 rfl rfl (by simp only[jm,go_sem]) rfl rfl rfl rfl rfl rfl rfl rfl rfl ?_;simp only[go_sem,ji];refine bX nM 3000 3001 3002 3003 rfl rfl (by simp only[jm,go_sem]) rfl rfl rfl rfl rfl rfl rfl rfl rfl ?_;simp only[go_sem,ji];refine⟨_,wZ,?_⟩;simp only[go_sem];refine⟨?_,?_⟩;all_goals
   refine bX zI 3002 3003 3004 3005 rfl rfl (by simp only[jm,go_sem]) rfl rfl rfl rfl rfl rfl rfl rfl rfl ?_;simp only[go_sem];refine⟨_,gV,?_⟩;simp only[go_sem];refine bX dE 3004 3005 3006 3007 rfl rfl (by simp only[jm,go_sem]) rfl rfl rfl rfl rfl rfl rfl rfl rfl ?_;simp only[go_sem];exact fF 3006 3007 rfl rfl rfl rfl rfl rfl
 by_cases h8:o=8
 ·subst h8;obtain⟨a,b,rfl⟩:=G9 uZ (by decide) (by decide) (by decide) (by decide) (by decide) (by decide) (by decide);rw[aj]at hR;have qk:((aF (aj b).1 a.n).1,(aj b).2&&(aF (aj b).1 a.n).2)=(L,ok):=hR;have nM:=ih b (by simp) q (ha.ej (by simp)) (by have:=Az (ks:=[a,b]) (k:=b) (by simp);omega);have wZ:=HA Z (aj b).1 a.n;have dE:=Cz Z v txt (aF (aj b).1 a.n).1 (aF (aj b).1 a.n).2 (q.note (aj b).2);have ji:(∀e∈[[D.int .i64 a.op,.str a.name,.int .i64 a.n,.aw (a.kids.map Pred.cells)],b.cells],e.length=4)=True:=eq_true (by simp[Pred.mV]);have nH:=Pred.bm a;unfold lv at wZ;generalize aj b=B at*
  generalize aF B.1 a.n=C at*
  obtain⟨rfl,rfl⟩:=Prod.mk.inj qk;simp only[DW]at dE;clear fH fG hR qk;simp only[aH.bm,mC,mN]at*
  simp only[F9,rz v txt q,QT,go_sem,Int.reduceBEq,lC,lN,mC,mN,nH,ji];refine G4 [(3,3,1)] ?_;simp only[go_sem,ji,List.contains_cons,cN,Nat.reduceBEq,beq_self_eq_true];refine bX nM 2000 2001 3000 3001 rfl rfl (by simp only[jm,go_sem]) rfl rfl rfl rfl rfl rfl rfl rfl rfl ?_;simp only[go_sem,ji];refine⟨_,wZ,?_⟩;simp only[go_sem];refine bX dE 3000 3001 3002 3003 rfl rfl (by simp only[jm,go_sem]) rfl rfl rfl rfl rfl rfl rfl rfl rfl ?_;simp only[go_sem];exact fF 3002 3003 rfl rfl rfl rfl rfl rfl
 by_cases h9:o=9
 ·subst h9;obtain⟨a,rfl⟩:=SZ uZ (by decide);rw[aj]at hR;have qk:((aF (aj a).1 (-1)).1,(aj a).2&&(aF (aj a).1 (-1)).2)=(L,ok):=hR;have my:=ih a (by simp) q (ha.ej (by simp)) (by have:=Az (ks:=[a]) (k:=a) (by simp);omega);have wZ:=HA Z (aj a).1 (-1);have dE:=Cz Z v txt (aF (aj a).1 (-1)).1 (aF (aj a).1 (-1)).2 (q.note (aj a).2);have ji:(∀e∈[a.cells],e.length=4)=True:=eq_true (by simp[Pred.mV]);unfold lv at wZ;generalize aj a=B at*
  generalize aF B.1 (-1)=C at*
  obtain⟨rfl,rfl⟩:=Prod.mk.inj qk;simp only[DW]at dE;clear fH fG hR qk;simp only[aH.bm,mC,mN]at*
  simp only[F9,rz v txt q,QT,go_sem,Int.reduceBEq,lC,lN,mC,mN,ji];refine bX my 2000 2001 3000 3001 rfl rfl (by simp only[jm,go_sem]) rfl rfl rfl rfl rfl rfl rfl rfl rfl ?_;simp only[go_sem,ji];refine⟨_,wZ,?_⟩;simp only[go_sem];refine bX dE 3000 3001 3002 3003 rfl rfl (by simp only[jm,go_sem]) rfl rfl rfl rfl rfl rfl rfl rfl rfl ?_;simp only[go_sem];exact fF 3002 3003 rfl rfl rfl rfl rfl rfl
 have e6:(o==6)=false:=by simpa using h6
 have e7:(o==7)=false:=by simpa using h7
 have e8:(o==8)=false:=by simpa using h8
 have e9:(o==9)=false:=by simpa using h9
 have qk:(L,ok)=dI N:=by
  rw[←hR,←hN];rcases ks with _|⟨a,_|⟨b,_|⟨c,r⟩⟩⟩<;>rw[aj]<;>try simp only[e1,e6,e7,e8,e9,Bool.false_eq_true,if_false]
  all_goals (first|done|simp)
 have fH:=fH L ok qk;simp only[aH.bm,mC,mN]at*
 simp only[F9,rz v txt q,QT,go_sem,e1,e6,e7,e8,e9];refine⟨_,fG,?_⟩;simp only[go_sem];refine bX fH 2000 2001 3000 3001 rfl rfl (by simp only[jm,go_sem]) rfl rfl rfl rfl rfl rfl rfl rfl rfl ?_;simp only[go_sem];exact fF 3000 3001 rfl rfl rfl rfl rfl rfl
end Go.Abs
end
section
namespace Go.Abs
def lJ:aH:=⟨[],-1⟩
def QS.take(q:QS)(s:aD):QS:=if q.aA.contains s then q else{q with aA:=q.aA++[s]}
def dV(s:aD):aH×Bool:=((cf (dI s).1 lJ).1,(dI s).2&&(cf (dI s).1 lJ).2)
def rY(s:aD):aH×Bool:=((aF (dI s).1 (-1)).1,(dI s).2&&(aF (dI s).1 (-1)).2)
def fo(txt:aH→aD)(s:aD)(q:QS):Pred×QS:=eB txt (dV s).1 ((q.take s).note (dV s).2)
def bj(txt:aH→aD)(s:aD)(up:Bool)(q:QS):Pred×QS:=if up then dt txt (dV s).1 (q.note (dV s).2)else dt txt (rY s).1 (q.note (rY s).2)
theorem O5(q:QS)(s):(q.take s).ah=q.ah:=by unfold QS.take;split<;>rfl
variable{E:ax}(Z:Sys E)
include Z
variable(v:al)(txt:aH→aD)
attribute [local go_sem] AV.tx MV.av
set_option maxHeartbeats 1000000 in
theorem yjN(hI:fu E)(hT:j4 E txt)(s:aD)(q)(hq:q.ah.length≤1073741824)(hb:q.aA.length≤1073741824):E.C Lq [] (.bx [.ptr 1000 0,.d (.str s)] (jD v txt q 2000 2001) QT (.agg (fo txt s q).1.cells) (jD v txt (fo txt s q).2 2000 2001) QT):=by
 have fH:=zWc Z v txt s (q.take s);have gV:=CA Z (dI s).1 lJ;have dE:=Cz Z v txt (cf (dI s).1 lJ).1 (cf (dI s).1 lJ).2 ((q.take s).note (dI s).2);have hzero:=yxf Z v txt hI hT (dV s).1 ((q.take s).note (dV s).2) (by rw[DX,O5];exact hq);refine Z.Lq _ _ ⟨bn rfl,bn rfl,rfl,?_⟩;unfold fo;rw[DW]at dE;have fE:((dI s).2&&(cf (dI s).1 lJ).2)=(dV s).2:=rfl;rw[fE]at dE;have l9:(cf (dI s).1 lJ).1=(dV s).1:=rfl;unfold lv at gV;rw[l9]at dE gV;generalize (cf (dI s).1 lJ).2=ok2 at*
 generalize dV s=LL at*
 generalize eB txt LL.1 ((q.take s).note LL.2)=R at*
 obtain⟨P,q4⟩:=R;generalize Jm:(q.take s).note LL.2=q3 at*
 generalize dI s=V at*
 generalize mr:(q.take s).note V.2=q2 at*
 have CJ:=Pred.bm P;generalize P.cells=Pc at*
 subst CJ;have ht:=yW2 q.aA s;have htl:=yYe q.aA;unfold QS.take at*
 simp only[aH.bm,mC,mN,lJ]at*
 simp only[zwL,rz v txt q,QT,go_sem,ht];cases hc:q.aA.contains s with
 |true=>rw[hc,if_pos rfl]at fH;simp only[go_sem];refine bX fH 2000 2001 3000 3001 rfl rfl (by simp only[jm,go_sem]) rfl rfl rfl rfl rfl rfl rfl rfl rfl ?_;simp only[go_sem];refine⟨_,gV,?_⟩;simp only[go_sem];refine bX dE 3000 3001 3002 3003 rfl rfl (by simp only[jm,go_sem]) rfl rfl rfl rfl rfl rfl rfl rfl rfl ?_;simp only[go_sem];refine bX hzero 3002 3003 3004 3005 rfl rfl (by simp only[jm,go_sem]) rfl rfl rfl rfl rfl rfl rfl rfl rfl ?_;simp only[go_sem];exact fF 3004 3005 rfl rfl rfl rfl rfl rfl
 |false=>
  rw[hc,if_neg (by decide)]at fH;have o1:(q.aA.length+1)*16≤2^46:=by omega
  have o2:q.aA.length≤9223372036854775806:=by omega
  have o3:q.aA.length<9223372036854775807:=by omega
  have vl:(∀e∈q.aA.map gS,e.length=1)=True:=eq_true (fun e he=>by obtain⟨q,_,rfl⟩:=List.mem_map.1 he;rfl);simp only[go_sem,htl,o3,lM,o1,o2,vl];refine⟨fun e he=>by rw[List.mem_singleton.1 he];rfl,?_⟩;refine bX fH 2000 24 3000 3001 rfl rfl (by simp only[jm,go_sem]) (by simp only[gj,go_sem,mA];rfl) rfl (by simp only[go_sem,yjJ]) rfl rfl rfl rfl rfl rfl ?_;simp only[go_sem];refine⟨_,gV,?_⟩;simp only[go_sem];refine bX dE 3000 3001 3002 3003 rfl rfl (by simp only[jm,go_sem]) rfl rfl rfl rfl rfl rfl rfl rfl rfl ?_;simp only[go_sem];refine bX hzero 3002 3003 3004 3005 rfl rfl (by simp only[jm,go_sem]) rfl rfl rfl rfl rfl rfl rfl rfl rfl ?_;simp only[go_sem];exact fF 3004 3005 rfl rfl rfl rfl rfl rfl
end Go.Abs
end
section
namespace Go.Abs
def eC(a b:Pred):aH×Bool:=((cf (aj a).1 (aF (aj b).1 (-1)).1).1,(aj a).2&&(aj b).2&&(aF (aj b).1 (-1)).2&&(cf (aj a).1 (aF (aj b).1 (-1)).1).2)
def kI(txt:aH→aD)(o:Int)(d:aH×Bool)(q:QS):Pred×QS:=
 if(q.note d.2).bad then(dv,q.note d.2)
 else if o==10 then eB txt d.1 (q.note d.2)
 else if o==11 then(eK (eB txt d.1 (q.note d.2)).1,(eB txt d.1 (q.note d.2)).2)
 else if o==13 then dt txt d.1 (q.note d.2)
 else eh txt d.1 (q.note d.2)
def p5(o:Int)(l:List Pred):Pred:=if o==11 then eK (.mk 18 [] 0 l)else .mk 18 [] 0 l
def aO(v:al)(txt:aH→aD):Pred→QS→Pred×QS
 |.mk o s n ks,q=>
  if o==2 then(.mk o s n ks,q)
  else if o==3||o==4 then fo txt (aU (.mk o s n ks)) q
  else if o==10||(o==11||(o==12||o==13))then
   if iG v (ks.getD 0 a8)==aL then(p5 o (go ks q).1,(go ks q).2)else kI txt o (eC (ks.getD 0 a8) (ks.getD 1 a8)) q
  else(.mk o [] 0 (go ks q).1,(go ks q).2)
where go:List Pred→QS→List Pred×QS
 |[],q=>([],q)
 |k::ks,q=>((aO v txt k q).1::(go ks (aO v txt k q).2).1,(go ks (aO v txt k q).2).2)
theorem YD(v)(txt)(x):∀(l) (q),aO.go v txt (l++[x]) q=((aO.go v txt l q).1++[(aO v txt x (aO.go v txt l q).2).1],(aO v txt x (aO.go v txt l q).2).2)
 |[],q=>rfl
 |y::l,q=>by rw[List.cons_append,aO.go,YD v txt x l,aO.go];rfl
structure Grow(q q':QS)(n:Nat):Prop where
 f:q'.ah.length≤q.ah.length+n
 b:q'.aA.length≤q.aA.length+n
theorem Grow.refl(q):Grow q q 0:=⟨Nat.le_refl _,Nat.le_refl _⟩
theorem Grow.trans{a b c m n}(h:Grow a b m)(k:Grow b c n):Grow a c (m+n):=⟨by have:=h.f;have:=k.f;omega,by have:=h.b;have:=k.b;omega⟩
theorem Grow.le{a b m n}(h:Grow a b m)(k:m≤n):Grow a b n:=⟨by have:=h.f;omega,by have:=h.b;omega⟩
theorem yWb(q)(b):Grow q (q.note b) 0:=⟨Nat.le_refl _,Nat.le_refl _⟩
theorem Sr(txt)(d)(q):Grow q (cE txt d q).2 1:=by have:=Gr txt d q;exact⟨this.1,by rw[this.2.2];omega⟩
theorem Sv(txt)(d)(q):Grow q (eB txt d q).2 1:=by
 unfold eB;split
 ·exact(Grow.refl q).le (by omega)
 ·exact Sr txt d q
theorem Sw(txt)(d)(q):Grow q (dt txt d q).2 1:=by
 unfold dt;split
 ·exact(Grow.refl q).le (by omega)
 ·split<;>exact Sr txt d q
theorem zKW(txt)(d)(q):Grow q (eh txt d q).2 1:=by
 unfold eh;split
 ·exact(Grow.refl q).le (by omega)
 ·split<;>exact Sr txt d q
theorem yW1(q)(s):Grow q (q.take s) 1:=by
 unfold QS.take;split
 ·exact(Grow.refl q).le (by omega)
 ·exact⟨by simp,by simp⟩
theorem yYh(txt)(s)(q):Grow q (fo txt s q).2 1:=by
 unfold fo;have h1:=yW1 q s;have h2:=Sv txt (dV s).1 ((q.take s).note (dV s).2);have hf:=O5 q s;have hb:(eB txt (dV s).1 ((q.take s).note (dV s).2)).2.aA=(q.take s).aA:=by
  unfold eB;split
  ·rfl
  ·rw[(Gr _ _ _).2.2];rfl
 refine⟨?_,by rw[hb];exact h1.b⟩;have:=h2.f;rw[DX,hf]at this;exact this
theorem yKM(txt)(o)(d)(q):Grow q (kI txt o d q).2 1:=by
 have hn:=yWb q d.2;unfold kI;split
 ·exact hn.le (by omega)
 ·split
  ·exact(hn.trans (Sv _ _ _)).le (by omega)
  ·split
   ·exact(hn.trans (Sv _ _ _)).le (by omega)
   ·split
    ·exact(hn.trans (Sw _ _ _)).le (by omega)
    ·exact(hn.trans (zKW _ _ _)).le (by omega)
theorem Sb{v txt}:∀{l} (_:∀k∈l,∀q,Grow q (aO v txt k q).2 k.cX) (q),Grow q (aO.go v txt l q).2 (Pred.bw l)
 |[],_,q=>Grow.refl q
 |x::l,h,q=>by rw[aO.go,Pred.bw];exact(h x (by simp) q).trans (Sb (fun k hk=>h k (by simp[hk])) _)
theorem Kv(v)(txt)(p):∀q,Grow q (aO v txt p q).2 p.cX:=by
 induction p using Pred.ind with
 |h o s n ks ih=>
 intro q;have zi:=Sb ih q;rw[aO,Pred.cX];split
 ·exact(Grow.refl q).le (by omega)
 ·split
  ·exact(yYh txt _ q).le (by omega)
  ·split
   ·split
    ·exact zi.le (by omega)
    ·exact(yKM txt o _ q).le (by omega)
   ·exact zi.le (by omega)
variable{E:ax}(Z:Sys E)
include Z
variable(v:al)(txt:aH→aD)
set_option maxHeartbeats 4000000 in
theorem ywo(qj:∀p,E.C rF [.agg v.cells,.agg p.cells] (two (ff v p)))(hI:fu E)(hJ:mK E)(hT:j4 E txt)(o)(s:aD)(n)(a b)(ho:o==10||(o==11||(o==12||o==13)))
  (ih:∀k∈[a,b],∀q:QS,Grow q (aO v txt k q).2 k.cX→q.ah.length+k.cX≤1073741824→q.aA.length+k.cX≤1073741824→E.C CF [] (.bx [.ptr 1000 0,.agg (k.cells.map .d)] (jD v txt q 2000 2001) QT (.agg (aO v txt k q).1.cells) (jD v txt (aO v txt k q).2 2000 2001) QT))
  (q) (wQ:Good a) (Qo:Good b) (hz:a.sz+b.sz≤1048576) (hf:q.ah.length+(a.cX+b.cX+1)≤1073741824) (hb:q.aA.length+(a.cX+b.cX+1)≤1073741824):
  E.C Lu [] (.bx [.ptr 1000 0,.agg ((Pred.mk o s n [a,b]).cells.map .d)] (jD v txt q 2000 2001) QT (.agg (if iG v a==aL then(p5 o (aO.go v txt [a,b] q).1,(aO.go v txt [a,b] q).2)else kI txt o (eC a b) q).1.cells) (jD v txt (if iG v a==aL then(p5 o (aO.go v txt [a,b] q).1,(aO.go v txt [a,b] q).2)else kI txt o (eC a b) q).2 2000 2001) QT):=by
 have Jh:=qj a;have ji:(∀e∈[a.cells,b.cells],e.length=4)=True:=eq_true (by simp[Pred.mV]);refine Z.Lu _ _ ⟨bn rfl,bn rfl,rfl,?_⟩;have se:(Pred.mk o s n [a,b]).cells=[.int .i64 o,.str s,.int .i64 n,.aw [a.cells,b.cells]]:=by rw[Pred.bm];rfl
 rw[se];unfold iG;generalize ff v a=S at*
 obtain⟨S1,S2⟩:=S;unfold two at Jh;cases hs:(S1==aL)with
 |true=>
  have b9:(S1==[66,111,111,108])=true:=hs;have ga:=Kv v txt a q;have my:=ih a (by simp) q ga (by omega) (by omega);have gb:=Kv v txt b (aO v txt a q).2;have nM:=ih b (by simp) (aO v txt a q).2 gb (by have:=ga.f;omega) (by have:=ga.b;omega);simp only[aO.go,if_true];generalize aO v txt a q=A at*
  obtain⟨Pa,q1⟩:=A;simp only at*
  generalize aO v txt b q1=B at*
  obtain⟨Pb,q2⟩:=B;simp only at*
  have cV:=D7 Z 18 Pa Pb;have fk:=K7 Z (.mk 18 [] 0 [Pa,Pb]);have B7:Pred.mk 14 [] 0 [.mk 18 [] 0 [Pa,Pb]]=eK (.mk 18 [] 0 [Pa,Pb]):=rfl;rw[B7]at fk;unfold p5;generalize yx:Pred.mk 18 [] 0 [Pa,Pb]=I2 at*
  generalize eK I2=N2 at*
  have wM:=Pred.bm Pa;have A2:=Pred.bm Pb;have IL:=Pred.bm I2;have xI:=Pred.bm N2;simp only[al.cells,mC,mN]at*
  simp only[UT,rz v txt q,QT,go_sem,ji];refine⟨_,Jh,?_⟩;simp only[go_sem,b9,ji];refine bX my 2000 2001 3000 3001 rfl rfl (by simp only[jm,go_sem]) rfl rfl rfl rfl rfl rfl rfl rfl rfl ?_;simp only[go_sem,ji,wM];refine G4 [(7,0,4)] ?_;simp only[go_sem,ji,List.contains_cons,cN,Nat.reduceBEq,beq_self_eq_true];refine bX nM 3000 3001 3002 3003 rfl rfl (by simp only[jm,go_sem]) rfl rfl rfl rfl rfl rfl rfl rfl rfl ?_;simp only[go_sem,ji];rw[wM]at cV;rw[IL]at fk;refine⟨_,cV,?_⟩;simp only[go_sem,IL];cases vH:(o==11)with
  |true=>simp only[go_sem,if_true];refine⟨_,fk,?_⟩;simp only[go_sem,xI];exact fF 3002 3003 rfl rfl rfl rfl rfl rfl
  |false=>simp only[go_sem,if_false,IL];exact fF 3002 3003 rfl rfl rfl rfl rfl rfl
 |false=>
  have b9:(S1==[66,111,111,108])=false:=hs;simp only[Bool.false_eq_true,if_false];have hA:=yxe Z v txt hI hJ a q wQ (by omega);have hB:=yxe Z v txt hI hJ b (q.note (aj a).2) Qo (by omega);have wZ:=HA Z (aj b).1 (-1);have gV:=CA Z (aj a).1 (aF (aj b).1 (-1)).1;have zI:=Cz Z v txt (aF (aj b).1 (-1)).1 (aF (aj b).1 (-1)).2 ((q.note (aj a).2).note (aj b).2);have dE:=Cz Z v txt (cf (aj a).1 (aF (aj b).1 (-1)).1).1 (cf (aj a).1 (aF (aj b).1 (-1)).1).2 (((q.note (aj a).2).note (aj b).2).note (aF (aj b).1 (-1)).2);have wg:=yxf Z v txt hI hT (eC a b).1 (q.note (eC a b).2) (by rw[DX];omega);have uD:=yYf Z v txt hI hT (eC a b).1 (q.note (eC a b).2) (by rw[DX];omega);have tS:=yjK Z v txt hI hT (eC a b).1 (q.note (eC a b).2) (by rw[DX];omega);have aa:=Lb Z false;have fk:=fun x=>K7 Z x;simp only[DW]at hB zI dE;have hD:eC a b=((cf (aj a).1 (aF (aj b).1 (-1)).1).1,(aj a).2&&(aj b).2&&(aF (aj b).1 (-1)).2&&(cf (aj a).1 (aF (aj b).1 (-1)).1).2):=rfl;generalize eC a b=D at*
  obtain⟨D1,D2⟩:=D;obtain⟨WQ,WR⟩:=Prod.mk.inj hD;rw[←WR]at dE;unfold lv at gV wZ;rw[←WQ]at dE gV;generalize aj a=FA at*
  generalize aj b=FB at*
  generalize aF FB.1 (-1)=SB at*
  generalize (cf FA.1 SB.1).2=ok4 at*
  clear hD WQ WR;unfold kI;simp only
  generalize q.note D2=q3 at*
  generalize eB txt D1 q3=Rz at*
  generalize dt txt D1 q3=Rm at*
  generalize eh txt D1 q3=Rb at*
  obtain⟨Pz,qz⟩:=Rz;obtain⟨Pm,qm⟩:=Rm;obtain⟨Pb,qb⟩:=Rb;have fk:=fk Pz;have B7:Pred.mk 14 [] 0 [Pz]=eK Pz:=rfl;rw[B7]at fk;generalize eK Pz=N2 at*
  have C8:=Pred.bm Pz;have pZ:=Pred.bm Pm;have A2:=Pred.bm Pb;have xI:=Pred.bm N2;generalize q.note FA.2=qa at*
  generalize q.note (FA.2&&FB.2)=qab at*
  generalize q.note (FA.2&&FB.2&&SB.2)=xaq at*
  simp only[al.cells,mC,mN,aH.bm]at*
  rw[C8]at fk;simp only[UT,rz v txt q,QT,go_sem,ji];refine⟨_,Jh,?_⟩;simp only[go_sem,b9,ji];refine bX hA 2000 2001 3000 3001 rfl rfl (by simp only[jm,go_sem]) rfl rfl rfl rfl rfl rfl rfl rfl rfl ?_;simp only[go_sem,ji];refine bX hB 3000 3001 3002 3003 rfl rfl (by simp only[jm,go_sem]) rfl rfl rfl rfl rfl rfl rfl rfl rfl ?_;simp only[go_sem,ji];refine G4 [(9,0,2)] ?_;simp only[go_sem,ji,List.contains_cons,cN,Nat.reduceBEq,beq_self_eq_true];refine⟨_,wZ,?_⟩;simp only[go_sem];refine bX zI 3002 3003 3004 3005 rfl rfl (by simp only[jm,go_sem]) rfl rfl rfl rfl rfl rfl rfl rfl rfl ?_;simp only[go_sem];refine⟨_,gV,?_⟩;simp only[go_sem];refine bX dE 3004 3005 3006 3007 rfl rfl (by simp only[jm,go_sem]) rfl rfl rfl rfl rfl rfl rfl rfl rfl ?_;simp only[go_sem,gj];cases od:q3.bad with
  |true=>simp only[go_sem,if_true];refine⟨_,aa,?_⟩;simp only[go_sem,if_true,if_false];exact fF 3006 3007 rfl rfl rfl rfl rfl rfl
  |false=>
   simp only[go_sem,if_false];cases rR:(o==10)with
   |true=>simp only[go_sem,if_true];refine bX wg 3006 3007 3008 3009 rfl rfl (by simp only[jm,go_sem]) rfl rfl rfl rfl rfl rfl rfl rfl rfl ?_;simp only[go_sem,C8];exact fF 3008 3009 rfl rfl rfl rfl rfl rfl
   |false=>
   simp only[go_sem,if_false];cases vH:(o==11)with
   |true=>simp only[go_sem,if_true];refine bX wg 3006 3007 3008 3009 rfl rfl (by simp only[jm,go_sem]) rfl rfl rfl rfl rfl rfl rfl rfl rfl ?_;simp only[go_sem,C8];refine⟨_,fk,?_⟩;simp only[go_sem,xI];exact fF 3008 3009 rfl rfl rfl rfl rfl rfl
   |false=>
   simp only[go_sem,if_false];cases EH:(o==13)with
   |true=>simp only[go_sem,if_true];refine bX uD 3006 3007 3008 3009 rfl rfl (by simp only[jm,go_sem]) rfl rfl rfl rfl rfl rfl rfl rfl rfl ?_;simp only[go_sem,pZ];exact fF 3008 3009 rfl rfl rfl rfl rfl rfl
   |false=>simp only[go_sem,if_false];refine bX tS 3006 3007 3008 3009 rfl rfl (by simp only[jm,go_sem]) rfl rfl rfl rfl rfl rfl rfl rfl rfl ?_;simp only[go_sem,A2];exact fF 3008 3009 rfl rfl rfl rfl rfl rfl
end Go.Abs
end
section
namespace Go.Abs
theorem Sq(l):l.length≤Pred.bw l:=by
 induction l with
 |nil=>exact Nat.zero_le _
 |cons x a my=>
  rw[Pred.bw,lC];have:1≤x.cX:=by obtain⟨_,_,_,_⟩:=x;rw[Pred.cX];omega
  omega
theorem Tw(a b):Pred.bw (a++b)=Pred.bw a+Pred.bw b:=by
 induction a with
 |nil=>simp[Pred.bw]
 |cons x a ih=>rw[List.cons_append,Pred.bw,Pred.bw,ih];omega
theorem Sa(v)(txt):∀(l) (q),(aO.go v txt l q).1.length=l.length
 |[],q=>rfl
 |x::l,q=>by rw[aO.go,lC,lC,Sa v txt l]
variable{E:ax}(Z:Sys E)
include Z
variable(v:al)(txt:aH→aD)
set_option maxHeartbeats 4000000 in
theorem yzL(qj:∀p,E.C rF [.agg v.cells,.agg p.cells] (two (ff v p)))(hI:fu E)(hJ:mK E)(hT:j4 E txt)(p):∀q:QS,Good p→p.sz≤1048576→q.ah.length+p.cX≤1073741824→q.aA.length+p.cX≤1073741824→
  E.C CF [] (.bx [.ptr 1000 0,.agg (p.cells.map .d)] (jD v txt q 2000 2001) QT (.agg (aO v txt p q).1.cells) (jD v txt (aO v txt p q).2 2000 2001) QT):=by
 induction p using Pred.ind with
 |h o s n ks ih=>
 intro q ha hz hf hb;have hi:=HU ha;obtain⟨_,uZ,_,_⟩:=ha.top;have cU:=@BD o s n ks;have fG:=LR Z hI hJ _ hi hz;have xI:(Pred.mk o s n ks).cX=Pred.bw ks+1:=by rw[Pred.cX]
 have fA:=yjN Z v txt hI hT (aU (.mk o s n ks)) q (by omega) (by omega);refine Z.CF _ _ ⟨bn rfl,bn rfl,rfl,?_⟩;have se:(Pred.mk o s n ks).cells=[.int .i64 o,.str s,.int .i64 n,.aw (ks.map Pred.cells)]:=by rw[Pred.bm];rfl
 have hP:aO v txt (.mk o s n ks) q=if o==2 then(.mk o s n ks,q)
  else if o==3||o==4 then fo txt (aU (.mk o s n ks)) q
  else if o==10||(o==11||(o==12||o==13))then
   if iG v (ks.getD 0 a8)==aL then(p5 o (aO.go v txt ks q).1,(aO.go v txt ks q).2)else kI txt o (eC (ks.getD 0 a8) (ks.getD 1 a8)) q
  else(.mk o [] 0 (aO.go v txt ks q).1,(aO.go v txt ks q).2):=by rw[aO]
 rw[se]at fG;generalize hN:aU (.mk o s n ks)=N at*
 cases c2:(o==2)with
 |true=>rw[hP,c2,if_pos rfl];rw[se];simp only[HJ,rz v txt q,QT,go_sem,c2];exact fF 2000 2001 rfl rfl rfl rfl rfl rfl
 |false=>
 rw[c2,if_neg (by decide)]at hP;cases L0:(o==3||o==4)with
 |true=>
  rw[hP,L0,if_pos rfl];rw[se];generalize fo txt N q=R at*
  obtain⟨P,q1⟩:=R;have CJ:=Pred.bm P;cases c3:(o==3)with
  |true=>simp only[HJ,rz v txt q,QT,go_sem,c2,c3];refine⟨_,fG,?_⟩;simp only[go_sem];refine bX fA 2000 2001 3000 3001 rfl rfl (by simp only[jm,go_sem]) rfl rfl rfl rfl rfl rfl rfl rfl rfl ?_;simp only[go_sem,CJ];exact fF 3000 3001 rfl rfl rfl rfl rfl rfl
  |false=>
   have c4:(o==4)=true:=by simpa[c3]using L0
   simp only[HJ,rz v txt q,QT,go_sem,c2,c3,c4];refine⟨_,fG,?_⟩;simp only[go_sem];refine bX fA 2000 2001 3000 3001 rfl rfl (by simp only[jm,go_sem]) rfl rfl rfl rfl rfl rfl rfl rfl rfl ?_;simp only[go_sem,CJ];exact fF 3000 3001 rfl rfl rfl rfl rfl rfl
 |false=>
 rw[L0,if_neg (by decide)]at hP;obtain⟨c3,c4⟩:=Bool.or_eq_false_iff.1 L0;cases cc:(o==10||(o==11||(o==12||o==13)))with
 |true=>
  rw[cc,if_pos rfl]at hP;have QL:o=10∨o=11∨o=12∨o=13:=by simpa using cc
  obtain⟨a,b,rfl⟩:=G9 uZ (by omega) (by omega) (by omega) (by omega) (by omega) (by omega) (by omega);have Qg:Pred.bw [a,b]=a.cX+b.cX:=by simp[Pred.bw]
  have QW:Pred.lS [a,b]=a.sz+b.sz:=by simp[Pred.lS]
  have vR:=ywo Z v txt qj hI hJ hT o s n a b cc (fun k hk q _ h1 h2=>ih k hk q (ha.ej hk) (by have:=Az hk;omega) h1 h2) q (ha.ej (by simp)) (ha.ej (by simp)) (by omega) (by omega) (by omega);have WX:aO v txt (.mk o s n [a,b]) q=if iG v a==aL then(p5 o (aO.go v txt [a,b] q).1,(aO.go v txt [a,b] q).2)else kI txt o (eC a b) q:=hP
  rw[←WX]at vR;rw[se]at vR⊢;generalize aO v txt (.mk o s n [a,b]) q=R at*
  obtain⟨P,q1⟩:=R;have CJ:=Pred.bm P;clear hP WX fA;simp only[mC,mN]at vR⊢;rcases QL with rfl|rfl|rfl|rfl;all_goals
   simp only[HJ,rz v txt q,QT,go_sem,Int.reduceBEq];refine bX vR 2000 2001 3000 3001 rfl rfl (by simp only[jm,go_sem]) rfl rfl rfl rfl rfl rfl rfl rfl rfl ?_;simp only[go_sem,CJ];exact fF 3000 3001 rfl rfl rfl rfl rfl rfl
 |false=>
 rw[cc,if_neg (by decide)]at hP;have L4:(o==10)=false:=by simp at cc⊢;omega
 have Wx:(o==11)=false:=by simp at cc⊢;omega
 have Wy:(o==12)=false:=by simp at cc⊢;omega
 have L5:(o==13)=false:=by simp at cc⊢;omega
 rw[hP,se];clear hP fA fG;simp only[HJ,rz v txt q,QT,go_sem,c2,c3,c4,L4,Wx,Wy,L5];intro hlen;refine AE fun K hK=>?_;refine gU ks (fun _=>True) (fun done rest=>⟨[(34,.d (.int .i64 done.length)),(33,.d (.int .i64 ks.length)),(32,.d (.aw (ks.map Pred.cells))),(0,.ptr 1000 0),(4,.ptr 4 0),(5,.ptr 5 0)],
  (5,[.d (.int .i64 o),.d (.str []),.d (.int .i64 0),.own 5 4 ((aO.go v txt done q).1.map Pred.cells)])::(4,[.d (.int .i64 0),.d (.str []),.d (.int .i64 0),.full []])::jD v txt (aO.go v txt done q).2 2000 2001,[(5,true),(2000,true),(2001,true)]⟩) ?_ trivial ?_ ?_
 ·refine Gz 5 3 5 4 _ [] [(5,5),(2000,2000),(2001,2001)] (by simp only[go_sem];rfl) rfl (by simp) (by simp only[go_sem]) ?_;simp only[jz,go_sem,aO.go,rz v txt q,List.contains_cons,cN,oS,Nat.reduceBEq,nZ]
 ·intro done k r hl _;have dQ:k∈ks:=by rw[hl];simp
  have bf:=gw hl;have hw:IntKind.i64.wrap ((done.length:Int)+1)=((done.length+1:Nat):Int):=gn (by omega);have AM:=rJ hl;have dU:Pred.bw ks=Pred.bw done+(k.cX+Pred.bw r):=by rw[hl,Tw,Pred.bw]
  have hg:=Sb (v:=v) (txt:=txt) (l:=done) (fun k _ q=>Kv v txt k q) q;have pj:=Sa v txt done q;have yy:=Sq done;have fR:=ih k dQ (aO.go v txt done q).2 (ha.ej dQ) (by have:=Az dQ;omega) (by have:=hg.f;omega) (by have:=hg.b;omega);rw[YD];generalize aO.go v txt done q=Dn at*
  obtain⟨dp,dq⟩:=Dn;simp only at fR pj⊢;generalize aO v txt k dq=Kn at*
  obtain⟨kp,kq⟩:=Kn;simp only at fR⊢;have o1:(dp.length+1)*56≤2^46:=by omega
  have o2:dp.length≤9223372036854775806:=by omega
  have mw:=Pred.yt dp;simp only[UW,go_sem,AM,bf,lM,rz v txt dq,Pred.mV];refine⟨?_,?_⟩;all_goals
   refine bX fR 2000 2001 3000 3001 rfl rfl (by simp only[jm,go_sem]) rfl rfl rfl rfl rfl rfl rfl rfl rfl ?_;simp only[go_sem,Pred.mV,lM,o1,o2,mw,hw,lA,List.mem_singleton,forall_eq];refine jP [(5,44),(2000,3000),(2001,3001)] ?_;simp only[go_sem,rz v txt kq,YI v txt kq,List.contains_cons,cN,oS,Nat.reduceBEq,mA,mC,mN,lA]
 ·intro _;generalize aO.go v txt ks q=Dn at*
  obtain⟨dp,dq⟩:=Dn;simp only[UW,go_sem,hK,rz v txt dq];exact⟨by rw[Pred.bm];rfl,fF (q:=dq) 2000 2001 rfl rfl rfl rfl rfl rfl⟩
end Go.Abs
end
section
namespace Go.Abs
def kY(v:al)(q:QS)(a b s1 s2:Nat):List AV:=[.d (.aw (v.vars.map b8.cells)),.d (.aw (v.syms.map cI.cells)),.d (.aw (v.bT.map bI.cells)),.mref s1,.own a 2 (q.ah.map aH.cells),.own b 1 (q.aA.map gS),.mref s2,.d (.bool q.bad)]
def AY(v:al)(txt:aH→aD)(q:QS)(a b s0 s1 s2:Nat):Mem:=[(s0,kY v q a b s1 s2),(s1,[.mp jt pS (gM txt q.ah)]),(s2,[.mp jt rA (dc q.aA)])]
def pV(v:al)(txt:aH→aD)(q:QS)(ps:List Pred)(a b c s7 s8 s9 s0 s1 s2:Nat):Mem:=
 (s7,[.ptr s0 0])::(s8,[.own c 4 (ps.map Pred.cells)])::(s9,[.clo x3 [.ptr s7 0,.ptr s8 0,.ptr s9 0]])::AY v txt q a b s0 s1 s2
def ET:List (Nat×Bool):=[(2000,true),(2001,true),(2002,true)]
theorem Fz{v txt q ps a b c s7 s8 s9 s0 s1 s2}:dC [(1007,s7),(1008,s8),(1009,s9),(1000,s0),(1001,s1),(1002,s2)] [(2000,a),(2001,b),(2002,c)] (pV v txt q ps 2000 2001 2002 1007 1008 1009 1000 1001 1002)=pV v txt q ps a b c s7 s8 s9 s0 s1 s2:=by
 simp only[pV,AY,kY,dC,aZ,Option.getD_some,mC,mN,AV.oT,AV.gW,Nat.reduceEqDiff,if_true,if_false]
theorem XU{v txt q q' ps ps' st ls a b c a' b' c' s7 s8 s9 s0 s1 s2}
  (h7:getM st.mem s7=some [.ptr s0 0]) (h8:getM st.mem s8=some [.own c 4 (ps.map Pred.cells)]) (h9:getM st.mem s9=some [.clo x3 [.ptr s7 0,.ptr s8 0,.ptr s9 0]])
  (h0:getM st.mem s0=some (kY v q a b s1 s2)) (h1:getM st.mem s1=some [.mp jt pS (gM txt q.ah)]) (h2:getM st.mem s2=some [.mp jt rA (dc q.aA)])
  (ha:aE st.tk a=some true) (hb:aE st.tk b=some true) (hc:aE st.tk c=some true) (hn:bP [a,b,c]=true)
  (BS:aE st.tk a'=none) (nL:aE st.tk b'=none) (ij:aE st.tk c'=none) (xK:bP [a',b',c']=true) (hs:bP [s7,s8,s9,s0,s1,s2]=true):
  okB st [.d (.aw ls),.ptr s7 0,.ptr s8 0,.ptr s9 0] ⟨[(1007,s7),(1008,s8),(1009,s9),(1000,s0),(1001,s1),(1002,s2)],[(2000,a),(2001,b),(2002,c)],[(2000,a'),(2001,b'),(2002,c')],[.d (.aw ls),.ptr 1007 0,.ptr 1008 0,.ptr 1009 0],
   pV v txt q ps 2000 2001 2002 1007 1008 1009 1000 1001 1002,pV v txt q' ps' 2000 2001 2002 1007 1008 1009 1000 1001 1002,.tup []⟩:=by
 simp only[okB];refine⟨?_,?_,?_,?_⟩
 ·simp only[go_sem]
 ·simp only[pV,AY,de,h7,h8,h9,h0,h1,h2,kY];simp only[go_sem,j3,gg]
 ·have wU:=hn;simp only[bP,List.contains_cons,cN,Bool.or_false,Bool.and_true,Bool.and_eq_true,Bool.not_eq_true',Bool.or_eq_false_iff,beq_eq_false_iff_ne,ne_eq,Bool.not_false]at wU;have y5:(b==a)=false:=by rw[beq_eq_false_iff_ne];exact fun e=>wU.1.1 e.symm
  have wM:(c==a)=false:=by rw[beq_eq_false_iff_ne];exact fun e=>wU.1.2 e.symm
  have A2:(c==b)=false:=by rw[beq_eq_false_iff_ne];exact fun e=>wU.2 e.symm
  simp only[mS,ha,hb,hc,List.contains_cons,cN,y5,wM,A2,Bool.or_false,and_self]
 ·simp only[mC,mN,hs,hn,xK];simp only[pV,AY,kY,go_sem,BS,nL,ij,List.contains_cons,cN,Nat.reduceBEq,List.mem_cons,List.not_mem_nil,or_false,forall_eq_or_imp,forall_eq,List.all_cons,List.all_nil]
theorem EE{v txt q ps st}(a b c)(h7:getM st.mem 1007=some [.ptr 1000 0])(h8:getM st.mem 1008=some [.own c 4 (ps.map Pred.cells)])(h9:getM st.mem 1009=some [.clo x3 [.ptr 1007 0,.ptr 1008 0,.ptr 1009 0]])
  (h0:getM st.mem 1000=some (gj v q a b)) (h1:getM st.mem 1001=some [.mp jt pS (gM txt q.ah)]) (h2:getM st.mem 1002=some [.mp jt rA (dc q.aA)])
  (ha:aE st.tk a=some true) (hb:aE st.tk b=some true) (hc:aE st.tk c=some true) (hn:bP [a,b,c]=true):nF st ⟨[],pV v txt q ps 2000 2001 2002 1007 1008 1009 1000 1001 1002,ET⟩:=by
 have wU:=hn;simp only[bP,List.contains_cons,cN,Bool.or_false,Bool.and_true,Bool.and_eq_true,Bool.not_eq_true',Bool.or_eq_false_iff,beq_eq_false_iff_ne,ne_eq,Bool.not_false]at wU;have y5:(b==a)=false:=by rw[beq_eq_false_iff_ne];exact fun e=>wU.1.1 e.symm
 have wM:(c==a)=false:=by rw[beq_eq_false_iff_ne];exact fun e=>wU.1.2 e.symm
 have A2:(c==b)=false:=by rw[beq_eq_false_iff_ne];exact fun e=>wU.2 e.symm
 refine jP [(2000,a),(2001,b),(2002,c)] ?_;simp only[pV,AY,kY,gj,ET]at h0⊢;simp only[go_sem,h7,h8,h9,h0,h1,h2,ha,hb,hc,y5,wM,A2,List.contains_cons,cN,oS]
theorem yXm{v txt q c d k m}(h:1002<k):getM (jD v txt q c d++m) k=getM m k:=by
 have h0:¬1000=k:=by omega
 have h1:¬1001=k:=by omega
 have h2:¬1002=k:=by omega
 simp only[jD,List.cons_append,List.nil_append,getM,h0,h1,h2,if_false]
attribute [go_sem] yXm
def cJ(v:al)(txt:aH→aD):List Pred→List Pred→QS→List Pred×QS
 |[],ps,q=>(ps,q)
 |k::ks,ps,q=>if q.bad then(ps,q)else cJ v txt ks (ps++[(aO v txt k q).1]) (aO v txt k q).2
variable{E:ax}(Z:Sys E)
include Z
variable(v:al)(txt:aH→aD)
set_option maxHeartbeats 4000000 in
theorem zWP(qj:∀p,E.C rF [.agg v.cells,.agg p.cells] (two (ff v p)))(hI:fu E)(hJ:mK E)(hT:j4 E txt)(l):∀(ps) (q),(∀p∈l,Good p∧p.sz≤1048576)→q.ah.length+Pred.bw l≤1073741824→q.aA.length+Pred.bw l≤1073741824→ps.length+l.length≤1073741824→
  E.C x3 [] (.bx [.d (.aw (l.map Pred.cells)),.ptr 1007 0,.ptr 1008 0,.ptr 1009 0] (pV v txt q ps 2000 2001 2002 1007 1008 1009 1000 1001 1002) ET (.tup []) (pV v txt (cJ v txt l ps q).2 (cJ v txt l ps q).1 2000 2001 2002 1007 1008 1009 1000 1001 1002) ET):=by
 have oe:∀(q:QS) (ps:List Pred),pV v txt q ps 2000 2001 2002 1007 1008 1009 1000 1001 1002=(1007,[.ptr 1000 0])::(1008,[.own 2002 4 (ps.map Pred.cells)])::(1009,[.clo x3 [.ptr 1007 0,.ptr 1008 0,.ptr 1009 0]])::[(1000,[.d (.aw (v.vars.map b8.cells)),.d (.aw (v.syms.map cI.cells)),.d (.aw (v.bT.map bI.cells)),.mref 1001,.own 2000 2 (q.ah.map aH.cells),.own 2001 1 (q.aA.map gS),.mref 1002,.d (.bool q.bad)]),(1001,[.mp jt pS (gM txt q.ah)]),(1002,[.mp jt rA (dc q.aA)])]:=fun _ _=>rfl;induction l with
 |nil=>intro ps q _ _ _ _;refine Z.x3 _ _ ⟨bn rfl,bn rfl,rfl,?_⟩;have h0:decide (((0:Nat):Int)>0)=false:=rfl;have h1:decide ((0:Int)>0)=false:=rfl;rw[cJ];simp only[OC,oe q ps,ET,go_sem,h0,h1];exact EE (q:=q) (ps:=ps) 2000 2001 2002 rfl rfl rfl rfl rfl rfl rfl rfl rfl rfl
 |cons k ks ih=>
  intro ps q hg hf hb hp;have dU:Pred.bw (k::ks)=k.cX+Pred.bw ks:=by rw[Pred.bw]
  have rT:=hg k (by simp);have Mw:=yzL Z v txt qj hI hJ hT k q rT.1 rT.2 (by omega) (by omega);have yd:=Kv v txt k q;have XR:=ih (ps++[(aO v txt k q).1]) (aO v txt k q).2 (fun p hp=>hg p (by simp[hp])) (by have:=yd.f;omega) (by have:=yd.b;omega) (by simp at hp⊢;omega);refine Z.x3 _ _ ⟨bn rfl,bn rfl,rfl,?_⟩;generalize hR:cJ v txt (k::ks) ps q=R at*
  obtain⟨XV,q1⟩:=R;rw[cJ]at hR;have ow:decide (((ks.length+1:Nat):Int)>0)=true:=by simp<;>omega
  have zq:(∀e∈(k::ks).map Pred.cells,e.length=4)=True:=Pred.yt (k::ks);rw[mC]at zq⊢;obtain⟨qf,qb,qx⟩:=q;cases qx with
  |true=>rw[if_pos rfl]at hR;obtain⟨rfl,rfl⟩:=Prod.mk.inj hR;simp only[OC,oe ⟨qf,qb,true⟩ ps,ET,go_sem,lM,ow];intro _;exact EE (q:=⟨qf,qb,true⟩) (ps:=ps) 2000 2001 2002 rfl rfl rfl rfl rfl rfl rfl rfl rfl rfl
  |false=>
   simp only[Bool.false_eq_true,if_false]at hR;rw[hR]at XR;generalize aO v txt k ⟨qf,qb,false⟩=Kq at*
   obtain⟨kp,kq⟩:=Kq;simp only at*
   have Qx:=Pred.bm kp;have o1:(ps.length+1)*56≤2^46:=by simp at hp;omega
   have o2:ps.length≤9223372036854775806:=by simp at hp;omega
   have o3:(1:Int)≤((ks.length+1:Nat):Int):=by omega
   have mw:=Pred.yt ps;simp only[OC,oe ⟨qf,qb,false⟩ ps,ET,go_sem,lM,ow];intro hlen;refine G4 [(1008,0,1)] ?_;simp only[go_sem,zq,List.contains_cons,cN,Nat.reduceBEq,beq_self_eq_true];refine⟨by omega,?_⟩;refine bX Mw 2000 2001 3000 3001 rfl rfl (by simp only[jm,go_sem]) rfl rfl rfl rfl rfl rfl rfl rfl rfl ?_;simp only[go_sem,zq,lM,o1,o2,mw,Qx,YI v txt kq 3000 3001,o3];have cB:(ps++[kp]).map Pred.cells=ps.map Pred.cells++[[.int .i64 kp.op,.str kp.name,.int .i64 kp.n,.aw (kp.kids.map Pred.cells)]]:=by rw[mA,mC,mN,Qx]
   refine⟨⟨?_,?_⟩,?_⟩;all_goals
    refine YK ⟨[(1007,1007),(1008,1008),(1009,1009),(1000,1000),(1001,1001),(1002,1002)],[(2000,3000),(2001,3001),(2002,23)],[(2000,3002),(2001,3003),(2002,3004)],[.d (.aw (ks.map Pred.cells)),.ptr 1007 0,.ptr 1008 0,.ptr 1009 0],pV v txt kq (ps++[kp]) 2000 2001 2002 1007 1008 1009 1000 1001 1002,pV v txt q1 XV 2000 2001 2002 1007 1008 1009 1000 1001 1002,.tup []⟩ XR rfl rfl (XU rfl (by rw[cB];rfl) rfl rfl rfl rfl rfl rfl rfl rfl rfl rfl rfl rfl rfl) ?_;simp only[go_sem,Fz];exact EE (q:=q1) (ps:=XV) 3002 3003 3004 rfl rfl rfl rfl rfl rfl rfl rfl rfl rfl
end Go.Abs
end
section
namespace Go.Abs
theorem yXt{o}{s:aD}{n ks}(h:Pred.err (.mk o s n ks)=0):s.length≤120:=by
 have h':dr o s n ks=0:=h;unfold dr at h';by_cases c1:(decide (o<1)||decide (o>18)||!s==[]&&!bG o||n !=0&&!(o==1||o==2)||!bN o ks.length)=true
 ·rw[if_pos c1]at h';cases h'
 ·rw[if_neg c1]at h';by_cases c2:(o==1&&!aq n||o==2&&(decide (n<0)||decide (n>1)))=true
  ·rw[if_pos c2]at h';cases h'
  ·rw[if_neg c2]at h';by_cases c3:(!dD o s)=true
   ·rw[if_pos c3]at h';cases h'
   ·have h3:dD o s=true:=by simpa using c3
    have y9:dO s=true→s.length≤120:=by intro hc;unfold dO at hc;simp only[Bool.and_eq_true,Bool.not_eq_true',decide_eq_false_iff_not]at hc;omega
    unfold dD at h3;by_cases e3:(o==3)=true
    ·rw[if_pos e3]at h3;rcases Bool.or_eq_true_iff.1 h3 with h|h
     ·rw[beq_iff_eq.1 h];decide
     ·exact y9 h
    ·rw[if_neg e3]at h3;by_cases e4:(o==4)=true
     ·rw[if_pos e4]at h3;rcases Bool.or_eq_true_iff.1 h3 with h|h
      ·rcases Bool.or_eq_true_iff.1 h with h|h
       ·rw[beq_iff_eq.1 h];decide
       ·rw[beq_iff_eq.1 h];decide
      ·exact y9 h
     ·rw[if_neg e4]at h3;by_cases e5:(o==5)=true
      ·rw[if_pos e5]at h3;exact y9 h3
      ·have:s=[]:=by
         have hn:bG o=false:=by simp only[bG,e3,e4,e5,Bool.or_self]
         simp only[Bool.or_eq_true,not_or,Bool.and_eq_true,not_and]at c1;have:=c1.1.1.2;rw[hn]at this;by_cases hs:s=[]
         ·exact hs
         ·exact absurd rfl (this (by simpa using hs))
       rw[this];simp
theorem Gu(o)(s:aD)(n)(ks):Pred.mk o s n ks∈(Pred.mk o s n ks).pre:=by rw[Pred.tM];simp
theorem yXu(p):Good p→p.sz≤125*p.cX:=by
 induction p using Pred.ind with
 |h o s n ks ih=>
 intro hg;have hs:=yXt (o:=o) (s:=s) (n:=n) (ks:=ks) (hg _ (Gu o s n ks));have:Pred.lS ks≤125*Pred.bw ks:=by
  have:∀l:List Pred,(∀k∈l,k.sz≤125*k.cX)→Pred.lS l≤125*Pred.bw l:=by
   intro l;induction l with
   |nil=>intro _;simp[Pred.lS,Pred.bw]
   |cons k l p6=>intro h;have h1:=h k (by simp);have h2:=p6 fun x hx=>h x (by simp[hx]);rw[Pred.lS,Pred.bw];omega
  exact this ks fun k hk=>ih k hk (hg.ej hk)
 have hz:=@BD o s n ks;rw[Pred.cX];omega
theorem yYU(l)(x):Pred.bw (l++[x])=Pred.bw l+x.cX:=by rw[Tw];simp[Pred.bw]
theorem vA{α:Type}{P:List α→Prop}(h0:P [])(h:∀l x,P l→P (l++[x])):∀l,P l:=by
 intro l;have:∀n,∀l:List α,l.length=n→P l:=by
  intro n;induction n with
  |zero=>intro l hl;rw[List.length_eq_zero_iff.1 hl];exact h0
  |succ n ih=>
   intro l hl;rcases VL l with rfl|⟨d,y,rfl⟩
   ·exact h0
   ·exact h d y (ih d (by simpa using hl))
 exact this _ l rfl
theorem R5{o}{s:aD}{n ks}(h:dr o s n ks=0)(hk:∀k∈ks,Good k):Good (.mk o s n ks):=cW.mk h hk
theorem yXv:Good gX:=R5 (by decide) (by simp)
theorem yZv:Good dv:=R5 (by decide) (by simp)
theorem Ni{o a b}(ho:10≤o∧o≤13∨15≤o∧o≤18)(ha:Good a)(hb:Good b):Good (.mk o [] 0 [a,b]):=by
 refine R5 ?_ (by simp only[List.mem_cons,List.not_mem_nil,or_false,forall_eq_or_imp,forall_eq];exact⟨ha,hb⟩);have:o=10∨o=11∨o=12∨o=13∨o=15∨o=16∨o=17∨o=18:=by omega
 rcases this with rfl|rfl|rfl|rfl|rfl|rfl|rfl|rfl<;>rfl
theorem yKr:∀l:List Pred,(∀x∈l,Good x)→Good (fb l).1∧(fb l).1.cX≤Pred.bw l+l.length+1:=by
 refine vA (fun _=>⟨yXv,by decide⟩) fun l x ih h=>?_;obtain⟨h1,h2⟩:=ih fun y hy=>h y (by simp[hy]);have hx:=h x (by simp);rw[Hj,yYU,lA];unfold jC;split
 ·exact⟨h1,by simp;omega⟩
 ·split
  ·refine⟨Ni (.inr ⟨by decide,by decide⟩) h1 hx,?_⟩;show Pred.cX (.mk 15 [] 0 [_,_])≤_;rw[Pred.cX];simp only[Pred.bw,List.length_singleton];omega
  ·exact⟨hx,by simp;omega⟩
theorem yJX{l}(h:∀x∈l,Good x):Good (ig l)∧(ig l).cX≤Pred.bw l+l.length+1:=by
 unfold ig;split
 ·exact⟨yZv,by have:dv.cX=1:=rfl;omega⟩
 ·exact yKr l h
theorem Z5{v a b}(ha:Good a)(hb:Good b):Good (dN v a b):=by
 unfold dN;split
 ·exact Ni (.inr ⟨by decide,by decide⟩) ha hb
 ·exact Ni (.inl ⟨by decide,by decide⟩) ha hb
theorem YO(v)(a b):(dN v a b).cX=a.cX+b.cX+1:=by unfold dN;rw[Pred.cX];simp[Pred.bw]
theorem Good.Dw{p}(h:Good p):∀k∈p.kids,Good k:=by obtain⟨o,s,n,ks⟩:=p;exact fun k hk=>h.ej hk
theorem ZK(p:Pred):Pred.bw p.kids+1=p.cX:=by obtain⟨o,s,n,ks⟩:=p;rw[Pred.cX];rfl
theorem yxl{v}:∀{a b},(∀k∈a,Good k)→(∀k∈b,Good k)→(∀p∈List.zipWith (dN v) a b,Good p)∧Pred.bw (List.zipWith (dN v) a b)≤Pred.bw a+Pred.bw b+a.length∧(List.zipWith (dN v) a b).length≤a.length
 |[],b,_,_=>⟨by simp,by simp[Pred.bw],by simp⟩
 |_::_,[],_,_=>⟨by simp,by simp[Pred.bw],by simp⟩
 |x::a,y::b,ha,hb=>by
  obtain⟨h1,h2,h3⟩:=yxl (v:=v) (a:=a) (b:=b) (fun k hk=>ha k (by simp[hk])) (fun k hk=>hb k (by simp[hk]));rw[List.zipWith_cons_cons];refine⟨?_,?_,by simp;omega⟩
  ·intro p hp;rcases List.mem_cons.1 hp with rfl|hp
   ·exact Z5 (ha x (by simp)) (hb y (by simp))
   ·exact h1 p hp
  ·rw[Pred.bw,Pred.bw,Pred.bw,YO,lC];omega
theorem yKN{v a b}(ha:Good a)(hb:Good b):∀p∈eS v a b,Good p∧p.cX≤4*(a.cX+b.cX)+4:=by
 intro p hp;unfold eS at hp;split at hp
 ·cases hp
 ·rw[List.mem_singleton]at hp;subst hp;obtain⟨h1,h2,h3⟩:=yxl (v:=v) ha.Dw hb.Dw;obtain⟨h4,h5⟩:=yJX h1;have k1:=ZK a;have k2:=ZK b;have k3:=Sq a.kids;refine⟨Ni (.inr ⟨by decide,by decide⟩) h4 (Z5 ha hb),?_⟩;rw[Pred.cX];simp only[Pred.bw];rw[YO];omega
theorem OZ{v m}:∀{l},(∀x∈l,Good x∧x.cX≤m)→∀p∈bD v l,Good p∧p.cX≤8*m+4
 |[],_,p,hp=>by cases hp
 |a::r,h,p,hp=>by
  rw[bD]at hp;rcases List.mem_append.1 hp with hp|hp
  ·obtain⟨b,hb,hp⟩:=List.mem_flatMap.1 hp;have ha:=h a (by simp);have hb:=h b (by simp[hb]);have:=yKN (v:=v) ha.1 hb.1 p hp;exact⟨this.1,by omega⟩
  ·exact OZ (fun x hx=>h x (by simp[hx])) p hp
theorem yz7{l m}(h:∀x∈l,x.cX≤m):Pred.bw l≤l.length*m:=by
 induction l with
 |nil=>simp[Pred.bw]
 |cons x l ih=>have h1:=h x (by simp);have h2:=ih fun y hy=>h y (by simp[hy]);rw[Pred.bw,lC,Nat.add_mul];omega
theorem Bh{q}:∀{ks},q∈Pred.pre.gz ks↔∃k∈ks,q∈k.pre
 |[]=>by simp[Pred.pre.gz]
 |k::ks=>by rw[Pred.pre.gz,List.mem_append,Bh (ks:=ks)];simp
theorem RO(p:Pred):p∈p.pre:=by obtain⟨o,s,n,ks⟩:=p;rw[Pred.tM];simp
theorem yg(p:Pred):∀q∈p.pre,(∀r∈q.pre,r∈p.pre)∧q.cX≤p.cX:=by
 induction p using Pred.ind with
 |h o s n ks ih=>
 intro q hq;rw[Pred.tM]at hq;rcases List.mem_cons.1 hq with rfl|hq
 ·exact⟨fun r hr=>hr,Nat.le_refl _⟩
 ·obtain⟨k,hk,hq⟩:=Bh.1 hq;obtain⟨h1,h2⟩:=ih k hk q hq;refine⟨fun r hr=>?_,?_⟩
  ·rw[Pred.tM];exact List.mem_cons_of_mem _ (Bh.2 ⟨k,hk,h1 r hr⟩)
  ·have:=Pred.MZ hk;rw[Pred.cX];omega
theorem HX{t q}(p):∀l,q∈au t p l→q∈l∨q∈p.pre:=by
 induction p using Pred.ind with
 |h o s n ks ih=>
 intro l hq;rw[Hi]at hq;have key:∀(m l:List Pred),(∀k∈m,k∈ks)→q∈m.foldl (fun l k=>au t k l) l→q∈l∨∃k∈ks,q∈k.pre:=by
  intro m;induction m with
  |nil=>intro l _ h;exact .inl h
  |cons k m Fo=>
   intro l hm h;rw[List.foldl_cons]at h;rcases Fo _ (fun x hx=>hm x (by simp[hx])) h with h|h
   ·rcases ih k (hm k (by simp)) l h with h|h
    ·exact .inl h
    ·exact .inr ⟨k,hm k (by simp),h⟩
   ·exact .inr h
 have Dv:q∈ks.foldl (fun l k=>au t k l) l→q∈l∨q∈(Pred.mk o s n ks).pre:=fun h=>by
  rcases key ks l (fun _ h=>h) h with h|h
  ·exact .inl h
  ·right;rw[Pred.tM];exact List.mem_cons_of_mem _ (Bh.2 h)
 split at hq
 ·rcases List.mem_append.1 hq with hq|hq
  ·exact Dv hq
  ·right;rw[List.mem_singleton.1 hq];exact RO _
 ·exact Dv hq
theorem Good.sub{p q}(h:Good p)(hq:q∈p.pre):Good q:=fun r hr=>h r ((yg p q hq).1 r hr)
end Go.Abs
end
section
namespace Go.Abs
def gH(v:al)(q:QS)(a:Nat):List AV:=[.d (.aw (v.vars.map b8.cells)),.d (.aw (v.syms.map cI.cells)),.d (.aw (v.bT.map bI.cells)),.mref 1001,.own a 2 (q.ah.map aH.cells),.d (.aw (q.aA.map gS)),.mref 1002,.d (.bool q.bad)]
def lE(v:al)(txt:aH→aD)(q:QS)(a:Nat):Mem:=[(1000,gH v q a),(1001,[.mp jt pS (gM txt q.ah)]),(1002,[.mp jt rA (dc q.aA)])]
def RT:List (Nat×Bool):=[(2000,true)]
theorem RC{v txt q c}:dC [(1000,1000),(1001,1001),(1002,1002)] [(2000,c)] (lE v txt q 2000)=lE v txt q c:=by
 simp only[lE,gH,dC,aZ,Option.getD_some,mC,mN,AV.oT,AV.gW,Nat.reduceEqDiff,if_true,if_false]
theorem yXp{v txt q c k m}(h:k<1000):getM (lE v txt q c++m) k=getM m k:=by
 have h0:¬1000=k:=by omega
 have h1:¬1001=k:=by omega
 have h2:¬1002=k:=by omega
 simp only[lE,List.cons_append,List.nil_append,getM,h0,h1,h2,if_false]
theorem yVd{v txt q c m}:getM (lE v txt q c++m) 1000=some (gH v q c):=rfl
theorem yVe{v txt q c m}:getM (lE v txt q c++m) 1001=some [.mp jt pS (gM txt q.ah)]:=rfl
theorem yVf{v txt q c m}:getM (lE v txt q c++m) 1002=some [.mp jt rA (dc q.aA)]:=rfl
attribute [go_sem] RC yXp yVd yVe yVf
theorem lY{E f}{P:eX→Prop}{st av pB r v txt q q' gs}
  (hC:E.C f [] (.bx pB (lE v txt q 2000) RT r (lE v txt q' 2000) RT)) (a c) (hr:r.fB=false) (bV:gs=true)
  (hm:fT jm [(2000,a)] av pB) (h0:getM st.mem 1000=some (gH v q a)) (h1:getM st.mem 1001=some [.mp jt pS (gM txt q.ah)]) (h2:getM st.mem 1002=some [.mp jt rA (dc q.aA)])
  (ha:aE st.tk a=some true) (hc:aE st.tk c=none)
  (hK:P ⟨[(1000,1000),(1001,1001),(1002,1002)],[(2000,a)],[(2000,c)],pB,lE v txt q 2000,lE v txt q' 2000,r⟩):
  ∃x:eX,jE E none f gs av st x∧P x:=by
 refine⟨_,⟨rfl,bV,hr,?_,hC⟩,hK⟩;simp only[okB,jm]at hm⊢;refine⟨hm,?_,?_,?_⟩
 ·simp only[lE,de,h0,h1,h2,gH];simp only[go_sem]
 ·simp only[mS,ha,List.contains_cons,cN,and_self]
 ·simp only[lE,gH,go_sem,hc,List.contains_cons,cN,Nat.reduceBEq,List.mem_cons,List.not_mem_nil,or_false,forall_eq_or_imp,forall_eq,List.all_cons,List.all_nil]
theorem rP{v txt q st}(a)(h0:getM st.mem 1000=some (gH v q a))(h1:getM st.mem 1001=some [.mp jt pS (gM txt q.ah)])(h2:getM st.mem 1002=some [.mp jt rA (dc q.aA)])
  (ha:aE st.tk a=some true):nF st ⟨[],lE v txt q 2000,RT⟩:=by
 refine jP [(2000,a)] ?_;simp only[lE,gH,RT]at h0⊢;simp only[go_sem,h0,h1,h2,ha,List.contains_cons,cN,oS]
theorem Kg(v)(txt)(q):lE v txt q 2000=[(1000,[.d (.aw (v.vars.map b8.cells)),.d (.aw (v.syms.map cI.cells)),.d (.aw (v.bT.map bI.cells)),.mref 1001,.own 2000 2 (q.ah.map aH.cells),.d (.aw (q.aA.map gS)),.mref 1002,.d (.bool q.bad)]),(1001,[.mp jt pS (gM txt q.ah)]),(1002,[.mp jt rA (dc q.aA)])]:=rfl
variable{E:ax}(Z:Sys E)
include Z
variable(v:al)(txt:aH→aD)
attribute [local go_sem] AV.tx MV.av
theorem Tq(a:aH)(ok)(q):E.C uX [] (.bx [.ptr 1000 0,.agg (a.cells.map .d),.d (.bool ok)] (lE v txt q 2000) RT (.agg a.cells) (lE v txt (q.note ok) 2000) RT):=by
 refine Z.uX _ _ ⟨bn rfl,bn rfl,rfl,?_⟩;cases ok with
 |true=>
  have hq:q.note true=q:=by unfold QS.note;simp
  rw[hq];simp only[Ln,lE,gH,RT,go_sem,aH.bm];exact rP 2000 rfl rfl rfl rfl
 |false=>
  have hq:q.note false=⟨q.ah,q.aA,true⟩:=by unfold QS.note;simp
  rw[hq];simp only[Ln,lE,gH,RT,go_sem,aH.bm];exact rP (q:=⟨q.ah,q.aA,true⟩) 2000 rfl rfl rfl rfl
set_option maxHeartbeats 1000000 in
theorem yWI(hI:fu E)(hT:j4 E txt)(d)(q)(hq:q.ah.length≤8589934592):E.C CD [] (.bx [.ptr 1000 0,.agg (d.cells.map .d)] (lE v txt q 2000) RT (.tup [.agg (bh 10 (cE txt d q).1).cells,.agg (bh 13 (cE txt d q).1).cells,.one (.bool (decide ((bB d).2<0)))]) (lE v txt (cE txt d q).2 2000) RT):=by
 have hF:=zX4 Z d;have ht:=hT _ (Y5 d);have hit:=hI ((cE txt d q).1:Int) (by have:=(Gr txt d q).2.1;unfold BL;omega);have cV:=fun o=>D7 Z o (.mk 3 (Lib.itoa ((cE txt d q).1:Int)) 0 []) (.mk 1 [] 0 []);have hl:∀o,(bh o (cE txt d q).1).cells=_:=fun o=>ud o (cE txt d q).1;have wN:∀o,Pred.mk o [] 0 [.mk 3 (Lib.itoa ((cE txt d q).1:Int)) 0 [],.mk 1 [] 0 []]=bh o (cE txt d q).1:=fun _=>rfl;simp only[wN,Pred.bm (.mk 3 _ 0 []),Pred.bm (.mk 1 [] 0 []),Pred.op,Pred.name,Pred.n,Pred.kids,mN]at cV;clear wN;generalize vJ:(bh 10 (cE txt d q).1).cells=L10 at*
 generalize vK:(bh 13 (cE txt d q).1).cells=L13 at*
 have qT:=cV 10;have qU:=cV 13;rw[vJ]at qT;rw[vK]at qU;have vO:=hl 10;have vQ:=hl 13;rw[vJ]at vO;rw[vK]at vQ;clear cV hl vJ vK;refine Z.CD _ _ ⟨bn rfl,bn rfl,rfl,?_⟩;generalize hA:cE txt d q=A at*
 obtain⟨i,q1⟩:=A;unfold cE at hA;unfold wu at hF;generalize bB d=F at*
 obtain⟨f,s⟩:=F;have xt:=YE txt q.ah (txt f);have ve:=ZH txt q.ah (txt f);have I3:=ZI txt q.ah;simp only[aH.bm]at*
 simp only[UM,Kg v txt q,RT,go_sem];refine⟨_,hF,?_⟩;simp only[go_sem];refine⟨_,ht,?_⟩;simp only[go_sem,xt,ve];cases vX:kG txt q.ah (txt f)with
 |some j=>rw[vX]at hA;obtain⟨rfl,rfl⟩:=Prod.mk.inj hA;simp only[go_sem,oS,Option.getD_some];refine⟨_,hit,?_⟩;simp only[go_sem];refine⟨_,qT,?_⟩;simp only[go_sem];refine⟨_,qU,?_⟩;simp only[go_sem,vO,vQ];exact rP 2000 rfl rfl rfl rfl
 |none=>
  rw[vX]at hA;obtain⟨rfl,rfl⟩:=Prod.mk.inj hA;have mw:=aH.lens q.ah;have o1:(q.ah.length+1)*32≤2^46:=by omega
  have o2:q.ah.length≤9223372036854775806:=by omega
  have o3:q.ah.length<9223372036854775807:=by omega
  simp only[go_sem,Option.isSome_none];intro _;simp only[go_sem,I3,o3,lM,o1,o2,mw];refine⟨fun e he=>by rw[List.mem_singleton.1 he];rfl,?_⟩;refine⟨_,hit,?_⟩;simp only[go_sem];refine⟨_,qT,?_⟩;simp only[go_sem];refine⟨_,qU,?_⟩;simp only[go_sem,vO,vQ];refine rP (q:=⟨q.ah++[f],q.aA,q.bad⟩) 50 ?_ ?_ rfl rfl
  ·simp only[go_sem,gH,mA];rfl
  ·simp only[go_sem,Zc]
theorem yy7(hI:fu E)(hT:j4 E txt)(d)(q)(hq:q.ah.length≤8589934592):E.C CG [] (.bx [.ptr 1000 0,.agg (d.cells.map .d)] (lE v txt q 2000) RT (.agg (dt txt d q).1.cells) (lE v txt (dt txt d q).2 2000) RT):=by
 have vM:=yWI Z v txt hI hT d q hq;have aa:=fun b=>Lb Z b;have fk:=fun i=>K7 Z (bh 13 i);have cV:=fun i=>D7 Z 16 (eK (bh 13 i)) (bh 10 i);refine Z.CG _ _ ⟨bn rfl,bn rfl,rfl,?_⟩;generalize hA:dt txt d q=A at*
 unfold dt at hA;obtain⟨P,q1⟩:=A;generalize cE txt d q=S at*
 obtain⟨i,q2⟩:=S;have Df:(eK (bh 13 i)).cells=[.int .i64 14,.str [],.int .i64 0,.aw [(bh 13 i).cells]]:=by unfold eK;rw[Pred.bm];rfl
 have fk:=fk i;have cV:=cV i;have B7:Pred.mk 14 [] 0 [bh 13 i]=eK (bh 13 i):=rfl;rw[B7]at fk;rw[Df]at fk cV;have zB:=Pred.bm (Pred.mk 16 [] 0 [eK (bh 13 i),bh 10 i]);simp only[Pred.op,Pred.name,Pred.n,Pred.kids]at zB;generalize Jg:(Pred.mk 16 [] 0 [eK (bh 13 i),bh 10 i]).cells=oC at*
 simp only[aH.bm,mC,mN,ud]at*
 simp only[UQ,Kg v txt q,RT,go_sem];intro hl;cases c:((d.aG.length:Int)==0)with
 |true=>rw[c,if_pos rfl]at hA;obtain⟨rfl,rfl⟩:=Prod.mk.inj hA;simp only[go_sem];refine⟨_,aa _,?_⟩;unfold tP;simp only[go_sem];exact rP 2000 rfl rfl rfl rfl
 |false=>
  rw[c,if_neg (by decide)]at hA;simp only[go_sem];refine lY vM 2000 3000 rfl rfl (by simp only[jm,go_sem]) rfl rfl rfl rfl rfl ?_;simp only[go_sem,ud];by_cases hs:(bB d).2<0
  ·rw[if_pos hs]at hA;obtain⟨rfl,rfl⟩:=Prod.mk.inj hA;simp only[go_sem,decide_eq_true hs,if_true];refine⟨_,fk,?_⟩;simp only[go_sem];refine⟨_,cV,?_⟩;simp only[go_sem,Jg,zB];exact rP 3000 rfl rfl rfl rfl
  ·rw[if_neg hs]at hA;obtain⟨rfl,rfl⟩:=Prod.mk.inj hA;simp only[go_sem,decide_eq_false hs,ud,if_false];exact rP 3000 rfl rfl rfl rfl
theorem yzY(s:aD)(q):E.C Bu [] (.bx [.ptr 1000 0,.d (.str s)] (lE v txt q 2000) RT (.agg (dI s).1.cells) (lE v txt (q.note (dI s).2) 2000) RT):=by
 have gV:=CA Z ⟨[⟨s,1⟩],0⟩ bE;have dE:=Tq Z v txt (dI s).1 (dI s).2 q;refine Z.Bu _ _ ⟨bn rfl,bn rfl,rfl,?_⟩;have hv:cf ⟨[⟨s,1⟩],0⟩ bE=dI s:=rfl;rw[hv]at gV;generalize dI s=V at*
 obtain⟨L,ok⟩:=V;unfold lv at gV;simp only[aH.bm,mC,mN,bE,ak.bm]at*
 simp only[US,Kg v txt q,RT,go_sem];refine⟨_,gV,?_⟩;simp only[go_sem];refine lY dE 2000 3000 rfl rfl (by simp only[jm,go_sem]) rfl rfl rfl rfl rfl ?_;simp only[go_sem];exact rP 3000 rfl rfl rfl rfl
theorem yzA(hI:fu E)(hT:j4 E txt)(s:aD)(up)(q)(hq:q.ah.length≤8589934592):E.C HK [] (.bx [.ptr 1000 0,.d (.str s),.d (.bool up)] (lE v txt q 2000) RT (.agg (bj txt s up q).1.cells) (lE v txt (bj txt s up q).2 2000) RT):=by
 have fH:=yzY Z v txt s q;have gV:=CA Z (dI s).1 lJ;have wZ:=HA Z (dI s).1 (-1);have dE:=Tq Z v txt (cf (dI s).1 lJ).1 (cf (dI s).1 lJ).2 (q.note (dI s).2);have Dl:=Tq Z v txt (aF (dI s).1 (-1)).1 (aF (dI s).1 (-1)).2 (q.note (dI s).2);have uD:=yy7 Z v txt hI hT (dV s).1 (q.note (dV s).2) (by rw[DX];exact hq);have A4:=yy7 Z v txt hI hT (rY s).1 (q.note (rY s).2) (by rw[DX];exact hq);refine Z.HK _ _ ⟨bn rfl,bn rfl,rfl,?_⟩;unfold bj;rw[DW]at dE Dl;unfold dV rY at*
 unfold lv at gV wZ;generalize dI s=V at*
 generalize cf V.1 lJ=A at*
 generalize aF V.1 (-1)=S at*
 generalize dt txt A.1 (q.note (V.2&&A.2))=R1 at*
 generalize dt txt S.1 (q.note (V.2&&S.2))=R2 at*
 obtain⟨P1,q1⟩:=R1;obtain⟨P2,q2⟩:=R2;generalize q.note (V.2&&A.2)=q3 at*
 generalize q.note (V.2&&S.2)=q4 at*
 generalize q.note V.2=q5 at*
 have P5:=Pred.bm P1;generalize P1.cells=Pc1 at*
 subst P5;have P6:=Pred.bm P2;generalize P2.cells=Pc2 at*
 subst P6;simp only[aH.bm,mC,mN,lJ]at*
 cases up with
 |true=>simp only[UO,Kg v txt q,RT,go_sem,if_true];refine lY fH 2000 3000 rfl rfl (by simp only[jm,go_sem]) rfl rfl rfl rfl rfl ?_;simp only[go_sem];refine⟨_,gV,?_⟩;simp only[go_sem];refine lY dE 3000 3002 rfl rfl (by simp only[jm,go_sem]) rfl rfl rfl rfl rfl ?_;simp only[go_sem];refine lY uD 3002 3004 rfl rfl (by simp only[jm,go_sem]) rfl rfl rfl rfl rfl ?_;simp only[go_sem];exact⟨(Pred.bm P1).symm,rP 3004 rfl rfl rfl rfl⟩
 |false=>simp only[UO,Kg v txt q,RT,go_sem,if_false];refine lY fH 2000 3000 rfl rfl (by simp only[jm,go_sem]) rfl rfl rfl rfl rfl ?_;simp only[go_sem];refine⟨_,wZ,?_⟩;simp only[go_sem];refine lY Dl 3000 3002 rfl rfl (by simp only[jm,go_sem]) rfl rfl rfl rfl rfl ?_;simp only[go_sem];refine lY A4 3002 3004 rfl rfl (by simp only[jm,go_sem]) rfl rfl rfl rfl rfl ?_;simp only[go_sem];exact⟨(Pred.bm P2).symm,rP 3004 rfl rfl rfl rfl⟩
end Go.Abs
end
section
namespace Go.Abs
def iA(v:al)(q:QS)(a s1 s2:Nat):List AV:=[.d (.aw (v.vars.map b8.cells)),.d (.aw (v.syms.map cI.cells)),.d (.aw (v.bT.map bI.cells)),.mref s1,.own a 2 (q.ah.map aH.cells),.d (.aw (q.aA.map gS)),.mref s2,.d (.bool q.bad)]
def sP(v:al)(txt:aH→aD)(q:QS)(a s0 s1 s2:Nat):Mem:=[(s0,iA v q a s1 s2),(s1,[.mp jt pS (gM txt q.ah)]),(s2,[.mp jt rA (dc q.aA)])]
theorem DE{v txt q c s0 s1 s2}:dC [(1000,s0),(1001,s1),(1002,s2)] [(2000,c)] (lE v txt q 2000)=sP v txt q c s0 s1 s2:=by
 simp only[lE,sP,gH,iA,dC,aZ,Option.getD_some,mC,mN,AV.oT,AV.gW,Nat.reduceEqDiff,if_true,if_false]
theorem yM{E f}{P:eX→Prop}{st av pB r v txt q q' gs}
  (hC:E.C f [] (.bx pB (lE v txt q 2000) RT r (lE v txt q' 2000) RT)) (a c s0 s1 s2) (hr:r.fB=false) (bV:gs=true)
  (hm:fT [(1000,s0),(1001,s1),(1002,s2)] [(2000,a)] av pB) (h0:getM st.mem s0=some (iA v q a s1 s2)) (h1:getM st.mem s1=some [.mp jt pS (gM txt q.ah)]) (h2:getM st.mem s2=some [.mp jt rA (dc q.aA)])
  (ha:aE st.tk a=some true) (hc:aE st.tk c=none) (hs:bP [s0,s1,s2]=true)
  (hK:P ⟨[(1000,s0),(1001,s1),(1002,s2)],[(2000,a)],[(2000,c)],pB,lE v txt q 2000,lE v txt q' 2000,r⟩):
  ∃x:eX,jE E none f gs av st x∧P x:=by
 refine⟨_,⟨rfl,bV,hr,?_,hC⟩,hK⟩;simp only[okB]at hm⊢;refine⟨hm,?_,?_,?_⟩
 ·simp only[lE,de,h0,h1,h2,gH,iA];simp only[go_sem]
 ·simp only[mS,ha,List.contains_cons,cN,and_self]
 ·simp only[mC,mN,hs];simp only[lE,gH,go_sem,hc,List.contains_cons,cN,Nat.reduceBEq,List.mem_cons,List.not_mem_nil,or_false,forall_eq_or_imp,forall_eq,List.all_cons,List.all_nil]
theorem JM{v txt q q' ps ps' st ls x0 a b c a' b' c' s7 s8 s9 s0 s1 s2}(hx:AV.mH [] 1 x0=some (.aw ls))
  (h7:getM st.mem s7=some [.ptr s0 0]) (h8:getM st.mem s8=some [.own c 4 (ps.map Pred.cells)]) (h9:getM st.mem s9=some [.clo x3 [.ptr s7 0,.ptr s8 0,.ptr s9 0]])
  (h0:getM st.mem s0=some (kY v q a b s1 s2)) (h1:getM st.mem s1=some [.mp jt pS (gM txt q.ah)]) (h2:getM st.mem s2=some [.mp jt rA (dc q.aA)])
  (ha:aE st.tk a=some true) (hb:aE st.tk b=some true) (hc:aE st.tk c=some true) (hn:bP [a,b,c]=true)
  (BS:aE st.tk a'=none) (nL:aE st.tk b'=none) (ij:aE st.tk c'=none) (xK:bP [a',b',c']=true) (hs:bP [s7,s8,s9,s0,s1,s2]=true):
  okB st [x0,.ptr s7 0,.ptr s8 0,.ptr s9 0] ⟨[(1007,s7),(1008,s8),(1009,s9),(1000,s0),(1001,s1),(1002,s2)],[(2000,a),(2001,b),(2002,c)],[(2000,a'),(2001,b'),(2002,c')],[.d (.aw ls),.ptr 1007 0,.ptr 1008 0,.ptr 1009 0],
   pV v txt q ps 2000 2001 2002 1007 1008 1009 1000 1001 1002,pV v txt q' ps' 2000 2001 2002 1007 1008 1009 1000 1001 1002,.tup []⟩:=by
 have h:=XU (v:=v) (txt:=txt) (q:=q) (q':=q') (ps:=ps) (ps':=ps') (st:=st) (ls:=ls) h7 h8 h9 h0 h1 h2 ha hb hc hn BS nL ij xK hs;unfold okB at h⊢;refine⟨⟨?_,h.1.2⟩,h.2⟩;simp only[oZ,kr,gg];exact hx
def jQ(txt:aH→aD):List aD→List Pred→QS→List Pred×QS
 |[],ps,q=>(ps,q)
 |s::l,ps,q=>if q.bad then(ps,q)else jQ txt l (ps++[(bj txt s false q).1,(bj txt s true (bj txt s false q).2).1]) (bj txt s true (bj txt s false q).2).2
def oK:rC:=⟨a8,[]⟩
def uN(r:List Pred×QS):rC×Int:=if r.2.bad then(oK,2)else if decide ((r.2.ah.length:Int)>40)then(oK,7)else(⟨ig r.1,r.2.ah⟩,0)
def rI(txt:aH→aD)(ps:List Pred)(q:QS):rC×Int:=uN (jQ txt q.aA ps q)
def kR(v:al)(txt:aH→aD)(p:Pred)(r:List Pred×QS):rC×Int:=rI txt (cJ v txt (bD v (au 4 p [])) r.1 r.2).1 (cJ v txt (bD v (au 4 p [])) r.1 r.2).2
def q0:QS:=⟨[],[],false⟩
def cR(v:al)(txt:aH→aD)(p:Pred):rC×Int:=
 if eY v p !=0 then(oK,eY v p)
 else if decide (((au 5 p []).length:Int)>0)then(oK,6)
 else kR v txt p (if p.same a8 then([],q0)else cJ v txt [p] [] q0)
def jf(txt:aH→aD)(ps:List Pred)(q:QS):List aD→List Pred×QS
 |[]=>(ps,q)
 |s::l=>jf txt (ps++[(bj txt s false q).1,(bj txt s true (bj txt s false q).2).1]) (bj txt s true (bj txt s false q).2).2 l
theorem ZX(txt)(s):∀(l) (ps) (q),jf txt ps q (l++[s])=((jf txt ps q l).1++[(bj txt s false (jf txt ps q l).2).1,(bj txt s true (bj txt s false (jf txt ps q l).2).2).1],(bj txt s true (bj txt s false (jf txt ps q l).2).2).2)
 |[],_,_=>rfl
 |x::l,ps,q=>by rw[List.cons_append,jf,ZX txt s l,jf]
theorem Od(txt)(s)(up)(q):(bj txt s up q).2.aA=q.aA∧(bj txt s up q).2.ah.length≤q.ah.length+1:=by
 have key:∀d q,(dt txt d q).2.aA=q.aA:=fun d q=>by
  unfold dt;split
  ·rfl
  ·split<;>exact(Gr txt d q).2.2
 unfold bj;split
 ·exact⟨key _ _,(Sw txt _ _).f⟩
 ·exact⟨key _ _,(Sw txt _ _).f⟩
theorem Sd(txt):∀(l) (ps) (q),(jf txt ps q l).2.aA=q.aA∧(jf txt ps q l).2.ah.length≤q.ah.length+2*l.length∧(jf txt ps q l).1.length=ps.length+2*l.length
 |[],ps,q=>⟨rfl,by simp[jf],by simp[jf]⟩
 |s::l,ps,q=>by rw[jf];obtain⟨h1,h2,h3⟩:=Sd txt l (ps++[(bj txt s false q).1,(bj txt s true (bj txt s false q).2).1]) (bj txt s true (bj txt s false q).2).2;have k1:=Od txt s false q;have k2:=Od txt s true (bj txt s false q).2;refine⟨by rw[h1,k2.1,k1.1],?_,by rw[h3];simp;omega⟩;rw[lC];omega
structure HQ(v:al)(txt:aH→aD)(p:Pred)(ps:List Pred)(q:QS)(st:St)(a b c:Nat):Prop where
 m2:getM st.mem 2=some [.d (.aw (v.vars.map b8.cells)),.d (.aw (v.syms.map cI.cells)),.d (.aw (v.bT.map bI.cells))]
 m3:getM st.mem 3=some (p.cells.map .d)
 m4:getM st.mem 4=some [.d (.int .i64 0),.d (.str []),.d (.int .i64 0),.full [],.full []]
 m7:getM st.mem 7=some [.ptr 27 0]
 m8:getM st.mem 8=some [.own c 4 (ps.map Pred.cells)]
 m9:getM st.mem 9=some [.clo x3 [.ptr 7 0,.ptr 8 0,.ptr 9 0]]
 m0:getM st.mem 27=some (kY v q a b 24 25)
 m1:getM st.mem 24=some [.mp jt pS (gM txt q.ah)]
 mm:getM st.mem 25=some [.mp jt rA (dc q.aA)]
 ta:aE st.tk a=some true
 tb:aE st.tk b=some true
 tc:aE st.tk c=some true
 tn:bP [a,b,c]=true
structure SQ(st:St):Prop where
 s2:aC st.ae 2=.ptr 2 0
 s3:aC st.ae 3=.ptr 3 0
 s4:aC st.ae 4=.ptr 4 0
 s7:aC st.ae 7=.ptr 7 0
 s8:aC st.ae 8=.ptr 8 0
 s9:aC st.ae 9=.ptr 9 0
def yQ(st s:St):Prop:=∀X:List (Nat×AV),vv ⟨X,st.mem,st.tk⟩ ⟨X,s.mem,s.tk⟩
theorem yZj(st):yQ st st:=fun _=>⟨[],rfl,rfl⟩
theorem Sj{v txt}:∀{l} {ps} {q},(cJ v txt l ps q).1.length≤ps.length+l.length∧Grow q (cJ v txt l ps q).2 (Pred.bw l)
 |[],ps,q=>⟨by simp[cJ],(Grow.refl q)⟩
 |k::l,ps,q=>by
  rw[cJ];split
  ·exact⟨by simp,(Grow.refl q).le (Nat.zero_le _)⟩
  ·obtain⟨h1,h2⟩:=Sj (v:=v) (txt:=txt) (l:=l) (ps:=ps++[(aO v txt k q).1]) (q:=(aO v txt k q).2);refine⟨by simp at h1⊢;omega,?_⟩;rw[Pred.bw];exact(Kv v txt k q).trans h2
end Go.Abs
end
section
namespace Go.Abs
theorem Il{st v0 v1 v2 m1 m2 bd}(h27:getM st.mem 27=some [v0,v1,v2,m1,.full [],.full [],m2,bd])(h8:getM st.mem 8=some [.full []])(ht:st.tk=[]):
  yQ st ⟨[],(8,[.own 3002 4 []])::(27,[v0,v1,v2,m1,.own 3000 2 [],.own 3001 1 [],m2,bd])::(27,[v0,v1,v2,m1,.own 3000 2 [],.full [],m2,bd])::st.mem,[(3002,true),(3001,true),(3000,true)]⟩:=by
 intro X;refine⟨[(.m 27 4,3000,2),(.m 27 5,3001,1),(.m 8 0,3002,4)],⟨_,⟨_,_,h27,rfl,by simp,by rw[ht];rfl,rfl⟩,_,⟨[v0,v1,v2,m1,.own 3000 2 [],.full [],m2,bd],[],rfl,rfl,by simp,by simp only[ht];rfl,rfl⟩,_,⟨[.full []],[],?_,rfl,by simp,by simp only[ht];rfl,rfl⟩,?_⟩,rfl⟩
 ·simp only[getM,Nat.reduceEqDiff,if_false];exact h8
 ·simp only[ht];rfl
theorem Hv:oK.cells=[.int .i64 0,.str [],.int .i64 0,.aw [],.aw []]:=by unfold rC.cells oK a8;rw[Pred.bm];rfl
theorem yyU(p:Pred)(h:p.cX<2^62):p.nodes=p.cX:=by
 induction p using Pred.ind with
 |h o s n ks ih=>
 have key:∀(l:List Pred) (a:Nat),(∀k∈l,k.cX<2^62→k.nodes=k.cX)→a+Pred.bw l<2^62→Pred.jJ (a:Int) l=((a+Pred.bw l:Nat):Int):=by
  intro l;induction l with
  |nil=>intro a _ _;rw[Pred.jJ,Pred.bw];rfl
  |cons x l p6=>intro a hk hl;rw[Pred.bw]at hl;rw[Pred.jJ,hk x (by simp) (by omega),i64_in _ (by omega),Pred.bw];have:=p6 (a+x.cX) (fun k fR=>hk k (by simp[fR])) (by omega);rw[←Int.natCast_add,this];congr 1;omega
 rw[Pred.cX]at h⊢;rw[Pred.nodes];have:=key ks 1 ih (by omega);rw[show((1:Nat):Int)=1 from rfl]at this;rw[this];congr 1;omega
theorem Cr{o}{s:aD}{n ks}(h:Small ks.length)(hk:∀k∈ks,dS k):dS (.mk o s n ks):=cW.mk h hk
theorem Bk{n}(h:n≤1000):Small n:=by unfold Small;omega
theorem FX(o)(i):dS (bh o i):=Cr (Bk (by simp)) (by simp only[List.mem_cons,List.not_mem_nil,or_false,forall_eq_or_imp,forall_eq];exact⟨Cr (Bk (by simp)) (by simp),Cr (Bk (by simp)) (by simp)⟩)
theorem Kx{p}(h:dS p):dS (eK p):=Cr (Bk (by simp)) (by simpa using h)
theorem YZ{o a b}(ha:dS a)(hb:dS b):dS (.mk o [] 0 [a,b]):=Cr (Bk (by simp)) (by
 simp only[List.mem_cons,List.not_mem_nil,or_false,forall_eq_or_imp,forall_eq];exact⟨ha,hb⟩)
theorem M5(b):dS (tP b):=by cases b<;>exact Cr (Bk (by simp)) (by simp)
theorem Ti(txt)(d)(q):dS (eB txt d q).1:=by
 unfold eB;split
 ·exact M5 _
 ·exact FX _ _
theorem yyO(txt)(d)(q):dS (dt txt d q).1:=by
 unfold dt;split
 ·exact M5 _
 ·split
  ·exact YZ (Kx (FX _ _)) (FX _ _)
  ·exact FX _ _
theorem yvu(txt)(d)(q):dS (eh txt d q).1:=by
 unfold eh;split
 ·exact M5 _
 ·split
  ·exact Kx (FX _ _)
  ·exact YZ (FX _ _) (Kx (FX _ _))
theorem yvB(txt)(s)(up)(q):dS (bj txt s up q).1:=by
 unfold bj;split<;>exact yyO _ _ _
theorem yYT(txt)(o)(d)(q):dS (kI txt o d q).1:=by
 unfold kI;split
 ·exact M5 false
 ·split
  ·exact Ti _ _ _
  ·split
   ·exact Kx (Ti _ _ _)
   ·split
    ·exact yyO _ _ _
    ·exact yvu _ _ _
theorem ZD{v txt}:∀{l} (_:∀k∈l,∀q,dS (aO v txt k q).1) (q),∀x∈(aO.go v txt l q).1,dS x
 |[],_,q,x,hx=>by cases hx
 |k::l,h,q,x,hx=>by
  rw[aO.go]at hx;rcases List.mem_cons.1 hx with rfl|hx
  ·exact h k (by simp) q
  ·exact ZD (fun k hk=>h k (by simp[hk])) _ x hx
theorem yZU(v)(txt)(p):Good p→∀q,dS (aO v txt p q).1:=by
 induction p using Pred.ind with
 |h o s n ks ih=>
 intro hg q;have hl:=VC hg.top.2.1;have zi:=ZD (v:=v) (txt:=txt) (l:=ks) (fun k hk q=>ih k hk (hg.ej hk) q) q;have pj:=Sa v txt ks q;rw[aO];split
 ·refine fun q hq=>?_;have:=hg q hq;obtain⟨o',s',n',nN⟩:=q;have hk:=VC (Good.top (cW.mk (P:=fun q=>Pred.err q=0) this fun k hk r hr=>hg r ((yg _ _ hq).1 r (by rw[Pred.tM];exact List.mem_cons_of_mem _ (Bh.2 ⟨k,hk,hr⟩))))).2.1;exact Bk (by show nN.length≤1000;omega)
 ·split
  ·exact Ti _ _ _
  ·split
   ·split
    ·unfold p5;split
     ·exact Kx (Cr (Bk (by omega)) zi)
     ·exact Cr (Bk (by omega)) zi
    ·exact yYT _ _ _ _
   ·exact Cr (Bk (by omega)) zi
theorem SN{v txt}:∀{l} {ps} {q},(∀x∈l,Good x)→(∀x∈ps,dS x)→∀x∈(cJ v txt l ps q).1,dS x
 |[],ps,q,_,h=>h
 |k::l,ps,q,hg,h=>by
  rw[cJ];split
  ·exact h
  ·refine SN (fun x hx=>hg x (by simp[hx])) fun x hx=>?_;rcases List.mem_append.1 hx with hx|hx
   ·exact h x hx
   ·rw[List.mem_singleton.1 hx];exact yZU v txt k (hg k (by simp)) q
theorem SE(txt):∀{l} {ps} {q},(∀x∈ps,dS x)→∀x∈(jf txt ps q l).1,dS x
 |[],_,_,h=>h
 |s::l,ps,q,h=>by
  rw[jf];refine SE txt fun x hx=>?_;rcases List.mem_append.1 hx with hx|hx
  ·exact h x hx
  ·simp only[List.mem_cons,List.not_mem_nil,or_false]at hx;rcases hx with rfl|rfl<;>exact yvB _ _ _ _
theorem yYF{E c Q st}(h:∀Q',Q'=Q→cx E c Q' st):cx E c Q st:=h Q rfl
structure HR(v:al)(txt:aH→aD)(D:List Pred×QS)(st:St):Prop where
 s4:aC st.ae 4=.ptr 4 0
 s7:aC st.ae 7=.ptr 7 0
 s8:aC st.ae 8=.ptr 8 0
 m4:getM st.mem 4=some [.d (.int .i64 0),.d (.str []),.d (.int .i64 0),.full [],.full []]
 m7:getM st.mem 7=some [.ptr 27 0]
 m8:getM st.mem 8=some [.own 4000 4 (D.1.map Pred.cells)]
 m0:getM st.mem 27=some [.d (.aw (v.vars.map b8.cells)),.d (.aw (v.syms.map cI.cells)),.d (.aw (v.bT.map bI.cells)),.mref 24,.own 4001 2 (D.2.ah.map aH.cells),.d (.aw (D.2.aA.map gS)),.mref 25,.d (.bool D.2.bad)]
variable{E:ax}(Z:Sys E)
include Z
variable(v:al)(txt:aH→aD)
set_option maxHeartbeats 8000000 in
theorem yvm(qj:∀p,E.C rF [.agg v.cells,.agg p.cells] (two (ff v p)))(hI:fu E)(hJ:mK E)(hT:j4 E txt)(p)(hz:p.sz≤1048576):
  E.C Bt [.agg v.cells,.agg p.cells] (.tup [.agg (cR v txt p).1.cells,.one (.int .i64 (cR v txt p).2)]):=by
 have dU:=HT p;have ur:=zXa Z v p (qj p);have uu:=yx9 Z p (Eo p (by omega)) (by omega);have yX:=CO Z p a8;have x7:=NY Z p (Eo p (by omega)) (by omega);refine Z.Bt _ _ ⟨bn rfl,?_⟩;generalize hR:cR v txt p=R;unfold cR at hR;have se:=Pred.bm p;have ML:a8.cells=[.int .i64 0,.str [],.int .i64 0,.aw []]:=by unfold a8;rw[Pred.bm];rfl
 rw[ML]at yX;have Ba:v.cells=[.aw (v.vars.map b8.cells),.aw (v.syms.map cI.cells),.aw (v.bT.map bI.cells)]:=rfl;rw[Ba]at ur⊢;unfold zqR;refine dJ fun N0 h0=>?_;rw[se]at ur uu yX x7⊢;simp only[go_sem];subst h0;refine dJ fun N1 h1=>?_;simp only[go_sem];refine aR ur ?_;simp only[go_sem];cases c0:(eY v p !=0)with
 |true=>rw[c0,if_pos rfl]at hR;subst hR;simp only[go_sem,Hv];try exact⟨rfl,rfl⟩
 |false=>
 rw[c0,if_neg (by decide)]at hR;simp only[go_sem];subst h1;refine dJ fun N2 h2=>?_;simp only[go_sem];refine aR uu ?_;simp only[go_sem,lM];intro _;cases c1:decide (((au 5 p []).length:Int)>0)with
 |true=>rw[c1,if_pos rfl]at hR;subst hR;simp only[go_sem,Hv];try exact⟨rfl,rfl⟩
 |false=>
 rw[c1,if_neg (by decide)]at hR;simp only[go_sem];subst h2;have tJ:p.same a8=false→Good p∧p.cX≤400:=by
  intro qC;unfold eY at c0;rw[qC,if_neg (by decide)]at c0;have BX:p.bO=0:=by
   by_cases hc:p.bO=0
   ·exact hc
   ·exfalso;unfold ff at c0;have ij:(p.bO !=0)=true:=by simpa using hc
    rw[if_pos ij]at c0;have mu:(p.bO==0)=false:=by simpa using hc
    simp only[mu,Bool.false_and,Bool.false_eq_true,if_false]at c0;rw[ij]at c0;cases c0
  refine⟨TH BX,?_⟩;have hn:=yyU p (by omega);unfold Pred.bO at BX;split at BX
  ·cases BX
  ·rename_i h;simp only[decide_eq_true_eq]at h;omega
 have wL:∀x∈au 4 p [],Good x∧x.cX≤400:=by
  intro x hx;cases qC:p.same a8 with
  |true=>rw[(Pred.wz p a8).1 qC]at hx;cases hx
  |false=>
   obtain⟨g1,g2⟩:=tJ qC;rcases HX p [] hx with h|h
   ·cases h
   ·have:=yg p x h;exact⟨g1.sub h,by omega⟩
 have xG:(au 4 p []).length≤400:=by
  have:=HY 4 p [];cases qC:p.same a8 with
  |true=>rw[(Pred.wz p a8).1 qC];decide
  |false=>have:=(tJ qC).2;simp at*;omega
 have tT:∀x∈bD v (au 4 p []),Good x∧x.cX≤3204:=OZ (m:=400) wL;have ES:(bD v (au 4 p [])).length≤160000:=by have:=ywO v (au 4 p []);have h2:(au 4 p []).length*(au 4 p []).length≤400*400:=Nat.mul_le_mul xG xG;omega
 have Mi:Pred.bw (bD v (au 4 p []))≤512640000:=by have h1:=yz7 (l:=bD v (au 4 p [])) (m:=3204) fun x hx=>(tT x hx).2;have h2:(bD v (au 4 p [])).length*3204≤160000*3204:=Nat.mul_le_mul ES (Nat.le_refl _);omega
 have ON:∀{x:Pred} {m:Nat},Good x→x.cX≤m→m≤8000→x.sz≤1048576:=fun hx hm h8=>by have:=yXu _ hx;omega
 have yV:=zvJ Z v qj (au 4 p []) (by unfold Small;omega) fun x hx=>Eo x (by have:=(wL x hx).2;omega);refine dJ fun N3 h3=>?_;simp only[go_sem];subst h3;refine dJ fun N4 h4=>?_;simp only[go_sem];subst h4;refine dJ fun N5 h5=>?_;simp only[go_sem];subst h5;refine dJ fun N6 h6=>?_;simp only[go_sem];subst h6;refine dJ fun N7 h7=>?_;have DJ:∀(ps:List Pred) (q:QS) (cH s:St) (a b c:Nat),SQ cH→yQ cH s→getM cH.mem 2=some [.d (.aw (v.vars.map b8.cells)),.d (.aw (v.syms.map cI.cells)),.d (.aw (v.bT.map bI.cells))]→getM cH.mem 3=some (p.cells.map .d)→getM cH.mem 9=some [.clo x3 [.ptr 7 0,.ptr 8 0,.ptr 9 0]]→
   HQ v txt p ps q s a b c→aE s.tk 3010=none→aE s.tk 3011=none→aE s.tk 3012=none→(∀x∈ps,dS x)→ps.length≤1→q.ah.length≤400→q.aA.length≤400→R=kR v txt p (ps,q)→N7 cH:=by
  intro ps q cH s a b c hS Gh e2 e3 e9 hH f1 f2 f3 tL A7 hql Mx pz;subst h7;refine dJ fun N8 h8=>?_;have DK:∀(ps:List Pred) (q:QS) (cH:St) (a b c:Nat),SQ cH→HQ v txt p ps q cH a b c→(∀x∈ps,dS x)→ps.length≤160001→q.ah.length≤512640400→q.aA.length≤512640400→R=rI txt ps q→N8 cH:=by
   intro ps q cH a b c hS hH tL A7 hql Mx pz;subst h8;refine dJ fun N9 h9=>?_;have Ao:∀(D:List Pred×QS) (cH:St),HR v txt D cH→(∀x∈D.1,dS x)→R=uN D→N9 cH:=by
    intro D cH hH ht pz;subst h9;obtain⟨dp,⟨df,db,dx⟩⟩:=D;have m0:=hH.m0;have m4:=hH.m4;have m8:=hH.m8;have hand:=yzj Z dp (fun x hx _=>ht x hx);have nH:=Pred.bm (ig dp);simp only at m0 m8;unfold uN at pz;simp only at pz;refine dJ fun N10 rR=>?_;simp only[go_sem,hH.s4,hH.s7,hH.m7,m0,m4];cases dx with
    |true=>rw[if_pos rfl]at pz;simp only[go_sem,hH.s4,m4,pz,Hv];try exact⟨rfl,rfl⟩
    |false=>
    simp only[Bool.false_eq_true,if_false]at pz;simp only[go_sem];subst rR;refine dJ fun N11 vH=>?_;simp only[go_sem,hH.s4,hH.s7,hH.m7,m0,m4,lM];intro _;cases c40:decide ((df.length:Int)>40)with
    |true=>rw[c40,if_pos rfl]at pz;simp only[go_sem,hH.s4,m4,pz,Hv];try exact⟨rfl,rfl⟩
    |false=>
    rw[c40,if_neg (by decide)]at pz;simp only[go_sem];subst vH;simp only[go_sem,hH.s4,hH.s7,hH.s8,hH.m7,m0,m4,m8];refine⟨_,hand,?_⟩;simp only[go_sem,hH.s4,hH.s7,hH.s8,hH.m7,m0,m4,m8,nH,pz,rC.bm];try exact⟨rfl,rfl⟩
   have nH:(a==c)=false:=by have:=hH.tn;simp only[bP,List.contains_cons,cN,Bool.or_false,Bool.and_true,Bool.and_eq_true,Bool.not_eq_true',Bool.or_eq_false_iff,Bool.not_false]at this;exact this.1.2
   have WT:=hH.m0;unfold kY at WT;unfold rI at pz;simp only[go_sem,hS.s2,hS.s3,hS.s4,hS.s7,hS.s8,hS.s9];refine AE fun K hK=>?_;refine gU q.aA (fun done=>∀r,q.aA=done++r→jQ txt q.aA ps q=jQ txt r (jf txt ps q done).1 (jf txt ps q done).2)
    (fun done rest=>⟨[(10,.d (.int .i64 done.length)),(4,.ptr 4 0),(7,.ptr 7 0),(8,.ptr 8 0)],(4,[.d (.int .i64 0),.d (.str []),.d (.int .i64 0),.full [],.full []])::(7,[.ptr 27 0])::(8,[.own 4000 4 ((jf txt ps q done).1.map Pred.cells)])::sP v txt (jf txt ps q done).2 4001 27 24 25,[(4000,true),(4001,true)]⟩) ?_ (fun r hr=>by rw[List.nil_append]at hr;rw[←hr];rfl) ?_ ?_
   ·refine jP [(4000,c),(4001,a)] ?_;simp only[go_sem,hS.s4,hS.s7,hS.s8,hH.m4,hH.m7,hH.m8,WT,hH.m1,hH.mm,hH.ta,hH.tc,jf,sP,iA,List.contains_cons,cN,nH,oS,lN,nZ,Nat.reduceBEq]
   ·intro done x r hl hI;have hd:=Sd txt done ps q;have EK:=hI (x::r) hl;have bf:=gw hl;have hw:IntKind.i64.wrap ((done.length:Int)+1)=((done.length+1:Nat):Int):=gn (by have:=Mx;omega);have yy:done.length≤q.aA.length:=by rw[hl];simp
    have ME:=SE txt (l:=done) (ps:=ps) (q:=q) tL;rw[ZX];generalize hDn:jf txt ps q done=Dn at*
    obtain⟨dp,dq⟩:=Dn;simp only at hd EK ME⊢;obtain⟨C9,sx,hd3⟩:=hd;rw[←C9]at bf;have u9:(dq.aA.map gS).getD done.length []=[.str x]:=by rw[C9];exact getD_at (f:=gS) hl
    have ji:(∀e∈dq.aA.map gS,e.length=1)=True:=eq_true (fun e he=>by obtain⟨q,_,rfl⟩:=List.mem_map.1 he;rfl);unfold UE;refine dJ fun N1 h1=>?_;simp only[go_sem,sP,iA,lM];intro _;obtain⟨AH,Gf,dqx⟩:=dq;simp only at C9 sx hd3 u9 bf ji;cases dqx with
    |true=>rw[jQ,if_pos rfl]at EK;simp only[go_sem,hK];refine Ao (dp,⟨AH,Gf,true⟩) _ ⟨rfl,rfl,rfl,rfl,rfl,rfl,rfl⟩ ME (by rw[pz,EK])
    |false=>
     simp only[jQ,Bool.false_eq_true,if_false]at EK;simp only[go_sem,bf];subst h1;have tS:=yzA Z v txt ‹fu E› hT x false ⟨AH,Gf,false⟩ (by simp only;omega);have k1:=Od txt x false ⟨AH,Gf,false⟩;have oM:=yzA Z v txt ‹fu E› hT x true (bj txt x false ⟨AH,Gf,false⟩).2 (by have:=k1.2;simp only at this;omega);have k2:=Od txt x true (bj txt x false ⟨AH,Gf,false⟩).2;generalize bj txt x false ⟨AH,Gf,false⟩=B1 at*
     obtain⟨P1,⟨XW,q1b,q1x⟩⟩:=B1;simp only at k1 k2 tS oM EK⊢;obtain⟨k1a,k1b⟩:=k1;subst k1a;generalize bj txt x true ⟨XW,q1b,q1x⟩=B2 at*
     obtain⟨P2,⟨Vd,Vc,q2x⟩⟩:=B2;simp only at k2 oM EK⊢;obtain⟨k2a,XS⟩:=k2;subst k2a;have BA:=Pred.bm P1;have Ly:=Pred.bm P2;rw[Nd,Br,Vz];refine dJ fun NT WW=>?_;refine G4 [(8,0,1),(7,0,1),(27,5,1)] ?_;simp only[go_sem,bf,u9,ji,List.contains_cons,cN,Nat.reduceBEq,beq_self_eq_true];refine yM tS 4001 5000 27 24 25 rfl rfl (by simp only[go_sem]) rfl rfl rfl rfl rfl rfl ?_;simp only[go_sem,DE,sP,iA,bf,u9,ji,List.contains_cons,cN,Nat.reduceBEq,beq_self_eq_true];refine yM oM 5000 5001 27 24 25 rfl rfl (by simp only[go_sem]) rfl rfl rfl rfl rfl rfl ?_;simp only[go_sem,DE,sP,iA,bf,u9,ji,List.contains_cons,cN,Nat.reduceBEq,beq_self_eq_true,lM];subst WW;refine yYF fun QC hQC=>?_;have leaf:∀qg:St,aC qg.ae 10=.d (.int .i64 done.length)→aC qg.ae 4=.ptr 4 0→aC qg.ae 7=.ptr 7 0→aC qg.ae 8=.ptr 8 0→
       getM qg.mem 4=some [.d (.int .i64 0),.d (.str []),.d (.int .i64 0),.full [],.full []]→getM qg.mem 7=some [.ptr 27 0]→getM qg.mem 8=some [.own 80 4 (dp.map Pred.cells++[P1.cells]++[P2.cells])]→
       getM qg.mem 27=some [.d (.aw (v.vars.map b8.cells)),.d (.aw (v.syms.map cI.cells)),.d (.aw (v.bT.map bI.cells)),.mref 24,.own 5001 2 (Vd.map aH.cells),.d (.aw (Vc.map gS)),.mref 25,.d (.bool q2x)]→
       getM qg.mem 24=some [.mp jt pS (gM txt Vd)]→getM qg.mem 25=some [.mp jt rA (dc Vc)]→aE qg.tk 80=some true→aE qg.tk 5001=some true→cx E .skip QC qg:=by
      intro qg g10 g4 g7 g8 n4 n7 n8 n27 n24 n25 t80 t51;subst hQC;have cB:(dp++[P1,P2]).map Pred.cells=dp.map Pred.cells++[P1.cells]++[P2.cells]:=by simp
      simp only[go_sem,g10,hw];refine⟨jP [(4000,80),(4001,5001)] ?_,fun r' iD=>?_⟩
      ·simp only[go_sem,g4,g7,g8,n4,n7,n8,n27,n24,n25,t80,t51,sP,iA,cB,List.contains_cons,cN,Nat.reduceBEq,oS,lA,List.append_assoc]
      ·have:r'=r:=by have:=hl.symm.trans iD;simpa using this.symm
       rw[this,EK]
     have o1:(dp.length+2)*56≤2^46:=by omega
     have o2:dp.length≤9223372036854775805:=by omega
     have qV:IntKind.i64.wrap ((dp.length:Int)+1)=((dp.length+1:Nat):Int):=gn (by omega);have JB:(∀e∈dp.map Pred.cells,e.length=4)=True:=Pred.yt dp
     repeat' (first
      |(rw[YH];refine And.intro ?_ ?_)
      |(exact leaf _ rfl rfl rfl rfl rfl rfl rfl rfl rfl rfl rfl rfl)
      |(refine dJ fun Nz hNz=>?_
        simp only[go_sem,o1,o2,qV,JB,lM,lA,Nat.reduceSub,Pred.mV];subst hNz))
   ·intro hI;have yx:=hI [] (by simp);have ME:=SE txt (l:=q.aA) (ps:=ps) (q:=q) tL;have C9:=(Sd txt q.aA ps q).1;rw[jQ]at yx;have l0:decide ((q.aA.length:Int)<((jf txt ps q q.aA).2.aA.length:Int))=false:=by rw[C9];simp
    unfold UE;refine dJ fun N1 h1=>?_;simp only[go_sem,sP,iA,lM,l0];intro _;simp only[go_sem,hK];exact Ao (jf txt ps q q.aA) _ ⟨rfl,rfl,rfl,rfl,rfl,rfl,rfl⟩ ME (by rw[pz,yx])
  simp only[go_sem,hS.s2,hS.s3,hS.s7,hS.s8,hS.s9,e2,e3,e9,se];refine⟨_,x7,?_⟩;simp only[go_sem];refine⟨_,yV,?_⟩;simp only[go_sem];have hE:=zWP Z v txt qj hI hJ hT (bD v (au 4 p [])) ps q (fun x hx=>⟨(tT x hx).1,ON (tT x hx).1 (tT x hx).2 (by omega)⟩) (by omega) (by omega) (by omega);have kj:=Sj (v:=v) (txt:=txt) (l:=bD v (au 4 p [])) (ps:=ps) (q:=q);have uH:=SN (v:=v) (txt:=txt) (l:=bD v (au 4 p [])) (ps:=ps) (q:=q) (fun x hx=>(tT x hx).1) tL;unfold kR at pz;simp only at pz;generalize cJ v txt (bD v (au 4 p [])) ps q=ER at*
  obtain⟨ps',q'⟩:=ER;simp only at pz kj hE uH;refine yz6 ⟨_,s.mem,s.tk⟩ (Gh _) ⟨[(1007,7),(1008,8),(1009,9),(1000,27),(1001,24),(1002,25)],[(2000,a),(2001,b),(2002,c)],[(2000,3010),(2001,3011),(2002,3012)],[.d (.aw ((bD v (au 4 p [])).map Pred.cells)),.ptr 1007 0,.ptr 1008 0,.ptr 1009 0],pV v txt q ps 2000 2001 2002 1007 1008 1009 1000 1001 1002,pV v txt q' ps' 2000 2001 2002 1007 1008 1009 1000 1001 1002,.tup []⟩ hE rfl rfl
   (JM (by simp only[AV.mH]) hH.m7 hH.m8 hH.m9 hH.m0 hH.m1 hH.mm hH.ta hH.tb hH.tc hH.tn f1 f2 f3 rfl rfl) ?_
  simp only[go_sem,Fz];refine DK ps' q' _ 3010 3011 3012 ⟨?_,?_,?_,?_,?_,?_⟩ ⟨?_,?_,?_,?_,?_,?_,?_,?_,?_,?_,?_,?_,?_⟩ uH ?_ ?_ ?_ pz
  ·simp only[go_sem,hS.s2]
  ·simp only[go_sem,hS.s3]
  ·simp only[go_sem,hS.s4]
  ·simp only[go_sem,hS.s7]
  ·simp only[go_sem,hS.s8]
  ·simp only[go_sem,hS.s9]
  ·simp only[go_sem,pV,AY];exact hH.m2
  ·simp only[go_sem,pV,AY];exact hH.m3
  ·simp only[go_sem,pV,AY];exact hH.m4
  ·rfl
  ·rfl
  ·rfl
  ·rfl
  ·rfl
  ·rfl
  ·rfl
  ·rfl
  ·rfl
  ·rfl
  ·have:=kj.1;omega
  ·have:=kj.2.f;omega
  ·have:=kj.2.b;omega
 simp only[go_sem];refine aR yX ?_;simp only[go_sem];cases qC:p.same a8 with
 |true=>
  rw[qC,if_pos rfl]at hR;simp only[go_sem];refine DJ [] q0 _ _ 3000 3001 3002 ⟨rfl,rfl,rfl,rfl,rfl,rfl⟩ (Il rfl rfl rfl) rfl (by simp only[go_sem,se]) rfl
   ⟨rfl,by simp only[go_sem,se,List.set_cons_zero,List.set_cons_succ],rfl,rfl,rfl,rfl,rfl,rfl,rfl,rfl,rfl,rfl,rfl⟩ rfl rfl rfl (by simp) (by simp) (by simp[q0]) (by simp[q0]) hR.symm
 |false=>
  rw[qC,if_neg (by decide)]at hR;simp only[go_sem];obtain⟨OM,Qi⟩:=tJ qC;have oO:Pred.bw [p]=p.cX:=by simp[Pred.bw]
  have hE:=zWP Z v txt qj hI hJ hT [p] [] q0 (fun x hx=>by rw[List.mem_singleton.1 hx];exact⟨OM,hz⟩) (by rw[oO];simp[q0];omega) (by rw[oO];simp[q0];omega) (by simp);have kj:=Sj (v:=v) (txt:=txt) (l:=[p]) (ps:=[]) (q:=q0);have tL:=SN (v:=v) (txt:=txt) (l:=[p]) (ps:=[]) (q:=q0) (fun x hx=>by rw[List.mem_singleton.1 hx];exact OM) (by simp);rw[oO]at kj;generalize cJ v txt [p] [] q0=ER at*
  obtain⟨ps',q'⟩:=ER;simp only at kj hE tL;simp only[mC,mN,se]at hE;refine yz6 ⟨_,_,[(3002,true),(3001,true),(3000,true)]⟩ ⟨[(.m 27 4,3000,2),(.m 27 5,3001,1),(.m 8 0,3002,4)],⟨_,⟨_,_,rfl,rfl,by simp,rfl,rfl⟩,_,⟨_,_,rfl,rfl,by simp,rfl,rfl⟩,_,⟨_,_,rfl,rfl,by simp,rfl,rfl⟩,rfl⟩,rfl⟩
   ⟨[(1007,7),(1008,8),(1009,9),(1000,27),(1001,24),(1002,25)],[(2000,3000),(2001,3001),(2002,3002)],[(2000,3003),(2001,3004),(2002,3005)],_,pV v txt q0 [] 2000 2001 2002 1007 1008 1009 1000 1001 1002,pV v txt q' ps' 2000 2001 2002 1007 1008 1009 1000 1001 1002,.tup []⟩ hE rfl rfl
   (JM (by simp only[AV.mH]) rfl rfl rfl rfl rfl rfl rfl rfl rfl rfl rfl rfl rfl rfl rfl) ?_
  simp only[go_sem,Fz];have l9:=kj.1;have hf1:=kj.2.f;have tS:=kj.2.b;refine DJ ps' q' _ _ 3003 3004 3005 ⟨rfl,rfl,rfl,rfl,rfl,rfl⟩ (yZj _) rfl (by simp only[go_sem,se,pV,AY,List.set_cons_zero,List.set_cons_succ]) rfl
   ⟨rfl,by simp only[go_sem,se,pV,AY,List.set_cons_zero,List.set_cons_succ],rfl,rfl,rfl,rfl,rfl,rfl,rfl,rfl,rfl,rfl,rfl⟩ rfl rfl rfl tL (by simpa using l9) (by simp[q0]at hf1;omega) (by simp[q0]at tS;omega) hR.symm
end Go.Abs
end
section
namespace Go.Abs
def sE(c:UInt8):Bool:=fy c.toNat||c.toNat==95||c.toNat==46
def mJ(c:UInt8):Bool:=decide (32≤c.toNat)&&decide (c.toNat≤126)&&c !=34&&c !=92
theorem Si:∀s:List UInt8,s=(cutAt s).1++(if(cutAt s).2.2 then 46::(cutAt s).2.1 else[])
 |[]=>rfl
 |c::s=>by
  have ih:=Si s;rw[cutAt];by_cases h:c.toNat=46
  ·rw[if_pos h];have:c=46:=UInt8.toNat_inj.1 h;rw[this];rfl
  ·rw[if_neg h];simp only[List.cons_append];rw[←ih]
theorem Kp{n}(h:isSmall n=true∨dX n=true∨isDigit n=true):fy n=true:=by unfold fy;rcases h with h|h|h<;>simp[h]
theorem yVw{s}(h:isName s=true):s.all sE=true:=by
 unfold isName at h;simp only[Bool.and_eq_true]at h;obtain⟨⟨⟨_,h1⟩,_⟩,h2⟩:=h;have hs:∀(i:Nat) (l:List UInt8),scan fU i l=true→l.all sE=true:=by
  intro i l;induction l generalizing i with
  |nil=>intro _;rfl
  |cons c l ih=>
   intro h;rw[scan,Bool.and_eq_true]at h;rw[List.all_cons,ih _ h.2,Bool.and_true];have hb:=h.1;unfold fU at hb;unfold sE;cases h3:isSmall (c.toNat:Int)with
   |true=>rw[Kp (.inl h3)];rfl
   |false=>
    cases h4:isDigit (c.toNat:Int)with
    |true=>rw[Kp (.inr (.inr h4))];rfl
    |false=>
     rw[h3,h4]at hb;simp at hb;have:c.toNat=95:=by omega
     simp[this]
 cases s with
 |nil=>rfl
 |cons c s=>rw[List.all_cons,hs 1 s h2,Bool.and_true];unfold sE;have nJ:isSmall (c.toNat:Int)=true:=h1;rw[Kp (.inl nJ)];rfl
theorem yws{s:List UInt8}(h:(s.all fun c=>fy c.toNat)=true):s.all sE=true:=by rw[List.all_eq_true]at h⊢;intro c hc;unfold sE;rw[h c hc];rfl
theorem yJk{s}:∀{i},scan gG i s=true→s.all sE=true:=by
 induction s with
 |nil=>intro _ _;rfl
 |cons c l ih=>
  intro i h;rw[scan,Bool.and_eq_true]at h;rw[List.all_cons,ih h.2,Bool.and_true];have hb:=h.1;unfold gG at hb;unfold sE;cases h3:isSmall (c.toNat:Int)with
  |true=>rw[Kp (.inl h3)];rfl
  |false=>
   cases h4:isDigit (c.toNat:Int)with
   |true=>rw[Kp (.inr (.inr h4))];rfl
   |false=>
    rw[h3,h4]at hb;simp at hb;have:c.toNat=95:=by omega
    simp[this]
theorem Zo{s}(h:gR s=true):s.all sE=true:=by
 unfold gR at h;cases h1:(s.all fun c=>fy c.toNat)with
 |true=>exact yws h1
 |false=>rw[h1]at h;simp at h;exact yJk h.2
theorem yWn:∀(n) (s),s.length≤n→parts s=true→s.all sE=true:=by
 intro n;induction n with
 |zero=>intro s hs _;have:s=[]:=List.length_eq_zero_iff.1 (by omega)
        subst this;rfl
 |succ n ih=>
  intro s hs h;rw[parts]at h;have hc:=Si s;by_cases hm:(cutAt s).2.2=true
  ·rw[dif_pos hm,Bool.and_eq_true]at h;have hl:=H3 s hm;rw[hc,if_pos hm,List.all_append,Zo h.1,List.all_cons,ih _ (by omega) h.2];rfl
  ·rw[dif_neg hm]at h;rw[hc,if_neg hm,List.append_nil];exact Zo h
theorem Sh{s}(h:dO s=true):s.all sE=true:=by
 unfold dO at h;simp only[Bool.and_eq_true]at h;obtain⟨⟨_,h1⟩,h2⟩:=h;have hc:=Si s;have ha:(cutAt s).1.all sE=true:=by
  cases n1:isName (cutAt s).1 with
  |true=>exact yVw n1
  |false=>
   cases n2:cG (cutAt s).1 with
   |true=>unfold cG at n2;simp only[Bool.and_eq_true]at n2;exact yws n2.1.2
   |false=>rw[n1,n2]at h1;simp at h1;rw[h1.1];decide
 by_cases hm:(cutAt s).2.2=true
 ·rw[if_pos hm]at h2;rw[hc,if_pos hm,List.all_append,ha,List.all_cons,yWn _ _ (Nat.le_refl _) h2];rfl
 ·rw[hc,if_neg hm,List.append_nil];exact ha
theorem ZE{o}{s:aD}{n ks}(h:Pred.err (.mk o s n ks)=0):s.all sE=true:=by
 have h':dr o s n ks=0:=h;have ht:=(Good.top (o:=o) (s:=s) (n:=n) (ks:=[]));unfold dr at h';by_cases c1:(decide (o<1)||decide (o>18)||!s==[]&&!bG o||n !=0&&!(o==1||o==2)||!bN o ks.length)=true
 ·rw[if_pos c1]at h';cases h'
 ·rw[if_neg c1]at h';by_cases c2:(o==1&&!aq n||o==2&&(decide (n<0)||decide (n>1)))=true
  ·rw[if_pos c2]at h';cases h'
  ·rw[if_neg c2]at h';by_cases c3:(!dD o s)=true
   ·rw[if_pos c3]at h';cases h'
   ·have h3:dD o s=true:=by simpa using c3
    unfold dD at h3;by_cases e3:(o==3)=true
    ·rw[if_pos e3]at h3;rcases Bool.or_eq_true_iff.1 h3 with h|h
     ·rw[beq_iff_eq.1 h];decide
     ·exact Sh h
    ·rw[if_neg e3]at h3;by_cases e4:(o==4)=true
     ·rw[if_pos e4]at h3;rcases Bool.or_eq_true_iff.1 h3 with h|h
      ·rcases Bool.or_eq_true_iff.1 h with h|h
       ·rw[beq_iff_eq.1 h];decide
       ·rw[beq_iff_eq.1 h];decide
      ·exact Sh h
     ·rw[if_neg e4]at h3;by_cases e5:(o==5)=true
      ·rw[if_pos e5]at h3;exact Sh h3
      ·have:s=[]:=by
         have hn:bG o=false:=by simp only[bG,e3,e4,e5,Bool.or_self]
         simp only[Bool.or_eq_true,not_or,Bool.and_eq_true,not_and]at c1;have:=c1.1.1.2;rw[hn]at this;by_cases hs:s=[]
         ·exact hs
         ·exact absurd rfl (this (by simpa using hs))
       rw[this];rfl
theorem yQK{c}(h:sE c=true):mJ c=true:=by
 have:∀n:Nat,n<256→sE (UInt8.ofNat n)=true→mJ (UInt8.ofNat n)=true:=by decide+kernel
 have h2:=this c.toNat c.toNat_lt (by simpa using h);simpa using h2
theorem yVF{s:List UInt8}(h:s.all sE=true):s.all mJ=true:=by rw[List.all_eq_true]at h⊢;exact fun c hc=>yQK (h c hc)
theorem yVl(n):(Lib.itoa n).all mJ=true:=by
 have hd:∀u:Nat,(Lib.decDigits u).all mJ=true:=fun u=>by
  rw[List.all_eq_true];intro c hc;have:=H7 u c hc;have key:∀n:Nat,n<256→48≤n→n≤57→mJ (UInt8.ofNat n)=true:=by decide+kernel
  have h2:=key c.toNat c.toNat_lt this.1 this.2;simpa using h2
 unfold Lib.itoa;split
 ·rw[List.all_cons,hd];rfl
 ·exact hd _
theorem yWT(o):(iR o).all mJ=true:=by
 unfold iR;split
 ·rfl
 ·have:∀k,(kS.getD k []).all mJ=true:=by
    intro k;rcases Nat.lt_or_ge k 13 with h|h
    ·have:∀k,k<13→(kS.getD k []).all mJ=true:=by decide+kernel
     exact this k h
    ·rw[List.getD_eq_getElem?_getD,List.getElem?_eq_none (by exact h)];rfl
  exact this _
theorem yXx{o s}(h:s.all mJ=true):(iM o s).all mJ=true:=by
 unfold iM;split
 ·exact h
 ·split
  ·rw[List.all_cons,h];rfl
  ·exact yWT o
theorem yVm:∀{l:List aD},(∀x∈l,x.all mJ=true)→(Lib.join l [44]).all mJ=true
 |[],_=>by rw[Lib.join_nil];rfl
 |x::r,h=>by
  rw[Lib.join_cons,List.all_append,h x (by simp),Bool.true_and];unfold Lib.joinTail;rw[List.all_eq_true];intro c hc;obtain⟨y,hy,hc⟩:=List.mem_flatten.1 hc;obtain⟨z,hz,rfl⟩:=List.mem_map.1 hy;rcases List.mem_append.1 hc with hc|hc
  ·rw[List.mem_singleton.1 hc];decide
  ·exact List.all_eq_true.1 (h z (by simp[hz])) c hc
theorem O4(p):Good p→(aU p).all mJ=true:=by
 induction p using Pred.ind with
 |h o s n ks ih=>
 intro hg;have hs:=yVF (ZE (o:=o) (s:=s) (n:=n) (ks:=ks) (hg _ (Gu o s n ks)));rw[Ha];split
 ·exact yVl n
 ·split
  ·split<;>decide
  ·split
   ·exact hs
   ·rw[List.all_append,List.all_append,List.all_append,yXx hs,yVm fun x hx=>by obtain⟨k,hk,rfl⟩:=List.mem_map.1 hx;exact ih k hk (hg.ej hk)];rfl
def cj(a:aH):Prop:=∀c∈a.aG,c.name.all mJ=true
def aI(a:aH):aD:=(a.aG.flatMap fun c=>Lib.itoa c.n++32::34::(c.name++34::[32]))++Lib.itoa a.c
theorem M8{c}(hc:c=32∨c=34)(n):c∉Lib.itoa n:=by
 have hd:∀u:Nat,c∉Lib.decDigits u:=fun u hu=>by have:=H7 u c hu;rcases hc with rfl|rfl<;>simp at this
 intro h;unfold Lib.itoa at h;split at h
 ·rcases List.mem_cons.1 h with h|h
  ·rcases hc with rfl|rfl<;>cases h
  ·exact hd _ h
 ·exact hd _ h
theorem Yf{s:aD}(h:s.all mJ=true):(34:UInt8)∉s:=fun hm=>by have:=List.all_eq_true.1 h 34 hm;simp[mJ]at this
theorem yJe:∀{a b},cj a→cj b→aI a=aI b→a=b:=by
 rintro⟨l,c⟩ ⟨m,d⟩ ha hb h
 have key:∀(l m:List ak),(∀c∈l,c.name.all mJ=true)→(∀c∈m,c.name.all mJ=true)→(l.flatMap fun c=>Lib.itoa c.n++32::34::(c.name++34::[32]))++Lib.itoa c=(m.flatMap fun c=>Lib.itoa c.n++32::34::(c.name++34::[32]))++Lib.itoa d→l=m∧c=d:=by
  intro l;induction l with
  |nil=>
   intro m _ _ h;cases m with
   |nil=>exact⟨rfl,NH (by simpa using h)⟩
   |cons y m=>
    exfalso;have:(32:UInt8)∈Lib.itoa c:=by rw[List.flatMap_nil,List.nil_append]at h;rw[h];simp
    exact M8 (.inl rfl) c this
  |cons x l ih=>
   intro m hl hm h;cases m with
   |nil=>
    exfalso;have:(32:UInt8)∈Lib.itoa d:=by rw[List.flatMap_nil,List.nil_append]at h;rw[←h];simp
    exact M8 (.inl rfl) d this
   |cons y m=>rw[List.flatMap_cons,List.flatMap_cons]at h;simp only[List.append_assoc,List.cons_append,List.nil_append]at h;obtain⟨h1,h2⟩:=Vh (M8 (.inl rfl) _) (M8 (.inl rfl) _) h;simp only[List.cons.injEq,true_and]at h2;obtain⟨h3,h4⟩:=Vh (Yf (hl x (by simp))) (Yf (hm y (by simp))) h2;simp only[List.cons.injEq,true_and]at h4;obtain⟨h5,h6⟩:=ih m (fun c hc=>hl c (by simp[hc])) (fun c hc=>hm c (by simp[hc])) h4;obtain⟨xn,xk⟩:=x;obtain⟨yn,yk⟩:=y;simp only at h3 h1;exact⟨by rw[h5,h3,NH h1],h6⟩
 obtain⟨h1,h2⟩:=key l m ha hb h;rw[h1,h2]
end Go.Abs
end
section
namespace Go.Abs
theorem DT:cj bE:=by intro c hc;cases hc
theorem yYq:∀(n) (a b),a.length+b.length≤n→∀c∈fJ a b,∃d,(d∈a∨d∈b)∧d.name=c.name:=by
 intro n;induction n with
 |zero=>intro a b h c hc;rw[List.length_eq_zero_iff.1 (show a.length=0 by omega),F2]at hc;exact⟨c,.inr hc,rfl⟩
 |succ n ih=>
  intro a b h c hc;cases a with
  |nil=>rw[F2]at hc;exact⟨c,.inr hc,rfl⟩
  |cons x a=>
   cases b with
   |nil=>rw[GA]at hc;exact⟨c,.inl hc,rfl⟩
   |cons y b=>
    rw[TO]at hc;simp only[lC]at h;split at hc
    ·rcases List.mem_cons.1 hc with rfl|hc
     ·exact⟨_,.inl (by simp),rfl⟩
     ·obtain⟨d,hd,hn⟩:=ih a (y::b) (by simp only[lC];omega) c hc;exact⟨d,hd.imp (fun h=>by simp[h]) id,hn⟩
    ·split at hc
     ·rcases List.mem_cons.1 hc with rfl|hc
      ·exact⟨_,.inr (by simp),rfl⟩
      ·obtain⟨d,hd,hn⟩:=ih (x::a) b (by simp only[lC];omega) c hc;exact⟨d,hd.imp id (fun h=>by simp[h]),hn⟩
     ·rcases List.mem_append.1 hc with hc|hc
      ·unfold tG at hc;split at hc
       ·rw[List.mem_singleton.1 hc];exact⟨x,.inl (by simp),rfl⟩
       ·cases hc
      ·obtain⟨d,hd,hn⟩:=ih a b (by omega) c hc;exact⟨d,hd.imp (fun h=>by simp[h]) (fun h=>by simp[h]),hn⟩
theorem KY{a b}(ha:cj a)(hb:cj b):cj (cf a b).1:=by
 unfold cf;split
 ·exact DT
 ·unfold jL;split
  ·exact DT
  ·intro c hc;obtain⟨d,hd,hn⟩:=yYq _ a.aG b.aG (Nat.le_refl _) c hc;rw[←hn];rcases hd with hd|hd
   ·exact ha d hd
   ·exact hb d hd
theorem K6{a k}(ha:cj a):cj (aF a k).1:=by
 unfold aF;split
 ·exact DT
 ·split
  ·exact DT
  ·split
   ·intro c hc;obtain⟨d,hd,rfl⟩:=List.mem_map.1 hc;exact ha d hd
   ·exact DT
theorem zQN{a}(ha:cj a):cj (bB a).1:=by
 unfold bB;split
 ·exact DT
 ·split
  ·split
   ·intro c hc;cases hc
   ·split
    ·intro c hc;cases hc
    ·exact DT
  ·intro c hc;obtain⟨d,hd,rfl⟩:=List.mem_map.1 hc;exact ha d hd
theorem Tg{s}(h:s.all mJ=true):cj (dI s).1:=KY (by intro c hc;rw[List.mem_singleton.1 hc];exact h) DT
theorem Tc{s}(h:s.all mJ=true):cj (dV s).1:=KY (Tg h) (by intro c hc;cases hc)
theorem yZL{s}(h:s.all mJ=true):cj (rY s).1:=K6 (Tg h)
theorem zQO(p):Good p→cj (aj p).1:=by
 induction p using Pred.ind with
 |h o s n ks ih=>
 intro hg;have hv:=Tg (uK hg);rcases ks with _|⟨a,_|⟨b,_|⟨c,r⟩⟩⟩
 ·rw[aj]
  ·split
   ·intro c hc;cases hc
   ·exact hv
  ·simp
  ·simp
 ·rw[aj];split
  ·intro c hc;cases hc
  ·split
   ·exact K6 (ih a (by simp) (hg.ej (by simp)))
   ·exact hv
 ·rw[aj];have ha:=ih a (by simp) (hg.ej (by simp));have hb:=ih b (by simp) (hg.ej (by simp));split
  ·intro c hc;cases hc
  ·split
   ·exact KY ha hb
   ·split
    ·exact KY ha (K6 hb)
    ·split
     ·exact K6 hb
     ·exact hv
 ·rw[aj]
  ·split
   ·intro c hc;cases hc
   ·exact hv
  ·simp
  ·simp
where uK {p:Pred} (h:Good p):(aU p).all mJ=true:=O4 p h
theorem zQg{a b}(ha:Good a)(hb:Good b):cj (eC a b).1:=KY (zQO a ha) (K6 (zQO b hb))
structure PQ(q:QS):Prop where
 f:∀g∈q.ah,cj g
 b:∀s∈q.aA,s.all mJ=true
variable{txt:aH→aD}(hx:∀a,cj a→txt a=aI a)
include hx
theorem zQ0{k}:∀{fs} (i),(∀g∈fs,cj g)→iQ txt k i fs=iQ aI k i fs
 |[],_,_=>rfl
 |f::r,i,h=>by rw[iQ,iQ,zQ0 (i+1) fun g hg=>h g (by simp[hg]),hx f (h f (by simp))]
theorem SV{d q}(hd:cj d)(hq:PQ q):cE txt d q=cE aI d q∧PQ (cE aI d q).2:=by
 have hf:=zQN hd;constructor
 ·unfold cE kG;rw[hx _ hf,zQ0 hx 0 hq.f]
 ·unfold cE;split
  ·exact hq
  ·refine⟨fun g hg=>?_,hq.b⟩;rcases List.mem_append.1 hg with hg|hg
   ·exact hq.f g hg
   ·rw[List.mem_singleton.1 hg];exact hf
theorem yzP{d q}(hd:cj d)(hq:PQ q):eB txt d q=eB aI d q∧PQ (eB aI d q).2:=by obtain⟨h1,h2⟩:=SV hx hd hq;unfold eB;rw[h1];exact⟨rfl,by split<;>assumption⟩
theorem TJ{d q}(hd:cj d)(hq:PQ q):dt txt d q=dt aI d q∧PQ (dt aI d q).2:=by obtain⟨h1,h2⟩:=SV hx hd hq;unfold dt;rw[h1];exact⟨rfl,by split;exact hq;split<;>assumption⟩
theorem ywz{d q}(hd:cj d)(hq:PQ q):eh txt d q=eh aI d q∧PQ (eh aI d q).2:=by obtain⟨h1,h2⟩:=SV hx hd hq;unfold eh;rw[h1];exact⟨rfl,by split;exact hq;split<;>assumption⟩
omit hx in
theorem PQ.note{q:QS}(h:PQ q)(b:Bool):PQ (q.note b):=⟨h.f,h.b⟩
omit hx in
theorem PQ.take{q:QS}{s:aD}(h:PQ q)(hs:s.all mJ=true):PQ (q.take s):=by
 unfold QS.take;split
 ·exact h
 ·refine⟨h.f,fun t ht=>?_⟩;rcases List.mem_append.1 ht with ht|ht
  ·exact h.b t ht
  ·rw[List.mem_singleton.1 ht];exact hs
theorem yvf{s q}(hs:s.all mJ=true)(hq:PQ q):fo txt s q=fo aI s q∧PQ (fo aI s q).2:=
 yzP hx (Tc hs) ((hq.take hs).note _)
theorem Tj{s up q}(hs:s.all mJ=true)(hq:PQ q):bj txt s up q=bj aI s up q∧PQ (bj aI s up q).2:=by
 unfold bj;split
 ·exact TJ hx (Tc hs) (hq.note _)
 ·exact TJ hx (yZL hs) (hq.note _)
theorem yZh{o d q}(hd:cj d.1)(hq:PQ q):kI txt o d q=kI aI o d q∧PQ (kI aI o d q).2:=by
 obtain⟨h1,h2⟩:=yzP hx hd (hq.note d.2);obtain⟨h3,h4⟩:=TJ hx hd (hq.note d.2);obtain⟨h5,h6⟩:=ywz hx hd (hq.note d.2);unfold kI;rw[h1,h3,h5];refine⟨rfl,?_⟩;split
 ·exact hq.note _
 ·split
  ·exact h2
  ·split
   ·exact h2
   ·split<;>assumption
theorem Za{v}:∀{l} (_:∀k∈l,∀q,PQ q→aO v txt k q=aO v aI k q∧PQ (aO v aI k q).2) (q),PQ q→aO.go v txt l q=aO.go v aI l q∧PQ (aO.go v aI l q).2
 |[],_,q,hq=>⟨rfl,hq⟩
 |k::l,h,q,hq=>by obtain⟨h1,h2⟩:=h k (by simp) q hq;obtain⟨h3,h4⟩:=Za (v:=v) (l:=l) (fun k hk=>h k (by simp[hk])) _ h2;rw[aO.go,aO.go,h1,h3];exact⟨rfl,h4⟩
theorem yjc{v}(p):Good p→∀q,PQ q→aO v txt p q=aO v aI p q∧PQ (aO v aI p q).2:=by
 induction p using Pred.ind with
 |h o s n ks ih=>
 intro hg q hq;obtain⟨h1,h2⟩:=Za hx (v:=v) (l:=ks) (fun k hk q hq=>ih k hk (hg.ej hk) q hq) q hq;obtain⟨h3,h4⟩:=yvf hx (O4 _ hg) hq;rw[aO,aO,h1,h3];split
 ·exact⟨rfl,hq⟩
 ·split
  ·exact⟨rfl,h4⟩
  ·split
   ·rename_i hc;split
    ·exact⟨rfl,h2⟩
    ·obtain⟨_,uZ,_,_⟩:=hg.top;have QL:o=10∨o=11∨o=12∨o=13:=by simpa using hc
     obtain⟨a,b,rfl⟩:=G9 uZ (by omega) (by omega) (by omega) (by omega) (by omega) (by omega) (by omega);exact yZh hx (zQg (hg.ej (by simp)) (hg.ej (by simp))) hq
   ·exact⟨rfl,h2⟩
theorem TA{v}:∀{l ps} {q},(∀k∈l,Good k)→PQ q→cJ v txt l ps q=cJ v aI l ps q∧PQ (cJ v aI l ps q).2
 |[],ps,q,_,hq=>⟨rfl,hq⟩
 |k::l,ps,q,hg,hq=>by
  obtain⟨h1,h2⟩:=yjc hx (v:=v) k (hg k (by simp)) q hq;rw[cJ,cJ,h1];split
  ·exact⟨rfl,hq⟩
  ·exact TA (fun k hk=>hg k (by simp[hk])) h2
theorem yz5:∀{l} {ps} {q},(∀s∈l,s.all mJ=true)→PQ q→jQ txt l ps q=jQ aI l ps q∧PQ (jQ aI l ps q).2
 |[],ps,q,_,hq=>⟨rfl,hq⟩
 |s::l,ps,q,hs,hq=>by
  obtain⟨h1,h2⟩:=Tj hx (up:=false) (hs s (by simp)) hq;obtain⟨h3,h4⟩:=Tj hx (up:=true) (hs s (by simp)) h2;rw[jQ,jQ,h1,h3];split
  ·exact⟨rfl,hq⟩
  ·exact yz5 (fun k hk=>hs k (by simp[hk])) h4
omit hx in
theorem OY{v:al}{p:Pred}(hb:eY v p=0)(hz:p.same a8=false):Good p:=by
 unfold eY at hb;rw[hz,if_neg (by decide)]at hb;refine TH ?_;by_cases hc:p.bO=0
 ·exact hc
 ·exfalso;unfold ff at hb;have ij:(p.bO !=0)=true:=by simpa using hc
  rw[if_pos ij]at hb;have mu:(p.bO==0)=false:=by simpa using hc
  simp only[mu,Bool.false_and,Bool.false_eq_true,if_false]at hb;exact hc hb
omit hx in
theorem Vn{v:al}{p:Pred}(hb:eY v p=0):∀x∈au 4 p [],Good x:=by
 intro x hx;cases hz:p.same a8 with
 |true=>rw[(Pred.wz p a8).1 hz]at hx;cases hx
 |false=>
  rcases HX p [] hx with h|h
  ·cases h
  ·exact(OY hb hz).sub h
omit hx in
theorem Z3{v:al}{l:List Pred}(h:∀x∈l,Good x):∀x∈bD v l,Good x:=by
 intro x hx;have hm:∃m,∀x∈l,x.cX≤m:=by
  clear hx;induction l with
  |nil=>exact⟨0,by simp⟩
  |cons y l ih=>
   obtain⟨m,hm⟩:=ih fun x hx=>h x (by simp[hx]);refine⟨m+y.cX,fun x hx=>?_⟩;rcases List.mem_cons.1 hx with rfl|hx
   ·omega
   ·have:=hm x hx;omega
 obtain⟨m,hm⟩:=hm;exact(OZ (m:=m) (fun x hx=>⟨h x hx,hm x hx⟩) x hx).1
omit hx in
theorem Vk:PQ q0:=⟨by simp[q0],by simp[q0]⟩
theorem ykQ(v)(p):cR v txt p=cR v aI p:=by
 unfold cR;by_cases hb:eY v p=0
 ·have nL:(eY v p !=0)=false:=by simpa using hb
  simp only[nL,Bool.false_eq_true,if_false];split
  ·rfl
  ·have key:∀r:List Pred×QS,PQ r.2→kR v txt p r=kR v aI p r:=by intro r hr;obtain⟨h1,h2⟩:=TA hx (v:=v) (l:=bD v (au 4 p [])) (ps:=r.1) (q:=r.2) (Z3 (Vn hb)) hr;unfold kR rI;rw[h1];obtain⟨h3,_⟩:=yz5 hx (l:=(cJ v aI (bD v (au 4 p [])) r.1 r.2).2.aA) (ps:=(cJ v aI (bD v (au 4 p [])) r.1 r.2).1) h2.b h2;rw[h3]
   cases hz:p.same a8 with
   |true=>simp only[if_true];exact key _ Vk
   |false=>simp only[Bool.false_eq_true,if_false];obtain⟨h1,h2⟩:=TA hx (v:=v) (l:=[p]) (ps:=[]) (q:=q0) (fun k hk=>by rw[List.mem_singleton.1 hk];exact OY hb hz) Vk;rw[h1];exact key _ h2
 ·have nL:(eY v p !=0)=true:=by simpa using hb
  simp only[nL,if_true]
end Go.Abs
end
section
namespace Go.Abs
def vP(s:aD):Pred:=.mk 3 s 0 []
def rE(o:Int)(a b:Pred):Pred:=.mk o [] 0 [a,b]
def nP(k:Int):Pred:=.mk 1 [] k []
def ui(s:aD)(p:Pred):Pred:=.mk 4 s 0 [p]
def l5:al:=⟨[⟨[120],[73,110,116]⟩,⟨[121],[73,110,116]⟩,⟨[98],[66,111,111,108]⟩],[⟨[102],[[73,110,116]],[73,110,116]⟩],[]⟩
theorem YF:l5.Ok:=⟨by intro s hs;simp[l5]at hs;subst hs;simp[Small],by intro s hs;simp[l5]at hs⟩
def Wz:Pred:=rE 15 (rE 12 (vP [120]) (vP [121])) (rE 12 (vP [121]) (vP [120]))
def uk:Pred:=rE 15 (rE 15 (rE 10 (ui [102] (vP [120])) (nP 1)) (rE 10 (ui [102] (vP [121])) (nP 2))) (rE 10 (vP [120]) (vP [121]))
def WA:Pred:=rE 15 (rE 10 (rE 8 (nP 2) (vP [120])) (nP 4)) (rE 10 (rE 8 (nP 3) (vP [120])) (nP 6))
def AU:Pred:=.mk 15 [] 0 [.mk 15 [] 0 [.mk 13 [] 0 [vP [48],.mk 1 [] 0 []],.mk 14 [] 0 [.mk 10 [] 0 [vP [48],.mk 1 [] 0 []]]],.mk 14 [] 0 [.mk 13 [] 0 [vP [48],.mk 1 [] 0 []]]]
def AW:Pred:=.mk 15 [] 0 [.mk 10 [] 0 [vP [48],.mk 1 [] 0 []],.mk 10 [] 0 [vP [48],.mk 1 [] 0 []]]
def tw(l:List Pred):Bool:=l.all fun p=>!decide (p.nodes>80)
def tj(v:al):Bool:=decide ((v.vars.length:Int)≤12)&&decide ((v.syms.length:Int)≤8)&&decide ((v.bT.length:Int)≤4)
theorem quA:cR l5 aI Wz=(⟨AU,[⟨[⟨[120],1⟩,⟨[121],-1⟩],0⟩]⟩,0):=by kernel_rfl
theorem Rw:(cR l5 aI uk).2=0:=by kernel_rfl
theorem Rv:(cR l5 aI uk).1.ah.length=4:=by kernel_rfl
theorem Ry:(cR l5 aI (vP [98])).2=0:=by kernel_rfl
theorem Rx:(cR l5 aI (vP [98])).1.ah=[⟨[⟨[98],1⟩],-1⟩,⟨[⟨[98],1⟩],0⟩]:=by kernel_rfl
theorem quD:cR l5 aI WA=(⟨AW,[⟨[⟨[120],1⟩],-2⟩]⟩,0):=by kernel_rfl
theorem PE:aX [-1] AU=0∧aX [0] AU=0∧aX [1] AU=0:=by refine⟨?_,?_,?_⟩<;>kernel_rfl
theorem PF:aX [-1] AW=0∧aX [0] AW=1∧aX [1] AW=0:=by refine⟨?_,?_,?_⟩<;>kernel_rfl
theorem yQ6:au 4 uk []=[ui [102] (vP [120]),ui [102] (vP [121])]:=by kernel_rfl
theorem flB:au 4 (bZ uk) []=[]:=by kernel_rfl
theorem Wu:(bZ uk).cX≤1000:=by decide+kernel
theorem clB:(bD l5 [ui [102] (vP [120]),ui [102] (vP [121])]).length=1:=by kernel_rfl
theorem nmX:aU (rE 6 (nP (-3)) (ui [102] (vP [120])))=[43,40,45,51,44,102,40,120,41,41]:=by kernel_rfl
theorem rwC:(Ak [⟨[⟨[98],1⟩],-1⟩,⟨[⟨[98],1⟩],0⟩] [0,1]).map Row.cells=[[.aw [[.str [98],.int .i64 1]],.int .i64 (-1),.bool true],[.aw [[.str [98],.int .i64 (-1)]],.int .i64 1,.bool false]]:=by kernel_rfl
structure Law12(E:ax):Prop where
 sys:Sys E
 of:∀v p,v.Ok→E.C rF [.agg v.cells,.agg p.cells] (two (ff v p))
 chk:∀p,E.C GB [.agg (Pred.cells p)] (.one (.int .i64 p.bO))
 itoa:fu E
 atoi:wB E
 join:mK E
 text:∃txt,j4 E txt∧∀a,cj a→txt a=aI a
theorem yKp{α:Type}{f l a r}{x:α}(hl:l=a++x::r)(ha:∀y∈a,f y=true):l.all f=(f x&&r.all f):=by
 rw[hl,List.all_append,List.all_cons,List.all_eq_true.2 ha,Bool.true_and]
theorem NJ{k}:∀{ks},k∈ks→k.sz≤Pred.lS ks
 |[],h=>by cases h
 |x::ks,h=>by
  rw[Pred.lS];rcases List.mem_cons.1 h with rfl|h
  ·omega
  ·have:=NJ h;omega
theorem yV6{q p}(h:yH q p):q.name.length≤p.sz:=by
 induction h with
 |self=>obtain⟨o,s,n,ks⟩:=q;have:=@BD o s n ks;show s.length≤_;omega
 |@ej k p hk _ ih=>obtain⟨o,s,n,ks⟩:=p;have h1:=@BD o s n ks;have h2:k.sz≤Pred.lS ks:=NJ hk;omega
theorem zWv{p}(h:p.sz≤1048576):mE p:=fun q hq=>by have:=yV6 hq;omega
instance (n:Int):Decidable (nG n):=by unfold nG;infer_instance
theorem Ip:kF uk:=by unfold kF cW;decide+kernel
theorem Iq:kF (rE 6 (nP (-3)) (ui [102] (vP [120]))):=by unfold kF cW;decide+kernel
theorem RJ:IntKind.i64.wrap (-1)= -1:=by decide
theorem w_0:IntKind.i64.wrap 0=0:=by decide
theorem w_1:IntKind.i64.wrap 1=1:=by decide
theorem w_2:IntKind.i64.wrap 2=2:=by decide
theorem Law12.DC{E}(L:Law12 E)(v)(hv:v.Ok)(p)(hz:p.sz≤1048576):E.C Bt [.agg v.cells,.agg p.cells] (.tup [.agg (cR v aI p).1.cells,.one (.int .i64 (cR v aI p).2)]):=by obtain⟨txt,hT,hx⟩:=L.text;have h:=yvm L.sys v txt (fun p=>L.of v p hv) L.itoa L.join hT p hz;rw[ykQ hx]at h;exact h
theorem yVr{E}(Z:Sys E)(s:aD):E.C iY [.one (.str s)] (.agg (vP s).cells):=by refine Z.iY _ _ ⟨bn rfl,?_⟩;simp only[Zx,go_sem,vP,Pred.bm,Pred.op,Pred.name,Pred.n,Pred.kids]
theorem yVq{E}(Z:Sys E)(n):E.C me [.one (.int .i64 n)] (.agg (nP n).cells):=by refine Z.me _ _ ⟨bn rfl,?_⟩;simp only[Zw,go_sem,nP,Pred.bm,Pred.op,Pred.name,Pred.n,Pred.kids]
theorem yZC{E}(Z:Sys E)(o)(a b):E.C tE [.one (.int .i64 o),.agg a.cells,.agg b.cells] (.agg (rE o a b).cells):=by refine Z.tE _ _ ⟨bn rfl,?_⟩;rw[rE,Pred.bm (.mk o [] 0 [a,b])];simp only[yyi,go_sem,Pred.op,Pred.name,Pred.n,Pred.kids]
theorem yZA{E}(Z:Sys E)(s:aD)(a):E.C FO [.one (.str s),.agg a.cells] (.agg (ui s a).cells):=by refine Z.FO _ _ ⟨bn rfl,?_⟩;rw[ui,Pred.bm (.mk 4 s 0 [a])];simp only[yyg,go_sem,Pred.op,Pred.name,Pred.n,Pred.kids]
theorem yZB{E}(Z:Sys E):E.C Cw [] (.agg l5.cells):=by refine Z.Cw _ _ ⟨bn rfl,?_⟩;simp only[yyh,go_sem];simp only[l5,al.cells,mC,mN,b8.cells,cI.cells,cQ]
theorem zYV{E}(Z:Sys E)(v):E.C KR [.agg v.cells] (.one (.bool (tj v))):=by refine Z.KR _ _ ⟨bn rfl,?_⟩;generalize hR:tj v=R;unfold tj at hR;rw[al.cells];simp only[zVP,go_sem,lM];intro _ _ _;exact hR
theorem zvB{E}(Z:Sys E)(l):E.C Lg [.one (.aw (l.map Pred.cells))] (.one (.bool (tw l))):=by
 have hn:=zJk Z;refine Z.Lg _ _ ⟨bn rfl,?_⟩;generalize hR:tw l=R;unfold tw at hR;simp only[zVR,go_sem];refine gU l (fun done=>∀y∈done,(!decide (y.nodes>80))=true) (fun done rest=>⟨[(3,.d (.int .i64 done.length)),(0,.d (.aw (l.map Pred.cells)))],[],[]⟩) ?_ (by simp) ?_ ?_
 ·exact dG (by simp only[go_sem])
 ·intro done x r hl hI;have bf:=gw hl;rw[yKp hl hI]at hR;simp only[T8,go_sem,rJ hl,bf];intro hlen;have hw:IntKind.i64.wrap ((done.length:Int)+1)=((done.length+1:Nat):Int):=gn (by omega);refine aR (hn x) ?_;simp only[go_sem];cases h1:(decide (x.nodes>80))with
  |true=>simp only[h1,go_sem]at hR⊢;exact hR
  |false=>simp only[go_sem,hw,lA];exact⟨dG (by simp only[go_sem]),qi hI (by rw[h1];rfl)⟩
 ·intro hI;have cT:l.all (fun y=>!decide (y.nodes>80))=true:=List.all_eq_true.2 hI;rw[cT]at hR;subst hR;simp only[T8,go_sem,implies_true]
set_option maxHeartbeats 4000000 in
theorem zkj{E}(L:Law12 E):E.C Gb [] (.one (.bool true)):=by
 have Z:=L.sys;have he:=yZB Z;have hv:=fun s=>yVr Z s;have hn:=fun n=>yVq Z n;have ht:=fun o a b=>yZC Z o a b;have ha:=fun s a=>yZA Z s a;have hq:=fun p hz=>L.DC l5 YF p hz;have qa:=hq Wz (bn (by kernel_rfl));have qb:=hq uk (bn (by kernel_rfl));have qc:=hq (vP [98]) (bn (by kernel_rfl));have qd:=hq WA (bn (by kernel_rfl));have Ef:=zWW Z L.itoa L.join uk Ip (bn (by kernel_rfl));have Mm:=NY Z (bZ uk) (Eo _ (by have:=Wu;omega)) (by have:=Wu;omega);have jn:=zvJ Z l5 (fun p=>L.of _ p YF) [ui [102] (vP [120]),ui [102] (vP [121])] (by unfold Small;simp) (by intro p hp;simp only[List.mem_cons,List.not_mem_nil,or_false]at hp;rcases hp with rfl|rfl<;>exact Eo _ (by decide+kernel));have fG:=LR Z L.itoa L.join (rE 6 (nP (-3)) (ui [102] (vP [120]))) Iq (bn (by kernel_rfl));have XG:=zZp Z [⟨[⟨[98],1⟩],-1⟩,⟨[⟨[98],1⟩],0⟩] [0,1] (by simp);have Ml:=fun s=>V6 Z L.atoi L.itoa [s] (by simp) AU (zWv (bn (by kernel_rfl)));have kM:=fun s=>V6 Z L.atoi L.itoa [s] (by simp) AW (zWv (bn (by kernel_rfl)));have L7:=Ml (-1);have CH:=Ml 0;have L8:=Ml 1;have L9:=kM (-1);have Ma:=kM 0;have Mb:=kM 1;rw[PE.1]at L7;rw[PE.2.1]at CH;rw[PE.2.2]at L8;rw[PF.1]at L9;rw[PF.2.1]at Ma;rw[PF.2.2]at Mb;rw[nmX]at fG;rw[rwC]at XG;rw[yQ6]at Ef;rw[flB]at Mm;rw[quA]at qa;rw[quD]at qd;refine Z.Gb _ _ ⟨bn rfl,?_⟩;unfold zVO;have hb:=Rw;have tS:=Rv;have hc:=Ry;have oO:=Rx;have IP:=clB;generalize cR l5 aI uk=QB at*
 generalize cR l5 aI (vP [98])=QC at*
 generalize bD l5 [ui [102] (vP [120]),ui [102] (vP [121])]=CL at*
 generalize bZ uk=FB at*
 have hx:E.C tE [.one (.int .i64 15),.agg (rE 15 (rE 10 (ui [102] (vP [120])) (nP 1)) (rE 10 (ui [102] (vP [121])) (nP 2))).cells,.agg (rE 10 (vP [120]) (vP [121])).cells] (.agg uk.cells):=ht 15 _ _;rw[Pred.bm uk]at hx qb Ef;rw[Pred.bm FB]at Mm Ef;obtain⟨QBa,QBe⟩:=QB;obtain⟨⟨QBb,QBf⟩,rfl⟩:∃x:rC,QBa=x:=⟨_,rfl⟩;obtain⟨⟨LX,QCf⟩,QCe⟩:=QC;simp only at hb tS hc oO;subst hb hc oO;refine dJ fun N0 h0=>?_;simp only[go_sem];subst h0;refine dJ fun N1 h1=>?_;simp only[go_sem];repeat
  first
   |refine aR he ?_
   |refine aR (hv _) ?_
   |refine aR (ht _ _ _) ?_
   |refine aR qa ?_
  try simp only[go_sem,rC.bm]
 subst h1;refine dJ fun N2 h2=>?_;simp only[go_sem];repeat
  first
   |refine aR (hv _) ?_
   |refine aR (hn _) ?_
   |refine aR (ha _ _) ?_
   |refine aR hx ?_
   |refine aR (ht _ _ _) ?_
  try simp only[go_sem]
 subst h2;refine dJ fun N3 h3=>?_;simp only[go_sem];refine aR he ?_;simp only[go_sem];refine aR qb ?_;simp only[go_sem,rC.bm];subst h3;refine dJ fun N4 h4=>?_;simp only[go_sem];refine aR he ?_;simp only[go_sem];refine aR (hv _) ?_;simp only[go_sem];refine aR qc ?_;simp only[go_sem,rC.bm];subst h4;refine dJ fun N5 h5=>?_;simp only[go_sem];repeat
  first
   |refine aR he ?_
   |refine aR (hv _) ?_
   |refine aR (hn _) ?_
   |refine aR (ht _ _ _) ?_
   |refine aR qd ?_
  try simp only[go_sem,rC.bm]
 subst h5;refine dJ fun N6 h6=>?_;simp only[go_sem,lM,tS,lC,lN,Nat.reduceAdd,beq_self_eq_true,bne_self_eq_false,aH.cells];refine⟨by intro e he;simp only[List.mem_cons,List.not_mem_nil,or_false]at he;rcases he with rfl|rfl<;>rfl,?_⟩;subst h6;refine dJ fun N7 h7=>?_;simp only[go_sem];rw[Pred.bm AU]at L7 CH L8;rw[Pred.bm AW]at L9 Ma Mb;simp only[mC,mN,eT]at L7 CH L8 L9 Ma Mb;refine gU [(0:Nat),1,2] (fun _=>True) (fun done rest=>⟨[(10,.d (.int .i64 ((done.length:Int)-1))),(0,.d (.bool false)),(1,.ptr 1 0),(3,.ptr 3 0),(6,.ptr 6 0),(8,.ptr 8 0)],[(1,[.d (.int .i64 AU.op),.d (.str AU.name),.d (.int .i64 AU.n),.d (.aw (AU.kids.map Pred.cells)),.d (.aw [[.aw [[.str [120],.int .i64 1],[.str [121],.int .i64 (-1)]],.int .i64 0]])]),(3,[.d (.int .i64 uk.op),.d (.str uk.name),.d (.int .i64 uk.n),.d (.aw (uk.kids.map Pred.cells))]),(6,[.d (.int .i64 LX.op),.d (.str LX.name),.d (.int .i64 LX.n),.d (.aw (LX.kids.map Pred.cells)),.d (.aw [[.aw [[.str [98],.int .i64 1]],.int .i64 (-1)],[.aw [[.str [98],.int .i64 1]],.int .i64 0]])]),(8,[.d (.int .i64 AW.op),.d (.str AW.name),.d (.int .i64 AW.n),.d (.aw (AW.kids.map Pred.cells)),.d (.aw [[.aw [[.str [120],.int .i64 1]],.int .i64 (-2)]])])],[]⟩) ?_ trivial ?_ ?_
 ·exact dG (by simp only[go_sem,ak.cells,Int.reduceSub,oS,Int.zero_sub,and_self])
 ·intro done x r hl _;have hd:done=[]∨done=[0]∨done=[0,1]:=by
   match done,hl with
   |[],_=>exact .inl rfl
   |[a],hl=>simp at hl;right;left;rw[hl.1]
   |[a,b],hl=>simp at hl;right;right;rw[hl.1,hl.2.1]
   |a::b::c::d,hl=>exfalso;have:=congrArg List.length hl;simp at this
  rcases hd with rfl|rfl|rfl;all_goals
   simp only[T7,go_sem,Int.reduceSub,Int.reduceLE,decide_true,Int.reduceNeg,Int.sub_self];first
    |refine aR L7 ?_
    |refine aR CH ?_
    |refine aR L8 ?_
   simp only[go_sem,beq_self_eq_true,bne_self_eq_false];first
    |refine aR L9 ?_
    |refine aR Ma ?_
    |refine aR Mb ?_
   simp only[go_sem,Int.reduceSub,Int.reduceMul,Int.reduceAdd,Int.reduceNeg,beq_self_eq_true,bne_self_eq_false];simp only[go_sem,RJ,w_0,w_1,w_2,Int.reduceMul,Int.reduceAdd,Int.reduceNeg,Int.zero_mul,beq_self_eq_true,bne_self_eq_false,if_false];exact dG (by simp only[go_sem,oS,and_self,Int.reduceSub])
 ·intro _;simp only[T7,go_sem,Int.reduceSub,Int.reduceLE,decide_false,lC,lN,Nat.reduceAdd,Int.reduceAdd,Int.natCast_add,Int.cast_ofNat_Int];subst h7;refine dJ fun N8 h8=>?_;simp only[go_sem];refine aR Ef ?_;simp only[go_sem];subst h8;refine dJ fun N9 h9=>?_;simp only[go_sem];refine aR XG ?_;simp only[go_sem];subst h9;simp only[go_sem];repeat
   first
    |refine aR (hv _) ?_
    |refine aR (hn _) ?_
    |refine aR (ha _ _) ?_
    |refine aR (ht _ _ _) ?_
    |refine aR fG ?_
    |refine aR Mm ?_
    |refine aR he ?_
    |refine aR jn ?_
   try simp only[go_sem,lM,lC,lN,Nat.reduceAdd,beq_self_eq_true,IP,mC,mN]
  exact⟨by intro e he;simp only[List.mem_cons,List.not_mem_nil,or_false]at he;rcases he with rfl|rfl<;>rfl,by intro e he;simp only[List.mem_cons,List.not_mem_nil,or_false]at he;rcases he with rfl|rfl<;>rfl⟩
end Go.Abs
end
section
namespace Go.Abs
def rl(z:Int):Int:=if z<0 then-1 else if z>0 then 1 else 0
def kQ(f:aD→Int)(a:aH):Int:=(a.aG.map fun c=>c.n*f c.name).foldr (· + ·) 0+a.c
def Ref:List Int→List Int→Prop
 |[],[]=>True
 |a::s,b::t=>(a=2∨a=b)∧Ref s t
 |_,_=>False
theorem Ref.refl:∀s:List Int,Ref s s
 |[]=>trivial
 |_::s=>⟨.inr rfl,Ref.refl s⟩
theorem Ref.len:∀{s t},Ref s t→s.length=t.length
 |[],[],_=>rfl
 |_::_,_::_,h=>by rw[lC,lC,Ref.len h.2]
theorem Ref.set:∀{s t} {k},Ref s t→Ref (s.set k (t.getD k 0)) t
 |[],[],_,_=>trivial
 |a::s,b::t,0,h=>⟨.inr rfl,h.2⟩
 |a::s,b::t,k+1,h=>by simp only[List.set_cons_succ,List.getD_cons_succ];exact⟨h.1,Ref.set h.2⟩
end Go.Abs
end
section
namespace Go.Abs
theorem mf{E c K F}(h:∀K',K'=K→cx E (.loop c) K' F):cx E (.loop c) K F:=h K rfl
end Go.Abs
end
section
namespace Go.Abs
namespace Pred
end Pred
theorem Ek{v p}(h:(ff v p).2=0):p.bO=0∧ff v p=cM v p:=by
 unfold ff at*
 by_cases h1:(p.bO !=0)=true
 ·rw[if_pos h1]at h;simp only at h;rw[h]at h1;cases h1
 ·rw[if_neg h1];exact⟨by simpa using h1,rfl⟩
def Bl(v:al)(p:Pred):Prop:=cM v p=(aL,0)
theorem Yu(v)(o)(a b)(ha:(cM v a).2=0)(hb:(cM v b).2=0):cM v (.mk o [] 0 [a,b])=jV v o [] [(cM v a).1,(cM v b).1]:=by
 rw[Gq,Vq (by simp[ha,hb])];rfl
theorem Ym{v o a b}(ho:o=15∨o=16∨o=17∨o=18)(ha:Bl v a)(hb:Bl v b):Bl v (.mk o [] 0 [a,b]):=by
 unfold Bl at*
 rw[Yu v o a b (by rw[ha]) (by rw[hb]),ha,hb];rcases ho with rfl|rfl|rfl|rfl<;>rfl
theorem yQa(v):Bl v gX:=rfl
theorem yKF(v):Bl v dv:=rfl
theorem Yl{v a b}(ha:(ff v a).2=0)(hb:(ff v b).2=0)(h:iG v a=iG v b):Bl v (dN v a b):=by
 obtain⟨_,h1⟩:=Ek ha;obtain⟨_,h2⟩:=Ek hb;unfold iG at h;rw[h1]at ha;rw[h2]at hb;unfold Bl dN;rw[Yu v _ a b ha hb,h1,ha,←h2,←h,h1];by_cases hs:((cM v a).1==aL)=true
 ·rw[hs];simp only[beq_self_eq_true,Bool.and_self,if_true];rw[show(cM v a).1=aL by simpa using hs];rfl
 ·have b9:((cM v a).1==aL)=false:=by simpa using hs
  rw[b9];simp only[Bool.and_false,Bool.false_eq_true,if_false];have:∀s:aD,jV v 10 [] [s,s]=(aL,0):=fun s=>by show(if s==s then(aL,(0:Int))else([],11))=_;rw[beq_self_eq_true,if_pos rfl]
  exact this _
theorem yKE{v}:∀l:List Pred,(∀x∈l,Bl v x)→Bl v (fb l).1:=by
 refine vA (fun _=>yQa v) fun l x ih h=>?_;have h1:=ih fun y hy=>h y (by simp[hy]);have hx:=h x (by simp);rw[Hj];unfold jC;split
 ·exact h1
 ·split
  ·exact Ym (.inl rfl) h1 hx
  ·exact hx
theorem yQ7{v l}(h:∀x∈l,Bl v x):Bl v (ig l):=by
 unfold ig;split
 ·exact yKF v
 ·exact yKE l h
theorem Yn{v}:∀{a b},(∀k∈a,(ff v k).2=0)→(∀k∈b,(ff v k).2=0)→a.map (iG v)=b.map (iG v)→∀p∈List.zipWith (dN v) a b,Bl v p
 |[],b,_,_,_=>by simp
 |_::_,[],_,_,_=>by simp
 |x::a,y::b,ha,hb,h=>by
  intro p hp;rw[List.zipWith_cons_cons]at hp;simp only[mC,List.cons.injEq]at h;rcases List.mem_cons.1 hp with rfl|hp
  ·exact Yl (ha x (by simp)) (hb y (by simp)) h.1
  ·exact Yn (fun k hk=>ha k (by simp[hk])) (fun k hk=>hb k (by simp[hk])) h.2 p hp
theorem yJ9{v a b}(ca:a.cX<2^62)(cb:b.cX<2^62)(ha:(ff v a).2=0)(hb:(ff v b).2=0):∀p∈eS v a b,Bl v p:=by
 intro p hp;unfold eS at hp;split at hp
 ·cases hp
 ·rename_i hc;obtain⟨o,s,n,ks⟩:=a;obtain⟨o',s',n',nN⟩:=b;simp only[Pred.op,Pred.name,Pred.kids]at hp hc;simp only[Bool.or_eq_true,bne_iff_ne,ne_eq,Bool.not_eq_true',not_or,Decidable.not_not,Bool.not_eq_false]at hc;obtain⟨⟨⟨rfl,rfl⟩,rfl⟩,xG⟩:=hc;rw[List.mem_singleton]at hp;subst hp;obtain⟨k1,e1,_⟩:=SI ca ha;obtain⟨k2,e2,_⟩:=SI cb hb;have BT:ks.map (iG v)=nN.map (iG v):=by simpa[eU]using xG
  have m1:ks.map (iG v)=ks.map fun k=>(cM v k).1:=List.map_congr_left fun k hk=>by unfold iG;rw[(k1 k hk).1]
  have m2:nN.map (iG v)=nN.map fun k=>(cM v k).1:=List.map_congr_left fun k hk=>by unfold iG;rw[(k2 k hk).1]
  refine Ym (.inr (.inr (.inl rfl))) (yQ7 (Yn (fun k hk=>by rw[(k1 k hk).1];exact(k1 k hk).2) (fun k hk=>by rw[(k2 k hk).1];exact(k2 k hk).2) BT)) (Yl ha hb ?_);unfold iG;rw[e1,e2,←m1,←m2,BT]
theorem ZQ{v}:∀{l},(∀x∈l,x.cX<2^62∧(ff v x).2=0)→∀c∈bD v l,Bl v c
 |[],_,c,hc=>by cases hc
 |a::r,h,c,hc=>by
  rw[bD]at hc;rcases List.mem_append.1 hc with hc|hc
  ·obtain⟨b,hb,hc⟩:=List.mem_flatMap.1 hc;exact yJ9 (h a (by simp)).1 (h b (by simp[hb])).1 (h a (by simp)).2 (h b (by simp[hb])).2 c hc
  ·exact ZQ (fun x hx=>h x (by simp[hx])) c hc
end Go.Abs
end
