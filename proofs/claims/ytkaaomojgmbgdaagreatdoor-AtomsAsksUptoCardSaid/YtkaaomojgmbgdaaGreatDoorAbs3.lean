/-
  A LIBRARY OF THE PROOF: an abstract machine over the texts of the translated functions, whose values are plain data, proved sound with regard to the kit's law of calls (names shortened by program).
-/
import Derived.OrdersIn
import Derived.Test.YtkaaomojgmbgdaaGreatDoorAbs2
set_option linter.unusedSimpArgs false
set_option linter.unusedVariables false
set_option linter.unusedSectionVars false
set_option maxRecDepth 100000
section
namespace Go.Abs
open Go.RowKit
variable{E:ax}{st:St}
structure fL where
 slot:Option (Nat×AV)
 mem:Option (Nat×List AV)
 tk:Option (Nat×Option Nat)
 more:Mem×List (Nat×Bool)
def ja(tk:List (Nat×Bool)):Option (Nat×Option Nat)→List (Nat×Bool)
 |none=>tk
 |some (d,none)=>(d,true)::tk
 |some (d,some u)=>(d,true)::fl u tk
def fL.app(e:fL)(st:St):St:={ae:=e.slot.toList++st.ae,mem:=e.mem.toList++(e.more.1++st.mem),tk:=e.more.2++ja st.tk e.tk}
def ru(g:Option Bool)(v:AV):AV:=match g with
 |none=>v
 |some b=>.cond b v
theorem ywv{tk r7}(h:∀t,aE tk t=aE r7 t){as sz a}(ho:kX tk as sz a):kX r7 as sz a:=by
 cases a with
 |none=>trivial
 |some k=>
  simp only[kX]at ho⊢;split at ho
  ·rename_i u rn es hk;exact⟨ho.1,h u▸ho.2⟩
  ·exact ho
  ·exact ho.elim
def wE(g:Option Bool)(d:Option Nat)(tk:List (Nat×Bool))(as:List AV)(e':fL):CV→Prop
 |.own a sz es=>∃d',d=some d'∧(g=none∧aE tk d'=none∧kX tk as sz a)∧e'=⟨some (d',.own d' sz es),none,some (d',lr as a),([],[])⟩
 |.one x=>e'=⟨d.map fun d=>(d,ru g (.d x)),none,none,([],[])⟩
 |.agg x=>e'=⟨d.map fun d=>(d,ru g (.agg (x.map .d))),none,none,([],[])⟩
 |.bx _ _ _ _ _ _=>False
 |.vr _ _ _ _ _=>False
 |.vc _ _=>False
 |.tup x=>e'=⟨d.map fun d=>(d,ru g (.tup (CV.nD x))),none,none,([],[])⟩
theorem yvD{g d tk r7}(h:∀t,aE tk t=aE r7 t){as e' r}(he:wE g d tk as e' r):wE g d r7 as e' r:=by
 cases r with
 |own a sz es=>obtain⟨d',h1,⟨h2,h3,h4⟩,h5⟩:=he;exact⟨d',h1,⟨h2,h d'▸h3,ywv h h4⟩,h5⟩
 |one x=>exact he
 |agg x=>exact he
 |tup x=>exact he
 |bx=>exact he
 |vr=>exact he
 |vc=>exact he
theorem Z4{m:Mem}{a:AV}(h:a.mc=false):a.nf m=a.elems:=by
 cases a<;>first|rfl|cases h
def ER(E:ax)(gi:Option (Nat×Bool))(o:I)(st:St)(e':fL):Prop:=∃g,guardOf st gi=some g∧match o with
 |.alloc s zs=>g=none∧getM st.mem s=none∧e'=⟨some (s,.ptr s 0),some (s,zs),none,([],[])⟩
 |.box s x=>(g=none∧gd st x=true∧(ev st x).mT=true∧getM st.mem s=none)∧e'=⟨some (s,.ptr s 0),some (s,(ev st x).cells),none,([],[])⟩
 |.st n a x=>∃s off cs,ev st a=.ptr s off∧getM st.mem s=some cs∧(g=none∧gd st a=true∧gd st x=true∧(ev st x).mT=true∧dM (ev st x).cells=true∧(ev st x).cells.length=n∧off+n≤cs.length)∧
   e'=⟨none,some (s,cs.take off++(ev st x).cells++cs.drop (off+n)),none,([],[])⟩
 |.mkm s k e=>g=none∧getM st.mem s=none∧e'=⟨some (s,.mref s),some (s,[.mp k e []]),none,([],[])⟩
 |.mput k e kz x key v=>∃s kd vd k' q' cA,ev st x=.mref s∧ev st key=.d kd∧(ev st v).tx=some vd∧getM st.mem s=some [.mp k' q' cA]∧(g=none∧gd st x=true∧gd st key=true∧gd st v=true∧k'=k∧q'=e∧j8 kz kd=true∧nz kd∧cA.length<9223372036854775807)∧
   e'=⟨none,some (s,[.mp k e ((kd,vd)::cA)]),none,([],[])⟩
 |.mclr x=>∃s k e cA,ev st x=.mref s∧getM st.mem s=some [.mp k e cA]∧(g=none∧gd st x=true)∧e'=⟨none,some (s,[.mp k e []]),none,([],[])⟩
 |.app d esz eb x y=>((ev st y).zV=false∧(ev st y).mc=false∧(ev st x).mc=false)∧((g=some false∧e'=⟨some (d,ru (some false) (.d (.aw []))),none,none,([],[])⟩)∨g≠some false∧∃ys,(ev st y).elems=some ys∧
   ((∃es,ev st x=.full es∧(Fx g=true∧aE st.tk d=none∧gd st x=true∧gd st y=true∧(∀e∈es,e.length=esz)∧(∀e∈ys,e.length=esz)∧(es.length+ys.length)*eb≤2^46∧es.length+ys.length≤9223372036854775807)∧
      e'=⟨some (d,.own d esz (es++ys)),none,some (d,none),([],[])⟩)∨
    (∃u sz es,ev st x=.own u sz es∧(Fx g=true∧aE st.tk d=none∧aE st.tk u=some true∧sz=esz∧gd st x=true∧gd st y=true∧(∀e∈ys,e.length=esz)∧(es.length+ys.length)*eb≤2^46∧es.length+ys.length≤9223372036854775807)∧
      e'=⟨some (d,.own d esz (es++ys)),none,some (d,some u),([],[])⟩)))
 |.len d str x=>∃n,lenOf str (ev st x)=some n∧qY g (gd st x=true)∧e'=⟨some (d,ru g (.d (.int .i64 n))),none,none,([],[])⟩
 |.call d f' args=>∃f caps cvs r,ev st f'=.d (.clo f caps)∧iP [] 1 (ju st args)=some cvs∧qY g (gd st f'=true∧mG st args=true∧E.C f (cvs++caps.map .one) r)∧wE g d st.tk (ju st args) e' r
 |.callB d f' args=>∃f caps x,((∃cs,ev st f'=.d (.clo f cs)∧caps=cs.map .d)∨ev st f'=.clo f caps)∧jE E g f (gd st f'&&mG st args) (ju st args++caps) st x∧e'=⟨d.map fun d=>(d,x.r.jM.gW x.σ x.iF),none,none,(dC x.σ x.iF x.m1,lp x.iF++jk x.τ)⟩
 |.mkv _ _ _ _ _=>False
 |.bslv _ _ _=>False
 |.cpy _ _ _ _=>False
 |.clr _ _ _=>False
 |o=>∃v ob gs,eW E.G st o=some (v,ob,gs)∧qY g (gs=true∧ob)∧e'=⟨some (j5 o,ru g v),none,none,([],[])⟩
theorem vq(g)(d)(v):st.put g d v=fL.app ⟨some (d,ru g v),none,none,([],[])⟩ st:=by
 cases g<;>rfl
theorem NS(d)(x):jB st d x=fL.app ⟨d.map fun d=>(d,x.r.jM.gW x.σ x.iF),none,none,(dC x.σ x.iF x.m1,lp x.iF++jk x.τ)⟩ st:=by
 cases d<;>simp[jB,fL.app,ja,List.append_assoc]
theorem zXO{st st1}(h:∀s,getM st.mem s=getM st1.mem s){τ AG}:∀{σ} {m},de st τ AG σ m→de st1 τ AG σ m
 |[],[],_=>trivial
 |(s,s')::σ,(s0,kJ)::m,hm=>by obtain⟨⟨h1,h2,h3⟩,h4⟩:=hm;exact⟨⟨h1,h2,by rw[←h s'];exact h3⟩,zXO h h4⟩
 |[],_::_,hm=>hm.elim
 |_::_,[],hm=>hm.elim
theorem Tn{st st1}(h:∀t,aE st.tk t=aE st1.tk t):∀{τ} {us},mS st τ us→mS st1 τ us
 |[],_,_=>trivial
 |(_,u)::r,us,⟨⟨h1,h2⟩,h3⟩=>⟨⟨h1,by rw[←h u];exact h2⟩,Tn h h3⟩
theorem TF{tk r7}(h:∀t,aE tk t=aE r7 t):∀{τ},ng tk τ→ng r7 τ
 |[],_=>trivial
 |(_,u)::r,⟨h1,h2⟩=>⟨by rw[←h u];exact h1,TF h h2⟩
theorem yWd{st st1}(hm:∀s,getM st.mem s=getM st1.mem s)(ht:∀t,aE st.tk t=aE st1.tk t){as x}(h:okB st as x):okB st1 as x:=by obtain⟨h1,h2,h3,h4,h5,h6,h7,h8,h9,rR,vH,AZ⟩:=h;exact⟨h1,zXO hm h2,Tn ht h3,h4,h5,h6,h7,h8,h9,TF ht rR,vH,AZ⟩
theorem Z0{g d K as r}:dL false g d K st as r↔∃e,wE g d st.tk as e r∧K (e.app st):=by
 cases r with
 |own a sz es=>
  constructor
  ·intro h;cases d with
   |none=>exact h.elim
   |some d=>refine⟨_,⟨d,rfl,h.1,rfl⟩,?_⟩;have h2:=h.2;cases hu:lr as a<;>rw[hu]at h2<;>exact h2
  ·rintro⟨e,⟨d',rfl,h1,rfl⟩,h2⟩
   refine⟨h1,?_⟩;cases hu:lr as a<;>rw[hu]at h2<;>exact h2
 |one x=>
  constructor
  ·intro h;refine⟨_,rfl,?_⟩;cases d with
   |none=>exact h
   |some d=>simp only[Option.map_some];rw[←vq];exact h
  ·rintro⟨e,rfl,h⟩
   cases d with
   |none=>exact h
   |some d=>simp only[Option.map_some]at h;rw[←vq]at h;exact h
 |agg x=>
  constructor
  ·intro h;refine⟨_,rfl,?_⟩;cases d with
   |none=>exact h
   |some d=>simp only[Option.map_some];rw[←vq];exact h
  ·rintro⟨e,rfl,h⟩
   cases d with
   |none=>exact h
   |some d=>simp only[Option.map_some]at h;rw[←vq]at h;exact h
 |tup x=>
  constructor
  ·intro h;refine⟨_,rfl,?_⟩;cases d with
   |none=>exact h
   |some d=>simp only[Option.map_some];rw[←vq];exact h
  ·rintro⟨e,rfl,h⟩
   cases d with
   |none=>exact h
   |some d=>simp only[Option.map_some]at h;rw[←vq]at h;exact h
 |bx=>exact⟨fun h=>h.elim,fun⟨_,h,_⟩=>h.elim⟩
 |vr=>exact⟨fun h=>h.elim,fun⟨_,h,_⟩=>h.elim⟩
 |vc=>exact⟨fun h=>(by cases d with|none=>exact h.elim|some d=>exact absurd h.1.1 (by simp)),fun⟨_,h,_⟩=>h.elim⟩
theorem lT{gi o K}:gh E gi o st K↔∃e,ER E gi o st e∧K (e.app st):=by
 unfold gh ER;constructor
 ·intro h;split at h
  ·exact h.elim
  ·rename_i g hg;cases o<;>simp only[bF]at h;case alloc=>exact⟨_,⟨g,hg,h.1.1,h.1.2,rfl⟩,h.2⟩
   case box=>exact⟨_,⟨g,hg,h.1,rfl⟩,h.2⟩
   case st=>
    obtain⟨b6,h⟩:=h;split at h
    ·split at h<;>try exact h.elim
     exact⟨_,⟨g,hg,_,_,_,‹_›,‹_›,h.1,rfl⟩,h.2⟩
    ·rename_i he;rw[he]at b6;cases b6
    ·exact h.elim
   case app=>
    obtain⟨b6,h⟩:=h;rw[Z4 b6.2.1]at h;split at h
    ·rename_i he;rw[he]at b6;cases b6.1
    by_cases tV:g=some false
    ·subst tV;exact⟨_,⟨_,hg,b6,.inl ⟨rfl,rfl⟩⟩,by rw[←vq];exact h⟩
    ·rw[Na tV]at h;split at h<;>try exact h.elim
     split at h<;>try exact h.elim
     ·exact⟨_,⟨g,hg,b6,.inr ⟨tV,_,‹_›,.inl ⟨_,‹_›,h.1,rfl⟩⟩⟩,h.2⟩
     ·exact⟨_,⟨g,hg,b6,.inr ⟨tV,_,‹_›,.inr ⟨_,_,_,‹_›,h.1,rfl⟩⟩⟩,h.2⟩
     ·rename_i hx;have Ja:=b6.2.2;rw[hx]at Ja;cases Ja
   case mkm=>exact⟨_,⟨g,hg,h.1.1,h.1.2,rfl⟩,h.2⟩
   case mput k e kz x key v=>
    split at h<;>try exact h.elim
    split at h<;>try exact h.elim
    exact⟨_,⟨g,hg,_,_,_,_,_,_,‹_›,‹_›,‹_›,‹_›,h.1,rfl⟩,h.2⟩
   case mclr=>
    split at h<;>try exact h.elim
    split at h<;>try exact h.elim
    exact⟨_,⟨g,hg,_,_,_,_,‹_›,‹_›,h.1,rfl⟩,h.2⟩
   case len=>
    split at h<;>try exact h.elim
    exact⟨_,⟨g,hg,_,‹_›,h.1,rfl⟩,by rw[←vq];exact h.2⟩
   case call d f args=>
    split at h<;>try exact h.elim
    split at h<;>try exact h.elim
    obtain⟨r,h1,h2⟩:=h;obtain⟨e,h3,h4⟩:=Z0.1 h2;exact⟨e,⟨g,hg,_,_,_,r,‹_›,‹_›,h1,h3⟩,h4⟩
   case callB d f args=>
    split at h<;>try exact h.elim
    ·obtain⟨x,h1,h2⟩:=h;exact⟨_,⟨g,hg,_,_,x,.inl ⟨_,‹_›,rfl⟩,h1,rfl⟩,by rw[←NS];exact h2⟩
    ·obtain⟨x,h1,h2⟩:=h;exact⟨_,⟨g,hg,_,_,x,.inr ‹_›,h1,rfl⟩,by rw[←NS];exact h2⟩
   case mv=>simp only[eW]at h⊢;exact⟨_,⟨g,hg,_,_,_,rfl,h.1,rfl⟩,by rw[←vq];exact h.2⟩
   case mkf=>simp only[eW]at h⊢;exact⟨_,⟨g,hg,_,_,_,rfl,h.1,rfl⟩,by rw[←vq];exact h.2⟩
   all_goals
    split at h
    ·exact⟨_,⟨g,hg,_,_,_,‹_›,h.1,rfl⟩,by rw[←vq];exact h.2⟩
    ·exact h.elim
 ·rintro⟨e,⟨g,hg,he⟩,hK⟩
  simp only[hg];cases o<;>simp only[bF]at he⊢;case alloc=>obtain⟨h1,h2,rfl⟩:=he;exact⟨⟨h1,h2⟩,hK⟩
  case box=>obtain⟨h1,rfl⟩:=he;exact⟨h1,hK⟩
  case st=>obtain⟨s,off,cs,h1,h2,h3,rfl⟩:=he;simp only[h1,h2];exact⟨rfl,h3,hK⟩
  case app=>
   obtain⟨b6,he⟩:=he;refine⟨b6,?_⟩;rw[Z4 b6.2.1];split
   ·rename_i IQ;rw[IQ]at b6;cases b6.1
   obtain⟨rfl,rfl⟩|⟨tV,ys,h1,⟨es,h2,h3,rfl⟩|⟨u,sz,es,h2,h3,rfl⟩⟩:=he
   ·show K _;rw[vq];exact hK
   ·rw[Na tV];simp only[h1,h2];exact⟨h3,hK⟩
   ·rw[Na tV];simp only[h1,h2];exact⟨h3,hK⟩
  case mkm=>obtain⟨h1,h2,rfl⟩:=he;exact⟨⟨h1,h2⟩,hK⟩
  case mput=>obtain⟨s,kd,vd,k',q',cA,h1,h2,h3,h4,h5,rfl⟩:=he;simp only[h1,h2,h3,h4];exact⟨h5,hK⟩
  case mclr=>obtain⟨s,k,e,cA,h1,h2,h3,rfl⟩:=he;simp only[h1,h2];exact⟨h3,hK⟩
  case len=>obtain⟨n,h1,h2,rfl⟩:=he;simp only[h1];exact⟨h2,by rw[vq];exact hK⟩
  case call d f args=>obtain⟨f',caps,cvs,r,h1,h2,h3,h4⟩:=he;simp only[h1,h2];exact⟨r,h3,Z0.2 ⟨e,h4,hK⟩⟩
  case callB d f args=>
   obtain⟨f',caps,x,⟨cs,h1,rfl⟩|h1,h2,rfl⟩:=he
   ·simp only[h1];exact⟨x,h2,by rw[NS];exact hK⟩
   ·simp only[h1];exact⟨x,h2,by rw[NS];exact hK⟩
  case mv=>obtain⟨v,ob,gs,h1,h2,rfl⟩:=he;simp only[eW,Option.some.injEq,Prod.mk.injEq]at h1⊢;obtain⟨rfl,rfl,rfl⟩:=h1;exact⟨h2,by rw[vq];exact hK⟩
  case mkf=>obtain⟨v,ob,gs,h1,h2,rfl⟩:=he;simp only[eW,Option.some.injEq,Prod.mk.injEq]at h1⊢;obtain⟨rfl,rfl,rfl⟩:=h1;exact⟨h2,by rw[vq];exact hK⟩
  case isnil d x=>obtain⟨v,ob,gs,h1,h2,rfl⟩:=he;simp only[eW]at h1;cases h1
  all_goals (obtain⟨v,ob,gs,h1,h2,rfl⟩:=he;simp only[h1];exact⟨h2,by rw[vq];exact hK⟩)
theorem Z6{st st1 x}(h:∀k∈x.lB,aC st.ae k=aC st1.ae k):tR st x=tR st1 x:=by
 cases x with
 |t n=>exact h n (by simp[X.lB])
 |c v=>rfl
theorem nQ{st st1 x}(h:∀k∈x.lB,aC st.ae k=aC st1.ae k):ev st x=ev st1 x:=by simp[ev,Z6 h]
theorem py{st st1 x}(h:∀k∈x.lB,aC st.ae k=aC st1.ae k):gd st x=gd st1 x:=by simp[gd,Z6 h]
theorem FV{st st1}:∀{xs},(∀k∈xs.flatMap X.lB,aC st.ae k=aC st1.ae k)→ju st xs=ju st1 xs∧mG st xs=mG st1 xs
 |[],_=>⟨rfl,rfl⟩
 |x::xs,h=>by have h1:∀k∈x.lB,aC st.ae k=aC st1.ae k:=fun k hk=>h k (by simp[hk]);obtain⟨h2,h3⟩:=FV (xs:=xs) fun k hk=>h k (by simp only[List.flatMap_cons,List.mem_append];exact .inr hk);exact⟨by simp[ju,nQ h1,h2],by simp[mG,py h1,h3]⟩
theorem zW1{st st1}:∀{ps},(∀k∈ps.flatMap (fun p=>p.2.2.lB),aC st.ae k=aC st1.ae k)→iB st ps=iB st1 ps∧fV st ps=fV st1 ps
 |[],_=>⟨rfl,rfl⟩
 |(a,b,x)::ps,h=>by have h1:∀k∈x.lB,aC st.ae k=aC st1.ae k:=fun k hk=>h k (by simp[hk]);obtain⟨h2,h3⟩:=zW1 (ps:=ps) fun k hk=>h k (by simp only[List.flatMap_cons,List.mem_append];exact .inr hk);exact⟨by simp[iB,nQ h1,h2],by simp[fV,py h1,h3]⟩
theorem D9{st st1 gi}(h:∀k∈l7 gi,aC st.ae k=aC st1.ae k):guardOf st gi=guardOf st1 gi:=by
 cases gi with
 |none=>rfl
 |some p=>obtain⟨s,b⟩:=p;simp only[guardOf,h s (by simp[l7])]
theorem yWk{G st st1 o}(h:∀k∈dh o,aC st.ae k=aC st1.ae k)(hm:kindOf o=.reads→∀s,getM st.mem s=getM st1.mem s):eW G st o=eW G st1 o:=by
 have two:∀x y:X,(∀k∈x.lB++y.lB,aC st.ae k=aC st1.ae k)→(ev st x=ev st1 x∧gd st x=gd st1 x)∧(ev st y=ev st1 y∧gd st y=gd st1 y):=fun x y lz=>
  ⟨⟨nQ fun k hk=>lz k (by simp[hk]),py fun k hk=>lz k (by simp[hk])⟩,⟨nQ fun k hk=>lz k (by simp[hk]),py fun k hk=>lz k (by simp[hk])⟩⟩
 cases o<;>simp only[dh]at h<;>simp only[eW];case mv=>rw[nQ h,py h]
 case and d x y=>obtain⟨⟨a,b⟩,a',b'⟩:=two _ _ h;rw[a,b,a',b']
 case or d x y=>obtain⟨⟨a,b⟩,a',b'⟩:=two _ _ h;rw[a,b,a',b']
 case bin d op x y=>obtain⟨⟨a,b⟩,a',b'⟩:=two _ _ h;rw[a,b,a',b']
 case not=>rw[nQ h,py h]
 case nck=>rw[nQ h,py h]
 case build=>obtain⟨a,b⟩:=zW1 h;rw[a,b]
 case bsl=>obtain⟨a,b⟩:=FV h;rw[a,b]
 case bslz=>obtain⟨a,b⟩:=FV h;rw[a,b]
 case fa=>rw[nQ h,py h]
 case ld=>
  have:∀s o n,eO st s o n=eO st1 s o n:=fun s o n=>by simp only[eO,hm rfl s]
  simp only[nQ h,py h,this]
 case idx d esz x y=>obtain⟨⟨a,b⟩,a',b'⟩:=two _ _ h;rw[a,b,a',b']
 case ext=>rw[nQ h,py h]
 case mkf=>obtain⟨a,b⟩:=FV h;rw[a,b]
 case max d x y=>obtain⟨⟨a,b⟩,a',b'⟩:=two _ _ h;rw[a,b,a',b']
 case min d x y=>obtain⟨⟨a,b⟩,a',b'⟩:=two _ _ h;rw[a,b,a',b']
 case beq d ne x y=>obtain⟨⟨a,b⟩,a',b'⟩:=two _ _ h;rw[a,b,a',b']
 case sidx d x y=>obtain⟨⟨a,b⟩,a',b'⟩:=two _ _ h;rw[a,b,a',b']
 case aad d n esz x y=>obtain⟨⟨a,b⟩,a',b'⟩:=two _ _ h;rw[a,b,a',b']
 case aidx d n x y=>obtain⟨⟨a,b⟩,a',b'⟩:=two _ _ h;rw[a,b,a',b']
 case fld=>rw[nQ h,py h]
 case cvt=>rw[nQ h,py h]
 case cvs=>rw[nQ h,py h]
 case ieq=>rw[nQ h,py h]
 case aeq d ne zs x y=>obtain⟨⟨a,b⟩,a',b'⟩:=two _ _ h;rw[a,b,a',b']
 case sfrom d x y=>obtain⟨⟨a,b⟩,a',b'⟩:=two _ _ h;rw[a,b,a',b']
 case lfrom d e x y=>obtain⟨⟨a,b⟩,a',b'⟩:=two _ _ h;rw[a,b,a',b']
 case mget d ok k e kz z x y=>obtain⟨⟨a,b⟩,a',b'⟩:=two _ _ h;simp only[a,b,a',b',hm rfl]
 case lmax d e x y z m=>obtain⟨⟨a,b⟩,a',b'⟩:=two x y (fun k hk=>h k (by simp only[List.mem_append]at hk⊢;rcases hk with hk|hk<;>simp[hk]));obtain⟨⟨a2,b2⟩,a3,b3⟩:=two z m (fun k hk=>h k (by simp only[List.mem_append]at hk⊢;rcases hk with hk|hk<;>simp[hk]));rw[a,b,a',b',a2,b2,a3,b3]
 case lto d e x y z=>obtain⟨⟨a,b⟩,a',b'⟩:=two x y (fun k hk=>h k (by simp only[List.mem_append]at hk⊢;rcases hk with hk|hk<;>simp[hk]));obtain⟨⟨a2,b2⟩,_⟩:=two z z (fun k hk=>h k (by simp only[List.mem_append]at hk⊢;rcases hk with hk|hk<;>simp[hk]));rw[a,b,a',b',a2,b2]
 case sto d x y z=>obtain⟨⟨a,b⟩,a',b'⟩:=two x y (fun k hk=>h k (by simp only[List.mem_append]at hk⊢;rcases hk with hk|hk<;>simp[hk]));obtain⟨⟨a2,b2⟩,_⟩:=two z z (fun k hk=>h k (by simp only[List.mem_append]at hk⊢;rcases hk with hk|hk<;>simp[hk]));rw[a,b,a',b',a2,b2]
structure sn(gi:Option (Nat×Bool))(o:I)(st st1:St):Prop where
 ae:∀k∈l7 gi++dh o,aC st.ae k=aC st1.ae k
 mem:kindOf o=.reads∨kindOf o=.writes∨kindOf o=.all→∀s,getM st.mem s=getM st1.mem s
 tk:kindOf o=.tokens∨kindOf o=.all→∀t,aE st.tk t=aE st1.tk t
theorem Bi{gi o st st1}(h:sn gi o st st1){e}(he:ER E gi o st e):ER E gi o st1 e:=by
 obtain⟨g,hg,he⟩:=he;have hr:∀k∈dh o,aC st.ae k=aC st1.ae k:=fun k hk=>h.ae k (by simp[hk]);refine⟨g,by rw[←D9 fun k hk=>h.ae k (by simp[hk])];exact hg,?_⟩;have two:∀x y:X,(∀k∈x.lB++y.lB,aC st.ae k=aC st1.ae k)→(ev st x=ev st1 x∧gd st x=gd st1 x)∧(ev st y=ev st1 y∧gd st y=gd st1 y):=fun x y lz=>
  ⟨⟨nQ fun k hk=>lz k (by simp[hk]),py fun k hk=>lz k (by simp[hk])⟩,⟨nQ fun k hk=>lz k (by simp[hk]),py fun k hk=>lz k (by simp[hk])⟩⟩
 cases o;case alloc=>simp only[←h.mem (.inr (.inl rfl))]at*;exact he
 case box s x=>simp only[dh]at hr;simp only[←h.mem (.inr (.inl rfl)),←nQ hr,←py hr]at*;exact he
 case st n a x=>simp only[dh]at hr;obtain⟨⟨a1,b1⟩,a2,b2⟩:=two _ _ hr;simp only[←h.mem (.inr (.inl rfl)),←a1,←b1,←a2,←b2]at*;exact he
 case mkm=>simp only[←h.mem (.inr (.inl rfl))]at*;exact he
 case mclr x=>simp only[dh]at hr;simp only[←h.mem (.inr (.inl rfl)),←nQ hr,←py hr]at*;exact he
 case mput k e kz x y z=>simp only[dh]at hr;obtain⟨⟨a1,b1⟩,a2,b2⟩:=two x y (fun k hk=>hr k (by simp only[List.mem_append]at hk⊢;rcases hk with hk|hk<;>simp[hk]));obtain⟨⟨a3,b3⟩,_⟩:=two z z (fun k hk=>hr k (by simp only[List.mem_append]at hk⊢;rcases hk with hk|hk<;>simp[hk]));simp only[←h.mem (.inr (.inl rfl)),←a1,←b1,←a2,←b2,←a3,←b3]at*;exact he
 case app d esz eb x y=>simp only[dh]at hr;obtain⟨⟨a1,b1⟩,a2,b2⟩:=two _ _ hr;simp only[←h.tk (.inl rfl),←a1,←b1,←a2,←b2]at*;exact he
 case len d str x=>simp only[dh]at hr;simp only[←nQ hr,←py hr]at*;exact he
 case call d f args=>
  simp only[dh]at hr;have h1:∀k∈f.lB,aC st.ae k=aC st1.ae k:=fun k hk=>hr k (by simp[hk]);obtain⟨h2,h3⟩:=FV (xs:=args) fun k hk=>hr k (List.mem_append.2 (.inr hk));simp only[←nQ h1,←py h1,←h2,←h3]at*
  obtain⟨f',caps,cvs,r,k1,k2,k3,k4⟩:=he;exact⟨f',caps,cvs,r,k1,k2,k3,yvD (h.tk (.inl rfl)) k4⟩
 case callB d f args=>
  simp only[dh]at hr;have h1:∀k∈f.lB,aC st.ae k=aC st1.ae k:=fun k hk=>hr k (by simp[hk]);obtain⟨h2,h3⟩:=FV (xs:=args) fun k hk=>hr k (List.mem_append.2 (.inr hk));simp only[←nQ h1,←py h1,←h2,←h3]at*
  obtain⟨f',caps,x,k1,⟨k2,k3,k4,k5,k6⟩,k9⟩:=he;exact⟨f',caps,x,k1,⟨k2,k3,k4,yWd (h.mem (.inr (.inr rfl))) (h.tk (.inr rfl)) k5,k6⟩,k9⟩
 case mkv=>exact he.elim
 case bslv=>exact he.elim
 case cpy=>exact he.elim
 case clr=>exact he.elim
 all_goals
  simp only at he⊢;rw[←yWk hr (fun hk=>h.mem (.inl hk))];exact he
theorem yq{gi o st e}(he:ER E gi o st e):(e.slot.map (·.1)=dP o)∧(e.mem≠none→kindOf o=.writes)∧(e.tk≠none→kindOf o=.tokens)∧(e.more≠([],[])→kindOf o=.all):=by
 obtain⟨g,hg,he⟩:=he;cases o<;>simp only[dP,kindOf,j5]at he⊢;case alloc=>obtain⟨_,_,rfl⟩:=he;simp
 case box=>obtain⟨_,rfl⟩:=he;simp
 case st=>obtain⟨_,_,_,_,_,_,rfl⟩:=he;simp
 case mkm=>obtain⟨_,_,rfl⟩:=he;simp
 case mput=>obtain⟨_,_,_,_,_,_,_,_,_,_,_,rfl⟩:=he;simp
 case mclr=>obtain⟨_,_,_,_,_,_,_,rfl⟩:=he;simp
 case app=>obtain⟨_,⟨_,rfl⟩|⟨_,_,_,⟨_,_,_,rfl⟩|⟨_,_,_,_,_,rfl⟩⟩⟩:=he<;>simp
 case len=>obtain⟨_,_,_,rfl⟩:=he;simp
 case call d f args=>
  obtain⟨_,_,_,r,_,_,_,he⟩:=he;cases r with
  |own a sz es=>obtain⟨d',rfl,_,rfl⟩:=he;simp
  |one x=>cases he;cases d<;>simp
  |agg x=>cases he;cases d<;>simp
  |tup x=>cases he;cases d<;>simp
  |bx=>exact he.elim
  |vr=>exact he.elim
  |vc=>exact he.elim
 case callB d f args=>obtain⟨_,_,x,_,_,rfl⟩:=he;cases d<;>simp
 all_goals (obtain⟨_,_,_,_,_,rfl⟩:=he;simp)
structure dz(s s1:St):Prop where
 ae:∀k,aC s.ae k=aC s1.ae k
 mem:∀k,getM s.mem k=getM s1.mem k
 tk:∀k,aE s.tk k=aE s1.tk k
theorem AA(o:Option (Nat×AV))(l)(k):aC (o.toList++l) k=match o with|some (d,v)=>if d=k then v else aC l k|none=>aC l k:=by
 cases o with
 |none=>rfl
 |some p=>rfl
theorem Kj(o:Option (Nat×List AV))(l)(k):getM (o.toList++l) k=match o with|some (d,v)=>if d=k then some v else getM l k|none=>getM l k:=by
 cases o with
 |none=>rfl
 |some p=>rfl
theorem zJt{tk r7}(h:∀k,aE tk k=aE r7 k)(o)(k):aE (ja tk o) k=aE (ja r7 o) k:=by
 cases o with
 |none=>exact h k
 |some p=>obtain⟨d,u⟩:=p;cases u<;>simp only[ja,Y9,NG,h]
theorem yVc(a){l l1}(h:∀k,getM l k=getM l1 k)(k):getM (a++l) k=getM (a++l1) k:=by
 induction a with
 |nil=>exact h k
 |cons p a ih=>obtain⟨s,cs⟩:=p;simp only[List.cons_append,getM,ih]
theorem yVg(a){l l1}(h:∀k,aE l k=aE l1 k)(k):aE (a++l) k=aE (a++l1) k:=by
 induction a with
 |nil=>exact h k
 |cons p a ih=>obtain⟨s,b⟩:=p;simp only[List.cons_append,aE,ih]
theorem dz.app{s s1}(h:dz s s1)(e:fL):dz (e.app s) (e.app s1):=by
 refine⟨fun k=>?_,fun k=>?_,fun k=>yVg _ (zJt h.tk e.tk) k⟩
 ·simp only[fL.app,AA,h.ae]
 ·simp only[fL.app,Kj,yVc e.more.1 h.mem]
theorem dz.agree{s s1}(h:dz s s1)(gi)(o):sn gi o s s1:=⟨fun k _=>h.ae k,fun _=>h.mem,fun _=>h.tk⟩
def ek(K:St→Prop):Prop:=∀s s1,dz s s1→K s→K s1
theorem SU{gi o K}(hK:ek K):ek (fun s=>gh E gi o s K):=by intro s s1 he h;obtain⟨e,h1,h2⟩:=lT.1 h;exact lT.2 ⟨e,Bi (he.agree gi o) h1,hK _ _ (he.app e) h2⟩
theorem Oc{K}(hK:ek K):∀l,ek (bS E l K)
 |[]=>hK
 |(g,o)::os=>SU (Oc hK os)
theorem sn.X8{a b:Option (Nat×Bool)×I}{e s0}(hs:ER E a.1 a.2 s0 e)(hw:bR (dP a.2) (l7 b.1++dh b.2)=true)(hk:cw (kindOf a.2) (kindOf b.2)=true)(st):sn b.1 b.2 (e.app st) st:=by
 obtain⟨h1,h2,h3,h4⟩:=yq hs;have De:∀k,kindOf b.2=k→k=.reads∨k=.writes∨k=.tokens∨k=.all→e.more=([],[]):=fun k zm uZ=>by
  by_cases hm:e.more=([],[])
  ·exact hm
  ·have:=h4 hm;rw[this,zm]at hk;rcases uZ with rfl|rfl|rfl|rfl<;>simp[cw]at hk
 refine⟨fun k fR=>?_,fun hr s=>?_,fun ht t=>?_⟩
 ·simp only[fL.app,AA];cases kC:e.slot with
  |none=>rfl
  |some p=>
   obtain⟨d,v⟩:=p;rw[kC]at h1;simp only[Option.map_some]at h1;rw[←h1]at hw;simp only[bR,Bool.not_eq_true',List.contains_eq_mem,decide_eq_false_iff_not]at hw;simp only
   rw[if_neg]
   rintro rfl
   exact hw fR
 ·simp only[fL.app,Kj,De _ rfl (by rcases hr with hr|hr|hr<;>simp[hr]),List.nil_append];cases hm:e.mem with
  |none=>rfl
  |some p=>have:=h2 (by simp[hm]);rw[this]at hk;rcases hr with hr|hr|hr<;>rw[hr]at hk<;>simp[cw]at hk
 ·simp only[fL.app,De _ rfl (by rcases ht with ht|ht<;>simp[ht]),List.nil_append];cases hm:e.tk with
  |none=>rfl
  |some p=>have:=h3 (by simp[hm]);rw[this]at hk;rcases ht with ht|ht<;>rw[ht]at hk<;>simp[cw]at hk
theorem zQU(a b):cw a b=cw b a:=by cases a<;>cases b<;>rfl
theorem yQL{G st st1 a b}(hr:fP a b=true)(h:∀k∈dh a,aC st.ae k=aC st1.ae k)(hm:∀s cs,getM st.mem s=some cs→getM st1.mem s=some cs){r}(hv:eW G st a=some r):eW G st1 a=some r:=by
 have two:∀x y:X,(∀k∈x.lB++y.lB,aC st.ae k=aC st1.ae k)→(ev st x=ev st1 x∧gd st x=gd st1 x)∧(ev st y=ev st1 y∧gd st y=gd st1 y):=fun x y lz=>
  ⟨⟨nQ fun k hk=>lz k (by simp[hk]),py fun k hk=>lz k (by simp[hk])⟩,⟨nQ fun k hk=>lz k (by simp[hk]),py fun k hk=>lz k (by simp[hk])⟩⟩
 cases a<;>simp only[fP,Bool.false_eq_true]at hr;case ld d ag n x=>
  simp only[dh]at h;simp only[eW]at hv⊢;rw[←nQ h,←py h];split at hv
  ·rename_i s o he;have:∀cs,eO st s o n=some cs→eO st1 s o n=some cs:=by
    intro cs hc;unfold eO at hc⊢;split at hc
    ·rename_i bx hb;rw[hm s bx hb];exact hc
    ·cases hc
   split at hv
   ·rename_i cs hc;rw[this cs hc];exact hv
   ·cases hv
  ·exact hv
  ·exact hv
  ·cases hv
 case mget d ok k e kz z x y=>
  simp only[dh]at h;obtain⟨⟨a,b⟩,a',b'⟩:=two _ _ h;simp only[eW,←a,←b,←a',←b']at hv⊢;split at hv
  ·split at hv
   ·rename_i hb;rw[hm _ _ hb];exact hv
   ·cases hv
  ·cases hv
theorem Am{a b}(ki:apart a b=true){K}(hK:ek K){st}(h:gh E a.1 a.2 st fun s=>gh E b.1 b.2 s K):gh E b.1 b.2 st fun s=>gh E a.1 a.2 s K:=by
 simp only[apart,Bool.and_eq_true]at ki;obtain⟨⟨⟨hk,hw⟩,pM⟩,sj⟩:=ki;obtain⟨e1,h1,h2⟩:=lT.1 h;obtain⟨e2,h3,h4⟩:=lT.1 h2;by_cases fR:cw (kindOf a.2) (kindOf b.2)=true;case neg=>
  have Cb:fP a.2 b.2=true:=by simp only[Bool.or_eq_true]at hk;exact hk.resolve_left fR
  have E3:kindOf a.2=.reads:=by obtain⟨ga,oa⟩:=a;cases oa<;>simp only[fP,Bool.false_eq_true]at Cb<;>rfl
  obtain⟨s1,m1,t1,q1⟩:=yq h1;have vi:e1.more=([],[]):=by
   by_cases hm:e1.more=([],[])
   ·exact hm
   ·have:=q1 hm;rw[E3]at this;cases this
  have uD:e1.mem=none:=by
   cases hm:e1.mem with
   |none=>rfl
   |some p=>have:=m1 (by simp[hm]);rw[E3]at this;cases this
  have vl:e1.tk=none:=by
   cases hm:e1.tk with
   |none=>rfl
   |some p=>have:=t1 (by simp[hm]);rw[E3]at this;cases this
  have Jo:∀k∈l7 b.1++dh b.2,aC (e1.app st).ae k=aC st.ae k:=by
   intro k lO;simp only[fL.app,AA];cases kC:e1.slot with
   |none=>rfl
   |some p=>
    obtain⟨d,v⟩:=p;rw[kC]at s1;simp only[Option.map_some]at s1;rw[←s1]at hw;simp only[bR,Bool.not_eq_true',List.contains_eq_mem,decide_eq_false_iff_not]at hw;simp only
    rw[if_neg]
    rintro rfl
    exact hw lO
  have qR:ER E b.1 b.2 st e2:=Bi ⟨Jo,fun _ s=>by simp only[fL.app,uD,vi,Option.toList_none,List.nil_append],fun _ t=>by simp only[fL.app,vl,vi,ja,List.nil_append]⟩ h3;obtain⟨s2,m2,t2,q2⟩:=yq h3;have mr:e2.more=([],[]):=by
   by_cases hm:e2.more=([],[])
   ·exact hm
   ·have:=q2 hm;obtain⟨gb,ob⟩:=b;obtain⟨ga,oa⟩:=a;cases oa<;>simp only[fP,Bool.false_eq_true]at Cb<;>cases ob<;>simp only[Bool.false_eq_true]at Cb<;>cases this
  have mw:e2.tk=none:=by
   cases hm:e2.tk with
   |none=>rfl
   |some p=>have:=t2 (by simp[hm]);obtain⟨gb,ob⟩:=b;obtain⟨ga,oa⟩:=a;cases oa<;>simp only[fP,Bool.false_eq_true]at Cb<;>cases ob<;>simp only[Bool.false_eq_true]at Cb<;>cases this
  have jj:∀s cs,getM st.mem s=some cs→getM (e2.app st).mem s=some cs:=by
   intro s cs hs;simp only[fL.app,Kj,mr,List.nil_append];cases hm:e2.mem with
   |none=>exact hs
   |some p=>
    obtain⟨s',kt⟩:=p;simp only
    have:getM st.mem s'=none:=by
     obtain⟨gb,ob⟩:=b;obtain⟨ga,oa⟩:=a;obtain⟨g,hg,he⟩:=qR;cases oa<;>simp only[fP,Bool.false_eq_true]at Cb<;>cases ob<;>simp only[Bool.false_eq_true]at Cb<;>simp only at he;all_goals first
      |(obtain⟨_,h5,rfl⟩:=he;simp only[Option.some.injEq,Prod.mk.injEq]at hm;obtain⟨rfl,_⟩:=hm;exact h5)
      |(obtain⟨⟨_,_,_,h5⟩,rfl⟩:=he;simp only[Option.some.injEq,Prod.mk.injEq]at hm;obtain⟨rfl,_⟩:=hm;exact h5)
    rw[if_neg]
    ·exact hs
    ·rintro rfl;rw[this]at hs;cases hs
  have zH:∀k∈l7 a.1++dh a.2,aC st.ae k=aC (e2.app st).ae k:=by
   intro k lO;simp only[fL.app,AA];cases kC:e2.slot with
   |none=>rfl
   |some p=>
    obtain⟨d,v⟩:=p;rw[kC]at s2;simp only[Option.map_some]at s2;rw[←s2]at pM;simp only[bR,Bool.not_eq_true',List.contains_eq_mem,decide_eq_false_iff_not]at pM;simp only
    rw[if_neg]
    rintro rfl
    exact pM lO
  have nJ:ER E a.1 a.2 (e2.app st) e1:=by
   obtain⟨g,hg,he⟩:=h1;refine⟨g,by rw[←D9 fun k lO=>zH k (by simp[lO])];exact hg,?_⟩;obtain⟨ga,oa⟩:=a;cases oa<;>simp only[fP,Bool.false_eq_true]at Cb;all_goals
    simp only at he⊢;obtain⟨v,ob,gs,IU,he2,he3⟩:=he;exact⟨v,ob,gs,yQL Cb (fun k lO=>zH k (by simp[lO])) jj IU,he2,he3⟩
  refine lT.2 ⟨e2,qR,lT.2 ⟨e1,nJ,hK _ _ ?_ h4⟩⟩;refine⟨fun k=>?_,fun k=>?_,fun k=>?_⟩
  ·simp only[fL.app,AA];cases gL:e1.slot with
   |none=>rfl
   |some p1=>
    cases jS:e2.slot with
    |none=>rfl
    |some p2=>
     obtain⟨d1,v1⟩:=p1;obtain⟨d2,v2⟩:=p2;rw[gL]at s1;rw[jS]at s2;simp only[Option.map_some]at s1 s2;rw[←s1,←s2]at sj;simp only[bR,Option.toList_some,List.contains_cons,List.contains_nil,Bool.or_false,Bool.not_eq_true',beq_eq_false_iff_ne]at sj;simp only
     by_cases sx:d2=k
     ·subst sx;rw[if_pos rfl,if_neg sj,if_pos rfl]
     ·rw[if_neg sx,if_neg sx]
  ·simp only[fL.app,uD,vi,mr,Option.toList_none,List.nil_append]
  ·simp only[fL.app,vl,mw,vi,mr,ja,List.nil_append]
 replace hk:=fR;have qR:ER E b.1 b.2 st e2:=Bi (sn.X8 h1 hw hk st) h3;have nJ:ER E a.1 a.2 (e2.app st) e1:=by have pg:=sn.X8 (a:=b) (b:=a) qR pM (by rw[zQU];exact hk) st;exact Bi ⟨fun k hk=>(pg.ae k hk).symm,fun hr s=>(pg.mem hr s).symm,fun ht t=>(pg.tk ht t).symm⟩ h1
 refine lT.2 ⟨e2,qR,lT.2 ⟨e1,nJ,hK _ _ ?_ h4⟩⟩;obtain⟨s1,m1,t1,q1⟩:=yq h1;obtain⟨s2,m2,t2,q2⟩:=yq h3;have vh:e1.more≠([],[])→e1.mem=none∧e1.tk=none∧e2.mem=none∧e2.tk=none∧e2.more=([],[]):=fun hm=>by
  have E3:=q1 hm;rw[E3]at hk;refine⟨?_,?_,?_,?_,?_⟩
  ·cases h:e1.mem with
   |none=>rfl
   |some p=>have:=m1 (by simp[h]);rw[E3]at this;cases this
  ·cases h:e1.tk with
   |none=>rfl
   |some p=>have:=t1 (by simp[h]);rw[E3]at this;cases this
  ·cases h:e2.mem with
   |none=>rfl
   |some p=>have:=m2 (by simp[h]);rw[this]at hk;simp[cw]at hk
  ·cases h:e2.tk with
   |none=>rfl
   |some p=>have:=t2 (by simp[h]);rw[this]at hk;simp[cw]at hk
  ·by_cases h:e2.more=([],[])
   ·exact h
   ·have:=q2 h;rw[this]at hk;simp[cw]at hk
 have Q5:e2.more≠([],[])→e1.mem=none∧e1.tk=none∧e2.mem=none∧e2.tk=none∧e1.more=([],[]):=fun hm=>by
  have zm:=q2 hm;rw[zm]at hk;refine⟨?_,?_,?_,?_,?_⟩
  ·cases h:e1.mem with
   |none=>rfl
   |some p=>have:=m1 (by simp[h]);rw[this]at hk;simp[cw]at hk
  ·cases h:e1.tk with
   |none=>rfl
   |some p=>have:=t1 (by simp[h]);rw[this]at hk;simp[cw]at hk
  ·cases h:e2.mem with
   |none=>rfl
   |some p=>have:=m2 (by simp[h]);rw[zm]at this;cases this
  ·cases h:e2.tk with
   |none=>rfl
   |some p=>have:=t2 (by simp[h]);rw[zm]at this;cases this
  ·by_cases h:e1.more=([],[])
   ·exact h
   ·have:=q1 h;rw[this]at hk;simp[cw]at hk
 by_cases tS:e1.more=([],[]);case neg=>
  obtain⟨z1,z2,z3,z4,z5⟩:=vh tS;refine⟨fun k=>?_,fun k=>by simp only[fL.app,z1,z3,z5,Option.toList_none,List.nil_append],fun k=>by simp only[fL.app,z2,z4,z5,ja,List.nil_append]⟩;simp only[fL.app,AA];cases gL:e1.slot with
  |none=>rfl
  |some p1=>
   cases jS:e2.slot with
   |none=>rfl
   |some p2=>
    obtain⟨d1,v1⟩:=p1;obtain⟨d2,v2⟩:=p2;rw[gL]at s1;rw[jS]at s2;simp only[Option.map_some]at s1 s2;rw[←s1,←s2]at sj;simp only[bR,Option.toList_some,List.contains_cons,List.contains_nil,Bool.or_false,Bool.not_eq_true',beq_eq_false_iff_ne]at sj;simp only
    by_cases sx:d2=k
    ·subst sx;rw[if_pos rfl,if_neg sj,if_pos rfl]
    ·rw[if_neg sx,if_neg sx]
 by_cases oM:e2.more=([],[]);case neg=>
  obtain⟨z1,z2,z3,z4,z5⟩:=Q5 oM;refine⟨fun k=>?_,fun k=>by simp only[fL.app,z1,z3,z5,Option.toList_none,List.nil_append],fun k=>by simp only[fL.app,z2,z4,z5,ja,List.nil_append]⟩;simp only[fL.app,AA];cases gL:e1.slot with
  |none=>rfl
  |some p1=>
   cases jS:e2.slot with
   |none=>rfl
   |some p2=>
    obtain⟨d1,v1⟩:=p1;obtain⟨d2,v2⟩:=p2;rw[gL]at s1;rw[jS]at s2;simp only[Option.map_some]at s1 s2;rw[←s1,←s2]at sj;simp only[bR,Option.toList_some,List.contains_cons,List.contains_nil,Bool.or_false,Bool.not_eq_true',beq_eq_false_iff_ne]at sj;simp only
    by_cases sx:d2=k
    ·subst sx;rw[if_pos rfl,if_neg sj,if_pos rfl]
    ·rw[if_neg sx,if_neg sx]
 refine⟨fun k=>?_,fun k=>?_,fun k=>?_⟩
 ·simp only[fL.app,AA];cases gL:e1.slot with
  |none=>rfl
  |some p1=>
   cases jS:e2.slot with
   |none=>rfl
   |some p2=>
    obtain⟨d1,v1⟩:=p1;obtain⟨d2,v2⟩:=p2;rw[gL]at s1;rw[jS]at s2;simp only[Option.map_some]at s1 s2;rw[←s1,←s2]at sj;simp only[bR,Option.toList_some,List.contains_cons,List.contains_nil,Bool.or_false,Bool.not_eq_true',beq_eq_false_iff_ne]at sj;simp only
    by_cases sx:d2=k
    ·subst sx;rw[if_pos rfl,if_neg sj,if_pos rfl]
    ·rw[if_neg sx,if_neg sx]
 ·simp only[fL.app,Kj,tS,oM,List.nil_append];cases gL:e1.mem with
  |none=>rfl
  |some p1=>
   cases jS:e2.mem with
   |none=>rfl
   |some p2=>rw[m1 (by simp[gL]),m2 (by simp[jS])]at hk;simp[cw]at hk
 ·simp only[fL.app,tS,oM,List.nil_append];cases gL:e1.tk with
  |none=>rfl
  |some p1=>
   cases jS:e2.tk with
   |none=>rfl
   |some p2=>rw[t1 (by simp[gL]),t2 (by simp[jS])]at hk;simp[cw]at hk
end Go.Abs
end
section
namespace Go.Abs
open Go.RowKit
variable{c:Ctx}{st:St}{tmps:Array Value}{w:World}{S:Safe}{ρ:bW}{E:ax}{T:Nat→Option Ty}
theorem G7{gi o K}(h:gh E gi o st K):vF E gi o st K:=by
 unfold gh at h;unfold vF;split at h
 ·exact h.elim
 ·rename_i g hg;refine yJZ ?_;cases o;case isnil=>exact h.elim
  case len=>
   simp only[bF];simp only at h;split at h
   ·exact⟨h.1,fun _=>h.2⟩
   ·exact h.elim
  case st=>exact h.2
  case app=>exact h.2
  case mkv=>exact h.elim
  case bslv=>exact h.elim
  case cpy=>exact h.elim
  case clr=>exact h.elim
  case call d f args=>
   simp only at h;simp only[bF];split at h
   ·rename_i rQ caps hf;split at h
    ·rename_i cvs hc;rw[hf];obtain⟨r,h1,h2⟩:=h;exact⟨r,h1,yKJ h2⟩
    ·exact h.elim
   ·exact h.elim
  all_goals exact h
theorem pf{α:Type}{f x post K}(hK:ek K):∀{pre:List α} {st},(∀j∈pre,apart (f j) (f x)=true)→bS E (pre.map f++f x::post) K st→bS E (f x::(pre.map f++post)) K st
 |[],_,_,h=>h
 |j::pre,st,hp,h=>by simp only[List.map_cons,List.cons_append,bS]at h⊢;have h':gh E (f j).1 (f j).2 st (bS E (f x::(pre.map f++post)) K):=AD (fun s hs=>pf hK (fun k hk=>hp k (by simp[hk])) hs) h;have:=Am (hp j (by simp)) (Oc hK (pre.map f++post)) (by simpa only[bS]using h');simpa only[bS]using this
def gD(ops:List Oper)(listed:Nat→Bool)(k:Nat):Prop:=∀o,ops[k]? =some o→∀e∈o.after.toList,Region.binds .any e=true→listed e.on=true
def fS(ops:List Oper)(listed:Nat→Bool):Prop:=∀k,listed k=true→gD ops listed k
def kW(ops:List Oper)(k:Nat)(ps:Nat):Prop:=∀listed,fS ops listed→gD ops listed k→∀j,ps.testBit j=true→listed j=true
theorem ZV{acc:List Nat}{p:Nat→Prop}:∀(es:List Edge) (m),(∀j,m.testBit j=true→p j)→(∀e∈es,Region.binds .any e=true→p e.on∧∀j,(acc.getD e.on 0).testBit j=true→p j)→
  ∀j,(es.foldl (fun m e=>if Region.binds .any e then m|||(2^e.on|||acc.getD e.on 0)else m) m).testBit j=true→p j
 |[],m,hm,_,j,h=>hm j h
 |e::es,m,hm,he,j,h=>by
  rw[List.foldl_cons]at h;refine ZV es _ (fun i hi=>?_) (fun x hx=>he x (by simp[hx])) j h;split at hi
  ·rename_i hb;obtain⟨h1,h2⟩:=he e (by simp) hb;rw[Nat.testBit_or,Nat.testBit_or,Bool.or_eq_true,Bool.or_eq_true,Nat.testBit_two_pow]at hi;rcases hi with hi|hi|hi
   ·exact hm i hi
   ·have:e.on=i:=of_decide_eq_true hi;exact this▸h1
   ·exact h2 i hi
  ·exact hm i hi
theorem DU{ops}:∀(os) (acc),os=ops.drop acc.length→(∀k,kW ops k (acc.getD k 0))→∀k,kW ops k ((aJ ops acc os).getD k 0)
 |[],acc,_,h=>h
 |o::os,acc,ho,h=>by
  have bf:acc.length<ops.length:=by
   rcases Nat.lt_or_ge acc.length ops.length with h1|h1
   ·exact h1
   ·rw[List.drop_of_length_le h1]at ho;cases ho
  rw[List.drop_eq_getElem_cons bf]at ho;obtain⟨E7,Je⟩:=List.cons.inj ho;refine DU os _ (by simpa using Je) fun k=>?_;generalize hx:o.after.toList.foldl (fun m e=>if Region.binds .any e then m|||(2^e.on|||acc.getD e.on 0)else m) 0=x;by_cases hk:k<acc.length
  ·have:(acc++[x]).getD k 0=acc.getD k 0:=by simp[List.getD,List.getElem?_append_left hk]
   rw[this];exact h k
  ·by_cases fR:k=acc.length
   ·subst fR;have:(acc++[x]).getD acc.length 0=x:=by simp[List.getD]
    rw[this];intro listed hc he j hj;subst hx;refine ZV (p:=fun j=>listed j=true) o.after.toList 0 (fun j hj=>by simp at hj) (fun e IU hb=>?_) j hj;have hl:=he o (by rw[List.getElem?_eq_getElem bf,E7]) e IU hb;exact⟨hl,h e.on listed hc (hc e.on hl)⟩
   ·have:(acc++[x]).getD k 0=0:=by
      have:(acc++[x]).length≤k:=by simp;omega
      rw[List.getD_eq_getElem?_getD,List.getElem?_eq_none this];rfl
    rw[this];intro _ _ _ j hj;simp at hj
theorem SM{l ai b}:∀{n j},qN l ai b n=true→j<n→ai.testBit j=true∨∀a,l[j]? =some a→apart a b=true
 |0,j,_,h=>by omega
 |n+1,j,hd,h=>by
  simp only[qN,Bool.and_eq_true,Bool.or_eq_true]at hd;by_cases hj:j=n
  ·subst hj;rcases hd.1 with h1|h1
   ·exact .inl h1
   ·refine .inr fun a ha=>?_;rw[ha]at h1;exact h1
  ·exact SM hd.2 (by omega)
theorem SL{l ai}:∀{n k},ku l ai n=true→k<n→∀b,l[k]? =some b→qN l (ai.getD k 0) b k=true
 |0,k,_,h=>by omega
 |n+1,k,hd,h=>by
  simp only[ku,Bool.and_eq_true]at hd;by_cases hk:k=n
  ·subst hk;intro b hb;have:=hd.1;rw[hb]at this;exact this
  ·exact SL hd.2 (by omega)
theorem Og:∀{os} {k i} {o},di k os=true→os[i]? =some o→∀e∈o.after.toList,Region.binds .any e=true→e.on<k+i
 |[],_,i,o,_,h=>by simp at h
 |o'::os,k,0,o,hk,h=>by
  simp at h;subst h;simp only[di,Bool.and_eq_true,List.all_eq_true,Bool.or_eq_true,Bool.not_eq_true',decide_eq_true_eq]at hk;intro e he hb;rcases hk.1 e he with h1|h1
  ·rw[hb]at h1;cases h1
  ·simpa using h1
 |o'::os,k,i+1,o,hk,h=>by simp only[di,Bool.and_eq_true]at hk;have:=Og (i:=i) hk.2 (by simpa using h);intro e he hb;have:=this e he hb;omega
theorem TV{K l2}:∀l1:List (Option (Nat×Bool)×I),bS E (l1++l2) K=bS E l1 (bS E l2 K)
 |[]=>rfl
 |(g,o)::os=>by funext s;show gh E g o s (bS E (os++l2) K)=gh E g o s (bS E os (bS E l2 K));rw[TV os]
theorem aN.eq{s s0}(he:dz s0 s)(h:aN c s tmps w S ρ):aN c s0 tmps w S ρ:=by
 refine{h with ae:=fun k=>by rw[he.ae];exact h.ae k,mem:=fun s cs hs=>h.mem s cs (by rw[←he.mem];exact hs),aQ:=fun s hs=>h.aQ s (by rw[←he.mem];exact hs),cL:={at':=fun s k e cA hs=>h.cL.at' s k e cA (by rw[←he.mem];exact hs),inj:=h.cL.inj,new:=fun s hs=>h.cL.new s (by rw[←he.mem];exact hs),lt:=h.cL.lt,apart:=h.cL.apart},tok:=fun t ht=>?_,aV:=fun t ht=>h.aV t (by rw[←he.tk];exact ht)};obtain⟨x,g1,g2⟩:=h.tok t (by rw[←he.tk];exact ht);refine⟨x,g1,?_⟩;rcases g2 with g2|⟨b,k0,k1,k2,k3,k4,k5,k6,k7⟩
 ·exact .inl g2
 ·exact .inr ⟨b,k0,k1,k2,k3,k4,k5,k6,fun t' b' z b6 iO eE hz=>k7 t' b' z b6 (by rw[←he.tk];exact iO) eE hz⟩
theorem yJY{P ops}(ec:di 0 ops.toList=true){F}(m)(Q)(Inv:Array Bool→Act→World→Prop)
  (h1:∀listed a w,listed.size=ops.size→(∀i,i<ops.size→listed.getD i false=true)→Inv listed a w→Q .normal a w)
  (h2:∀listed a w i,listed.size=ops.size→i<ops.size→listed.getD i false=false→gD ops.toList (fun i=>listed.getD i false) i→fS ops.toList (fun i=>listed.getD i false)→(∀j,(listed.setIfInBounds i true).getD j false=(decide (j=i)||listed.getD j false))→Inv listed a w→
   ∀K:Act→World→Prop,(∀a' w',Inv (listed.setIfInBounds i true) a' w'→K a' w')→wpOpIn F m P ops Q i K a w):
  ∀(fuel) (listed) {a} {w},listed.size=ops.size→((List.range ops.size).filter fun i=>!listed.getD i false).length≤fuel→fS ops.toList (fun i=>listed.getD i false)→
   Inv listed a w→wpAnyIn F m P .any ops Q fuel listed a w:=by
 have Fa:∀(listed:Array Bool),listed.size=ops.size→Region.ready .any ops listed=[]→∀i,i<ops.size→listed.getD i false=true:=by
  intro listed cU hr i;induction i using Nat.strongRecOn with
  |ind i ihi=>
   intro gx;cases hli:listed.getD i false with
   |true=>rfl
   |false=>
    exfalso;have:i∈Region.ready .any ops listed:=by
     simp only[Region.ready,List.mem_filter,List.mem_range,Bool.and_eq_true,Bool.not_eq_true'];refine⟨gx,?_,?_⟩
     ·have:listed.getD i true=listed.getD i false:=by simp[Array.getD_eq_getD_getElem?,Array.getElem?_eq_getElem (cU▸gx:i<listed.size)]
      rw[this];exact hli
     ·simp only[Array.getElem?_eq_getElem gx,Option.map_some,Option.getD_some,Array.all_eq_true_iff_forall_mem,Bool.or_eq_true,Bool.not_eq_true'];intro e he;cases hb:Region.binds .any e with
      |false=>exact .inl rfl
      |true=>have bf:=Og (i:=i) (o:=ops[i]) ec (by simp[gx]) e (by simpa using he) hb;exact .inr (ihi e.on (by omega) (by omega))
    rw[hr]at this;cases this
 intro fuel;induction fuel with
 |zero=>
  intro listed a w cU Qn _ hA;have il:((List.range ops.size).filter fun i=>!listed.getD i false)=[]:=List.eq_nil_of_length_eq_zero (by omega);have cT:∀i,i<ops.size→listed.getD i false=true:=by intro i hi;have:=List.filter_eq_nil_iff.1 il i (List.mem_range.2 hi);simpa using this
  refine⟨?_,h1 listed _ _ cU cT hA⟩;cases hr:Region.ready .any ops listed with
  |nil=>rfl
  |cons i r=>
   exfalso;have hi:i∈Region.ready .any ops listed:=by rw[hr];simp
   simp only[Region.ready,List.mem_filter,List.mem_range,Bool.and_eq_true,Bool.not_eq_true']at hi;have:listed.getD i true=listed.getD i false:=by simp[Array.getD_eq_getD_getElem?,Array.getElem?_eq_getElem (cU▸hi.1:i<listed.size)]
   have h3:=hi.2.1;rw[this,cT i hi.1]at h3;cases h3
 |succ fuel ih=>
  intro listed a w cU Qn jn hA;refine⟨fun hr=>?_,fun i hi=>?_⟩
  ·exact h1 listed _ _ cU (Fa listed cU hr) hA
  ·simp only[Region.ready,List.mem_filter,List.mem_range,Bool.and_eq_true,Bool.not_eq_true']at hi;obtain⟨gx,jy,tK⟩:=hi;have Qq:listed.getD i true=listed.getD i false:=by simp[Array.getD_eq_getD_getElem?,Array.getElem?_eq_getElem (cU▸gx:i<listed.size)]
   rw[Qq]at jy;have kM:gD ops.toList (fun i=>listed.getD i false) i:=by
    intro o ho e he hb;have hoi:ops[i]? =some o:=by simpa using ho
    simp only[hoi,Option.map_some,Option.getD_some,Array.all_eq_true_iff_forall_mem,Bool.or_eq_true,Bool.not_eq_true']at tK;rcases tK e (by simpa using he)with h1|h1
    ·rw[hb]at h1;cases h1
    ·exact h1
   have gC:∀j,(listed.setIfInBounds i true).getD j false=(decide (j=i)||listed.getD j false):=by
    intro j;simp only[Array.getD_eq_getD_getElem?,Array.getElem?_setIfInBounds];by_cases hj:i=j
    ·subst hj;simp[cU,gx]
    ·have:¬j=i:=fun e=>hj e.symm;simp[hj,this]
   refine h2 listed _ _ i cU gx jy kM jn gC hA _ fun a' w' Md=>?_;refine ih (listed.setIfInBounds i true) (by simp[cU]) ?_ ?_ Md
   ·have oo:i∈(List.range ops.size).filter fun i=>!listed.getD i false:=List.mem_filter.2 ⟨List.mem_range.2 gx,by rw[jy];rfl⟩;have nt:((List.range ops.size).filter fun j=>!(listed.setIfInBounds i true).getD j false)=(((List.range ops.size).filter fun j=>!listed.getD j false).filter fun j=>!decide (j=i)):=by rw[List.filter_filter];congr 1;funext j;rw[gC j];cases decide (j=i)<;>simp
    rw[nt];have:(((List.range ops.size).filter fun j=>!listed.getD j false).filter fun j=>!decide (j=i)).length<((List.range ops.size).filter fun j=>!listed.getD j false).length:=by refine Nat.lt_of_le_of_ne (List.length_filter_le _ _) fun he=>?_;have:=List.length_filter_eq_length_iff.1 he i oo;simp at this
    omega
   ·intro k hk o ho e he hb;simp only at hk⊢;rw[gC]at hk⊢;by_cases Xs:k=i
    ·subst Xs;have:=kM o ho e he hb;simp only at this;rw[this];simp
    ·simp only[Xs,decide_false,Bool.false_or]at hk;have:=jn k hk o ho e he hb;simp only at this;rw[this];simp
theorem Nx(hG:E.G=c.G)(hC:∀f args r,E.C f args r→Ev c.P c.G f args r)(hT:∀t ty,T t=some ty→aK c.P t ty=true){ops:Array Oper}{l}(aa:gT T ops.toList=some l)
  (aT:∀o∈ops.toList,∀d,o.dst=some d→c.D d) (ec:di 0 ops.toList=true) {F} (hF:FW F) (m) (Q) {K} (hQ:∀a w,jW c K a w→Q .normal a w)
  (HH:Array Bool→St→Prop) (h1:∀listed st,listed.size=ops.size→(∀i,i<ops.size→listed.getD i false=true)→HH listed st→K st)
  (h2:∀listed st i,listed.size=ops.size→i<ops.size→listed.getD i false=false→gD ops.toList (fun i=>listed.getD i false) i→fS ops.toList (fun i=>listed.getD i false)→(∀j,(listed.setIfInBounds i true).getD j false=(decide (j=i)||listed.getD j false))→HH listed st→
   ∃s0 K',dz s0 st∧vF E (l.getD i default).1 (l.getD i default).2 s0 K'∧∀cH,K' cH→HH (listed.setIfInBounds i true) cH):
  ∀(fuel) (listed) {st} {tmps} {w} {S} {ρ},listed.size=ops.size→((List.range ops.size).filter fun i=>!listed.getD i false).length≤fuel→fS ops.toList (fun i=>listed.getD i false)→
   aN c st tmps w S ρ→HH listed st→wpAnyIn F m c.P .any ops Q fuel listed ⟨tmps,c.ds⟩ w:=by
 obtain⟨hlen,lh⟩:=vt aa;simp only[Array.length_toList]at hlen;intro fuel listed st tmps w S ρ cU Qn jn h hA;refine yJY ec m Q (fun listed a w=>a.defers=c.ds∧∃st S ρ,aN c st a.tmps w S ρ∧HH listed st) ?_ ?_ fuel listed cU Qn jn ⟨rfl,_,_,_,h,hA⟩
 ·rintro listed a w cU cT ⟨hd,st,S,ρ,h,hA⟩
  exact hQ _ _ ⟨hd,_,_,_,h,h1 listed st cU cT hA⟩
 ·rintro listed ⟨tmps,ds⟩ w i cU gx jy kM jn gC ⟨hd,st,S,ρ,h,hA⟩ K hK
  simp only at hd;subst hd;obtain⟨s0,K',QY,zf,Jc⟩:=h2 listed st i cU gx jy kM jn gC hA;obtain⟨gi,ii,Qr,wc,xO⟩:=lh i ops[i] (by simp[gx]);have hld:l.getD i default=(gi,ii):=by simp[List.getD,Qr]
  rw[hld]at zf;refine Th hG hC hT (h.eq QY) (Array.getElem?_eq_getElem gx) wc xO (aT _ (by simp)) zf ?_ Q hF m
  rintro⟨uT,ds'⟩ w' ⟨lU,cH,S',bu,h',Md⟩
  exact hK _ _ ⟨lU,cH,S',bu,h',Jc cH Md⟩
theorem Se(hG:E.G=c.G)(hC:∀f args r,E.C f args r→Ev c.P c.G f args r)(hT:∀t ty,T t=some ty→aK c.P t ty=true){ops:Array Oper}{l}(aa:gT T ops.toList=some l)
  (aT:∀o∈ops.toList,∀d,o.dst=some d→c.D d) (ec:di 0 ops.toList=true) {F} (hF:FW F) (m) (Q) {K} (hQ:∀a w,jW c K a w→Q .normal a w)
  (HH:Array Bool→St→Prop) (h1:∀listed st,listed.size=ops.size→(∀i,i<ops.size→listed.getD i false=true)→HH listed st→K st)
  (h2:∀listed st i,listed.size=ops.size→i<ops.size→listed.getD i false=false→gD ops.toList (fun i=>listed.getD i false) i→fS ops.toList (fun i=>listed.getD i false)→(∀j,(listed.setIfInBounds i true).getD j false=(decide (j=i)||listed.getD j false))→HH listed st→
   ∃rest K',bS E (l.getD i default::rest) K' st∧∀cH,bS E rest K' cH→HH (listed.setIfInBounds i true) cH):
  ∀(fuel) (listed) {st} {tmps} {w} {S} {ρ},listed.size=ops.size→((List.range ops.size).filter fun i=>!listed.getD i false).length≤fuel→fS ops.toList (fun i=>listed.getD i false)→
   aN c st tmps w S ρ→HH listed st→wpAnyIn F m c.P .any ops Q fuel listed ⟨tmps,c.ds⟩ w:=by
 refine Nx hG hC hT aa aT ec hF m Q hQ HH h1 ?_;intro listed st i a1 a2 a3 a4 a5 a6 a7;obtain⟨rest,K',h3,h4⟩:=h2 listed st i a1 a2 a3 a4 a5 a6 a7;exact⟨st,bS E rest K',⟨fun _=>rfl,fun _=>rfl,fun _=>rfl⟩,G7 h3,h4⟩
def mL(l:List (Option (Nat×Bool)×I))(ai:List Nat)(ord:List Nat):Prop:=ord.Pairwise fun i j=>qX l ai i j=true
def Left(n:Nat)(listed:Array Bool)(ord:List Nat):Prop:=(∀j,j∈ord↔j<n∧listed.getD j false=false)∧ord.Nodup
def LW(E:ax)(l:List (Option (Nat×Bool)×I))(ai:List Nat)(n:Nat)(K:St→Prop)(listed:Array Bool)(st:St):Prop:=
 ∃ord,Left n listed ord∧mL l ai ord∧bS E (ord.map fun i=>l.getD i default) K st
def Pq(E:ax)(l:List (Option (Nat×Bool)×I))(ai:List Nat)(n:Nat)(ia ib:Nat)(rs:List Nat)(K:St→Prop)(listed:Array Bool)(st:St):Prop:=
 LW E l ai n K listed st∨∃p,Left n listed (p++ia::ib::rs)∧mL l ai (p++ia::rs)∧mL l ai (p++ib::rs)∧
  bS E (p.map fun i=>l.getD i default) (fun s=>bS E ((ia::ib::rs).map fun i=>l.getD i default) K s∧bS E ((ib::ia::rs).map fun i=>l.getD i default) K s) st
theorem Left.take{n listed gO pre post i}(h:Left n listed (pre++i::post))(hl:∀j,gO.getD j false=(decide (j=i)||listed.getD j false)):Left n gO (pre++post):=by
 obtain⟨h1,h2⟩:=h;have h3:(i::(pre++post)).Nodup:=(List.perm_middle.nodup_iff).1 h2;obtain⟨h4,h5⟩:=List.nodup_cons.1 h3;refine⟨fun j=>?_,h5⟩;rw[hl j];have h6:j∈pre++i::post↔j=i∨j∈pre++post:=by simp;constructor<;>(intro h;rcases h with h|h|h<;>simp[h])
 by_cases hj:j=i
 ·subst hj;simp only[decide_true,Bool.true_or,Bool.true_eq_false,and_false,iff_false];exact h4
 ·simp only[hj,decide_false,Bool.false_or];rw[←h1 j,h6];simp[hj]
theorem Ku{l ai ops}(cC:∀k,kW ops k (ai.getD k 0)){listed i}(jn:fS ops listed)(kM:gD ops listed i){pre:List Nat}(hp:∀j∈pre,qX l ai j i=true)(hl:∀j∈pre,listed j=false):∀j∈pre,apart (l.getD j default) (l.getD i default)=true:=by
 intro j hj;have:=hp j hj;simp only[qX,Bool.or_eq_true]at this;rcases this with h1|h1
 ·have:=cC i _ jn kM j h1;rw[hl j hj]at this;cases this
 ·exact h1
theorem YS{l ai n K}(hK:ek K){ops}(cC:∀k,kW ops k (ai.getD k 0)){listed gO i}(gx:i<n)(jy:listed.getD i false=false)
  (kM:gD ops (fun i=>listed.getD i false) i) (jn:fS ops (fun i=>listed.getD i false)) (gC:∀j,gO.getD j false=(decide (j=i)||listed.getD j false)) (h:LW E l ai n K listed st):∃rest K',bS E (l.getD i default::rest) K' st∧∀cH,bS E rest K' cH→LW E l ai n K gO cH:=by
 obtain⟨ord,hL,hO,hA⟩:=h;obtain⟨pre,post,rfl⟩:=List.append_of_mem ((hL.1 i).2 ⟨gx,jy⟩);have ov:=List.pairwise_append.1 hO;have sT:=Ku cC jn kM (fun j hj=>ov.2.2 j hj i (by simp)) (fun j hj=>((hL.1 j).1 (by simp[hj])).2);rw[List.map_append,List.map_cons]at hA;refine⟨_,K,pf (x:=i) hK sT hA,fun cH hs=>⟨pre++post,hL.take gC,?_,by rw[List.map_append];exact hs⟩⟩;exact List.pairwise_append.2 ⟨ov.1,(List.pairwise_cons.1 ov.2.1).2,fun x hx y hy=>ov.2.2 x hx y (by simp[hy])⟩
theorem ZW{A B}(ha:ek A)(hb:ek B):ek (fun s=>A s∧B s):=fun s s1 he h=>⟨ha s s1 he h.1,hb s s1 he h.2⟩
theorem yKk{l ai n ia ib rs K}(hK:ek K){ops}(cC:∀k,kW ops k (ai.getD k 0))(ic:∀k∈rs,(ai.getD k 0).testBit ia=true∨(ai.getD k 0).testBit ib=true){listed gO i}(gx:i<n)(jy:listed.getD i false=false)
  (kM:gD ops (fun i=>listed.getD i false) i) (jn:fS ops (fun i=>listed.getD i false)) (gC:∀j,gO.getD j false=(decide (j=i)||listed.getD j false)) (h:Pq E l ai n ia ib rs K listed st):∃rest K',bS E (l.getD i default::rest) K' st∧∀cH,bS E rest K' cH→Pq E l ai n ia ib rs K gO cH:=by
 rcases h with h|⟨p,hL,P3,P4,hA⟩
 ·obtain⟨rest,K',h1,h2⟩:=YS hK cC gx jy kM jn gC h;exact⟨rest,K',h1,fun cH hs=>.inl (h2 cH hs)⟩
 ·have oo:=(hL.1 i).2 ⟨gx,jy⟩;have Fg:∀j,j∈p++ia::ib::rs→listed.getD j false=false:=fun j hj=>((hL.1 j).1 hj).2;have BA:=List.pairwise_append.1 P3;have Ly:=List.pairwise_append.1 P4;rcases List.mem_append.1 oo with hm|hm
  ·obtain⟨pre,post,rfl⟩:=List.append_of_mem hm;have ov:=List.pairwise_append.1 BA.1;have sT:=Ku cC jn kM (fun j hj=>ov.2.2 j hj i (by simp)) (fun j hj=>Fg j (by simp[hj]));rw[List.map_append,List.map_cons]at hA;refine⟨_,_,pf (x:=i) (ZW (Oc hK _) (Oc hK _)) sT hA,fun cH hs=>.inr ⟨pre++post,?_,?_,?_,by rw[List.map_append];exact hs⟩⟩
   ·have:Left n listed (pre++i::(post++ia::ib::rs)):=by simpa using hL
    simpa using this.take gC
   ·have:mL l ai (pre++i::(post++ia::rs)):=by simpa using P3
    have hq:=List.pairwise_append.1 this;have:mL l ai (pre++(post++ia::rs)):=List.pairwise_append.2 ⟨hq.1,(List.pairwise_cons.1 hq.2.1).2,fun x hx y hy=>hq.2.2 x hx y (List.mem_cons_of_mem _ hy)⟩;simpa using this
   ·have:mL l ai (pre++i::(post++ib::rs)):=by simpa using P4
    have hq:=List.pairwise_append.1 this;have:mL l ai (pre++(post++ib::rs)):=List.pairwise_append.2 ⟨hq.1,(List.pairwise_cons.1 hq.2.1).2,fun x hx y hy=>hq.2.2 x hx y (List.mem_cons_of_mem _ hy)⟩;simpa using this
  ·rcases List.mem_cons.1 hm with rfl|hm
   ·have sT:=Ku cC jn kM (fun j hj=>BA.2.2 j hj i (by simp)) (fun j hj=>Fg j (by simp[hj]));have EI:=xW _ (fun s hs=>hs.1) hA;rw[←TV,List.map_cons]at EI;refine⟨_,K,pf (x:=i) hK sT EI,fun cH hs=>.inl ⟨p++ib::rs,hL.take gC,P4,by rw[List.map_append];exact hs⟩⟩
   ·rcases List.mem_cons.1 hm with rfl|hm
    ·have sT:=Ku cC jn kM (fun j hj=>Ly.2.2 j hj i (by simp)) (fun j hj=>Fg j (by simp[hj]));have EI:=xW _ (fun s hs=>hs.2) hA;rw[←TV,List.map_cons]at EI;refine⟨_,K,pf (x:=i) hK sT EI,fun cH hs=>.inl ⟨p++ia::rs,?_,P3,by rw[List.map_append];exact hs⟩⟩;have:Left n listed ((p++[ia])++i::rs):=by simpa using hL
     simpa using this.take gC
    ·exfalso;rcases ic i hm with h1|h1
     ·have:=cC i _ jn kM ia h1;rw[Fg ia (by simp)]at this;cases this
     ·have:=cC i _ jn kM ib h1;rw[Fg ib (by simp)]at this;cases this
theorem Nj{n listed ord}(h:Left n listed ord)(cT:∀i,i<n→listed.getD i false=true):ord=[]:=by
 cases ord with
 |nil=>rfl
 |cons i r=>obtain⟨h1,h2⟩:=(h.1 i).1 (by simp);rw[cT i h1]at h2;cases h2
theorem To{l ai}:∀{ord},q9 l ai ord=true→mL l ai ord
 |[],_=>List.Pairwise.nil
 |i::r,h=>by simp only[q9,Bool.and_eq_true,List.all_eq_true]at h;exact List.pairwise_cons.2 ⟨h.1,To h.2⟩
theorem yQe{ops l}(hlen:l.length=ops.length)(h:ku l (aJ ops [] ops) ops.length=true):mL l (aJ ops [] ops) (List.range ops.length):=by
 refine List.Pairwise.imp_of_mem (fun{i j} hi hj Qw=>?_) List.pairwise_lt_range;have hi:=List.mem_range.1 hi;have hj:=List.mem_range.1 hj;have Cc:=SL h hj l[j] (List.getElem?_eq_getElem (by omega));simp only[qX,Bool.or_eq_true];rcases SM Cc Qw with h1|h1
 ·exact .inl h1
 ·refine .inr ?_;have:=h1 l[i] (List.getElem?_eq_getElem (by omega));simpa[List.getD,List.getElem?_eq_getElem (show i<l.length by omega),List.getElem?_eq_getElem (show j<l.length by omega)]using this
theorem yVV(hG:E.G=c.G)(hC:∀f args r,E.C f args r→Ev c.P c.G f args r)(hT:∀t ty,T t=some ty→aK c.P t ty=true){ops:Array Oper}{l}(aa:gT T ops.toList=some l)
  (aT:∀o∈ops.toList,∀d,o.dst=some d→c.D d) (jh:Im ops.toList l=true) {F} (hF:FW F) (m) (Q) {K} (hK:ek K) (hQ:∀a w,jW c K a w→Q .normal a w)
  (h:aN c st tmps w S ρ) (hA:bS E l K st):wpAnyIn F m c.P .any ops Q ops.size (Array.replicate ops.size false) ⟨tmps,c.ds⟩ w:=by
 obtain⟨hlen,_⟩:=vt aa;simp only[Im,Bool.and_eq_true]at jh;obtain⟨⟨ec,cT⟩,_⟩:=jh;have cC:=DU (ops:=ops.toList) ops.toList [] (by simp) (fun k=>by intro _ _ _ j hj;simp at hj);have ei:∀i,(Array.replicate ops.size false).getD i false=false:=by intro i;simp only[Array.getD_eq_getD_getElem?,Array.getElem?_replicate];split<;>rfl
 refine Se hG hC hT aa aT ec hF m Q hQ (LW E l (aJ ops.toList [] ops.toList) ops.size K) ?_ ?_ ops.size _ (by simp) ?_ ?_ h ?_
 ·rintro listed st cU hl ⟨ord,hL,_,hA⟩
  rw[Nj hL hl]at hA;exact hA
 ·intro listed st i cU gx jy kM jn gC hA;exact YS hK cC gx jy kM jn gC hA
 ·refine Nat.le_trans (List.length_filter_le _ _) (by simp)
 ·intro k hk;simp only[ei]at hk;cases hk
 ·refine⟨List.range ops.size,⟨fun j=>?_,List.nodup_range⟩,?_,?_⟩
  ·rw[ei];simp
  ·have:=yQe hlen cT
   rwa [Array.length_toList]at this
  ·have oi:(List.range ops.size).map (fun i=>l.getD i default)=l:=by
     simp only[Array.length_toList]at hlen;apply List.ext_getElem
     ·simp[hlen]
     ·intro i h1 h2;simp[List.getD,List.getElem?_eq_getElem h2]
   rw[oi];exact hA
theorem yWz(hG:E.G=c.G)(hC:∀f args r,E.C f args r→Ev c.P c.G f args r)(hT:∀t ty,T t=some ty→aK c.P t ty=true){ops:Array Oper}{l}(aa:gT T ops.toList=some l)
  (aT:∀o∈ops.toList,∀d,o.dst=some d→c.D d) {ps rs} {ia ib} (jh:BN ops.toList l ps ia ib rs=true) (gy:∀k,k∈ps++ia::ib::rs↔k<ops.size) (xL:(ps++ia::ib::rs).Nodup) (ic:∀k∈rs,((aJ ops.toList [] ops.toList).getD k 0).testBit ia=true∨((aJ ops.toList [] ops.toList).getD k 0).testBit ib=true) {F} (hF:FW F) (m) (Q) {K} (hK:ek K) (hQ:∀a w,jW c K a w→Q .normal a w)
  (h:aN c st tmps w S ρ) (hA:bS E (ps.map fun i=>l.getD i default) (fun s=>bS E ((ia::ib::rs).map fun i=>l.getD i default) K s∧bS E ((ib::ia::rs).map fun i=>l.getD i default) K s) st):wpAnyIn F m c.P .any ops Q ops.size (Array.replicate ops.size false) ⟨tmps,c.ds⟩ w:=by
 simp only[BN,Bool.and_eq_true]at jh;obtain⟨⟨ec,E7⟩,Je⟩:=jh;have cC:=DU (ops:=ops.toList) ops.toList [] (by simp) (fun k=>by intro _ _ _ j hj;simp at hj);have ei:∀i,(Array.replicate ops.size false).getD i false=false:=by intro i;simp only[Array.getD_eq_getD_getElem?,Array.getElem?_replicate];split<;>rfl
 refine Se hG hC hT aa aT ec hF m Q hQ (Pq E l (aJ ops.toList [] ops.toList) ops.size ia ib rs K) ?_ ?_ ops.size _ (by simp) ?_ ?_ h ?_
 ·rintro listed st cU hl (⟨ord,hL,_,hA⟩|⟨p,hL,_⟩)
  ·rw[Nj hL hl]at hA;exact hA
  ·have:=Nj hL hl;simp at this
 ·intro listed st i cU gx jy kM jn gC hA;exact yKk hK cC ic gx jy kM jn gC hA
 ·refine Nat.le_trans (List.length_filter_le _ _) (by simp)
 ·intro k hk;simp only[ei]at hk;cases hk
 ·exact .inr ⟨ps,⟨fun j=>by rw[ei,gy];simp,xL⟩,To E7,To Je,hA⟩
end Go.Abs
end
section
namespace Go.Abs
open Go.RowKit
variable{c:Ctx}{st:St}{tmps:Array Value}{w:World}{S:Safe}{ρ:bW}{E:ax}{T:Nat→Option Ty}
theorem NW{F st st1 o}(h:∀k∈dh o,aC st.ae k=aC st1.ae k)(hc:kZ F st o):kZ F st1 o:=by
 cases o<;>simp only[kZ]at hc⊢<;>first|trivial|exact hc|skip
 case ld d ag n x=>simp only[dh]at h;rw[←nQ h];exact hc
 case st n a x=>simp only[dh]at h;rw[←nQ fun k hk=>h k (by simp[hk])];exact hc
theorem sc{e:fL}{o l}(hs:e.slot.map (·.1)=dP o)(hw:bR (dP o) l=true)(st):∀k∈l,aC (e.app st).ae k=aC st.ae k:=by
 intro k hk;simp only[fL.app,AA];cases kC:e.slot with
 |none=>rfl
 |some p=>
  obtain⟨d,v⟩:=p;rw[kC]at hs;simp only[Option.map_some]at hs;rw[←hs]at hw;simp only[bR,Bool.not_eq_true',List.contains_eq_mem,decide_eq_false_iff_not]at hw;simp only
  rw[if_neg]
  rintro rfl
  exact hw hk
theorem Sp{gi d ag n x st st1 e}(h:∀k∈l7 gi++dh (.ld d ag n x),aC st.ae k=aC st1.ae k)(hm:∀s o,ev st x=.ptr s o→getM st.mem s=getM st1.mem s)(he:ER E gi (.ld d ag n x) st e):ER E gi (.ld d ag n x) st1 e:=by
 obtain⟨g,hg,v,ob,gs,h1,h2,h3⟩:=he;have hr:∀k∈x.lB,aC st.ae k=aC st1.ae k:=fun k hk=>h k (List.mem_append_right _ hk);refine⟨g,by rw[←D9 fun k hk=>h k (by simp[hk])];exact hg,v,ob,gs,?_,h2,h3⟩;simp only[eW]at h1⊢;rw[←nQ hr,←py hr];split at h1
 ·rename_i s o hv;have:eO st1 s o n=eO st s o n:=by simp only[eO,hm s o hv]
  simp only[this];exact h1
 ·exact h1
 ·exact h1
 ·cases h1
theorem Nf{e1 e2:fL}(vl:e1.tk=none)(mw:e2.tk=none)(vi:e1.more=([],[]))(mr:e2.more=([],[]))(hs:∀d v d' v',e1.slot=some (d,v)→e2.slot=some (d',v')→d≠d')(hm:∀d v d' v',e1.mem=some (d,v)→e2.mem=some (d',v')→d≠d')(st):dz (e2.app (e1.app st)) (e1.app (e2.app st)):=by
 refine⟨fun k=>?_,fun k=>?_,fun k=>?_⟩
 ·simp only[fL.app,AA];cases h1:e1.slot with
  |none=>rfl
  |some p=>
   cases h2:e2.slot with
   |none=>rfl
   |some q=>
    have:=hs _ _ _ _ h1 h2;simp only
    by_cases hk:p.1=k
    ·have:¬q.1=k:=fun e=>this (hk.trans e.symm);rw[if_neg this,if_pos hk];rw[if_pos hk]
    ·rw[if_neg hk,if_neg hk]
 ·simp only[fL.app,Kj,vi,mr,List.nil_append];cases h1:e1.mem with
  |none=>rfl
  |some p=>
   cases h2:e2.mem with
   |none=>rfl
   |some q=>
    have:=hm _ _ _ _ h1 h2;simp only
    by_cases hk:p.1=k
    ·have:¬q.1=k:=fun e=>this (hk.trans e.symm);rw[if_neg this,if_pos hk];rw[if_pos hk]
    ·rw[if_neg hk,if_neg hk]
 ·simp only[fL.app,vl,mw,vi,mr,ja,List.nil_append]
theorem FH{F a b}(ki:qH a b=true){K}(hK:ek K){st}(h:kZ F st a.2∧gh E a.1 a.2 st fun s=>kZ F s b.2∧gh E b.1 b.2 s K):kZ F st b.2∧gh E b.1 b.2 st fun s=>kZ F s a.2∧gh E a.1 a.2 s K:=by
 obtain⟨ca,h⟩:=h;obtain⟨e1,h1,cb,h2⟩:=lT.1 h;obtain⟨e2,h3,h4⟩:=lT.1 h2;obtain⟨s1,m1,t1,q1⟩:=yq h1;obtain⟨s2,m2,t2,q2⟩:=yq h3;have key:∀(hw:bR (dP a.2) (l7 b.1++dh b.2)=true) (pM:bR (dP b.2) (l7 a.1++dh a.2)=true),kZ F st b.2∧kZ F (e2.app st) a.2:=fun hw pM=>
  ⟨NW (fun k hk=>sc s1 hw st k (by simp[hk])) cb,NW (fun k hk=>(sc s2 pM st k (by simp[hk])).symm) ca⟩
 simp only[qH,Bool.or_eq_true]at ki;rcases ki with ki|ki
 ·have yZ:=ki;simp only[apart,Bool.and_eq_true]at yZ;obtain⟨⟨⟨_,hw⟩,pM⟩,_⟩:=yZ;obtain⟨k1,_⟩:=key hw pM;have hsw:=Am ki (K:=fun s=>kZ F st b.2→K s) (fun s s1 he hs hc=>hK s s1 he (hs hc)) (AD (fun s hs=>AD (fun _ hk _=>hk) hs.2) h);obtain⟨f2,g1,g2⟩:=lT.1 hsw;refine⟨k1,lT.2 ⟨f2,g1,?_,AD (fun s hs=>hs k1) g2⟩⟩;exact NW (fun k hk=>(sc (yq g1).1 pM st k (by simp[hk])).symm) ca
 ·simp only[Bool.and_eq_true]at ki;obtain⟨⟨⟨hp,hw⟩,pM⟩,sj⟩:=ki;obtain⟨k1,k2⟩:=key hw pM;have Ff:∀d v d' v',e1.slot=some (d,v)→e2.slot=some (d',v')→d≠d':=by intro d v d' v' x y e;rw[x]at s1;rw[y]at s2;simp only[Option.map_some]at s1 s2;rw[←s1,←s2]at sj;subst e;simp[bR]at sj
  obtain⟨ga,oa⟩:=a;obtain⟨gb,ob⟩:=b;cases oa<;>cases ob<;>simp only[DA,Bool.false_eq_true]at hp;case ld.st d ag n x n' a' x'=>
   have vl:e1.tk=none:=by cases hm:e1.tk with|none=>rfl|some p=>(have:=t1 (by simp[hm]);cases this)
   have mw:e2.tk=none:=by cases hm:e2.tk with|none=>rfl|some p=>(have:=t2 (by simp[hm]);cases this)
   have vi:e1.more=([],[]):=by by_cases hm:e1.more=([],[]);exact hm;(have:=q1 hm;cases this)
   have mr:e2.more=([],[]):=by by_cases hm:e2.more=([],[]);exact hm;(have:=q2 hm;cases this)
   have uD:e1.mem=none:=by cases hm:e1.mem with|none=>rfl|some p=>(have:=m1 (by simp[hm]);cases this)
   have qR:ER E gb (.st n' a' x') st e2:=Bi ⟨sc s1 hw st,fun _ s=>by simp only[fL.app,uD,vi,Option.toList_none,List.nil_append],fun ht=>by simp[kindOf]at ht⟩ h3;refine⟨k1,lT.2 ⟨e2,qR,k2,lT.2 ⟨e1,?_,hK _ _ (Nf vl mw vi mr Ff (fun d v d' v' x=>by rw[uD]at x;cases x) st) h4⟩⟩⟩;refine Sp (fun k hk=>(sc s2 pM st k hk).symm) ?_ h1;intro s o he;obtain⟨g,hg,s',off,cs,i1,i2,i3,rfl⟩:=qR;simp only[kZ,he]at ca;simp only[kZ,i1]at k1;simp only[fL.app,Option.toList_some,List.nil_append,List.cons_append,getM];rw[if_neg]
   rintro rfl
   rw[ca]at k1;cases k1
  case st.ld n' a' x' d ag n x=>
   have vl:e1.tk=none:=by cases hm:e1.tk with|none=>rfl|some p=>(have:=t1 (by simp[hm]);cases this)
   have mw:e2.tk=none:=by cases hm:e2.tk with|none=>rfl|some p=>(have:=t2 (by simp[hm]);cases this)
   have vi:e1.more=([],[]):=by by_cases hm:e1.more=([],[]);exact hm;(have:=q1 hm;cases this)
   have mr:e2.more=([],[]):=by by_cases hm:e2.more=([],[]);exact hm;(have:=q2 hm;cases this)
   have A4:e2.mem=none:=by cases hm:e2.mem with|none=>rfl|some p=>(have:=m2 (by simp[hm]);cases this)
   have qR:ER E gb (.ld d ag n x) st e2:=by
    refine Sp (sc s1 hw st) ?_ h3;intro s o he;obtain⟨g,hg,s',off,cs,i1,i2,i3,rfl⟩:=h1;simp only[kZ,he]at cb;simp only[kZ,i1]at ca;simp only[fL.app,Option.toList_some,List.nil_append,List.cons_append,getM];rw[if_neg]
    rintro rfl
    rw[cb]at ca;cases ca
   refine⟨k1,lT.2 ⟨e2,qR,k2,lT.2 ⟨e1,?_,hK _ _ (Nf vl mw vi mr Ff (fun d v d' v' _ x=>by rw[A4]at x;cases x) st) h4⟩⟩⟩;exact Bi ⟨fun k hk=>(sc s2 pM st k hk).symm,fun _ s=>by simp only[fL.app,A4,mr,Option.toList_none,List.nil_append],fun ht=>by simp[kindOf]at ht⟩ h1
  case alloc.ld s0 zs d ag n x=>
   have vl:e1.tk=none:=by cases hm:e1.tk with|none=>rfl|some p=>(have:=t1 (by simp[hm]);cases this)
   have mw:e2.tk=none:=by cases hm:e2.tk with|none=>rfl|some p=>(have:=t2 (by simp[hm]);cases this)
   have vi:e1.more=([],[]):=by by_cases hm:e1.more=([],[]);exact hm;(have:=q1 hm;cases this)
   have mr:e2.more=([],[]):=by by_cases hm:e2.more=([],[]);exact hm;(have:=q2 hm;cases this)
   have A4:e2.mem=none:=by cases hm:e2.mem with|none=>rfl|some p=>(have:=m2 (by simp[hm]);cases this)
   have qR:ER E gb (.ld d ag n x) st e2:=by
    refine Sp (sc s1 hw st) ?_ h3;intro s o he;obtain⟨g,hg,i1,i2,rfl⟩:=h1;simp only[kZ,he]at cb;simp only[kZ]at ca;simp only[fL.app,Option.toList_some,List.nil_append,List.cons_append,getM];rw[if_neg]
    rintro rfl
    rw[cb]at ca;cases ca
   refine⟨k1,lT.2 ⟨e2,qR,k2,lT.2 ⟨e1,?_,hK _ _ (Nf vl mw vi mr Ff (fun d v d' v' _ x=>by rw[A4]at x;cases x) st) h4⟩⟩⟩;exact Bi ⟨fun k hk=>(sc s2 pM st k hk).symm,fun _ s=>by simp only[fL.app,A4,mr,Option.toList_none,List.nil_append],fun ht=>by simp[kindOf]at ht⟩ h1
  case alloc.alloc s0 zs J4 zs'=>
   have vl:e1.tk=none:=by cases hm:e1.tk with|none=>rfl|some p=>(have:=t1 (by simp[hm]);cases this)
   have mw:e2.tk=none:=by cases hm:e2.tk with|none=>rfl|some p=>(have:=t2 (by simp[hm]);cases this)
   have vi:e1.more=([],[]):=by by_cases hm:e1.more=([],[]);exact hm;(have:=q1 hm;cases this)
   have mr:e2.more=([],[]):=by by_cases hm:e2.more=([],[]);exact hm;(have:=q2 hm;cases this)
   obtain⟨g,hg,i1,i2,r1⟩:=h1;obtain⟨g',pI,j1,j2,r2⟩:=h3;have b6:s0≠J4:=by have:=Ff s0 (.ptr s0 0) J4 (.ptr J4 0) (by rw[r1]) (by rw[r2]);exact this
   have j2':getM st.mem J4=none:=by
    rw[r1]at j2;simp only[fL.app,Option.toList_some,List.nil_append,List.cons_append,getM]at j2
    rwa [if_neg b6]at j2
   have qR:ER E gb (.alloc J4 zs') st e2:=⟨g',by rw[←D9 fun k hk=>sc s1 hw st k (by simp[hk])];exact pI,j1,j2',r2⟩;refine⟨k1,lT.2 ⟨e2,qR,k2,lT.2 ⟨e1,⟨g,?_,i1,?_,r1⟩,hK _ _ (Nf vl mw vi mr Ff (fun d v d' v' x y=>?_) st) h4⟩⟩⟩
   ·rw[D9 fun k hk=>sc s2 pM st k (by simp[hk])];exact hg
   ·rw[r2];simp only[fL.app,Option.toList_some,List.nil_append,List.cons_append,getM];rw[if_neg fun e=>b6 e.symm];exact i2
   ·rw[r1]at x;rw[r2]at y;simp only[Option.some.injEq,Prod.mk.injEq]at x y;rw[←x.1,←y.1];exact b6
theorem zVI{F K}(hK:ek K):∀l,ek (eV F E l K)
 |[]=>hK
 |(g,o)::os=>fun s s1 he h=>⟨NW (fun k _=>he.ae k) h.1,SU (zVI hK os) s s1 he h.2⟩
theorem wK{F}{α:Type}{f x post K}(hK:ek K):∀{pre:List α} {st},(∀j∈pre,qH (f j) (f x)=true)→eV F E (pre.map f++f x::post) K st→eV F E (f x::(pre.map f++post)) K st
 |[],_,_,h=>h
 |j::pre,st,hp,h=>by simp only[List.map_cons,List.cons_append,eV]at h⊢;have h':gh E (f j).1 (f j).2 st (eV F E (f x::(pre.map f++post)) K):=AD (fun s hs=>wK hK (fun k hk=>hp k (by simp[hk])) hs) h.2;have:=FH (F:=F) (hp j (by simp)) (zVI hK (pre.map f++post)) ⟨h.1,by simpa only[eV]using h'⟩;simpa only[eV]using this
def yF(l:List (Option (Nat×Bool)×I))(ai:List Nat)(ord:List Nat):Prop:=ord.Pairwise fun i j=>wq l ai i j=true
theorem yzi{l ai}:∀{ord},mz l ai ord=true→yF l ai ord
 |[],_=>List.Pairwise.nil
 |i::r,h=>by simp only[mz,Bool.and_eq_true,List.all_eq_true]at h;exact List.pairwise_cons.2 ⟨h.1,yzi h.2⟩
def Pr(F:List Nat)(E:ax)(l:List (Option (Nat×Bool)×I))(ai:List Nat)(n:Nat)(K:St→Prop)(listed:Array Bool)(st:St):Prop:=
 ∃ord,Left n listed ord∧yF l ai ord∧eV F E (ord.map fun i=>l.getD i default) K st
theorem yKl{F l ai n K}(hK:ek K){ops}(cC:∀k,kW ops k (ai.getD k 0)){listed gO i}(gx:i<n)(jy:listed.getD i false=false)
  (kM:gD ops (fun i=>listed.getD i false) i) (jn:fS ops (fun i=>listed.getD i false)) (gC:∀j,gO.getD j false=(decide (j=i)||listed.getD j false)) (h:Pr F E l ai n K listed st):∃rest K',bS E (l.getD i default::rest) K' st∧∀cH,bS E rest K' cH→Pr F E l ai n K gO cH:=by
 obtain⟨ord,hL,hO,hA⟩:=h;obtain⟨pre,post,rfl⟩:=List.append_of_mem ((hL.1 i).2 ⟨gx,jy⟩);have ov:=List.pairwise_append.1 hO;have sT:∀j∈pre,qH (l.getD j default) (l.getD i default)=true:=by
  intro j hj;have:=ov.2.2 j hj i (by simp);simp only[wq,Bool.or_eq_true]at this;rcases this with h1|h1
  ·have:=cC i _ jn kM j h1;rw[((hL.1 j).1 (by simp[hj])).2]at this;cases this
  ·exact h1
 rw[List.map_append,List.map_cons]at hA;have wO:=wK (x:=i) hK sT hA;refine⟨[],eV F E (pre.map (fun i=>l.getD i default)++post.map fun i=>l.getD i default) K,wO.2,fun cH hs=>⟨pre++post,hL.take gC,?_,by rw[List.map_append];exact hs⟩⟩;exact List.pairwise_append.2 ⟨ov.1,(List.pairwise_cons.1 ov.2.1).2,fun x hx y hy=>ov.2.2 x hx y (by simp[hy])⟩
theorem yVW{F'}(hG:E.G=c.G)(hC:∀f args r,E.C f args r→Ev c.P c.G f args r)(hT:∀t ty,T t=some ty→aK c.P t ty=true){ops:Array Oper}{l}(aa:gT T ops.toList=some l)
  (aT:∀o∈ops.toList,∀d,o.dst=some d→c.D d) (ec:di 0 ops.toList=true) (cT:mz l (aJ ops.toList [] ops.toList) (List.range ops.toList.length)=true) {F} (hF:FW F) (m) (Q) {K} (hK:ek K) (hQ:∀a w,jW c K a w→Q .normal a w)
  (h:aN c st tmps w S ρ) (hA:eV F' E l K st):wpAnyIn F m c.P .any ops Q ops.size (Array.replicate ops.size false) ⟨tmps,c.ds⟩ w:=by
 obtain⟨hlen,_⟩:=vt aa;have cC:=DU (ops:=ops.toList) ops.toList [] (by simp) (fun k=>by intro _ _ _ j hj;simp at hj);have ei:∀i,(Array.replicate ops.size false).getD i false=false:=by intro i;simp only[Array.getD_eq_getD_getElem?,Array.getElem?_replicate];split<;>rfl
 refine Se hG hC hT aa aT ec hF m Q hQ (Pr F' E l (aJ ops.toList [] ops.toList) ops.size K) ?_ ?_ ops.size _ (by simp) ?_ ?_ h ?_
 ·rintro listed st cU hl ⟨ord,hL,_,hA⟩
  rw[Nj hL hl]at hA;exact hA
 ·intro listed st i cU gx jy kM jn gC hA;exact yKl hK cC gx jy kM jn gC hA
 ·refine Nat.le_trans (List.length_filter_le _ _) (by simp)
 ·intro k hk;simp only[ei]at hk;cases hk
 ·refine⟨List.range ops.size,⟨fun j=>?_,List.nodup_range⟩,?_,?_⟩
  ·rw[ei];simp
  ·have:=yzi cT
   rwa [Array.length_toList]at this
  ·have oi:(List.range ops.size).map (fun i=>l.getD i default)=l:=by
     simp only[Array.length_toList]at hlen;apply List.ext_getElem
     ·simp[hlen]
     ·intro i h1 h2;simp[List.getD,List.getElem?_eq_getElem h2]
   rw[oi];exact hA
end Go.Abs
end
section
namespace Go.Abs
open Go.RowKit
variable{c:Ctx}{st:St}{tmps:Array Value}{w:World}{S:Safe}{ρ:bW}{E:ax}{T:Nat→Option Ty}
theorem ywx{Q s}{f:Nat→AC}:∀(is:List Nat) (a),cx E (is.foldl (fun a k=>.alt a (f k)) a) Q s→cx E a Q s∧∀k∈is,cx E (f k) Q s
 |[],a,h=>⟨h,fun k hk=>by cases hk⟩
 |i::is,a,h=>by obtain⟨h1,h2⟩:=ywx is (.alt a (f i)) h;exact⟨h1.1,fun k hk=>(List.mem_cons.1 hk).elim (fun e=>e▸h1.2) (h2 k)⟩
theorem Tu{l ai f gm i Q s}(h:cx E (bo l ai (f+1) gm) Q s)(hi:i∈re ai gm l.length):
  vF E (l.getD i default).1 (l.getD i default).2 s (fun s'=>cx E (bo l ai f (gm|||2^i)) Q s'):=by
 rw[bo]at h;cases hr:re ai gm l.length with
 |nil=>rw[hr]at hi;cases hi
 |cons j js=>
  rw[hr]at h hi;simp only at h;obtain⟨h1,h2⟩:=ywx js _ h;rcases List.mem_cons.1 hi with e|e
  ·subst e;exact h1
  ·exact h2 i e
def Wj(E:ax)(l:List (Option (Nat×Bool)×I))(ai:List Nat)(n k:Nat)(Q':AX→St→Prop)(listed:Array Bool)(st:St):Prop:=
 (∃ord,(∀j,j∈ord↔j<k∧listed.getD j false=false)∧ord.Nodup∧mL l ai ord∧(∀j,k≤j→listed.getD j false=false)∧
  bS E (ord.map fun i=>l.getD i default) (fun s=>∃s0,dz s0 s∧cx E (bo l ai (n-k) (2^k-1)) Q' s0) st)∨
 ∃f gm s0,(∀j,j<n→(listed.getD j false=true↔gm.testBit j=true))∧((List.range n).filter fun i=>!listed.getD i false).length=f∧dz s0 st∧cx E (bo l ai f gm) Q' s0
theorem Tm{ai ops}(cC:∀k,kW ops k (ai.getD k 0)){listed gm n i}(gx:i<n)(hb:∀j,j<n→(listed j=true↔gm.testBit j=true))(rU:∀j,(ai.getD i 0).testBit j=true→j<n)(hi:listed i=false)(jn:fS ops listed)(kM:gD ops listed i):i∈re ai gm n:=by
 simp only[re,List.mem_filter,List.mem_range,Bool.and_eq_true,Bool.not_eq_true',beq_iff_eq];refine⟨gx,?_,?_⟩
 ·cases h:gm.testBit i with
  |false=>rfl
  |true=>rw[(hb i gx).2 h]at hi;cases hi
 ·apply Nat.eq_of_testBit_eq;intro j;rw[Nat.testBit_and];cases h:(ai.getD i 0).testBit j with
  |false=>rfl
  |true=>have:=(hb j (rU j h)).1 (cC i listed jn kM j h);rw[this];rfl
theorem Oh{n i p q}(gx:i<n)(hp:p i=true)(hq:∀j,q j=(p j&&!decide (j=i))):((List.range n).filter p).length=((List.range n).filter q).length+1:=by
 have hf:(List.range n).filter q=((List.range n).filter p).filter fun j=>!decide (j=i):=by rw[List.filter_filter];congr 1;funext j;rw[hq j,Bool.and_comm]
 have oo:i∈(List.range n).filter p:=List.mem_filter.2 ⟨List.mem_range.2 gx,hp⟩;have xL:((List.range n).filter p).Nodup:=List.nodup_range.filter _;rw[hf];generalize (List.range n).filter p=L at oo xL;induction L with
 |nil=>cases oo
 |cons a L ih=>
  obtain⟨h1,h2⟩:=List.nodup_cons.1 xL;by_cases ha:a=i
  ·subst ha;have:L.filter (fun j=>!decide (j=a))=L:=by apply List.filter_eq_self.2;intro b hb;have:b≠a:=fun e=>h1 (e▸hb);simp[this]
   simp[this]
  ·rcases List.mem_cons.1 oo with e|e
   ·exact absurd e.symm ha
   ·have:=ih e h2;simp only[List.length_cons,List.filter_cons,ha,decide_false,Bool.not_false,if_true];omega
theorem Tt{ops}(ec:di 0 ops=true):∀k j,((aJ ops [] ops).getD k 0).testBit j=true→j<ops.length:=by
 intro k j h;have hp:=DU (ops:=ops) ops [] (by simp) (fun k=>by intro _ _ _ j hj;simp at hj) k;have:=hp (fun j=>decide (j<ops.length)) ?_ ?_ j h
 ·simpa using this
 ·intro i hi o ho e he hb;have bf:=Og (i:=i) ec ho e he hb;have:i<ops.length:=(List.getElem?_eq_some_iff.1 ho).1;simp;omega
 ·intro o ho e he hb;have bf:=Og (i:=k) ec ho e he hb;have:k<ops.length:=(List.getElem?_eq_some_iff.1 ho).1;simp;omega
theorem yVS(hG:E.G=c.G)(hC:∀f args r,E.C f args r→Ev c.P c.G f args r)(hT:∀t ty,T t=some ty→aK c.P t ty=true){ops:Array Oper}{l}(aa:gT T ops.toList=some l)
  (aT:∀o∈ops.toList,∀d,o.dst=some d→c.D d) (ec:di 0 ops.toList=true) {k} (hk:k≤ops.size) (nq:ku (l.take k) (aJ ops.toList [] ops.toList) k=true)
  (kA:∀j,k≤j→j<ops.size→((aJ ops.toList [] ops.toList).getD j 0&&&(2^k-1))=2^k-1) {F} (hF:FW F) (m) {Q'} (Q) (hQ:∀a w,jW c (fun s=>∃s0,dz s0 s∧Q' .normal s0) a w→Q .normal a w)
  (h:aN c st tmps w S ρ) (hA:bS E (l.take k) (fun s=>cx E (bo l (aJ ops.toList [] ops.toList) (ops.size-k) (2^k-1)) Q' s) st):wpAnyIn F m c.P .any ops Q ops.size (Array.replicate ops.size false) ⟨tmps,c.ds⟩ w:=by
 obtain⟨hlen,_⟩:=vt aa;simp only[Array.length_toList]at hlen;have cC:=DU (ops:=ops.toList) ops.toList [] (by simp) (fun k=>by intro _ _ _ j hj;simp at hj);have rU:=Tt ec;simp only[Array.length_toList]at rU;generalize Mw:aJ ops.toList [] ops.toList=ai at*
 have ei:∀i,(Array.replicate ops.size false).getD i false=false:=by intro i;simp only[Array.getD_eq_getD_getElem?,Array.getElem?_replicate];split<;>rfl
 have vN:ek (fun s=>∃s0,dz s0 s∧cx E (bo l ai (ops.size-k) (2^k-1)) Q' s0):=by
  rintro s s1 he ⟨s0,ph,hk⟩
  exact⟨s0,⟨fun k=>(ph.ae k).trans (he.ae k),fun k=>(ph.mem k).trans (he.mem k),fun k=>(ph.tk k).trans (he.tk k)⟩,hk⟩
 have om:∀j,(2^k-1).testBit j=decide (j<k):=fun j=>Nat.testBit_two_pow_sub_one k j;have toEnd:∀(listed:Array Bool) (st:St),(∀j,j<k→listed.getD j false=true)→(∀j,k≤j→listed.getD j false=false)→(∃s0,dz s0 st∧cx E (bo l ai (ops.size-k) (2^k-1)) Q' s0)→
   ∃f gm s0,(∀j,j<ops.size→(listed.getD j false=true↔gm.testBit j=true))∧((List.range ops.size).filter fun i=>!listed.getD i false).length=f∧dz s0 st∧cx E (bo l ai f gm) Q' s0:=by
  rintro listed st h1 h2 ⟨s0,he,ha⟩
  refine⟨ops.size-k,2^k-1,s0,fun j hj=>?_,?_,he,ha⟩
  ·rw[om j];by_cases kN:j<k
   ·simp[kN,h1 j kN]
   ·simp[kN,h2 j (by omega)]
  ·have:(List.range ops.size).filter (fun i=>!listed.getD i false)=List.range' k (ops.size-k):=by
     have gy:List.range ops.size=List.range k++List.range' k (ops.size-k):=by rw[List.range_eq_range',List.range_eq_range'];have:=List.range'_append (s:=0) (m:=k) (n:=ops.size-k) (step:=1);simp only[Nat.one_mul,Nat.zero_add]at this;rw[this];congr 1;omega
     rw[gy,List.filter_append];have e1:(List.range k).filter (fun i=>!listed.getD i false)=[]:=by apply List.filter_eq_nil_iff.2;intro j hj;simp[h1 j (List.mem_range.1 hj)]
     have e2:(List.range' k (ops.size-k)).filter (fun i=>!listed.getD i false)=List.range' k (ops.size-k):=by apply List.filter_eq_self.2;intro j hj;simp[h2 j (List.mem_range'_1.1 hj).1]
     rw[e1,e2,List.nil_append]
   rw[this];simp
 refine Nx hG hC hT aa aT ec hF m Q hQ (Wj E l ai ops.size k Q') ?_ ?_ ops.size _ (by simp) ?_ ?_ h ?_
 ·rintro listed st cU hl hh
  have key:∃f gm s0,(∀j,j<ops.size→(listed.getD j false=true↔gm.testBit j=true))∧((List.range ops.size).filter fun i=>!listed.getD i false).length=f∧dz s0 st∧cx E (bo l ai f gm) Q' s0:=by
   rcases hh with⟨ord,h1,_,_,h4,h5⟩|hh
   ·have il:ord=[]:=by
      cases ord with
      |nil=>rfl
      |cons i r=>obtain⟨g1,g2⟩:=(h1 i).1 (by simp);rw[hl i (by omega)]at g2;cases g2
    subst il;refine toEnd listed st (fun j hj=>hl j (by omega)) h4 h5
   ·exact hh
  obtain⟨f,gm,s0,g1,g2,g3,g4⟩:=key;have hf:f=0:=by
   rw[←g2];have:(List.range ops.size).filter (fun i=>!listed.getD i false)=[]:=by apply List.filter_eq_nil_iff.2;intro j hj;simp[hl j (List.mem_range.1 hj)]
   rw[this];rfl
  subst hf;exact⟨s0,g3,g4⟩
 ·intro listed st i cU gx jy kM jn gC hh;have oH:(∃f gm s0,(∀j,j<ops.size→(listed.getD j false=true↔gm.testBit j=true))∧((List.range ops.size).filter fun i=>!listed.getD i false).length=f∧dz s0 st∧cx E (bo l ai f gm) Q' s0)→
    ∃s0 K',dz s0 st∧vF E (l.getD i default).1 (l.getD i default).2 s0 K'∧∀cH,K' cH→Wj E l ai ops.size k Q' (listed.setIfInBounds i true) cH:=by
   rintro⟨f,gm,s0,g1,g2,g3,g4⟩
   have Jk:=Oh (p:=fun j=>!listed.getD j false) (q:=fun j=>!(listed.setIfInBounds i true).getD j false) gx (by simp[jy]) (fun j=>by rw[gC j];cases decide (j=i)<;>simp);obtain⟨f',A3⟩:∃f',f=f'+1:=⟨_,g2.symm.trans Jk⟩;subst A3;have Dk:=Tm cC gx g1 (fun j hj=>rU i j hj) jy jn kM;rw[←hlen]at Dk;refine⟨s0,_,g3,Tu g4 Dk,fun cH hs=>.inr ⟨f',gm|||2^i,cH,fun j hj=>?_,by omega,⟨fun _=>rfl,fun _=>rfl,fun _=>rfl⟩,hs⟩⟩;rw[gC j,Nat.testBit_or,Nat.testBit_two_pow];by_cases zl:j=i
   ·subst zl;simp
   ·have:¬i=j:=fun e=>zl e.symm;simp only[zl,decide_false,Bool.false_or,this,Bool.or_false];exact g1 j hj
  rcases hh with⟨ord,h1,h2,h3,h4,h5⟩|hh
  ·by_cases zj:i<k
   ·obtain⟨pre,post,rfl⟩:=List.append_of_mem ((h1 i).2 ⟨zj,jy⟩);have ov:=List.pairwise_append.1 h3;have sT:=Ku cC jn kM (fun j hj=>ov.2.2 j hj i (by simp)) (fun j hj=>((h1 j).1 (by simp[hj])).2);rw[List.map_append,List.map_cons]at h5;have wO:=pf (x:=i) vN sT h5;refine⟨st,_,⟨fun _=>rfl,fun _=>rfl,fun _=>rfl⟩,G7 wO,fun cH hs=>.inl ⟨pre++post,?_,?_,?_,fun j hj=>?_,by rw[List.map_append];exact hs⟩⟩
    ·intro j;rw[gC j];have h6:j∈pre++i::post↔j=i∨j∈pre++post:=by simp;constructor<;>(intro h;rcases h with h|h|h<;>simp[h])
     have h7:(i::(pre++post)).Nodup:=(List.perm_middle.nodup_iff).1 h2;obtain⟨h8,_⟩:=List.nodup_cons.1 h7;by_cases hj:j=i
     ·subst hj;simp only[decide_true,Bool.true_or,Bool.true_eq_false,and_false,iff_false];exact h8
     ·simp only[hj,decide_false,Bool.false_or];rw[←h1 j,h6];simp[hj]
    ·exact(List.nodup_cons.1 ((List.perm_middle.nodup_iff).1 h2)).2
    ·exact List.pairwise_append.2 ⟨ov.1,(List.pairwise_cons.1 ov.2.1).2,fun x hx y hy=>ov.2.2 x hx y (by simp[hy])⟩
    ·rw[gC j];have:¬j=i:=by omega
     simp[this,h4 j hj]
   ·have cT:∀j,j<k→listed.getD j false=true:=by
      intro j hj;refine cC i (fun i=>listed.getD i false) jn kM j ?_;have:=kA i (by omega) gx;have h9:(ai.getD i 0&&&(2^k-1)).testBit j=true:=by rw[this,om j];simp[hj]
      rw[Nat.testBit_and,Bool.and_eq_true]at h9;exact h9.1
    have il:ord=[]:=by
     cases ord with
     |nil=>rfl
     |cons a r=>obtain⟨g1,g2⟩:=(h1 a).1 (by simp);rw[cT a g1]at g2;cases g2
    subst il;exact oH (toEnd listed st cT h4 h5)
  ·exact oH hh
 ·refine Nat.le_trans (List.length_filter_le _ _) (by simp)
 ·intro k hk;simp only[ei]at hk;cases hk
 ·refine .inl ⟨List.range k,fun j=>by rw[ei];simp,List.nodup_range,?_,fun j _=>ei j,?_⟩
  ·refine List.Pairwise.imp_of_mem (fun{i j} hi hj Qw=>?_) List.pairwise_lt_range;have hi:=List.mem_range.1 hi;have hj:=List.mem_range.1 hj;have xO:(l.take k)[i]? =some l[i]:=by rw[List.getElem?_take_of_lt hi];exact List.getElem?_eq_getElem (by omega)
   have htj:(l.take k)[j]? =some l[j]:=by rw[List.getElem?_take_of_lt hj];exact List.getElem?_eq_getElem (by omega)
   have Cc:=SL nq hj l[j] htj;simp only[qX,Bool.or_eq_true];rcases SM Cc Qw with h1|h1
   ·exact .inl h1
   ·refine .inr ?_;have:=h1 l[i] xO;simpa[List.getD,List.getElem?_eq_getElem (show i<l.length by omega),List.getElem?_eq_getElem (show j<l.length by omega)]using this
  ·have oi:(List.range k).map (fun i=>l.getD i default)=l.take k:=by
     apply List.ext_getElem
     ·simp;omega
     ·intro i h1 h2;have:i<l.length:=by simp at h2;omega
      simp[List.getD,List.getElem?_eq_getElem this]
   rw[oi];exact xW _ (fun s hs=>⟨s,⟨fun _=>rfl,fun _=>rfl,fun _=>rfl⟩,hs⟩) hA
end Go.Abs
end
section
namespace Go.Abs
open Go.RowKit
variable{c:Ctx}{st:St}{tmps:Array Value}{w:World}{S:Safe}{ρ:bW}{E:ax}{T:Nat→Option Ty}
theorem X7{o}(h:kindOf o=.writes∨kindOf o=.all):ll o=true:=by
 cases o<;>first|rfl|(simp only[kindOf,reduceCtorEq,or_self]at h)
theorem X6{o}(h:ll o=true):kindOf o=.writes∨kindOf o=.all:=by
 cases o<;>first|(simp only[ll,Bool.false_eq_true]at h;done)|simp only[kindOf,true_or,or_true]
theorem FY{s s1 b}(h:getM s.mem b=getM s1.mem b)(o n):eO s b o n=eO s1 b o n:=by simp only[eO,h]
theorem Bo{st s}:∀{F},im F st s↔∀p∈F,eO s p.1 p.2.1 p.2.2=eO st p.1 p.2.1 p.2.2
 |[]=>by simp[im]
 |(b,o,n)::r=>by simp only[im,Bo (F:=r),List.forall_mem_cons]
theorem D3{F st s st1 s1}(h1:∀b,getM st.mem b=getM st1.mem b)(h2:∀b,getM s.mem b=getM s1.mem b)(h:im F st s):im F st1 s1:=
 Bo.2 fun p hp=>by rw[←FY (h2 p.1),←FY (h1 p.1)];exact Bo.1 h p hp
theorem G8{g o e}(hm:ll o=false)(h:ER E g o st e)(s):(e.app s).mem=s.mem:=by
 obtain⟨_,m,_,q⟩:=yq h;have h1:e.mem=none:=by
  cases hx:e.mem with
  |none=>rfl
  |some p=>have:=X7 (.inl (m (by simp[hx])));rw[hm]at this;cases this
 have h2:e.more=([],[]):=by
  by_cases hx:e.more=([],[])
  ·exact hx
  ·have:=X7 (.inr (q hx));rw[hm]at this;cases this
 simp only[fL.app,h1,h2,Option.toList_none,List.nil_append]
theorem K0{D F st st1 o}(h:∀k∈dh o,aC st.ae k=aC st1.ae k)(hc:rO D F st o):rO D F st1 o:=by
 cases o<;>simp only[rO]at hc⊢<;>first|trivial|exact hc|skip
 case ld d ag n x=>simp only[dh]at h;rw[←nQ h];exact hc
theorem sD{gi d ag n x st st1 e}(h:∀k∈l7 gi++dh (.ld d ag n x),aC st.ae k=aC st1.ae k)(hm:∀s o,ev st x=.ptr s o→eO st s o n=eO st1 s o n)(he:ER E gi (.ld d ag n x) st e):ER E gi (.ld d ag n x) st1 e:=by
 obtain⟨g,hg,v,ob,gs,h1,h2,h3⟩:=he;have hr:∀k∈x.lB,aC st.ae k=aC st1.ae k:=fun k hk=>h k (List.mem_append_right _ hk);refine⟨g,by rw[←D9 fun k hk=>h k (by simp[hk])];exact hg,v,ob,gs,?_,h2,h3⟩;simp only[eW]at h1⊢;rw[←nQ hr,←py hr];split at h1
 ·rename_i s o hv;simp only[←hm s o hv];exact h1
 ·exact h1
 ·exact h1
 ·cases h1
theorem NF{l k}:∀{M},getM (M++l) k=match getM M k with|some x=>some x|none=>getM l k
 |[]=>rfl
 |(b,v)::M=>by
  simp only[List.cons_append,getM];split
  ·rfl
  ·exact NF
theorem zYn{st st1}(h:∀s,getM st.mem s≠none→getM st1.mem s=getM st.mem s){τ AG}:∀{σ} {m},de st τ AG σ m→de st1 τ AG σ m
 |[],[],_=>trivial
 |(s,s')::σ,(s0,kJ)::m,hm=>by obtain⟨⟨h1,h2,h3⟩,h4⟩:=hm;refine⟨⟨h1,h2,?_⟩,zYn h h4⟩;rw[h s' (by intro e;rw[e]at h3;exact h3)];exact h3
 |[],_::_,hm=>hm.elim
 |_::_,[],hm=>hm.elim
theorem yZP{st st1}(hm:∀s,getM st.mem s≠none→getM st1.mem s=getM st.mem s)(ht:∀t,aE st.tk t=aE st1.tk t){as x}(h:okB st as x):okB st1 as x:=by obtain⟨h1,h2,h3,h4,h5,h6,h7,h8,h9,rR,vH,AZ⟩:=h;exact⟨h1,zYn hm h2,Tn ht h3,h4,h5,h6,h7,h8,h9,TF ht rR,vH,AZ⟩
theorem yvC{gi d f args st st1 e}(hs:∀k∈l7 gi++dh (.callB d f args),aC st.ae k=aC st1.ae k)(hm:∀s,getM st.mem s≠none→getM st1.mem s=getM st.mem s)(ht:∀t,aE st.tk t=aE st1.tk t)(he:ER E gi (.callB d f args) st e):ER E gi (.callB d f args) st1 e:=by
 obtain⟨g,hg,he⟩:=he;have hr:∀k∈dh (.callB d f args),aC st.ae k=aC st1.ae k:=fun k hk=>hs k (by simp[hk]);refine⟨g,by rw[←D9 fun k hk=>hs k (by simp[hk])];exact hg,?_⟩;simp only[dh]at hr;have h1:∀k∈f.lB,aC st.ae k=aC st1.ae k:=fun k hk=>hr k (by simp[hk]);obtain⟨h2,h3⟩:=FV (xs:=args) fun k hk=>hr k (List.mem_append.2 (.inr hk));simp only[←nQ h1,←py h1,←h2,←h3]at*
 obtain⟨f',caps,x,k1,⟨k2,k3,k4,k5,k6⟩,k9⟩:=he;exact⟨f',caps,x,k1,⟨k2,k3,k4,yZP hm ht k5,k6⟩,k9⟩
def rm(D:List Nat)(F:List (Nat×Nat×Nat))(E:ax)(p:Option (Nat×Bool)×I)(st:St)(K:St→Prop):Prop:=rO D F st p.2∧gh E p.1 p.2 st fun s=>(ll p.2=true→im F st s)∧K s
theorem SH{a b}(h:apart a b=true):ll a.2=false∨ll b.2=false:=by
 cases ha:ll a.2 with
 |false=>exact .inl rfl
 |true=>
  cases hb:ll b.2 with
  |false=>exact .inr rfl
  |true=>
   exfalso;simp only[apart,Bool.and_eq_true,Bool.or_eq_true]at h;obtain⟨⟨⟨h,_⟩,_⟩,_⟩:=h;have ka:=X6 ha;have kb:=X6 hb;rcases h with h|h
   ·rcases ka with ka|ka<;>rcases kb with kb|kb<;>rw[ka,kb]at h<;>cases h
   ·obtain⟨ga,oa⟩:=a;cases oa<;>simp only[fP,Bool.false_eq_true]at h<;>simp only[ll,Bool.false_eq_true]at ha
theorem J7{D F a b}(ki:pd D a b=true){K}(hK:ek K){st}(h:rm D F E a st fun s=>rm D F E b s K):rm D F E b st fun s=>rm D F E a s K:=by
 obtain⟨ca,h⟩:=h;obtain⟨e1,h1,MM,cb,h2⟩:=lT.1 h;obtain⟨e2,h3,Rl,hk⟩:=lT.1 h2;obtain⟨s1,m1,t1,q1⟩:=yq h1;obtain⟨s2,m2,t2,q2⟩:=yq h3;simp only[pd,Bool.or_eq_true]at ki;rcases ki with ki|ki
 ·have yZ:=ki;simp only[apart,Bool.and_eq_true]at yZ;obtain⟨⟨⟨_,hw⟩,pM⟩,_⟩:=yZ;have pH:im F st (e2.app (e1.app st)):=by
   cases ha:ll a.2 with
   |true=>have hb:ll b.2=false:=(SH ki).resolve_left (by rw[ha];decide);exact D3 (fun _=>rfl) (fun b=>by rw[G8 hb h3]) (MM ha)
   |false=>
    cases hb:ll b.2 with
    |true=>exact D3 (fun b=>by rw[G8 ha h1]) (fun _=>rfl) (Rl hb)
    |false=>exact Bo.2 fun p _=>FY (by rw[G8 hb h3,G8 ha h1]) _ _
  have BR:ek fun s=>im F st s∧K s:=fun s s1 he hs=>⟨D3 (fun _=>rfl) he.mem hs.1,hK s s1 he hs.2⟩;obtain⟨f2,g1,g2⟩:=lT.1 (Am ki BR (lT.2 ⟨e1,h1,lT.2 ⟨e2,h3,pH,hk⟩⟩));obtain⟨f1,g3,kf,fR⟩:=lT.1 g2;refine⟨K0 (fun k hk=>sc s1 hw st k (by simp[hk])) cb,lT.2 ⟨f2,g1,fun hb=>?_,K0 (fun k hk=>(sc (yq g1).1 pM st k (by simp[hk])).symm) ca,lT.2 ⟨f1,g3,fun ha=>?_,fR⟩⟩⟩
  ·have ha:ll a.2=false:=(SH ki).resolve_right (by rw[hb];decide);exact D3 (fun _=>rfl) (fun b=>by rw[G8 ha g3]) kf
  ·have hb:ll b.2=false:=(SH ki).resolve_left (by rw[ha];decide);exact D3 (fun b=>by rw[G8 hb g1]) (fun _=>rfl) kf
 ·simp only[Bool.and_eq_true]at ki;obtain⟨⟨⟨hp,hw⟩,pM⟩,sj⟩:=ki;have k1:rO D F st b.2:=K0 (fun k hk=>sc s1 hw st k (by simp[hk])) cb;have k2:rO D F (e2.app st) a.2:=K0 (fun k hk=>(sc s2 pM st k (by simp[hk])).symm) ca;have Ff:∀d v d' v',e1.slot=some (d,v)→e2.slot=some (d',v')→d≠d':=by intro d v d' v' x y e;rw[x]at s1;rw[y]at s2;simp only[Option.map_some]at s1 s2;rw[←s1,←s2]at sj;subst e;simp[bR]at sj
  have nr:∀k,aC (e2.app (e1.app st)).ae k=aC (e1.app (e2.app st)).ae k:=by
   intro k;simp only[fL.app,AA];cases x1:e1.slot with
   |none=>rfl
   |some p=>
    cases x2:e2.slot with
    |none=>rfl
    |some q=>
     have:=Ff _ _ _ _ x1 x2;simp only
     by_cases hk:p.1=k
     ·have:¬q.1=k:=fun e=>this (hk.trans e.symm);rw[if_neg this,if_pos hk];rw[if_pos hk]
     ·rw[if_neg hk,if_neg hk]
  obtain⟨ga,oa⟩:=a;obtain⟨gb,ob⟩:=b;cases oa<;>cases ob<;>simp only[DB,Bool.false_eq_true]at hp;case ld.callB d ag n x d' f args=>
   have a1:e1.mem=none:=by cases hm:e1.mem with|none=>rfl|some p=>(have:=m1 (by simp[hm]);cases this)
   have a2:e1.tk=none:=by cases hm:e1.tk with|none=>rfl|some p=>(have:=t1 (by simp[hm]);cases this)
   have a3:e1.more=([],[]):=by by_cases hm:e1.more=([],[]);exact hm;(have:=q1 hm;cases this)
   have b1:e2.mem=none:=by cases hm:e2.mem with|none=>rfl|some p=>(have:=m2 (by simp[hm]);cases this)
   have b2:e2.tk=none:=by cases hm:e2.tk with|none=>rfl|some p=>(have:=t2 (by simp[hm]);cases this)
   have oy:∀s:St,(e1.app s).mem=s.mem:=fun s=>by simp only[fL.app,a1,a3,Option.toList_none,List.nil_append]
   have r7:∀s:St,(e1.app s).tk=s.tk:=fun s=>by simp only[fL.app,a2,a3,ja,List.nil_append]
   have lk:∀s:St,(e2.app s).mem=e2.more.1++s.mem:=fun s=>by simp only[fL.app,b1,Option.toList_none,List.nil_append]
   have Bf:∀s:St,(e2.app s).tk=e2.more.2++s.tk:=fun s=>by simp only[fL.app,b2,ja]
   have qR:ER E gb (.callB d' f args) st e2:=Bi ⟨sc s1 hw st,fun _ s=>by rw[oy],fun _ t=>by rw[r7]⟩ h3;have kp:im F st (e2.app st):=D3 (fun b=>by rw[oy]) (fun b=>by rw[lk,lk,oy]) (Rl rfl);refine⟨k1,lT.2 ⟨e2,qR,fun _=>kp,k2,lT.2 ⟨e1,?_,(fun h=>by cases h),hK _ _ ⟨nr,fun k=>by rw[oy,lk,lk,oy],fun k=>by rw[r7,Bf,Bf,r7]⟩ hk⟩⟩⟩;refine sD (fun k hk=>(sc s2 pM st k hk).symm) ?_ h1;intro s o he;have:=ca hp;simp only[he,List.contains_iff_mem]at this;exact(Bo.1 kp _ this).symm
  case callB.ld d' f args d ag n x=>
   have a1:e2.mem=none:=by cases hm:e2.mem with|none=>rfl|some p=>(have:=m2 (by simp[hm]);cases this)
   have a2:e2.tk=none:=by cases hm:e2.tk with|none=>rfl|some p=>(have:=t2 (by simp[hm]);cases this)
   have a3:e2.more=([],[]):=by by_cases hm:e2.more=([],[]);exact hm;(have:=q2 hm;cases this)
   have b1:e1.mem=none:=by cases hm:e1.mem with|none=>rfl|some p=>(have:=m1 (by simp[hm]);cases this)
   have b2:e1.tk=none:=by cases hm:e1.tk with|none=>rfl|some p=>(have:=t1 (by simp[hm]);cases this)
   have lk:∀s:St,(e2.app s).mem=s.mem:=fun s=>by simp only[fL.app,a1,a3,Option.toList_none,List.nil_append]
   have Bf:∀s:St,(e2.app s).tk=s.tk:=fun s=>by simp only[fL.app,a2,a3,ja,List.nil_append]
   have oy:∀s:St,(e1.app s).mem=e1.more.1++s.mem:=fun s=>by simp only[fL.app,b1,Option.toList_none,List.nil_append]
   have r7:∀s:St,(e1.app s).tk=e1.more.2++s.tk:=fun s=>by simp only[fL.app,b2,ja]
   have qR:ER E gb (.ld d ag n x) st e2:=by refine sD (sc s1 hw st) ?_ h3;intro s o he;have:=cb hp;simp only[he,List.contains_iff_mem]at this;exact Bo.1 (MM rfl) _ this
   refine⟨k1,lT.2 ⟨e2,qR,(fun h=>by cases h),k2,lT.2 ⟨e1,Bi ⟨fun k hk=>(sc s2 pM st k hk).symm,fun _ s=>by rw[lk],fun _ t=>by rw[Bf]⟩ h1,fun _=>D3 (fun b=>by rw[lk]) (fun b=>by rw[oy,oy,lk]) (MM rfl),hK _ _ ⟨nr,fun k=>by rw[lk,oy,oy,lk],fun k=>by rw[Bf,r7,r7,Bf]⟩ hk⟩⟩⟩
  case callB.alloc d' f args s0 zs=>
   have a2:e2.tk=none:=by cases hm:e2.tk with|none=>rfl|some p=>(have:=t2 (by simp[hm]);cases this)
   have a3:e2.more=([],[]):=by by_cases hm:e2.more=([],[]);exact hm;(have:=q2 hm;cases this)
   have b1:e1.mem=none:=by cases hm:e1.mem with|none=>rfl|some p=>(have:=m1 (by simp[hm]);cases this)
   have b2:e1.tk=none:=by cases hm:e1.tk with|none=>rfl|some p=>(have:=t1 (by simp[hm]);cases this)
   obtain⟨g',pI,j1,j2,r2⟩:=h3;have lk:∀s:St,(e2.app s).mem=(s0,zs)::s.mem:=fun s=>by rw[r2];rfl
   have Bf:∀s:St,(e2.app s).tk=s.tk:=fun s=>by simp only[fL.app,a2,a3,ja,List.nil_append]
   have oy:∀s:St,(e1.app s).mem=e1.more.1++s.mem:=fun s=>by simp only[fL.app,b1,Option.toList_none,List.nil_append]
   have r7:∀s:St,(e1.app s).tk=e1.more.2++s.tk:=fun s=>by simp only[fL.app,b2,ja]
   rw[oy,NF]at j2;obtain⟨n1,n2⟩:getM e1.more.1 s0=none∧getM st.mem s0=none:=by
    cases hm:getM e1.more.1 s0 with
    |some x=>rw[hm]at j2;cases j2
    |none=>rw[hm]at j2;exact⟨rfl,j2⟩
   have A5:∀k,getM (e2.app (e1.app st)).mem k=getM (e1.app (e2.app st)).mem k:=by
    intro k;rw[lk,oy,oy,lk,NF];simp only[getM];by_cases hk:s0=k
    ·subst hk;rw[if_pos rfl,n1];simp
    ·rw[if_neg hk,if_neg hk,NF]
   have qR:ER E gb (.alloc s0 zs) st e2:=⟨g',by rw[←D9 fun k hk=>sc s1 hw st k (by simp[hk])];exact pI,j1,n2,r2⟩;have nJ:ER E ga (.callB d' f args) (e2.app st) e1:=yvC (fun k hk=>(sc s2 pM st k hk).symm) (fun s hs=>by rw[lk];simp only[getM];rw[if_neg];rintro rfl;exact hs n2) (fun t=>by rw[Bf]) h1;have fX:∀p:Nat×Nat×Nat,p.1≠s0→∀s:St,eO (e2.app s) p.1 p.2.1 p.2.2=eO s p.1 p.2.1 p.2.2:=fun p hp s=>FY (by rw[lk];simp only[getM];rw[if_neg fun e=>hp e.symm]) _ _;have h5:=Bo.1 (MM rfl);have h6:=Bo.1 (Rl rfl);refine⟨k1,lT.2 ⟨e2,qR,(fun _=>Bo.2 fun p hp=>?_),k2,lT.2 ⟨e1,nJ,(fun _=>Bo.2 fun p hp=>?_),hK _ _ ⟨nr,A5,fun k=>by rw[Bf,r7,r7,Bf]⟩ hk⟩⟩⟩
   ·by_cases xM:p.1=s0
    ·have e0:=h6 p hp;rw[FY (s:=e2.app st) (s1:=e2.app (e1.app st)) (by rw[lk,lk,xM];simp only[getM,if_true]),e0];exact h5 p hp
    ·exact fX p xM st
   ·rw[←FY (A5 p.1)];by_cases xM:p.1=s0
    ·exact FY (by rw[lk,lk,xM];simp only[getM,if_true]) _ _
    ·rw[fX p xM,fX p xM];exact h5 p hp
theorem zVJ{D F K}(hK:ek K):∀l,ek (dA D F E l K)
 |[]=>hK
 |(g,o)::os=>fun s s1 he h=>by obtain⟨hc,h⟩:=h;obtain⟨e,h1,h2,h3⟩:=lT.1 h;exact⟨K0 (fun k _=>he.ae k) hc,lT.2 ⟨e,Bi (he.agree g o) h1,fun hm=>D3 he.mem (he.app e).mem (h2 hm),zVJ hK os _ _ (he.app e) h3⟩⟩
theorem n5{D F}{α:Type}{f x post K}(hK:ek K):∀{pre:List α} {st},(∀j∈pre,pd D (f j) (f x)=true)→dA D F E (pre.map f++f x::post) K st→rm D F E (f x) st (dA D F E (pre.map f++post) K)
 |[],_,_,h=>h
 |j::pre,st,hp,h=>by simp only[List.map_cons,List.cons_append]at h⊢;have h':rm D F E (f j) st fun s=>rm D F E (f x) s (dA D F E (pre.map f++post) K):=⟨h.1,AD (fun s hs=>⟨hs.1,n5 hK (fun k hk=>hp k (by simp[hk])) hs.2⟩) h.2⟩;exact J7 (F:=F) (hp j (by simp)) (zVJ hK (pre.map f++post)) h'
def pa(D:List Nat)(l:List (Option (Nat×Bool)×I))(ai:List Nat)(ord:List Nat):Prop:=ord.Pairwise fun i j=>tt D l ai i j=true
theorem Ts{D l ai}:∀{ord},j9 D l ai ord=true→pa D l ai ord
 |[],_=>List.Pairwise.nil
 |i::r,h=>by simp only[j9,Bool.and_eq_true,List.all_eq_true]at h;exact List.pairwise_cons.2 ⟨h.1,Ts h.2⟩
def Wk(D:List Nat)(F0:List (Nat×Nat×Nat))(E:ax)(l:List (Option (Nat×Bool)×I))(ai:List Nat)(n k:Nat)(Q':AX→St→Prop)(listed:Array Bool)(st:St):Prop:=
 (∃ord,(∀j,j∈ord↔j<k∧listed.getD j false=false)∧ord.Nodup∧pa D l ai ord∧(∀j,k≤j→listed.getD j false=false)∧
  dA D F0 E (ord.map fun i=>l.getD i default) (fun s=>∃s0,dz s0 s∧cx E (bo l ai (n-k) (2^k-1)) Q' s0) st)∨
 ∃f gm s0,(∀j,j<n→(listed.getD j false=true↔gm.testBit j=true))∧((List.range n).filter fun i=>!listed.getD i false).length=f∧dz s0 st∧cx E (bo l ai f gm) Q' s0
theorem yVT{D F0}(hG:E.G=c.G)(hC:∀f args r,E.C f args r→Ev c.P c.G f args r)(hT:∀t ty,T t=some ty→aK c.P t ty=true){ops:Array Oper}{l}(aa:gT T ops.toList=some l)
  (aT:∀o∈ops.toList,∀d,o.dst=some d→c.D d) (ec:di 0 ops.toList=true) {k} (hk:k≤ops.size) (nq:j9 D l (aJ ops.toList [] ops.toList) (List.range k)=true)
  (kA:∀j,k≤j→j<ops.size→((aJ ops.toList [] ops.toList).getD j 0&&&(2^k-1))=2^k-1) {F} (hF:FW F) (m) {Q'} (Q) (hQ:∀a w,jW c (fun s=>∃s0,dz s0 s∧Q' .normal s0) a w→Q .normal a w)
  (h:aN c st tmps w S ρ) (hA:dA D F0 E (l.take k) (fun s=>cx E (bo l (aJ ops.toList [] ops.toList) (ops.size-k) (2^k-1)) Q' s) st):wpAnyIn F m c.P .any ops Q ops.size (Array.replicate ops.size false) ⟨tmps,c.ds⟩ w:=by
 obtain⟨hlen,_⟩:=vt aa;simp only[Array.length_toList]at hlen;have cC:=DU (ops:=ops.toList) ops.toList [] (by simp) (fun k=>by intro _ _ _ j hj;simp at hj);have rU:=Tt ec;simp only[Array.length_toList]at rU;generalize Mw:aJ ops.toList [] ops.toList=ai at*
 have ei:∀i,(Array.replicate ops.size false).getD i false=false:=by intro i;simp only[Array.getD_eq_getD_getElem?,Array.getElem?_replicate];split<;>rfl
 have vN:ek (fun s=>∃s0,dz s0 s∧cx E (bo l ai (ops.size-k) (2^k-1)) Q' s0):=by
  rintro s s1 he ⟨s0,ph,hk⟩
  exact⟨s0,⟨fun k=>(ph.ae k).trans (he.ae k),fun k=>(ph.mem k).trans (he.mem k),fun k=>(ph.tk k).trans (he.tk k)⟩,hk⟩
 have om:∀j,(2^k-1).testBit j=decide (j<k):=fun j=>Nat.testBit_two_pow_sub_one k j;have toEnd:∀(listed:Array Bool) (st:St),(∀j,j<k→listed.getD j false=true)→(∀j,k≤j→listed.getD j false=false)→(∃s0,dz s0 st∧cx E (bo l ai (ops.size-k) (2^k-1)) Q' s0)→
   ∃f gm s0,(∀j,j<ops.size→(listed.getD j false=true↔gm.testBit j=true))∧((List.range ops.size).filter fun i=>!listed.getD i false).length=f∧dz s0 st∧cx E (bo l ai f gm) Q' s0:=by
  rintro listed st h1 h2 ⟨s0,he,ha⟩
  refine⟨ops.size-k,2^k-1,s0,fun j hj=>?_,?_,he,ha⟩
  ·rw[om j];by_cases kN:j<k
   ·simp[kN,h1 j kN]
   ·simp[kN,h2 j (by omega)]
  ·have:(List.range ops.size).filter (fun i=>!listed.getD i false)=List.range' k (ops.size-k):=by
     have gy:List.range ops.size=List.range k++List.range' k (ops.size-k):=by rw[List.range_eq_range',List.range_eq_range'];have:=List.range'_append (s:=0) (m:=k) (n:=ops.size-k) (step:=1);simp only[Nat.one_mul,Nat.zero_add]at this;rw[this];congr 1;omega
     rw[gy,List.filter_append];have e1:(List.range k).filter (fun i=>!listed.getD i false)=[]:=by apply List.filter_eq_nil_iff.2;intro j hj;simp[h1 j (List.mem_range.1 hj)]
     have e2:(List.range' k (ops.size-k)).filter (fun i=>!listed.getD i false)=List.range' k (ops.size-k):=by apply List.filter_eq_self.2;intro j hj;simp[h2 j (List.mem_range'_1.1 hj).1]
     rw[e1,e2,List.nil_append]
   rw[this];simp
 refine Nx hG hC hT aa aT ec hF m Q hQ (Wk D F0 E l ai ops.size k Q') ?_ ?_ ops.size _ (by simp) ?_ ?_ h ?_
 ·rintro listed st cU hl hh
  have key:∃f gm s0,(∀j,j<ops.size→(listed.getD j false=true↔gm.testBit j=true))∧((List.range ops.size).filter fun i=>!listed.getD i false).length=f∧dz s0 st∧cx E (bo l ai f gm) Q' s0:=by
   rcases hh with⟨ord,h1,_,_,h4,h5⟩|hh
   ·have il:ord=[]:=by
      cases ord with
      |nil=>rfl
      |cons i r=>obtain⟨g1,g2⟩:=(h1 i).1 (by simp);rw[hl i (by omega)]at g2;cases g2
    subst il;refine toEnd listed st (fun j hj=>hl j (by omega)) h4 h5
   ·exact hh
  obtain⟨f,gm,s0,g1,g2,g3,g4⟩:=key;have hf:f=0:=by
   rw[←g2];have:(List.range ops.size).filter (fun i=>!listed.getD i false)=[]:=by apply List.filter_eq_nil_iff.2;intro j hj;simp[hl j (List.mem_range.1 hj)]
   rw[this];rfl
  subst hf;exact⟨s0,g3,g4⟩
 ·intro listed st i cU gx jy kM jn gC hh;have oH:(∃f gm s0,(∀j,j<ops.size→(listed.getD j false=true↔gm.testBit j=true))∧((List.range ops.size).filter fun i=>!listed.getD i false).length=f∧dz s0 st∧cx E (bo l ai f gm) Q' s0)→
    ∃s0 K',dz s0 st∧vF E (l.getD i default).1 (l.getD i default).2 s0 K'∧∀cH,K' cH→Wk D F0 E l ai ops.size k Q' (listed.setIfInBounds i true) cH:=by
   rintro⟨f,gm,s0,g1,g2,g3,g4⟩
   have Jk:=Oh (p:=fun j=>!listed.getD j false) (q:=fun j=>!(listed.setIfInBounds i true).getD j false) gx (by simp[jy]) (fun j=>by rw[gC j];cases decide (j=i)<;>simp);obtain⟨f',A3⟩:∃f',f=f'+1:=⟨_,g2.symm.trans Jk⟩;subst A3;have Dk:=Tm cC gx g1 (fun j hj=>rU i j hj) jy jn kM;rw[←hlen]at Dk;refine⟨s0,_,g3,Tu g4 Dk,fun cH hs=>.inr ⟨f',gm|||2^i,cH,fun j hj=>?_,by omega,⟨fun _=>rfl,fun _=>rfl,fun _=>rfl⟩,hs⟩⟩;rw[gC j,Nat.testBit_or,Nat.testBit_two_pow];by_cases zl:j=i
   ·subst zl;simp
   ·have:¬i=j:=fun e=>zl e.symm;simp only[zl,decide_false,Bool.false_or,this,Bool.or_false];exact g1 j hj
  rcases hh with⟨ord,h1,h2,h3,h4,h5⟩|hh
  ·by_cases zj:i<k
   ·obtain⟨pre,post,rfl⟩:=List.append_of_mem ((h1 i).2 ⟨zj,jy⟩);have ov:=List.pairwise_append.1 h3;have sT:∀j∈pre,pd D (l.getD j default) (l.getD i default)=true:=by
     intro j hj;have:=ov.2.2 j hj i (by simp);simp only[tt,Bool.or_eq_true]at this;rcases this with nJ|nJ
     ·have:=cC i _ jn kM j nJ;rw[((h1 j).1 (by simp[hj])).2]at this;cases this
     ·exact nJ
    rw[List.map_append,List.map_cons]at h5;have wO:=n5 (x:=i) vN sT h5;refine⟨st,_,⟨fun _=>rfl,fun _=>rfl,fun _=>rfl⟩,G7 wO.2,fun cH hs=>.inl ⟨pre++post,?_,?_,?_,fun j hj=>?_,by rw[List.map_append];exact hs.2⟩⟩
    ·intro j;rw[gC j];have h6:j∈pre++i::post↔j=i∨j∈pre++post:=by simp;constructor<;>(intro h;rcases h with h|h|h<;>simp[h])
     have h7:(i::(pre++post)).Nodup:=(List.perm_middle.nodup_iff).1 h2;obtain⟨h8,_⟩:=List.nodup_cons.1 h7;by_cases hj:j=i
     ·subst hj;simp only[decide_true,Bool.true_or,Bool.true_eq_false,and_false,iff_false];exact h8
     ·simp only[hj,decide_false,Bool.false_or];rw[←h1 j,h6];simp[hj]
    ·exact(List.nodup_cons.1 ((List.perm_middle.nodup_iff).1 h2)).2
    ·exact List.pairwise_append.2 ⟨ov.1,(List.pairwise_cons.1 ov.2.1).2,fun x hx y hy=>ov.2.2 x hx y (by simp[hy])⟩
    ·rw[gC j];have:¬j=i:=by omega
     simp[this,h4 j hj]
   ·have cT:∀j,j<k→listed.getD j false=true:=by
      intro j hj;refine cC i (fun i=>listed.getD i false) jn kM j ?_;have:=kA i (by omega) gx;have h9:(ai.getD i 0&&&(2^k-1)).testBit j=true:=by rw[this,om j];simp[hj]
      rw[Nat.testBit_and,Bool.and_eq_true]at h9;exact h9.1
    have il:ord=[]:=by
     cases ord with
     |nil=>rfl
     |cons a r=>obtain⟨g1,g2⟩:=(h1 a).1 (by simp);rw[cT a g1]at g2;cases g2
    subst il;exact oH (toEnd listed st cT h4 h5)
  ·exact oH hh
 ·refine Nat.le_trans (List.length_filter_le _ _) (by simp)
 ·intro k hk;simp only[ei]at hk;cases hk
 ·refine .inl ⟨List.range k,fun j=>by rw[ei];simp,List.nodup_range,?_,fun j _=>ei j,?_⟩
  ·exact Ts nq
  ·have oi:(List.range k).map (fun i=>l.getD i default)=l.take k:=by
     apply List.ext_getElem
     ·simp;omega
     ·intro i h1 h2;have:i<l.length:=by simp at h2;omega
      simp[List.getD,List.getElem?_eq_getElem this]
   rw[oi];exact KL _ (fun s hs=>⟨s,⟨fun _=>rfl,fun _=>rfl,fun _=>rfl⟩,hs⟩) hA
theorem zWU{D F K l2}:∀(l1) {st},dA D F E (l1++l2) K st=dA D F E l1 (dA D F E l2 K) st
 |[],_=>rfl
 |(g,o)::l1,st=>by simp only[List.cons_append,dA];congr 1;congr 1;funext s;rw[zWU l1]
def Wl(D:List Nat)(F0:List (Nat×Nat×Nat))(E:ax)(l:List (Option (Nat×Bool)×I))(ai:List Nat)(n k c:Nat)(Q':AX→St→Prop)(listed:Array Bool)(st:St):Prop:=
 (listed.getD c false=false∧∃ord,(∀j,j∈ord↔j<k∧listed.getD j false=false)∧ord.Nodup∧pa D l ai (ord++[c])∧(∀j,k≤j→listed.getD j false=false)∧
  dA D F0 E (ord.map fun i=>l.getD i default) (fun s=>(∃s0,dz s0 s∧cx E (bo l ai (n-k) (2^k-1)) Q' s0)∧gh E (l.getD c default).1 (l.getD c default).2 s fun s'=>∃s0,dz s0 s'∧cx E (bo l ai (n-k-1) ((2^k-1)|||2^c)) Q' s0) st)∨
 (listed.getD c false=true∧∃ord,(∀j,j∈ord↔j<k∧listed.getD j false=false)∧ord.Nodup∧pa D l ai ord∧(∀j,k≤j→j≠c→listed.getD j false=false)∧
  dA D F0 E (ord.map fun i=>l.getD i default) (fun s=>∃s0,dz s0 s∧cx E (bo l ai (n-k-1) ((2^k-1)|||2^c)) Q' s0) st)∨
 ∃f gm s0,(∀j,j<n→(listed.getD j false=true↔gm.testBit j=true))∧((List.range n).filter fun i=>!listed.getD i false).length=f∧dz s0 st∧cx E (bo l ai f gm) Q' s0
theorem left_step{k i}{listed:Array Bool}{pre post}(gC:∀j,(listed.setIfInBounds i true).getD j false=(decide (j=i)||listed.getD j false))(h1:∀j,j∈pre++i::post↔j<k∧listed.getD j false=false)(h2:(pre++i::post).Nodup):(∀j,j∈pre++post↔j<k∧(listed.setIfInBounds i true).getD j false=false)∧(pre++post).Nodup:=by
 have h7:(i::(pre++post)).Nodup:=(List.perm_middle.nodup_iff).1 h2;refine⟨fun j=>?_,(List.nodup_cons.1 h7).2⟩;rw[gC j];have h6:j∈pre++i::post↔j=i∨j∈pre++post:=by simp;constructor<;>(intro h;rcases h with h|h|h<;>simp[h])
 obtain⟨h8,_⟩:=List.nodup_cons.1 h7;by_cases hj:j=i
 ·subst hj;simp only[decide_true,Bool.true_or,Bool.true_eq_false,and_false,iff_false];exact h8
 ·simp only[hj,decide_false,Bool.false_or];rw[←h1 j,h6];simp[hj]
theorem yVU{D F0}(hG:E.G=c.G)(hC:∀f args r,E.C f args r→Ev c.P c.G f args r)(hT:∀t ty,T t=some ty→aK c.P t ty=true){ops:Array Oper}{l}(aa:gT T ops.toList=some l)
  (aT:∀o∈ops.toList,∀d,o.dst=some d→c.D d) {k cc} (kj:JL D ops.toList l (aJ ops.toList [] ops.toList) k cc=true) {F} (hF:FW F) (m) {Q'} (Q) (hQ:∀a w,jW c (fun s=>∃s0,dz s0 s∧Q' .normal s0) a w→Q .normal a w)
  (h:aN c st tmps w S ρ) (hA:dA D F0 E (l.take k) (fun s=>cx E (bo l (aJ ops.toList [] ops.toList) (ops.size-k) (2^k-1)) Q' s∧gh E (l.getD cc default).1 (l.getD cc default).2 s fun s'=>cx E (bo l (aJ ops.toList [] ops.toList) (ops.size-k-1) ((2^k-1)|||2^cc)) Q' s') st):wpAnyIn F m c.P .any ops Q ops.size (Array.replicate ops.size false) ⟨tmps,c.ds⟩ w:=by
 obtain⟨hlen,_⟩:=vt aa;simp only[Array.length_toList]at hlen;have cC:=DU (ops:=ops.toList) ops.toList [] (by simp) (fun k=>by intro _ _ _ j hj;simp at hj);simp only[JL,Bool.and_eq_true,decide_eq_true_eq,List.all_eq_true,List.mem_filter,List.mem_range,beq_iff_eq,and_imp,bne_iff_ne,ne_eq]at kj;obtain⟨⟨⟨⟨⟨⟨ec,hk⟩,Qx⟩,xI⟩,Jj⟩,BV⟩,kA⟩:=kj;rw[hlen]at hk xI;have kA:∀j,k≤j→j<ops.size→j≠cc→((aJ ops.toList [] ops.toList).getD j 0&&&(2^k-1))=2^k-1:=fun j h1 h2 h3=>kA j (by omega) h1 h3;have rU:=Tt ec;simp only[Array.length_toList]at rU;generalize Mw:aJ ops.toList [] ops.toList=ai at*
 have I9:ll (l.getD cc default).2=false:=by generalize (l.getD cc default).2=o at BV;cases o<;>first|rfl|(simp at BV)
 have rS:∀s,rO D F0 s (l.getD cc default).2:=by intro s;generalize (l.getD cc default).2=o at BV;cases o<;>first|trivial|(simp at BV)
 have ei:∀i,(Array.replicate ops.size false).getD i false=false:=by intro i;simp only[Array.getD_eq_getD_getElem?,Array.getElem?_replicate];split<;>rfl
 have uw:∀f gm,ek (fun s=>∃s0,dz s0 s∧cx E (bo l ai f gm) Q' s0):=by
  rintro f gm s s1 he ⟨s0,ph,hk⟩
  exact⟨s0,⟨fun k=>(ph.ae k).trans (he.ae k),fun k=>(ph.mem k).trans (he.mem k),fun k=>(ph.tk k).trans (he.tk k)⟩,hk⟩
 have Qc:ek (fun s=>(∃s0,dz s0 s∧cx E (bo l ai (ops.size-k) (2^k-1)) Q' s0)∧gh E (l.getD cc default).1 (l.getD cc default).2 s fun s'=>∃s0,dz s0 s'∧cx E (bo l ai (ops.size-k-1) ((2^k-1)|||2^cc)) Q' s0):=
  ZW (uw _ _) (SU (uw _ _))
 have om:∀j,(2^k-1).testBit j=decide (j<k):=fun j=>Nat.testBit_two_pow_sub_one k j;have E6:∀j,((2^k-1)|||2^cc).testBit j=(decide (j<k)||decide (j=cc)):=fun j=>by
  rw[Nat.testBit_or,om,Nat.testBit_two_pow];congr 1;by_cases h:j=cc
  ·subst h;simp
  ·have:¬cc=j:=fun e=>h e.symm;simp[h,this]
 have EU:((List.range ops.size).filter fun i=>!decide (i<k)).length=ops.size-k:=by
  have:(List.range ops.size).filter (fun i=>!decide (i<k))=List.range' k (ops.size-k):=by
   have gy:List.range ops.size=List.range k++List.range' k (ops.size-k):=by rw[List.range_eq_range',List.range_eq_range'];have:=List.range'_append (s:=0) (m:=k) (n:=ops.size-k) (step:=1);simp only[Nat.one_mul,Nat.zero_add]at this;rw[this];congr 1;omega
   rw[gy,List.filter_append];have e1:(List.range k).filter (fun i=>!decide (i<k))=[]:=by apply List.filter_eq_nil_iff.2;intro j hj;simp[List.mem_range.1 hj]
   have e2:(List.range' k (ops.size-k)).filter (fun i=>!decide (i<k))=List.range' k (ops.size-k):=by apply List.filter_eq_self.2;intro j hj;have:=(List.mem_range'_1.1 hj).1;simp;omega
   rw[e1,e2,List.nil_append]
  rw[this];simp
 have toEnd:∀(listed:Array Bool) (st:St),(∀j,j<k→listed.getD j false=true)→(∀j,k≤j→listed.getD j false=false)→(∃s0,dz s0 st∧cx E (bo l ai (ops.size-k) (2^k-1)) Q' s0)→
   ∃f gm s0,(∀j,j<ops.size→(listed.getD j false=true↔gm.testBit j=true))∧((List.range ops.size).filter fun i=>!listed.getD i false).length=f∧dz s0 st∧cx E (bo l ai f gm) Q' s0:=by
  rintro listed st h1 h2 ⟨s0,he,ha⟩
  refine⟨ops.size-k,2^k-1,s0,fun j hj=>?_,?_,he,ha⟩
  ·rw[om j];by_cases kN:j<k
   ·simp[kN,h1 j kN]
   ·simp[kN,h2 j (by omega)]
  ·rw[←EU];congr 1;apply List.filter_congr;intro j _;by_cases kN:j<k
   ·simp[kN,h1 j kN]
   ·simp[kN,h2 j (by omega)]
 have Ar:∀(listed:Array Bool) (st:St),(∀j,j<k→listed.getD j false=true)→(∀j,k≤j→j≠cc→listed.getD j false=false)→listed.getD cc false=true→(∃s0,dz s0 st∧cx E (bo l ai (ops.size-k-1) ((2^k-1)|||2^cc)) Q' s0)→
   ∃f gm s0,(∀j,j<ops.size→(listed.getD j false=true↔gm.testBit j=true))∧((List.range ops.size).filter fun i=>!listed.getD i false).length=f∧dz s0 st∧cx E (bo l ai f gm) Q' s0:=by
  rintro listed st h1 h2 h3 ⟨s0,he,ha⟩
  refine⟨ops.size-k-1,(2^k-1)|||2^cc,s0,fun j hj=>?_,?_,he,ha⟩
  ·rw[E6 j];by_cases zk:j=cc
   ·subst zk;simp[h3]
   by_cases kN:j<k
   ·simp[kN,h1 j kN]
   ·simp[kN,zk,h2 j (by omega) zk]
  ·have:=Oh (n:=ops.size) (i:=cc) (p:=fun i=>!decide (i<k)) (q:=fun i=>!listed.getD i false) xI (by simp;omega) (fun j=>by
     by_cases zk:j=cc
     ·subst zk;simp[h3]
     by_cases kN:j<k
     ·simp[kN,h1 j kN]
     ·simp[kN,zk,h2 j (by omega) zk])
   omega
 refine Nx hG hC hT aa aT ec hF m Q hQ (Wl D F0 E l ai ops.size k cc Q') ?_ ?_ ops.size _ (by simp) ?_ ?_ h ?_
 ·rintro listed st cU hl hh
  have key:∃f gm s0,(∀j,j<ops.size→(listed.getD j false=true↔gm.testBit j=true))∧((List.range ops.size).filter fun i=>!listed.getD i false).length=f∧dz s0 st∧cx E (bo l ai f gm) Q' s0:=by
   rcases hh with⟨h0,_⟩|⟨h0,ord,h1,_,_,h4,h5⟩|hh
   ·rw[hl cc xI]at h0;cases h0
   ·have il:ord=[]:=by
      cases ord with
      |nil=>rfl
      |cons i r=>obtain⟨g1,g2⟩:=(h1 i).1 (by simp);rw[hl i (by omega)]at g2;cases g2
    subst il;exact Ar listed st (fun j hj=>hl j (by omega)) h4 h0 h5
   ·exact hh
  obtain⟨f,gm,s0,g1,g2,g3,g4⟩:=key;have hf:f=0:=by
   rw[←g2];have:(List.range ops.size).filter (fun i=>!listed.getD i false)=[]:=by apply List.filter_eq_nil_iff.2;intro j hj;simp[hl j (List.mem_range.1 hj)]
   rw[this];rfl
  subst hf;exact⟨s0,g3,g4⟩
 ·intro listed st i cU gx jy kM jn gC hh;have oH:(∃f gm s0,(∀j,j<ops.size→(listed.getD j false=true↔gm.testBit j=true))∧((List.range ops.size).filter fun i=>!listed.getD i false).length=f∧dz s0 st∧cx E (bo l ai f gm) Q' s0)→
    ∃s0 K',dz s0 st∧vF E (l.getD i default).1 (l.getD i default).2 s0 K'∧∀cH,K' cH→Wl D F0 E l ai ops.size k cc Q' (listed.setIfInBounds i true) cH:=by
   rintro⟨f,gm,s0,g1,g2,g3,g4⟩
   have Jk:=Oh (p:=fun j=>!listed.getD j false) (q:=fun j=>!(listed.setIfInBounds i true).getD j false) gx (by simp[jy]) (fun j=>by rw[gC j];cases decide (j=i)<;>simp);obtain⟨f',A3⟩:∃f',f=f'+1:=⟨_,g2.symm.trans Jk⟩;subst A3;have Dk:=Tm cC gx g1 (fun j hj=>rU i j hj) jy jn kM;rw[←hlen]at Dk;refine⟨s0,_,g3,Tu g4 Dk,fun cH hs=>.inr (.inr ⟨f',gm|||2^i,cH,fun j hj=>?_,by omega,⟨fun _=>rfl,fun _=>rfl,fun _=>rfl⟩,hs⟩)⟩;rw[gC j,Nat.testBit_or,Nat.testBit_two_pow];by_cases zl:j=i
   ·subst zl;simp
   ·have:¬i=j:=fun e=>zl e.symm;simp only[zl,decide_false,Bool.false_or,this,Bool.or_false];exact g1 j hj
  have EO:∀{pre post:List Nat},pa D l ai (pre++i::post)→(∀j∈pre,listed.getD j false=false)→∀j∈pre,pd D (l.getD j default) (l.getD i default)=true:=by
   intro pre post h3 hu j hj;have:=(List.pairwise_append.1 h3).2.2 j hj i (by simp);simp only[tt,Bool.or_eq_true]at this;rcases this with nJ|nJ
   ·have:=cC i _ jn kM j nJ;rw[hu j hj]at this;cases this
   ·exact nJ
  have C5:¬i<k→i≠cc→∀j,j<k→listed.getD j false=true:=by
   intro zj Bz j hj;refine cC i (fun i=>listed.getD i false) jn kM j ?_;have:=kA i (by omega) gx Bz;have h9:(ai.getD i 0&&&(2^k-1)).testBit j=true:=by rw[this,om j];simp[hj]
   rw[Nat.testBit_and,Bool.and_eq_true]at h9;exact h9.1
  rcases hh with⟨h0,ord,h1,h2,h3,h4,h5⟩|⟨h0,ord,h1,h2,h3,h4,h5⟩|hh
  ·by_cases zj:i<k
   ·obtain⟨pre,post,rfl⟩:=List.append_of_mem ((h1 i).2 ⟨zj,jy⟩);have qR:pa D l ai (pre++i::(post++[cc])):=by simpa using h3
    have ov:=List.pairwise_append.1 qR;have sT:=EO qR (fun j hj=>((h1 j).1 (by simp[hj])).2);rw[List.map_append,List.map_cons]at h5;have wO:=n5 (x:=i) Qc sT h5;obtain⟨q1,q2⟩:=left_step gC h1 h2;refine⟨st,_,⟨fun _=>rfl,fun _=>rfl,fun _=>rfl⟩,G7 wO.2,fun cH hs=>.inl ⟨?_,pre++post,q1,q2,?_,fun j hj=>?_,by rw[List.map_append];exact hs.2⟩⟩
    ·rw[gC cc];have:¬cc=i:=by omega
     simp[this,h0]
    ·rw[List.append_assoc];exact List.pairwise_append.2 ⟨ov.1,(List.pairwise_cons.1 ov.2.1).2,fun x hx y hy=>ov.2.2 x hx y (by simp at hy⊢;exact .inr hy)⟩
    ·rw[gC j];have:¬j=i:=by omega
     simp[this,h4 j hj]
   ·by_cases Bz:i=cc
    ·subst Bz;have sT:=EO (post:=[]) h3 (fun j hj=>((h1 j).1 hj).2);have h6:dA D F0 E ((ord.map fun i=>l.getD i default)++l.getD i default::[]) (fun s'=>∃s0,dz s0 s'∧cx E (bo l ai (ops.size-k-1) ((2^k-1)|||2^i)) Q' s0) st:=by rw[zWU];exact KL _ (fun s hs=>⟨rS s,AD (fun s' b9=>⟨fun hm=>(by have:=I9.symm.trans hm;cases this),b9⟩) hs.2⟩) h5
     have wO:=n5 (x:=i) (uw _ _) sT h6;refine⟨st,_,⟨fun _=>rfl,fun _=>rfl,fun _=>rfl⟩,G7 wO.2,fun cH hs=>.inr (.inl ⟨by rw[gC i];simp,ord,fun j=>?_,h2,(List.pairwise_append.1 h3).1,fun j hj zk=>?_,by have:=hs.2;rwa [List.append_nil]at this⟩)⟩
     ·rw[gC j,h1 j];by_cases hj:j=i
      ·subst hj;simp[zj]
      ·simp[hj]
     ·rw[gC j];simp[zk,h4 j hj]
    ·have cT:=C5 zj Bz;have il:ord=[]:=by
      cases ord with
      |nil=>rfl
      |cons a r=>obtain⟨g1,g2⟩:=(h1 a).1 (by simp);rw[cT a g1]at g2;cases g2
     subst il;exact oH (toEnd listed st cT h4 h5.1)
  ·by_cases zj:i<k
   ·obtain⟨pre,post,rfl⟩:=List.append_of_mem ((h1 i).2 ⟨zj,jy⟩);have ov:=List.pairwise_append.1 h3;have sT:=EO h3 (fun j hj=>((h1 j).1 (by simp[hj])).2);rw[List.map_append,List.map_cons]at h5;have wO:=n5 (x:=i) (uw _ _) sT h5;obtain⟨q1,q2⟩:=left_step gC h1 h2;refine⟨st,_,⟨fun _=>rfl,fun _=>rfl,fun _=>rfl⟩,G7 wO.2,fun cH hs=>.inr (.inl ⟨?_,pre++post,q1,q2,?_,fun j hj zk=>?_,by rw[List.map_append];exact hs.2⟩)⟩
    ·rw[gC cc];simp[h0]
    ·exact List.pairwise_append.2 ⟨ov.1,(List.pairwise_cons.1 ov.2.1).2,fun x hx y hy=>ov.2.2 x hx y (by simp[hy])⟩
    ·rw[gC j];have:¬j=i:=by omega
     simp[this,h4 j hj zk]
   ·have Bz:i≠cc:=fun e=>by subst e;rw[h0]at jy;cases jy
    have cT:=C5 zj Bz;have il:ord=[]:=by
     cases ord with
     |nil=>rfl
     |cons a r=>obtain⟨g1,g2⟩:=(h1 a).1 (by simp);rw[cT a g1]at g2;cases g2
    subst il;exact oH (Ar listed st cT h4 h0 h5)
  ·exact oH hh
 ·refine Nat.le_trans (List.length_filter_le _ _) (by simp)
 ·intro k hk;simp only[ei]at hk;cases hk
 ·refine .inl ⟨ei cc,List.range k,fun j=>by rw[ei];simp,List.nodup_range,Ts Jj,fun j _=>ei j,?_⟩;have oi:(List.range k).map (fun i=>l.getD i default)=l.take k:=by
   apply List.ext_getElem
   ·simp;omega
   ·intro i h1 h2;have:i<l.length:=by simp at h2;omega
    simp[List.getD,List.getElem?_eq_getElem this]
  rw[oi];have hw:∀f gm s,cx E (bo l ai f gm) Q' s→∃s0,dz s0 s∧cx E (bo l ai f gm) Q' s0:=fun f gm s hs=>⟨s,⟨fun _=>rfl,fun _=>rfl,fun _=>rfl⟩,hs⟩;exact KL _ (fun s hs=>⟨hw _ _ _ hs.1,AD (fun s' b9=>hw _ _ _ b9) hs.2⟩) hA
end Go.Abs
end
section
namespace Go.Abs
open Go.RowKit
variable{c:Ctx}{st:St}{tmps:Array Value}{w:World}{S:Safe}{ρ:bW}{E:ax}{T:Nat→Option Ty}
abbrev FR(ro:Option Nat):Fence:={Fence.wide with round:=ro}
theorem FR.fw(ro):FW (FR ro):=⟨fun _=>trivial,rfl,rfl⟩
theorem Tp(hG:E.G=c.G)(hC:∀f args r,E.C f args r→Ev c.P c.G f args r)(hT:∀t ty,T t=some ty→aK c.P t ty=true)(hm:c.P.follows .mixedOrders=true){ops:Array Oper}{l}(aa:gT T ops.toList=some l)
  (aT:∀o∈ops.toList,∀d,o.dst=some d→c.D d) (jh:Im ops.toList l=true) {F} (hF:FW F) (m) (Q) {K} (hQ:∀a w,jW c K a w→Q .normal a w) {id} (h:aN c st tmps w S ρ) (hK:bS E l K st):(Code.region id ops true).wpIn F m c.P Q ⟨tmps,c.ds⟩ w:=by
 refine wpIn_region_any hm ?_;have hs:aN c st tmps w.drew S ρ:=h.grow ((Below.refl _ _).drew) (fun _ _ hs=>hs) (fun _ _ hs=>.inl hs) (fun b o hs=>h.live b o hs);refine yVV hG hC hT aa aT jh hF m Q (K:=fun s=>∃s0,dz s0 s∧K s0) ?_ ?_ hs ?_
 ·rintro s s1 he ⟨s0,ph,hk⟩
  exact⟨s0,⟨fun k=>(ph.ae k).trans (he.ae k),fun k=>(ph.mem k).trans (he.mem k),fun k=>(ph.tk k).trans (he.tk k)⟩,hk⟩
 ·rintro a w' ⟨hd,cH,S',bu,b9,s0,he,hk⟩
  exact hQ a w' ⟨hd,s0,S',bu,b9.eq he,hk⟩
 ·exact xW l (fun s hs=>⟨s,⟨fun _=>rfl,fun _=>rfl,fun _=>rfl⟩,hs⟩) hK
theorem Y8(m)(k):∀l:List (Nat×AV),aC (uo m l) k=.undef∨∃x,aC (uo m l) k=.d x∧AV.mH m 3 (aC l k)=some x
 |[]=>.inl rfl
 |(j,v)::l=>by
  simp only[uo,aC];by_cases hj:j=k
  ·simp only[hj,if_true];cases AV.mH m 3 v with
   |none=>exact .inl rfl
   |some x=>exact .inr ⟨x,rfl,rfl⟩
  ·simp only[if_neg hj];exact Y8 m k l
theorem yyE(s)(k):∀(ds) (l),aC (rp s ds l) k=if k∈ds then qQ (aC s k)else aC l k
 |[],l=>by simp[rp]
 |d::ds,l=>by
  simp only[rp,aC];by_cases hj:d=k
  ·subst hj;simp
  ·have:(k=d)=False:=eq_false fun e=>hj e.symm;rw[if_neg hj,yyE s k ds l];simp only[List.mem_cons,this,false_or]
theorem Ta{d}:∀{l},d∈ke l↔d∈l.filterMap fun p=>dP p.2
 |[]=>by simp[ke]
 |p::l=>by
  rw[ke,List.mem_append,Ta,List.filterMap_cons];cases dP p.2 with
  |none=>simp
  |some e=>simp
theorem yZq{w w' S S' ρ bu a v}(h:ay w S ρ a v):ay w' S' bu (qQ a) v:=by
 unfold qQ;split
 ·exact h
 ·exact h
 ·trivial
theorem yZ4(hG:E.G=c.G)(hC:∀f args r,E.C f args r→Ev c.P c.G f args r)(hT:∀t ty,T t=some ty→aK c.P t ty=true)(hm:c.P.follows .mixedOrders=true){ops:Array Oper}{l}(aa:gT T ops.toList=some l)
  (aT:∀o∈ops.toList,∀d,o.dst=some d→c.D d∧d∈l.filterMap fun p=>dP p.2) (Dt:∀d∈l.filterMap (fun p=>dP p.2),c.kp d=false) (jh:Im ops.toList l=true) {F} (hF:FW F) (m) (Q) {K} (hQ:∀a w,jW c K a w→Q .normal a w) {id} (h:aN c st tmps w S ρ) (hK:bS E l (fun s=>K (st.Ap (ke l) s)) st.l6):(Code.region id ops true).wpIn F m c.P Q ⟨tmps,c.ds⟩ w:=by
 obtain⟨S1,e1,e2,e3,e4,e5⟩:=h.close;let c1:Ctx:={P:=c.P,G:=c.G,w0:=w,S0:=S1,N:=c.N,kp:=fun k=>!(ke l).contains k,t0:=tmps,ds:=c.ds};have hk:aY w S w S1:=fun b o hs=>⟨e1 b o hs,rfl⟩;have h1:aN c1 st.l6 tmps w S1 {box:=fun _=>none,cO:=fun _=>none,tok:=fun _=>none}:=
  {size:=h.size,ae:=fun k=>by
     rcases Y8 st.mem k st.ae with e|⟨x,e,hx⟩
     ·show ay w S1 _ (aC (uo st.mem st.ae) k) _;rw[e];trivial
     ·show ay w S1 _ (aC (uo st.mem st.ae) k) _;rw[e];exact G2 e5 3 _ _ x (e4 _ _ (h.ae k)) hx
   mem:=fun s cs hs=>by simp[St.l6,getM]at hs
   inj:=fun s s' b hs=>by cases hs
   aQ:=fun _ _=>rfl
   cL:={at':=fun s k e cA hs=>(by simp[St.l6,getM]at hs),inj:=fun s s' b hs=>(by cases hs),new:=fun _ _=>rfl,lt:=fun s b hs=>(by cases hs),apart:=fun s b hs=>(by cases hs)}
   tok:=fun t ht=>by simp[St.l6,aE]at ht
   aV:=fun _ _=>rfl
   below:=dK.refl c1
   fX:=fun _ _ hs=>hs
   new:=fun _ _ hs=>.inl hs
   live:=e3
   b5:=fun g cs hg=>aP.keep hk g 0 cs (h.b5 g cs hg)
   fx:=fun _ _=>rfl
   eH:=fun p hp=>by cases hp
   keeps:=fun p hp=>by cases hp
   ex:=h.exact
   pins:=⟨fun p hp=>(by cases hp),fun p hp=>(by cases hp)⟩}
 refine Tp (c:=c1) hG hC hT hm aa (fun o ho d hd=>⟨(aT o ho d hd).1.1,?_⟩) jh hF m Q ?_ h1 hK
 ·show(!(ke l).contains d)=false;rw[Bool.not_eq_false',List.contains_iff_mem];exact Ta.2 (aT o ho d hd).2
 ·rintro a w' ⟨hd,st1,S2,jO,gL,rT⟩
  have hb:Below w.heap.size w w':=gL.below.below rfl;have hl:∀b o,S b o→∃v,w'.cell? ⟨b,o,none⟩=some v:=fun b o hs=>by obtain⟨v,hv⟩:=h.live b o hs;exact⟨v,(hb.cell (p:=⟨b,o,none⟩) (qh hv)).trans hv⟩
  have h2:=h.grow hb (fun _ _ hs=>hs) (fun _ _ hs=>.inl hs) hl;have fN:∀k,k∉ke l→a.tmps.getD k undef=tmps.getD k undef:=fun k hn=>gL.fx k (by show(!(ke l).contains k)=true;rw[Bool.not_eq_true',←Bool.not_eq_true,List.contains_iff_mem];exact hn);refine hQ a w' ⟨hd,st.Ap (ke l) st1,S,ρ,{h2 with size:=gL.size,ae:=fun k=>?_,fx:=fun k Mp=>?_},rT⟩
  ·show ay w' S ρ (aC (rp st1.ae (ke l) st.ae) k) _;rw[yyE];split
   ·exact yZq (gL.ae k)
   ·rename_i hn;rw[fN k hn];exact h2.ae k
  ·rw[fN k (fun hm=>by have:=Dt k (Ta.1 hm);rw[Mp]at this;cases this)];exact h2.fx k Mp
theorem Sz{ops l ac}(h:xS ops l=some ac):∃ps ia ib rs,ac=.lL (ps.map fun i=>l.getD i default) (l.getD ia default) (l.getD ib default) (rs.map fun i=>l.getD i default)∧BN ops l ps ia ib rs=true∧
  (∀k,k∈ps++ia::ib::rs↔k<ops.length)∧(ps++ia::ib::rs).Nodup∧∀k∈rs,((aJ ops [] ops).getD k 0).testBit ia=true∨((aJ ops [] ops).getD k 0).testBit ib=true:=by
 unfold xS at h;split at h
 ·cases h
 ·rename_i ia ib _;simp only at h;split at h
  ·rename_i hc;simp only[Option.some.injEq]at h;simp only[Bool.and_eq_true,decide_eq_true_eq,bne_iff_ne,ne_eq]at hc;obtain⟨⟨⟨ha,hb⟩,ki⟩,hd⟩:=hc;refine⟨_,ia,ib,_,h.symm,hd,fun k=>?_,?_,fun k hk=>?_⟩
   ·simp only[List.mem_append,List.mem_cons,List.mem_filter,List.mem_range,Bool.and_eq_true,bne_iff_ne,ne_eq,Bool.not_eq_true'];by_cases h1:k=ia
    ·subst h1;simp[ha]
    ·by_cases h2:k=ib
     ·subst h2;simp[hb]
     ·simp only[h1,h2,not_false_eq_true,true_and,false_or];cases BM (aJ ops [] ops) ia ib k<;>simp
   ·refine List.nodup_append.2 ⟨List.nodup_range.filter _,List.nodup_cons.2 ⟨?_,List.nodup_cons.2 ⟨?_,List.nodup_range.filter _⟩⟩,?_⟩
    ·simp only[List.mem_cons,List.mem_filter,not_or];exact⟨ki,by simp⟩
    ·simp
    ·intro x hx y hy lz;subst lz;simp only[List.mem_filter,Bool.and_eq_true,bne_iff_ne,ne_eq,Bool.not_eq_true']at hx;simp only[List.mem_cons,List.mem_filter,Bool.and_eq_true]at hy;rcases hy with hy|hy|hy
     ·exact hx.2.1.1 hy
     ·exact hx.2.1.2 hy
     ·rw[hx.2.2]at hy;cases hy.2.2
   ·simp only[List.mem_filter,Bool.and_eq_true,BM,Bool.or_eq_true]at hk;exact hk.2.2
  ·cases h
theorem yjw(hG:E.G=c.G)(hC:∀f args r,E.C f args r→Ev c.P c.G f args r)(hT:∀t ty,T t=some ty→aK c.P t ty=true)(hm:c.P.follows .mixedOrders=true){ops:Array Oper}{l}(aa:gT T ops.toList=some l)
  (aT:∀o∈ops.toList,∀d,o.dst=some d→c.D d) {ac} (jh:xS ops.toList l=some ac) {F} (hF:FW F) (m) {Q'} (Q) (hQ:∀a w,jW c (Q' .normal) a w→Q .normal a w) {id} (h:aN c st tmps w S ρ) (hK:cx E ac Q' st):(Code.region id ops true).wpIn F m c.P Q ⟨tmps,c.ds⟩ w:=by
 refine wpIn_region_any hm ?_;obtain⟨ps,ia,ib,rs,rfl,hd,gy,xL,ic⟩:=Sz jh;have hs:aN c st tmps w.drew S ρ:=h.grow ((Below.refl _ _).drew) (fun _ _ hs=>hs) (fun _ _ hs=>.inl hs) (fun b o hs=>h.live b o hs);refine yWz hG hC hT aa aT hd (by simpa using gy) xL ic hF m Q (K:=fun s=>∃s0,dz s0 s∧Q' .normal s0) ?_ ?_ hs ?_
 ·rintro s s1 he ⟨s0,ph,hk⟩
  exact⟨s0,⟨fun k=>(ph.ae k).trans (he.ae k),fun k=>(ph.mem k).trans (he.mem k),fun k=>(ph.tk k).trans (he.tk k)⟩,hk⟩
 ·rintro a w' ⟨hd,cH,S',bu,b9,s0,he,hk⟩
  exact hQ a w' ⟨hd,s0,S',bu,b9.eq he,hk⟩
 ·have hw:∀s,Q' .normal s→∃s0,dz s0 s∧Q' .normal s0:=fun s hs=>⟨s,⟨fun _=>rfl,fun _=>rfl,fun _=>rfl⟩,hs⟩;exact xW _ (fun s hs=>⟨xW _ hw hs.1,xW _ hw hs.2⟩) hK
theorem yJm{ops l}(hlen:l.length=ops.length){ac}(jh:xS ops l=some ac):∀d∈l.filterMap (fun p=>dP p.2),d∈ac.oJ:=by
 obtain⟨ps,ia,ib,rs,rfl,_,gy,_⟩:=Sz jh;intro d hd;obtain⟨x,hx,hxd⟩:=List.mem_filterMap.1 hd;obtain⟨k,hk,rfl⟩:=List.getElem_of_mem hx;simp only[AC.oJ];refine List.mem_filterMap.2 ⟨_,?_,hxd⟩;have:=(gy k).2 (by omega);have he:l[k]=l.getD k default:=by simp[List.getD,List.getElem?_eq_getElem hk]
 rw[he];have h2:l.getD k default∈(ps++ia::ib::rs).map (fun i=>l.getD i default):=List.mem_map_of_mem this;simpa using h2
theorem AB{ops l ac}(h:Ac ops l=some ac):(∃(ps:List Nat) (ia ib:Nat) (rs:List Nat),ac=.lL (ps.map fun i=>l.getD i default) (l.getD ia default) (l.getD ib default) (rs.map fun i=>l.getD i default)∧xS ops l=some ac)∨
  (ac=.xd (qG l) l∧di 0 ops=true∧mz l (aJ ops [] ops) (List.range ops.length)=true)∨
  (∃k,ac=.scope (.seq (.cm (l.take k)) (bo l (aJ ops [] ops) (l.length-k) (2^k-1)))∧di 0 ops=true∧k≤l.length∧ku (l.take k) (aJ ops [] ops) k=true∧(∀j,k≤j→j<l.length→((aJ ops [] ops).getD j 0&&&(2^k-1))=2^k-1)∧∀d∈l.filterMap (fun p=>dP p.2),d∈ac.oJ)∨
  (∃D k,ac=.scope (.seq (.pw D (l.take k)) (bo l (aJ ops [] ops) (l.length-k) (2^k-1)))∧di 0 ops=true∧k≤l.length∧j9 D l (aJ ops [] ops) (List.range k)=true∧(∀j,k≤j→j<l.length→((aJ ops [] ops).getD j 0&&&(2^k-1))=2^k-1)∧∀d∈l.filterMap (fun p=>dP p.2),d∈ac.oJ)∨
  ∃D k c,ac=yJ D l (aJ ops [] ops) k c∧JL D ops l (aJ ops [] ops) k c=true∧∀d∈l.filterMap (fun p=>dP p.2),d∈ac.oJ:=by
 unfold Ac at h;split at h
 ·rename_i LZ h2;cases h;split at h2
  ·unfold JY at h2;simp only at h2;split at h2
   ·rename_i hc;cases h2;simp only[Bool.and_eq_true,decide_eq_true_eq,List.all_eq_true,List.mem_filter,List.mem_range,beq_iff_eq,and_imp,List.contains_iff_mem]at hc;exact .inr (.inr (.inl ⟨_,rfl,hc.1.1.1.1,hc.1.1.1.2,hc.1.1.2,fun j h1 h2=>hc.1.2 j h2 h1,fun d hd=>hc.2 d hd⟩))
   ·cases h2
  ·cases h2
 split at h
 ·rename_i LZ h2;cases h;split at h2
  ·cases h2
  obtain⟨ps,ia,ib,rs,h3,_⟩:=Sz h2;exact .inl ⟨ps,ia,ib,rs,h3,h2⟩
 ·split at h
  ·rename_i LZ h';cases h;split at h'
   ·cases h'
   unfold JZ at h';split at h'
   ·rename_i hc;simp only[Bool.and_eq_true]at hc;cases h';exact .inr (.inl ⟨rfl,hc⟩)
   ·cases h'
  ·split at h
   ·rename_i LZ h4;cases h;unfold JV at h4;split at h4
    ·rename_i k hk;simp only at h4;split at h4
     ·rename_i hc;cases h4;simp only[Bool.and_eq_true,decide_eq_true_eq,List.all_eq_true,List.mem_filter,List.mem_range,beq_iff_eq,and_imp,List.contains_iff_mem]at hc;exact .inr (.inr (.inl ⟨k,rfl,hc.1.1.1.1,hc.1.1.1.2,hc.1.1.2,fun j h1 h2=>hc.1.2 j h2 h1,fun d hd=>hc.2 d hd⟩))
     ·cases h4
    ·cases h4
   ·split at h
    ·rename_i LZ h5;cases h;unfold JW at h5;simp only at h5;split at h5
     ·rename_i k hk;split at h5
      ·rename_i hc;cases h5;simp only[Bool.and_eq_true,decide_eq_true_eq,List.all_eq_true,List.mem_filter,List.mem_range,beq_iff_eq,and_imp,List.contains_iff_mem]at hc;exact .inr (.inr (.inr (.inl ⟨_,k,rfl,hc.1.1.1.1,hc.1.1.1.2,hc.1.1.2,fun j h1 h2=>hc.1.2 j h2 h1,fun d hd=>hc.2 d hd⟩)))
      ·cases h5
     ·cases h5
    ·unfold JX at h;simp only at h;split at h
     ·rename_i k c hk;split at h
      ·rename_i hc;cases h;simp only[Bool.and_eq_true,List.all_eq_true,List.contains_iff_mem]at hc;exact .inr (.inr (.inr (.inr ⟨_,k,c,rfl,hc.1,fun d hd=>hc.2 d hd⟩)))
      ·cases h
     ·cases h
theorem yjx(hG:E.G=c.G)(hC:∀f args r,E.C f args r→Ev c.P c.G f args r)(hT:∀t ty,T t=some ty→aK c.P t ty=true)(hm:c.P.follows .mixedOrders=true){ops:Array Oper}{l}(aa:gT T ops.toList=some l)
  (aT:∀o∈ops.toList,∀d,o.dst=some d→c.D d) {ac} (jh:Ac ops.toList l=some ac) {F} (hF:FW F) (m) {Q'} (Q) (hQ:∀a w,jW c (Q' .normal) a w→Q .normal a w) {id} (h:aN c st tmps w S ρ) (hK:cx E ac Q' st):(Code.region id ops true).wpIn F m c.P Q ⟨tmps,c.ds⟩ w:=by
 rcases AB jh with⟨_,_,_,_,_,h2⟩|⟨rfl,ec,cT⟩|⟨k,rfl,ec,hk,nq,kA,_⟩|⟨D,k,rfl,ec,hk,nq,kA,_⟩|⟨D,k,cc,rfl,kj,_⟩
 ·exact yjw hG hC hT hm aa aT h2 hF m Q hQ h hK
 ·refine wpIn_region_any hm ?_;have hs:aN c st tmps w.drew S ρ:=h.grow ((Below.refl _ _).drew) (fun _ _ hs=>hs) (fun _ _ hs=>.inl hs) (fun b o hs=>h.live b o hs);refine yVW (F':=qG l) hG hC hT aa aT ec cT hF m Q (K:=fun s=>∃s0,dz s0 s∧Q' .normal s0) ?_ ?_ hs ?_
  ·rintro s s1 he ⟨s0,ph,hk⟩
   exact⟨s0,⟨fun k=>(ph.ae k).trans (he.ae k),fun k=>(ph.mem k).trans (he.mem k),fun k=>(ph.tk k).trans (he.tk k)⟩,hk⟩
  ·rintro a w' ⟨hd,cH,S',bu,b9,s0,he,hk⟩
   exact hQ a w' ⟨hd,s0,S',bu,b9.eq he,hk⟩
  ·exact Tx l (fun s hs=>⟨s,⟨fun _=>rfl,fun _=>rfl,fun _=>rfl⟩,hs⟩) hK
 ·refine wpIn_region_any hm ?_;have hs:aN c st tmps w.drew S ρ:=h.grow ((Below.refl _ _).drew) (fun _ _ hs=>hs) (fun _ _ hs=>.inl hs) (fun b o hs=>h.live b o hs);have hlen:l.length=ops.size:=by simpa using(vt aa).1
  refine yVS hG hC hT aa aT ec (k:=k) (by omega) nq (fun j h1 h2=>kA j h1 (by omega)) hF m (Q':=Q') Q ?_ hs ?_
  ·rintro a w' ⟨hd,cH,S',bu,b9,s0,he,hk⟩
   exact hQ a w' ⟨hd,s0,S',bu,b9.eq he,hk⟩
  ·rw[←hlen];have hK:bS E (l.take k) (fun s=>cx E (bo l (aJ ops.toList [] ops.toList) (l.length-k) (2^k-1)) Q' s) st:=hK;exact hK
 ·refine wpIn_region_any hm ?_;have hs:aN c st tmps w.drew S ρ:=h.grow ((Below.refl _ _).drew) (fun _ _ hs=>hs) (fun _ _ hs=>.inl hs) (fun b o hs=>h.live b o hs);have hlen:l.length=ops.size:=by simpa using(vt aa).1
  obtain⟨F0,hK⟩:∃F0,dA D F0 E (l.take k) (fun s=>cx E (bo l (aJ ops.toList [] ops.toList) (l.length-k) (2^k-1)) Q' s) st:=hK;refine yVT (D:=D) (F0:=F0) hG hC hT aa aT ec (k:=k) (by omega) nq (fun j h1 h2=>kA j h1 (by omega)) hF m (Q':=Q') Q ?_ hs ?_
  ·rintro a w' ⟨hd,cH,S',bu,b9,s0,he,hk⟩
   exact hQ a w' ⟨hd,s0,S',bu,b9.eq he,hk⟩
  ·rw[←hlen];exact hK
 ·refine wpIn_region_any hm ?_;have hs:aN c st tmps w.drew S ρ:=h.grow ((Below.refl _ _).drew) (fun _ _ hs=>hs) (fun _ _ hs=>.inl hs) (fun b o hs=>h.live b o hs);have hlen:l.length=ops.size:=by simpa using(vt aa).1
  obtain⟨F0,hK⟩:∃F0,dA D F0 E (l.take k) (fun s=>cx E (bo l (aJ ops.toList [] ops.toList) (l.length-k) (2^k-1)) Q' s∧bS E [l.getD cc default] (fun s'=>cx E (bo l (aJ ops.toList [] ops.toList) (l.length-k-1) ((2^k-1)|||2^cc)) Q' s') s) st:=hK;refine yVU (D:=D) (F0:=F0) hG hC hT aa aT (k:=k) (cc:=cc) kj hF m (Q':=Q') Q ?_ hs ?_
  ·rintro a w' ⟨hd,cH,S',bu,b9,s0,he,hk⟩
   exact hQ a w' ⟨hd,s0,S',bu,b9.eq he,hk⟩
  ·rw[←hlen];exact hK
theorem yJn{ops l}(hlen:l.length=ops.length){ac}(jh:Ac ops l=some ac):∀d∈l.filterMap (fun p=>dP p.2),d∈ac.oJ:=by
 rcases AB jh with⟨_,_,_,_,_,h2⟩|⟨rfl,_,_⟩|⟨k,rfl,_,_,_,_,h2⟩|⟨D,k,rfl,_,_,_,_,h2⟩|⟨D,k,cc,rfl,_,h2⟩
 ·exact yJm hlen h2
 ·exact fun d hd=>hd
 ·exact h2
 ·exact h2
 ·exact h2
def AX.out:AX→Exit
 |.normal=>.normal
 |.exit i=>.exit i
 |.ret=>.ret
def qF(F:Fence)(m:Nat)(P:Program)(cd:Code)(R:Exit→Act→World→Prop)(a:Act)(w:World):Prop:=
 ∀(b:Frame) (k:List Item) (cs:List Frame),b.roundOf=F.round→F.fn b.fn→F.room (cs.length+1+m)→
  ∃e a' w',R e a' w'∧ArrivesIn (Machine.fenced P F) P (lone (b.atR a (.code cd:: .inLoop cd::k)) cs w) b k cs e a' w'
theorem TS{F m P cd R a w}(h:cd.wpIn F m P (Exit.then (qF F m P cd R) R) a w):qF F m P cd R a w:=by
 intro b k cs kP hb hr;obtain⟨e,qJ,ry,hq,nh⟩:=h b (.inLoop cd::k) cs kP hb hr;cases e with
 |normal=>obtain⟨PH,Pt,RK,Jn,BU⟩:=hq b k cs kP hb hr;exact⟨PH,Pt,RK,Jn,.of_steps (StepsIn.trans nh (.one (fenced_calm hb hr rfl) stepR_inLoop)) BU⟩
 |exit id=>exact⟨_,qJ,ry,hq,.pass (x:=.inLoop cd) rfl (fun _ _=>.inl (by simp)) nh⟩
 |goto l=>exact⟨_,qJ,ry,hq,.pass (x:=.inLoop cd) rfl (fun _ _=>.inl (by simp)) nh⟩
 |ret=>exact⟨_,qJ,ry,hq,.pass (x:=.inLoop cd) rfl (fun _ _=>.inl (by simp)) nh⟩
 |panic ch=>exact⟨_,qJ,ry,hq,.pass (x:=.inLoop cd) rfl (fun _ _=>.inl (by simp)) nh⟩
 |outgrown=>exact⟨_,qJ,ry,hq,.pass (x:=.inLoop cd) rfl (fun _ _=>.inl (by simp)) nh⟩
theorem zWd{F m P cd R a w}(h:qF F m P cd R a w):(Code.loop cd).wpIn F m P R a w:=by intro b k cs kP hb hr;obtain⟨e,a',w',hq,nh⟩:=h b k cs kP hb hr;exact⟨e,a',w',hq,.of_steps (.one (fenced_calm hb hr rfl) stepR_loop) nh⟩
def nR(w:World)(S:Safe)(w':World)(S':Safe):Prop:=
 Below w.heap.size w w'∧(∀b o,S b o→S' b o)∧(∀b o,S' b o→S b o∨w.heap.size≤b)∧Live w' S'
def mX(base:Nat)(Y:Nat→Prop)(w:World)(S:Safe)(w':World)(S':Safe):Prop:=
 dK (fun k=>base≤k∧¬Y k) w w'∧aY w S w' S'∧(∀b o,S' b o→S b o∨(base≤b∧¬Y b))∧Live w' S'
def qD(Y:Nat→Prop)(w:World)(S:Safe)(w':World)(S':Safe)(Y':Nat→Prop):Prop:=
 dK (fun k=>w.heap.size≤k∨Y k) w w'∧aY w S w' S'∧(∀b o,S' b o→S b o∨w.heap.size≤b∨Y b)∧∀k,Y' k→Y k∨w.heap.size≤k
def mY(P:Program)(G:Nat→Option (List D))(f:FuncId)(caps:List D)(xs:List (List CV)):Prop:=
 Enters P f∧∀(l:Nat) (w:World) (S:Safe) (cs:List Value) (J:List (List CV)→World→Safe→(Nat→Prop)→Prop) (Jx:World→Safe→(Nat→Prop)→Prop) (Y0:Nat→Prop),
  Live w S→fh P G w S→aS w S caps cs→
  (∀pre W S1 Y W' S2,J pre W S1 Y→mX w.heap.size Y W S1 W' S2→J pre W' S2 Y)→
  (∀W S1 Y W' S2,Jx W S1 Y→mX w.heap.size Y W S1 W' S2→Jx W' S2 Y)→
  (∀pre W S1 Y,J pre W S1 Y→Live W S1∧aY w S W S1∧Exact P G W∧w.heap.size≤W.heap.size∧∀k,Y k→k<W.heap.size)→
  (∀W S1 Y,Jx W S1 Y→Live W S1∧Exact P G W∧w.heap.size≤W.heap.size∧∀k,Y k→k<W.heap.size)→
  (∀pre x rest W S1 Y vs,xs=pre++x::rest→J pre W S1 Y→bA W S1 x vs→YieldAt Fence.wide 0 P l vs.toArray W fun e W'=>
   (e=.returned (.bool true)∧∃S2 Y2,J (pre++[x]) W' S2 Y2∧qD Y W S1 W' S2 Y2)∨(e=.returned (.bool false)∧∃S2 Y2,Jx W' S2 Y2∧qD Y W S1 W' S2 Y2))→
  J [] w S Y0→
  Calls P f (#[.func (.yield l) #[] #[]]++cs.toArray) w fun e W'=>∃v,e=.returned v∧((∃S2 Y,J xs W' S2 Y)∨∃S2 Y,Jx W' S2 Y)
def pr(D:Nat):Deferred:={target:=.collected D,args:=#[]}
def Ext(c c':Ctx):Prop:=∃(xR:List (Nat×Obj)) (Ds:List Nat),c'={c with ob:=xR++c.ob,ds:=Ds.map pr++c.ds}∧Ds.Nodup∧(∀D∈Ds,(D,Obj.deferred (some []))∈xR)∧
 (∀p∈xR,∀q∈c.ob,p.1≠q.1)∧∀p∈xR,c.w0.heap.size≤p.1
theorem Ext.refl(c):Ext c c:=⟨[],[],by simp,by simp,by simp,by simp,by simp⟩
theorem Ext.trans{a b c}(h:Ext a b)(h':Ext b c):Ext a c:=by
 obtain⟨o1,d1,rfl,h1,h2,h3,h4⟩:=h;obtain⟨o2,d2,rfl,k1,k2,k3,k4⟩:=h';simp only at k3 k4;refine⟨o2++o1,d2++d1,by simp[List.append_assoc],?_,?_,?_,?_⟩
 ·refine List.nodup_append.2 ⟨k1,h1,fun x hx y hy lz=>?_⟩;subst lz;exact k3 _ (k2 x hx) _ (List.mem_append_left _ (h2 x hy)) rfl
 ·intro D hD;rcases List.mem_append.1 hD with hD|hD
  ·exact List.mem_append_left _ (k2 D hD)
  ·exact List.mem_append_right _ (h2 D hD)
 ·intro p hp q hq;rcases List.mem_append.1 hp with hp|hp
  ·exact k3 p hp q (List.mem_append_right _ hq)
  ·exact h3 p hp q hq
 ·intro p hp;rcases List.mem_append.1 hp with hp|hp
  ·exact k4 p hp
  ·exact h4 p hp
end Go.Abs
end
section
namespace Go.Abs
open Go.RowKit
variable{c:Ctx}{st:St}{tmps:Array Value}{w:World}{S:Safe}{ρ:bW}{E:ax}{T:Nat→Option Ty}
theorem yvI{w:World}{l b o x}(h:b≠l):(w.putObj l x).cell? ⟨b,o,none⟩=w.cell? ⟨b,o,none⟩:=
 World.cell?_of_block (w:=w) (World.putObj_heap_other h)
theorem ywK{w:World}{l o x}(h:w.heap[l]? =some x)(hx:nx x=true):w.cell? ⟨l,o,none⟩=none:=by unfold World.cell?;rw[h];cases x<;>first|rfl|cases hx
theorem aN.FC(h:aN c st tmps w S ρ){xR ds'}(ho:∀p∈xR,w.heap[p.1]? =some p.2∧nx p.2=true):aN {c with ob:=xR,ds:=ds'} st tmps w S ρ:=
 {size:=h.size,ae:=h.ae,mem:=h.mem,inj:=h.inj,aQ:=h.aQ,cL:=h.cL,tok:=h.tok,aV:=h.aV,below:=h.below,fX:=h.fX,new:=h.new,live:=h.live,b5:=h.b5,fx:=h.fx,ex:=h.ex,eH:=ho,keeps:=h.keeps,pins:=h.pins}
theorem aN.putObj(h:aN c st tmps w S ρ){l o o' qv ds'}(cZ:c.ob=(l,o)::qv)(ho':nx o'=true)(hl:c.Own l)(b6:∀p∈qv,p.1≠l):
  aN {c with ob:=(l,o')::qv,ds:=ds'} st tmps (w.putObj l o') S ρ:=by
 have s6:=h.eH (l,o) (by rw[cZ];simp);have hnl:∀b k v,w.cell? ⟨b,k,none⟩=some v→b≠l:=fun b k v hv e=>by subst e;rw[ywK s6.1 s6.2]at hv;cases hv
 have hk:aY w S (w.putObj l o') S:=fun b k hs=>by obtain⟨v,hv⟩:=h.live b k hs;exact⟨hs,yvI (hnl b k v hv)⟩
 have kv:∀b vs e fr,w.heap[b]? =some (Obj.cells vs e fr)→(w.putObj l o').heap[b]? =some (Obj.cells vs e fr):=fun b vs e fr hb=>by
  have:b≠l:=fun he=>by subst he;rw[s6.1]at hb;have:=Option.some.inj hb;rw[this]at s6;cases s6.2
  rw[World.putObj_heap_other this];exact hb
 refine{size:=h.size,ae:=fun k=>(h.ae k).keep hk ρ.le_refl,mem:=?_,inj:=h.inj,aQ:=h.aQ,cL:=h.cL.to hk ⟨(grownBy_putObj' w l o').size,fun b es clock hb=>World.putObj_heap_other (fun he=>by subst he;rw[s6.1]at hb;have:=Option.some.inj hb;rw[this]at s6;cases s6.2)⟩,tok:=?_,aV:=h.aV,
        below:=h.below.grown (grownBy_putObj' w l o') (fun k e=>by cases e;exact hl),fX:=h.fX,new:=h.new,live:=fun b k hs=>?_,b5:=fun g cs hg=>aP.keep hk g 0 cs (h.b5 g cs hg),fx:=h.fx,ex:=h.ex,eH:=?_,keeps:=fun p hp=>(h.keeps p hp).trans hk,pins:=h.pins}
 ·intro s cs hs fG;obtain⟨b,vs,e,h1,h2,h3,h4,h6⟩:=h.mem s cs hs fG;exact⟨b,vs,e,h1,h2,kv _ _ _ _ h3,af.keep hk ρ.le_refl cs _ h4,h6⟩
 ·intro t ht;obtain⟨x,h1,h2⟩:=h.tok t ht;refine⟨x,h1,?_⟩;rcases h2 with h2|⟨b,g0,g1,⟨cur,e,g2,g3⟩,g4,g5,g7,g8,g9⟩
  ·exact .inl h2
  ·exact .inr ⟨b,g0,g1,⟨cur,e,kv _ _ _ _ g2,g3⟩,g4,g5,g7,g8,g9⟩
 ·obtain⟨v,hv⟩:=h.live b k hs;exact⟨v,((hk b k hs).2).trans hv⟩
 ·intro p hp;simp only[List.mem_cons]at hp;rcases hp with rfl|hp
  ·exact⟨World.putObj_heap_same (Array.getElem?_eq_some_iff.1 s6.1).1,ho'⟩
  ·have:=h.eH p (by rw[cZ];simp[hp]);exact⟨by rw[World.putObj_heap_other (b6 p hp)];exact this.1,this.2⟩
theorem yyC(wl)(k):∀l:List (Nat×AV),aC (qP wl l) k=if ua k wl=true then .undef else aC l k
 |[]=>by simp[qP,aC]
 |(j,v)::r=>by
  have ih:=yyC wl k r;simp only[qP];by_cases hj:ua j wl=true
  ·rw[if_pos hj,ih];simp only[aC];by_cases kN:j=k
   ·subst kN;rw[if_pos hj,if_pos hj]
   ·rw[if_neg kN]
  ·rw[if_neg hj];simp only[aC];by_cases kN:j=k
   ·subst kN;rw[if_pos rfl,if_neg hj,if_pos rfl]
   ·rw[if_neg kN,if_neg kN];exact ih
theorem aN.restore{c2:Ctx}{s2 xm w2 S2 jO}(h:aN c st tmps w S ρ){wl}(h2:aN {c with kp:=fun k=>!ua k wl,t0:=tmps,ds:=[],kx:=some (w,S),ob:=c2.ob} s2 xm w2 S2 jO):
  aN {c with ob:=c2.ob,ds:=c2.ds} (s2.mP wl) tmps w2 S2 jO:=
 {size:=h.size,
  ae:=fun k=>by
   simp only[St.mP,yyC];by_cases hk:ua k wl=true
   ·rw[if_pos hk];trivial
   ·rw[if_neg hk];have:=h2.fx k (by simp only[Bool.not_eq_true]at hk;simp[hk]);have h3:=h2.ae k;rw[this]at h3;exact h3
  mem:=h2.mem,inj:=h2.inj,aQ:=h2.aQ,cL:=h2.cL,tok:=h2.tok,aV:=h2.aV,below:=h2.below,fX:=h2.fX,new:=h2.new,live:=h2.live,b5:=h2.b5,
  fx:=h.fx,ex:=h.ex,eH:=h2.eH,keeps:=fun p hp=>(h.keeps p hp).trans (h2.keeps _ rfl),pins:=h2.pins}
theorem aN.begin(h:aN c st tmps w S ρ){wl ob}(ho:∀p∈ob,w.heap[p.1]? =some p.2∧nx p.2=true):
  ∀(ps) (xs) (vs) (ae) (tm),(∀p∈ps,p<c.N∧ua p wl=true)→bA w S xs vs→xs.length=ps.length→
   aN {c with kp:=fun k=>!ua k wl,t0:=tmps,ds:=[],kx:=some (w,S),ob:=ob} {st with ae:=ae} tm w S ρ→
   aN {c with kp:=fun k=>!ua k wl,t0:=tmps,ds:=[],kx:=some (w,S),ob:=ob} {st with ae:=rj ps xs ae} ((ps.zip vs).foldl (fun t (p:Nat×Value)=>t.setIfInBounds p.1 p.2) tm) w S ρ
 |[],xs,vs,ae,tm,_,_,_,hs=>by cases xs<;>simpa[rj]using hs
 |p::ps,[],vs,ae,tm,_,_,hl,_=>by simp at hl
 |p::ps,x::xs,_,ae,tm,hp,⟨v,r,e,h1,h2⟩,hl,hs=>by subst e;simp only[rj,List.zip_cons_cons,List.foldl_cons];refine aN.begin h ho ps xs r _ _ (fun q hq=>hp q (by simp[hq])) h2 (by simpa using hl) ?_;have A8:=hp p (by simp);exact hs.put (d:=p) (a:=x.jM) (v:=v) ⟨A8.1,by simp[A8.2]⟩ (iT.r8 h1) none (fun b hb=>by cases hb)
theorem aN.Ex(h:aN c st tmps w S ρ)(wl){ob}(ho:∀p∈ob,w.heap[p.1]? =some p.2∧nx p.2=true):aN {c with kp:=fun k=>!ua k wl,t0:=tmps,ds:=[],kx:=some (w,S),ob:=ob} {st with ae:=st.ae} tmps w S ρ:=
 {size:=h.size,ae:=h.ae,mem:=h.mem,inj:=h.inj,aQ:=h.aQ,cL:=h.cL,tok:=h.tok,aV:=h.aV,below:=h.below,fX:=h.fX,new:=h.new,live:=h.live,b5:=h.b5,fx:=fun _ _=>rfl,ex:=h.ex,eH:=ho,keeps:=fun p hp=>by cases hp;exact aY.refl _ _,pins:=h.pins}
def Ctx.at(c:Ctx)(w:World)(S:Safe)(X:List Nat):Ctx:={c with w0:=w,S0:=S,X:=X}
theorem Ctx.yVJ{c:Ctx}(hx:c.P.globals.size≤c.w0.heap.size){b}(h:c.Own b):c.P.globals.size≤b:=by
 rcases h with h|h
 ·omega
 ·exact h.2
theorem jA.mono{P k0 k1 w S ρ m}(h:jA P k0 w S ρ m)(hk:∀b,k0 b→b<w.heap.size→k1 b):jA P k1 w S ρ m:=
 {at':=fun s k e cA hs=>by obtain⟨b,h1,h2,h3,h4⟩:=h.at' s k e cA hs;exact⟨b,h1,h2,hk b h3 h4.lt,h4⟩
  inj:=h.inj,new:=h.new,lt:=h.lt,apart:=h.apart}
theorem aN.base(h:aN c st tmps w S ρ){X}(hX:∀b,c.Own b→b<w.heap.size→b∈X):aN (c.at w S X) st tmps w S ρ:=by
 have np:∀b,c.Own b→b<w.heap.size→(c.at w S X).Own b:=fun b hb hl=>.inr ⟨hX b hb hl,Ctx.yVJ h.ex.1 hb⟩
 refine{size:=h.size,ae:=h.ae,mem:=fun s cs hs hm=>?_,inj:=h.inj,aQ:=h.aQ,cL:=h.cL.mono np,tok:=fun t ht=>?_,aV:=h.aV,below:=dK.refl (c.at w S X),fX:=fun _ _ hs=>hs,new:=fun _ _ hs=>.inl hs,
        live:=h.live,b5:=h.b5,fx:=h.fx,eH:=h.eH,keeps:=h.keeps,ex:=h.exact,pins:=h.pins}
 ·obtain⟨b,vs,e,h1,h2,h3,h4,h5⟩:=h.mem s cs hs hm
  exact⟨b,vs,e,h1,np b h2 (Array.getElem?_eq_some_iff.1 h3).1,h3,h4,h5⟩
 ·obtain⟨x,h1,h2⟩:=h.tok t ht
  refine⟨x,h1,?_⟩
  rcases h2 with h2|⟨b,g0,g1,⟨cur,e,g2,g3⟩,g4⟩
  ·exact .inl h2
  ·exact .inr ⟨b,g0,np b g1 (Array.getElem?_eq_some_iff.1 g2).1,⟨cur,e,g2,g3⟩,g4⟩
theorem aN.Au{W S1 X}(h:aN (c.at W S1 X) st tmps w S ρ)(hb:dK c.Own c.w0 W)(ho:∀b o,c.S0 b o→S1 b o)(hn:∀b o,S1 b o→c.S0 b o∨c.Own b)(hX:∀b∈X,c.P.globals.size≤b→c.Own b)(ex:Exact c.P c.G c.w0):aN c st tmps w S ρ:=by
 have np:∀b,(c.at W S1 X).Own b→c.Own b:=fun b nL=>by
  rcases nL with h1|⟨h1,h2⟩
  ·exact .inl (Nat.le_trans hb.size h1)
  ·exact hX b h1 h2
 refine{size:=h.size,ae:=h.ae,mem:=fun s cs hs hm=>?_,inj:=h.inj,aQ:=h.aQ,cL:=h.cL.mono fun b hb _=>np b hb,tok:=fun t ht=>?_,aV:=h.aV,below:=?_,fX:=fun b o hs=>h.fX b o (ho b o hs),new:=fun b o hs=>?_,
        live:=h.live,b5:=h.b5,fx:=h.fx,eH:=h.eH,keeps:=h.keeps,ex:=ex,pins:=h.pins}
 ·obtain⟨b,vs,e,h1,h2,h3,h4,h5⟩:=h.mem s cs hs hm;exact⟨b,vs,e,h1,np b h2,h3,h4,h5⟩
 ·obtain⟨x,h1,h2⟩:=h.tok t ht;refine⟨x,h1,?_⟩;rcases h2 with h2|⟨b,g0,g1,g2⟩
  ·exact .inl h2
  ·exact .inr ⟨b,g0,np b g1,g2⟩
 ·exact⟨h.below.os.trans hb.os,h.below.tape.trans hb.tape,h.below.output.trans hb.output,Nat.le_trans hb.size h.below.size,fun k hk=>(h.below.block k fun e=>hk (np k e)).trans (hb.block k hk)⟩
 ·rcases h.new b o hs with h1|h1
  ·exact hn b o h1
  ·exact .inr (np b h1)
theorem aN.Dz{W W' S1 S2 X base}(h:aN (c.at W S1 X) st tmps W S1 ρ)(hg:mX base (fun k=>k∈X) W S1 W' S2)(cZ:∀p∈c.ob,p.1<base)(pj:c.P.globals.size≤base):aN (c.at W' S2 X) st tmps W' S2 ρ:=by
 obtain⟨g1,g2,g3,g4⟩:=hg;have gx:∀b,(c.at W S1 X).Own b→b<W.heap.size→b∈X∧c.P.globals.size≤b:=fun b hb hl=>by
  rcases hb with h1|h1
  ·have:W.heap.size≤b:=h1;omega
  ·exact h1
 have ox:∀b,b∈X∨b<base→W'.heap[b]? =W.heap[b]? :=fun b hb=>g1.block b fun⟨e1,e2⟩=>by
  rcases hb with hb|hb
  ·exact e2 hb
  ·omega
 refine{size:=h.size,ae:=fun k=>(h.ae k).keep g2 ρ.le_refl,mem:=fun s cs hs hm=>?_,inj:=h.inj,aQ:=h.aQ,cL:={at':=fun s k e cA hs=>?_,inj:=h.cL.inj,new:=h.cL.new,lt:=fun s b hs=>Nat.lt_of_lt_of_le (h.cL.lt s b hs) g1.size,apart:=h.cL.apart},tok:=fun t ht=>?_,aV:=h.aV,
        below:=dK.refl (c.at W' S2 X),fX:=fun _ _ hs=>hs,new:=fun _ _ hs=>.inl hs,live:=g4,b5:=fun g cs hg=>aP.keep g2 g 0 cs (h.b5 g cs hg),fx:=h.fx,eH:=fun p hp=>⟨?_,(h.eH p hp).2⟩,keeps:=fun p hp=>(h.keeps p hp).trans g2,ex:=⟨?_,?_⟩,pins:=h.pins}
 ·obtain⟨b,vs,e,h1,h2,h3,h4,h5⟩:=h.mem s cs hs hm;obtain⟨k1,k2⟩:=gx b h2 (Array.getElem?_eq_some_iff.1 h3).1;exact⟨b,vs,e,h1,.inr ⟨k1,k2⟩,(ox b (.inl k1)).trans h3,af.keep g2 ρ.le_refl cs _ h4,fun o jS=>by
   rcases g3 b o jS with e1|⟨_,e2⟩
   ·exact h5 o e1
   ·exact e2 k1⟩
 ·obtain⟨b,h1,h2,h3,h4⟩:=h.cL.at' s k e cA hs;obtain⟨k1,k2⟩:=gx b h3 h4.lt;exact⟨b,h1,h2,.inr ⟨k1,k2⟩,h4.to g2 (ox b (.inl k1))⟩
 ·obtain⟨x,h1,h2⟩:=h.tok t ht;refine⟨x,h1,?_⟩;rcases h2 with h2|⟨b,q0,q1,⟨cur,e,q2,q3⟩,q4,q5,q6,q7,q8⟩
  ·exact .inl h2
  ·obtain⟨k1,k2⟩:=gx b q1 (Array.getElem?_eq_some_iff.1 q2).1;exact .inr ⟨b,q0,.inr ⟨k1,k2⟩,⟨cur,e,(ox b (.inl k1)).trans q2,q3⟩,q4,q5,fun o ho jS=>by
    rcases g3 b o jS with e1|⟨_,e2⟩
    ·exact q6 o ho e1
    ·exact e2 k1,q7,q8⟩
 ·rw[ox p.1 (.inr (cZ p hp))];exact(h.eH p hp).1
 ·exact Nat.le_trans h.ex.1 g1.size
 ·intro g cs hg hG b6;obtain⟨vs,e,fr,e1,e2⟩:=h.ex.2 g cs hg hG b6;exact⟨vs,e,fr,(ox g (.inr (Nat.lt_of_lt_of_le hg pj))).trans e1,e2⟩
theorem bA.len:∀{as} {l},bA w S as l→l.length=as.length
 |[],_,h=>by simp only[bA]at h;subst h;rfl
 |_::_,_,⟨v,r,h,_,h2⟩=>by subst h;simp[bA.len h2]
theorem M6{k}:∀{a},k∈a→ua k a=true
 |x::a,h=>by
  rcases List.mem_cons.1 h with rfl|h
  ·simp[ua]
  ·simp only[ua,M6 h];split<;>rfl
end Go.Abs
end
section
namespace Go.Abs
open Go.RowKit
variable{c:Ctx}{st:St}{tmps:Array Value}{w:World}{S:Safe}{ρ:bW}{E:ax}{T:Nat→Option Ty}
def Sound(E:ax)(P:Program)(G:Nat→Option (List D))(N:Nat)(cd:Code)(ac:AC)(ro:Option Nat):Prop:=
 ∀(m:Nat) {c:Ctx},c.P=P→c.G=G→c.N=N→(∀d∈ac.oJ,c.kp d=false)→∀{Q:AX→St→Prop} {R:Exit→Act→World→Prop},
  (∀c',Ext c c'→(ro.isSome=true→c'=c)→∀x st tmps w S ρ,aN c' st tmps w S ρ→Q x st→R x.out ⟨tmps,c'.ds⟩ w)→
  ∀{st:St} {tmps:Array Value} {w:World} {S:Safe} {ρ:bW},aN c st tmps w S ρ→cx E ac Q st→cd.wpIn (FR ro) m P R ⟨tmps,c.ds⟩ w
def AX.jump:AX→Option Code
 |.normal=>none
 |.exit i=>some (.exit i)
 |.ret=>some .ret
theorem yWD{P G N}(sw:∀f caps xs,E.It f caps xs→mY P G f caps xs){g}{ps:Array Tmp}{assign body g' a b}(u7:bQ g=some g')
  (ha:∀l,Sound E P G N assign a (some l)) (hb:∀l,Sound E P G N body b (some l)) (xM:∀p∈ps.toList,p<N) (m) {c} (pY:c.P=P) (pX:c.G=G) (qo:c.N=N) {Q} {R}
  (hR:∀c',Ext c c'→∀x st tmps w S ρ,aN c' st tmps w S ρ→Q x st→R x.out ⟨tmps,c'.ds⟩ w)
  {st} {tmps} {w} {S} {ρ} (h:aN c st tmps w S ρ) {f} {caps} (hv:ev st g'=.d (.clo f caps)) (rB:gd st g'=true) {xs} (ef:E.It f caps xs)
  (hL:Cn (fun Q'=>cx E a (jl (cx E b Q') Rr)) ps.toList (ps.toList++(a.oJ++b.oJ)) xs Q st):(Code.rangeFunc g ps assign body).wpIn (FR none) m P R ⟨tmps,c.ds⟩ w:=by
 obtain⟨Inv,Sx,hS0,hI0,zF,hQ⟩:=hL;generalize Dt:ps.toList++(a.oJ++b.oJ)=wl at zF;obtain⟨⟨WB,sX,ed,iL⟩,jH⟩:=sw _ _ _ ef;have e1:=h.ev (ds:=c.ds) u7 rB;rw[hv]at e1;obtain⟨cs,fA,fM⟩:=e1;refine wpIn_rangeFunc ?_;intro fn xaj;obtain⟨rec,tf⟩:∃rec:LoopState→Option Code→Loop,rec=fun st pe=>{state:=st,pending:=pe,fn,tmps:=tmps,params:=ps,assign,body,defers:=w.heap.size}:=⟨_,rfl⟩;obtain⟨W1,IC⟩:∃W1,(w.alloc (.deferred (some []))).alloc (.loop (rec .ready none))=W1:=⟨_,rfl⟩;have hL1:W1.heap[w.heap.size+1]? =some (.loop (rec .ready none)):=by rw[←IC];have:=World.alloc_heap_new (w.alloc (.deferred (some []))) (.loop (rec .ready none));rwa [World.size_alloc]at this
 have IA:W1.heap[w.heap.size]? =some (.deferred (some [])):=by rw[←IC];exact(Below.heap_alloc _ _ _ (by simp)).trans (World.alloc_heap_new w _)
 have iK:Below w.heap.size w W1:=by rw[←IC];exact((Below.refl _ w).alloc (Nat.le_refl _) _).alloc (by simp) _
 have zr:Live W1 S:=fun b' o hs=>by obtain⟨v,tg⟩:=h.live b' o hs;exact⟨v,(iK.cell (p:=⟨b',o,none⟩) (qh tg)).trans tg⟩
 have gL:aN c st tmps W1 S ρ:=h.grow iK (fun _ _ hs=>hs) (fun _ _ hs=>.inl hs) zr;have vZ:∀p∈c.ob,p.1<w.heap.size:=fun p hp=>(Array.getElem?_eq_some_iff.1 (h.eH p hp).1).1;let mark:Deferred:=pr w.heap.size;let qv:List (Nat×Obj):=(w.heap.size,.deferred (some []))::c.ob;have B9:∀p∈qv,p.1≠w.heap.size+1:=by
  intro p hp;simp only[qv,List.mem_cons]at hp;rcases hp with rfl|hp
  ·simp
  ·have:=vZ p hp;omega
 have sK:c.w0.heap.size≤w.heap.size+1:=Nat.le_trans h.below.size (by omega);have B3:∀o:Obj,Ext c {c with ob:=(w.heap.size+1,o)::qv,ds:=mark::c.ds}:=fun o=>⟨[(w.heap.size+1,o),(w.heap.size,.deferred (some []))],[w.heap.size],by simp[qv,mark],by simp,by simp,fun p hp q hq=>by
  have:=vZ q hq;simp at hp;rcases hp with rfl|rfl<;>simp<;>omega,fun p hp=>by
  have:=h.below.size;simp at hp;rcases hp with rfl|rfl<;>simp<;>omega⟩
 have j6:(callFunc f (#[.func (.yield (w.heap.size+1)) #[] #[]]++cs)).run P W1=.ok (.enter f (#[.func (.yield (w.heap.size+1)) #[] #[]]++cs)) W1:=by
  have gK:¬WB.name= "runtime.NumGoroutine":=by simpa using ed
  have gJ:¬WB.body=none:=by intro e;simp[e]at iL
  simp[callFunc,sX,gK,gJ]
 refine⟨w.heap.size+1,[mark],W1,{target:=.fn (.func f) cs,args:=#[.func (.yield (w.heap.size+1)) #[] #[]]},W1,f,#[.func (.yield (w.heap.size+1)) #[] #[]]++cs,W1,?_,?_,fun _ _=>trivial,?_,(by intro hd;cases hd),?_⟩
 ·rw[←IC,tf];exact run_enterLoop_outer _ _ _ _ _
 ·simp only[resolve,fA];simp[go_sem]
 ·simp only[invoke];exact j6
 have Jr:W1.heap.size=w.heap.size+2:=by rw[←IC];simp
 have pj:c.P.globals.size≤w.heap.size:=Nat.le_trans h.ex.1 h.below.size;let outer:World→Safe→List Nat→Prop:=fun W S1 X=>dK c.Own c.w0 W∧(∀b o,c.S0 b o→S1 b o)∧(∀b o,S1 b o→c.S0 b o∨c.Own b)∧(∀b∈X,c.P.globals.size≤b→c.Own b)∧(∀b∈X,b<W.heap.size)∧w.heap.size+1∈X∧W1.heap.size≤W.heap.size;have Dh:∀(o:Obj),∀p∈((w.heap.size+1,o)::qv:List (Nat×Obj)),p.1<W1.heap.size:=by
  intro o p hp;simp only[qv,List.mem_cons]at hp;rcases hp with rfl|rfl|hp
  ·rw[Jr];simp
  ·rw[Jr];simp
  ·have:=vZ p hp;omega
 have qZ:∀{W W':World} {S1 S2:Safe} {X:List Nat},outer W S1 X→mX W1.heap.size (fun k=>k∈X) W S1 W' S2→outer W' S2 X:=by
  rintro W W' S1 S2 X ⟨o1,o2,o3,o4,o5,o6,o7⟩ ⟨g1,g2,g3,g4⟩
  have XM:c.w0.heap.size≤W1.heap.size:=by have:=h.below.size;omega
  refine⟨⟨g1.os.trans o1.os,g1.tape.trans o1.tape,g1.output.trans o1.output,Nat.le_trans o1.size g1.size,fun k hk=>(g1.block k fun⟨e1,_⟩=>hk (.inl (Nat.le_trans XM e1))).trans (o1.block k hk)⟩,fun b o hs=>(g2 b o (o2 b o hs)).1,fun b o hs=>?_,o4,fun b hb=>Nat.lt_of_lt_of_le (o5 b hb) g1.size,o6,Nat.le_trans o7 g1.size⟩;rcases g3 b o hs with e1|⟨e1,_⟩
  ·exact o3 b o e1
  ·exact .inr (.inl (Nat.le_trans XM e1))
 refine SJ (FR.fw none) (Calls.mono (jH (w.heap.size+1) W1 S cs.toList
  (fun pre W S1 Y=>∃X,(∀k,Y k↔k∈X)∧outer W S1 X∧(∃st1 gq,aN (Ctx.at {c with ob:=(w.heap.size+1,.loop (rec .ready none))::qv,ds:=mark::c.ds} W S1 X) st1 tmps W S1 gq∧nF st1 (Sx pre))∧aY W1 S W S1∧Inv pre)
  (fun W S1 Y=>∃X,(∀k,Y k↔k∈X)∧outer W S1 X∧∃x jc s1 gq,AX.jump x=some jc∧aN (Ctx.at {c with ob:=(w.heap.size+1,.loop (rec .done (some jc)))::qv,ds:=mark::c.ds} W S1 X) s1 tmps W S1 gq∧Q x s1)
  (fun k=>k∈c.X.filter (fun b=>decide (b<W1.heap.size))++List.range' c.w0.heap.size (W1.heap.size-c.w0.heap.size))
  zr (pX▸pY▸⟨gL.b5,gL.exact⟩) (aS.keep (fun b' o hs=>⟨hs,by obtain⟨v,tg⟩:=h.live b' o hs;exact iK.cell (p:=⟨b',o,none⟩) (qh tg)⟩) _ _ fM) ?_ ?_ ?_ ?_ ?_ ?_) ?_)
 ·
  rintro pre W S1 Y W' S2 ⟨X,hY,nj,⟨st1,gq,fq,qq⟩,hk,I4⟩ hg
  have ID:Y=fun k=>k∈X:=funext fun k=>propext (hY k);subst ID;exact⟨X,fun _=>Iff.rfl,qZ nj hg,⟨st1,gq,fq.Dz hg (Dh _) (by show c.P.globals.size≤_;omega),qq⟩,hk.trans hg.2.1,I4⟩
 ·rintro W S1 Y W' S2 ⟨X,hY,nj,x,jc,s1,gq,hj,fq,hq⟩ hg
  have ID:Y=fun k=>k∈X:=funext fun k=>propext (hY k);subst ID;exact⟨X,fun _=>Iff.rfl,qZ nj hg,x,jc,s1,gq,hj,fq.Dz hg (Dh _) (by show c.P.globals.size≤_;omega),hq⟩
 ·rintro pre W S1 Y ⟨X,hY,nj,⟨st1,gq,fq,qq⟩,hk,_⟩
  exact⟨fq.live,hk,pX▸pY▸fq.exact,nj.2.2.2.2.2.2,fun k hk=>nj.2.2.2.2.1 k ((hY k).1 hk)⟩
 ·rintro W S1 Y ⟨X,hY,nj,x,jc,s1,gq,hj,fq,hq⟩
  exact⟨fq.live,pX▸pY▸fq.exact,nj.2.2.2.2.2.2,fun k hk=>nj.2.2.2.2.1 k ((hY k).1 hk)⟩
 ·
  rintro pre x rest W S1 Y vs hx ⟨X,hY,nj,⟨st1,gq,zG,qq⟩,hk,I4⟩ aM
  have ID:Y=fun k=>k∈X:=funext fun k=>propext (hY k);subst ID;obtain⟨o1,o2,o3,o4,o5,o6,o7⟩:=nj;obtain⟨jO,fq⟩:=nF.sound zG qq;obtain⟨hlen,Qd⟩:=zF pre x rest hx I4;have MG:=bA.len aM;have hLW:=(fq.eH (w.heap.size+1,.loop (rec .ready none)) (by simp[Ctx.at])).1;have hy:=run_yield (P:=P) (args:=vs.toArray) hLW (by rw[tf];simp[MG,hlen]);have hpN:∀p∈ps.toList,p<c.N∧ua p wl=true:=fun p hp=>⟨qo▸xM p hp,M6 (by rw[←Dt];exact List.mem_append_left _ hp)⟩;have IH:=aN.begin fq (wl:=wl) (ob:=(w.heap.size+1,.loop (rec .ready none))::qv) fq.eH ps.toList x vs (Sx pre).ae tmps hpN aM hlen (aN.Ex fq wl fq.eH);have Xv:∀(ob:List (Nat×Obj)) (ds:List Deferred) (kp:Nat→Bool) (t0:Array Value) (kx:Option (World×Safe)),Ctx.Own {Ctx.at {c with ob:=ob,ds:=ds} W S1 X with kp:=kp,t0:=t0,kx:=kx} (w.heap.size+1):=fun _ _ _ _ _=>.inr ⟨o6,by show c.P.globals.size≤_;omega⟩;rw[tf]at hy;refine⟨fn,_,assign,body,hy,roundIn_of_wpIn (F:=FR none) (n:=0) trivial ?_⟩;have tL:((ps.zip vs.toArray).foldl (fun tmps (t,a)=>tmps.setIfInBounds t a) tmps)=(ps.toList.zip vs).foldl (fun t (p:Nat×Value)=>t.setIfInBounds p.1 p.2) tmps:=by rw[←Array.foldl_toList,Array.toList_zip]
  rw[tL];have pH:∀{jump:Option Code} {s2:St} {xm:Array Value} {W3:World} {S3:Safe} {Ee:bW},aN {Ctx.at {c with ob:=(w.heap.size+1,.loop {rec .ready none with state:=.busy})::qv,ds:=[]} W S1 X with kp:=fun k=>!ua k wl,t0:=tmps,kx:=some (W,S1)} s2 xm W3 S3 Ee→
    (Instr.endRound (w.heap.size+1) jump).run P W3=.ok (.bool jump.isNone) (W3.putObj (w.heap.size+1) (.loop (rec (if jump.isNone then .ready else .done) jump)))∧
    ∃X' Y',aN (Ctx.at {c with ob:=(w.heap.size+1,.loop (rec (if jump.isNone then .ready else .done) jump))::qv,ds:=mark::c.ds} (W3.putObj (w.heap.size+1) (.loop (rec (if jump.isNone then .ready else .done) jump))) S3 X') (s2.mP wl) tmps (W3.putObj (w.heap.size+1) (.loop (rec (if jump.isNone then .ready else .done) jump))) S3 Ee∧
    (∀k,Y' k↔k∈X')∧outer (W3.putObj (w.heap.size+1) (.loop (rec (if jump.isNone then .ready else .done) jump))) S3 X'∧
    qD (fun k=>k∈X) W S1 (W3.putObj (w.heap.size+1) (.loop (rec (if jump.isNone then .ready else .done) jump))) S3 Y':=by
   intro jump s2 xm W3 S3 Ee vj;have yz:=(vj.eH (w.heap.size+1,.loop {rec .ready none with state:=.busy}) (by simp[Ctx.at])).1;have hr:=run_endRound (P:=P) jump yz;have gy:=aN.putObj (o':=.loop (rec (if jump.isNone then .ready else .done) jump)) (ds':=[]) vj rfl rfl (Xv _ _ _ _ _) B9;have rV:=aN.restore (c2:={Ctx.at {c with ob:=(w.heap.size+1,.loop (rec (if jump.isNone then .ready else .done) jump))::qv,ds:=mark::c.ds} W S1 X with ob:=(w.heap.size+1,.loop (rec (if jump.isNone then .ready else .done) jump))::qv,ds:=mark::c.ds}) fq gy;have hX2:∀b,Ctx.Own (Ctx.at {c with ob:=(w.heap.size+1,.loop (rec (if jump.isNone then .ready else .done) jump))::qv,ds:=mark::c.ds} W S1 X) b→b<(W3.putObj (w.heap.size+1) (.loop (rec (if jump.isNone then .ready else .done) jump))).heap.size→
     b∈X++List.range' W.heap.size ((W3.putObj (w.heap.size+1) (.loop (rec (if jump.isNone then .ready else .done) jump))).heap.size-W.heap.size):=fun b hb hl=>by
    rcases hb with h1|h1
    ·have h1:W.heap.size≤b:=h1;exact List.mem_append_right _ (List.mem_range'_1.2 ⟨h1,by omega⟩)
    ·exact List.mem_append_left _ h1.1
   have IG:=aN.base (X:=X++List.range' W.heap.size ((W3.putObj (w.heap.size+1) (.loop (rec (if jump.isNone then .ready else .done) jump))).heap.size-W.heap.size)) rV hX2;have C6:dK (fun k=>W.heap.size≤k∨k∈X) W (W3.putObj (w.heap.size+1) (.loop (rec (if jump.isNone then .ready else .done) jump))):=⟨rV.below.os,rV.below.tape,rV.below.output,rV.below.size,fun k hk=>rV.below.block k fun e=>hk (e.imp id fun q=>q.1)⟩;have Cf:c.w0.heap.size≤W.heap.size:=o1.size;refine⟨by rw[tf]at hr⊢;exact hr,_,_,IG,fun _=>Iff.rfl,⟨?_,fun b o hs=>rV.fX b o (o2 b o hs),fun b o hs=>?_,fun b hb hg=>?_,fun b hb=>?_,List.mem_append_left _ o6,Nat.le_trans o7 C6.size⟩,⟨C6,gy.keeps _ rfl,fun b o hs=>?_,fun k hk=>?_⟩⟩
   ·exact⟨C6.os.trans o1.os,C6.tape.trans o1.tape,C6.output.trans o1.output,Nat.le_trans o1.size C6.size,fun k hk=>(rV.below.block k fun e=>hk (by
      rcases e with e|e
      ·exact .inl (Nat.le_trans Cf e)
      ·exact o4 k e.1 e.2)).trans (o1.block k hk)⟩
   ·rcases rV.new b o hs with e|e
    ·exact o3 b o e
    ·rcases e with e|e
     ·exact .inr (.inl (Nat.le_trans Cf e))
     ·exact .inr (o4 b e.1 e.2)
   ·rcases List.mem_append.1 hb with e|e
    ·exact o4 b e hg
    ·have:=(List.mem_range'_1.1 e).1;exact .inl (Nat.le_trans Cf this)
   ·rcases List.mem_append.1 hb with e|e
    ·exact Nat.lt_of_lt_of_le (o5 b e) C6.size
    ·have:=List.mem_range'_1.1 e;have:=C6.size;omega
   ·rcases rV.new b o hs with e|e
    ·exact .inl e
    ·exact .inr (e.imp id fun q=>q.1)
   ·rcases List.mem_append.1 hk with e|e
    ·exact .inl e
    ·exact .inr (List.mem_range'_1.1 e).1
  refine ha (w.heap.size+1) 0 (c:={Ctx.at {c with ob:=(w.heap.size+1,.loop (rec .ready none))::qv,ds:=[]} W S1 X with kp:=fun k=>!ua k wl,t0:=tmps,kx:=some (W,S1)}) pY pX qo (fun d hd=>by simp[M6 (show d∈wl by rw[←Dt];simp[hd])]) ?_ IH Qd;intro c' _ ij e s2 MW W2 S2 jO jS mr;obtain rfl:=ij rfl;cases e with
  |exit i=>exact mr.elim
  |ret=>exact mr.elim
  |normal=>
  have fE:=(jS.eH (w.heap.size+1,.loop (rec .ready none)) (by simp[Ctx.at])).1;have lP:=aN.putObj (o':=.loop {rec .ready none with state:=.busy}) (ds':=[]) jS rfl rfl (Xv _ _ _ _ _) B9;refine⟨_,run_beginRound fE (by rw[tf]),?_⟩;refine hb (w.heap.size+1) 0 (c:={Ctx.at {c with ob:=(w.heap.size+1,.loop {rec .ready none with state:=.busy})::qv,ds:=[]} W S1 X with kp:=fun k=>!ua k wl,t0:=tmps,kx:=some (W,S1)}) pY pX qo (fun d hd=>by simp[M6 (show d∈wl by rw[←Dt];simp[hd])]) ?_ lP mr;intro c' _ ij e s3 X1 W3 S3 Ee vj Jm;obtain rfl:=ij rfl;cases e with
  |normal=>obtain⟨hr,X',Y',uF,Jz,Jf,GM⟩:=pH (jump:=none) vj;exact⟨_,_,hr,.inl ⟨rfl,S3,Y',⟨X',Jz,Jf,⟨_,_,uF,Jm.1⟩,hk.trans GM.2.1,Jm.2⟩,GM⟩⟩
  |exit i=>obtain⟨hr,X',Y',uF,Jz,Jf,GM⟩:=pH (jump:=some (.exit i)) vj;exact⟨_,_,hr,.inr ⟨rfl,S3,Y',⟨X',Jz,Jf,.exit i,_,_,_,rfl,uF,Jm⟩,GM⟩⟩
  |ret=>obtain⟨hr,X',Y',uF,Jz,Jf,GM⟩:=pH (jump:=some .ret) vj;exact⟨_,_,hr,.inr ⟨rfl,S3,Y',⟨X',Jz,Jf,.ret,_,_,_,rfl,uF,Jm⟩,GM⟩⟩
 ·
  have jS:aN {c with ob:=(w.heap.size+1,.loop (rec .ready none))::qv,ds:=mark::c.ds} st tmps W1 S ρ:=gL.FC (by
   intro p hp;simp only[qv,List.mem_cons]at hp;rcases hp with rfl|rfl|hp
   ·exact⟨hL1,rfl⟩
   ·exact⟨IA,rfl⟩
   ·exact gL.eH p hp)
  have Cf:c.w0.heap.size≤W1.heap.size:=gL.below.size;refine⟨_,fun _=>Iff.rfl,⟨gL.below,gL.fX,gL.new,fun b hb hg=>?_,fun b hb=>?_,?_,Nat.le_refl _⟩,⟨st,ρ,aN.base jS fun b hb hl=>?_,hS0⟩,aY.refl _ _,hI0⟩
  ·rcases List.mem_append.1 hb with e|e
   ·exact .inr ⟨(List.mem_filter.1 e).1,hg⟩
   ·exact .inl (List.mem_range'_1.1 e).1
  ·rcases List.mem_append.1 hb with e|e
   ·simpa using(List.mem_filter.1 e).2
   ·have:=List.mem_range'_1.1 e;omega
  ·exact List.mem_append_right _ (List.mem_range'_1.2 ⟨sK,by omega⟩)
  ·rcases hb with e|e
   ·have e:c.w0.heap.size≤b:=e;exact List.mem_append_right _ (List.mem_range'_1.2 ⟨e,by omega⟩)
   ·exact List.mem_append_left _ (List.mem_filter.2 ⟨e.1,by simpa using hl⟩)
 ·
  rintro e W2 ⟨v,rfl,(⟨S2,Y,X,_,⟨o1,o2,o3,o4,_⟩,⟨st1,gq,zG,qq⟩,hk,I4⟩|⟨S2,Y,X,_,⟨o1,o2,o3,o4,_⟩,x,jc,s1,gq,hj,fq,hq⟩)⟩
  ·obtain⟨jO,fq⟩:=nF.sound zG qq;have fq:=aN.Au (c:={c with ob:=(w.heap.size+1,.loop (rec .ready none))::qv,ds:=mark::c.ds}) fq o1 o2 o3 o4 h.ex;have fE:=(fq.eH (w.heap.size+1,.loop (rec .ready none)) (by simp)).1;have hr:=run_endLoop (P:=P) fE (by rw[tf];simp);have gy:=aN.putObj (o':=.loop {rec .ready none with state:=.exhausted}) (ds':=mark::c.ds) fq rfl rfl (.inl sK) B9;have hp:(rec .ready none).pending=none:=by rw[tf]
   exact⟨none,_,hr.trans (congrArg (fun p=>Result.ok p _) hp),hR _ (B3 _) .normal _ _ _ _ _ gy (hQ I4)⟩
  ·have fq:=aN.Au (c:={c with ob:=(w.heap.size+1,.loop (rec .done (some jc)))::qv,ds:=mark::c.ds}) fq o1 o2 o3 o4 h.ex;have fE:=(fq.eH (w.heap.size+1,.loop (rec .done (some jc))) (by simp)).1;have hr:=run_endLoop (P:=P) fE (by rw[tf];simp);have gy:=aN.putObj (o':=.loop {rec .done (some jc)with state:=.exhausted}) (ds':=mark::c.ds) fq rfl rfl (.inl sK) B9;have hp:(rec .done (some jc)).pending=some jc:=by rw[tf]
   refine⟨some jc,_,hr.trans (congrArg (fun p=>Result.ok p _) hp),?_⟩;cases x with
   |normal=>cases hj
   |exit i=>cases hj;exact wpIn_exit (hR _ (B3 _) (.exit i) _ _ _ _ _ gy hq)
   |ret=>cases hj;exact wpIn_ret (hR _ (B3 _) .ret _ _ _ _ _ gy hq)
end Go.Abs
end
section
namespace Go.Abs
open Go.RowKit
variable{c:Ctx}{st:St}{tmps:Array Value}{w:World}{S:Safe}{ρ:bW}{E:ax}{T:Nat→Option Ty}
theorem Ys{ops l}(h:gT T ops=some l){o}(ho:o∈ops){d:Nat}(hd:o.dst=some d):d∈l.filterMap fun p=>dP p.2:=by
 obtain⟨hlen,lh⟩:=vt h;obtain⟨k,hk,rfl⟩:=List.getElem_of_mem ho;obtain⟨gi,i,hl,wc,xO⟩:=lh k _ (List.getElem?_eq_getElem hk);refine List.mem_filterMap.2 ⟨(gi,i),List.mem_of_getElem? hl,?_⟩;have:=Ns xO;cases i<;>simp only[uf,dP,j5]at this⊢<;>first
  |(rw[hd]at this;exact this.symm)
  |(rw[hd]at this;cases this)
def noGoto(Q:Exit→Act→World→Prop):Exit→Act→World→Prop
 |.goto _,_,_=>False
 |e,a,w=>Q e a w
theorem Hs{P}{b:Frame}{a k cs w c}:step P (lone (b.atR a (.code (.scope c)::k)) cs w)=.next (lone (b.atR a (.code c:: .inScope c::k)) cs w):=
 step_lone_go (by simp[stepG,stepG.exec,Frame.atR])
theorem ywk{P}{b:Frame}{a k cs w c}:step P (lone (b.atR a (.inScope c::k)) cs w)=.next (lone (b.atR a k) cs w):=
 step_lone_go (by simp[stepG,stepG.exec,Frame.atR])
theorem zWO{F n P c Q a w}(h:c.wpIn F n P (noGoto Q) a w):(Code.scope c).wpIn F n P Q a w:=by
 intro b k cs kP hb hr;have h0:(lone (b.atR a (.code (.scope c)::k)) cs w).fenced P F:=fenced_calm hb hr rfl;obtain⟨e,qJ,ry,hq,nh⟩:=h b (.inScope c::k) cs kP hb hr;cases e with
 |normal=>exact⟨.normal,qJ,ry,hq,.head h0 Hs (StepsIn.trans nh (.one (fenced_calm hb hr rfl) ywk))⟩
 |exit id=>
  have hx:exitTo id (.inScope c::k)=exitTo id k:=by simp[exitTo]
  exact⟨.exit id,qJ,ry,hq,fun k' hk=>.head h0 Hs (nh.1 k' (by rw[hx];exact hk)),
   fun iD hk=>let ⟨k₁,h1,h2⟩:=nh.2 iD (by rw[hx];exact hk);⟨k₁,h1,.head h0 Hs h2⟩⟩
 |goto l=>exact hq.elim
 |ret=>exact⟨_,qJ,ry,hq,.of_steps (.one h0 Hs) nh⟩
 |panic ch=>exact⟨_,qJ,ry,hq,.of_steps (.one h0 Hs) nh⟩
 |outgrown=>exact⟨_,qJ,ry,hq,.of_steps (.one h0 Hs) nh⟩
theorem yk2(hG:E.G=c.G)(hC:∀f args r,E.C f args r→Ev c.P c.G f args r)(hT:∀t ty,T t=some ty→aK c.P t ty=true)(hm:c.P.follows .mixedOrders=true){id ops draw ac}(aa:tr T c.N (.region id ops draw)=some ac)
  (hw:∀d∈ac.oJ,c.kp d=false) {F} (hF:FW F) (m) {Q} {R} (hQ:∀a w,jW c (Q .normal) a w→R .normal a w) (h:aN c st tmps w S ρ) (hq:cx E ac Q st):(Code.region id ops draw).wpIn F m c.P R ⟨tmps,c.ds⟩ w:=by
 simp only[tr,Option.bind_eq_bind]at aa;cases hl:gT T ops.toList with
 |none=>simp[hl]at aa
 |some l=>
  simp only[hl,Option.bind_some]at aa;split at aa
  ·rename_i kj;have hlen:l.length=ops.toList.length:=(vt hl).1;have Dt:∀d∈l.filterMap (fun p=>dP p.2),c.kp d=false:=by
    intro d hd;split at aa
    ·split at aa
     ·split at aa
      ·cases aa;exact hw d hd
      ·split at aa
       ·cases aa;exact hw d hd
       ·cases aa;exact hw d hd
     ·exact hw d (yJn hlen aa d hd)
    ·split at aa<;> · cases aa;exact hw d hd
   have aT:∀o∈ops.toList,∀d,o.dst=some d→c.D d:=by intro o ho d hd;simp only[uL,List.all_eq_true]at kj;have:=kj o ho;exact⟨by simpa[hd]using this,Dt d (Ys hl ho hd)⟩
   split at aa
   ·rename_i B0;subst B0;split at aa
    ·rename_i jh;simp only[Bool.and_eq_true]at jh;replace jh:=jh.1;split at aa
     ·cases aa;obtain⟨B,hB,hq⟩:=hq;obtain⟨S1,gq,h1⟩:=h.sS hB;exact Tp hG hC hT hm hl aT jh hF m R hQ h1 hq
     ·split at aa
      ·cases aa;exact yZ4 hG hC hT hm hl (fun o ho d hd=>⟨aT o ho d hd,Ys hl ho hd⟩) Dt jh hF m R hQ h hq
      ·cases aa;exact Tp hG hC hT hm hl aT jh hF m R hQ h hq
    ·exact yjx hG hC hT hm hl aT aa hF m R hQ h hq
   ·rename_i B0;have:draw=false:=by simpa using B0
    subst this;split at aa
    ·cases aa;obtain⟨s,⟨ps,xM,_⟩,hq⟩:=hq;obtain⟨gq,h1⟩:=Oe h xM;refine wpIn_region ?_;rw[List.range_eq_range'];exact Sy hG hC hT hl aT hF m R hQ ops.size 0 (by omega) h1 hq
    ·cases aa;refine wpIn_region ?_;rw[List.range_eq_range'];exact Sy hG hC hT hl aT hF m R hQ ops.size 0 (by omega) h hq
  ·cases aa
theorem K3{P G N}(hG:E.G=G)(hC:∀f args r,E.C f args r→Ev P G f args r)(sw:∀f caps xs,E.It f caps xs→mY P G f caps xs)(hT:∀t ty,T t=some ty→aK P t ty=true)(hm:P.follows .mixedOrders=true):
  ∀(cd) (ac),tr T N cd=some ac→∀ro:Option Nat,(ro.isSome=true→ac.jI=true)→Sound E P G N cd ac ro:=by
 intro cd;induction cd with
 |skip=>intro ac aa ro kP m c pY pX qo hw Q R hR st tmps w S ρ h hq;cases aa;exact wpIn_skip (hR c (Ext.refl c) (fun _=>rfl) .normal _ _ _ _ _ h hq)
 |region id ops draw=>
  intro ac aa ro kP m c pY pX qo hw Q R hR st tmps w S ρ h hq;subst pY;subst pX;subst qo;refine yk2 hG hC hT hm aa hw (FR.fw ro) m ?_ h hq
  rintro⟨tm,ds⟩ w ⟨hd,cH,S',bu,h',QN⟩
  simp only at hd;subst hd;exact hR c (Ext.refl c) (fun _=>rfl) .normal _ _ _ _ _ h' QN
 |seq x y ihx ihy=>
  intro ac aa ro kP m c pY pX qo hw Q R hR st tmps w S ρ h hq;simp only[tr,Option.bind_eq_bind,Option.pure_def,Option.bind_eq_some_iff,Option.some.injEq]at aa;obtain⟨a1,h1,a2,h2,rfl⟩:=aa;simp only[AC.jI,Bool.and_eq_true]at kP;refine wpIn_seq (ihx a1 h1 ro (fun hs=>(kP hs).1) m (c:=c) pY pX qo (fun d hd=>hw d (List.mem_append_left _ hd)) (Q:=jl (cx E a2 Q) Q) ?_ h hq);intro c' ij rS e s tm w' S' bu hs hk;cases e with
  |normal=>
   refine ihy a2 h2 ro (fun hs=>(kP hs).2) m (c:=c') (by obtain⟨_,_,rfl,_⟩:=ij;exact pY) (by obtain⟨_,_,rfl,_⟩:=ij;exact pX) (by obtain⟨_,_,rfl,_⟩:=ij;exact qo)
    (fun d hd=>by obtain⟨_,_,rfl,_⟩:=ij;exact hw d (List.mem_append_right _ hd)) ?_ hs hk
   intro c2 mu y8;exact hR c2 (ij.trans mu) (fun hs=>(y8 hs).trans (rS hs))
  |exit i=>exact hR c' ij rS (.exit i) _ _ _ _ _ hs hk
  |ret=>exact hR c' ij rS .ret _ _ _ _ _ hs hk
 |cond x a b my nM=>
  intro ac aa ro kP m c pY pX qo hw Q R hR st tmps w S ρ h hq;simp only[tr,Option.bind_eq_bind,Option.pure_def,Option.bind_eq_some_iff,Option.some.injEq]at aa;obtain⟨x',hx,a1,h1,a2,h2,rfl⟩:=aa;simp only[AC.jI,Bool.and_eq_true]at kP;simp only[cx]at hq;split at hq
  ·rename_i p hp;have j6:=h.ev (ds:=c.ds) hx hq.1;rw[hp]at j6;simp only[ay,dR]at j6;exact wpIn_cond_split j6 (fun ht=>my a1 h1 ro (fun hs=>(kP hs).1) m pY pX qo (fun d hd=>hw d (List.mem_append_left _ hd)) hR h (hq.2.1 ht))
    (fun ht=>nM a2 h2 ro (fun hs=>(kP hs).2) m pY pX qo (fun d hd=>hw d (List.mem_append_right _ hd)) hR h (hq.2.2 ht))
  ·exact hq.elim
 |block id x ih=>
  intro ac aa ro kP m c pY pX qo hw Q R hR st tmps w S ρ h hq;simp only[tr,Option.bind_eq_bind,Option.pure_def,Option.bind_eq_some_iff,Option.some.injEq]at aa;obtain⟨a1,h1,rfl⟩:=aa;refine wpIn_block (ih a1 h1 ro kP m (c:=c) pY pX qo hw (Q:=je id Q) ?_ h hq);intro c' ij rS e s tm w' S' bu hs hk;cases e with
  |normal=>exact hR c' ij rS .normal _ _ _ _ _ hs hk
  |exit i=>
   simp only[je]at hk;simp only[AX.out,Exit.inBlock];split at hk
   ·rename_i hi;rw[if_pos hi];exact hR c' ij rS .normal _ _ _ _ _ hs hk
   ·rename_i hi;rw[if_neg hi];exact hR c' ij rS (.exit i) _ _ _ _ _ hs hk
  |ret=>exact hR c' ij rS .ret _ _ _ _ _ hs hk
 |scope x ih=>intro ac aa ro kP m c pY pX qo hw Q R hR st tmps w S ρ h hq;simp only[tr,Option.bind_eq_bind,Option.pure_def,Option.bind_eq_some_iff,Option.some.injEq]at aa;obtain⟨a1,h1,rfl⟩:=aa;refine zWO (ih a1 h1 ro kP m (c:=c) pY pX qo hw (Q:=Q) ?_ h hq);intro c' ij rS e s tm w' S' bu hs hk;have:=hR c' ij rS e _ _ _ _ _ hs hk;cases e<;>exact this
 |label l=>intro ac aa ro kP m c pY pX qo hw Q R hR st tmps w S ρ h hq;cases aa;exact wpIn_label (hR c (Ext.refl c) (fun _=>rfl) .normal _ _ _ _ _ h hq)
 |loop x ih=>
  intro ac aa ro kP m c pY pX qo hw Q R hR st tmps w S ρ h hq;simp only[tr,Option.bind_eq_bind,Option.pure_def,Option.bind_eq_some_iff,Option.some.injEq]at aa;obtain⟨a1,h1,rfl⟩:=aa;refine zWd ?_;have key:=hq (fun s=>∀c',Ext c c'→(ro.isSome=true→c'=c)→∀(tm:Array Value) (w:World) (S:Safe) (ρ:bW),aN c' s tm w S ρ→qF (FR ro) m P x R ⟨tm,c'.ds⟩ w) ?_
  ·exact key c (Ext.refl c) (fun _=>rfl) _ _ _ _ h
  ·intro s s1 he hb c' ij rS tm w' S' bu hs;obtain⟨gq,gL⟩:=nF.sound hs he;refine TS (ih a1 h1 ro kP m (c:=c') (by obtain⟨_,_,rfl,_⟩:=ij;exact pY) (by obtain⟨_,_,rfl,_⟩:=ij;exact pX) (by obtain⟨_,_,rfl,_⟩:=ij;exact qo)
    (fun d hd=>by obtain⟨_,_,rfl,_⟩:=ij;exact hw d hd) (Q:=jl _ Q) ?_ gL hb)
   intro c2 mu y8 e s2 MW w2 S2 jO jS hk;cases e with
   |normal=>exact hk c2 (ij.trans mu) (fun h=>(y8 h).trans (rS h)) MW w2 S2 jO jS
   |exit i=>exact hR c2 (ij.trans mu) (fun h=>(y8 h).trans (rS h)) (.exit i) _ _ _ _ _ jS hk
   |ret=>exact hR c2 (ij.trans mu) (fun h=>(y8 h).trans (rS h)) .ret _ _ _ _ _ jS hk
 |exit id=>intro ac aa ro kP m c pY pX qo hw Q R hR st tmps w S ρ h hq;cases aa;exact wpIn_exit (hR c (Ext.refl c) (fun _=>rfl) (.exit id) _ _ _ _ _ h hq)
 |ret=>intro ac aa ro kP m c pY pX qo hw Q R hR st tmps w S ρ h hq;cases aa;exact wpIn_ret (hR c (Ext.refl c) (fun _=>rfl) .ret _ _ _ _ _ h hq)
 |rangeFunc g ps assign body my nM=>
  intro ac aa ro kP m c pY pX qo hw Q R hR st tmps w S ρ h hq;simp only[tr,Option.bind_eq_bind,Option.bind_eq_some_iff]at aa;obtain⟨g',pI,a,ha,b,hb,aa⟩:=aa;split at aa
  ·rename_i uY;simp only[Bool.and_eq_true,List.all_eq_true,decide_eq_true_eq]at uY;cases aa;simp only[AC.jI]at kP;have QO:ro=none:=by cases ro with|none=>rfl|some l=>exact absurd (kP rfl) (by simp)
   subst QO;simp only[cx]at hq;split at hq
   ·rename_i f caps hv;obtain⟨rB,xs,ef,hL⟩:=hq;exact yWD sw pI (fun l=>my a ha (some l) fun _=>uY.1.1) (fun l=>nM b hb (some l) fun _=>uY.1.2) uY.2 m pY pX qo (fun c' ij=>hR c' ij (fun h=>by cases h)) h hv rB ef hL
   ·exact hq.elim
  ·cases aa
 |_=>intro ac aa;cases aa
end Go.Abs
end
section
namespace Go.Abs
open Go.RowKit
variable{c:Ctx}{st:St}{tmps:Array Value}{w:World}{S:Safe}{ρ:bW}{E:ax}{T:Nat→Option Ty}
def mD(tmps:Array Value):ResultVar→Sem Value
 |.tmp t=>pure (tmps.getD t undef)
 |.cell a t=>do loadVar t (←asAddr (tmps.getD a undef))
theorem Gy(fn)(tmps:Array Value):results fn tmps=(do
  let vs←fn.results.mapM (mD tmps)
  pure (if h:vs.size=1 then vs[0]else .tuple vs)):=rfl
theorem KE(h:aN c st tmps w S ρ)(hT:∀t ty,T t=some ty→aK c.P t ty=true){rv x}(aa:iS T rv=some x){a}(ha:pP st x=some a):
  ∃v,(mD tmps rv).run c.P w=.ok v w∧ay w S ρ a v:=by
 cases rv with
 |tmp t=>cases aa;cases ha;exact⟨_,rfl,h.ae t⟩
 |cell s t=>
  simp only[iS,Option.bind_eq_bind,Option.pure_def,Option.bind_eq_some_iff,Option.some.injEq]at aa;obtain⟨ty,dW,rfl⟩:=aa;simp only[pP]at ha;split at ha
  ·rename_i k off hk;split at ha
   ·rename_i cs dU;cases ha;have kC:=h.ae s;rw[hk]at kC;obtain⟨b,hb,hv⟩:=kC;unfold eO at dU;split at dU
    ·rename_i bx oe;split at dU
     ·rename_i bf;cases dU;obtain⟨b',vs,e,h1,h2,h3,h4,h6⟩:=h.mem k bx oe (h.iW hb oe);obtain rfl:=Option.some.inj (hb.symm.trans h1);have hlen:=af.length h4;have xN:=af.take (dd ty) (af.drop off h4);obtain⟨v,aB,lD⟩:=yzC (w:=w) (hT _ _ dW) (b:=b) (o:=off) (l:=(vs.toList.drop off).take (dd ty)) (by simp at hlen⊢;omega) (fun j v hj=>by
       rw[List.getElem?_take]at hj;split at hj
       ·simp only[List.getElem?_drop]at hj;simp[World.cell?,h3];simpa using hj
       ·cases hj)
      refine⟨v,by simp only[mD,hv];simp[asAddr,aB],?_⟩;cases pg:gv ty with
      |true=>simp only[pg,if_true]at lD;subst lD;exact⟨_,rfl,by simpa using xN⟩
      |false=>
       simp only[pg,Bool.false_eq_true,if_false]at lD;rw[lD]at xN;generalize rS:(bx.drop off).take (dd ty)=cc at xN;cases cc with
       |nil=>simp[af]at xN
       |cons a0 r0=>obtain⟨v',r',q1,q2,q3⟩:=xN;cases q1;exact q2
     ·cases dU
    ·cases dU
   ·cases ha
  ·cases ha
theorem T0(h:aN c st tmps w S ρ)(hT:∀t ty,T t=some ty→aK c.P t ty=true){S'}(hk:∀(a) (v),ay w S ρ a v→ay w S' ρ a v)(XI:Through w S' ρ st.mem):∀{Bc:List ResultVar} {rs} {l},Bc.mapM (iS T)=some rs→iu st rs=some l→
  ∃vs,(Bc.mapM (mD tmps)).run c.P w=.ok vs w∧bA w S' l vs
 |[],rs,l,aa,hl=>by simp at aa;subst aa;simp only[iu,Option.some.injEq]at hl;subst hl;exact⟨[],by simp,rfl⟩
 |rv::Bc,rs,l,aa,hl=>by
  simp only[List.mapM_cons,Option.bind_eq_bind,Option.bind_eq_some_iff,Option.pure_def,Option.some.injEq]at aa;obtain⟨x,hx,xs,ef,rfl⟩:=aa;simp only[iu]at hl;split at hl
  ·rename_i y ys hy jT;cases hl;unfold sF at hy;split at hy
   ·rename_i a ha;obtain⟨v,aB,aM⟩:=KE h hT hx ha;obtain⟨vs,wY,zC⟩:=T0 h hT hk XI ef jT;refine⟨v::vs,?_,⟨v,vs,rfl,Sg XI 4 (hk a v aM) hy,zC⟩⟩;simp only[List.mapM_cons,Sem.run_bind,aB,Result.andThen_ok,wY,Sem.run_pure]
   ·cases hy
  ·cases hl
theorem yZ6{st x r}(h:sF st x=some r):iu st [x]=some [r]:=by simp[iu,h]
theorem yy5{st}:∀{rs} {l},iu st rs=some l→l.length=rs.length
 |[],l,h=>by simp only[iu,Option.some.injEq]at h;subst h;rfl
 |x::xs,l,h=>by
  simp only[iu]at h;split at h
  ·cases h;simp[yy5 ‹_›]
  ·cases h
theorem zKp:∀{args} {vs} {k},bA w S args vs→∀j,ay w S ρ (aC (cK k args) j) (if j<k then undef else vs.getD (j-k) undef)∨aC (cK k args) j=.undef
 |[],vs,k,h,j=>.inr rfl
 |x::xs,_,k,⟨v,r,h,h1,h2⟩,j=>by
  subst h;simp only[cK,aC];by_cases hj:k=j
  ·subst hj;rw[if_pos rfl];left;simpa using iT.r8 h1
  ·rw[if_neg hj];rcases zKp (k:=k+1) h2 j with h3|h3
   ·by_cases kN:j<k
    ·right;have:∀(args:List CV) (k j:Nat),j<k→aC (cK k args) j=.undef:=by
      intro args;induction args with
      |nil=>intro k j _;rfl
      |cons a as ih=>intro k j kN;simp only[cK,aC];rw[if_neg (by omega)];exact ih (k+1) j (by omega)
     exact this xs (k+1) j (by omega)
    ·left;rw[if_neg (by omega)]at h3;rw[if_neg kN];have e:j-k=(j-(k+1))+1:=by omega
     rw[e];simpa using h3
   ·exact .inr h3
theorem bA.length:∀{as} {l},bA w S as l→l.length=as.length
 |[],_,h=>by simp only[bA]at h;subst h;rfl
 |_::_,_,⟨v,r,h,_,h2⟩=>by subst h;simp[bA.length h2]
theorem aN.shut(h:aN c st tmps w S ρ){D}(cZ:(D,Obj.deferred (some []))∈c.ob)(hl:c.w0.heap.size≤D):aN {c with ob:=c.ob.filter (fun p=>!(p.1==D))} st tmps (w.putObj D (.deferred none)) S ρ:=by
 have h0:=h.eH _ cZ;have h1:aN {c with ob:=(D,.deferred (some []))::c.ob.filter (fun p=>!(p.1==D)),ds:=c.ds} st tmps w S ρ:=h.FC (fun p hp=>by
  simp only[List.mem_cons]at hp;rcases hp with rfl|hp
  ·exact h0
  ·exact h.eH p (List.mem_filter.1 hp).1)
 have h2:=aN.putObj (o':=.deferred none) (ds':=c.ds) h1 rfl rfl (.inl hl) (fun p hp=>by simpa using(List.mem_filter.1 hp).2);exact h2.FC (fun p hp=>h2.eH p (by simp[hp]))
theorem Oi{fn R P}(pH:∀(c') (w'),c'.P=c.P→c'.G=c.G→c'.w0=c.w0→c'.S0=c.S0→c'.X=c.X→c'.kx=c.kx→c'.mB=c.mB→c'.fI=c.fI→aN c' st tmps w' S ρ→∃v,(results fn tmps).run P w'=.ok v w'∧R (.returned v) w'):
  ∀(Ds:List Nat) {ob} {w},Ds.Nodup→(∀D∈Ds,(D,Obj.deferred (some []))∈ob)→(∀D∈Ds,c.w0.heap.size≤D)→aN {c with ob:=ob} st tmps w S ρ→LeavesInM Fence.wide 0 P fn tmps R (Ds.map pr) .returning w
 |[],ob,w,_,_,_,h=>pH {c with ob:=ob} _ rfl rfl rfl rfl rfl rfl rfl rfl h
 |D::Ds,ob,w,hn,hm,hb,h=>by obtain⟨A6,wU⟩:=List.nodup_cons.1 hn;have hk:=(h.eH _ (hm D (by simp))).1;refine⟨by simp,.inl ⟨D,_,rfl,run_takeDeferred hk,?_⟩⟩;refine Oi pH Ds wU (fun D' Me=>List.mem_filter.2 ⟨hm D' (by simp[Me]),by simp;rintro rfl;exact A6 Me⟩) (fun D' Me=>hb D' (by simp[Me])) (h.shut (hm D (by simp)) (hb D (by simp)))
def xw(P:Program)(w:World)(S:Safe)(X:List Nat)(sz:Nat)(es:List (List D)):Ending→World→Prop:=fun e w'=>∃v S',e=.returned v∧dR w' S' (.aw es) v∧(∀e∈es,e.length=sz)∧Room (mZ P w X) w' S' sz v∧dK (mZ P w X) w w'∧aY w S w' S'∧(∀b o,S' b o→S b o∨mZ P w X b)∧Live w' S'
theorem Ctx.xzv{c:Ctx}{P w X}(h1:c.P=P)(h2:c.w0=w)(h3:c.X=X):c.Own=mZ P w X:=by
 subst h1 h2 h3;rfl
theorem ZZ{P G w S N fn rs X sz es}{T:Nat→Option Ty}(hT:∀t ty,T t=some ty→aK P t ty=true)(ic:fn.results.toList.mapM (iS T)=some rs)
  {c'} (hc:Ext {P:=P,G:=G,w0:=w,S0:=S,N:=N,X:=X,kx:=some (w,S)} c') {st} {tmps} {w'} {S'} {bu} (hs:aN c' st tmps w' S' bu) (iV:nB st sz es rs):LeavesInM Fence.wide 0 P fn tmps (xw P w S X sz es) c'.ds .returning w':=by
 obtain⟨xR,Ds,rfl,h1,h2,h3,h4⟩:=hc;simp only[List.append_nil];refine Oi (c:={P:=P,G:=G,w0:=w,S0:=S,N:=N,X:=X,kx:=some (w,S),ds:=(Ds.map pr)}) ?_ Ds (ob:=xR) h1 h2 (fun D hD=>h4 _ (h2 D hD)) (by simpa using hs);intro c2 w2 e1 e2 e3 e4 e5 e6 _ _ hs;simp only at e1 e2 e3 e4 e5 e6;have np:=Ctx.xzv e1 e3 e5;cases rs with
 |nil=>exact iV.elim
 |cons x rs=>
 cases rs with
 |cons y rs=>exact iV.elim
 |nil=>
 have vh:∃rv,fn.results.toList=[rv]∧iS T rv=some x:=by
  generalize fn.results.toList=l at ic;cases l with
  |nil=>simp at ic
  |cons rv l=>
   simp only[List.mapM_cons,Option.bind_eq_bind,Option.bind_eq_some_iff,Option.pure_def,Option.some.injEq]at ic;obtain⟨x',hx,xs,ef,ic⟩:=ic;cases ic;cases l with
   |nil=>exact⟨rv,rfl,hx⟩
   |cons rv2 l=>simp only[List.mapM_cons,Option.bind_eq_bind,Option.bind_eq_some_iff,Option.pure_def,Option.some.injEq]at ef;obtain⟨_,_,_,_,ef⟩:=ef;cases ef
 obtain⟨rv,XF,Lz⟩:=vh;have pH:∀v,(mD tmps rv).run c2.P w2=.ok v w2→(results fn tmps).run P w2=.ok v w2:=by
  intro v aB;have aB:(mD tmps rv).run P w2=.ok v w2:=by rw[←e1];exact aB
  rw[Gy,Array.mapM_eq_mapM_toList,XF];simp only[List.mapM_cons,List.mapM_nil,Sem.run_bind,Sem.run_map,aB];simp
 have ma:dK (mZ P w X) w w2∧aY w S w2 S'∧(∀b o,S' b o→S b o∨mZ P w X b)∧Live w2 S':=by
  refine⟨?_,hs.keeps (w,S) e6,fun b o fg=>?_,hs.live⟩
  ·have:=hs.below;unfold kn at this;rw[np,e3]at this;exact this
  ·have:=hs.new b o fg;rw[np,e4]at this;exact this
 simp only[nB]at iV;split at iV
 ·rename_i t rn GJ ha;obtain⟨rfl,rfl,ht⟩:=iV;obtain⟨v,aB,hl,hlen,base,n,cap,eE,hv⟩:=KE hs (e1▸hT) Lz ha;refine⟨v,pH v aB,v,S',rfl,hl,hlen,⟨base,n,cap,hv,?_⟩,ma⟩;obtain⟨y,g1,g2⟩:=hs.tok t ht;rw[eE]at g1;cases g1;rcases g2 with g2|⟨b,k0,k1,k2,k3,k4,k5,k6,k7⟩
  ·exact .inl g2
  ·exact .inr ⟨b,k0,np▸k1,k2,k3,k4,k5⟩
 ·rename_i GJ ha;obtain⟨rfl,hlen⟩:=iV;obtain⟨v,aB,hl,base,n,hv⟩:=KE hs (e1▸hT) Lz ha;exact⟨v,pH v aB,v,S',rfl,hl,hlen,⟨base,n,n,hv,.inl rfl⟩,ma⟩
 ·exact iV.elim
def yD(w:World)(S:Safe)(r:CV):Ending→World→Prop:=fun e w'=>∃v S',e=.returned v∧iT w' S' r v∧Below w.heap.size w w'∧(∀b o,S b o→S' b o)∧(∀b o,S' b o→S b o∨w.heap.size≤b)∧Live w' S'
theorem Nh{P G w S N fn rs r}{T:Nat→Option Ty}(hT:∀t ty,T t=some ty→aK P t ty=true)(ic:fn.results.toList.mapM (iS T)=some rs)
  {c'} (hc:Ext {P:=P,G:=G,w0:=w,S0:=S,N:=N} c') {st} {tmps} {w'} {S'} {bu} (hs:aN c' st tmps w' S' bu) (iV:rh st r rs):LeavesInM Fence.wide 0 P fn tmps (yD w S r) c'.ds .returning w':=by
 obtain⟨xR,Ds,rfl,h1,h2,h3,h4⟩:=hc;simp only[List.append_nil];refine Oi (c:={P:=P,G:=G,w0:=w,S0:=S,N:=N,ds:=(Ds.map pr)}) ?_ Ds (ob:=xR) h1 h2 (fun D hD=>h4 _ (h2 D hD)) (by simpa using hs);intro c2 w2 e1 e2 e3 e4 e5 _ _ _ hs;obtain⟨S2,tQ,C0,e3',L6,e5'⟩:=hs.close;simp only at e1 e2 e3 e4;have hl:∃l,iu st rs=some l∧((∃y,rs=[y]∧l=[r])∨(rs.length≠1∧r=.tup l)):=by
  unfold rh at iV;split at iV
  ·rename_i y;exact⟨[r],yZ6 iV,.inl ⟨y,rfl,rfl⟩⟩
  ·rename_i b6;split at iV
   ·rename_i l hl;refine⟨l,hl,.inr ⟨fun h1=>?_,iV⟩⟩;obtain⟨y,hy⟩:=List.length_eq_one_iff.1 h1;exact b6 y hy
   ·exact iV.elim
 obtain⟨l,hl,y7⟩:=hl;obtain⟨vs,aB,aM⟩:=T0 hs (e1▸hT) L6 e5' ic hl;rw[e1]at aB;have MG:=bA.length aM;have sY:=yy5 hl;have iN:(results fn tmps).run P w2=.ok (if h:vs.toArray.size=1 then vs.toArray[0]else .tuple vs.toArray) w2:=by rw[Gy,Array.mapM_eq_mapM_toList];have uE:(fn.results.toList.mapM (mD tmps)).run P w2=.ok vs w2:=aB;simp only[Sem.run_bind,Sem.run_map,uE];simp
 have iK:Below w.heap.size w w2:=by have:=hs.below.below e5;rwa [e3]at this
 refine⟨_,iN,_,S2,rfl,?_,iK,fun b o fg=>tQ b o (hs.fX b o (e4▸fg)),fun b o fg=>?_,e3'⟩
 ·rcases y7 with⟨y,hy,Gj⟩|⟨b6,iD⟩
  ·subst Gj;obtain⟨v,r',q1,q2,q3⟩:=aM;simp only[bA]at q3;subst q3;subst q1;simpa using q2
  ·rw[dif_neg (by simp;omega),iD];exact⟨_,rfl,by simpa using aM⟩
 ·rcases C0 b o fg with h1|h1
  ·rcases hs.new b o h1 with h2|h2
   ·exact .inl (e4▸h2)
   ·exact .inr (e3▸Ctx.G3 e5 h2)
  ·exact .inr (e3▸Ctx.G3 e5 h1)
theorem Kl{P G w S}{fn:Func}{args aW}(hn:args.length≤fn.ntmps)(dy:Live w S)(jo:fh P G w S)(bU:bA w S args aW.toList):
  aN {P:=P,G:=G,w0:=w,S0:=S,N:=fn.ntmps} ⟨cK 0 args,[],[]⟩ (aW++Array.replicate (fn.ntmps-aW.size) undef) w S ⟨fun _=>none,fun _=>none,fun _=>none⟩:=by
 have hlen:=bA.length bU
 simp only[Array.length_toList]at hlen
 refine{size:=by simp;omega,ae:=fun k=>?_,mem:=fun s cs hs=>(by simp[getM]at hs),inj:=fun s s' b hs=>(by cases hs),aQ:=fun _ _=>rfl,cL:={at':=fun s k e cA hs=>(by simp[getM]at hs),inj:=fun s s' b hs=>(by cases hs),new:=fun _ _=>rfl,lt:=fun s b hs=>(by cases hs),apart:=fun s b hs=>(by cases hs)},tok:=fun t ht=>(by simp[aE]at ht),aV:=fun _ _=>rfl,
        below:=dK.refl _,fX:=fun _ _ hs=>hs,new:=fun _ _ hs=>.inl hs,live:=dy,b5:=jo.1,ex:=jo.2,fx:=fun k hk=>(by cases hk),eH:=fun p hp=>(by cases hp),keeps:=fun p hp=>(by cases hp),pins:=pb.nil rfl rfl}
 rcases zKp (ρ:=⟨fun _=>none,fun _=>none,fun _=>none⟩) (k:=0) bU k with h1|h1
 ·rw[if_neg (by omega)]at h1
  have:(aW++Array.replicate (fn.ntmps-aW.size) undef).getD k undef=aW.toList.getD (k-0) undef:=by
   simp only[Array.getD_eq_getD_getElem?,Nat.sub_zero,List.getD_eq_getElem?_getD,Array.getElem?_toList]
   by_cases hk:k<aW.size
   ·rw[Array.getElem?_append_left hk]
   ·have oq:aW[k]? =none:=Array.getElem?_eq_none (by omega)
    rw[Array.getElem?_append_right (by omega),oq]
    by_cases lO:k-aW.size<fn.ntmps-aW.size
    ·simp[lO]
    ·simp[lO]
  rw[this];exact h1
 ·rw[h1];trivial
theorem yXB{P G w S}{fn:Func}{args aW X sz a}(hn:args.length≤fn.ntmps)(dy:Live w S)(jo:fh P G w S)(bU:bA w S args aW.toList)(hX:vD P w S X args aW.toList sz a):
  ∃ρ,aN {P:=P,G:=G,w0:=w,S0:=S,N:=fn.ntmps,X:=X,kx:=some (w,S)} (uI args sz a) (aW++Array.replicate (fn.ntmps-aW.size) undef) w S ρ:=by
 have h0:=Kl hn dy jo bU;have h1:aN {P:=P,G:=G,w0:=w,S0:=S,N:=fn.ntmps,X:=X,kx:=some (w,S)} ⟨cK 0 args,[],[]⟩ (aW++Array.replicate (fn.ntmps-aW.size) undef) w S ⟨fun _=>none,fun _=>none,fun _=>none⟩:=
  {size:=h0.size,ae:=h0.ae,mem:=fun s cs hs=>(by simp[getM]at hs),inj:=fun s s' b hs=>(by cases hs),aQ:=fun _ _=>rfl,cL:={at':=fun s k e cA hs=>(by simp[getM]at hs),inj:=fun s s' b hs=>(by cases hs),new:=fun _ _=>rfl,lt:=fun s b hs=>(by cases hs),apart:=fun s b hs=>(by cases hs)},tok:=fun t ht=>(by simp[aE]at ht),aV:=fun _ _=>rfl,
   below:=dK.refl _,fX:=fun _ _ hs=>hs,new:=fun _ _ hs=>.inl hs,live:=dy,b5:=jo.1,ex:=jo.2,fx:=fun k hk=>(by cases hk),eH:=fun p hp=>(by cases hp),keeps:=fun p hp=>(by cases hp;exact aY.refl _ _),pins:=pb.nil rfl rfl}
 cases a with
 |none=>exact⟨_,h1⟩
 |some k=>
  obtain⟨es,v,g1,g2,g3,base,n,cap,hv,hr⟩:=hX;obtain⟨bu,hle,eE,hs⟩:=h1.lq (d:=k) rfl none (tk':=[(k,true)]) (fun t=>by
   simp only[aE,reduceCtorEq,if_false];by_cases ht:k=t
   ·subst ht;simp
   ·rw[if_neg ht,if_neg (fun e=>ht e.symm)]) (base,n,cap,sz) (by
   rcases hr with hr|⟨b,k0,⟨k1,k1'⟩,k2,k3,k4,k5⟩
   ·exact .inl hr
   ·exact .inr ⟨b,k0,.inr ⟨by rw[k1];simp,k1'⟩,k2,k3,k4,k5,fun s hs=>(by cases hs),fun t b' y _ ht=>(by simp[aE]at ht)⟩)
  refine⟨bu,?_⟩;have hk:args.getD k (.one .jY)=.one (.aw es):=by simp[List.getD,g1]
  simp only[uI,hk];refine{hs with ae:=fun j=>?_};simp only[aC];by_cases hj:k=j
  ·subst hj;rw[if_pos rfl];have fA:(aW++Array.replicate (fn.ntmps-aW.size) undef).getD k undef=v:=by
    have WD:aW[k]? =some v:=by simpa using g3
    have bf:=(Array.getElem?_eq_some_iff.1 WD).1;rw[Array.getD_eq_getD_getElem?,Array.getElem?_append_left bf,WD];rfl
   rw[fA];have aM:∀{args:List CV} {l:List Value} {k:Nat} {v:Value} {es:List (List D)},bA w S args l→args[k]? =some (.one (.aw es))→l[k]? =some v→dR w S (.aw es) v:=by
    intro args;induction args with
    |nil=>intro l k v es _ h1;simp at h1
    |cons x xs ih=>
     intro l k v es ⟨v',r,e,q1,q2⟩ h1 h2;subst e;cases k with
     |zero=>simp at h1 h2;subst h1 h2;exact q1
     |succ k=>exact ih q2 (by simpa using h1) (by simpa using h2)
   exact⟨aM bU g1 g3,g2,base,n,cap,eE,hv⟩
  ·rw[if_neg hj];exact hs.ae j
def Ib(E:ax)(f:bL)(args:List CV)(r:CV):Prop:=args.length≤f.n∧cx E f.ac (wv f.rs r) ⟨cK 0 args,[],[]⟩
theorem yvR{P G f fn fa args a sz es}(hf:P.funcs[f]? =some fn)(aa:kT T fn=some fa)
  (hC:∀f args r,E.C f args r→Ev P G f args r) (sw:∀f caps xs,E.It f caps xs→mY P G f caps xs) (hG:E.G=G) (hT:∀t ty,T t=some ty→aK P t ty=true) (hm:P.follows .mixedOrders=true) (h:args.length≤fa.n∧cx E fa.ac (xe fa.rs sz es) (uI args sz a)):tF P G f args a sz es:=by
 simp only[kT]at aa;split at aa
 ·cases aa
 ·rename_i ed;simp only[Option.bind_eq_bind,Option.pure_def,Option.bind_eq_some_iff,Option.some.injEq]at aa;obtain⟨cd,qe,ac,nH,rs,ic,rfl⟩:=aa;obtain⟨hn,qS⟩:=h;simp only at hn qS;refine⟨⟨fn,hf,by simpa using ed,by simp[qe]⟩,?_⟩;intro w S aW X dy jo bU hX;obtain⟨ρ,fq⟩:=yXB (P:=P) hn dy jo bU hX;refine callsIn_wide.1 (callsIn_of_wp_marks (n:=0) (R:=xw P w S X sz es) hf qe trivial ?_);refine K3 hG hC sw hT hm cd ac nH none (fun h=>by cases h) 0 (c:={P:=P,G:=G,w0:=w,S0:=S,N:=fn.ntmps,X:=X,kx:=some (w,S)}) rfl rfl rfl (fun _ _=>rfl) ?_ fq qS;intro c' ij _ x st tmps w' S' bu hs hr;cases x with
  |normal=>exact ZZ hT ic ij hs hr
  |exit i=>exact hr.elim
  |ret=>exact ZZ hT ic ij hs hr
theorem TC{P G f fn fa args r}(hf:P.funcs[f]? =some fn)(aa:kT T fn=some fa)
  (hC:∀f args r,E.C f args r→Ev P G f args r) (sw:∀f caps xs,E.It f caps xs→mY P G f caps xs) (hG:E.G=G) (hT:∀t ty,T t=some ty→aK P t ty=true) (hm:P.follows .mixedOrders=true) (h:Ib E fa args r):Er P G f args r:=by
 simp only[kT]at aa;split at aa
 ·cases aa
 ·rename_i ed;simp only[Option.bind_eq_bind,Option.pure_def,Option.bind_eq_some_iff,Option.some.injEq]at aa;obtain⟨cd,qe,ac,nH,rs,ic,rfl⟩:=aa;obtain⟨hn,qS⟩:=h;simp only at hn qS;refine⟨⟨fn,hf,by simpa using ed,by simp[qe]⟩,?_⟩;intro w S aW dy jo bU;have fq:=Kl (P:=P) hn dy jo bU;refine callsIn_wide.1 (callsIn_of_wp_marks (n:=0) (R:=yD w S r) hf qe trivial ?_);refine K3 hG hC sw hT hm cd ac nH none (fun h=>by cases h) 0 (c:={P:=P,G:=G,w0:=w,S0:=S,N:=fn.ntmps}) rfl rfl rfl (fun _ _=>rfl) ?_ fq qS;intro c' ij _ x st tmps w' S' bu hs hr;cases x with
  |normal=>exact Nh hT ic ij hs hr
  |exit i=>exact hr.elim
  |ret=>exact Nh hT ic ij hs hr
theorem zWa(h:aN c st tmps w S ρ)(hT:∀t ty,T t=some ty→aK c.P t ty=true):∀{Bc:List ResultVar} {rs} {l},Bc.mapM (iS T)=some rs→fZ st rs=some l→
  ∃vs,(Bc.mapM (mD tmps)).run c.P w=.ok vs w∧bA w S l vs
 |[],rs,l,aa,hl=>by simp at aa;subst aa;simp only[fZ,Option.some.injEq]at hl;subst hl;exact⟨[],by simp,rfl⟩
 |rv::Bc,rs,l,aa,hl=>by
  simp only[List.mapM_cons,Option.bind_eq_bind,Option.bind_eq_some_iff,Option.pure_def,Option.some.injEq]at aa;obtain⟨x,hx,xs,ef,rfl⟩:=aa;simp only[fZ]at hl;split at hl
  ·rename_i y ys hy jT;cases hl;unfold rf at hy;split at hy
   ·rename_i a ha;obtain⟨v,aB,aM⟩:=KE h hT hx ha;obtain⟨vs,wY,zC⟩:=zWa h hT ef jT;refine⟨v::vs,?_,⟨v,vs,rfl,Sg (m:=[]) xX 1 aM hy,zC⟩⟩;simp only[List.mapM_cons,Sem.run_bind,aB,Result.andThen_ok,wY,Sem.run_pure]
   ·cases hy
  ·cases hl
theorem yjz{st x r}(h:rf st x=some r):fZ st [x]=some [r]:=by simp[fZ,h]
theorem yzz{st}:∀{rs} {l},fZ st rs=some l→l.length=rs.length
 |[],l,h=>by simp only[fZ,Option.some.injEq]at h;subst h;rfl
 |x::xs,l,h=>by
  simp only[fZ]at h;split at h
  ·cases h;simp[yzz ‹_›]
  ·cases h
theorem bA.xa:∀{as} {l},bA w S as l→l.length=as.length
 |[],_,h=>by simp only[bA]at h;subst h;rfl
 |_::_,_,⟨v,r,h,_,h2⟩=>by subst h;simp[bA.xa h2]
theorem aN.J9{m1 t1 c tmps w S ρ}(h:aN c ⟨[],m1,t1⟩ tmps w S ρ):aN (sQ c.P c.G c.w0 c.S0 c.X c.mB c.fI c.kx) ⟨[],m1,t1⟩ #[] w S ρ:=
 {size:=rfl,ae:=fun _=>trivial,mem:=h.mem,inj:=h.inj,aQ:=h.aQ,cL:=h.cL,tok:=h.tok,aV:=h.aV,below:=h.below,fX:=h.fX,new:=h.new,live:=h.live,b5:=h.b5,ex:=h.ex,
  fx:=fun k hk=>(by cases hk),eH:=fun p hp=>(by cases hp),keeps:=h.keeps,pins:=⟨fun p hp=>⟨Nat.zero_le _,(h.pins.1 p hp).2⟩,fun p hp=>⟨Nat.zero_le _,(h.pins.2 p hp).2⟩⟩}
def yE(P:Program)(G:Nat→Option (List D))(w:World)(S:Safe)(X:List Nat)(mB fI:List (Nat×Nat))(r:CV)(m1:Mem)(t1:List (Nat×Bool)):Ending→World→Prop:=fun e w'=>
 ∃v S' bu,e=.returned v∧xy w' S' bu r v∧aN (sQ P G w S X mB fI (some (w,S))) ⟨[],m1,t1⟩ #[] w' S' bu
theorem ZY{P G w S N fn rs X mB fI r m1 t1}{T:Nat→Option Ty}(hT:∀t ty,T t=some ty→aK P t ty=true)(ic:fn.results.toList.mapM (iS T)=some rs)
  {c'} (hc:Ext {P:=P,G:=G,w0:=w,S0:=S,N:=N,X:=X,mB:=mB,fI:=fI,kx:=some (w,S)} c') {st} {tmps} {w'} {S'} {bu} (hs:aN c' st tmps w' S' bu) (iV:Ah st r m1 t1 rs):LeavesInM Fence.wide 0 P fn tmps (yE P G w S X mB fI r m1 t1) c'.ds .returning w':=by
 obtain⟨xR,Ds,rfl,h1,h2,h3,h4⟩:=hc;simp only[List.append_nil];refine Oi (c:={P:=P,G:=G,w0:=w,S0:=S,N:=N,X:=X,mB:=mB,fI:=fI,kx:=some (w,S),ds:=(Ds.map pr)}) ?_ Ds (ob:=xR) h1 h2 (fun D hD=>h4 _ (h2 D hD)) (by simpa using hs);intro c2 w2 e1 e2 e3 e4 e5 e6 e7 e8 hs;simp only at e1 e2 e3 e4 e5 e6 e7 e8;unfold Ah at iV;split at iV
 ·rename_i s ee off n cap;obtain⟨k,rfl,qq⟩:=iV;obtain⟨gq,gL⟩:=qq.sound hs;have jS:=aN.J9 (m1:=m1) (t1:=t1) {gL with ae:=fun _=>trivial};rw[e1,e2,e3,e4,e5,e6,e7,e8]at jS;cases Mz:fn.results.toList with
  |nil=>rw[Mz]at ic;simp at ic
  |cons rv Bc=>
  rw[Mz]at ic;simp only[List.mapM_cons,Option.bind_eq_bind,Option.bind_eq_some_iff,Option.pure_def,Option.some.injEq,List.cons.injEq]at ic;obtain⟨x,hx,xs,ef,rfl,rfl⟩:=ic;have il:Bc=[]:=by
   cases Bc with
   |nil=>rfl
   |cons _ _=>simp[List.mapM_cons,Option.bind_eq_some_iff]at ef
  subst il;obtain⟨v,aB,aM⟩:=KE gL (e1▸hT) hx (a:=.vec s ee off n cap) (by simp[pP,aC]);rw[e1]at aB;refine⟨v,?_,v,_,gq,rfl,aM,jS⟩;rw[Gy,Array.mapM_eq_mapM_toList];simp only[Mz,List.mapM_cons,List.mapM_nil,Sem.run_bind,Sem.run_map];simp[aB]
 rename_i QJ;obtain⟨iV,qq⟩:=iV;have hl:∃l,fZ st rs=some l∧((∃y,rs=[y]∧l=[r])∨(rs.length≠1∧r=.tup l)):=by
  split at iV
  ·rename_i y;exact⟨[r],yjz iV,.inl ⟨y,rfl,rfl⟩⟩
  ·rename_i b6;split at iV
   ·rename_i l hl;refine⟨l,hl,.inr ⟨fun h1=>?_,iV⟩⟩;obtain⟨y,hy⟩:=List.length_eq_one_iff.1 h1;exact b6 y hy
   ·exact iV.elim
 obtain⟨l,hl,y7⟩:=hl;obtain⟨vs,aB,aM⟩:=zWa hs (e1▸hT) ic hl;rw[e1]at aB;have MG:=bA.xa aM;have sY:=yzz hl;have iN:(results fn tmps).run P w2=.ok (if h:vs.toArray.size=1 then vs.toArray[0]else .tuple vs.toArray) w2:=by rw[Gy,Array.mapM_eq_mapM_toList];have uE:(fn.results.toList.mapM (mD tmps)).run P w2=.ok vs w2:=aB;simp only[Sem.run_bind,Sem.run_map,uE];simp
 obtain⟨gq,gL⟩:=qq.sound hs;have jS:=gL.J9;rw[e1,e2,e3,e4,e5,e6,e7,e8]at jS;refine⟨_,iN,_,_,gq,rfl,?_,jS⟩;rcases y7 with⟨y,hy,Gj⟩|⟨b6,iD⟩
 ·subst Gj;obtain⟨v,r',q1,q2,q3⟩:=aM;simp only[bA]at q3;subst q3;subst q1;cases r<;>first|(simpa[xy]using q2)|exact absurd rfl (QJ _ _ _ _ _)
 ·rw[dif_neg (by simp;omega),iD];exact⟨_,rfl,by simpa using aM⟩
theorem Zd:∀{args} {vs} {k},af w S ρ args vs→∀j,ay w S ρ (aC (mb k args) j) (if j<k then undef else vs.getD (j-k) undef)∨aC (mb k args) j=.undef
 |[],vs,k,h,j=>.inr rfl
 |x::xs,_,k,⟨v,r,h,h1,h2⟩,j=>by
  subst h;simp only[mb,aC];by_cases hj:k=j
  ·subst hj;rw[if_pos rfl];left;simpa using h1
  ·rw[if_neg hj];rcases Zd (k:=k+1) h2 j with h3|h3
   ·by_cases kN:j<k
    ·right;have:∀(args:List AV) (k j:Nat),j<k→aC (mb k args) j=.undef:=by
      intro args;induction args with
      |nil=>intro k j _;rfl
      |cons a as ih=>intro k j kN;simp only[mb,aC];rw[if_neg (by omega)];exact ih (k+1) j (by omega)
     exact this xs (k+1) j (by omega)
    ·left;rw[if_neg (by omega)]at h3;rw[if_neg kN];have e:j-k=(j-(k+1))+1:=by omega
     rw[e];simpa using h3
   ·exact .inr h3
theorem yXA{P G w S}{fn:Func}{as aW X mB fI m0 t0 ρ}(hn:as.length≤fn.ntmps)(hN:fn.ntmps≤1000)
  (h:aN (sQ P G w S X mB fI none) ⟨[],m0,t0⟩ #[] w S ρ) (hp:∀p∈mB,1000≤p.1) (hm:∀p∈fI,1000≤p.1) (bU:af w S ρ as aW.toList):
  aN {P:=P,G:=G,w0:=w,S0:=S,N:=fn.ntmps,X:=X,mB:=mB,fI:=fI,kx:=some (w,S)} ⟨mb 0 as,m0,t0⟩ (aW++Array.replicate (fn.ntmps-aW.size) undef) w S ρ:=by
 have hlen:=af.length bU
 simp only[Array.length_toList]at hlen
 refine{size:=by simp;omega,ae:=fun k=>?_,mem:=h.mem,inj:=h.inj,aQ:=h.aQ,cL:=h.cL,tok:=h.tok,aV:=h.aV,below:=h.below,fX:=h.fX,new:=h.new,live:=h.live,b5:=h.b5,ex:=h.ex,
        fx:=fun k hk=>(by cases hk),eH:=fun p hp=>(by cases hp),keeps:=fun p hp=>(by cases hp;exact aY.refl _ _),pins:=⟨fun p A8=>⟨Nat.le_trans hN (hp p A8),(h.pins.1 p A8).2⟩,fun p A8=>⟨Nat.le_trans hN (hm p A8),(h.pins.2 p A8).2⟩⟩}
 rcases Zd (ρ:=ρ) (k:=0) bU k with h1|h1
 ·rw[if_neg (by omega)]at h1
  have:(aW++Array.replicate (fn.ntmps-aW.size) undef).getD k undef=aW.toList.getD (k-0) undef:=by
   simp only[Array.getD_eq_getD_getElem?,Nat.sub_zero,List.getD_eq_getElem?_getD,Array.getElem?_toList]
   by_cases hk:k<aW.size
   ·rw[Array.getElem?_append_left hk]
   ·have oq:aW[k]? =none:=Array.getElem?_eq_none (by omega)
    rw[Array.getElem?_append_right (by omega),oq]
    by_cases lO:k-aW.size<fn.ntmps-aW.size
    ·simp[lO]
    ·simp[lO]
  rw[this];exact h1
 ·rw[h1];trivial
theorem yvP{P G f fn fa as m0 t0 r m1 t1}(hf:P.funcs[f]? =some fn)(aa:kT T fn=some fa)
  (hC:∀f args r,E.C f args r→Ev P G f args r) (sw:∀f caps xs,E.It f caps xs→mY P G f caps xs) (hG:E.G=G) (hT:∀t ty,T t=some ty→aK P t ty=true) (hm:P.follows .mixedOrders=true)
  (h:as.length≤fa.n∧fa.n≤1000∧r.fB=false∧cx E fa.ac (Ai fa.rs r m1 t1) ⟨mb 0 as,m0,t0⟩):Po P G f as m0 t0 r m1 t1:=by
 simp only[kT]at aa;split at aa
 ·cases aa
 ·rename_i ed;simp only[Option.bind_eq_bind,Option.pure_def,Option.bind_eq_some_iff,Option.some.injEq]at aa;obtain⟨cd,qe,ac,nH,rs,ic,rfl⟩:=aa;obtain⟨hn,hN,_,qS⟩:=h;simp only at hn hN qS;refine⟨⟨fn,hf,by simpa using ed,by simp[qe]⟩,?_⟩;intro w S aW X mB fI ρ fq hp sZ _ _ bU;have oQ:=yXA (fn:=fn) hn hN fq hp sZ bU;refine callsIn_wide.1 (callsIn_of_wp_marks (n:=0) (R:=yE P G w S X mB fI r m1 t1) hf qe trivial ?_);refine K3 hG hC sw hT hm cd ac nH none (fun h=>by cases h) 0 (c:={P:=P,G:=G,w0:=w,S0:=S,N:=fn.ntmps,X:=X,mB:=mB,fI:=fI,kx:=some (w,S)}) rfl rfl rfl (fun _ _=>rfl) ?_ oQ qS;intro c' ij _ x st tmps w' S' bu hs hr;cases x with
  |normal=>exact ZY hT ic ij hs hr
  |exit i=>exact hr.elim
  |ret=>exact ZY hT ic ij hs hr
theorem yZm{P G f fn fa args r}(hf:P.funcs[f]? =some fn)(aa:kT T fn=some fa)
  (hC:∀f args r,E.C f args r→Ev P G f args r) (sw:∀f caps xs,E.It f caps xs→mY P G f caps xs) (hG:E.G=G) (hT:∀t ty,T t=some ty→aK P t ty=true) (hm:P.follows .mixedOrders=true) (h:Body E fa args r):Ev P G f args r:=by
 cases r with
 |own a sz es=>exact yvR hf aa hC sw hG hT hm h
 |one x=>exact TC hf aa hC sw hG hT hm h
 |agg x=>exact TC hf aa hC sw hG hT hm h
 |tup x=>exact TC hf aa hC sw hG hT hm h
 |bx=>exact yvP hf aa hC sw hG hT hm h
 |vr=>exact h.elim
 |vc=>exact h.elim
end Go.Abs
end
section
namespace Go.Abs
open Go.RowKit
variable{c:Ctx}{st:St}{tmps:Array Value}{w:World}{S:Safe}{ρ:bW}{T:Nat→Option Ty}
mutual
def AV.pW(s b:Nat):AV→AV
 |.ptr s' off=>if s'=s then .d (.gp b off)else .ptr s' off
 |.vec s' esz off n cap=>if s'=s then .undef else .vec s' esz off n cap
 |.agg cs=>.agg (AV.n9 s b cs)
 |.tup cs=>.tup (AV.n9 s b cs)
 |.clo f cs=>.clo f (AV.n9 s b cs)
 |.cond g a=>.cond g (AV.pW s b a)
 |a=>a
def AV.n9(s b:Nat):List AV→List AV
 |[]=>[]
 |a::as=>AV.pW s b a::AV.n9 s b as
end
def kL(s b:Nat):List (Nat×AV)→List (Nat×AV)
 |[]=>[]
 |(k,v)::r=>(k,AV.pW s b v)::kL s b r
def jG(s b:Nat):Mem→Mem
 |[]=>[]
 |(k,cs)::r=>if k=s then jG s b r else(k,AV.n9 s b cs)::jG s b r
def St.pW(s b:Nat)(st:St):St:=⟨kL s b st.ae,jG s b st.mem,st.tk⟩
def ext(G:Nat→Option (List D))(b:Nat)(ds:List D):Nat→Option (List D):=fun g=>if g=b then some ds else G g
def wC(G:Nat→Option (List D))(b:Nat):Prop:=∀cs,G b=some cs→cs=[]
def qI(X:(Nat→Option (List D))→ax):List Nat→(Nat→Option (List D))→Nat→AC→(AX→St→Prop)→St→Prop
 |bs,G,n+1,.seq a b,Q,st=>cx (X G) a (jl (qI X bs G n b Q) Q) st
 |_,_,_+1,_,_,_=>False
 |[],G,0,ac,Q,st=>cx (X G) ac Q st
 |s::bs,G,0,ac,Q,st=>∀b,wC G b→∃cs ds,getM st.mem s=some cs∧j0 [] 2 (AV.n9 s b cs)=some ds∧qI X bs (ext G b ds) 0 ac Q (st.pW s b)
def bW.drop(ρ:bW)(s:Nat):bW:={ρ with box:=fun s'=>if s'=s then none else ρ.box s'}
mutual
theorem ay.pW{s b:Nat}(hb:ρ.box s=some b):∀(a:AV) (v:Value),ay w S ρ a v→ay w S (ρ.drop s) (a.pW s b) v
 |.undef,_,_=>trivial
 |.d _,_,h=>h
 |.agg cs,_,⟨vs,h1,h2⟩=>⟨vs,h1,af.pW hb cs _ h2⟩
 |.tup cs,_,⟨vs,h1,h2⟩=>⟨vs,h1,af.pW hb cs _ h2⟩
 |.ptr s' off,v,⟨b',h1,h2⟩=>by
  simp only[AV.pW];by_cases he:s'=s
  ·rw[if_pos he];subst he;obtain rfl:=Option.some.inj (hb.symm.trans h1);exact h2
  ·rw[if_neg he];exact⟨b',by simp[bW.drop,he,h1],h2⟩
 |.full _,_,h=>h
 |.own _ _ _,_,h=>h
 |.clo _ caps,_,⟨cs,h1,h2⟩=>⟨cs,h1,af.pW hb caps _ h2⟩
 |.cond _ a,_,⟨h1,h2⟩=>⟨fun hg=>ay.pW hb a _ (h1 hg),h2⟩
 |.mref _,_,h=>h
 |.mp _ _ _,_,h=>h
 |.zsl _ _,_,h=>h
 |.pnd _ _ _ _,_,h=>h
 |.eptr _ _,_,h=>h
 |.vec s' _ off _ _,v,⟨k1,k2,b',h1,h2⟩=>by
  simp only[AV.pW];by_cases he:s'=s
  ·rw[if_pos he];trivial
  ·rw[if_neg he];exact⟨k1,k2,b',by simp[bW.drop,he,h1],h2⟩
theorem af.pW{s b:Nat}(hb:ρ.box s=some b):∀(as:List AV) (vs:List Value),af w S ρ as vs→af w S (ρ.drop s) (AV.n9 s b as) vs
 |[],_,h=>h
 |a::as,_,⟨v,r,h1,h2,h3⟩=>⟨v,r,h1,ay.pW hb a v h2,af.pW hb as r h3⟩
end
theorem ZB(s b k):∀l:List (Nat×AV),aC (kL s b l) k=(aC l k).pW s b
 |[]=>rfl
 |(j,v)::r=>by
  simp only[kL,aC];split
  ·rfl
  ·exact ZB s b k r
theorem Kk(s b k):∀l:Mem,getM (jG s b l) k=if k=s then none else(getM l k).map (AV.n9 s b)
 |[]=>by simp[jG,getM]
 |(j,v)::r=>by
  have ih:=Kk s b k r;simp only[jG,getM];by_cases hj:j=s
  ·rw[if_pos hj,ih];by_cases hk:k=s
   ·rw[if_pos hk,if_pos hk]
   ·rw[if_neg hk,if_neg hk,if_neg (by omega)]
  ·rw[if_neg hj];simp only[getM];by_cases kN:j=k
   ·rw[if_pos kN,if_neg (by omega),if_pos kN];rfl
   ·rw[if_neg kN,ih,if_neg kN]
theorem pb.drop{c ρ}(h:pb c ρ)(s):pb c (ρ.drop s):=h.sub (fun s' b e=>by
 simp only[bW.drop]at e;split at e
 ·cases e
 ·exact .inr e) (fun _ _ e=>.inr e)
theorem aN.freeze(h:aN c st tmps w S ρ){s cs}(hs:getM st.mem s=some cs):
  ∃b,wC c.G b∧∀ds,j0 [] 2 (AV.n9 s b cs)=some ds→∃S' bu,aN {c with G:=ext c.G b ds} (st.pW s b) tmps w S' bu:=by
 cases sZ:cF cs with
 |true=>
  refine⟨w.heap.size,fun kt hg=>?_,fun ds lU=>?_⟩
  ·have:=h.b5 _ kt hg;cases kt with
   |nil=>rfl
   |cons d ds=>obtain⟨⟨_,v,hv,_⟩,_⟩:=this;exact absurd (qh hv) (by omega)
  ·obtain⟨k,e,cA,rfl⟩:=xr.1 sZ;simp[AV.n9,AV.pW,j0,AV.mH]at lU
 |false=>
 obtain⟨b,vs,e,h1,h2,h3,h4,h5⟩:=h.mem s cs hs sZ;refine⟨b,fun kt hg=>?_,fun ds lU=>?_⟩
 ·have:=h.b5 b kt hg;cases kt with
  |nil=>rfl
  |cons d ds=>exact absurd this.1.1 (h5 0)
 ·have hk:aY w S w (fun b' o=>S b' o∨(b'=b∧o<vs.size)):=fun b' o hs=>⟨.inl hs,rfl⟩;have up:∀{a:AV} {v:Value},ay w S ρ a v→ay w (fun b' o=>S b' o∨(b'=b∧o<vs.size)) (ρ.drop s) (a.pW s b) v:=fun hr=>ay.pW h1 _ _ (ay.keep hk ρ.le_refl _ _ hr);have X2:∀{as:List AV} {l:List Value},af w S ρ as l→af w (fun b' o=>S b' o∨(b'=b∧o<vs.size)) (ρ.drop s) (AV.n9 s b as) l:=fun hr=>af.pW h1 _ _ (af.keep hk ρ.le_refl _ _ hr);refine⟨fun b' o=>S b' o∨(b'=b∧o<vs.size),ρ.drop s,{size:=h.size,ex:=⟨h.ex.1,fun g kt hg hG=>h.ex.2 g kt hg (by have pI:g<c.P.globals.size:=hg;have:g≠b:=by{have:=h.ex.1;rcases h2 with h2|⟨_,h2⟩<;>omega};simpa[ext,this]using hG)⟩,ae:=fun k=>?_,mem:=?_,inj:=?_,aQ:=?_,cL:=?_,tok:=?_,aV:=h.aV,below:=h.below,fX:=fun b' o hs=>.inl (h.fX b' o hs),new:=?_,live:=?_,b5:=?_,fx:=h.fx,eH:=h.eH,keeps:=fun p hp=>(h.keeps p hp).trans hk,pins:=pb.drop h.pins s}⟩
  ·show ay _ _ _ (aC (kL s b st.ae) k) _;rw[ZB];exact up (h.ae k)
  ·intro s' kt b9 fG;have b9:getM (jG s b st.mem) s'=some kt:=b9;rw[Kk]at b9;by_cases he:s'=s
   ·rw[if_pos he]at b9;cases b9
   ·rw[if_neg he]at b9;cases hm:getM st.mem s' with
    |none=>rw[hm]at b9;cases b9
    |some kJ=>
     rw[hm]at b9;cases b9;have QH:cF kJ=false:=by
      cases uC:cF kJ with
      |false=>rfl
      |true=>obtain⟨k,e,cA,rfl⟩:=xr.1 uC;cases fG
     obtain⟨b',Kb,e',g1,g2,g3,g4,g5⟩:=h.mem s' kJ hm QH;refine⟨b',Kb,e',by simp[bW.drop,he,g1],g2,g3,X2 g4,fun o=>?_⟩
     rintro(fg|⟨rfl,_⟩)
     ·exact g5 o fg
     ·exact he (h.inj _ _ _ g1 h1)
  ·intro s1 s2 b' e1 e2;simp only[bW.drop]at e1 e2;split at e1
   ·cases e1
   ·split at e2
    ·cases e2
    ·exact h.inj _ _ _ e1 e2
  ·intro s' b9;have b9:getM (jG s b st.mem) s'=none:=b9;rw[Kk]at b9;simp only[bW.drop];by_cases he:s'=s
   ·rw[if_pos he]
   ·rw[if_neg he]at b9⊢;exact h.aQ s' (by simpa using b9)
  ·refine{at':=fun s' k q cA b9=>?_,inj:=h.cL.inj,new:=fun s' b9=>?_,lt:=h.cL.lt,apart:=fun s' b' b9=>?_}
   ·have b9:getM (jG s b st.mem) s'=some [.mp k q cA]:=b9;rw[Kk]at b9;by_cases he:s'=s
    ·rw[if_pos he]at b9;cases b9
    ·rw[if_neg he]at b9;cases hm:getM st.mem s' with
     |none=>rw[hm]at b9;cases b9
     |some kJ=>
      rw[hm]at b9;have h0:AV.n9 s b kJ=[.mp k q cA]:=by simpa using b9
      have:kJ=[.mp k q cA]:=by
       cases kJ with
       |nil=>cases h0
       |cons a as=>
        simp only[AV.n9,List.cons.injEq]at h0;cases as with
        |cons _ _=>cases h0.2
        |nil=>
         cases a<;>simp only[AV.pW,AV.mp.injEq,reduceCtorEq,false_and]at h0
         ·split at h0<;>simp at h0
         ·obtain⟨⟨rfl,rfl,rfl⟩,_⟩:=h0;rfl
         ·split at h0<;>simp at h0
      subst this;obtain⟨b',g1,g2,g3⟩:=h.cL.at' s' k q cA hm;exact⟨b',g1,by simp[bW.drop,g2],g3.1,g3.2.to hk rfl⟩
   ·have b9:getM (jG s b st.mem) s'=none:=b9;rw[Kk]at b9;by_cases he:s'=s
    ·rw[he];exact h.cL.apart s b h1
    ·rw[if_neg he]at b9;exact h.cL.new s' (by simpa using b9)
   ·simp only[bW.drop]at b9;split at b9
    ·cases b9
    ·exact h.cL.apart s' b' b9
  ·intro t ht;obtain⟨x,hx,kj⟩:=h.tok t ht;refine⟨x,hx,?_⟩;rcases kj with kj|⟨b',g1,g2,g3,g4,g5,g6,g7,g8⟩
   ·exact .inl kj
   ·refine .inr ⟨b',g1,g2,g3,g4,g5,fun o ho=>?_,fun s' b9=>?_,g8⟩
    ·rintro(fg|⟨rfl,_⟩)
     ·exact g6 o ho fg
     ·exact g7 s h1
    ·simp only[bW.drop]at b9;split at b9
     ·cases b9
     ·exact g7 s' b9
  ·rintro b' o (fg|⟨rfl,_⟩)
   ·exact h.new b' o fg
   ·exact .inr h2
  ·rintro b' o (fg|⟨rfl,ho⟩)
   ·exact h.live b' o fg
   ·exact⟨vs[o],by rw[oX h3];simp[ho]⟩
  ·intro g kt hg;simp only[ext]at hg;split at hg
   ·rename_i Qo;subst Qo;cases hg;have hr:=Cx (xX (w:=w) (S:=fun b' o=>S b' o∨(b'=g∧o<vs.size)) (ρ:=ρ.drop s)) 2 (X2 h4) lU;refine aP.Ct hr fun j v hj=>?_;have tW:vs[j]? =some v:=by simpa using hj
    refine⟨by rw[Nat.zero_add,oX h3];exact tW,.inr ⟨rfl,?_⟩⟩;rw[Nat.zero_add];exact(Array.getElem?_eq_some_iff.1 tW).1
   ·exact aP.keep hk _ _ _ (h.b5 g kt hg)
def eA(P:Program)(w0:World)(S0:Safe)(N:Nat)(G:Nat→Option (List D)):Ctx:={P:=P,G:=G,w0:=w0,S0:=S0,N:=N}
theorem Tz{X P w0 S0 N}(A0:∀G,(X G).G=G)(hX:∀G f args r,(X G).C f args r→Ev P G f args r)(A1:∀G f caps xs,(X G).It f caps xs→mY P G f caps xs)
  (hT:∀t ty,T t=some ty→aK P t ty=true) (hm:P.follows .mixedOrders=true)
  {R} {Q} (hR:∀G c',Ext (eA P w0 S0 N G) c'→∀x st tmps w S ρ,aN c' st tmps w S ρ→Q x st→R x.out ⟨tmps,c'.ds⟩ w):
  ∀(bs) (n) (G) (cd) (ac),tr T N cd=some ac→∀{c},Ext (eA P w0 S0 N G) c→∀{st} {tmps} {w} {S} {ρ},aN c st tmps w S ρ→qI X bs G n ac Q st→cd.wpIn (FR none) 0 P R ⟨tmps,c.ds⟩ w
 |bs,n+1,G,cd,ac,aa,c,hc,st,tmps,w,S,ρ,h,hq=>by
  have f1:c.P=P∧c.G=G∧c.N=N∧∀d,c.kp d=false:=by obtain⟨_,_,rfl,_⟩:=hc;exact⟨rfl,rfl,rfl,fun _=>rfl⟩
  cases ac<;>simp only[qI]at hq;case seq a b=>
   cases cd<;>simp only[tr,Option.bind_eq_bind,Option.pure_def,reduceCtorEq,Option.bind_eq_some_iff,Option.some.injEq]at aa;case seq x y=>
    obtain⟨a1,e1,a2,e2,aa⟩:=aa;cases aa;refine wpIn_seq (K3 (E:=X G) (A0 G) (hX G) (A1 G) hT hm x a e1 none (fun h=>by cases h) 0 (c:=c) f1.1 f1.2.1 f1.2.2.1 (fun d _=>f1.2.2.2 d) (Q:=jl (qI X bs G n b Q) Q) ?_ h hq);intro c' ij _ e s tm w' S' bu hs hk;cases e with
    |normal=>exact Tz A0 hX A1 hT hm hR bs n G y b e2 (hc.trans ij) hs hk
    |exit i=>exact hR G c' (hc.trans ij) (.exit i) _ _ _ _ _ hs hk
    |ret=>exact hR G c' (hc.trans ij) .ret _ _ _ _ _ hs hk
   case region=>
    exfalso;obtain⟨l,_,aa⟩:=aa
    repeat' split at aa
    all_goals first
     |(rcases AB aa with⟨_,_,_,_,h',_⟩|⟨h',_⟩|⟨_,h',_⟩|⟨_,_,h',_⟩|⟨_,_,_,h',_⟩<;>cases h')
     |cases aa
   all_goals (exfalso;revert aa;(try (repeat' split))<;>intro aa<;>simp at aa)
  all_goals exact hq.elim
 |[],0,G,cd,ac,aa,c,hc,st,tmps,w,S,ρ,h,hq=>by
  have f1:c.P=P∧c.G=G∧c.N=N∧∀d,c.kp d=false:=by obtain⟨_,_,rfl,_⟩:=hc;exact⟨rfl,rfl,rfl,fun _=>rfl⟩
  exact K3 (E:=X G) (A0 G) (hX G) (A1 G) hT hm cd ac aa none (fun h=>by cases h) 0 (c:=c) f1.1 f1.2.1 f1.2.2.1 (fun d _=>f1.2.2.2 d) (fun c' ij _=>hR G c' (hc.trans ij)) h (by simpa only[qI]using hq)
 |s::bs,0,G,cd,ac,aa,c,hc,st,tmps,w,S,ρ,h,hq=>by
  have f1:c.P=P∧c.G=G∧c.N=N∧∀d,c.kp d=false:=by obtain⟨_,_,rfl,_⟩:=hc;exact⟨rfl,rfl,rfl,fun _=>rfl⟩
  simp only[qI]at hq;cases hs:getM st.mem s with
  |none=>
   exfalso;have IY:wC G w.heap.size:=fun cs hg=>by
    have:=h.b5 _ cs (f1.2.1▸hg);cases cs with
    |nil=>rfl
    |cons d ds=>obtain⟨⟨_,v,hv,_⟩,_⟩:=this;exact absurd (qh hv) (by omega)
   obtain⟨cs,ds,e1,_⟩:=hq _ IY;rw[hs]at e1;cases e1
  |some cs=>obtain⟨b,hb,hf⟩:=h.freeze hs;obtain⟨kt,ds,e1,e2,e3⟩:=hq b (f1.2.1▸hb);rw[hs]at e1;cases e1;obtain⟨S',bu,b9⟩:=hf ds e2;refine Tz A0 hX A1 hT hm hR bs 0 (ext G b ds) cd ac aa (c:={c with G:=ext c.G b ds}) ?_ b9 e3;obtain⟨o,Ds,rfl,r1,r2,r3,r4⟩:=hc;exact⟨o,Ds,rfl,r1,r2,r3,r4⟩
end Go.Abs
end
section
namespace Go.Abs
open Go.RowKit
variable{c:Ctx}{st:St}{tmps:Array Value}{w:World}{S:Safe}{ρ:bW}{T:Nat→Option Ty}
def AR(G G':Nat→Option (List D)):Prop:=∀g cs,G g=some cs→cs=[]∨G' g=some cs
theorem AR.refl(G):AR G G:=fun _ _ h=>.inr h
theorem AR.trans{G G' Wg}(h:AR G G')(h':AR G' Wg):AR G Wg:=fun g cs hg=>by
 rcases h g cs hg with h1|h1
 ·exact .inl h1
 ·exact h' g cs h1
theorem AR.ext{G b}(hb:wC G b)(ds):AR G (ext G b ds):=fun g cs hg=>by
 by_cases h:g=b
 ·subst h;exact .inl (hb cs hg)
 ·exact .inr (by simp[Go.Abs.ext,h,hg])
theorem fh.mono{P G G'}(hG:AR G G'){w S}(hg:fh P G' w S):fh P G w S:=
 ⟨fun g cs Gi=>by
  rcases hG g cs Gi with h1|h1
  ·subst h1;trivial
  ·exact hg.1 g cs h1,hg.2.1,fun g cs bf Gi b6=>by
  rcases hG g cs Gi with h1|h1
  ·exact absurd h1 b6
  ·exact hg.2.2 g cs bf h1 b6⟩
theorem Ev.mono{P G G'}(hG:AR G G'){f args r}(h:Ev P G f args r):Ev P G' f args r:=by
 cases r with
 |own a sz es=>exact⟨h.1,fun w S aW X hl hg ha hx=>h.2 w S aW X hl (hg.mono hG) ha hx⟩
 |one x=>exact⟨h.1,fun w S aW hl hg ha=>h.2 w S aW hl (hg.mono hG) ha⟩
 |agg x=>exact⟨h.1,fun w S aW hl hg ha=>h.2 w S aW hl (hg.mono hG) ha⟩
 |tup x=>exact⟨h.1,fun w S aW hl hg ha=>h.2 w S aW hl (hg.mono hG) ha⟩
 |vc sz es=>exact⟨h.1,fun w S aW hl hg ha=>h.2 w S aW hl (hg.mono hG) ha⟩
 |vr=>exact h.elim
 |bx as m0 t0 r m1 t1=>
  refine⟨h.1,fun w S aW X mB fI ρ hs a b c d e=>?_⟩;have hg:fh P G w S:=fh.mono hG ⟨hs.b5,hs.ex⟩;have b9:aN (sQ P G w S X mB fI none) ⟨[],m0,t0⟩ #[] w S ρ:=
   {size:=hs.size,ae:=hs.ae,mem:=hs.mem,inj:=hs.inj,aQ:=hs.aQ,cL:=hs.cL,tok:=hs.tok,aV:=hs.aV,below:=hs.below,fX:=hs.fX,new:=hs.new,live:=hs.live,b5:=hg.1,ex:=hg.2,fx:=hs.fx,eH:=hs.eH,keeps:=hs.keeps,pins:=hs.pins}
  refine(h.2 w S aW X mB fI ρ b9 a b c d e).mono ?_
  rintro e w' ⟨v,S',bu,h1,h2,h3⟩
  exact⟨v,S',bu,h1,h2,
   {size:=h3.size,ae:=h3.ae,mem:=h3.mem,inj:=h3.inj,aQ:=h3.aQ,cL:=h3.cL,tok:=h3.tok,aV:=h3.aV,below:=h3.below,fX:=h3.fX,new:=h3.new,live:=h3.live,b5:=fun g cs hg=>aP.keep (h3.keeps (w,S) rfl) g 0 cs (hs.b5 g cs hg),ex:=hs.ex,fx:=h3.fx,eH:=h3.eH,keeps:=h3.keeps,pins:=h3.pins}⟩
def sM(X:(Nat→Option (List D))→ax)(bs:List Nat)(dep:Nat)(G:Nat→Option (List D))(f:bL)(args:List CV)(r:CV):Prop:=
 args.length≤f.n∧qI X bs G dep f.ac (wv f.rs r) ⟨cK 0 args,[],[]⟩
def yB(X:(Nat→Option (List D))→ax)(bs:List Nat)(dep:Nat)(G:Nat→Option (List D))(f:bL)(args:List CV):CV→Prop
 |.own _ _ _=>False
 |.bx _ _ _ _ _ _=>False
 |.vr _ _ _ _ _=>False
 |.vc _ _=>False
 |.one x=>sM X bs dep G f args (.one x)
 |.agg x=>sM X bs dep G f args (.agg x)
 |.tup x=>sM X bs dep G f args (.tup x)
theorem TY{X P G bs dep f fn fa args r}(hf:P.funcs[f]? =some fn)(aa:kT T fn=some fa)
  (hX:∀G f args r,(X G).C f args r→Ev P G f args r) (A1:∀G f caps xs,(X G).It f caps xs→mY P G f caps xs) (A0:∀G,(X G).G=G) (hT:∀t ty,T t=some ty→aK P t ty=true) (hm:P.follows .mixedOrders=true) (h:sM X bs dep G fa args r):Er P G f args r:=by
 simp only[kT]at aa;split at aa
 ·cases aa
 ·rename_i ed;simp only[Option.bind_eq_bind,Option.pure_def,Option.bind_eq_some_iff,Option.some.injEq]at aa;obtain⟨cd,qe,ac,nH,rs,ic,rfl⟩:=aa;obtain⟨hn,qS⟩:=h;simp only at hn qS;refine⟨⟨fn,hf,by simpa using ed,by simp[qe]⟩,?_⟩;intro w S aW dy jo bU;have fq:=Kl (P:=P) hn dy jo bU;refine callsIn_wide.1 (callsIn_of_wp_marks (n:=0) (R:=yD w S r) hf qe trivial ?_);refine Tz A0 hX A1 hT hm (w0:=w) (S0:=S) ?_ bs dep G cd ac nH (Ext.refl _) fq qS;intro G' c' ij x st tmps w' S' bu hs hr;cases x with
  |normal=>exact Nh hT ic ij hs hr
  |exit i=>exact hr.elim
  |ret=>exact Nh hT ic ij hs hr
theorem yvQ{X P G bs dep f fn fa args r}(hf:P.funcs[f]? =some fn)(aa:kT T fn=some fa)
  (hX:∀G f args r,(X G).C f args r→Ev P G f args r) (A1:∀G f caps xs,(X G).It f caps xs→mY P G f caps xs) (A0:∀G,(X G).G=G) (hT:∀t ty,T t=some ty→aK P t ty=true) (hm:P.follows .mixedOrders=true) (h:yB X bs dep G fa args r):Ev P G f args r:=by
 cases r with
 |own a sz es=>exact h.elim
 |bx=>exact h.elim
 |vr=>exact h.elim
 |vc=>exact h.elim
 |one x=>exact TY hf aa hX A1 A0 hT hm h
 |agg x=>exact TY hf aa hX A1 A0 hT hm h
 |tup x=>exact TY hf aa hX A1 A0 hT hm h
end Go.Abs
end
