/-
  A LIBRARY OF THE PROOF: an abstract machine over the texts of the translated functions, whose values are plain data, proved sound with regard to the kit's law of calls (names shortened by program).
-/
import Derived.OrdersIn
import Derived.Test.YtkaaomojgmbgdaaGreatDoorAbs2
set_option linter.unusedSimpArgs false
set_option linter.unusedVariables false
set_option linter.unusedSectionVars false
set_option maxRecDepth 100000
section
namespace Go.Abs
open Go.RowKit
variable{E:AEnv}{st:St}
structure Eff where
 slot:Option (Nat×AV)
 mem:Option (Nat×List AV)
 tk:Option (Nat×Option Nat)
 more:Mem×List (Nat×Bool)
def tkApp(tk:List (Nat×Bool)):Option (Nat×Option Nat)→List (Nat×Bool)
 |none=>tk
 |some (d,none)=>(d,true)::tk
 |some (d,some u)=>(d,true)::tkKill u tk
def Eff.app(e:Eff)(st:St):St:={slots:=e.slot.toList++st.slots,mem:=e.mem.toList++(e.more.1++st.mem),tk:=e.more.2++tkApp st.tk e.tk}
def wrapG(g:Option Bool)(v:AV):AV:=match g with
 |none=>v
 |some b=>.cond b v
theorem ywv{tk tk1}(h:∀t,getT tk t=getT tk1 t){as sz a}(ho:argOwn tk as sz a):argOwn tk1 as sz a:=by
 cases a with
 |none=>trivial
 |some k=>
  simp only[argOwn]at ho⊢;split at ho
  ·rename_i u sz' es hk;exact⟨ho.1,h u▸ho.2⟩
  ·exact ho
  ·exact ho.elim
def callE(g:Option Bool)(d:Option Nat)(tk:List (Nat×Bool))(as:List AV)(e':Eff):CV→Prop
 |.own a sz es=>∃d',d=some d'∧(g=none∧getT tk d'=none∧argOwn tk as sz a)∧e'=⟨some (d',.own d' sz es),none,some (d',ownTok as a),([],[])⟩
 |.one x=>e'=⟨d.map fun d=>(d,wrapG g (.d x)),none,none,([],[])⟩
 |.agg x=>e'=⟨d.map fun d=>(d,wrapG g (.agg (x.map .d))),none,none,([],[])⟩
 |.bx _ _ _ _ _ _=>False
 |.vr _ _ _ _ _=>False
 |.vc _ _=>False
 |.tup x=>e'=⟨d.map fun d=>(d,wrapG g (.tup (CV.toAV0s x))),none,none,([],[])⟩
theorem yvD{g d tk tk1}(h:∀t,getT tk t=getT tk1 t){as e' r}(he:callE g d tk as e' r):callE g d tk1 as e' r:=by
 cases r with
 |own a sz es=>obtain⟨d',h1,⟨h2,h3,h4⟩,h5⟩:=he;exact⟨d',h1,⟨h2,h d'▸h3,ywv h h4⟩,h5⟩
 |one x=>exact he
 |agg x=>exact he
 |tup x=>exact he
 |bx=>exact he
 |vr=>exact he
 |vc=>exact he
theorem ywT{m:Mem}{a:AV}(h:a.isVec=false):a.elemsM m=a.elems:=by
 cases a<;>first|rfl|cases h
def ER(E:AEnv)(gi:Option (Nat×Bool))(o:I)(st:St)(e':Eff):Prop:=∃g,guardOf st gi=some g∧match o with
 |.alloc s zs=>g=none∧getM st.mem s=none∧e'=⟨some (s,.ptr s 0),some (s,zs),none,([],[])⟩
 |.box s x=>(g=none∧gd st x=true∧(ev st x).solid=true∧getM st.mem s=none)∧e'=⟨some (s,.ptr s 0),some (s,(ev st x).cells),none,([],[])⟩
 |.st n a x=>∃s off cs,ev st a=.ptr s off∧getM st.mem s=some cs∧(g=none∧gd st a=true∧gd st x=true∧(ev st x).solid=true∧cells1 (ev st x).cells=true∧(ev st x).cells.length=n∧off+n≤cs.length)∧
   e'=⟨none,some (s,cs.take off++(ev st x).cells++cs.drop (off+n)),none,([],[])⟩
 |.mkm s k e=>g=none∧getM st.mem s=none∧e'=⟨some (s,.mref s),some (s,[.mp k e []]),none,([],[])⟩
 |.mput k e kz x key v=>∃s kd vd k' q' kvs,ev st x=.mref s∧ev st key=.d kd∧(ev st v).toMV=some vd∧getM st.mem s=some [.mp k' q' kvs]∧(g=none∧gd st x=true∧gd st key=true∧gd st v=true∧k'=k∧q'=e∧likeD kz kd=true∧plainD kd∧kvs.length<9223372036854775807)∧
   e'=⟨none,some (s,[.mp k e ((kd,vd)::kvs)]),none,([],[])⟩
 |.mclr x=>∃s k e kvs,ev st x=.mref s∧getM st.mem s=some [.mp k e kvs]∧(g=none∧gd st x=true)∧e'=⟨none,some (s,[.mp k e []]),none,([],[])⟩
 |.app d esz eb x y=>((ev st y).isZsl=false∧(ev st y).isVec=false∧(ev st x).isVec=false)∧((g=some false∧e'=⟨some (d,wrapG (some false) (.d (.lst []))),none,none,([],[])⟩)∨g≠some false∧∃ys,(ev st y).elems=some ys∧
   ((∃es,ev st x=.full es∧(onB g=true∧getT st.tk d=none∧gd st x=true∧gd st y=true∧(∀e∈es,e.length=esz)∧(∀e∈ys,e.length=esz)∧(es.length+ys.length)*eb≤2^46∧es.length+ys.length≤9223372036854775807)∧
      e'=⟨some (d,.own d esz (es++ys)),none,some (d,none),([],[])⟩)∨
    (∃u sz es,ev st x=.own u sz es∧(onB g=true∧getT st.tk d=none∧getT st.tk u=some true∧sz=esz∧gd st x=true∧gd st y=true∧(∀e∈ys,e.length=esz)∧(es.length+ys.length)*eb≤2^46∧es.length+ys.length≤9223372036854775807)∧
      e'=⟨some (d,.own d esz (es++ys)),none,some (d,some u),([],[])⟩)))
 |.len d str x=>∃n,lenOf str (ev st x)=some n∧onG g (gd st x=true)∧e'=⟨some (d,wrapG g (.d (.int .i64 n))),none,none,([],[])⟩
 |.call d f' args=>∃f caps cvs r,ev st f'=.d (.clo f caps)∧toCVs [] 1 (evs st args)=some cvs∧onG g (gd st f'=true∧gds st args=true∧E.C f (cvs++caps.map .one) r)∧callE g d st.tk (evs st args) e' r
 |.callB d f' args=>∃f caps x,((∃cs,ev st f'=.d (.clo f cs)∧caps=cs.map .d)∨ev st f'=.clo f caps)∧callB1 E g f (gd st f'&&gds st args) (evs st args++caps) st x∧e'=⟨d.map fun d=>(d,x.r.toAV0.ren0 x.σ x.τ1),none,none,(renMem x.σ x.τ1 x.m1,newAll x.τ1++killAll x.τ)⟩
 |.mkv _ _ _ _ _=>False
 |.bslv _ _ _=>False
 |.cpy _ _ _ _=>False
 |.clr _ _ _=>False
 |o=>∃v ob gs,opv E.G st o=some (v,ob,gs)∧onG g (gs=true∧ob)∧e'=⟨some (dstOf o,wrapG g v),none,none,([],[])⟩
theorem zwF(g)(d)(v):st.put g d v=Eff.app ⟨some (d,wrapG g v),none,none,([],[])⟩ st:=by
 cases g<;>rfl
theorem zXg(d)(x):afterB st d x=Eff.app ⟨d.map fun d=>(d,x.r.toAV0.ren0 x.σ x.τ1),none,none,(renMem x.σ x.τ1 x.m1,newAll x.τ1++killAll x.τ)⟩ st:=by
 cases d<;>simp[afterB,Eff.app,tkApp,List.append_assoc]
theorem zXO{st st1}(h:∀s,getM st.mem s=getM st1.mem s){τ σ0}:∀{σ} {m},MatchMem st τ σ0 σ m→MatchMem st1 τ σ0 σ m
 |[],[],_=>trivial
 |(s,s')::σ,(s0,cs0)::m,hm=>by obtain⟨⟨h1,h2,h3⟩,h4⟩:=hm;exact⟨⟨h1,h2,by rw[←h s'];exact h3⟩,zXO h h4⟩
 |[],_::_,hm=>hm.elim
 |_::_,[],hm=>hm.elim
theorem zVi{st st1}(h:∀t,getT st.tk t=getT st1.tk t):∀{τ} {us},mpOk st τ us→mpOk st1 τ us
 |[],_,_=>trivial
 |(_,u)::r,us,⟨⟨h1,h2⟩,h3⟩=>⟨⟨h1,by rw[←h u];exact h2⟩,zVi h h3⟩
theorem zWo{tk tk1}(h:∀t,getT tk t=getT tk1 t):∀{τ},fresh1 tk τ→fresh1 tk1 τ
 |[],_=>trivial
 |(_,u)::r,⟨h1,h2⟩=>⟨by rw[←h u];exact h1,zWo h h2⟩
theorem yWd{st st1}(hm:∀s,getM st.mem s=getM st1.mem s)(ht:∀t,getT st.tk t=getT st1.tk t){as x}(h:okB st as x):okB st1 as x:=by obtain⟨h1,h2,h3,h4,h5,h6,h7,h8,h9,h10,h11,h12⟩:=h;exact⟨h1,zXO hm h2,zVi ht h3,h4,h5,h6,h7,h8,h9,zWo ht h10,h11,h12⟩
theorem ywJ{g d K as r}:callK false g d K st as r↔∃e,callE g d st.tk as e r∧K (e.app st):=by
 cases r with
 |own a sz es=>
  constructor
  ·intro h;cases d with
   |none=>exact h.elim
   |some d=>refine⟨_,⟨d,rfl,h.1,rfl⟩,?_⟩;have h2:=h.2;cases hu:ownTok as a<;>rw[hu]at h2<;>exact h2
  ·rintro⟨e,⟨d',rfl,h1,rfl⟩,h2⟩
   refine⟨h1,?_⟩;cases hu:ownTok as a<;>rw[hu]at h2<;>exact h2
 |one x=>
  constructor
  ·intro h;refine⟨_,rfl,?_⟩;cases d with
   |none=>exact h
   |some d=>simp only[Option.map_some];rw[←zwF];exact h
  ·rintro⟨e,rfl,h⟩
   cases d with
   |none=>exact h
   |some d=>simp only[Option.map_some]at h;rw[←zwF]at h;exact h
 |agg x=>
  constructor
  ·intro h;refine⟨_,rfl,?_⟩;cases d with
   |none=>exact h
   |some d=>simp only[Option.map_some];rw[←zwF];exact h
  ·rintro⟨e,rfl,h⟩
   cases d with
   |none=>exact h
   |some d=>simp only[Option.map_some]at h;rw[←zwF]at h;exact h
 |tup x=>
  constructor
  ·intro h;refine⟨_,rfl,?_⟩;cases d with
   |none=>exact h
   |some d=>simp only[Option.map_some];rw[←zwF];exact h
  ·rintro⟨e,rfl,h⟩
   cases d with
   |none=>exact h
   |some d=>simp only[Option.map_some]at h;rw[←zwF]at h;exact h
 |bx=>exact⟨fun h=>h.elim,fun⟨_,h,_⟩=>h.elim⟩
 |vr=>exact⟨fun h=>h.elim,fun⟨_,h,_⟩=>h.elim⟩
 |vc=>exact⟨fun h=>(by cases d with|none=>exact h.elim|some d=>exact absurd h.1.1 (by simp)),fun⟨_,h,_⟩=>h.elim⟩
theorem zzC{gi o K}:aopN E gi o st K↔∃e,ER E gi o st e∧K (e.app st):=by
 unfold aopN ER;constructor
 ·intro h;split at h
  ·exact h.elim
  ·rename_i g hg;cases o<;>simp only[aopG]at h;case alloc=>exact⟨_,⟨g,hg,h.1.1,h.1.2,rfl⟩,h.2⟩
   case box=>exact⟨_,⟨g,hg,h.1,rfl⟩,h.2⟩
   case st=>
    obtain⟨hne,h⟩:=h;split at h
    ·split at h<;>try exact h.elim
     exact⟨_,⟨g,hg,_,_,_,‹_›,‹_›,h.1,rfl⟩,h.2⟩
    ·rename_i he;rw[he]at hne;cases hne
    ·exact h.elim
   case app=>
    obtain⟨hne,h⟩:=h;rw[ywT hne.2.1]at h;split at h
    ·rename_i he;rw[he]at hne;cases hne.1
    by_cases hg0:g=some false
    ·subst hg0;exact⟨_,⟨_,hg,hne,.inl ⟨rfl,rfl⟩⟩,by rw[←zwF];exact h⟩
    ·rw[yxq hg0]at h;split at h<;>try exact h.elim
     split at h<;>try exact h.elim
     ·exact⟨_,⟨g,hg,hne,.inr ⟨hg0,_,‹_›,.inl ⟨_,‹_›,h.1,rfl⟩⟩⟩,h.2⟩
     ·exact⟨_,⟨g,hg,hne,.inr ⟨hg0,_,‹_›,.inr ⟨_,_,_,‹_›,h.1,rfl⟩⟩⟩,h.2⟩
     ·rename_i hx;have hne2:=hne.2.2;rw[hx]at hne2;cases hne2
   case mkm=>exact⟨_,⟨g,hg,h.1.1,h.1.2,rfl⟩,h.2⟩
   case mput k e kz x key v=>
    split at h<;>try exact h.elim
    split at h<;>try exact h.elim
    exact⟨_,⟨g,hg,_,_,_,_,_,_,‹_›,‹_›,‹_›,‹_›,h.1,rfl⟩,h.2⟩
   case mclr=>
    split at h<;>try exact h.elim
    split at h<;>try exact h.elim
    exact⟨_,⟨g,hg,_,_,_,_,‹_›,‹_›,h.1,rfl⟩,h.2⟩
   case len=>
    split at h<;>try exact h.elim
    exact⟨_,⟨g,hg,_,‹_›,h.1,rfl⟩,by rw[←zwF];exact h.2⟩
   case call d f args=>
    split at h<;>try exact h.elim
    split at h<;>try exact h.elim
    obtain⟨r,h1,h2⟩:=h;obtain⟨e,h3,h4⟩:=ywJ.1 h2;exact⟨e,⟨g,hg,_,_,_,r,‹_›,‹_›,h1,h3⟩,h4⟩
   case callB d f args=>
    split at h<;>try exact h.elim
    ·obtain⟨x,h1,h2⟩:=h;exact⟨_,⟨g,hg,_,_,x,.inl ⟨_,‹_›,rfl⟩,h1,rfl⟩,by rw[←zXg];exact h2⟩
    ·obtain⟨x,h1,h2⟩:=h;exact⟨_,⟨g,hg,_,_,x,.inr ‹_›,h1,rfl⟩,by rw[←zXg];exact h2⟩
   case mv=>simp only[opv]at h⊢;exact⟨_,⟨g,hg,_,_,_,rfl,h.1,rfl⟩,by rw[←zwF];exact h.2⟩
   case mkf=>simp only[opv]at h⊢;exact⟨_,⟨g,hg,_,_,_,rfl,h.1,rfl⟩,by rw[←zwF];exact h.2⟩
   all_goals
    split at h
    ·exact⟨_,⟨g,hg,_,_,_,‹_›,h.1,rfl⟩,by rw[←zwF];exact h.2⟩
    ·exact h.elim
 ·rintro⟨e,⟨g,hg,he⟩,hK⟩
  simp only[hg];cases o<;>simp only[aopG]at he⊢;case alloc=>obtain⟨h1,h2,rfl⟩:=he;exact⟨⟨h1,h2⟩,hK⟩
  case box=>obtain⟨h1,rfl⟩:=he;exact⟨h1,hK⟩
  case st=>obtain⟨s,off,cs,h1,h2,h3,rfl⟩:=he;simp only[h1,h2];exact⟨rfl,h3,hK⟩
  case app=>
   obtain⟨hne,he⟩:=he;refine⟨hne,?_⟩;rw[ywT hne.2.1];split
   ·rename_i he';rw[he']at hne;cases hne.1
   obtain⟨rfl,rfl⟩|⟨hg0,ys,h1,⟨es,h2,h3,rfl⟩|⟨u,sz,es,h2,h3,rfl⟩⟩:=he
   ·show K _;rw[zwF];exact hK
   ·rw[yxq hg0];simp only[h1,h2];exact⟨h3,hK⟩
   ·rw[yxq hg0];simp only[h1,h2];exact⟨h3,hK⟩
  case mkm=>obtain⟨h1,h2,rfl⟩:=he;exact⟨⟨h1,h2⟩,hK⟩
  case mput=>obtain⟨s,kd,vd,k',q',kvs,h1,h2,h3,h4,h5,rfl⟩:=he;simp only[h1,h2,h3,h4];exact⟨h5,hK⟩
  case mclr=>obtain⟨s,k,e,kvs,h1,h2,h3,rfl⟩:=he;simp only[h1,h2];exact⟨h3,hK⟩
  case len=>obtain⟨n,h1,h2,rfl⟩:=he;simp only[h1];exact⟨h2,by rw[zwF];exact hK⟩
  case call d f args=>obtain⟨f',caps,cvs,r,h1,h2,h3,h4⟩:=he;simp only[h1,h2];exact⟨r,h3,ywJ.2 ⟨e,h4,hK⟩⟩
  case callB d f args=>
   obtain⟨f',caps,x,⟨cs,h1,rfl⟩|h1,h2,rfl⟩:=he
   ·simp only[h1];exact⟨x,h2,by rw[zXg];exact hK⟩
   ·simp only[h1];exact⟨x,h2,by rw[zXg];exact hK⟩
  case mv=>obtain⟨v,ob,gs,h1,h2,rfl⟩:=he;simp only[opv,Option.some.injEq,Prod.mk.injEq]at h1⊢;obtain⟨rfl,rfl,rfl⟩:=h1;exact⟨h2,by rw[zwF];exact hK⟩
  case mkf=>obtain⟨v,ob,gs,h1,h2,rfl⟩:=he;simp only[opv,Option.some.injEq,Prod.mk.injEq]at h1⊢;obtain⟨rfl,rfl,rfl⟩:=h1;exact⟨h2,by rw[zwF];exact hK⟩
  case isnil d x=>obtain⟨v,ob,gs,h1,h2,rfl⟩:=he;simp only[opv]at h1;cases h1
  all_goals (obtain⟨v,ob,gs,h1,h2,rfl⟩:=he;simp only[h1];exact⟨h2,by rw[zwF];exact hK⟩)
theorem ywV{st st1 x}(h:∀k∈x.rds,getS st.slots k=getS st1.slots k):ev0 st x=ev0 st1 x:=by
 cases x with
 |t n=>exact h n (by simp[X.rds])
 |c v=>rfl
theorem zzO{st st1 x}(h:∀k∈x.rds,getS st.slots k=getS st1.slots k):ev st x=ev st1 x:=by simp[ev,ywV h]
theorem zz0{st st1 x}(h:∀k∈x.rds,getS st.slots k=getS st1.slots k):gd st x=gd st1 x:=by simp[gd,ywV h]
theorem zjm{st st1}:∀{xs},(∀k∈xs.flatMap X.rds,getS st.slots k=getS st1.slots k)→evs st xs=evs st1 xs∧gds st xs=gds st1 xs
 |[],_=>⟨rfl,rfl⟩
 |x::xs,h=>by have h1:∀k∈x.rds,getS st.slots k=getS st1.slots k:=fun k hk=>h k (by simp[hk]);obtain⟨h2,h3⟩:=zjm (xs:=xs) fun k hk=>h k (by simp only[List.flatMap_cons,List.mem_append];exact .inr hk);exact⟨by simp[evs,zzO h1,h2],by simp[gds,zz0 h1,h3]⟩
theorem zW1{st st1}:∀{ps},(∀k∈ps.flatMap (fun p=>p.2.2.rds),getS st.slots k=getS st1.slots k)→evParts st ps=evParts st1 ps∧gdParts st ps=gdParts st1 ps
 |[],_=>⟨rfl,rfl⟩
 |(a,b,x)::ps,h=>by have h1:∀k∈x.rds,getS st.slots k=getS st1.slots k:=fun k hk=>h k (by simp[hk]);obtain⟨h2,h3⟩:=zW1 (ps:=ps) fun k hk=>h k (by simp only[List.flatMap_cons,List.mem_append];exact .inr hk);exact⟨by simp[evParts,zzO h1,h2],by simp[gdParts,zz0 h1,h3]⟩
theorem zy6{st st1 gi}(h:∀k∈gRds gi,getS st.slots k=getS st1.slots k):guardOf st gi=guardOf st1 gi:=by
 cases gi with
 |none=>rfl
 |some p=>obtain⟨s,b⟩:=p;simp only[guardOf,h s (by simp[gRds])]
theorem yWk{G st st1 o}(h:∀k∈rdsOf o,getS st.slots k=getS st1.slots k)(hm:kindOf o=.reads→∀s,getM st.mem s=getM st1.mem s):opv G st o=opv G st1 o:=by
 have two:∀x y:X,(∀k∈x.rds++y.rds,getS st.slots k=getS st1.slots k)→(ev st x=ev st1 x∧gd st x=gd st1 x)∧(ev st y=ev st1 y∧gd st y=gd st1 y):=fun x y hxy=>
  ⟨⟨zzO fun k hk=>hxy k (by simp[hk]),zz0 fun k hk=>hxy k (by simp[hk])⟩,⟨zzO fun k hk=>hxy k (by simp[hk]),zz0 fun k hk=>hxy k (by simp[hk])⟩⟩
 cases o<;>simp only[rdsOf]at h<;>simp only[opv];case mv=>rw[zzO h,zz0 h]
 case and d x y=>obtain⟨⟨a,b⟩,a',b'⟩:=two _ _ h;rw[a,b,a',b']
 case or d x y=>obtain⟨⟨a,b⟩,a',b'⟩:=two _ _ h;rw[a,b,a',b']
 case bin d op x y=>obtain⟨⟨a,b⟩,a',b'⟩:=two _ _ h;rw[a,b,a',b']
 case not=>rw[zzO h,zz0 h]
 case nck=>rw[zzO h,zz0 h]
 case build=>obtain⟨a,b⟩:=zW1 h;rw[a,b]
 case bsl=>obtain⟨a,b⟩:=zjm h;rw[a,b]
 case bslz=>obtain⟨a,b⟩:=zjm h;rw[a,b]
 case fa=>rw[zzO h,zz0 h]
 case ld=>
  have:∀s o n,rdMem st s o n=rdMem st1 s o n:=fun s o n=>by simp only[rdMem,hm rfl s]
  simp only[zzO h,zz0 h,this]
 case idx d esz x y=>obtain⟨⟨a,b⟩,a',b'⟩:=two _ _ h;rw[a,b,a',b']
 case ext=>rw[zzO h,zz0 h]
 case mkf=>obtain⟨a,b⟩:=zjm h;rw[a,b]
 case max d x y=>obtain⟨⟨a,b⟩,a',b'⟩:=two _ _ h;rw[a,b,a',b']
 case min d x y=>obtain⟨⟨a,b⟩,a',b'⟩:=two _ _ h;rw[a,b,a',b']
 case beq d ne x y=>obtain⟨⟨a,b⟩,a',b'⟩:=two _ _ h;rw[a,b,a',b']
 case sidx d x y=>obtain⟨⟨a,b⟩,a',b'⟩:=two _ _ h;rw[a,b,a',b']
 case aad d n esz x y=>obtain⟨⟨a,b⟩,a',b'⟩:=two _ _ h;rw[a,b,a',b']
 case aidx d n x y=>obtain⟨⟨a,b⟩,a',b'⟩:=two _ _ h;rw[a,b,a',b']
 case fld=>rw[zzO h,zz0 h]
 case cvt=>rw[zzO h,zz0 h]
 case cvs=>rw[zzO h,zz0 h]
 case ieq=>rw[zzO h,zz0 h]
 case aeq d ne zs x y=>obtain⟨⟨a,b⟩,a',b'⟩:=two _ _ h;rw[a,b,a',b']
 case sfrom d x y=>obtain⟨⟨a,b⟩,a',b'⟩:=two _ _ h;rw[a,b,a',b']
 case lfrom d e x y=>obtain⟨⟨a,b⟩,a',b'⟩:=two _ _ h;rw[a,b,a',b']
 case mget d ok k e kz z x y=>obtain⟨⟨a,b⟩,a',b'⟩:=two _ _ h;simp only[a,b,a',b',hm rfl]
 case lmax d e x y z m=>obtain⟨⟨a,b⟩,a',b'⟩:=two x y (fun k hk=>h k (by simp only[List.mem_append]at hk⊢;rcases hk with hk|hk<;>simp[hk]));obtain⟨⟨a2,b2⟩,a3,b3⟩:=two z m (fun k hk=>h k (by simp only[List.mem_append]at hk⊢;rcases hk with hk|hk<;>simp[hk]));rw[a,b,a',b',a2,b2,a3,b3]
 case lto d e x y z=>obtain⟨⟨a,b⟩,a',b'⟩:=two x y (fun k hk=>h k (by simp only[List.mem_append]at hk⊢;rcases hk with hk|hk<;>simp[hk]));obtain⟨⟨a2,b2⟩,_⟩:=two z z (fun k hk=>h k (by simp only[List.mem_append]at hk⊢;rcases hk with hk|hk<;>simp[hk]));rw[a,b,a',b',a2,b2]
 case sto d x y z=>obtain⟨⟨a,b⟩,a',b'⟩:=two x y (fun k hk=>h k (by simp only[List.mem_append]at hk⊢;rcases hk with hk|hk<;>simp[hk]));obtain⟨⟨a2,b2⟩,_⟩:=two z z (fun k hk=>h k (by simp only[List.mem_append]at hk⊢;rcases hk with hk|hk<;>simp[hk]));rw[a,b,a',b',a2,b2]
structure Agree(gi:Option (Nat×Bool))(o:I)(st st1:St):Prop where
 slots:∀k∈gRds gi++rdsOf o,getS st.slots k=getS st1.slots k
 mem:kindOf o=.reads∨kindOf o=.writes∨kindOf o=.all→∀s,getM st.mem s=getM st1.mem s
 tk:kindOf o=.tokens∨kindOf o=.all→∀t,getT st.tk t=getT st1.tk t
theorem zvk{gi o st st1}(h:Agree gi o st st1){e}(he:ER E gi o st e):ER E gi o st1 e:=by
 obtain⟨g,hg,he⟩:=he;have hr:∀k∈rdsOf o,getS st.slots k=getS st1.slots k:=fun k hk=>h.slots k (by simp[hk]);refine⟨g,by rw[←zy6 fun k hk=>h.slots k (by simp[hk])];exact hg,?_⟩;have two:∀x y:X,(∀k∈x.rds++y.rds,getS st.slots k=getS st1.slots k)→(ev st x=ev st1 x∧gd st x=gd st1 x)∧(ev st y=ev st1 y∧gd st y=gd st1 y):=fun x y hxy=>
  ⟨⟨zzO fun k hk=>hxy k (by simp[hk]),zz0 fun k hk=>hxy k (by simp[hk])⟩,⟨zzO fun k hk=>hxy k (by simp[hk]),zz0 fun k hk=>hxy k (by simp[hk])⟩⟩
 cases o;case alloc=>simp only[←h.mem (.inr (.inl rfl))]at*;exact he
 case box s x=>simp only[rdsOf]at hr;simp only[←h.mem (.inr (.inl rfl)),←zzO hr,←zz0 hr]at*;exact he
 case st n a x=>simp only[rdsOf]at hr;obtain⟨⟨a1,b1⟩,a2,b2⟩:=two _ _ hr;simp only[←h.mem (.inr (.inl rfl)),←a1,←b1,←a2,←b2]at*;exact he
 case mkm=>simp only[←h.mem (.inr (.inl rfl))]at*;exact he
 case mclr x=>simp only[rdsOf]at hr;simp only[←h.mem (.inr (.inl rfl)),←zzO hr,←zz0 hr]at*;exact he
 case mput k e kz x y z=>simp only[rdsOf]at hr;obtain⟨⟨a1,b1⟩,a2,b2⟩:=two x y (fun k hk=>hr k (by simp only[List.mem_append]at hk⊢;rcases hk with hk|hk<;>simp[hk]));obtain⟨⟨a3,b3⟩,_⟩:=two z z (fun k hk=>hr k (by simp only[List.mem_append]at hk⊢;rcases hk with hk|hk<;>simp[hk]));simp only[←h.mem (.inr (.inl rfl)),←a1,←b1,←a2,←b2,←a3,←b3]at*;exact he
 case app d esz eb x y=>simp only[rdsOf]at hr;obtain⟨⟨a1,b1⟩,a2,b2⟩:=two _ _ hr;simp only[←h.tk (.inl rfl),←a1,←b1,←a2,←b2]at*;exact he
 case len d str x=>simp only[rdsOf]at hr;simp only[←zzO hr,←zz0 hr]at*;exact he
 case call d f args=>
  simp only[rdsOf]at hr;have h1:∀k∈f.rds,getS st.slots k=getS st1.slots k:=fun k hk=>hr k (by simp[hk]);obtain⟨h2,h3⟩:=zjm (xs:=args) fun k hk=>hr k (List.mem_append.2 (.inr hk));simp only[←zzO h1,←zz0 h1,←h2,←h3]at*
  obtain⟨f',caps,cvs,r,k1,k2,k3,k4⟩:=he;exact⟨f',caps,cvs,r,k1,k2,k3,yvD (h.tk (.inl rfl)) k4⟩
 case callB d f args=>
  simp only[rdsOf]at hr;have h1:∀k∈f.rds,getS st.slots k=getS st1.slots k:=fun k hk=>hr k (by simp[hk]);obtain⟨h2,h3⟩:=zjm (xs:=args) fun k hk=>hr k (List.mem_append.2 (.inr hk));simp only[←zzO h1,←zz0 h1,←h2,←h3]at*
  obtain⟨f',caps,x,k1,⟨k2,k3,k4,k5,k6⟩,k9⟩:=he;exact⟨f',caps,x,k1,⟨k2,k3,k4,yWd (h.mem (.inr (.inr rfl))) (h.tk (.inr rfl)) k5,k6⟩,k9⟩
 case mkv=>exact he.elim
 case bslv=>exact he.elim
 case cpy=>exact he.elim
 case clr=>exact he.elim
 all_goals
  simp only at he⊢;rw[←yWk hr (fun hk=>h.mem (.inl hk))];exact he
theorem zwX{gi o st e}(he:ER E gi o st e):(e.slot.map (·.1)=wrOf o)∧(e.mem≠none→kindOf o=.writes)∧(e.tk≠none→kindOf o=.tokens)∧(e.more≠([],[])→kindOf o=.all):=by
 obtain⟨g,hg,he⟩:=he;cases o<;>simp only[wrOf,kindOf,dstOf]at he⊢;case alloc=>obtain⟨_,_,rfl⟩:=he;simp
 case box=>obtain⟨_,rfl⟩:=he;simp
 case st=>obtain⟨_,_,_,_,_,_,rfl⟩:=he;simp
 case mkm=>obtain⟨_,_,rfl⟩:=he;simp
 case mput=>obtain⟨_,_,_,_,_,_,_,_,_,_,_,rfl⟩:=he;simp
 case mclr=>obtain⟨_,_,_,_,_,_,_,rfl⟩:=he;simp
 case app=>obtain⟨_,⟨_,rfl⟩|⟨_,_,_,⟨_,_,_,rfl⟩|⟨_,_,_,_,_,rfl⟩⟩⟩:=he<;>simp
 case len=>obtain⟨_,_,_,rfl⟩:=he;simp
 case call d f args=>
  obtain⟨_,_,_,r,_,_,_,he⟩:=he;cases r with
  |own a sz es=>obtain⟨d',rfl,_,rfl⟩:=he;simp
  |one x=>cases he;cases d<;>simp
  |agg x=>cases he;cases d<;>simp
  |tup x=>cases he;cases d<;>simp
  |bx=>exact he.elim
  |vr=>exact he.elim
  |vc=>exact he.elim
 case callB d f args=>obtain⟨_,_,x,_,_,rfl⟩:=he;cases d<;>simp
 all_goals (obtain⟨_,_,_,_,_,rfl⟩:=he;simp)
structure StEq(s s1:St):Prop where
 slots:∀k,getS s.slots k=getS s1.slots k
 mem:∀k,getM s.mem k=getM s1.mem k
 tk:∀k,getT s.tk k=getT s1.tk k
theorem zkJ(o:Option (Nat×AV))(l)(k):getS (o.toList++l) k=match o with|some (d,v)=>if d=k then v else getS l k|none=>getS l k:=by
 cases o with
 |none=>rfl
 |some p=>rfl
theorem zKj(o:Option (Nat×List AV))(l)(k):getM (o.toList++l) k=match o with|some (d,v)=>if d=k then some v else getM l k|none=>getM l k:=by
 cases o with
 |none=>rfl
 |some p=>rfl
theorem zJt{tk tk1}(h:∀k,getT tk k=getT tk1 k)(o)(k):getT (tkApp tk o) k=getT (tkApp tk1 o) k:=by
 cases o with
 |none=>exact h k
 |some p=>obtain⟨d,u⟩:=p;cases u<;>simp only[tkApp,yki,zKm,h]
theorem yVc(a){l l1}(h:∀k,getM l k=getM l1 k)(k):getM (a++l) k=getM (a++l1) k:=by
 induction a with
 |nil=>exact h k
 |cons p a ih=>obtain⟨s,cs⟩:=p;simp only[List.cons_append,getM,ih]
theorem yVg(a){l l1}(h:∀k,getT l k=getT l1 k)(k):getT (a++l) k=getT (a++l1) k:=by
 induction a with
 |nil=>exact h k
 |cons p a ih=>obtain⟨s,b⟩:=p;simp only[List.cons_append,getT,ih]
theorem StEq.app{s s1}(h:StEq s s1)(e:Eff):StEq (e.app s) (e.app s1):=by
 refine⟨fun k=>?_,fun k=>?_,fun k=>yVg _ (zJt h.tk e.tk) k⟩
 ·simp only[Eff.app,zkJ,h.slots]
 ·simp only[Eff.app,zKj,yVc e.more.1 h.mem]
theorem StEq.agree{s s1}(h:StEq s s1)(gi)(o):Agree gi o s s1:=⟨fun k _=>h.slots k,fun _=>h.mem,fun _=>h.tk⟩
def Blind(K:St→Prop):Prop:=∀s s1,StEq s s1→K s→K s1
theorem zKS{gi o K}(hK:Blind K):Blind (fun s=>aopN E gi o s K):=by intro s s1 he h;obtain⟨e,h1,h2⟩:=zzC.1 h;exact zzC.2 ⟨e,zvk (he.agree gi o) h1,hK _ _ (he.app e) h2⟩
theorem zZo{K}(hK:Blind K):∀l,Blind (aopsN E l K)
 |[]=>hK
 |(g,o)::os=>zKS (zZo hK os)
theorem Agree.yJE{a b:Option (Nat×Bool)×I}{e s0}(hs:ER E a.1 a.2 s0 e)(hw:slotApart (wrOf a.2) (gRds b.1++rdsOf b.2)=true)(hk:kindsApart (kindOf a.2) (kindOf b.2)=true)(st):Agree b.1 b.2 (e.app st) st:=by
 obtain⟨h1,h2,h3,h4⟩:=zwX hs;have hmore:∀k,kindOf b.2=k→k=.reads∨k=.writes∨k=.tokens∨k=.all→e.more=([],[]):=fun k hkb hkk=>by
  by_cases hm:e.more=([],[])
  ·exact hm
  ·have:=h4 hm;rw[this,hkb]at hk;rcases hkk with rfl|rfl|rfl|rfl<;>simp[kindsApart]at hk
 refine⟨fun k hk'=>?_,fun hr s=>?_,fun ht t=>?_⟩
 ·simp only[Eff.app,zkJ];cases hsl:e.slot with
  |none=>rfl
  |some p=>
   obtain⟨d,v⟩:=p;rw[hsl]at h1;simp only[Option.map_some]at h1;rw[←h1]at hw;simp only[slotApart,Bool.not_eq_true',List.contains_eq_mem,decide_eq_false_iff_not]at hw;simp only
   rw[if_neg]
   rintro rfl
   exact hw hk'
 ·simp only[Eff.app,zKj,hmore _ rfl (by rcases hr with hr|hr|hr<;>simp[hr]),List.nil_append];cases hm:e.mem with
  |none=>rfl
  |some p=>have:=h2 (by simp[hm]);rw[this]at hk;rcases hr with hr|hr|hr<;>rw[hr]at hk<;>simp[kindsApart]at hk
 ·simp only[Eff.app,hmore _ rfl (by rcases ht with ht|ht<;>simp[ht]),List.nil_append];cases hm:e.tk with
  |none=>rfl
  |some p=>have:=h3 (by simp[hm]);rw[this]at hk;rcases ht with ht|ht<;>rw[ht]at hk<;>simp[kindsApart]at hk
theorem zQU(a b):kindsApart a b=kindsApart b a:=by cases a<;>cases b<;>rfl
theorem yQL{G st st1 a b}(hr:readsNew a b=true)(h:∀k∈rdsOf a,getS st.slots k=getS st1.slots k)(hm:∀s cs,getM st.mem s=some cs→getM st1.mem s=some cs){r}(hv:opv G st a=some r):opv G st1 a=some r:=by
 have two:∀x y:X,(∀k∈x.rds++y.rds,getS st.slots k=getS st1.slots k)→(ev st x=ev st1 x∧gd st x=gd st1 x)∧(ev st y=ev st1 y∧gd st y=gd st1 y):=fun x y hxy=>
  ⟨⟨zzO fun k hk=>hxy k (by simp[hk]),zz0 fun k hk=>hxy k (by simp[hk])⟩,⟨zzO fun k hk=>hxy k (by simp[hk]),zz0 fun k hk=>hxy k (by simp[hk])⟩⟩
 cases a<;>simp only[readsNew,Bool.false_eq_true]at hr;case ld d ag n x=>
  simp only[rdsOf]at h;simp only[opv]at hv⊢;rw[←zzO h,←zz0 h];split at hv
  ·rename_i s o he;have:∀cs,rdMem st s o n=some cs→rdMem st1 s o n=some cs:=by
    intro cs hc;unfold rdMem at hc⊢;split at hc
    ·rename_i bx hb;rw[hm s bx hb];exact hc
    ·cases hc
   split at hv
   ·rename_i cs hc;rw[this cs hc];exact hv
   ·cases hv
  ·exact hv
  ·exact hv
  ·cases hv
 case mget d ok k e kz z x y=>
  simp only[rdsOf]at h;obtain⟨⟨a,b⟩,a',b'⟩:=two _ _ h;simp only[opv,←a,←b,←a',←b']at hv⊢;split at hv
  ·split at hv
   ·rename_i hb;rw[hm _ _ hb];exact hv
   ·cases hv
  ·cases hv
theorem swapN{a b}(hab:apart a b=true){K}(hK:Blind K){st}(h:aopN E a.1 a.2 st fun s=>aopN E b.1 b.2 s K):aopN E b.1 b.2 st fun s=>aopN E a.1 a.2 s K:=by
 simp only[apart,Bool.and_eq_true]at hab;obtain⟨⟨⟨hk,hw⟩,hw'⟩,hww⟩:=hab;obtain⟨e1,h1,h2⟩:=zzC.1 h;obtain⟨e2,h3,h4⟩:=zzC.1 h2;by_cases hk':kindsApart (kindOf a.2) (kindOf b.2)=true;case neg=>
  have hrn:readsNew a.2 b.2=true:=by simp only[Bool.or_eq_true]at hk;exact hk.resolve_left hk'
  have hka:kindOf a.2=.reads:=by obtain⟨ga,oa⟩:=a;cases oa<;>simp only[readsNew,Bool.false_eq_true]at hrn<;>rfl
  obtain⟨s1,m1,t1,q1⟩:=zwX h1;have hq1:e1.more=([],[]):=by
   by_cases hm:e1.more=([],[])
   ·exact hm
   ·have:=q1 hm;rw[hka]at this;cases this
  have hm1:e1.mem=none:=by
   cases hm:e1.mem with
   |none=>rfl
   |some p=>have:=m1 (by simp[hm]);rw[hka]at this;cases this
  have ht1:e1.tk=none:=by
   cases hm:e1.tk with
   |none=>rfl
   |some p=>have:=t1 (by simp[hm]);rw[hka]at this;cases this
  have hslot:∀k∈gRds b.1++rdsOf b.2,getS (e1.app st).slots k=getS st.slots k:=by
   intro k hk2;simp only[Eff.app,zkJ];cases hsl:e1.slot with
   |none=>rfl
   |some p=>
    obtain⟨d,v⟩:=p;rw[hsl]at s1;simp only[Option.map_some]at s1;rw[←s1]at hw;simp only[slotApart,Bool.not_eq_true',List.contains_eq_mem,decide_eq_false_iff_not]at hw;simp only
    rw[if_neg]
    rintro rfl
    exact hw hk2
  have h3':ER E b.1 b.2 st e2:=zvk ⟨hslot,fun _ s=>by simp only[Eff.app,hm1,hq1,Option.toList_none,List.nil_append],fun _ t=>by simp only[Eff.app,ht1,hq1,tkApp,List.nil_append]⟩ h3;obtain⟨s2,m2,t2,q2⟩:=zwX h3;have hq2:e2.more=([],[]):=by
   by_cases hm:e2.more=([],[])
   ·exact hm
   ·have:=q2 hm;obtain⟨gb,ob⟩:=b;obtain⟨ga,oa⟩:=a;cases oa<;>simp only[readsNew,Bool.false_eq_true]at hrn<;>cases ob<;>simp only[Bool.false_eq_true]at hrn<;>cases this
  have ht2:e2.tk=none:=by
   cases hm:e2.tk with
   |none=>rfl
   |some p=>have:=t2 (by simp[hm]);obtain⟨gb,ob⟩:=b;obtain⟨ga,oa⟩:=a;cases oa<;>simp only[readsNew,Bool.false_eq_true]at hrn<;>cases ob<;>simp only[Bool.false_eq_true]at hrn<;>cases this
  have hnew:∀s cs,getM st.mem s=some cs→getM (e2.app st).mem s=some cs:=by
   intro s cs hs;simp only[Eff.app,zKj,hq2,List.nil_append];cases hm:e2.mem with
   |none=>exact hs
   |some p=>
    obtain⟨s',cs'⟩:=p;simp only
    have:getM st.mem s'=none:=by
     obtain⟨gb,ob⟩:=b;obtain⟨ga,oa⟩:=a;obtain⟨g,hg,he⟩:=h3';cases oa<;>simp only[readsNew,Bool.false_eq_true]at hrn<;>cases ob<;>simp only[Bool.false_eq_true]at hrn<;>simp only at he;all_goals first
      |(obtain⟨_,h5,rfl⟩:=he;simp only[Option.some.injEq,Prod.mk.injEq]at hm;obtain⟨rfl,_⟩:=hm;exact h5)
      |(obtain⟨⟨_,_,_,h5⟩,rfl⟩:=he;simp only[Option.some.injEq,Prod.mk.injEq]at hm;obtain⟨rfl,_⟩:=hm;exact h5)
    rw[if_neg]
    ·exact hs
    ·rintro rfl;rw[this]at hs;cases hs
  have hslot2:∀k∈gRds a.1++rdsOf a.2,getS st.slots k=getS (e2.app st).slots k:=by
   intro k hk2;simp only[Eff.app,zkJ];cases hsl:e2.slot with
   |none=>rfl
   |some p=>
    obtain⟨d,v⟩:=p;rw[hsl]at s2;simp only[Option.map_some]at s2;rw[←s2]at hw';simp only[slotApart,Bool.not_eq_true',List.contains_eq_mem,decide_eq_false_iff_not]at hw';simp only
    rw[if_neg]
    rintro rfl
    exact hw' hk2
  have h1':ER E a.1 a.2 (e2.app st) e1:=by
   obtain⟨g,hg,he⟩:=h1;refine⟨g,by rw[←zy6 fun k hk2=>hslot2 k (by simp[hk2])];exact hg,?_⟩;obtain⟨ga,oa⟩:=a;cases oa<;>simp only[readsNew,Bool.false_eq_true]at hrn;all_goals
    simp only at he⊢;obtain⟨v,ob,gs,he1,he2,he3⟩:=he;exact⟨v,ob,gs,yQL hrn (fun k hk2=>hslot2 k (by simp[hk2])) hnew he1,he2,he3⟩
  refine zzC.2 ⟨e2,h3',zzC.2 ⟨e1,h1',hK _ _ ?_ h4⟩⟩;refine⟨fun k=>?_,fun k=>?_,fun k=>?_⟩
  ·simp only[Eff.app,zkJ];cases hs1:e1.slot with
   |none=>rfl
   |some p1=>
    cases hs2:e2.slot with
    |none=>rfl
    |some p2=>
     obtain⟨d1,v1⟩:=p1;obtain⟨d2,v2⟩:=p2;rw[hs1]at s1;rw[hs2]at s2;simp only[Option.map_some]at s1 s2;rw[←s1,←s2]at hww;simp only[slotApart,Option.toList_some,List.contains_cons,List.contains_nil,Bool.or_false,Bool.not_eq_true',beq_eq_false_iff_ne]at hww;simp only
     by_cases hd2:d2=k
     ·subst hd2;rw[if_pos rfl,if_neg hww,if_pos rfl]
     ·rw[if_neg hd2,if_neg hd2]
  ·simp only[Eff.app,hm1,hq1,hq2,Option.toList_none,List.nil_append]
  ·simp only[Eff.app,ht1,ht2,hq1,hq2,tkApp,List.nil_append]
 replace hk:=hk';have h3':ER E b.1 b.2 st e2:=zvk (Agree.yJE h1 hw hk st) h3;have h1':ER E a.1 a.2 (e2.app st) e1:=by have hag:=Agree.yJE (a:=b) (b:=a) h3' hw' (by rw[zQU];exact hk) st;exact zvk ⟨fun k hk=>(hag.slots k hk).symm,fun hr s=>(hag.mem hr s).symm,fun ht t=>(hag.tk ht t).symm⟩ h1
 refine zzC.2 ⟨e2,h3',zzC.2 ⟨e1,h1',hK _ _ ?_ h4⟩⟩;obtain⟨s1,m1,t1,q1⟩:=zwX h1;obtain⟨s2,m2,t2,q2⟩:=zwX h3;have hone:e1.more≠([],[])→e1.mem=none∧e1.tk=none∧e2.mem=none∧e2.tk=none∧e2.more=([],[]):=fun hm=>by
  have hka:=q1 hm;rw[hka]at hk;refine⟨?_,?_,?_,?_,?_⟩
  ·cases h:e1.mem with
   |none=>rfl
   |some p=>have:=m1 (by simp[h]);rw[hka]at this;cases this
  ·cases h:e1.tk with
   |none=>rfl
   |some p=>have:=t1 (by simp[h]);rw[hka]at this;cases this
  ·cases h:e2.mem with
   |none=>rfl
   |some p=>have:=m2 (by simp[h]);rw[this]at hk;simp[kindsApart]at hk
  ·cases h:e2.tk with
   |none=>rfl
   |some p=>have:=t2 (by simp[h]);rw[this]at hk;simp[kindsApart]at hk
  ·by_cases h:e2.more=([],[])
   ·exact h
   ·have:=q2 h;rw[this]at hk;simp[kindsApart]at hk
 have htwo:e2.more≠([],[])→e1.mem=none∧e1.tk=none∧e2.mem=none∧e2.tk=none∧e1.more=([],[]):=fun hm=>by
  have hkb:=q2 hm;rw[hkb]at hk;refine⟨?_,?_,?_,?_,?_⟩
  ·cases h:e1.mem with
   |none=>rfl
   |some p=>have:=m1 (by simp[h]);rw[this]at hk;simp[kindsApart]at hk
  ·cases h:e1.tk with
   |none=>rfl
   |some p=>have:=t1 (by simp[h]);rw[this]at hk;simp[kindsApart]at hk
  ·cases h:e2.mem with
   |none=>rfl
   |some p=>have:=m2 (by simp[h]);rw[hkb]at this;cases this
  ·cases h:e2.tk with
   |none=>rfl
   |some p=>have:=t2 (by simp[h]);rw[hkb]at this;cases this
  ·by_cases h:e1.more=([],[])
   ·exact h
   ·have:=q1 h;rw[this]at hk;simp[kindsApart]at hk
 by_cases hb1:e1.more=([],[]);case neg=>
  obtain⟨z1,z2,z3,z4,z5⟩:=hone hb1;refine⟨fun k=>?_,fun k=>by simp only[Eff.app,z1,z3,z5,Option.toList_none,List.nil_append],fun k=>by simp only[Eff.app,z2,z4,z5,tkApp,List.nil_append]⟩;simp only[Eff.app,zkJ];cases hs1:e1.slot with
  |none=>rfl
  |some p1=>
   cases hs2:e2.slot with
   |none=>rfl
   |some p2=>
    obtain⟨d1,v1⟩:=p1;obtain⟨d2,v2⟩:=p2;rw[hs1]at s1;rw[hs2]at s2;simp only[Option.map_some]at s1 s2;rw[←s1,←s2]at hww;simp only[slotApart,Option.toList_some,List.contains_cons,List.contains_nil,Bool.or_false,Bool.not_eq_true',beq_eq_false_iff_ne]at hww;simp only
    by_cases hd2:d2=k
    ·subst hd2;rw[if_pos rfl,if_neg hww,if_pos rfl]
    ·rw[if_neg hd2,if_neg hd2]
 by_cases hb2:e2.more=([],[]);case neg=>
  obtain⟨z1,z2,z3,z4,z5⟩:=htwo hb2;refine⟨fun k=>?_,fun k=>by simp only[Eff.app,z1,z3,z5,Option.toList_none,List.nil_append],fun k=>by simp only[Eff.app,z2,z4,z5,tkApp,List.nil_append]⟩;simp only[Eff.app,zkJ];cases hs1:e1.slot with
  |none=>rfl
  |some p1=>
   cases hs2:e2.slot with
   |none=>rfl
   |some p2=>
    obtain⟨d1,v1⟩:=p1;obtain⟨d2,v2⟩:=p2;rw[hs1]at s1;rw[hs2]at s2;simp only[Option.map_some]at s1 s2;rw[←s1,←s2]at hww;simp only[slotApart,Option.toList_some,List.contains_cons,List.contains_nil,Bool.or_false,Bool.not_eq_true',beq_eq_false_iff_ne]at hww;simp only
    by_cases hd2:d2=k
    ·subst hd2;rw[if_pos rfl,if_neg hww,if_pos rfl]
    ·rw[if_neg hd2,if_neg hd2]
 refine⟨fun k=>?_,fun k=>?_,fun k=>?_⟩
 ·simp only[Eff.app,zkJ];cases hs1:e1.slot with
  |none=>rfl
  |some p1=>
   cases hs2:e2.slot with
   |none=>rfl
   |some p2=>
    obtain⟨d1,v1⟩:=p1;obtain⟨d2,v2⟩:=p2;rw[hs1]at s1;rw[hs2]at s2;simp only[Option.map_some]at s1 s2;rw[←s1,←s2]at hww;simp only[slotApart,Option.toList_some,List.contains_cons,List.contains_nil,Bool.or_false,Bool.not_eq_true',beq_eq_false_iff_ne]at hww;simp only
    by_cases hd2:d2=k
    ·subst hd2;rw[if_pos rfl,if_neg hww,if_pos rfl]
    ·rw[if_neg hd2,if_neg hd2]
 ·simp only[Eff.app,zKj,hb1,hb2,List.nil_append];cases hs1:e1.mem with
  |none=>rfl
  |some p1=>
   cases hs2:e2.mem with
   |none=>rfl
   |some p2=>rw[m1 (by simp[hs1]),m2 (by simp[hs2])]at hk;simp[kindsApart]at hk
 ·simp only[Eff.app,hb1,hb2,List.nil_append];cases hs1:e1.tk with
  |none=>rfl
  |some p1=>
   cases hs2:e2.tk with
   |none=>rfl
   |some p2=>rw[t1 (by simp[hs1]),t2 (by simp[hs2])]at hk;simp[kindsApart]at hk
end Go.Abs
end
section
namespace Go.Abs
open Go.RowKit
variable{c:Ctx}{st:St}{tmps:Array Value}{w:World}{S:Safe}{ρ:Rho}{E:AEnv}{T:Nat→Option Ty}
theorem zXh{gi o K}(h:aopN E gi o st K):aop E gi o st K:=by
 unfold aopN at h;unfold aop;split at h
 ·exact h.elim
 ·rename_i g hg;refine yJZ ?_;cases o;case isnil=>exact h.elim
  case len=>
   simp only[aopG];simp only at h;split at h
   ·exact⟨h.1,fun _=>h.2⟩
   ·exact h.elim
  case st=>exact h.2
  case app=>exact h.2
  case mkv=>exact h.elim
  case bslv=>exact h.elim
  case cpy=>exact h.elim
  case clr=>exact h.elim
  case call d f args=>
   simp only at h;simp only[aopG];split at h
   ·rename_i fid caps hf;split at h
    ·rename_i cvs hc;rw[hf];obtain⟨r,h1,h2⟩:=h;exact⟨r,h1,yKJ h2⟩
    ·exact h.elim
   ·exact h.elim
  all_goals exact h
theorem frontN{α:Type}{f x post K}(hK:Blind K):∀{pre:List α} {st},(∀j∈pre,apart (f j) (f x)=true)→aopsN E (pre.map f++f x::post) K st→aopsN E (f x::(pre.map f++post)) K st
 |[],_,_,h=>h
 |j::pre,st,hp,h=>by simp only[List.map_cons,List.cons_append,aopsN]at h⊢;have h':aopN E (f j).1 (f j).2 st (aopsN E (f x::(pre.map f++post)) K):=zxY (fun s hs=>frontN hK (fun k hk=>hp k (by simp[hk])) hs) h;have:=swapN (hp j (by simp)) (zZo hK (pre.map f++post)) (by simpa only[aopsN]using h');simpa only[aopsN]using this
def EdgesIn(ops:List Oper)(listed:Nat→Bool)(k:Nat):Prop:=∀o,ops[k]? =some o→∀e∈o.after.toList,Region.binds .any e=true→listed e.on=true
def ClosedL(ops:List Oper)(listed:Nat→Bool):Prop:=∀k,listed k=true→EdgesIn ops listed k
def PredsOk(ops:List Oper)(k:Nat)(ps:Nat):Prop:=∀listed,ClosedL ops listed→EdgesIn ops listed k→∀j,ps.testBit j=true→listed j=true
theorem yw9{acc:List Nat}{p:Nat→Prop}:∀(es:List Edge) (m),(∀j,m.testBit j=true→p j)→(∀e∈es,Region.binds .any e=true→p e.on∧∀j,(acc.getD e.on 0).testBit j=true→p j)→
  ∀j,(es.foldl (fun m e=>if Region.binds .any e then m|||(2^e.on|||acc.getD e.on 0)else m) m).testBit j=true→p j
 |[],m,hm,_,j,h=>hm j h
 |e::es,m,hm,he,j,h=>by
  rw[List.foldl_cons]at h;refine yw9 es _ (fun i hi=>?_) (fun x hx=>he x (by simp[hx])) j h;split at hi
  ·rename_i hb;obtain⟨h1,h2⟩:=he e (by simp) hb;rw[Nat.testBit_or,Nat.testBit_or,Bool.or_eq_true,Bool.or_eq_true,Nat.testBit_two_pow]at hi;rcases hi with hi|hi|hi
   ·exact hm i hi
   ·have:e.on=i:=of_decide_eq_true hi;exact this▸h1
   ·exact h2 i hi
  ·exact hm i hi
theorem zko{ops}:∀(os) (acc),os=ops.drop acc.length→(∀k,PredsOk ops k (acc.getD k 0))→∀k,PredsOk ops k ((predsOf ops acc os).getD k 0)
 |[],acc,_,h=>h
 |o::os,acc,ho,h=>by
  have hlt:acc.length<ops.length:=by
   rcases Nat.lt_or_ge acc.length ops.length with h1|h1
   ·exact h1
   ·rw[List.drop_of_length_le h1]at ho;cases ho
  rw[List.drop_eq_getElem_cons hlt]at ho;obtain⟨ho1,ho2⟩:=List.cons.inj ho;refine zko os _ (by simpa using ho2) fun k=>?_;generalize hx:o.after.toList.foldl (fun m e=>if Region.binds .any e then m|||(2^e.on|||acc.getD e.on 0)else m) 0=x;by_cases hk:k<acc.length
  ·have:(acc++[x]).getD k 0=acc.getD k 0:=by simp[List.getD,List.getElem?_append_left hk]
   rw[this];exact h k
  ·by_cases hk':k=acc.length
   ·subst hk';have:(acc++[x]).getD acc.length 0=x:=by simp[List.getD]
    rw[this];intro listed hc he j hj;subst hx;refine yw9 (p:=fun j=>listed j=true) o.after.toList 0 (fun j hj=>by simp at hj) (fun e he1 hb=>?_) j hj;have hl:=he o (by rw[List.getElem?_eq_getElem hlt,ho1]) e he1 hb;exact⟨hl,h e.on listed hc (hc e.on hl)⟩
   ·have:(acc++[x]).getD k 0=0:=by
      have:(acc++[x]).length≤k:=by simp;omega
      rw[List.getD_eq_getElem?_getD,List.getElem?_eq_none this];rfl
    rw[this];intro _ _ _ j hj;simp at hj
theorem zK6{l preds b}:∀{n j},dokRow l preds b n=true→j<n→preds.testBit j=true∨∀a,l[j]? =some a→apart a b=true
 |0,j,_,h=>by omega
 |n+1,j,hd,h=>by
  simp only[dokRow,Bool.and_eq_true,Bool.or_eq_true]at hd;by_cases hj:j=n
  ·subst hj;rcases hd.1 with h1|h1
   ·exact .inl h1
   ·refine .inr fun a ha=>?_;rw[ha]at h1;exact h1
  ·exact zK6 hd.2 (by omega)
theorem zK5{l preds}:∀{n k},dokAll l preds n=true→k<n→∀b,l[k]? =some b→dokRow l (preds.getD k 0) b k=true
 |0,k,_,h=>by omega
 |n+1,k,hd,h=>by
  simp only[dokAll,Bool.and_eq_true]at hd;by_cases hk:k=n
  ·subst hk;intro b hb;have:=hd.1;rw[hb]at this;exact this
  ·exact zK5 hd.2 (by omega)
theorem zZt:∀{os} {k i} {o},edgesOk k os=true→os[i]? =some o→∀e∈o.after.toList,Region.binds .any e=true→e.on<k+i
 |[],_,i,o,_,h=>by simp at h
 |o'::os,k,0,o,hk,h=>by
  simp at h;subst h;simp only[edgesOk,Bool.and_eq_true,List.all_eq_true,Bool.or_eq_true,Bool.not_eq_true',decide_eq_true_eq]at hk;intro e he hb;rcases hk.1 e he with h1|h1
  ·rw[hb]at h1;cases h1
  ·simpa using h1
 |o'::os,k,i+1,o,hk,h=>by simp only[edgesOk,Bool.and_eq_true]at hk;have:=zZt (i:=i) hk.2 (by simpa using h);intro e he hb;have:=this e he hb;omega
theorem zYp{K l2}:∀l1:List (Option (Nat×Bool)×I),aopsN E (l1++l2) K=aopsN E l1 (aopsN E l2 K)
 |[]=>rfl
 |(g,o)::os=>by funext s;show aopN E g o s (aopsN E (os++l2) K)=aopN E g o s (aopsN E os (aopsN E l2 K));rw[zYp os]
theorem Sim.eq{s s0}(he:StEq s0 s)(h:Sim c s tmps w S ρ):Sim c s0 tmps w S ρ:=by
 refine{h with slots:=fun k=>by rw[he.slots];exact h.slots k,mem:=fun s cs hs=>h.mem s cs (by rw[←he.mem];exact hs),boxNew:=fun s hs=>h.boxNew s (by rw[←he.mem];exact hs),mps:={at':=fun s k e kvs hs=>h.mps.at' s k e kvs (by rw[←he.mem];exact hs),inj:=h.mps.inj,new:=fun s hs=>h.mps.new s (by rw[←he.mem];exact hs),lt:=h.mps.lt,apart:=h.mps.apart},tok:=fun t ht=>?_,tokNew:=fun t ht=>h.tokNew t (by rw[←he.tk];exact ht)};obtain⟨x,g1,g2⟩:=h.tok t (by rw[←he.tk];exact ht);refine⟨x,g1,?_⟩;rcases g2 with g2|⟨b,k0,k1,k2,k3,k4,k5,k6,k7⟩
 ·exact .inl g2
 ·exact .inr ⟨b,k0,k1,k2,k3,k4,k5,k6,fun t' b' z hne ht' htok hz=>k7 t' b' z hne (by rw[←he.tk];exact ht') htok hz⟩
theorem yJY{P ops}(hedge:edgesOk 0 ops.toList=true){F}(m)(Q)(Inv:Array Bool→Act→World→Prop)
  (h1:∀listed a w,listed.size=ops.size→(∀i,i<ops.size→listed.getD i false=true)→Inv listed a w→Q .normal a w)
  (h2:∀listed a w i,listed.size=ops.size→i<ops.size→listed.getD i false=false→EdgesIn ops.toList (fun i=>listed.getD i false) i→ClosedL ops.toList (fun i=>listed.getD i false)→(∀j,(listed.setIfInBounds i true).getD j false=(decide (j=i)||listed.getD j false))→Inv listed a w→
   ∀K:Act→World→Prop,(∀a' w',Inv (listed.setIfInBounds i true) a' w'→K a' w')→wpOpIn F m P ops Q i K a w):
  ∀(fuel) (listed) {a} {w},listed.size=ops.size→((List.range ops.size).filter fun i=>!listed.getD i false).length≤fuel→ClosedL ops.toList (fun i=>listed.getD i false)→
   Inv listed a w→wpAnyIn F m P .any ops Q fuel listed a w:=by
 have hready:∀(listed:Array Bool),listed.size=ops.size→Region.ready .any ops listed=[]→∀i,i<ops.size→listed.getD i false=true:=by
  intro listed hsz hr i;induction i using Nat.strongRecOn with
  |ind i ihi=>
   intro hin;cases hli:listed.getD i false with
   |true=>rfl
   |false=>
    exfalso;have:i∈Region.ready .any ops listed:=by
     simp only[Region.ready,List.mem_filter,List.mem_range,Bool.and_eq_true,Bool.not_eq_true'];refine⟨hin,?_,?_⟩
     ·have:listed.getD i true=listed.getD i false:=by simp[Array.getD_eq_getD_getElem?,Array.getElem?_eq_getElem (hsz▸hin:i<listed.size)]
      rw[this];exact hli
     ·simp only[Array.getElem?_eq_getElem hin,Option.map_some,Option.getD_some,Array.all_eq_true_iff_forall_mem,Bool.or_eq_true,Bool.not_eq_true'];intro e he;cases hb:Region.binds .any e with
      |false=>exact .inl rfl
      |true=>have hlt:=zZt (i:=i) (o:=ops[i]) hedge (by simp[hin]) e (by simpa using he) hb;exact .inr (ihi e.on (by omega) (by omega))
    rw[hr]at this;cases this
 intro fuel;induction fuel with
 |zero=>
  intro listed a w hsz hfu _ hA;have hnil:((List.range ops.size).filter fun i=>!listed.getD i false)=[]:=List.eq_nil_of_length_eq_zero (by omega);have hall:∀i,i<ops.size→listed.getD i false=true:=by intro i hi;have:=List.filter_eq_nil_iff.1 hnil i (List.mem_range.2 hi);simpa using this
  refine⟨?_,h1 listed _ _ hsz hall hA⟩;cases hr:Region.ready .any ops listed with
  |nil=>rfl
  |cons i r=>
   exfalso;have hi:i∈Region.ready .any ops listed:=by rw[hr];simp
   simp only[Region.ready,List.mem_filter,List.mem_range,Bool.and_eq_true,Bool.not_eq_true']at hi;have:listed.getD i true=listed.getD i false:=by simp[Array.getD_eq_getD_getElem?,Array.getElem?_eq_getElem (hsz▸hi.1:i<listed.size)]
   have h3:=hi.2.1;rw[this,hall i hi.1]at h3;cases h3
 |succ fuel ih=>
  intro listed a w hsz hfu hcl hA;refine⟨fun hr=>?_,fun i hi=>?_⟩
  ·exact h1 listed _ _ hsz (hready listed hsz hr) hA
  ·simp only[Region.ready,List.mem_filter,List.mem_range,Bool.and_eq_true,Bool.not_eq_true']at hi;obtain⟨hin,hi1,hi2⟩:=hi;have hgi:listed.getD i true=listed.getD i false:=by simp[Array.getD_eq_getD_getElem?,Array.getElem?_eq_getElem (hsz▸hin:i<listed.size)]
   rw[hgi]at hi1;have hed:EdgesIn ops.toList (fun i=>listed.getD i false) i:=by
    intro o ho e he hb;have hoi:ops[i]? =some o:=by simpa using ho
    simp only[hoi,Option.map_some,Option.getD_some,Array.all_eq_true_iff_forall_mem,Bool.or_eq_true,Bool.not_eq_true']at hi2;rcases hi2 e (by simpa using he)with h1|h1
    ·rw[hb]at h1;cases h1
    ·exact h1
   have hl':∀j,(listed.setIfInBounds i true).getD j false=(decide (j=i)||listed.getD j false):=by
    intro j;simp only[Array.getD_eq_getD_getElem?,Array.getElem?_setIfInBounds];by_cases hj:i=j
    ·subst hj;simp[hsz,hin]
    ·have:¬j=i:=fun e=>hj e.symm;simp[hj,this]
   refine h2 listed _ _ i hsz hin hi1 hed hcl hl' hA _ fun a' w' hA'=>?_;refine ih (listed.setIfInBounds i true) (by simp[hsz]) ?_ ?_ hA'
   ·have hmem:i∈(List.range ops.size).filter fun i=>!listed.getD i false:=List.mem_filter.2 ⟨List.mem_range.2 hin,by rw[hi1];rfl⟩;have hsub:((List.range ops.size).filter fun j=>!(listed.setIfInBounds i true).getD j false)=(((List.range ops.size).filter fun j=>!listed.getD j false).filter fun j=>!decide (j=i)):=by rw[List.filter_filter];congr 1;funext j;rw[hl' j];cases decide (j=i)<;>simp
    rw[hsub];have:(((List.range ops.size).filter fun j=>!listed.getD j false).filter fun j=>!decide (j=i)).length<((List.range ops.size).filter fun j=>!listed.getD j false).length:=by refine Nat.lt_of_le_of_ne (List.length_filter_le _ _) fun he=>?_;have:=List.length_filter_eq_length_iff.1 he i hmem;simp at this
    omega
   ·intro k hk o ho e he hb;simp only at hk⊢;rw[hl']at hk⊢;by_cases hki:k=i
    ·subst hki;have:=hed o ho e he hb;simp only at this;rw[this];simp
    ·simp only[hki,decide_false,Bool.false_or]at hk;have:=hcl k hk o ho e he hb;simp only at this;rw[this];simp
theorem zKK(hG:E.G=c.G)(hC:∀f args r,E.C f args r→Ev c.P c.G f args r)(hT:∀t ty,T t=some ty→chkTy c.P t ty=true){ops:Array Oper}{l}(htr:trOps T ops.toList=some l)
  (hdst:∀o∈ops.toList,∀d,o.dst=some d→c.D d) (hedge:edgesOk 0 ops.toList=true) {F} (hF:FW F) (m) (Q) {K} (hQ:∀a w,Goes c K a w→Q .normal a w)
  (HH:Array Bool→St→Prop) (h1:∀listed st,listed.size=ops.size→(∀i,i<ops.size→listed.getD i false=true)→HH listed st→K st)
  (h2:∀listed st i,listed.size=ops.size→i<ops.size→listed.getD i false=false→EdgesIn ops.toList (fun i=>listed.getD i false) i→ClosedL ops.toList (fun i=>listed.getD i false)→(∀j,(listed.setIfInBounds i true).getD j false=(decide (j=i)||listed.getD j false))→HH listed st→
   ∃s0 K',StEq s0 st∧aop E (l.getD i default).1 (l.getD i default).2 s0 K'∧∀st',K' st'→HH (listed.setIfInBounds i true) st'):
  ∀(fuel) (listed) {st} {tmps} {w} {S} {ρ},listed.size=ops.size→((List.range ops.size).filter fun i=>!listed.getD i false).length≤fuel→ClosedL ops.toList (fun i=>listed.getD i false)→
   Sim c st tmps w S ρ→HH listed st→wpAnyIn F m c.P .any ops Q fuel listed ⟨tmps,c.ds⟩ w:=by
 obtain⟨hlen,hget⟩:=zyG htr;simp only[Array.length_toList]at hlen;intro fuel listed st tmps w S ρ hsz hfu hcl h hA;refine yJY hedge m Q (fun listed a w=>a.defers=c.ds∧∃st S ρ,Sim c st a.tmps w S ρ∧HH listed st) ?_ ?_ fuel listed hsz hfu hcl ⟨rfl,_,_,_,h,hA⟩
 ·rintro listed a w hsz hall ⟨hd,st,S,ρ,h,hA⟩
  exact hQ _ _ ⟨hd,_,_,_,h,h1 listed st hsz hall hA⟩
 ·rintro listed ⟨tmps,ds⟩ w i hsz hin hi1 hed hcl hl' ⟨hd,st,S,ρ,h,hA⟩ K hK
  simp only at hd;subst hd;obtain⟨s0,K',hse,hfront,hnext⟩:=h2 listed st i hsz hin hi1 hed hcl hl' hA;obtain⟨gi,ii,hgii,htg,hti⟩:=hget i ops[i] (by simp[hin]);have hld:l.getD i default=(gi,ii):=by simp[List.getD,hgii]
  rw[hld]at hfront;refine zVG hG hC hT (h.eq hse) (Array.getElem?_eq_getElem hin) htg hti (hdst _ (by simp)) hfront ?_ Q hF m
  rintro⟨tmps',ds'⟩ w' ⟨hds,st',S',ρ',h',hA'⟩
  exact hK _ _ ⟨hds,st',S',ρ',h',hnext st' hA'⟩
theorem ywg(hG:E.G=c.G)(hC:∀f args r,E.C f args r→Ev c.P c.G f args r)(hT:∀t ty,T t=some ty→chkTy c.P t ty=true){ops:Array Oper}{l}(htr:trOps T ops.toList=some l)
  (hdst:∀o∈ops.toList,∀d,o.dst=some d→c.D d) (hedge:edgesOk 0 ops.toList=true) {F} (hF:FW F) (m) (Q) {K} (hQ:∀a w,Goes c K a w→Q .normal a w)
  (HH:Array Bool→St→Prop) (h1:∀listed st,listed.size=ops.size→(∀i,i<ops.size→listed.getD i false=true)→HH listed st→K st)
  (h2:∀listed st i,listed.size=ops.size→i<ops.size→listed.getD i false=false→EdgesIn ops.toList (fun i=>listed.getD i false) i→ClosedL ops.toList (fun i=>listed.getD i false)→(∀j,(listed.setIfInBounds i true).getD j false=(decide (j=i)||listed.getD j false))→HH listed st→
   ∃rest K',aopsN E (l.getD i default::rest) K' st∧∀st',aopsN E rest K' st'→HH (listed.setIfInBounds i true) st'):
  ∀(fuel) (listed) {st} {tmps} {w} {S} {ρ},listed.size=ops.size→((List.range ops.size).filter fun i=>!listed.getD i false).length≤fuel→ClosedL ops.toList (fun i=>listed.getD i false)→
   Sim c st tmps w S ρ→HH listed st→wpAnyIn F m c.P .any ops Q fuel listed ⟨tmps,c.ds⟩ w:=by
 refine zKK hG hC hT htr hdst hedge hF m Q hQ HH h1 ?_;intro listed st i a1 a2 a3 a4 a5 a6 a7;obtain⟨rest,K',h3,h4⟩:=h2 listed st i a1 a2 a3 a4 a5 a6 a7;exact⟨st,aopsN E rest K',⟨fun _=>rfl,fun _=>rfl,fun _=>rfl⟩,zXh h3,h4⟩
def OrdOk(l:List (Option (Nat×Bool)×I))(preds:List Nat)(ord:List Nat):Prop:=ord.Pairwise fun i j=>okBit l preds i j=true
def Left(n:Nat)(listed:Array Bool)(ord:List Nat):Prop:=(∀j,j∈ord↔j<n∧listed.getD j false=false)∧ord.Nodup
def HH1(E:AEnv)(l:List (Option (Nat×Bool)×I))(preds:List Nat)(n:Nat)(K:St→Prop)(listed:Array Bool)(st:St):Prop:=
 ∃ord,Left n listed ord∧OrdOk l preds ord∧aopsN E (ord.map fun i=>l.getD i default) K st
def HH2(E:AEnv)(l:List (Option (Nat×Bool)×I))(preds:List Nat)(n:Nat)(ia ib:Nat)(rs:List Nat)(K:St→Prop)(listed:Array Bool)(st:St):Prop:=
 HH1 E l preds n K listed st∨∃p,Left n listed (p++ia::ib::rs)∧OrdOk l preds (p++ia::rs)∧OrdOk l preds (p++ib::rs)∧
  aopsN E (p.map fun i=>l.getD i default) (fun s=>aopsN E ((ia::ib::rs).map fun i=>l.getD i default) K s∧aopsN E ((ib::ia::rs).map fun i=>l.getD i default) K s) st
theorem Left.take{n listed listed' pre post i}(h:Left n listed (pre++i::post))(hl:∀j,listed'.getD j false=(decide (j=i)||listed.getD j false)):Left n listed' (pre++post):=by
 obtain⟨h1,h2⟩:=h;have h3:(i::(pre++post)).Nodup:=(List.perm_middle.nodup_iff).1 h2;obtain⟨h4,h5⟩:=List.nodup_cons.1 h3;refine⟨fun j=>?_,h5⟩;rw[hl j];have h6:j∈pre++i::post↔j=i∨j∈pre++post:=by simp;constructor<;>(intro h;rcases h with h|h|h<;>simp[h])
 by_cases hj:j=i
 ·subst hj;simp only[decide_true,Bool.true_or,Bool.true_eq_false,and_false,iff_false];exact h4
 ·simp only[hj,decide_false,Bool.false_or];rw[←h1 j,h6];simp[hj]
theorem zY1{l preds ops}(hpreds:∀k,PredsOk ops k (preds.getD k 0)){listed i}(hcl:ClosedL ops listed)(hed:EdgesIn ops listed i){pre:List Nat}(hp:∀j∈pre,okBit l preds j i=true)(hl:∀j∈pre,listed j=false):∀j∈pre,apart (l.getD j default) (l.getD i default)=true:=by
 intro j hj;have:=hp j hj;simp only[okBit,Bool.or_eq_true]at this;rcases this with h1|h1
 ·have:=hpreds i _ hcl hed j h1;rw[hl j hj]at this;cases this
 ·exact h1
theorem yjT{l preds n K}(hK:Blind K){ops}(hpreds:∀k,PredsOk ops k (preds.getD k 0)){listed listed' i}(hin:i<n)(hi1:listed.getD i false=false)
  (hed:EdgesIn ops (fun i=>listed.getD i false) i) (hcl:ClosedL ops (fun i=>listed.getD i false)) (hl':∀j,listed'.getD j false=(decide (j=i)||listed.getD j false)) (h:HH1 E l preds n K listed st):∃rest K',aopsN E (l.getD i default::rest) K' st∧∀st',aopsN E rest K' st'→HH1 E l preds n K listed' st':=by
 obtain⟨ord,hL,hO,hA⟩:=h;obtain⟨pre,post,rfl⟩:=List.append_of_mem ((hL.1 i).2 ⟨hin,hi1⟩);have hpo:=List.pairwise_append.1 hO;have hap:=zY1 hpreds hcl hed (fun j hj=>hpo.2.2 j hj i (by simp)) (fun j hj=>((hL.1 j).1 (by simp[hj])).2);rw[List.map_append,List.map_cons]at hA;refine⟨_,K,frontN (x:=i) hK hap hA,fun st' hs=>⟨pre++post,hL.take hl',?_,by rw[List.map_append];exact hs⟩⟩;exact List.pairwise_append.2 ⟨hpo.1,(List.pairwise_cons.1 hpo.2.1).2,fun x hx y hy=>hpo.2.2 x hx y (by simp[hy])⟩
theorem ywA{A B}(ha:Blind A)(hb:Blind B):Blind (fun s=>A s∧B s):=fun s s1 he h=>⟨ha s s1 he h.1,hb s s1 he h.2⟩
theorem yKk{l preds n ia ib rs K}(hK:Blind K){ops}(hpreds:∀k,PredsOk ops k (preds.getD k 0))(hrs:∀k∈rs,(preds.getD k 0).testBit ia=true∨(preds.getD k 0).testBit ib=true){listed listed' i}(hin:i<n)(hi1:listed.getD i false=false)
  (hed:EdgesIn ops (fun i=>listed.getD i false) i) (hcl:ClosedL ops (fun i=>listed.getD i false)) (hl':∀j,listed'.getD j false=(decide (j=i)||listed.getD j false)) (h:HH2 E l preds n ia ib rs K listed st):∃rest K',aopsN E (l.getD i default::rest) K' st∧∀st',aopsN E rest K' st'→HH2 E l preds n ia ib rs K listed' st':=by
 rcases h with h|⟨p,hL,hO1,hO2,hA⟩
 ·obtain⟨rest,K',h1,h2⟩:=yjT hK hpreds hin hi1 hed hcl hl' h;exact⟨rest,K',h1,fun st' hs=>.inl (h2 st' hs)⟩
 ·have hmem:=(hL.1 i).2 ⟨hin,hi1⟩;have hun:∀j,j∈p++ia::ib::rs→listed.getD j false=false:=fun j hj=>((hL.1 j).1 hj).2;have hp1:=List.pairwise_append.1 hO1;have hp2:=List.pairwise_append.1 hO2;rcases List.mem_append.1 hmem with hm|hm
  ·obtain⟨pre,post,rfl⟩:=List.append_of_mem hm;have hpo:=List.pairwise_append.1 hp1.1;have hap:=zY1 hpreds hcl hed (fun j hj=>hpo.2.2 j hj i (by simp)) (fun j hj=>hun j (by simp[hj]));rw[List.map_append,List.map_cons]at hA;refine⟨_,_,frontN (x:=i) (ywA (zZo hK _) (zZo hK _)) hap hA,fun st' hs=>.inr ⟨pre++post,?_,?_,?_,by rw[List.map_append];exact hs⟩⟩
   ·have:Left n listed (pre++i::(post++ia::ib::rs)):=by simpa using hL
    simpa using this.take hl'
   ·have:OrdOk l preds (pre++i::(post++ia::rs)):=by simpa using hO1
    have hq:=List.pairwise_append.1 this;have:OrdOk l preds (pre++(post++ia::rs)):=List.pairwise_append.2 ⟨hq.1,(List.pairwise_cons.1 hq.2.1).2,fun x hx y hy=>hq.2.2 x hx y (List.mem_cons_of_mem _ hy)⟩;simpa using this
   ·have:OrdOk l preds (pre++i::(post++ib::rs)):=by simpa using hO2
    have hq:=List.pairwise_append.1 this;have:OrdOk l preds (pre++(post++ib::rs)):=List.pairwise_append.2 ⟨hq.1,(List.pairwise_cons.1 hq.2.1).2,fun x hx y hy=>hq.2.2 x hx y (List.mem_cons_of_mem _ hy)⟩;simpa using this
  ·rcases List.mem_cons.1 hm with rfl|hm
   ·have hap:=zY1 hpreds hcl hed (fun j hj=>hp1.2.2 j hj i (by simp)) (fun j hj=>hun j (by simp[hj]));have hA1:=zyM _ (fun s hs=>hs.1) hA;rw[←zYp,List.map_cons]at hA1;refine⟨_,K,frontN (x:=i) hK hap hA1,fun st' hs=>.inl ⟨p++ib::rs,hL.take hl',hO2,by rw[List.map_append];exact hs⟩⟩
   ·rcases List.mem_cons.1 hm with rfl|hm
    ·have hap:=zY1 hpreds hcl hed (fun j hj=>hp2.2.2 j hj i (by simp)) (fun j hj=>hun j (by simp[hj]));have hA1:=zyM _ (fun s hs=>hs.2) hA;rw[←zYp,List.map_cons]at hA1;refine⟨_,K,frontN (x:=i) hK hap hA1,fun st' hs=>.inl ⟨p++ia::rs,?_,hO1,by rw[List.map_append];exact hs⟩⟩;have:Left n listed ((p++[ia])++i::rs):=by simpa using hL
     simpa using this.take hl'
    ·exfalso;rcases hrs i hm with h1|h1
     ·have:=hpreds i _ hcl hed ia h1;rw[hun ia (by simp)]at this;cases this
     ·have:=hpreds i _ hcl hed ib h1;rw[hun ib (by simp)]at this;cases this
theorem zJM{n listed ord}(h:Left n listed ord)(hall:∀i,i<n→listed.getD i false=true):ord=[]:=by
 cases ord with
 |nil=>rfl
 |cons i r=>obtain⟨h1,h2⟩:=(h.1 i).1 (by simp);rw[hall i h1]at h2;cases h2
theorem zVn{l preds}:∀{ord},pairOk l preds ord=true→OrdOk l preds ord
 |[],_=>List.Pairwise.nil
 |i::r,h=>by simp only[pairOk,Bool.and_eq_true,List.all_eq_true]at h;exact List.pairwise_cons.2 ⟨h.1,zVn h.2⟩
theorem yQe{ops l}(hlen:l.length=ops.length)(h:dokAll l (predsOf ops [] ops) ops.length=true):OrdOk l (predsOf ops [] ops) (List.range ops.length):=by
 refine List.Pairwise.imp_of_mem (fun{i j} hi hj hij=>?_) List.pairwise_lt_range;have hi:=List.mem_range.1 hi;have hj:=List.mem_range.1 hj;have hrow:=zK5 h hj l[j] (List.getElem?_eq_getElem (by omega));simp only[okBit,Bool.or_eq_true];rcases zK6 hrow hij with h1|h1
 ·exact .inl h1
 ·refine .inr ?_;have:=h1 l[i] (List.getElem?_eq_getElem (by omega));simpa[List.getD,List.getElem?_eq_getElem (show i<l.length by omega),List.getElem?_eq_getElem (show j<l.length by omega)]using this
theorem yVV(hG:E.G=c.G)(hC:∀f args r,E.C f args r→Ev c.P c.G f args r)(hT:∀t ty,T t=some ty→chkTy c.P t ty=true){ops:Array Oper}{l}(htr:trOps T ops.toList=some l)
  (hdst:∀o∈ops.toList,∀d,o.dst=some d→c.D d) (hdok:dok ops.toList l=true) {F} (hF:FW F) (m) (Q) {K} (hK:Blind K) (hQ:∀a w,Goes c K a w→Q .normal a w)
  (h:Sim c st tmps w S ρ) (hA:aopsN E l K st):wpAnyIn F m c.P .any ops Q ops.size (Array.replicate ops.size false) ⟨tmps,c.ds⟩ w:=by
 obtain⟨hlen,_⟩:=zyG htr;simp only[dok,Bool.and_eq_true]at hdok;obtain⟨⟨hedge,hall⟩,_⟩:=hdok;have hpreds:=zko (ops:=ops.toList) ops.toList [] (by simp) (fun k=>by intro _ _ _ j hj;simp at hj);have hfalse:∀i,(Array.replicate ops.size false).getD i false=false:=by intro i;simp only[Array.getD_eq_getD_getElem?,Array.getElem?_replicate];split<;>rfl
 refine ywg hG hC hT htr hdst hedge hF m Q hQ (HH1 E l (predsOf ops.toList [] ops.toList) ops.size K) ?_ ?_ ops.size _ (by simp) ?_ ?_ h ?_
 ·rintro listed st hsz hl ⟨ord,hL,_,hA⟩
  rw[zJM hL hl]at hA;exact hA
 ·intro listed st i hsz hin hi1 hed hcl hl' hA;exact yjT hK hpreds hin hi1 hed hcl hl' hA
 ·refine Nat.le_trans (List.length_filter_le _ _) (by simp)
 ·intro k hk;simp only[hfalse]at hk;cases hk
 ·refine⟨List.range ops.size,⟨fun j=>?_,List.nodup_range⟩,?_,?_⟩
  ·rw[hfalse];simp
  ·have:=yQe hlen hall
   rwa [Array.length_toList]at this
  ·have hmap:(List.range ops.size).map (fun i=>l.getD i default)=l:=by
     simp only[Array.length_toList]at hlen;apply List.ext_getElem
     ·simp[hlen]
     ·intro i h1 h2;simp[List.getD,List.getElem?_eq_getElem h2]
   rw[hmap];exact hA
theorem yWz(hG:E.G=c.G)(hC:∀f args r,E.C f args r→Ev c.P c.G f args r)(hT:∀t ty,T t=some ty→chkTy c.P t ty=true){ops:Array Oper}{l}(htr:trOps T ops.toList=some l)
  (hdst:∀o∈ops.toList,∀d,o.dst=some d→c.D d) {ps rs} {ia ib} (hdok:dok2 ops.toList l ps ia ib rs=true) (hsp:∀k,k∈ps++ia::ib::rs↔k<ops.size) (hnd:(ps++ia::ib::rs).Nodup) (hrs:∀k∈rs,((predsOf ops.toList [] ops.toList).getD k 0).testBit ia=true∨((predsOf ops.toList [] ops.toList).getD k 0).testBit ib=true) {F} (hF:FW F) (m) (Q) {K} (hK:Blind K) (hQ:∀a w,Goes c K a w→Q .normal a w)
  (h:Sim c st tmps w S ρ) (hA:aopsN E (ps.map fun i=>l.getD i default) (fun s=>aopsN E ((ia::ib::rs).map fun i=>l.getD i default) K s∧aopsN E ((ib::ia::rs).map fun i=>l.getD i default) K s) st):wpAnyIn F m c.P .any ops Q ops.size (Array.replicate ops.size false) ⟨tmps,c.ds⟩ w:=by
 simp only[dok2,Bool.and_eq_true]at hdok;obtain⟨⟨hedge,ho1⟩,ho2⟩:=hdok;have hpreds:=zko (ops:=ops.toList) ops.toList [] (by simp) (fun k=>by intro _ _ _ j hj;simp at hj);have hfalse:∀i,(Array.replicate ops.size false).getD i false=false:=by intro i;simp only[Array.getD_eq_getD_getElem?,Array.getElem?_replicate];split<;>rfl
 refine ywg hG hC hT htr hdst hedge hF m Q hQ (HH2 E l (predsOf ops.toList [] ops.toList) ops.size ia ib rs K) ?_ ?_ ops.size _ (by simp) ?_ ?_ h ?_
 ·rintro listed st hsz hl (⟨ord,hL,_,hA⟩|⟨p,hL,_⟩)
  ·rw[zJM hL hl]at hA;exact hA
  ·have:=zJM hL hl;simp at this
 ·intro listed st i hsz hin hi1 hed hcl hl' hA;exact yKk hK hpreds hrs hin hi1 hed hcl hl' hA
 ·refine Nat.le_trans (List.length_filter_le _ _) (by simp)
 ·intro k hk;simp only[hfalse]at hk;cases hk
 ·exact .inr ⟨ps,⟨fun j=>by rw[hfalse,hsp];simp,hnd⟩,zVn ho1,zVn ho2,hA⟩
end Go.Abs
end
section
namespace Go.Abs
open Go.RowKit
variable{c:Ctx}{st:St}{tmps:Array Value}{w:World}{S:Safe}{ρ:Rho}{E:AEnv}{T:Nat→Option Ty}
theorem zXk{F st st1 o}(h:∀k∈rdsOf o,getS st.slots k=getS st1.slots k)(hc:chkF F st o):chkF F st1 o:=by
 cases o<;>simp only[chkF]at hc⊢<;>first|trivial|exact hc|skip
 case ld d ag n x=>simp only[rdsOf]at h;rw[←zzO h];exact hc
 case st n a x=>simp only[rdsOf]at h;rw[←zzO fun k hk=>h k (by simp[hk])];exact hc
theorem zz8{e:Eff}{o l}(hs:e.slot.map (·.1)=wrOf o)(hw:slotApart (wrOf o) l=true)(st):∀k∈l,getS (e.app st).slots k=getS st.slots k:=by
 intro k hk;simp only[Eff.app,zkJ];cases hsl:e.slot with
 |none=>rfl
 |some p=>
  obtain⟨d,v⟩:=p;rw[hsl]at hs;simp only[Option.map_some]at hs;rw[←hs]at hw;simp only[slotApart,Bool.not_eq_true',List.contains_eq_mem,decide_eq_false_iff_not]at hw;simp only
  rw[if_neg]
  rintro rfl
  exact hw hk
theorem yxW{gi d ag n x st st1 e}(h:∀k∈gRds gi++rdsOf (.ld d ag n x),getS st.slots k=getS st1.slots k)(hm:∀s o,ev st x=.ptr s o→getM st.mem s=getM st1.mem s)(he:ER E gi (.ld d ag n x) st e):ER E gi (.ld d ag n x) st1 e:=by
 obtain⟨g,hg,v,ob,gs,h1,h2,h3⟩:=he;have hr:∀k∈x.rds,getS st.slots k=getS st1.slots k:=fun k hk=>h k (List.mem_append_right _ hk);refine⟨g,by rw[←zy6 fun k hk=>h k (by simp[hk])];exact hg,v,ob,gs,?_,h2,h3⟩;simp only[opv]at h1⊢;rw[←zzO hr,←zz0 hr];split at h1
 ·rename_i s o hv;have:rdMem st1 s o n=rdMem st s o n:=by simp only[rdMem,hm s o hv]
  simp only[this];exact h1
 ·exact h1
 ·exact h1
 ·cases h1
theorem zJA{e1 e2:Eff}(ht1:e1.tk=none)(ht2:e2.tk=none)(hq1:e1.more=([],[]))(hq2:e2.more=([],[]))(hs:∀d v d' v',e1.slot=some (d,v)→e2.slot=some (d',v')→d≠d')(hm:∀d v d' v',e1.mem=some (d,v)→e2.mem=some (d',v')→d≠d')(st):StEq (e2.app (e1.app st)) (e1.app (e2.app st)):=by
 refine⟨fun k=>?_,fun k=>?_,fun k=>?_⟩
 ·simp only[Eff.app,zkJ];cases h1:e1.slot with
  |none=>rfl
  |some p=>
   cases h2:e2.slot with
   |none=>rfl
   |some q=>
    have:=hs _ _ _ _ h1 h2;simp only
    by_cases hk:p.1=k
    ·have:¬q.1=k:=fun e=>this (hk.trans e.symm);rw[if_neg this,if_pos hk];rw[if_pos hk]
    ·rw[if_neg hk,if_neg hk]
 ·simp only[Eff.app,zKj,hq1,hq2,List.nil_append];cases h1:e1.mem with
  |none=>rfl
  |some p=>
   cases h2:e2.mem with
   |none=>rfl
   |some q=>
    have:=hm _ _ _ _ h1 h2;simp only
    by_cases hk:p.1=k
    ·have:¬q.1=k:=fun e=>this (hk.trans e.symm);rw[if_neg this,if_pos hk];rw[if_pos hk]
    ·rw[if_neg hk,if_neg hk]
 ·simp only[Eff.app,ht1,ht2,hq1,hq2,tkApp,List.nil_append]
theorem swapNF{F a b}(hab:apartF a b=true){K}(hK:Blind K){st}(h:chkF F st a.2∧aopN E a.1 a.2 st fun s=>chkF F s b.2∧aopN E b.1 b.2 s K):chkF F st b.2∧aopN E b.1 b.2 st fun s=>chkF F s a.2∧aopN E a.1 a.2 s K:=by
 obtain⟨ca,h⟩:=h;obtain⟨e1,h1,cb,h2⟩:=zzC.1 h;obtain⟨e2,h3,h4⟩:=zzC.1 h2;obtain⟨s1,m1,t1,q1⟩:=zwX h1;obtain⟨s2,m2,t2,q2⟩:=zwX h3;have key:∀(hw:slotApart (wrOf a.2) (gRds b.1++rdsOf b.2)=true) (hw':slotApart (wrOf b.2) (gRds a.1++rdsOf a.2)=true),chkF F st b.2∧chkF F (e2.app st) a.2:=fun hw hw'=>
  ⟨zXk (fun k hk=>zz8 s1 hw st k (by simp[hk])) cb,zXk (fun k hk=>(zz8 s2 hw' st k (by simp[hk])).symm) ca⟩
 simp only[apartF,Bool.or_eq_true]at hab;rcases hab with hab|hab
 ·have hab':=hab;simp only[apart,Bool.and_eq_true]at hab';obtain⟨⟨⟨_,hw⟩,hw'⟩,_⟩:=hab';obtain⟨k1,_⟩:=key hw hw';have hsw:=swapN hab (K:=fun s=>chkF F st b.2→K s) (fun s s1 he hs hc=>hK s s1 he (hs hc)) (zxY (fun s hs=>zxY (fun _ hk _=>hk) hs.2) h);obtain⟨f2,g1,g2⟩:=zzC.1 hsw;refine⟨k1,zzC.2 ⟨f2,g1,?_,zxY (fun s hs=>hs k1) g2⟩⟩;exact zXk (fun k hk=>(zz8 (zwX g1).1 hw' st k (by simp[hk])).symm) ca
 ·simp only[Bool.and_eq_true]at hab;obtain⟨⟨⟨hp,hw⟩,hw'⟩,hww⟩:=hab;obtain⟨k1,k2⟩:=key hw hw';have hsd:∀d v d' v',e1.slot=some (d,v)→e2.slot=some (d',v')→d≠d':=by intro d v d' v' x y e;rw[x]at s1;rw[y]at s2;simp only[Option.map_some]at s1 s2;rw[←s1,←s2]at hww;subst e;simp[slotApart]at hww
  obtain⟨ga,oa⟩:=a;obtain⟨gb,ob⟩:=b;cases oa<;>cases ob<;>simp only[pairF,Bool.false_eq_true]at hp;case ld.st d ag n x n' a' x'=>
   have ht1:e1.tk=none:=by cases hm:e1.tk with|none=>rfl|some p=>(have:=t1 (by simp[hm]);cases this)
   have ht2:e2.tk=none:=by cases hm:e2.tk with|none=>rfl|some p=>(have:=t2 (by simp[hm]);cases this)
   have hq1:e1.more=([],[]):=by by_cases hm:e1.more=([],[]);exact hm;(have:=q1 hm;cases this)
   have hq2:e2.more=([],[]):=by by_cases hm:e2.more=([],[]);exact hm;(have:=q2 hm;cases this)
   have hm1:e1.mem=none:=by cases hm:e1.mem with|none=>rfl|some p=>(have:=m1 (by simp[hm]);cases this)
   have h3':ER E gb (.st n' a' x') st e2:=zvk ⟨zz8 s1 hw st,fun _ s=>by simp only[Eff.app,hm1,hq1,Option.toList_none,List.nil_append],fun ht=>by simp[kindOf]at ht⟩ h3;refine⟨k1,zzC.2 ⟨e2,h3',k2,zzC.2 ⟨e1,?_,hK _ _ (zJA ht1 ht2 hq1 hq2 hsd (fun d v d' v' x=>by rw[hm1]at x;cases x) st) h4⟩⟩⟩;refine yxW (fun k hk=>(zz8 s2 hw' st k hk).symm) ?_ h1;intro s o he;obtain⟨g,hg,s',off,cs,i1,i2,i3,rfl⟩:=h3';simp only[chkF,he]at ca;simp only[chkF,i1]at k1;simp only[Eff.app,Option.toList_some,List.nil_append,List.cons_append,getM];rw[if_neg]
   rintro rfl
   rw[ca]at k1;cases k1
  case st.ld n' a' x' d ag n x=>
   have ht1:e1.tk=none:=by cases hm:e1.tk with|none=>rfl|some p=>(have:=t1 (by simp[hm]);cases this)
   have ht2:e2.tk=none:=by cases hm:e2.tk with|none=>rfl|some p=>(have:=t2 (by simp[hm]);cases this)
   have hq1:e1.more=([],[]):=by by_cases hm:e1.more=([],[]);exact hm;(have:=q1 hm;cases this)
   have hq2:e2.more=([],[]):=by by_cases hm:e2.more=([],[]);exact hm;(have:=q2 hm;cases this)
   have hm2:e2.mem=none:=by cases hm:e2.mem with|none=>rfl|some p=>(have:=m2 (by simp[hm]);cases this)
   have h3':ER E gb (.ld d ag n x) st e2:=by
    refine yxW (zz8 s1 hw st) ?_ h3;intro s o he;obtain⟨g,hg,s',off,cs,i1,i2,i3,rfl⟩:=h1;simp only[chkF,he]at cb;simp only[chkF,i1]at ca;simp only[Eff.app,Option.toList_some,List.nil_append,List.cons_append,getM];rw[if_neg]
    rintro rfl
    rw[cb]at ca;cases ca
   refine⟨k1,zzC.2 ⟨e2,h3',k2,zzC.2 ⟨e1,?_,hK _ _ (zJA ht1 ht2 hq1 hq2 hsd (fun d v d' v' _ x=>by rw[hm2]at x;cases x) st) h4⟩⟩⟩;exact zvk ⟨fun k hk=>(zz8 s2 hw' st k hk).symm,fun _ s=>by simp only[Eff.app,hm2,hq2,Option.toList_none,List.nil_append],fun ht=>by simp[kindOf]at ht⟩ h1
  case alloc.ld s0 zs d ag n x=>
   have ht1:e1.tk=none:=by cases hm:e1.tk with|none=>rfl|some p=>(have:=t1 (by simp[hm]);cases this)
   have ht2:e2.tk=none:=by cases hm:e2.tk with|none=>rfl|some p=>(have:=t2 (by simp[hm]);cases this)
   have hq1:e1.more=([],[]):=by by_cases hm:e1.more=([],[]);exact hm;(have:=q1 hm;cases this)
   have hq2:e2.more=([],[]):=by by_cases hm:e2.more=([],[]);exact hm;(have:=q2 hm;cases this)
   have hm2:e2.mem=none:=by cases hm:e2.mem with|none=>rfl|some p=>(have:=m2 (by simp[hm]);cases this)
   have h3':ER E gb (.ld d ag n x) st e2:=by
    refine yxW (zz8 s1 hw st) ?_ h3;intro s o he;obtain⟨g,hg,i1,i2,rfl⟩:=h1;simp only[chkF,he]at cb;simp only[chkF]at ca;simp only[Eff.app,Option.toList_some,List.nil_append,List.cons_append,getM];rw[if_neg]
    rintro rfl
    rw[cb]at ca;cases ca
   refine⟨k1,zzC.2 ⟨e2,h3',k2,zzC.2 ⟨e1,?_,hK _ _ (zJA ht1 ht2 hq1 hq2 hsd (fun d v d' v' _ x=>by rw[hm2]at x;cases x) st) h4⟩⟩⟩;exact zvk ⟨fun k hk=>(zz8 s2 hw' st k hk).symm,fun _ s=>by simp only[Eff.app,hm2,hq2,Option.toList_none,List.nil_append],fun ht=>by simp[kindOf]at ht⟩ h1
  case alloc.alloc s0 zs s0' zs'=>
   have ht1:e1.tk=none:=by cases hm:e1.tk with|none=>rfl|some p=>(have:=t1 (by simp[hm]);cases this)
   have ht2:e2.tk=none:=by cases hm:e2.tk with|none=>rfl|some p=>(have:=t2 (by simp[hm]);cases this)
   have hq1:e1.more=([],[]):=by by_cases hm:e1.more=([],[]);exact hm;(have:=q1 hm;cases this)
   have hq2:e2.more=([],[]):=by by_cases hm:e2.more=([],[]);exact hm;(have:=q2 hm;cases this)
   obtain⟨g,hg,i1,i2,r1⟩:=h1;obtain⟨g',hg',j1,j2,r2⟩:=h3;have hne:s0≠s0':=by have:=hsd s0 (.ptr s0 0) s0' (.ptr s0' 0) (by rw[r1]) (by rw[r2]);exact this
   have j2':getM st.mem s0'=none:=by
    rw[r1]at j2;simp only[Eff.app,Option.toList_some,List.nil_append,List.cons_append,getM]at j2
    rwa [if_neg hne]at j2
   have h3':ER E gb (.alloc s0' zs') st e2:=⟨g',by rw[←zy6 fun k hk=>zz8 s1 hw st k (by simp[hk])];exact hg',j1,j2',r2⟩;refine⟨k1,zzC.2 ⟨e2,h3',k2,zzC.2 ⟨e1,⟨g,?_,i1,?_,r1⟩,hK _ _ (zJA ht1 ht2 hq1 hq2 hsd (fun d v d' v' x y=>?_) st) h4⟩⟩⟩
   ·rw[zy6 fun k hk=>zz8 s2 hw' st k (by simp[hk])];exact hg
   ·rw[r2];simp only[Eff.app,Option.toList_some,List.nil_append,List.cons_append,getM];rw[if_neg fun e=>hne e.symm];exact i2
   ·rw[r1]at x;rw[r2]at y;simp only[Option.some.injEq,Prod.mk.injEq]at x y;rw[←x.1,←y.1];exact hne
theorem zVI{F K}(hK:Blind K):∀l,Blind (aopsNF F E l K)
 |[]=>hK
 |(g,o)::os=>fun s s1 he h=>⟨zXk (fun k _=>he.slots k) h.1,zKS (zVI hK os) s s1 he h.2⟩
theorem frontNF{F}{α:Type}{f x post K}(hK:Blind K):∀{pre:List α} {st},(∀j∈pre,apartF (f j) (f x)=true)→aopsNF F E (pre.map f++f x::post) K st→aopsNF F E (f x::(pre.map f++post)) K st
 |[],_,_,h=>h
 |j::pre,st,hp,h=>by simp only[List.map_cons,List.cons_append,aopsNF]at h⊢;have h':aopN E (f j).1 (f j).2 st (aopsNF F E (f x::(pre.map f++post)) K):=zxY (fun s hs=>frontNF hK (fun k hk=>hp k (by simp[hk])) hs) h.2;have:=swapNF (F:=F) (hp j (by simp)) (zVI hK (pre.map f++post)) ⟨h.1,by simpa only[aopsNF]using h'⟩;simpa only[aopsNF]using this
def OrdOkF(l:List (Option (Nat×Bool)×I))(preds:List Nat)(ord:List Nat):Prop:=ord.Pairwise fun i j=>okBitF l preds i j=true
theorem yzi{l preds}:∀{ord},pairOkF l preds ord=true→OrdOkF l preds ord
 |[],_=>List.Pairwise.nil
 |i::r,h=>by simp only[pairOkF,Bool.and_eq_true,List.all_eq_true]at h;exact List.pairwise_cons.2 ⟨h.1,yzi h.2⟩
def HHF(F:List Nat)(E:AEnv)(l:List (Option (Nat×Bool)×I))(preds:List Nat)(n:Nat)(K:St→Prop)(listed:Array Bool)(st:St):Prop:=
 ∃ord,Left n listed ord∧OrdOkF l preds ord∧aopsNF F E (ord.map fun i=>l.getD i default) K st
theorem yKl{F l preds n K}(hK:Blind K){ops}(hpreds:∀k,PredsOk ops k (preds.getD k 0)){listed listed' i}(hin:i<n)(hi1:listed.getD i false=false)
  (hed:EdgesIn ops (fun i=>listed.getD i false) i) (hcl:ClosedL ops (fun i=>listed.getD i false)) (hl':∀j,listed'.getD j false=(decide (j=i)||listed.getD j false)) (h:HHF F E l preds n K listed st):∃rest K',aopsN E (l.getD i default::rest) K' st∧∀st',aopsN E rest K' st'→HHF F E l preds n K listed' st':=by
 obtain⟨ord,hL,hO,hA⟩:=h;obtain⟨pre,post,rfl⟩:=List.append_of_mem ((hL.1 i).2 ⟨hin,hi1⟩);have hpo:=List.pairwise_append.1 hO;have hap:∀j∈pre,apartF (l.getD j default) (l.getD i default)=true:=by
  intro j hj;have:=hpo.2.2 j hj i (by simp);simp only[okBitF,Bool.or_eq_true]at this;rcases this with h1|h1
  ·have:=hpreds i _ hcl hed j h1;rw[((hL.1 j).1 (by simp[hj])).2]at this;cases this
  ·exact h1
 rw[List.map_append,List.map_cons]at hA;have hfr:=frontNF (x:=i) hK hap hA;refine⟨[],aopsNF F E (pre.map (fun i=>l.getD i default)++post.map fun i=>l.getD i default) K,hfr.2,fun st' hs=>⟨pre++post,hL.take hl',?_,by rw[List.map_append];exact hs⟩⟩;exact List.pairwise_append.2 ⟨hpo.1,(List.pairwise_cons.1 hpo.2.1).2,fun x hx y hy=>hpo.2.2 x hx y (by simp[hy])⟩
theorem yVW{F'}(hG:E.G=c.G)(hC:∀f args r,E.C f args r→Ev c.P c.G f args r)(hT:∀t ty,T t=some ty→chkTy c.P t ty=true){ops:Array Oper}{l}(htr:trOps T ops.toList=some l)
  (hdst:∀o∈ops.toList,∀d,o.dst=some d→c.D d) (hedge:edgesOk 0 ops.toList=true) (hall:pairOkF l (predsOf ops.toList [] ops.toList) (List.range ops.toList.length)=true) {F} (hF:FW F) (m) (Q) {K} (hK:Blind K) (hQ:∀a w,Goes c K a w→Q .normal a w)
  (h:Sim c st tmps w S ρ) (hA:aopsNF F' E l K st):wpAnyIn F m c.P .any ops Q ops.size (Array.replicate ops.size false) ⟨tmps,c.ds⟩ w:=by
 obtain⟨hlen,_⟩:=zyG htr;have hpreds:=zko (ops:=ops.toList) ops.toList [] (by simp) (fun k=>by intro _ _ _ j hj;simp at hj);have hfalse:∀i,(Array.replicate ops.size false).getD i false=false:=by intro i;simp only[Array.getD_eq_getD_getElem?,Array.getElem?_replicate];split<;>rfl
 refine ywg hG hC hT htr hdst hedge hF m Q hQ (HHF F' E l (predsOf ops.toList [] ops.toList) ops.size K) ?_ ?_ ops.size _ (by simp) ?_ ?_ h ?_
 ·rintro listed st hsz hl ⟨ord,hL,_,hA⟩
  rw[zJM hL hl]at hA;exact hA
 ·intro listed st i hsz hin hi1 hed hcl hl' hA;exact yKl hK hpreds hin hi1 hed hcl hl' hA
 ·refine Nat.le_trans (List.length_filter_le _ _) (by simp)
 ·intro k hk;simp only[hfalse]at hk;cases hk
 ·refine⟨List.range ops.size,⟨fun j=>?_,List.nodup_range⟩,?_,?_⟩
  ·rw[hfalse];simp
  ·have:=yzi hall
   rwa [Array.length_toList]at this
  ·have hmap:(List.range ops.size).map (fun i=>l.getD i default)=l:=by
     simp only[Array.length_toList]at hlen;apply List.ext_getElem
     ·simp[hlen]
     ·intro i h1 h2;simp[List.getD,List.getElem?_eq_getElem h2]
   rw[hmap];exact hA
end Go.Abs
end
section
namespace Go.Abs
open Go.RowKit
variable{c:Ctx}{st:St}{tmps:Array Value}{w:World}{S:Safe}{ρ:Rho}{E:AEnv}{T:Nat→Option Ty}
theorem ywx{Q s}{f:Nat→AC}:∀(is:List Nat) (a),awp E (is.foldl (fun a k=>.alt a (f k)) a) Q s→awp E a Q s∧∀k∈is,awp E (f k) Q s
 |[],a,h=>⟨h,fun k hk=>by cases hk⟩
 |i::is,a,h=>by obtain⟨h1,h2⟩:=ywx is (.alt a (f i)) h;exact⟨h1.1,fun k hk=>(List.mem_cons.1 hk).elim (fun e=>e▸h1.2) (h2 k)⟩
theorem zWM{l preds f msk i Q s}(h:awp E (treeOf l preds (f+1) msk) Q s)(hi:i∈readyL preds msk l.length):
  aop E (l.getD i default).1 (l.getD i default).2 s (fun s'=>awp E (treeOf l preds f (msk|||2^i)) Q s'):=by
 rw[treeOf]at h;cases hr:readyL preds msk l.length with
 |nil=>rw[hr]at hi;cases hi
 |cons j js=>
  rw[hr]at h hi;simp only at h;obtain⟨h1,h2⟩:=ywx js _ h;rcases List.mem_cons.1 hi with e|e
  ·subst e;exact h1
  ·exact h2 i e
def HH4(E:AEnv)(l:List (Option (Nat×Bool)×I))(preds:List Nat)(n k:Nat)(Q':AX→St→Prop)(listed:Array Bool)(st:St):Prop:=
 (∃ord,(∀j,j∈ord↔j<k∧listed.getD j false=false)∧ord.Nodup∧OrdOk l preds ord∧(∀j,k≤j→listed.getD j false=false)∧
  aopsN E (ord.map fun i=>l.getD i default) (fun s=>∃s0,StEq s0 s∧awp E (treeOf l preds (n-k) (2^k-1)) Q' s0) st)∨
 ∃f msk s0,(∀j,j<n→(listed.getD j false=true↔msk.testBit j=true))∧((List.range n).filter fun i=>!listed.getD i false).length=f∧StEq s0 st∧awp E (treeOf l preds f msk) Q' s0
theorem zVh{preds ops}(hpreds:∀k,PredsOk ops k (preds.getD k 0)){listed msk n i}(hin:i<n)(hb:∀j,j<n→(listed j=true↔msk.testBit j=true))(hlow:∀j,(preds.getD i 0).testBit j=true→j<n)(hi:listed i=false)(hcl:ClosedL ops listed)(hed:EdgesIn ops listed i):i∈readyL preds msk n:=by
 simp only[readyL,List.mem_filter,List.mem_range,Bool.and_eq_true,Bool.not_eq_true',beq_iff_eq];refine⟨hin,?_,?_⟩
 ·cases h:msk.testBit i with
  |false=>rfl
  |true=>rw[(hb i hin).2 h]at hi;cases hi
 ·apply Nat.eq_of_testBit_eq;intro j;rw[Nat.testBit_and];cases h:(preds.getD i 0).testBit j with
  |false=>rfl
  |true=>have:=(hb j (hlow j h)).1 (hpreds i listed hcl hed j h);rw[this];rfl
theorem zZu{n i p q}(hin:i<n)(hp:p i=true)(hq:∀j,q j=(p j&&!decide (j=i))):((List.range n).filter p).length=((List.range n).filter q).length+1:=by
 have hf:(List.range n).filter q=((List.range n).filter p).filter fun j=>!decide (j=i):=by rw[List.filter_filter];congr 1;funext j;rw[hq j,Bool.and_comm]
 have hmem:i∈(List.range n).filter p:=List.mem_filter.2 ⟨List.mem_range.2 hin,hp⟩;have hnd:((List.range n).filter p).Nodup:=List.nodup_range.filter _;rw[hf];generalize (List.range n).filter p=L at hmem hnd;induction L with
 |nil=>cases hmem
 |cons a L ih=>
  obtain⟨h1,h2⟩:=List.nodup_cons.1 hnd;by_cases ha:a=i
  ·subst ha;have:L.filter (fun j=>!decide (j=a))=L:=by apply List.filter_eq_self.2;intro b hb;have:b≠a:=fun e=>h1 (e▸hb);simp[this]
   simp[this]
  ·rcases List.mem_cons.1 hmem with e|e
   ·exact absurd e.symm ha
   ·have:=ih e h2;simp only[List.length_cons,List.filter_cons,ha,decide_false,Bool.not_false,if_true];omega
theorem zWC{ops}(hedge:edgesOk 0 ops=true):∀k j,((predsOf ops [] ops).getD k 0).testBit j=true→j<ops.length:=by
 intro k j h;have hp:=zko (ops:=ops) ops [] (by simp) (fun k=>by intro _ _ _ j hj;simp at hj) k;have:=hp (fun j=>decide (j<ops.length)) ?_ ?_ j h
 ·simpa using this
 ·intro i hi o ho e he hb;have hlt:=zZt (i:=i) hedge ho e he hb;have:i<ops.length:=(List.getElem?_eq_some_iff.1 ho).1;simp;omega
 ·intro o ho e he hb;have hlt:=zZt (i:=k) hedge ho e he hb;have:k<ops.length:=(List.getElem?_eq_some_iff.1 ho).1;simp;omega
theorem yVS(hG:E.G=c.G)(hC:∀f args r,E.C f args r→Ev c.P c.G f args r)(hT:∀t ty,T t=some ty→chkTy c.P t ty=true){ops:Array Oper}{l}(htr:trOps T ops.toList=some l)
  (hdst:∀o∈ops.toList,∀d,o.dst=some d→c.D d) (hedge:edgesOk 0 ops.toList=true) {k} (hk:k≤ops.size) (hpre:dokAll (l.take k) (predsOf ops.toList [] ops.toList) k=true)
  (hcut:∀j,k≤j→j<ops.size→((predsOf ops.toList [] ops.toList).getD j 0&&&(2^k-1))=2^k-1) {F} (hF:FW F) (m) {Q'} (Q) (hQ:∀a w,Goes c (fun s=>∃s0,StEq s0 s∧Q' .normal s0) a w→Q .normal a w)
  (h:Sim c st tmps w S ρ) (hA:aopsN E (l.take k) (fun s=>awp E (treeOf l (predsOf ops.toList [] ops.toList) (ops.size-k) (2^k-1)) Q' s) st):wpAnyIn F m c.P .any ops Q ops.size (Array.replicate ops.size false) ⟨tmps,c.ds⟩ w:=by
 obtain⟨hlen,_⟩:=zyG htr;simp only[Array.length_toList]at hlen;have hpreds:=zko (ops:=ops.toList) ops.toList [] (by simp) (fun k=>by intro _ _ _ j hj;simp at hj);have hlow:=zWC hedge;simp only[Array.length_toList]at hlow;generalize hpr:predsOf ops.toList [] ops.toList=preds at*
 have hfalse:∀i,(Array.replicate ops.size false).getD i false=false:=by intro i;simp only[Array.getD_eq_getD_getElem?,Array.getElem?_replicate];split<;>rfl
 have hblind:Blind (fun s=>∃s0,StEq s0 s∧awp E (treeOf l preds (ops.size-k) (2^k-1)) Q' s0):=by
  rintro s s1 he ⟨s0,he0,hk⟩
  exact⟨s0,⟨fun k=>(he0.slots k).trans (he.slots k),fun k=>(he0.mem k).trans (he.mem k),fun k=>(he0.tk k).trans (he.tk k)⟩,hk⟩
 have hmask:∀j,(2^k-1).testBit j=decide (j<k):=fun j=>Nat.testBit_two_pow_sub_one k j;have toEnd:∀(listed:Array Bool) (st:St),(∀j,j<k→listed.getD j false=true)→(∀j,k≤j→listed.getD j false=false)→(∃s0,StEq s0 st∧awp E (treeOf l preds (ops.size-k) (2^k-1)) Q' s0)→
   ∃f msk s0,(∀j,j<ops.size→(listed.getD j false=true↔msk.testBit j=true))∧((List.range ops.size).filter fun i=>!listed.getD i false).length=f∧StEq s0 st∧awp E (treeOf l preds f msk) Q' s0:=by
  rintro listed st h1 h2 ⟨s0,he,ha⟩
  refine⟨ops.size-k,2^k-1,s0,fun j hj=>?_,?_,he,ha⟩
  ·rw[hmask j];by_cases hjk:j<k
   ·simp[hjk,h1 j hjk]
   ·simp[hjk,h2 j (by omega)]
  ·have:(List.range ops.size).filter (fun i=>!listed.getD i false)=List.range' k (ops.size-k):=by
     have hsp:List.range ops.size=List.range k++List.range' k (ops.size-k):=by rw[List.range_eq_range',List.range_eq_range'];have:=List.range'_append (s:=0) (m:=k) (n:=ops.size-k) (step:=1);simp only[Nat.one_mul,Nat.zero_add]at this;rw[this];congr 1;omega
     rw[hsp,List.filter_append];have e1:(List.range k).filter (fun i=>!listed.getD i false)=[]:=by apply List.filter_eq_nil_iff.2;intro j hj;simp[h1 j (List.mem_range.1 hj)]
     have e2:(List.range' k (ops.size-k)).filter (fun i=>!listed.getD i false)=List.range' k (ops.size-k):=by apply List.filter_eq_self.2;intro j hj;simp[h2 j (List.mem_range'_1.1 hj).1]
     rw[e1,e2,List.nil_append]
   rw[this];simp
 refine zKK hG hC hT htr hdst hedge hF m Q hQ (HH4 E l preds ops.size k Q') ?_ ?_ ops.size _ (by simp) ?_ ?_ h ?_
 ·rintro listed st hsz hl hh
  have key:∃f msk s0,(∀j,j<ops.size→(listed.getD j false=true↔msk.testBit j=true))∧((List.range ops.size).filter fun i=>!listed.getD i false).length=f∧StEq s0 st∧awp E (treeOf l preds f msk) Q' s0:=by
   rcases hh with⟨ord,h1,_,_,h4,h5⟩|hh
   ·have hnil:ord=[]:=by
      cases ord with
      |nil=>rfl
      |cons i r=>obtain⟨g1,g2⟩:=(h1 i).1 (by simp);rw[hl i (by omega)]at g2;cases g2
    subst hnil;refine toEnd listed st (fun j hj=>hl j (by omega)) h4 h5
   ·exact hh
  obtain⟨f,msk,s0,g1,g2,g3,g4⟩:=key;have hf:f=0:=by
   rw[←g2];have:(List.range ops.size).filter (fun i=>!listed.getD i false)=[]:=by apply List.filter_eq_nil_iff.2;intro j hj;simp[hl j (List.mem_range.1 hj)]
   rw[this];rfl
  subst hf;exact⟨s0,g3,g4⟩
 ·intro listed st i hsz hin hi1 hed hcl hl' hh;have stepB:(∃f msk s0,(∀j,j<ops.size→(listed.getD j false=true↔msk.testBit j=true))∧((List.range ops.size).filter fun i=>!listed.getD i false).length=f∧StEq s0 st∧awp E (treeOf l preds f msk) Q' s0)→
    ∃s0 K',StEq s0 st∧aop E (l.getD i default).1 (l.getD i default).2 s0 K'∧∀st',K' st'→HH4 E l preds ops.size k Q' (listed.setIfInBounds i true) st':=by
   rintro⟨f,msk,s0,g1,g2,g3,g4⟩
   have hpf:=zZu (p:=fun j=>!listed.getD j false) (q:=fun j=>!(listed.setIfInBounds i true).getD j false) hin (by simp[hi1]) (fun j=>by rw[hl' j];cases decide (j=i)<;>simp);obtain⟨f',hf'⟩:∃f',f=f'+1:=⟨_,g2.symm.trans hpf⟩;subst hf';have hrd:=zVh hpreds hin g1 (fun j hj=>hlow i j hj) hi1 hcl hed;rw[←hlen]at hrd;refine⟨s0,_,g3,zWM g4 hrd,fun st' hs=>.inr ⟨f',msk|||2^i,st',fun j hj=>?_,by omega,⟨fun _=>rfl,fun _=>rfl,fun _=>rfl⟩,hs⟩⟩;rw[hl' j,Nat.testBit_or,Nat.testBit_two_pow];by_cases hji:j=i
   ·subst hji;simp
   ·have:¬i=j:=fun e=>hji e.symm;simp only[hji,decide_false,Bool.false_or,this,Bool.or_false];exact g1 j hj
  rcases hh with⟨ord,h1,h2,h3,h4,h5⟩|hh
  ·by_cases hik:i<k
   ·obtain⟨pre,post,rfl⟩:=List.append_of_mem ((h1 i).2 ⟨hik,hi1⟩);have hpo:=List.pairwise_append.1 h3;have hap:=zY1 hpreds hcl hed (fun j hj=>hpo.2.2 j hj i (by simp)) (fun j hj=>((h1 j).1 (by simp[hj])).2);rw[List.map_append,List.map_cons]at h5;have hfr:=frontN (x:=i) hblind hap h5;refine⟨st,_,⟨fun _=>rfl,fun _=>rfl,fun _=>rfl⟩,zXh hfr,fun st' hs=>.inl ⟨pre++post,?_,?_,?_,fun j hj=>?_,by rw[List.map_append];exact hs⟩⟩
    ·intro j;rw[hl' j];have h6:j∈pre++i::post↔j=i∨j∈pre++post:=by simp;constructor<;>(intro h;rcases h with h|h|h<;>simp[h])
     have h7:(i::(pre++post)).Nodup:=(List.perm_middle.nodup_iff).1 h2;obtain⟨h8,_⟩:=List.nodup_cons.1 h7;by_cases hj:j=i
     ·subst hj;simp only[decide_true,Bool.true_or,Bool.true_eq_false,and_false,iff_false];exact h8
     ·simp only[hj,decide_false,Bool.false_or];rw[←h1 j,h6];simp[hj]
    ·exact(List.nodup_cons.1 ((List.perm_middle.nodup_iff).1 h2)).2
    ·exact List.pairwise_append.2 ⟨hpo.1,(List.pairwise_cons.1 hpo.2.1).2,fun x hx y hy=>hpo.2.2 x hx y (by simp[hy])⟩
    ·rw[hl' j];have:¬j=i:=by omega
     simp[this,h4 j hj]
   ·have hall:∀j,j<k→listed.getD j false=true:=by
      intro j hj;refine hpreds i (fun i=>listed.getD i false) hcl hed j ?_;have:=hcut i (by omega) hin;have h9:(preds.getD i 0&&&(2^k-1)).testBit j=true:=by rw[this,hmask j];simp[hj]
      rw[Nat.testBit_and,Bool.and_eq_true]at h9;exact h9.1
    have hnil:ord=[]:=by
     cases ord with
     |nil=>rfl
     |cons a r=>obtain⟨g1,g2⟩:=(h1 a).1 (by simp);rw[hall a g1]at g2;cases g2
    subst hnil;exact stepB (toEnd listed st hall h4 h5)
  ·exact stepB hh
 ·refine Nat.le_trans (List.length_filter_le _ _) (by simp)
 ·intro k hk;simp only[hfalse]at hk;cases hk
 ·refine .inl ⟨List.range k,fun j=>by rw[hfalse];simp,List.nodup_range,?_,fun j _=>hfalse j,?_⟩
  ·refine List.Pairwise.imp_of_mem (fun{i j} hi hj hij=>?_) List.pairwise_lt_range;have hi:=List.mem_range.1 hi;have hj:=List.mem_range.1 hj;have hti:(l.take k)[i]? =some l[i]:=by rw[List.getElem?_take_of_lt hi];exact List.getElem?_eq_getElem (by omega)
   have htj:(l.take k)[j]? =some l[j]:=by rw[List.getElem?_take_of_lt hj];exact List.getElem?_eq_getElem (by omega)
   have hrow:=zK5 hpre hj l[j] htj;simp only[okBit,Bool.or_eq_true];rcases zK6 hrow hij with h1|h1
   ·exact .inl h1
   ·refine .inr ?_;have:=h1 l[i] hti;simpa[List.getD,List.getElem?_eq_getElem (show i<l.length by omega),List.getElem?_eq_getElem (show j<l.length by omega)]using this
  ·have hmap:(List.range k).map (fun i=>l.getD i default)=l.take k:=by
     apply List.ext_getElem
     ·simp;omega
     ·intro i h1 h2;have:i<l.length:=by simp at h2;omega
      simp[List.getD,List.getElem?_eq_getElem this]
   rw[hmap];exact zyM _ (fun s hs=>⟨s,⟨fun _=>rfl,fun _=>rfl,fun _=>rfl⟩,hs⟩) hA
end Go.Abs
end
section
namespace Go.Abs
open Go.RowKit
variable{c:Ctx}{st:St}{tmps:Array Value}{w:World}{S:Safe}{ρ:Rho}{E:AEnv}{T:Nat→Option Ty}
theorem yJC{o}(h:kindOf o=.writes∨kindOf o=.all):modK o=true:=by
 cases o<;>first|rfl|(simp only[kindOf,reduceCtorEq,or_self]at h)
theorem yJB{o}(h:modK o=true):kindOf o=.writes∨kindOf o=.all:=by
 cases o<;>first|(simp only[modK,Bool.false_eq_true]at h;done)|simp only[kindOf,true_or,or_true]
theorem zkd{s s1 b}(h:getM s.mem b=getM s1.mem b)(o n):rdMem s b o n=rdMem s1 b o n:=by simp only[rdMem,h]
theorem zxQ{st s}:∀{F},keepsF F st s↔∀p∈F,rdMem s p.1 p.2.1 p.2.2=rdMem st p.1 p.2.1 p.2.2
 |[]=>by simp[keepsF]
 |(b,o,n)::r=>by simp only[keepsF,zxQ (F:=r),List.forall_mem_cons]
theorem zxB{F st s st1 s1}(h1:∀b,getM st.mem b=getM st1.mem b)(h2:∀b,getM s.mem b=getM s1.mem b)(h:keepsF F st s):keepsF F st1 s1:=
 zxQ.2 fun p hp=>by rw[←zkd (h2 p.1),←zkd (h1 p.1)];exact zxQ.1 h p hp
theorem zXt{g o e}(hm:modK o=false)(h:ER E g o st e)(s):(e.app s).mem=s.mem:=by
 obtain⟨_,m,_,q⟩:=zwX h;have h1:e.mem=none:=by
  cases hx:e.mem with
  |none=>rfl
  |some p=>have:=yJC (.inl (m (by simp[hx])));rw[hm]at this;cases this
 have h2:e.more=([],[]):=by
  by_cases hx:e.more=([],[])
  ·exact hx
  ·have:=yJC (.inr (q hx));rw[hm]at this;cases this
 simp only[Eff.app,h1,h2,Option.toList_none,List.nil_append]
theorem zqL{D F st st1 o}(h:∀k∈rdsOf o,getS st.slots k=getS st1.slots k)(hc:chkK D F st o):chkK D F st1 o:=by
 cases o<;>simp only[chkK]at hc⊢<;>first|trivial|exact hc|skip
 case ld d ag n x=>simp only[rdsOf]at h;rw[←zzO h];exact hc
theorem ld_congr'{gi d ag n x st st1 e}(h:∀k∈gRds gi++rdsOf (.ld d ag n x),getS st.slots k=getS st1.slots k)(hm:∀s o,ev st x=.ptr s o→rdMem st s o n=rdMem st1 s o n)(he:ER E gi (.ld d ag n x) st e):ER E gi (.ld d ag n x) st1 e:=by
 obtain⟨g,hg,v,ob,gs,h1,h2,h3⟩:=he;have hr:∀k∈x.rds,getS st.slots k=getS st1.slots k:=fun k hk=>h k (List.mem_append_right _ hk);refine⟨g,by rw[←zy6 fun k hk=>h k (by simp[hk])];exact hg,v,ob,gs,?_,h2,h3⟩;simp only[opv]at h1⊢;rw[←zzO hr,←zz0 hr];split at h1
 ·rename_i s o hv;simp only[←hm s o hv];exact h1
 ·exact h1
 ·exact h1
 ·cases h1
theorem zKk{l k}:∀{M},getM (M++l) k=match getM M k with|some x=>some x|none=>getM l k
 |[]=>rfl
 |(b,v)::M=>by
  simp only[List.cons_append,getM];split
  ·rfl
  ·exact zKk
theorem zYn{st st1}(h:∀s,getM st.mem s≠none→getM st1.mem s=getM st.mem s){τ σ0}:∀{σ} {m},MatchMem st τ σ0 σ m→MatchMem st1 τ σ0 σ m
 |[],[],_=>trivial
 |(s,s')::σ,(s0,cs0)::m,hm=>by obtain⟨⟨h1,h2,h3⟩,h4⟩:=hm;refine⟨⟨h1,h2,?_⟩,zYn h h4⟩;rw[h s' (by intro e;rw[e]at h3;exact h3)];exact h3
 |[],_::_,hm=>hm.elim
 |_::_,[],hm=>hm.elim
theorem yZP{st st1}(hm:∀s,getM st.mem s≠none→getM st1.mem s=getM st.mem s)(ht:∀t,getT st.tk t=getT st1.tk t){as x}(h:okB st as x):okB st1 as x:=by obtain⟨h1,h2,h3,h4,h5,h6,h7,h8,h9,h10,h11,h12⟩:=h;exact⟨h1,zYn hm h2,zVi ht h3,h4,h5,h6,h7,h8,h9,zWo ht h10,h11,h12⟩
theorem yvC{gi d f args st st1 e}(hs:∀k∈gRds gi++rdsOf (.callB d f args),getS st.slots k=getS st1.slots k)(hm:∀s,getM st.mem s≠none→getM st1.mem s=getM st.mem s)(ht:∀t,getT st.tk t=getT st1.tk t)(he:ER E gi (.callB d f args) st e):ER E gi (.callB d f args) st1 e:=by
 obtain⟨g,hg,he⟩:=he;have hr:∀k∈rdsOf (.callB d f args),getS st.slots k=getS st1.slots k:=fun k hk=>hs k (by simp[hk]);refine⟨g,by rw[←zy6 fun k hk=>hs k (by simp[hk])];exact hg,?_⟩;simp only[rdsOf]at hr;have h1:∀k∈f.rds,getS st.slots k=getS st1.slots k:=fun k hk=>hr k (by simp[hk]);obtain⟨h2,h3⟩:=zjm (xs:=args) fun k hk=>hr k (List.mem_append.2 (.inr hk));simp only[←zzO h1,←zz0 h1,←h2,←h3]at*
 obtain⟨f',caps,x,k1,⟨k2,k3,k4,k5,k6⟩,k9⟩:=he;exact⟨f',caps,x,k1,⟨k2,k3,k4,yZP hm ht k5,k6⟩,k9⟩
def stepK(D:List Nat)(F:List (Nat×Nat×Nat))(E:AEnv)(p:Option (Nat×Bool)×I)(st:St)(K:St→Prop):Prop:=chkK D F st p.2∧aopN E p.1 p.2 st fun s=>(modK p.2=true→keepsF F st s)∧K s
theorem zJZ{a b}(h:apart a b=true):modK a.2=false∨modK b.2=false:=by
 cases ha:modK a.2 with
 |false=>exact .inl rfl
 |true=>
  cases hb:modK b.2 with
  |false=>exact .inr rfl
  |true=>
   exfalso;simp only[apart,Bool.and_eq_true,Bool.or_eq_true]at h;obtain⟨⟨⟨h,_⟩,_⟩,_⟩:=h;have ka:=yJB ha;have kb:=yJB hb;rcases h with h|h
   ·rcases ka with ka|ka<;>rcases kb with kb|kb<;>rw[ka,kb]at h<;>cases h
   ·obtain⟨ga,oa⟩:=a;cases oa<;>simp only[readsNew,Bool.false_eq_true]at h<;>simp only[modK,Bool.false_eq_true]at ha
theorem swapK{D F a b}(hab:apartK D a b=true){K}(hK:Blind K){st}(h:stepK D F E a st fun s=>stepK D F E b s K):stepK D F E b st fun s=>stepK D F E a s K:=by
 obtain⟨ca,h⟩:=h;obtain⟨e1,h1,kp1,cb,h2⟩:=zzC.1 h;obtain⟨e2,h3,kp2,hk⟩:=zzC.1 h2;obtain⟨s1,m1,t1,q1⟩:=zwX h1;obtain⟨s2,m2,t2,q2⟩:=zwX h3;simp only[apartK,Bool.or_eq_true]at hab;rcases hab with hab|hab
 ·have hab':=hab;simp only[apart,Bool.and_eq_true]at hab';obtain⟨⟨⟨_,hw⟩,hw'⟩,_⟩:=hab';have hfin:keepsF F st (e2.app (e1.app st)):=by
   cases ha:modK a.2 with
   |true=>have hb:modK b.2=false:=(zJZ hab).resolve_left (by rw[ha];decide);exact zxB (fun _=>rfl) (fun b=>by rw[zXt hb h3]) (kp1 ha)
   |false=>
    cases hb:modK b.2 with
    |true=>exact zxB (fun b=>by rw[zXt ha h1]) (fun _=>rfl) (kp2 hb)
    |false=>exact zxQ.2 fun p _=>zkd (by rw[zXt hb h3,zXt ha h1]) _ _
  have hK2:Blind fun s=>keepsF F st s∧K s:=fun s s1 he hs=>⟨zxB (fun _=>rfl) he.mem hs.1,hK s s1 he hs.2⟩;obtain⟨f2,g1,g2⟩:=zzC.1 (swapN hab hK2 (zzC.2 ⟨e1,h1,zzC.2 ⟨e2,h3,hfin,hk⟩⟩));obtain⟨f1,g3,kf,hk'⟩:=zzC.1 g2;refine⟨zqL (fun k hk=>zz8 s1 hw st k (by simp[hk])) cb,zzC.2 ⟨f2,g1,fun hb=>?_,zqL (fun k hk=>(zz8 (zwX g1).1 hw' st k (by simp[hk])).symm) ca,zzC.2 ⟨f1,g3,fun ha=>?_,hk'⟩⟩⟩
  ·have ha:modK a.2=false:=(zJZ hab).resolve_right (by rw[hb];decide);exact zxB (fun _=>rfl) (fun b=>by rw[zXt ha g3]) kf
  ·have hb:modK b.2=false:=(zJZ hab).resolve_left (by rw[ha];decide);exact zxB (fun b=>by rw[zXt hb g1]) (fun _=>rfl) kf
 ·simp only[Bool.and_eq_true]at hab;obtain⟨⟨⟨hp,hw⟩,hw'⟩,hww⟩:=hab;have k1:chkK D F st b.2:=zqL (fun k hk=>zz8 s1 hw st k (by simp[hk])) cb;have k2:chkK D F (e2.app st) a.2:=zqL (fun k hk=>(zz8 s2 hw' st k (by simp[hk])).symm) ca;have hsd:∀d v d' v',e1.slot=some (d,v)→e2.slot=some (d',v')→d≠d':=by intro d v d' v' x y e;rw[x]at s1;rw[y]at s2;simp only[Option.map_some]at s1 s2;rw[←s1,←s2]at hww;subst e;simp[slotApart]at hww
  have hslots:∀k,getS (e2.app (e1.app st)).slots k=getS (e1.app (e2.app st)).slots k:=by
   intro k;simp only[Eff.app,zkJ];cases x1:e1.slot with
   |none=>rfl
   |some p=>
    cases x2:e2.slot with
    |none=>rfl
    |some q=>
     have:=hsd _ _ _ _ x1 x2;simp only
     by_cases hk:p.1=k
     ·have:¬q.1=k:=fun e=>this (hk.trans e.symm);rw[if_neg this,if_pos hk];rw[if_pos hk]
     ·rw[if_neg hk,if_neg hk]
  obtain⟨ga,oa⟩:=a;obtain⟨gb,ob⟩:=b;cases oa<;>cases ob<;>simp only[pairK,Bool.false_eq_true]at hp;case ld.callB d ag n x d' f args=>
   have a1:e1.mem=none:=by cases hm:e1.mem with|none=>rfl|some p=>(have:=m1 (by simp[hm]);cases this)
   have a2:e1.tk=none:=by cases hm:e1.tk with|none=>rfl|some p=>(have:=t1 (by simp[hm]);cases this)
   have a3:e1.more=([],[]):=by by_cases hm:e1.more=([],[]);exact hm;(have:=q1 hm;cases this)
   have b1:e2.mem=none:=by cases hm:e2.mem with|none=>rfl|some p=>(have:=m2 (by simp[hm]);cases this)
   have b2:e2.tk=none:=by cases hm:e2.tk with|none=>rfl|some p=>(have:=t2 (by simp[hm]);cases this)
   have mem1:∀s:St,(e1.app s).mem=s.mem:=fun s=>by simp only[Eff.app,a1,a3,Option.toList_none,List.nil_append]
   have tk1:∀s:St,(e1.app s).tk=s.tk:=fun s=>by simp only[Eff.app,a2,a3,tkApp,List.nil_append]
   have mem2:∀s:St,(e2.app s).mem=e2.more.1++s.mem:=fun s=>by simp only[Eff.app,b1,Option.toList_none,List.nil_append]
   have tk2:∀s:St,(e2.app s).tk=e2.more.2++s.tk:=fun s=>by simp only[Eff.app,b2,tkApp]
   have h3':ER E gb (.callB d' f args) st e2:=zvk ⟨zz8 s1 hw st,fun _ s=>by rw[mem1],fun _ t=>by rw[tk1]⟩ h3;have kp:keepsF F st (e2.app st):=zxB (fun b=>by rw[mem1]) (fun b=>by rw[mem2,mem2,mem1]) (kp2 rfl);refine⟨k1,zzC.2 ⟨e2,h3',fun _=>kp,k2,zzC.2 ⟨e1,?_,(fun h=>by cases h),hK _ _ ⟨hslots,fun k=>by rw[mem1,mem2,mem2,mem1],fun k=>by rw[tk1,tk2,tk2,tk1]⟩ hk⟩⟩⟩;refine ld_congr' (fun k hk=>(zz8 s2 hw' st k hk).symm) ?_ h1;intro s o he;have:=ca hp;simp only[he,List.contains_iff_mem]at this;exact(zxQ.1 kp _ this).symm
  case callB.ld d' f args d ag n x=>
   have a1:e2.mem=none:=by cases hm:e2.mem with|none=>rfl|some p=>(have:=m2 (by simp[hm]);cases this)
   have a2:e2.tk=none:=by cases hm:e2.tk with|none=>rfl|some p=>(have:=t2 (by simp[hm]);cases this)
   have a3:e2.more=([],[]):=by by_cases hm:e2.more=([],[]);exact hm;(have:=q2 hm;cases this)
   have b1:e1.mem=none:=by cases hm:e1.mem with|none=>rfl|some p=>(have:=m1 (by simp[hm]);cases this)
   have b2:e1.tk=none:=by cases hm:e1.tk with|none=>rfl|some p=>(have:=t1 (by simp[hm]);cases this)
   have mem2:∀s:St,(e2.app s).mem=s.mem:=fun s=>by simp only[Eff.app,a1,a3,Option.toList_none,List.nil_append]
   have tk2:∀s:St,(e2.app s).tk=s.tk:=fun s=>by simp only[Eff.app,a2,a3,tkApp,List.nil_append]
   have mem1:∀s:St,(e1.app s).mem=e1.more.1++s.mem:=fun s=>by simp only[Eff.app,b1,Option.toList_none,List.nil_append]
   have tk1:∀s:St,(e1.app s).tk=e1.more.2++s.tk:=fun s=>by simp only[Eff.app,b2,tkApp]
   have h3':ER E gb (.ld d ag n x) st e2:=by refine ld_congr' (zz8 s1 hw st) ?_ h3;intro s o he;have:=cb hp;simp only[he,List.contains_iff_mem]at this;exact zxQ.1 (kp1 rfl) _ this
   refine⟨k1,zzC.2 ⟨e2,h3',(fun h=>by cases h),k2,zzC.2 ⟨e1,zvk ⟨fun k hk=>(zz8 s2 hw' st k hk).symm,fun _ s=>by rw[mem2],fun _ t=>by rw[tk2]⟩ h1,fun _=>zxB (fun b=>by rw[mem2]) (fun b=>by rw[mem1,mem1,mem2]) (kp1 rfl),hK _ _ ⟨hslots,fun k=>by rw[mem2,mem1,mem1,mem2],fun k=>by rw[tk2,tk1,tk1,tk2]⟩ hk⟩⟩⟩
  case callB.alloc d' f args s0 zs=>
   have a2:e2.tk=none:=by cases hm:e2.tk with|none=>rfl|some p=>(have:=t2 (by simp[hm]);cases this)
   have a3:e2.more=([],[]):=by by_cases hm:e2.more=([],[]);exact hm;(have:=q2 hm;cases this)
   have b1:e1.mem=none:=by cases hm:e1.mem with|none=>rfl|some p=>(have:=m1 (by simp[hm]);cases this)
   have b2:e1.tk=none:=by cases hm:e1.tk with|none=>rfl|some p=>(have:=t1 (by simp[hm]);cases this)
   obtain⟨g',hg',j1,j2,r2⟩:=h3;have mem2:∀s:St,(e2.app s).mem=(s0,zs)::s.mem:=fun s=>by rw[r2];rfl
   have tk2:∀s:St,(e2.app s).tk=s.tk:=fun s=>by simp only[Eff.app,a2,a3,tkApp,List.nil_append]
   have mem1:∀s:St,(e1.app s).mem=e1.more.1++s.mem:=fun s=>by simp only[Eff.app,b1,Option.toList_none,List.nil_append]
   have tk1:∀s:St,(e1.app s).tk=e1.more.2++s.tk:=fun s=>by simp only[Eff.app,b2,tkApp]
   rw[mem1,zKk]at j2;obtain⟨n1,n2⟩:getM e1.more.1 s0=none∧getM st.mem s0=none:=by
    cases hm:getM e1.more.1 s0 with
    |some x=>rw[hm]at j2;cases j2
    |none=>rw[hm]at j2;exact⟨rfl,j2⟩
   have hmm:∀k,getM (e2.app (e1.app st)).mem k=getM (e1.app (e2.app st)).mem k:=by
    intro k;rw[mem2,mem1,mem1,mem2,zKk];simp only[getM];by_cases hk:s0=k
    ·subst hk;rw[if_pos rfl,n1];simp
    ·rw[if_neg hk,if_neg hk,zKk]
   have h3':ER E gb (.alloc s0 zs) st e2:=⟨g',by rw[←zy6 fun k hk=>zz8 s1 hw st k (by simp[hk])];exact hg',j1,n2,r2⟩;have h1':ER E ga (.callB d' f args) (e2.app st) e1:=yvC (fun k hk=>(zz8 s2 hw' st k hk).symm) (fun s hs=>by rw[mem2];simp only[getM];rw[if_neg];rintro rfl;exact hs n2) (fun t=>by rw[tk2]) h1;have old:∀p:Nat×Nat×Nat,p.1≠s0→∀s:St,rdMem (e2.app s) p.1 p.2.1 p.2.2=rdMem s p.1 p.2.1 p.2.2:=fun p hp s=>zkd (by rw[mem2];simp only[getM];rw[if_neg fun e=>hp e.symm]) _ _;have h5:=zxQ.1 (kp1 rfl);have h6:=zxQ.1 (kp2 rfl);refine⟨k1,zzC.2 ⟨e2,h3',(fun _=>zxQ.2 fun p hp=>?_),k2,zzC.2 ⟨e1,h1',(fun _=>zxQ.2 fun p hp=>?_),hK _ _ ⟨hslots,hmm,fun k=>by rw[tk2,tk1,tk1,tk2]⟩ hk⟩⟩⟩
   ·by_cases hps:p.1=s0
    ·have e0:=h6 p hp;rw[zkd (s:=e2.app st) (s1:=e2.app (e1.app st)) (by rw[mem2,mem2,hps];simp only[getM,if_true]),e0];exact h5 p hp
    ·exact old p hps st
   ·rw[←zkd (hmm p.1)];by_cases hps:p.1=s0
    ·exact zkd (by rw[mem2,mem2,hps];simp only[getM,if_true]) _ _
    ·rw[old p hps,old p hps];exact h5 p hp
theorem zVJ{D F K}(hK:Blind K):∀l,Blind (aopsNK D F E l K)
 |[]=>hK
 |(g,o)::os=>fun s s1 he h=>by obtain⟨hc,h⟩:=h;obtain⟨e,h1,h2,h3⟩:=zzC.1 h;exact⟨zqL (fun k _=>he.slots k) hc,zzC.2 ⟨e,zvk (he.agree g o) h1,fun hm=>zxB he.mem (he.app e).mem (h2 hm),zVJ hK os _ _ (he.app e) h3⟩⟩
theorem frontNK{D F}{α:Type}{f x post K}(hK:Blind K):∀{pre:List α} {st},(∀j∈pre,apartK D (f j) (f x)=true)→aopsNK D F E (pre.map f++f x::post) K st→stepK D F E (f x) st (aopsNK D F E (pre.map f++post) K)
 |[],_,_,h=>h
 |j::pre,st,hp,h=>by simp only[List.map_cons,List.cons_append]at h⊢;have h':stepK D F E (f j) st fun s=>stepK D F E (f x) s (aopsNK D F E (pre.map f++post) K):=⟨h.1,zxY (fun s hs=>⟨hs.1,frontNK hK (fun k hk=>hp k (by simp[hk])) hs.2⟩) h.2⟩;exact swapK (F:=F) (hp j (by simp)) (zVJ hK (pre.map f++post)) h'
def OrdOkK(D:List Nat)(l:List (Option (Nat×Bool)×I))(preds:List Nat)(ord:List Nat):Prop:=ord.Pairwise fun i j=>okBitK D l preds i j=true
theorem zWB{D l preds}:∀{ord},pairOkK D l preds ord=true→OrdOkK D l preds ord
 |[],_=>List.Pairwise.nil
 |i::r,h=>by simp only[pairOkK,Bool.and_eq_true,List.all_eq_true]at h;exact List.pairwise_cons.2 ⟨h.1,zWB h.2⟩
def HH5(D:List Nat)(F0:List (Nat×Nat×Nat))(E:AEnv)(l:List (Option (Nat×Bool)×I))(preds:List Nat)(n k:Nat)(Q':AX→St→Prop)(listed:Array Bool)(st:St):Prop:=
 (∃ord,(∀j,j∈ord↔j<k∧listed.getD j false=false)∧ord.Nodup∧OrdOkK D l preds ord∧(∀j,k≤j→listed.getD j false=false)∧
  aopsNK D F0 E (ord.map fun i=>l.getD i default) (fun s=>∃s0,StEq s0 s∧awp E (treeOf l preds (n-k) (2^k-1)) Q' s0) st)∨
 ∃f msk s0,(∀j,j<n→(listed.getD j false=true↔msk.testBit j=true))∧((List.range n).filter fun i=>!listed.getD i false).length=f∧StEq s0 st∧awp E (treeOf l preds f msk) Q' s0
theorem yVT{D F0}(hG:E.G=c.G)(hC:∀f args r,E.C f args r→Ev c.P c.G f args r)(hT:∀t ty,T t=some ty→chkTy c.P t ty=true){ops:Array Oper}{l}(htr:trOps T ops.toList=some l)
  (hdst:∀o∈ops.toList,∀d,o.dst=some d→c.D d) (hedge:edgesOk 0 ops.toList=true) {k} (hk:k≤ops.size) (hpre:pairOkK D l (predsOf ops.toList [] ops.toList) (List.range k)=true)
  (hcut:∀j,k≤j→j<ops.size→((predsOf ops.toList [] ops.toList).getD j 0&&&(2^k-1))=2^k-1) {F} (hF:FW F) (m) {Q'} (Q) (hQ:∀a w,Goes c (fun s=>∃s0,StEq s0 s∧Q' .normal s0) a w→Q .normal a w)
  (h:Sim c st tmps w S ρ) (hA:aopsNK D F0 E (l.take k) (fun s=>awp E (treeOf l (predsOf ops.toList [] ops.toList) (ops.size-k) (2^k-1)) Q' s) st):wpAnyIn F m c.P .any ops Q ops.size (Array.replicate ops.size false) ⟨tmps,c.ds⟩ w:=by
 obtain⟨hlen,_⟩:=zyG htr;simp only[Array.length_toList]at hlen;have hpreds:=zko (ops:=ops.toList) ops.toList [] (by simp) (fun k=>by intro _ _ _ j hj;simp at hj);have hlow:=zWC hedge;simp only[Array.length_toList]at hlow;generalize hpr:predsOf ops.toList [] ops.toList=preds at*
 have hfalse:∀i,(Array.replicate ops.size false).getD i false=false:=by intro i;simp only[Array.getD_eq_getD_getElem?,Array.getElem?_replicate];split<;>rfl
 have hblind:Blind (fun s=>∃s0,StEq s0 s∧awp E (treeOf l preds (ops.size-k) (2^k-1)) Q' s0):=by
  rintro s s1 he ⟨s0,he0,hk⟩
  exact⟨s0,⟨fun k=>(he0.slots k).trans (he.slots k),fun k=>(he0.mem k).trans (he.mem k),fun k=>(he0.tk k).trans (he.tk k)⟩,hk⟩
 have hmask:∀j,(2^k-1).testBit j=decide (j<k):=fun j=>Nat.testBit_two_pow_sub_one k j;have toEnd:∀(listed:Array Bool) (st:St),(∀j,j<k→listed.getD j false=true)→(∀j,k≤j→listed.getD j false=false)→(∃s0,StEq s0 st∧awp E (treeOf l preds (ops.size-k) (2^k-1)) Q' s0)→
   ∃f msk s0,(∀j,j<ops.size→(listed.getD j false=true↔msk.testBit j=true))∧((List.range ops.size).filter fun i=>!listed.getD i false).length=f∧StEq s0 st∧awp E (treeOf l preds f msk) Q' s0:=by
  rintro listed st h1 h2 ⟨s0,he,ha⟩
  refine⟨ops.size-k,2^k-1,s0,fun j hj=>?_,?_,he,ha⟩
  ·rw[hmask j];by_cases hjk:j<k
   ·simp[hjk,h1 j hjk]
   ·simp[hjk,h2 j (by omega)]
  ·have:(List.range ops.size).filter (fun i=>!listed.getD i false)=List.range' k (ops.size-k):=by
     have hsp:List.range ops.size=List.range k++List.range' k (ops.size-k):=by rw[List.range_eq_range',List.range_eq_range'];have:=List.range'_append (s:=0) (m:=k) (n:=ops.size-k) (step:=1);simp only[Nat.one_mul,Nat.zero_add]at this;rw[this];congr 1;omega
     rw[hsp,List.filter_append];have e1:(List.range k).filter (fun i=>!listed.getD i false)=[]:=by apply List.filter_eq_nil_iff.2;intro j hj;simp[h1 j (List.mem_range.1 hj)]
     have e2:(List.range' k (ops.size-k)).filter (fun i=>!listed.getD i false)=List.range' k (ops.size-k):=by apply List.filter_eq_self.2;intro j hj;simp[h2 j (List.mem_range'_1.1 hj).1]
     rw[e1,e2,List.nil_append]
   rw[this];simp
 refine zKK hG hC hT htr hdst hedge hF m Q hQ (HH5 D F0 E l preds ops.size k Q') ?_ ?_ ops.size _ (by simp) ?_ ?_ h ?_
 ·rintro listed st hsz hl hh
  have key:∃f msk s0,(∀j,j<ops.size→(listed.getD j false=true↔msk.testBit j=true))∧((List.range ops.size).filter fun i=>!listed.getD i false).length=f∧StEq s0 st∧awp E (treeOf l preds f msk) Q' s0:=by
   rcases hh with⟨ord,h1,_,_,h4,h5⟩|hh
   ·have hnil:ord=[]:=by
      cases ord with
      |nil=>rfl
      |cons i r=>obtain⟨g1,g2⟩:=(h1 i).1 (by simp);rw[hl i (by omega)]at g2;cases g2
    subst hnil;refine toEnd listed st (fun j hj=>hl j (by omega)) h4 h5
   ·exact hh
  obtain⟨f,msk,s0,g1,g2,g3,g4⟩:=key;have hf:f=0:=by
   rw[←g2];have:(List.range ops.size).filter (fun i=>!listed.getD i false)=[]:=by apply List.filter_eq_nil_iff.2;intro j hj;simp[hl j (List.mem_range.1 hj)]
   rw[this];rfl
  subst hf;exact⟨s0,g3,g4⟩
 ·intro listed st i hsz hin hi1 hed hcl hl' hh;have stepB:(∃f msk s0,(∀j,j<ops.size→(listed.getD j false=true↔msk.testBit j=true))∧((List.range ops.size).filter fun i=>!listed.getD i false).length=f∧StEq s0 st∧awp E (treeOf l preds f msk) Q' s0)→
    ∃s0 K',StEq s0 st∧aop E (l.getD i default).1 (l.getD i default).2 s0 K'∧∀st',K' st'→HH5 D F0 E l preds ops.size k Q' (listed.setIfInBounds i true) st':=by
   rintro⟨f,msk,s0,g1,g2,g3,g4⟩
   have hpf:=zZu (p:=fun j=>!listed.getD j false) (q:=fun j=>!(listed.setIfInBounds i true).getD j false) hin (by simp[hi1]) (fun j=>by rw[hl' j];cases decide (j=i)<;>simp);obtain⟨f',hf'⟩:∃f',f=f'+1:=⟨_,g2.symm.trans hpf⟩;subst hf';have hrd:=zVh hpreds hin g1 (fun j hj=>hlow i j hj) hi1 hcl hed;rw[←hlen]at hrd;refine⟨s0,_,g3,zWM g4 hrd,fun st' hs=>.inr ⟨f',msk|||2^i,st',fun j hj=>?_,by omega,⟨fun _=>rfl,fun _=>rfl,fun _=>rfl⟩,hs⟩⟩;rw[hl' j,Nat.testBit_or,Nat.testBit_two_pow];by_cases hji:j=i
   ·subst hji;simp
   ·have:¬i=j:=fun e=>hji e.symm;simp only[hji,decide_false,Bool.false_or,this,Bool.or_false];exact g1 j hj
  rcases hh with⟨ord,h1,h2,h3,h4,h5⟩|hh
  ·by_cases hik:i<k
   ·obtain⟨pre,post,rfl⟩:=List.append_of_mem ((h1 i).2 ⟨hik,hi1⟩);have hpo:=List.pairwise_append.1 h3;have hap:∀j∈pre,apartK D (l.getD j default) (l.getD i default)=true:=by
     intro j hj;have:=hpo.2.2 j hj i (by simp);simp only[okBitK,Bool.or_eq_true]at this;rcases this with h1'|h1'
     ·have:=hpreds i _ hcl hed j h1';rw[((h1 j).1 (by simp[hj])).2]at this;cases this
     ·exact h1'
    rw[List.map_append,List.map_cons]at h5;have hfr:=frontNK (x:=i) hblind hap h5;refine⟨st,_,⟨fun _=>rfl,fun _=>rfl,fun _=>rfl⟩,zXh hfr.2,fun st' hs=>.inl ⟨pre++post,?_,?_,?_,fun j hj=>?_,by rw[List.map_append];exact hs.2⟩⟩
    ·intro j;rw[hl' j];have h6:j∈pre++i::post↔j=i∨j∈pre++post:=by simp;constructor<;>(intro h;rcases h with h|h|h<;>simp[h])
     have h7:(i::(pre++post)).Nodup:=(List.perm_middle.nodup_iff).1 h2;obtain⟨h8,_⟩:=List.nodup_cons.1 h7;by_cases hj:j=i
     ·subst hj;simp only[decide_true,Bool.true_or,Bool.true_eq_false,and_false,iff_false];exact h8
     ·simp only[hj,decide_false,Bool.false_or];rw[←h1 j,h6];simp[hj]
    ·exact(List.nodup_cons.1 ((List.perm_middle.nodup_iff).1 h2)).2
    ·exact List.pairwise_append.2 ⟨hpo.1,(List.pairwise_cons.1 hpo.2.1).2,fun x hx y hy=>hpo.2.2 x hx y (by simp[hy])⟩
    ·rw[hl' j];have:¬j=i:=by omega
     simp[this,h4 j hj]
   ·have hall:∀j,j<k→listed.getD j false=true:=by
      intro j hj;refine hpreds i (fun i=>listed.getD i false) hcl hed j ?_;have:=hcut i (by omega) hin;have h9:(preds.getD i 0&&&(2^k-1)).testBit j=true:=by rw[this,hmask j];simp[hj]
      rw[Nat.testBit_and,Bool.and_eq_true]at h9;exact h9.1
    have hnil:ord=[]:=by
     cases ord with
     |nil=>rfl
     |cons a r=>obtain⟨g1,g2⟩:=(h1 a).1 (by simp);rw[hall a g1]at g2;cases g2
    subst hnil;exact stepB (toEnd listed st hall h4 h5)
  ·exact stepB hh
 ·refine Nat.le_trans (List.length_filter_le _ _) (by simp)
 ·intro k hk;simp only[hfalse]at hk;cases hk
 ·refine .inl ⟨List.range k,fun j=>by rw[hfalse];simp,List.nodup_range,?_,fun j _=>hfalse j,?_⟩
  ·exact zWB hpre
  ·have hmap:(List.range k).map (fun i=>l.getD i default)=l.take k:=by
     apply List.ext_getElem
     ·simp;omega
     ·intro i h1 h2;have:i<l.length:=by simp at h2;omega
      simp[List.getD,List.getElem?_eq_getElem this]
   rw[hmap];exact zjk _ (fun s hs=>⟨s,⟨fun _=>rfl,fun _=>rfl,fun _=>rfl⟩,hs⟩) hA
theorem zWU{D F K l2}:∀(l1) {st},aopsNK D F E (l1++l2) K st=aopsNK D F E l1 (aopsNK D F E l2 K) st
 |[],_=>rfl
 |(g,o)::l1,st=>by simp only[List.cons_append,aopsNK];congr 1;congr 1;funext s;rw[zWU l1]
def HH6(D:List Nat)(F0:List (Nat×Nat×Nat))(E:AEnv)(l:List (Option (Nat×Bool)×I))(preds:List Nat)(n k c:Nat)(Q':AX→St→Prop)(listed:Array Bool)(st:St):Prop:=
 (listed.getD c false=false∧∃ord,(∀j,j∈ord↔j<k∧listed.getD j false=false)∧ord.Nodup∧OrdOkK D l preds (ord++[c])∧(∀j,k≤j→listed.getD j false=false)∧
  aopsNK D F0 E (ord.map fun i=>l.getD i default) (fun s=>(∃s0,StEq s0 s∧awp E (treeOf l preds (n-k) (2^k-1)) Q' s0)∧aopN E (l.getD c default).1 (l.getD c default).2 s fun s'=>∃s0,StEq s0 s'∧awp E (treeOf l preds (n-k-1) ((2^k-1)|||2^c)) Q' s0) st)∨
 (listed.getD c false=true∧∃ord,(∀j,j∈ord↔j<k∧listed.getD j false=false)∧ord.Nodup∧OrdOkK D l preds ord∧(∀j,k≤j→j≠c→listed.getD j false=false)∧
  aopsNK D F0 E (ord.map fun i=>l.getD i default) (fun s=>∃s0,StEq s0 s∧awp E (treeOf l preds (n-k-1) ((2^k-1)|||2^c)) Q' s0) st)∨
 ∃f msk s0,(∀j,j<n→(listed.getD j false=true↔msk.testBit j=true))∧((List.range n).filter fun i=>!listed.getD i false).length=f∧StEq s0 st∧awp E (treeOf l preds f msk) Q' s0
theorem left_step{k i}{listed:Array Bool}{pre post}(hl':∀j,(listed.setIfInBounds i true).getD j false=(decide (j=i)||listed.getD j false))(h1:∀j,j∈pre++i::post↔j<k∧listed.getD j false=false)(h2:(pre++i::post).Nodup):(∀j,j∈pre++post↔j<k∧(listed.setIfInBounds i true).getD j false=false)∧(pre++post).Nodup:=by
 have h7:(i::(pre++post)).Nodup:=(List.perm_middle.nodup_iff).1 h2;refine⟨fun j=>?_,(List.nodup_cons.1 h7).2⟩;rw[hl' j];have h6:j∈pre++i::post↔j=i∨j∈pre++post:=by simp;constructor<;>(intro h;rcases h with h|h|h<;>simp[h])
 obtain⟨h8,_⟩:=List.nodup_cons.1 h7;by_cases hj:j=i
 ·subst hj;simp only[decide_true,Bool.true_or,Bool.true_eq_false,and_false,iff_false];exact h8
 ·simp only[hj,decide_false,Bool.false_or];rw[←h1 j,h6];simp[hj]
theorem yVU{D F0}(hG:E.G=c.G)(hC:∀f args r,E.C f args r→Ev c.P c.G f args r)(hT:∀t ty,T t=some ty→chkTy c.P t ty=true){ops:Array Oper}{l}(htr:trOps T ops.toList=some l)
  (hdst:∀o∈ops.toList,∀d,o.dst=some d→c.D d) {k cc} (hok:ok6 D ops.toList l (predsOf ops.toList [] ops.toList) k cc=true) {F} (hF:FW F) (m) {Q'} (Q) (hQ:∀a w,Goes c (fun s=>∃s0,StEq s0 s∧Q' .normal s0) a w→Q .normal a w)
  (h:Sim c st tmps w S ρ) (hA:aopsNK D F0 E (l.take k) (fun s=>awp E (treeOf l (predsOf ops.toList [] ops.toList) (ops.size-k) (2^k-1)) Q' s∧aopN E (l.getD cc default).1 (l.getD cc default).2 s fun s'=>awp E (treeOf l (predsOf ops.toList [] ops.toList) (ops.size-k-1) ((2^k-1)|||2^cc)) Q' s') st):wpAnyIn F m c.P .any ops Q ops.size (Array.replicate ops.size false) ⟨tmps,c.ds⟩ w:=by
 obtain⟨hlen,_⟩:=zyG htr;simp only[Array.length_toList]at hlen;have hpreds:=zko (ops:=ops.toList) ops.toList [] (by simp) (fun k=>by intro _ _ _ j hj;simp at hj);simp only[ok6,Bool.and_eq_true,decide_eq_true_eq,List.all_eq_true,List.mem_filter,List.mem_range,beq_iff_eq,and_imp,bne_iff_ne,ne_eq]at hok;obtain⟨⟨⟨⟨⟨⟨hedge,hk⟩,hkc⟩,hcn⟩,hpair⟩,hbin⟩,hcut⟩:=hok;rw[hlen]at hk hcn;have hcut:∀j,k≤j→j<ops.size→j≠cc→((predsOf ops.toList [] ops.toList).getD j 0&&&(2^k-1))=2^k-1:=fun j h1 h2 h3=>hcut j (by omega) h1 h3;have hlow:=zWC hedge;simp only[Array.length_toList]at hlow;generalize hpr:predsOf ops.toList [] ops.toList=preds at*
 have hmc:modK (l.getD cc default).2=false:=by generalize (l.getD cc default).2=o at hbin;cases o<;>first|rfl|(simp at hbin)
 have hcc:∀s,chkK D F0 s (l.getD cc default).2:=by intro s;generalize (l.getD cc default).2=o at hbin;cases o<;>first|trivial|(simp at hbin)
 have hfalse:∀i,(Array.replicate ops.size false).getD i false=false:=by intro i;simp only[Array.getD_eq_getD_getElem?,Array.getElem?_replicate];split<;>rfl
 have hbl:∀f msk,Blind (fun s=>∃s0,StEq s0 s∧awp E (treeOf l preds f msk) Q' s0):=by
  rintro f msk s s1 he ⟨s0,he0,hk⟩
  exact⟨s0,⟨fun k=>(he0.slots k).trans (he.slots k),fun k=>(he0.mem k).trans (he.mem k),fun k=>(he0.tk k).trans (he.tk k)⟩,hk⟩
 have hblA:Blind (fun s=>(∃s0,StEq s0 s∧awp E (treeOf l preds (ops.size-k) (2^k-1)) Q' s0)∧aopN E (l.getD cc default).1 (l.getD cc default).2 s fun s'=>∃s0,StEq s0 s'∧awp E (treeOf l preds (ops.size-k-1) ((2^k-1)|||2^cc)) Q' s0):=
  ywA (hbl _ _) (zKS (hbl _ _))
 have hmask:∀j,(2^k-1).testBit j=decide (j<k):=fun j=>Nat.testBit_two_pow_sub_one k j;have hmaskc:∀j,((2^k-1)|||2^cc).testBit j=(decide (j<k)||decide (j=cc)):=fun j=>by
  rw[Nat.testBit_or,hmask,Nat.testBit_two_pow];congr 1;by_cases h:j=cc
  ·subst h;simp
  ·have:¬cc=j:=fun e=>h e.symm;simp[h,this]
 have hcount:((List.range ops.size).filter fun i=>!decide (i<k)).length=ops.size-k:=by
  have:(List.range ops.size).filter (fun i=>!decide (i<k))=List.range' k (ops.size-k):=by
   have hsp:List.range ops.size=List.range k++List.range' k (ops.size-k):=by rw[List.range_eq_range',List.range_eq_range'];have:=List.range'_append (s:=0) (m:=k) (n:=ops.size-k) (step:=1);simp only[Nat.one_mul,Nat.zero_add]at this;rw[this];congr 1;omega
   rw[hsp,List.filter_append];have e1:(List.range k).filter (fun i=>!decide (i<k))=[]:=by apply List.filter_eq_nil_iff.2;intro j hj;simp[List.mem_range.1 hj]
   have e2:(List.range' k (ops.size-k)).filter (fun i=>!decide (i<k))=List.range' k (ops.size-k):=by apply List.filter_eq_self.2;intro j hj;have:=(List.mem_range'_1.1 hj).1;simp;omega
   rw[e1,e2,List.nil_append]
  rw[this];simp
 have toEnd:∀(listed:Array Bool) (st:St),(∀j,j<k→listed.getD j false=true)→(∀j,k≤j→listed.getD j false=false)→(∃s0,StEq s0 st∧awp E (treeOf l preds (ops.size-k) (2^k-1)) Q' s0)→
   ∃f msk s0,(∀j,j<ops.size→(listed.getD j false=true↔msk.testBit j=true))∧((List.range ops.size).filter fun i=>!listed.getD i false).length=f∧StEq s0 st∧awp E (treeOf l preds f msk) Q' s0:=by
  rintro listed st h1 h2 ⟨s0,he,ha⟩
  refine⟨ops.size-k,2^k-1,s0,fun j hj=>?_,?_,he,ha⟩
  ·rw[hmask j];by_cases hjk:j<k
   ·simp[hjk,h1 j hjk]
   ·simp[hjk,h2 j (by omega)]
  ·rw[←hcount];congr 1;apply List.filter_congr;intro j _;by_cases hjk:j<k
   ·simp[hjk,h1 j hjk]
   ·simp[hjk,h2 j (by omega)]
 have toEndC:∀(listed:Array Bool) (st:St),(∀j,j<k→listed.getD j false=true)→(∀j,k≤j→j≠cc→listed.getD j false=false)→listed.getD cc false=true→(∃s0,StEq s0 st∧awp E (treeOf l preds (ops.size-k-1) ((2^k-1)|||2^cc)) Q' s0)→
   ∃f msk s0,(∀j,j<ops.size→(listed.getD j false=true↔msk.testBit j=true))∧((List.range ops.size).filter fun i=>!listed.getD i false).length=f∧StEq s0 st∧awp E (treeOf l preds f msk) Q' s0:=by
  rintro listed st h1 h2 h3 ⟨s0,he,ha⟩
  refine⟨ops.size-k-1,(2^k-1)|||2^cc,s0,fun j hj=>?_,?_,he,ha⟩
  ·rw[hmaskc j];by_cases hjc:j=cc
   ·subst hjc;simp[h3]
   by_cases hjk:j<k
   ·simp[hjk,h1 j hjk]
   ·simp[hjk,hjc,h2 j (by omega) hjc]
  ·have:=zZu (n:=ops.size) (i:=cc) (p:=fun i=>!decide (i<k)) (q:=fun i=>!listed.getD i false) hcn (by simp;omega) (fun j=>by
     by_cases hjc:j=cc
     ·subst hjc;simp[h3]
     by_cases hjk:j<k
     ·simp[hjk,h1 j hjk]
     ·simp[hjk,hjc,h2 j (by omega) hjc])
   omega
 refine zKK hG hC hT htr hdst hedge hF m Q hQ (HH6 D F0 E l preds ops.size k cc Q') ?_ ?_ ops.size _ (by simp) ?_ ?_ h ?_
 ·rintro listed st hsz hl hh
  have key:∃f msk s0,(∀j,j<ops.size→(listed.getD j false=true↔msk.testBit j=true))∧((List.range ops.size).filter fun i=>!listed.getD i false).length=f∧StEq s0 st∧awp E (treeOf l preds f msk) Q' s0:=by
   rcases hh with⟨h0,_⟩|⟨h0,ord,h1,_,_,h4,h5⟩|hh
   ·rw[hl cc hcn]at h0;cases h0
   ·have hnil:ord=[]:=by
      cases ord with
      |nil=>rfl
      |cons i r=>obtain⟨g1,g2⟩:=(h1 i).1 (by simp);rw[hl i (by omega)]at g2;cases g2
    subst hnil;exact toEndC listed st (fun j hj=>hl j (by omega)) h4 h0 h5
   ·exact hh
  obtain⟨f,msk,s0,g1,g2,g3,g4⟩:=key;have hf:f=0:=by
   rw[←g2];have:(List.range ops.size).filter (fun i=>!listed.getD i false)=[]:=by apply List.filter_eq_nil_iff.2;intro j hj;simp[hl j (List.mem_range.1 hj)]
   rw[this];rfl
  subst hf;exact⟨s0,g3,g4⟩
 ·intro listed st i hsz hin hi1 hed hcl hl' hh;have stepB:(∃f msk s0,(∀j,j<ops.size→(listed.getD j false=true↔msk.testBit j=true))∧((List.range ops.size).filter fun i=>!listed.getD i false).length=f∧StEq s0 st∧awp E (treeOf l preds f msk) Q' s0)→
    ∃s0 K',StEq s0 st∧aop E (l.getD i default).1 (l.getD i default).2 s0 K'∧∀st',K' st'→HH6 D F0 E l preds ops.size k cc Q' (listed.setIfInBounds i true) st':=by
   rintro⟨f,msk,s0,g1,g2,g3,g4⟩
   have hpf:=zZu (p:=fun j=>!listed.getD j false) (q:=fun j=>!(listed.setIfInBounds i true).getD j false) hin (by simp[hi1]) (fun j=>by rw[hl' j];cases decide (j=i)<;>simp);obtain⟨f',hf'⟩:∃f',f=f'+1:=⟨_,g2.symm.trans hpf⟩;subst hf';have hrd:=zVh hpreds hin g1 (fun j hj=>hlow i j hj) hi1 hcl hed;rw[←hlen]at hrd;refine⟨s0,_,g3,zWM g4 hrd,fun st' hs=>.inr (.inr ⟨f',msk|||2^i,st',fun j hj=>?_,by omega,⟨fun _=>rfl,fun _=>rfl,fun _=>rfl⟩,hs⟩)⟩;rw[hl' j,Nat.testBit_or,Nat.testBit_two_pow];by_cases hji:j=i
   ·subst hji;simp
   ·have:¬i=j:=fun e=>hji e.symm;simp only[hji,decide_false,Bool.false_or,this,Bool.or_false];exact g1 j hj
  have hapk:∀{pre post:List Nat},OrdOkK D l preds (pre++i::post)→(∀j∈pre,listed.getD j false=false)→∀j∈pre,apartK D (l.getD j default) (l.getD i default)=true:=by
   intro pre post h3 hu j hj;have:=(List.pairwise_append.1 h3).2.2 j hj i (by simp);simp only[okBitK,Bool.or_eq_true]at this;rcases this with h1'|h1'
   ·have:=hpreds i _ hcl hed j h1';rw[hu j hj]at this;cases this
   ·exact h1'
  have hallk:¬i<k→i≠cc→∀j,j<k→listed.getD j false=true:=by
   intro hik hic j hj;refine hpreds i (fun i=>listed.getD i false) hcl hed j ?_;have:=hcut i (by omega) hin hic;have h9:(preds.getD i 0&&&(2^k-1)).testBit j=true:=by rw[this,hmask j];simp[hj]
   rw[Nat.testBit_and,Bool.and_eq_true]at h9;exact h9.1
  rcases hh with⟨h0,ord,h1,h2,h3,h4,h5⟩|⟨h0,ord,h1,h2,h3,h4,h5⟩|hh
  ·by_cases hik:i<k
   ·obtain⟨pre,post,rfl⟩:=List.append_of_mem ((h1 i).2 ⟨hik,hi1⟩);have h3':OrdOkK D l preds (pre++i::(post++[cc])):=by simpa using h3
    have hpo:=List.pairwise_append.1 h3';have hap:=hapk h3' (fun j hj=>((h1 j).1 (by simp[hj])).2);rw[List.map_append,List.map_cons]at h5;have hfr:=frontNK (x:=i) hblA hap h5;obtain⟨q1,q2⟩:=left_step hl' h1 h2;refine⟨st,_,⟨fun _=>rfl,fun _=>rfl,fun _=>rfl⟩,zXh hfr.2,fun st' hs=>.inl ⟨?_,pre++post,q1,q2,?_,fun j hj=>?_,by rw[List.map_append];exact hs.2⟩⟩
    ·rw[hl' cc];have:¬cc=i:=by omega
     simp[this,h0]
    ·rw[List.append_assoc];exact List.pairwise_append.2 ⟨hpo.1,(List.pairwise_cons.1 hpo.2.1).2,fun x hx y hy=>hpo.2.2 x hx y (by simp at hy⊢;exact .inr hy)⟩
    ·rw[hl' j];have:¬j=i:=by omega
     simp[this,h4 j hj]
   ·by_cases hic:i=cc
    ·subst hic;have hap:=hapk (post:=[]) h3 (fun j hj=>((h1 j).1 hj).2);have h6:aopsNK D F0 E ((ord.map fun i=>l.getD i default)++l.getD i default::[]) (fun s'=>∃s0,StEq s0 s'∧awp E (treeOf l preds (ops.size-k-1) ((2^k-1)|||2^i)) Q' s0) st:=by rw[zWU];exact zjk _ (fun s hs=>⟨hcc s,zxY (fun s' hs'=>⟨fun hm=>(by have:=hmc.symm.trans hm;cases this),hs'⟩) hs.2⟩) h5
     have hfr:=frontNK (x:=i) (hbl _ _) hap h6;refine⟨st,_,⟨fun _=>rfl,fun _=>rfl,fun _=>rfl⟩,zXh hfr.2,fun st' hs=>.inr (.inl ⟨by rw[hl' i];simp,ord,fun j=>?_,h2,(List.pairwise_append.1 h3).1,fun j hj hjc=>?_,by have:=hs.2;rwa [List.append_nil]at this⟩)⟩
     ·rw[hl' j,h1 j];by_cases hj:j=i
      ·subst hj;simp[hik]
      ·simp[hj]
     ·rw[hl' j];simp[hjc,h4 j hj]
    ·have hall:=hallk hik hic;have hnil:ord=[]:=by
      cases ord with
      |nil=>rfl
      |cons a r=>obtain⟨g1,g2⟩:=(h1 a).1 (by simp);rw[hall a g1]at g2;cases g2
     subst hnil;exact stepB (toEnd listed st hall h4 h5.1)
  ·by_cases hik:i<k
   ·obtain⟨pre,post,rfl⟩:=List.append_of_mem ((h1 i).2 ⟨hik,hi1⟩);have hpo:=List.pairwise_append.1 h3;have hap:=hapk h3 (fun j hj=>((h1 j).1 (by simp[hj])).2);rw[List.map_append,List.map_cons]at h5;have hfr:=frontNK (x:=i) (hbl _ _) hap h5;obtain⟨q1,q2⟩:=left_step hl' h1 h2;refine⟨st,_,⟨fun _=>rfl,fun _=>rfl,fun _=>rfl⟩,zXh hfr.2,fun st' hs=>.inr (.inl ⟨?_,pre++post,q1,q2,?_,fun j hj hjc=>?_,by rw[List.map_append];exact hs.2⟩)⟩
    ·rw[hl' cc];simp[h0]
    ·exact List.pairwise_append.2 ⟨hpo.1,(List.pairwise_cons.1 hpo.2.1).2,fun x hx y hy=>hpo.2.2 x hx y (by simp[hy])⟩
    ·rw[hl' j];have:¬j=i:=by omega
     simp[this,h4 j hj hjc]
   ·have hic:i≠cc:=fun e=>by subst e;rw[h0]at hi1;cases hi1
    have hall:=hallk hik hic;have hnil:ord=[]:=by
     cases ord with
     |nil=>rfl
     |cons a r=>obtain⟨g1,g2⟩:=(h1 a).1 (by simp);rw[hall a g1]at g2;cases g2
    subst hnil;exact stepB (toEndC listed st hall h4 h0 h5)
  ·exact stepB hh
 ·refine Nat.le_trans (List.length_filter_le _ _) (by simp)
 ·intro k hk;simp only[hfalse]at hk;cases hk
 ·refine .inl ⟨hfalse cc,List.range k,fun j=>by rw[hfalse];simp,List.nodup_range,zWB hpair,fun j _=>hfalse j,?_⟩;have hmap:(List.range k).map (fun i=>l.getD i default)=l.take k:=by
   apply List.ext_getElem
   ·simp;omega
   ·intro i h1 h2;have:i<l.length:=by simp at h2;omega
    simp[List.getD,List.getElem?_eq_getElem this]
  rw[hmap];have hw:∀f msk s,awp E (treeOf l preds f msk) Q' s→∃s0,StEq s0 s∧awp E (treeOf l preds f msk) Q' s0:=fun f msk s hs=>⟨s,⟨fun _=>rfl,fun _=>rfl,fun _=>rfl⟩,hs⟩;exact zjk _ (fun s hs=>⟨hw _ _ _ hs.1,zxY (fun s' hs'=>hw _ _ _ hs') hs.2⟩) hA
end Go.Abs
end
section
namespace Go.Abs
open Go.RowKit
variable{c:Ctx}{st:St}{tmps:Array Value}{w:World}{S:Safe}{ρ:Rho}{E:AEnv}{T:Nat→Option Ty}
abbrev FR(ro:Option Nat):Fence:={Fence.wide with round:=ro}
theorem FR.fw(ro):FW (FR ro):=⟨fun _=>trivial,rfl,rfl⟩
theorem zVu(hG:E.G=c.G)(hC:∀f args r,E.C f args r→Ev c.P c.G f args r)(hT:∀t ty,T t=some ty→chkTy c.P t ty=true)(hm:c.P.follows .mixedOrders=true){ops:Array Oper}{l}(htr:trOps T ops.toList=some l)
  (hdst:∀o∈ops.toList,∀d,o.dst=some d→c.D d) (hdok:dok ops.toList l=true) {F} (hF:FW F) (m) (Q) {K} (hQ:∀a w,Goes c K a w→Q .normal a w) {id} (h:Sim c st tmps w S ρ) (hK:aopsN E l K st):(Code.region id ops true).wpIn F m c.P Q ⟨tmps,c.ds⟩ w:=by
 refine wpIn_region_any hm ?_;have hs:Sim c st tmps w.drew S ρ:=h.grow ((Below.refl _ _).drew) (fun _ _ hs=>hs) (fun _ _ hs=>.inl hs) (fun b o hs=>h.live b o hs);refine yVV hG hC hT htr hdst hdok hF m Q (K:=fun s=>∃s0,StEq s0 s∧K s0) ?_ ?_ hs ?_
 ·rintro s s1 he ⟨s0,he0,hk⟩
  exact⟨s0,⟨fun k=>(he0.slots k).trans (he.slots k),fun k=>(he0.mem k).trans (he.mem k),fun k=>(he0.tk k).trans (he.tk k)⟩,hk⟩
 ·rintro a w' ⟨hd,st',S',ρ',hs',s0,he,hk⟩
  exact hQ a w' ⟨hd,s0,S',ρ',hs'.eq he,hk⟩
 ·exact zyM l (fun s hs=>⟨s,⟨fun _=>rfl,fun _=>rfl,fun _=>rfl⟩,hs⟩) hK
theorem ykh(m)(k):∀l:List (Nat×AV),getS (frzA m l) k=.undef∨∃x,getS (frzA m l) k=.d x∧AV.toD m 3 (getS l k)=some x
 |[]=>.inl rfl
 |(j,v)::l=>by
  simp only[frzA,getS];by_cases hj:j=k
  ·simp only[hj,if_true];cases AV.toD m 3 v with
   |none=>exact .inl rfl
   |some x=>exact .inr ⟨x,rfl,rfl⟩
  ·simp only[if_neg hj];exact ykh m k l
theorem yyE(s)(k):∀(ds) (l),getS (thawS s ds l) k=if k∈ds then flatOf (getS s k)else getS l k
 |[],l=>by simp[thawS]
 |d::ds,l=>by
  simp only[thawS,getS];by_cases hj:d=k
  ·subst hj;simp
  ·have:(k=d)=False:=eq_false fun e=>hj e.symm;rw[if_neg hj,yyE s k ds l];simp only[List.mem_cons,this,false_or]
theorem zQ8{d}:∀{l},d∈wrsOf l↔d∈l.filterMap fun p=>wrOf p.2
 |[]=>by simp[wrsOf]
 |p::l=>by
  rw[wrsOf,List.mem_append,zQ8,List.filterMap_cons];cases wrOf p.2 with
  |none=>simp
  |some e=>simp
theorem yZq{w w' S S' ρ ρ' a v}(h:RepA w S ρ a v):RepA w' S' ρ' (flatOf a) v:=by
 unfold flatOf;split
 ·exact h
 ·exact h
 ·trivial
theorem yZ4(hG:E.G=c.G)(hC:∀f args r,E.C f args r→Ev c.P c.G f args r)(hT:∀t ty,T t=some ty→chkTy c.P t ty=true)(hm:c.P.follows .mixedOrders=true){ops:Array Oper}{l}(htr:trOps T ops.toList=some l)
  (hdst:∀o∈ops.toList,∀d,o.dst=some d→c.D d∧d∈l.filterMap fun p=>wrOf p.2) (hwl:∀d∈l.filterMap (fun p=>wrOf p.2),c.kp d=false) (hdok:dok ops.toList l=true) {F} (hF:FW F) (m) (Q) {K} (hQ:∀a w,Goes c K a w→Q .normal a w) {id} (h:Sim c st tmps w S ρ) (hK:aopsN E l (fun s=>K (st.thaw (wrsOf l) s)) st.frzAll):(Code.region id ops true).wpIn F m c.P Q ⟨tmps,c.ds⟩ w:=by
 obtain⟨S1,e1,e2,e3,e4,e5⟩:=h.close;let c1:Ctx:={P:=c.P,G:=c.G,w0:=w,S0:=S1,N:=c.N,kp:=fun k=>!(wrsOf l).contains k,t0:=tmps,ds:=c.ds};have hk:Keeps w S w S1:=fun b o hs=>⟨e1 b o hs,rfl⟩;have h1:Sim c1 st.frzAll tmps w S1 {box:=fun _=>none,mbox:=fun _=>none,tok:=fun _=>none}:=
  {size:=h.size,slots:=fun k=>by
     rcases ykh st.mem k st.slots with e|⟨x,e,hx⟩
     ·show RepA w S1 _ (getS (frzA st.mem st.slots) k) _;rw[e];trivial
     ·show RepA w S1 _ (getS (frzA st.mem st.slots) k) _;rw[e];exact zVC e5 3 _ _ x (e4 _ _ (h.slots k)) hx
   mem:=fun s cs hs=>by simp[St.frzAll,getM]at hs
   inj:=fun s s' b hs=>by cases hs
   boxNew:=fun _ _=>rfl
   mps:={at':=fun s k e kvs hs=>(by simp[St.frzAll,getM]at hs),inj:=fun s s' b hs=>(by cases hs),new:=fun _ _=>rfl,lt:=fun s b hs=>(by cases hs),apart:=fun s b hs=>(by cases hs)}
   tok:=fun t ht=>by simp[St.frzAll,getT]at ht
   tokNew:=fun _ _=>rfl
   below:=BelowO.refl c1
   old:=fun _ _ hs=>hs
   new:=fun _ _ hs=>.inl hs
   live:=e3
   glob:=fun g cs hg=>RepCs.keep hk g 0 cs (h.glob g cs hg)
   fx:=fun _ _=>rfl
   obs:=fun p hp=>by cases hp
   keeps:=fun p hp=>by cases hp
   ex:=h.exact
   pins:=⟨fun p hp=>(by cases hp),fun p hp=>(by cases hp)⟩}
 refine zVu (c:=c1) hG hC hT hm htr (fun o ho d hd=>⟨(hdst o ho d hd).1.1,?_⟩) hdok hF m Q ?_ h1 hK
 ·show(!(wrsOf l).contains d)=false;rw[Bool.not_eq_false',List.contains_iff_mem];exact zQ8.2 (hdst o ho d hd).2
 ·rintro a w' ⟨hd,st1,S2,ρ2,hs1,hk1⟩
  have hb:Below w.heap.size w w':=hs1.below.below rfl;have hl:∀b o,S b o→∃v,w'.cell? ⟨b,o,none⟩=some v:=fun b o hs=>by obtain⟨v,hv⟩:=h.live b o hs;exact⟨v,(hb.cell (p:=⟨b,o,none⟩) (zyu hv)).trans hv⟩
  have h2:=h.grow hb (fun _ _ hs=>hs) (fun _ _ hs=>.inl hs) hl;have hkeep:∀k,k∉wrsOf l→a.tmps.getD k undef=tmps.getD k undef:=fun k hn=>hs1.fx k (by show(!(wrsOf l).contains k)=true;rw[Bool.not_eq_true',←Bool.not_eq_true,List.contains_iff_mem];exact hn);refine hQ a w' ⟨hd,st.thaw (wrsOf l) st1,S,ρ,{h2 with size:=hs1.size,slots:=fun k=>?_,fx:=fun k hkp=>?_},hk1⟩
  ·show RepA w' S ρ (getS (thawS st1.slots (wrsOf l) st.slots) k) _;rw[yyE];split
   ·exact yZq (hs1.slots k)
   ·rename_i hn;rw[hkeep k hn];exact h2.slots k
  ·rw[hkeep k (fun hm=>by have:=hwl k (zQ8.1 hm);rw[hkp]at this;cases this)];exact h2.fx k hkp
theorem yzy{ops l ac}(h:reg2 ops l=some ac):∃ps ia ib rs,ac=.regd2 (ps.map fun i=>l.getD i default) (l.getD ia default) (l.getD ib default) (rs.map fun i=>l.getD i default)∧dok2 ops l ps ia ib rs=true∧
  (∀k,k∈ps++ia::ib::rs↔k<ops.length)∧(ps++ia::ib::rs).Nodup∧∀k∈rs,((predsOf ops [] ops).getD k 0).testBit ia=true∨((predsOf ops [] ops).getD k 0).testBit ib=true:=by
 unfold reg2 at h;split at h
 ·cases h
 ·rename_i ia ib _;simp only at h;split at h
  ·rename_i hc;simp only[Option.some.injEq]at h;simp only[Bool.and_eq_true,decide_eq_true_eq,bne_iff_ne,ne_eq]at hc;obtain⟨⟨⟨ha,hb⟩,hab⟩,hd⟩:=hc;refine⟨_,ia,ib,_,h.symm,hd,fun k=>?_,?_,fun k hk=>?_⟩
   ·simp only[List.mem_append,List.mem_cons,List.mem_filter,List.mem_range,Bool.and_eq_true,bne_iff_ne,ne_eq,Bool.not_eq_true'];by_cases h1:k=ia
    ·subst h1;simp[ha]
    ·by_cases h2:k=ib
     ·subst h2;simp[hb]
     ·simp only[h1,h2,not_false_eq_true,true_and,false_or];cases dep2 (predsOf ops [] ops) ia ib k<;>simp
   ·refine List.nodup_append.2 ⟨List.nodup_range.filter _,List.nodup_cons.2 ⟨?_,List.nodup_cons.2 ⟨?_,List.nodup_range.filter _⟩⟩,?_⟩
    ·simp only[List.mem_cons,List.mem_filter,not_or];exact⟨hab,by simp⟩
    ·simp
    ·intro x hx y hy hxy;subst hxy;simp only[List.mem_filter,Bool.and_eq_true,bne_iff_ne,ne_eq,Bool.not_eq_true']at hx;simp only[List.mem_cons,List.mem_filter,Bool.and_eq_true]at hy;rcases hy with hy|hy|hy
     ·exact hx.2.1.1 hy
     ·exact hx.2.1.2 hy
     ·rw[hx.2.2]at hy;cases hy.2.2
   ·simp only[List.mem_filter,Bool.and_eq_true,dep2,Bool.or_eq_true]at hk;exact hk.2.2
  ·cases h
theorem yjw(hG:E.G=c.G)(hC:∀f args r,E.C f args r→Ev c.P c.G f args r)(hT:∀t ty,T t=some ty→chkTy c.P t ty=true)(hm:c.P.follows .mixedOrders=true){ops:Array Oper}{l}(htr:trOps T ops.toList=some l)
  (hdst:∀o∈ops.toList,∀d,o.dst=some d→c.D d) {ac} (hdok:reg2 ops.toList l=some ac) {F} (hF:FW F) (m) {Q'} (Q) (hQ:∀a w,Goes c (Q' .normal) a w→Q .normal a w) {id} (h:Sim c st tmps w S ρ) (hK:awp E ac Q' st):(Code.region id ops true).wpIn F m c.P Q ⟨tmps,c.ds⟩ w:=by
 refine wpIn_region_any hm ?_;obtain⟨ps,ia,ib,rs,rfl,hd,hsp,hnd,hrs⟩:=yzy hdok;have hs:Sim c st tmps w.drew S ρ:=h.grow ((Below.refl _ _).drew) (fun _ _ hs=>hs) (fun _ _ hs=>.inl hs) (fun b o hs=>h.live b o hs);refine yWz hG hC hT htr hdst hd (by simpa using hsp) hnd hrs hF m Q (K:=fun s=>∃s0,StEq s0 s∧Q' .normal s0) ?_ ?_ hs ?_
 ·rintro s s1 he ⟨s0,he0,hk⟩
  exact⟨s0,⟨fun k=>(he0.slots k).trans (he.slots k),fun k=>(he0.mem k).trans (he.mem k),fun k=>(he0.tk k).trans (he.tk k)⟩,hk⟩
 ·rintro a w' ⟨hd,st',S',ρ',hs',s0,he,hk⟩
  exact hQ a w' ⟨hd,s0,S',ρ',hs'.eq he,hk⟩
 ·have hw:∀s,Q' .normal s→∃s0,StEq s0 s∧Q' .normal s0:=fun s hs=>⟨s,⟨fun _=>rfl,fun _=>rfl,fun _=>rfl⟩,hs⟩;exact zyM _ (fun s hs=>⟨zyM _ hw hs.1,zyM _ hw hs.2⟩) hK
theorem yJm{ops l}(hlen:l.length=ops.length){ac}(hdok:reg2 ops l=some ac):∀d∈l.filterMap (fun p=>wrOf p.2),d∈ac.wrs:=by
 obtain⟨ps,ia,ib,rs,rfl,_,hsp,_⟩:=yzy hdok;intro d hd;obtain⟨x,hx,hxd⟩:=List.mem_filterMap.1 hd;obtain⟨k,hk,rfl⟩:=List.getElem_of_mem hx;simp only[AC.wrs];refine List.mem_filterMap.2 ⟨_,?_,hxd⟩;have:=(hsp k).2 (by omega);have he:l[k]=l.getD k default:=by simp[List.getD,List.getElem?_eq_getElem hk]
 rw[he];have h2:l.getD k default∈(ps++ia::ib::rs).map (fun i=>l.getD i default):=List.mem_map_of_mem this;simpa using h2
theorem zwh{ops l ac}(h:reg3 ops l=some ac):(∃(ps:List Nat) (ia ib:Nat) (rs:List Nat),ac=.regd2 (ps.map fun i=>l.getD i default) (l.getD ia default) (l.getD ib default) (rs.map fun i=>l.getD i default)∧reg2 ops l=some ac)∨
  (ac=.regn (allocsOf l) l∧edgesOk 0 ops=true∧pairOkF l (predsOf ops [] ops) (List.range ops.length)=true)∨
  (∃k,ac=.scope (.seq (.regd (l.take k)) (treeOf l (predsOf ops [] ops) (l.length-k) (2^k-1)))∧edgesOk 0 ops=true∧k≤l.length∧dokAll (l.take k) (predsOf ops [] ops) k=true∧(∀j,k≤j→j<l.length→((predsOf ops [] ops).getD j 0&&&(2^k-1))=2^k-1)∧∀d∈l.filterMap (fun p=>wrOf p.2),d∈ac.wrs)∨
  (∃D k,ac=.scope (.seq (.regk D (l.take k)) (treeOf l (predsOf ops [] ops) (l.length-k) (2^k-1)))∧edgesOk 0 ops=true∧k≤l.length∧pairOkK D l (predsOf ops [] ops) (List.range k)=true∧(∀j,k≤j→j<l.length→((predsOf ops [] ops).getD j 0&&&(2^k-1))=2^k-1)∧∀d∈l.filterMap (fun p=>wrOf p.2),d∈ac.wrs)∨
  ∃D k c,ac=acOf6 D l (predsOf ops [] ops) k c∧ok6 D ops l (predsOf ops [] ops) k c=true∧∀d∈l.filterMap (fun p=>wrOf p.2),d∈ac.wrs:=by
 unfold reg3 at h;split at h
 ·rename_i ac' h2;cases h;split at h2
  ·unfold regC at h2;simp only at h2;split at h2
   ·rename_i hc;cases h2;simp only[Bool.and_eq_true,decide_eq_true_eq,List.all_eq_true,List.mem_filter,List.mem_range,beq_iff_eq,and_imp,List.contains_iff_mem]at hc;exact .inr (.inr (.inl ⟨_,rfl,hc.1.1.1.1,hc.1.1.1.2,hc.1.1.2,fun j h1 h2=>hc.1.2 j h2 h1,fun d hd=>hc.2 d hd⟩))
   ·cases h2
  ·cases h2
 split at h
 ·rename_i ac' h2;cases h;split at h2
  ·cases h2
  obtain⟨ps,ia,ib,rs,h3,_⟩:=yzy h2;exact .inl ⟨ps,ia,ib,rs,h3,h2⟩
 ·split at h
  ·rename_i ac' h';cases h;split at h'
   ·cases h'
   unfold regN at h';split at h'
   ·rename_i hc;simp only[Bool.and_eq_true]at hc;cases h';exact .inr (.inl ⟨rfl,hc⟩)
   ·cases h'
  ·split at h
   ·rename_i ac' h4;cases h;unfold reg4 at h4;split at h4
    ·rename_i k hk;simp only at h4;split at h4
     ·rename_i hc;cases h4;simp only[Bool.and_eq_true,decide_eq_true_eq,List.all_eq_true,List.mem_filter,List.mem_range,beq_iff_eq,and_imp,List.contains_iff_mem]at hc;exact .inr (.inr (.inl ⟨k,rfl,hc.1.1.1.1,hc.1.1.1.2,hc.1.1.2,fun j h1 h2=>hc.1.2 j h2 h1,fun d hd=>hc.2 d hd⟩))
     ·cases h4
    ·cases h4
   ·split at h
    ·rename_i ac' h5;cases h;unfold reg5 at h5;simp only at h5;split at h5
     ·rename_i k hk;split at h5
      ·rename_i hc;cases h5;simp only[Bool.and_eq_true,decide_eq_true_eq,List.all_eq_true,List.mem_filter,List.mem_range,beq_iff_eq,and_imp,List.contains_iff_mem]at hc;exact .inr (.inr (.inr (.inl ⟨_,k,rfl,hc.1.1.1.1,hc.1.1.1.2,hc.1.1.2,fun j h1 h2=>hc.1.2 j h2 h1,fun d hd=>hc.2 d hd⟩)))
      ·cases h5
     ·cases h5
    ·unfold reg6 at h;simp only at h;split at h
     ·rename_i k c hk;split at h
      ·rename_i hc;cases h;simp only[Bool.and_eq_true,List.all_eq_true,List.contains_iff_mem]at hc;exact .inr (.inr (.inr (.inr ⟨_,k,c,rfl,hc.1,fun d hd=>hc.2 d hd⟩)))
      ·cases h
     ·cases h
theorem yjx(hG:E.G=c.G)(hC:∀f args r,E.C f args r→Ev c.P c.G f args r)(hT:∀t ty,T t=some ty→chkTy c.P t ty=true)(hm:c.P.follows .mixedOrders=true){ops:Array Oper}{l}(htr:trOps T ops.toList=some l)
  (hdst:∀o∈ops.toList,∀d,o.dst=some d→c.D d) {ac} (hdok:reg3 ops.toList l=some ac) {F} (hF:FW F) (m) {Q'} (Q) (hQ:∀a w,Goes c (Q' .normal) a w→Q .normal a w) {id} (h:Sim c st tmps w S ρ) (hK:awp E ac Q' st):(Code.region id ops true).wpIn F m c.P Q ⟨tmps,c.ds⟩ w:=by
 rcases zwh hdok with⟨_,_,_,_,_,h2⟩|⟨rfl,hedge,hall⟩|⟨k,rfl,hedge,hk,hpre,hcut,_⟩|⟨D,k,rfl,hedge,hk,hpre,hcut,_⟩|⟨D,k,cc,rfl,hok,_⟩
 ·exact yjw hG hC hT hm htr hdst h2 hF m Q hQ h hK
 ·refine wpIn_region_any hm ?_;have hs:Sim c st tmps w.drew S ρ:=h.grow ((Below.refl _ _).drew) (fun _ _ hs=>hs) (fun _ _ hs=>.inl hs) (fun b o hs=>h.live b o hs);refine yVW (F':=allocsOf l) hG hC hT htr hdst hedge hall hF m Q (K:=fun s=>∃s0,StEq s0 s∧Q' .normal s0) ?_ ?_ hs ?_
  ·rintro s s1 he ⟨s0,he0,hk⟩
   exact⟨s0,⟨fun k=>(he0.slots k).trans (he.slots k),fun k=>(he0.mem k).trans (he.mem k),fun k=>(he0.tk k).trans (he.tk k)⟩,hk⟩
  ·rintro a w' ⟨hd,st',S',ρ',hs',s0,he,hk⟩
   exact hQ a w' ⟨hd,s0,S',ρ',hs'.eq he,hk⟩
  ·exact zWe l (fun s hs=>⟨s,⟨fun _=>rfl,fun _=>rfl,fun _=>rfl⟩,hs⟩) hK
 ·refine wpIn_region_any hm ?_;have hs:Sim c st tmps w.drew S ρ:=h.grow ((Below.refl _ _).drew) (fun _ _ hs=>hs) (fun _ _ hs=>.inl hs) (fun b o hs=>h.live b o hs);have hlen:l.length=ops.size:=by simpa using(zyG htr).1
  refine yVS hG hC hT htr hdst hedge (k:=k) (by omega) hpre (fun j h1 h2=>hcut j h1 (by omega)) hF m (Q':=Q') Q ?_ hs ?_
  ·rintro a w' ⟨hd,st',S',ρ',hs',s0,he,hk⟩
   exact hQ a w' ⟨hd,s0,S',ρ',hs'.eq he,hk⟩
  ·rw[←hlen];have hK:aopsN E (l.take k) (fun s=>awp E (treeOf l (predsOf ops.toList [] ops.toList) (l.length-k) (2^k-1)) Q' s) st:=hK;exact hK
 ·refine wpIn_region_any hm ?_;have hs:Sim c st tmps w.drew S ρ:=h.grow ((Below.refl _ _).drew) (fun _ _ hs=>hs) (fun _ _ hs=>.inl hs) (fun b o hs=>h.live b o hs);have hlen:l.length=ops.size:=by simpa using(zyG htr).1
  obtain⟨F0,hK⟩:∃F0,aopsNK D F0 E (l.take k) (fun s=>awp E (treeOf l (predsOf ops.toList [] ops.toList) (l.length-k) (2^k-1)) Q' s) st:=hK;refine yVT (D:=D) (F0:=F0) hG hC hT htr hdst hedge (k:=k) (by omega) hpre (fun j h1 h2=>hcut j h1 (by omega)) hF m (Q':=Q') Q ?_ hs ?_
  ·rintro a w' ⟨hd,st',S',ρ',hs',s0,he,hk⟩
   exact hQ a w' ⟨hd,s0,S',ρ',hs'.eq he,hk⟩
  ·rw[←hlen];exact hK
 ·refine wpIn_region_any hm ?_;have hs:Sim c st tmps w.drew S ρ:=h.grow ((Below.refl _ _).drew) (fun _ _ hs=>hs) (fun _ _ hs=>.inl hs) (fun b o hs=>h.live b o hs);have hlen:l.length=ops.size:=by simpa using(zyG htr).1
  obtain⟨F0,hK⟩:∃F0,aopsNK D F0 E (l.take k) (fun s=>awp E (treeOf l (predsOf ops.toList [] ops.toList) (l.length-k) (2^k-1)) Q' s∧aopsN E [l.getD cc default] (fun s'=>awp E (treeOf l (predsOf ops.toList [] ops.toList) (l.length-k-1) ((2^k-1)|||2^cc)) Q' s') s) st:=hK;refine yVU (D:=D) (F0:=F0) hG hC hT htr hdst (k:=k) (cc:=cc) hok hF m (Q':=Q') Q ?_ hs ?_
  ·rintro a w' ⟨hd,st',S',ρ',hs',s0,he,hk⟩
   exact hQ a w' ⟨hd,s0,S',ρ',hs'.eq he,hk⟩
  ·rw[←hlen];exact hK
theorem yJn{ops l}(hlen:l.length=ops.length){ac}(hdok:reg3 ops l=some ac):∀d∈l.filterMap (fun p=>wrOf p.2),d∈ac.wrs:=by
 rcases zwh hdok with⟨_,_,_,_,_,h2⟩|⟨rfl,_,_⟩|⟨k,rfl,_,_,_,_,h2⟩|⟨D,k,rfl,_,_,_,_,h2⟩|⟨D,k,cc,rfl,_,h2⟩
 ·exact yJm hlen h2
 ·exact fun d hd=>hd
 ·exact h2
 ·exact h2
 ·exact h2
def AX.out:AX→Exit
 |.normal=>.normal
 |.exit i=>.exit i
 |.ret=>.ret
def Inside(F:Fence)(m:Nat)(P:Program)(cd:Code)(R:Exit→Act→World→Prop)(a:Act)(w:World):Prop:=
 ∀(b:Frame) (k:List Item) (cs:List Frame),b.roundOf=F.round→F.fn b.fn→F.room (cs.length+1+m)→
  ∃e a' w',R e a' w'∧ArrivesIn (Machine.fenced P F) P (lone (b.atR a (.code cd:: .inLoop cd::k)) cs w) b k cs e a' w'
theorem zYS{F m P cd R a w}(h:cd.wpIn F m P (Exit.then (Inside F m P cd R) R) a w):Inside F m P cd R a w:=by
 intro b k cs hro hb hr;obtain⟨e,a₁,w₁,hq,harr⟩:=h b (.inLoop cd::k) cs hro hb hr;cases e with
 |normal=>obtain⟨e₂,a₂,w₂,hq₂,harr₂⟩:=hq b k cs hro hb hr;exact⟨e₂,a₂,w₂,hq₂,.of_steps (StepsIn.trans harr (.one (fenced_calm hb hr rfl) stepR_inLoop)) harr₂⟩
 |exit id=>exact⟨_,a₁,w₁,hq,.pass (x:=.inLoop cd) rfl (fun _ _=>.inl (by simp)) harr⟩
 |goto l=>exact⟨_,a₁,w₁,hq,.pass (x:=.inLoop cd) rfl (fun _ _=>.inl (by simp)) harr⟩
 |ret=>exact⟨_,a₁,w₁,hq,.pass (x:=.inLoop cd) rfl (fun _ _=>.inl (by simp)) harr⟩
 |panic ch=>exact⟨_,a₁,w₁,hq,.pass (x:=.inLoop cd) rfl (fun _ _=>.inl (by simp)) harr⟩
 |outgrown=>exact⟨_,a₁,w₁,hq,.pass (x:=.inLoop cd) rfl (fun _ _=>.inl (by simp)) harr⟩
theorem zWd{F m P cd R a w}(h:Inside F m P cd R a w):(Code.loop cd).wpIn F m P R a w:=by intro b k cs hro hb hr;obtain⟨e,a',w',hq,harr⟩:=h b k cs hro hb hr;exact⟨e,a',w',hq,.of_steps (.one (fenced_calm hb hr rfl) stepR_loop) harr⟩
def Grows(w:World)(S:Safe)(w':World)(S':Safe):Prop:=
 Below w.heap.size w w'∧(∀b o,S b o→S' b o)∧(∀b o,S' b o→S b o∨w.heap.size≤b)∧Live w' S'
def GrowsB(base:Nat)(Y:Nat→Prop)(w:World)(S:Safe)(w':World)(S':Safe):Prop:=
 BelowO (fun k=>base≤k∧¬Y k) w w'∧Keeps w S w' S'∧(∀b o,S' b o→S b o∨(base≤b∧¬Y b))∧Live w' S'
def FrameY(Y:Nat→Prop)(w:World)(S:Safe)(w':World)(S':Safe)(Y':Nat→Prop):Prop:=
 BelowO (fun k=>w.heap.size≤k∨Y k) w w'∧Keeps w S w' S'∧(∀b o,S' b o→S b o∨w.heap.size≤b∨Y b)∧∀k,Y' k→Y k∨w.heap.size≤k
def ItOk(P:Program)(G:Nat→Option (List D))(f:FuncId)(caps:List D)(xs:List (List CV)):Prop:=
 Enters P f∧∀(l:Nat) (w:World) (S:Safe) (cs:List Value) (J:List (List CV)→World→Safe→(Nat→Prop)→Prop) (Jx:World→Safe→(Nat→Prop)→Prop) (Y0:Nat→Prop),
  Live w S→GlobOk P G w S→RepL w S caps cs→
  (∀pre W S1 Y W' S2,J pre W S1 Y→GrowsB w.heap.size Y W S1 W' S2→J pre W' S2 Y)→
  (∀W S1 Y W' S2,Jx W S1 Y→GrowsB w.heap.size Y W S1 W' S2→Jx W' S2 Y)→
  (∀pre W S1 Y,J pre W S1 Y→Live W S1∧Keeps w S W S1∧Exact P G W∧w.heap.size≤W.heap.size∧∀k,Y k→k<W.heap.size)→
  (∀W S1 Y,Jx W S1 Y→Live W S1∧Exact P G W∧w.heap.size≤W.heap.size∧∀k,Y k→k<W.heap.size)→
  (∀pre x rest W S1 Y vs,xs=pre++x::rest→J pre W S1 Y→RepCL W S1 x vs→YieldAt Fence.wide 0 P l vs.toArray W fun e W'=>
   (e=.returned (.bool true)∧∃S2 Y2,J (pre++[x]) W' S2 Y2∧FrameY Y W S1 W' S2 Y2)∨(e=.returned (.bool false)∧∃S2 Y2,Jx W' S2 Y2∧FrameY Y W S1 W' S2 Y2))→
  J [] w S Y0→
  Calls P f (#[.func (.yield l) #[] #[]]++cs.toArray) w fun e W'=>∃v,e=.returned v∧((∃S2 Y,J xs W' S2 Y)∨∃S2 Y,Jx W' S2 Y)
def markOf(D:Nat):Deferred:={target:=.collected D,args:=#[]}
def Ext(c c':Ctx):Prop:=∃(ob':List (Nat×Obj)) (Ds:List Nat),c'={c with ob:=ob'++c.ob,ds:=Ds.map markOf++c.ds}∧Ds.Nodup∧(∀D∈Ds,(D,Obj.deferred (some []))∈ob')∧
 (∀p∈ob',∀q∈c.ob,p.1≠q.1)∧∀p∈ob',c.w0.heap.size≤p.1
theorem Ext.refl(c):Ext c c:=⟨[],[],by simp,by simp,by simp,by simp,by simp⟩
theorem Ext.trans{a b c}(h:Ext a b)(h':Ext b c):Ext a c:=by
 obtain⟨o1,d1,rfl,h1,h2,h3,h4⟩:=h;obtain⟨o2,d2,rfl,k1,k2,k3,k4⟩:=h';simp only at k3 k4;refine⟨o2++o1,d2++d1,by simp[List.append_assoc],?_,?_,?_,?_⟩
 ·refine List.nodup_append.2 ⟨k1,h1,fun x hx y hy hxy=>?_⟩;subst hxy;exact k3 _ (k2 x hx) _ (List.mem_append_left _ (h2 x hy)) rfl
 ·intro D hD;rcases List.mem_append.1 hD with hD|hD
  ·exact List.mem_append_left _ (k2 D hD)
  ·exact List.mem_append_right _ (h2 D hD)
 ·intro p hp q hq;rcases List.mem_append.1 hp with hp|hp
  ·exact k3 p hp q (List.mem_append_right _ hq)
  ·exact h3 p hp q hq
 ·intro p hp;rcases List.mem_append.1 hp with hp|hp
  ·exact k4 p hp
  ·exact h4 p hp
end Go.Abs
end
section
namespace Go.Abs
open Go.RowKit
variable{c:Ctx}{st:St}{tmps:Array Value}{w:World}{S:Safe}{ρ:Rho}{E:AEnv}{T:Nat→Option Ty}
theorem yvI{w:World}{l b o x}(h:b≠l):(w.putObj l x).cell? ⟨b,o,none⟩=w.cell? ⟨b,o,none⟩:=
 World.cell?_of_block (w:=w) (World.putObj_heap_other h)
theorem ywK{w:World}{l o x}(h:w.heap[l]? =some x)(hx:noData x=true):w.cell? ⟨l,o,none⟩=none:=by unfold World.cell?;rw[h];cases x<;>first|rfl|cases hx
theorem Sim.reob(h:Sim c st tmps w S ρ){ob' ds'}(ho:∀p∈ob',w.heap[p.1]? =some p.2∧noData p.2=true):Sim {c with ob:=ob',ds:=ds'} st tmps w S ρ:=
 {size:=h.size,slots:=h.slots,mem:=h.mem,inj:=h.inj,boxNew:=h.boxNew,mps:=h.mps,tok:=h.tok,tokNew:=h.tokNew,below:=h.below,old:=h.old,new:=h.new,live:=h.live,glob:=h.glob,fx:=h.fx,ex:=h.ex,obs:=ho,keeps:=h.keeps,pins:=h.pins}
theorem Sim.putObj(h:Sim c st tmps w S ρ){l o o' obr ds'}(hob:c.ob=(l,o)::obr)(ho':noData o'=true)(hl:c.Own l)(hne:∀p∈obr,p.1≠l):
  Sim {c with ob:=(l,o')::obr,ds:=ds'} st tmps (w.putObj l o') S ρ:=by
 have hobs:=h.obs (l,o) (by rw[hob];simp);have hnl:∀b k v,w.cell? ⟨b,k,none⟩=some v→b≠l:=fun b k v hv e=>by subst e;rw[ywK hobs.1 hobs.2]at hv;cases hv
 have hk:Keeps w S (w.putObj l o') S:=fun b k hs=>by obtain⟨v,hv⟩:=h.live b k hs;exact⟨hs,yvI (hnl b k v hv)⟩
 have hblk:∀b vs e fr,w.heap[b]? =some (Obj.cells vs e fr)→(w.putObj l o').heap[b]? =some (Obj.cells vs e fr):=fun b vs e fr hb=>by
  have:b≠l:=fun he=>by subst he;rw[hobs.1]at hb;have:=Option.some.inj hb;rw[this]at hobs;cases hobs.2
  rw[World.putObj_heap_other this];exact hb
 refine{size:=h.size,slots:=fun k=>(h.slots k).keep hk ρ.le_refl,mem:=?_,inj:=h.inj,boxNew:=h.boxNew,mps:=h.mps.to hk ⟨(grownBy_putObj' w l o').size,fun b es clock hb=>World.putObj_heap_other (fun he=>by subst he;rw[hobs.1]at hb;have:=Option.some.inj hb;rw[this]at hobs;cases hobs.2)⟩,tok:=?_,tokNew:=h.tokNew,
        below:=h.below.grown (grownBy_putObj' w l o') (fun k e=>by cases e;exact hl),old:=h.old,new:=h.new,live:=fun b k hs=>?_,glob:=fun g cs hg=>RepCs.keep hk g 0 cs (h.glob g cs hg),fx:=h.fx,ex:=h.ex,obs:=?_,keeps:=fun p hp=>(h.keeps p hp).trans hk,pins:=h.pins}
 ·intro s cs hs hnm;obtain⟨b,vs,e,h1,h2,h3,h4,h6⟩:=h.mem s cs hs hnm;exact⟨b,vs,e,h1,h2,hblk _ _ _ _ h3,RepAs.keep hk ρ.le_refl cs _ h4,h6⟩
 ·intro t ht;obtain⟨x,h1,h2⟩:=h.tok t ht;refine⟨x,h1,?_⟩;rcases h2 with h2|⟨b,g0,g1,⟨cur,e,g2,g3⟩,g4,g5,g7,g8,g9⟩
  ·exact .inl h2
  ·exact .inr ⟨b,g0,g1,⟨cur,e,hblk _ _ _ _ g2,g3⟩,g4,g5,g7,g8,g9⟩
 ·obtain⟨v,hv⟩:=h.live b k hs;exact⟨v,((hk b k hs).2).trans hv⟩
 ·intro p hp;simp only[List.mem_cons]at hp;rcases hp with rfl|hp
  ·exact⟨World.putObj_heap_same (Array.getElem?_eq_some_iff.1 hobs.1).1,ho'⟩
  ·have:=h.obs p (by rw[hob];simp[hp]);exact⟨by rw[World.putObj_heap_other (hne p hp)];exact this.1,this.2⟩
theorem yyC(wl)(k):∀l:List (Nat×AV),getS (dropS wl l) k=if inN k wl=true then .undef else getS l k
 |[]=>by simp[dropS,getS]
 |(j,v)::r=>by
  have ih:=yyC wl k r;simp only[dropS];by_cases hj:inN j wl=true
  ·rw[if_pos hj,ih];simp only[getS];by_cases hjk:j=k
   ·subst hjk;rw[if_pos hj,if_pos hj]
   ·rw[if_neg hjk]
  ·rw[if_neg hj];simp only[getS];by_cases hjk:j=k
   ·subst hjk;rw[if_pos rfl,if_neg hj,if_pos rfl]
   ·rw[if_neg hjk,if_neg hjk];exact ih
theorem Sim.restore{c2:Ctx}{s2 tmps2 w2 S2 ρ2}(h:Sim c st tmps w S ρ){wl}(h2:Sim {c with kp:=fun k=>!inN k wl,t0:=tmps,ds:=[],kx:=some (w,S),ob:=c2.ob} s2 tmps2 w2 S2 ρ2):
  Sim {c with ob:=c2.ob,ds:=c2.ds} (s2.dropW wl) tmps w2 S2 ρ2:=
 {size:=h.size,
  slots:=fun k=>by
   simp only[St.dropW,yyC];by_cases hk:inN k wl=true
   ·rw[if_pos hk];trivial
   ·rw[if_neg hk];have:=h2.fx k (by simp only[Bool.not_eq_true]at hk;simp[hk]);have h3:=h2.slots k;rw[this]at h3;exact h3
  mem:=h2.mem,inj:=h2.inj,boxNew:=h2.boxNew,mps:=h2.mps,tok:=h2.tok,tokNew:=h2.tokNew,below:=h2.below,old:=h2.old,new:=h2.new,live:=h2.live,glob:=h2.glob,
  fx:=h.fx,ex:=h.ex,obs:=h2.obs,keeps:=fun p hp=>(h.keeps p hp).trans (h2.keeps _ rfl),pins:=h2.pins}
theorem Sim.begin(h:Sim c st tmps w S ρ){wl ob}(ho:∀p∈ob,w.heap[p.1]? =some p.2∧noData p.2=true):
  ∀(ps) (xs) (vs) (slots) (tm),(∀p∈ps,p<c.N∧inN p wl=true)→RepCL w S xs vs→xs.length=ps.length→
   Sim {c with kp:=fun k=>!inN k wl,t0:=tmps,ds:=[],kx:=some (w,S),ob:=ob} {st with slots:=slots} tm w S ρ→
   Sim {c with kp:=fun k=>!inN k wl,t0:=tmps,ds:=[],kx:=some (w,S),ob:=ob} {st with slots:=setPs ps xs slots} ((ps.zip vs).foldl (fun t (p:Nat×Value)=>t.setIfInBounds p.1 p.2) tm) w S ρ
 |[],xs,vs,slots,tm,_,_,_,hs=>by cases xs<;>simpa[setPs]using hs
 |p::ps,[],vs,slots,tm,_,_,hl,_=>by simp at hl
 |p::ps,x::xs,_,slots,tm,hp,⟨v,r,e,h1,h2⟩,hl,hs=>by subst e;simp only[setPs,List.zip_cons_cons,List.foldl_cons];refine Sim.begin h ho ps xs r _ _ (fun q hq=>hp q (by simp[hq])) h2 (by simpa using hl) ?_;have hpp:=hp p (by simp);exact hs.put (d:=p) (a:=x.toAV0) (v:=v) ⟨hpp.1,by simp[hpp.2]⟩ (RepC.toAV h1) none (fun b hb=>by cases hb)
theorem Sim.begin0(h:Sim c st tmps w S ρ)(wl){ob}(ho:∀p∈ob,w.heap[p.1]? =some p.2∧noData p.2=true):Sim {c with kp:=fun k=>!inN k wl,t0:=tmps,ds:=[],kx:=some (w,S),ob:=ob} {st with slots:=st.slots} tmps w S ρ:=
 {size:=h.size,slots:=h.slots,mem:=h.mem,inj:=h.inj,boxNew:=h.boxNew,mps:=h.mps,tok:=h.tok,tokNew:=h.tokNew,below:=h.below,old:=h.old,new:=h.new,live:=h.live,glob:=h.glob,fx:=fun _ _=>rfl,ex:=h.ex,obs:=ho,keeps:=fun p hp=>by cases hp;exact Keeps.refl _ _,pins:=h.pins}
def Ctx.at(c:Ctx)(w:World)(S:Safe)(X:List Nat):Ctx:={c with w0:=w,S0:=S,X:=X}
theorem Ctx.yVJ{c:Ctx}(hx:c.P.globals.size≤c.w0.heap.size){b}(h:c.Own b):c.P.globals.size≤b:=by
 rcases h with h|h
 ·omega
 ·exact h.2
theorem MpsOk.mono{P k0 k1 w S ρ m}(h:MpsOk P k0 w S ρ m)(hk:∀b,k0 b→b<w.heap.size→k1 b):MpsOk P k1 w S ρ m:=
 {at':=fun s k e kvs hs=>by obtain⟨b,h1,h2,h3,h4⟩:=h.at' s k e kvs hs;exact⟨b,h1,h2,hk b h3 h4.lt,h4⟩
  inj:=h.inj,new:=h.new,lt:=h.lt,apart:=h.apart}
theorem Sim.base(h:Sim c st tmps w S ρ){X}(hX:∀b,c.Own b→b<w.heap.size→b∈X):Sim (c.at w S X) st tmps w S ρ:=by
 have hown:∀b,c.Own b→b<w.heap.size→(c.at w S X).Own b:=fun b hb hl=>.inr ⟨hX b hb hl,Ctx.yVJ h.ex.1 hb⟩
 refine{size:=h.size,slots:=h.slots,mem:=fun s cs hs hm=>?_,inj:=h.inj,boxNew:=h.boxNew,mps:=h.mps.mono hown,tok:=fun t ht=>?_,tokNew:=h.tokNew,below:=BelowO.refl (c.at w S X),old:=fun _ _ hs=>hs,new:=fun _ _ hs=>.inl hs,
        live:=h.live,glob:=h.glob,fx:=h.fx,obs:=h.obs,keeps:=h.keeps,ex:=h.exact,pins:=h.pins}
 ·obtain⟨b,vs,e,h1,h2,h3,h4,h5⟩:=h.mem s cs hs hm
  exact⟨b,vs,e,h1,hown b h2 (Array.getElem?_eq_some_iff.1 h3).1,h3,h4,h5⟩
 ·obtain⟨x,h1,h2⟩:=h.tok t ht
  refine⟨x,h1,?_⟩
  rcases h2 with h2|⟨b,g0,g1,⟨cur,e,g2,g3⟩,g4⟩
  ·exact .inl h2
  ·exact .inr ⟨b,g0,hown b g1 (Array.getElem?_eq_some_iff.1 g2).1,⟨cur,e,g2,g3⟩,g4⟩
theorem Sim.unbase{W S1 X}(h:Sim (c.at W S1 X) st tmps w S ρ)(hb:BelowO c.Own c.w0 W)(ho:∀b o,c.S0 b o→S1 b o)(hn:∀b o,S1 b o→c.S0 b o∨c.Own b)(hX:∀b∈X,c.P.globals.size≤b→c.Own b)(ex:Exact c.P c.G c.w0):Sim c st tmps w S ρ:=by
 have hown:∀b,(c.at W S1 X).Own b→c.Own b:=fun b hb'=>by
  rcases hb' with h1|⟨h1,h2⟩
  ·exact .inl (Nat.le_trans hb.size h1)
  ·exact hX b h1 h2
 refine{size:=h.size,slots:=h.slots,mem:=fun s cs hs hm=>?_,inj:=h.inj,boxNew:=h.boxNew,mps:=h.mps.mono fun b hb _=>hown b hb,tok:=fun t ht=>?_,tokNew:=h.tokNew,below:=?_,old:=fun b o hs=>h.old b o (ho b o hs),new:=fun b o hs=>?_,
        live:=h.live,glob:=h.glob,fx:=h.fx,obs:=h.obs,keeps:=h.keeps,ex:=ex,pins:=h.pins}
 ·obtain⟨b,vs,e,h1,h2,h3,h4,h5⟩:=h.mem s cs hs hm;exact⟨b,vs,e,h1,hown b h2,h3,h4,h5⟩
 ·obtain⟨x,h1,h2⟩:=h.tok t ht;refine⟨x,h1,?_⟩;rcases h2 with h2|⟨b,g0,g1,g2⟩
  ·exact .inl h2
  ·exact .inr ⟨b,g0,hown b g1,g2⟩
 ·exact⟨h.below.os.trans hb.os,h.below.tape.trans hb.tape,h.below.output.trans hb.output,Nat.le_trans hb.size h.below.size,fun k hk=>(h.below.block k fun e=>hk (hown k e)).trans (hb.block k hk)⟩
 ·rcases h.new b o hs with h1|h1
  ·exact hn b o h1
  ·exact .inr (hown b h1)
theorem Sim.moved{W W' S1 S2 X base}(h:Sim (c.at W S1 X) st tmps W S1 ρ)(hg:GrowsB base (fun k=>k∈X) W S1 W' S2)(hob:∀p∈c.ob,p.1<base)(hgl:c.P.globals.size≤base):Sim (c.at W' S2 X) st tmps W' S2 ρ:=by
 obtain⟨g1,g2,g3,g4⟩:=hg;have hin:∀b,(c.at W S1 X).Own b→b<W.heap.size→b∈X∧c.P.globals.size≤b:=fun b hb hl=>by
  rcases hb with h1|h1
  ·have:W.heap.size≤b:=h1;omega
  ·exact h1
 have hsame:∀b,b∈X∨b<base→W'.heap[b]? =W.heap[b]? :=fun b hb=>g1.block b fun⟨e1,e2⟩=>by
  rcases hb with hb|hb
  ·exact e2 hb
  ·omega
 refine{size:=h.size,slots:=fun k=>(h.slots k).keep g2 ρ.le_refl,mem:=fun s cs hs hm=>?_,inj:=h.inj,boxNew:=h.boxNew,mps:={at':=fun s k e kvs hs=>?_,inj:=h.mps.inj,new:=h.mps.new,lt:=fun s b hs=>Nat.lt_of_lt_of_le (h.mps.lt s b hs) g1.size,apart:=h.mps.apart},tok:=fun t ht=>?_,tokNew:=h.tokNew,
        below:=BelowO.refl (c.at W' S2 X),old:=fun _ _ hs=>hs,new:=fun _ _ hs=>.inl hs,live:=g4,glob:=fun g cs hg=>RepCs.keep g2 g 0 cs (h.glob g cs hg),fx:=h.fx,obs:=fun p hp=>⟨?_,(h.obs p hp).2⟩,keeps:=fun p hp=>(h.keeps p hp).trans g2,ex:=⟨?_,?_⟩,pins:=h.pins}
 ·obtain⟨b,vs,e,h1,h2,h3,h4,h5⟩:=h.mem s cs hs hm;obtain⟨k1,k2⟩:=hin b h2 (Array.getElem?_eq_some_iff.1 h3).1;exact⟨b,vs,e,h1,.inr ⟨k1,k2⟩,(hsame b (.inl k1)).trans h3,RepAs.keep g2 ρ.le_refl cs _ h4,fun o hs2=>by
   rcases g3 b o hs2 with e1|⟨_,e2⟩
   ·exact h5 o e1
   ·exact e2 k1⟩
 ·obtain⟨b,h1,h2,h3,h4⟩:=h.mps.at' s k e kvs hs;obtain⟨k1,k2⟩:=hin b h3 h4.lt;exact⟨b,h1,h2,.inr ⟨k1,k2⟩,h4.to g2 (hsame b (.inl k1))⟩
 ·obtain⟨x,h1,h2⟩:=h.tok t ht;refine⟨x,h1,?_⟩;rcases h2 with h2|⟨b,q0,q1,⟨cur,e,q2,q3⟩,q4,q5,q6,q7,q8⟩
  ·exact .inl h2
  ·obtain⟨k1,k2⟩:=hin b q1 (Array.getElem?_eq_some_iff.1 q2).1;exact .inr ⟨b,q0,.inr ⟨k1,k2⟩,⟨cur,e,(hsame b (.inl k1)).trans q2,q3⟩,q4,q5,fun o ho hs2=>by
    rcases g3 b o hs2 with e1|⟨_,e2⟩
    ·exact q6 o ho e1
    ·exact e2 k1,q7,q8⟩
 ·rw[hsame p.1 (.inr (hob p hp))];exact(h.obs p hp).1
 ·exact Nat.le_trans h.ex.1 g1.size
 ·intro g cs hg hG hne;obtain⟨vs,e,fr,e1,e2⟩:=h.ex.2 g cs hg hG hne;exact⟨vs,e,fr,(hsame g (.inr (Nat.lt_of_lt_of_le hg hgl))).trans e1,e2⟩
theorem RepCL.len:∀{as} {l},RepCL w S as l→l.length=as.length
 |[],_,h=>by simp only[RepCL]at h;subst h;rfl
 |_::_,_,⟨v,r,h,_,h2⟩=>by subst h;simp[RepCL.len h2]
theorem yxS{k}:∀{a},k∈a→inN k a=true
 |x::a,h=>by
  rcases List.mem_cons.1 h with rfl|h
  ·simp[inN]
  ·simp only[inN,yxS h];split<;>rfl
end Go.Abs
end
section
namespace Go.Abs
open Go.RowKit
variable{c:Ctx}{st:St}{tmps:Array Value}{w:World}{S:Safe}{ρ:Rho}{E:AEnv}{T:Nat→Option Ty}
def Sound(E:AEnv)(P:Program)(G:Nat→Option (List D))(N:Nat)(cd:Code)(ac:AC)(ro:Option Nat):Prop:=
 ∀(m:Nat) {c:Ctx},c.P=P→c.G=G→c.N=N→(∀d∈ac.wrs,c.kp d=false)→∀{Q:AX→St→Prop} {R:Exit→Act→World→Prop},
  (∀c',Ext c c'→(ro.isSome=true→c'=c)→∀x st tmps w S ρ,Sim c' st tmps w S ρ→Q x st→R x.out ⟨tmps,c'.ds⟩ w)→
  ∀{st:St} {tmps:Array Value} {w:World} {S:Safe} {ρ:Rho},Sim c st tmps w S ρ→awp E ac Q st→cd.wpIn (FR ro) m P R ⟨tmps,c.ds⟩ w
def AX.jump:AX→Option Code
 |.normal=>none
 |.exit i=>some (.exit i)
 |.ret=>some .ret
theorem yWD{P G N}(hIt:∀f caps xs,E.It f caps xs→ItOk P G f caps xs){g}{ps:Array Tmp}{assign body g' a b}(hgt:trX g=some g')
  (ha:∀l,Sound E P G N assign a (some l)) (hb:∀l,Sound E P G N body b (some l)) (hps:∀p∈ps.toList,p<N) (m) {c} (hcP:c.P=P) (hcG:c.G=G) (hcN:c.N=N) {Q} {R}
  (hR:∀c',Ext c c'→∀x st tmps w S ρ,Sim c' st tmps w S ρ→Q x st→R x.out ⟨tmps,c'.ds⟩ w)
  {st} {tmps} {w} {S} {ρ} (h:Sim c st tmps w S ρ) {f} {caps} (hv:ev st g'=.d (.clo f caps)) (hgd:gd st g'=true) {xs} (hxs:E.It f caps xs)
  (hL:rngL (fun Q'=>awp E a (seqK (awp E b Q') noK)) ps.toList (ps.toList++(a.wrs++b.wrs)) xs Q st):(Code.rangeFunc g ps assign body).wpIn (FR none) m P R ⟨tmps,c.ds⟩ w:=by
 obtain⟨Inv,Sx,hS0,hI0,hround,hQ⟩:=hL;generalize hwl:ps.toList++(a.wrs++b.wrs)=wl at hround;obtain⟨⟨fnf,hfn,hname,hbody⟩,hcalls⟩:=hIt _ _ _ hxs;have e1:=h.ev (ds:=c.ds) hgt hgd;rw[hv]at e1;obtain⟨cs,hval,hcaps⟩:=e1;refine wpIn_rangeFunc ?_;intro fn hfn';obtain⟨rec,hrec⟩:∃rec:LoopState→Option Code→Loop,rec=fun st pe=>{state:=st,pending:=pe,fn,tmps:=tmps,params:=ps,assign,body,defers:=w.heap.size}:=⟨_,rfl⟩;obtain⟨W1,hW1⟩:∃W1,(w.alloc (.deferred (some []))).alloc (.loop (rec .ready none))=W1:=⟨_,rfl⟩;have hL1:W1.heap[w.heap.size+1]? =some (.loop (rec .ready none)):=by rw[←hW1];have:=World.alloc_heap_new (w.alloc (.deferred (some []))) (.loop (rec .ready none));rwa [World.size_alloc]at this
 have hK1:W1.heap[w.heap.size]? =some (.deferred (some [])):=by rw[←hW1];exact(Below.heap_alloc _ _ _ (by simp)).trans (World.alloc_heap_new w _)
 have hbel:Below w.heap.size w W1:=by rw[←hW1];exact((Below.refl _ w).alloc (Nat.le_refl _) _).alloc (by simp) _
 have hlive1:Live W1 S:=fun b' o hs=>by obtain⟨v,hv'⟩:=h.live b' o hs;exact⟨v,(hbel.cell (p:=⟨b',o,none⟩) (zyu hv')).trans hv'⟩
 have hs1:Sim c st tmps W1 S ρ:=h.grow hbel (fun _ _ hs=>hs) (fun _ _ hs=>.inl hs) hlive1;have hobold:∀p∈c.ob,p.1<w.heap.size:=fun p hp=>(Array.getElem?_eq_some_iff.1 (h.obs p hp).1).1;let mark:Deferred:=markOf w.heap.size;let obr:List (Nat×Obj):=(w.heap.size,.deferred (some []))::c.ob;have hobr:∀p∈obr,p.1≠w.heap.size+1:=by
  intro p hp;simp only[obr,List.mem_cons]at hp;rcases hp with rfl|hp
  ·simp
  ·have:=hobold p hp;omega
 have hl0:c.w0.heap.size≤w.heap.size+1:=Nat.le_trans h.below.size (by omega);have hext:∀o:Obj,Ext c {c with ob:=(w.heap.size+1,o)::obr,ds:=mark::c.ds}:=fun o=>⟨[(w.heap.size+1,o),(w.heap.size,.deferred (some []))],[w.heap.size],by simp[obr,mark],by simp,by simp,fun p hp q hq=>by
  have:=hobold q hq;simp at hp;rcases hp with rfl|rfl<;>simp<;>omega,fun p hp=>by
  have:=h.below.size;simp at hp;rcases hp with rfl|rfl<;>simp<;>omega⟩
 have hev:(callFunc f (#[.func (.yield (w.heap.size+1)) #[] #[]]++cs)).run P W1=.ok (.enter f (#[.func (.yield (w.heap.size+1)) #[] #[]]++cs)) W1:=by
  have hname':¬fnf.name= "runtime.NumGoroutine":=by simpa using hname
  have hbody':¬fnf.body=none:=by intro e;simp[e]at hbody
  simp[callFunc,hfn,hname',hbody']
 refine⟨w.heap.size+1,[mark],W1,{target:=.fn (.func f) cs,args:=#[.func (.yield (w.heap.size+1)) #[] #[]]},W1,f,#[.func (.yield (w.heap.size+1)) #[] #[]]++cs,W1,?_,?_,fun _ _=>trivial,?_,(by intro hd;cases hd),?_⟩
 ·rw[←hW1,hrec];exact run_enterLoop_outer _ _ _ _ _
 ·simp only[resolve,hval];simp[go_sem]
 ·simp only[invoke];exact hev
 have hsz1:W1.heap.size=w.heap.size+2:=by rw[←hW1];simp
 have hgl:c.P.globals.size≤w.heap.size:=Nat.le_trans h.ex.1 h.below.size;let outer:World→Safe→List Nat→Prop:=fun W S1 X=>BelowO c.Own c.w0 W∧(∀b o,c.S0 b o→S1 b o)∧(∀b o,S1 b o→c.S0 b o∨c.Own b)∧(∀b∈X,c.P.globals.size≤b→c.Own b)∧(∀b∈X,b<W.heap.size)∧w.heap.size+1∈X∧W1.heap.size≤W.heap.size;have hobr2:∀(o:Obj),∀p∈((w.heap.size+1,o)::obr:List (Nat×Obj)),p.1<W1.heap.size:=by
  intro o p hp;simp only[obr,List.mem_cons]at hp;rcases hp with rfl|rfl|hp
  ·rw[hsz1];simp
  ·rw[hsz1];simp
  ·have:=hobold p hp;omega
 have outer_move:∀{W W':World} {S1 S2:Safe} {X:List Nat},outer W S1 X→GrowsB W1.heap.size (fun k=>k∈X) W S1 W' S2→outer W' S2 X:=by
  rintro W W' S1 S2 X ⟨o1,o2,o3,o4,o5,o6,o7⟩ ⟨g1,g2,g3,g4⟩
  have hw0:c.w0.heap.size≤W1.heap.size:=by have:=h.below.size;omega
  refine⟨⟨g1.os.trans o1.os,g1.tape.trans o1.tape,g1.output.trans o1.output,Nat.le_trans o1.size g1.size,fun k hk=>(g1.block k fun⟨e1,_⟩=>hk (.inl (Nat.le_trans hw0 e1))).trans (o1.block k hk)⟩,fun b o hs=>(g2 b o (o2 b o hs)).1,fun b o hs=>?_,o4,fun b hb=>Nat.lt_of_lt_of_le (o5 b hb) g1.size,o6,Nat.le_trans o7 g1.size⟩;rcases g3 b o hs with e1|⟨e1,_⟩
  ·exact o3 b o e1
  ·exact .inr (.inl (Nat.le_trans hw0 e1))
 refine zK1 (FR.fw none) (Calls.mono (hcalls (w.heap.size+1) W1 S cs.toList
  (fun pre W S1 Y=>∃X,(∀k,Y k↔k∈X)∧outer W S1 X∧(∃st1 ρ1,Sim (Ctx.at {c with ob:=(w.heap.size+1,.loop (rec .ready none))::obr,ds:=mark::c.ds} W S1 X) st1 tmps W S1 ρ1∧Ent st1 (Sx pre))∧Keeps W1 S W S1∧Inv pre)
  (fun W S1 Y=>∃X,(∀k,Y k↔k∈X)∧outer W S1 X∧∃x jc s1 ρ1,AX.jump x=some jc∧Sim (Ctx.at {c with ob:=(w.heap.size+1,.loop (rec .done (some jc)))::obr,ds:=mark::c.ds} W S1 X) s1 tmps W S1 ρ1∧Q x s1)
  (fun k=>k∈c.X.filter (fun b=>decide (b<W1.heap.size))++List.range' c.w0.heap.size (W1.heap.size-c.w0.heap.size))
  hlive1 (hcG▸hcP▸⟨hs1.glob,hs1.exact⟩) (RepL.keep (fun b' o hs=>⟨hs,by obtain⟨v,hv'⟩:=h.live b' o hs;exact hbel.cell (p:=⟨b',o,none⟩) (zyu hv')⟩) _ _ hcaps) ?_ ?_ ?_ ?_ ?_ ?_) ?_)
 ·
  rintro pre W S1 Y W' S2 ⟨X,hY,hout,⟨st1,ρ1,hsim,hent⟩,hk,hip⟩ hg
  have hY':Y=fun k=>k∈X:=funext fun k=>propext (hY k);subst hY';exact⟨X,fun _=>Iff.rfl,outer_move hout hg,⟨st1,ρ1,hsim.moved hg (hobr2 _) (by show c.P.globals.size≤_;omega),hent⟩,hk.trans hg.2.1,hip⟩
 ·rintro W S1 Y W' S2 ⟨X,hY,hout,x,jc,s1,ρ1,hj,hsim,hq⟩ hg
  have hY':Y=fun k=>k∈X:=funext fun k=>propext (hY k);subst hY';exact⟨X,fun _=>Iff.rfl,outer_move hout hg,x,jc,s1,ρ1,hj,hsim.moved hg (hobr2 _) (by show c.P.globals.size≤_;omega),hq⟩
 ·rintro pre W S1 Y ⟨X,hY,hout,⟨st1,ρ1,hsim,hent⟩,hk,_⟩
  exact⟨hsim.live,hk,hcG▸hcP▸hsim.exact,hout.2.2.2.2.2.2,fun k hk=>hout.2.2.2.2.1 k ((hY k).1 hk)⟩
 ·rintro W S1 Y ⟨X,hY,hout,x,jc,s1,ρ1,hj,hsim,hq⟩
  exact⟨hsim.live,hcG▸hcP▸hsim.exact,hout.2.2.2.2.2.2,fun k hk=>hout.2.2.2.2.1 k ((hY k).1 hk)⟩
 ·
  rintro pre x rest W S1 Y vs hx ⟨X,hY,hout,⟨st1,ρ1,hsim0,hent⟩,hk,hip⟩ hrep
  have hY':Y=fun k=>k∈X:=funext fun k=>propext (hY k);subst hY';obtain⟨o1,o2,o3,o4,o5,o6,o7⟩:=hout;obtain⟨ρ2,hsim⟩:=Ent.sound hsim0 hent;obtain⟨hlen,hbod⟩:=hround pre x rest hx hip;have hvl:=RepCL.len hrep;have hLW:=(hsim.obs (w.heap.size+1,.loop (rec .ready none)) (by simp[Ctx.at])).1;have hy:=run_yield (P:=P) (args:=vs.toArray) hLW (by rw[hrec];simp[hvl,hlen]);have hpN:∀p∈ps.toList,p<c.N∧inN p wl=true:=fun p hp=>⟨hcN▸hps p hp,yxS (by rw[←hwl];exact List.mem_append_left _ hp)⟩;have hbeg:=Sim.begin hsim (wl:=wl) (ob:=(w.heap.size+1,.loop (rec .ready none))::obr) hsim.obs ps.toList x vs (Sx pre).slots tmps hpN hrep hlen (Sim.begin0 hsim wl hsim.obs);have hlX:∀(ob:List (Nat×Obj)) (ds:List Deferred) (kp:Nat→Bool) (t0:Array Value) (kx:Option (World×Safe)),Ctx.Own {Ctx.at {c with ob:=ob,ds:=ds} W S1 X with kp:=kp,t0:=t0,kx:=kx} (w.heap.size+1):=fun _ _ _ _ _=>.inr ⟨o6,by show c.P.globals.size≤_;omega⟩;rw[hrec]at hy;refine⟨fn,_,assign,body,hy,roundIn_of_wpIn (F:=FR none) (n:=0) trivial ?_⟩;have htm:((ps.zip vs.toArray).foldl (fun tmps (t,a)=>tmps.setIfInBounds t a) tmps)=(ps.toList.zip vs).foldl (fun t (p:Nat×Value)=>t.setIfInBounds p.1 p.2) tmps:=by rw[←Array.foldl_toList,Array.toList_zip]
  rw[htm];have hfin:∀{jump:Option Code} {s2:St} {tmps2:Array Value} {W3:World} {S3:Safe} {ρ3:Rho},Sim {Ctx.at {c with ob:=(w.heap.size+1,.loop {rec .ready none with state:=.busy})::obr,ds:=[]} W S1 X with kp:=fun k=>!inN k wl,t0:=tmps,kx:=some (W,S1)} s2 tmps2 W3 S3 ρ3→
    (Instr.endRound (w.heap.size+1) jump).run P W3=.ok (.bool jump.isNone) (W3.putObj (w.heap.size+1) (.loop (rec (if jump.isNone then .ready else .done) jump)))∧
    ∃X' Y',Sim (Ctx.at {c with ob:=(w.heap.size+1,.loop (rec (if jump.isNone then .ready else .done) jump))::obr,ds:=mark::c.ds} (W3.putObj (w.heap.size+1) (.loop (rec (if jump.isNone then .ready else .done) jump))) S3 X') (s2.dropW wl) tmps (W3.putObj (w.heap.size+1) (.loop (rec (if jump.isNone then .ready else .done) jump))) S3 ρ3∧
    (∀k,Y' k↔k∈X')∧outer (W3.putObj (w.heap.size+1) (.loop (rec (if jump.isNone then .ready else .done) jump))) S3 X'∧
    FrameY (fun k=>k∈X) W S1 (W3.putObj (w.heap.size+1) (.loop (rec (if jump.isNone then .ready else .done) jump))) S3 Y':=by
   intro jump s2 tmps2 W3 S3 ρ3 hs3;have hl3:=(hs3.obs (w.heap.size+1,.loop {rec .ready none with state:=.busy}) (by simp[Ctx.at])).1;have hr:=run_endRound (P:=P) jump hl3;have hsp:=Sim.putObj (o':=.loop (rec (if jump.isNone then .ready else .done) jump)) (ds':=[]) hs3 rfl rfl (hlX _ _ _ _ _) hobr;have hrst:=Sim.restore (c2:={Ctx.at {c with ob:=(w.heap.size+1,.loop (rec (if jump.isNone then .ready else .done) jump))::obr,ds:=mark::c.ds} W S1 X with ob:=(w.heap.size+1,.loop (rec (if jump.isNone then .ready else .done) jump))::obr,ds:=mark::c.ds}) hsim hsp;have hX2:∀b,Ctx.Own (Ctx.at {c with ob:=(w.heap.size+1,.loop (rec (if jump.isNone then .ready else .done) jump))::obr,ds:=mark::c.ds} W S1 X) b→b<(W3.putObj (w.heap.size+1) (.loop (rec (if jump.isNone then .ready else .done) jump))).heap.size→
     b∈X++List.range' W.heap.size ((W3.putObj (w.heap.size+1) (.loop (rec (if jump.isNone then .ready else .done) jump))).heap.size-W.heap.size):=fun b hb hl=>by
    rcases hb with h1|h1
    ·have h1:W.heap.size≤b:=h1;exact List.mem_append_right _ (List.mem_range'_1.2 ⟨h1,by omega⟩)
    ·exact List.mem_append_left _ h1.1
   have hbase:=Sim.base (X:=X++List.range' W.heap.size ((W3.putObj (w.heap.size+1) (.loop (rec (if jump.isNone then .ready else .done) jump))).heap.size-W.heap.size)) hrst hX2;have hbW:BelowO (fun k=>W.heap.size≤k∨k∈X) W (W3.putObj (w.heap.size+1) (.loop (rec (if jump.isNone then .ready else .done) jump))):=⟨hrst.below.os,hrst.below.tape,hrst.below.output,hrst.below.size,fun k hk=>hrst.below.block k fun e=>hk (e.imp id fun q=>q.1)⟩;have hw0W:c.w0.heap.size≤W.heap.size:=o1.size;refine⟨by rw[hrec]at hr⊢;exact hr,_,_,hbase,fun _=>Iff.rfl,⟨?_,fun b o hs=>hrst.old b o (o2 b o hs),fun b o hs=>?_,fun b hb hg=>?_,fun b hb=>?_,List.mem_append_left _ o6,Nat.le_trans o7 hbW.size⟩,⟨hbW,hsp.keeps _ rfl,fun b o hs=>?_,fun k hk=>?_⟩⟩
   ·exact⟨hbW.os.trans o1.os,hbW.tape.trans o1.tape,hbW.output.trans o1.output,Nat.le_trans o1.size hbW.size,fun k hk=>(hrst.below.block k fun e=>hk (by
      rcases e with e|e
      ·exact .inl (Nat.le_trans hw0W e)
      ·exact o4 k e.1 e.2)).trans (o1.block k hk)⟩
   ·rcases hrst.new b o hs with e|e
    ·exact o3 b o e
    ·rcases e with e|e
     ·exact .inr (.inl (Nat.le_trans hw0W e))
     ·exact .inr (o4 b e.1 e.2)
   ·rcases List.mem_append.1 hb with e|e
    ·exact o4 b e hg
    ·have:=(List.mem_range'_1.1 e).1;exact .inl (Nat.le_trans hw0W this)
   ·rcases List.mem_append.1 hb with e|e
    ·exact Nat.lt_of_lt_of_le (o5 b e) hbW.size
    ·have:=List.mem_range'_1.1 e;have:=hbW.size;omega
   ·rcases hrst.new b o hs with e|e
    ·exact .inl e
    ·exact .inr (e.imp id fun q=>q.1)
   ·rcases List.mem_append.1 hk with e|e
    ·exact .inl e
    ·exact .inr (List.mem_range'_1.1 e).1
  refine ha (w.heap.size+1) 0 (c:={Ctx.at {c with ob:=(w.heap.size+1,.loop (rec .ready none))::obr,ds:=[]} W S1 X with kp:=fun k=>!inN k wl,t0:=tmps,kx:=some (W,S1)}) hcP hcG hcN (fun d hd=>by simp[yxS (show d∈wl by rw[←hwl];simp[hd])]) ?_ hbeg hbod;intro c' _ hc' e s2 tm2 W2 S2 ρ2 hs2 hq2;obtain rfl:=hc' rfl;cases e with
  |exit i=>exact hq2.elim
  |ret=>exact hq2.elim
  |normal=>
  have hl2:=(hs2.obs (w.heap.size+1,.loop (rec .ready none)) (by simp[Ctx.at])).1;have hsb:=Sim.putObj (o':=.loop {rec .ready none with state:=.busy}) (ds':=[]) hs2 rfl rfl (hlX _ _ _ _ _) hobr;refine⟨_,run_beginRound hl2 (by rw[hrec]),?_⟩;refine hb (w.heap.size+1) 0 (c:={Ctx.at {c with ob:=(w.heap.size+1,.loop {rec .ready none with state:=.busy})::obr,ds:=[]} W S1 X with kp:=fun k=>!inN k wl,t0:=tmps,kx:=some (W,S1)}) hcP hcG hcN (fun d hd=>by simp[yxS (show d∈wl by rw[←hwl];simp[hd])]) ?_ hsb hq2;intro c' _ hc' e s3 tm3 W3 S3 ρ3 hs3 hq3;obtain rfl:=hc' rfl;cases e with
  |normal=>obtain⟨hr,X',Y',hs4,hy4,ho4,hf4⟩:=hfin (jump:=none) hs3;exact⟨_,_,hr,.inl ⟨rfl,S3,Y',⟨X',hy4,ho4,⟨_,_,hs4,hq3.1⟩,hk.trans hf4.2.1,hq3.2⟩,hf4⟩⟩
  |exit i=>obtain⟨hr,X',Y',hs4,hy4,ho4,hf4⟩:=hfin (jump:=some (.exit i)) hs3;exact⟨_,_,hr,.inr ⟨rfl,S3,Y',⟨X',hy4,ho4,.exit i,_,_,_,rfl,hs4,hq3⟩,hf4⟩⟩
  |ret=>obtain⟨hr,X',Y',hs4,hy4,ho4,hf4⟩:=hfin (jump:=some .ret) hs3;exact⟨_,_,hr,.inr ⟨rfl,S3,Y',⟨X',hy4,ho4,.ret,_,_,_,rfl,hs4,hq3⟩,hf4⟩⟩
 ·
  have hs2:Sim {c with ob:=(w.heap.size+1,.loop (rec .ready none))::obr,ds:=mark::c.ds} st tmps W1 S ρ:=hs1.reob (by
   intro p hp;simp only[obr,List.mem_cons]at hp;rcases hp with rfl|rfl|hp
   ·exact⟨hL1,rfl⟩
   ·exact⟨hK1,rfl⟩
   ·exact hs1.obs p hp)
  have hw0W:c.w0.heap.size≤W1.heap.size:=hs1.below.size;refine⟨_,fun _=>Iff.rfl,⟨hs1.below,hs1.old,hs1.new,fun b hb hg=>?_,fun b hb=>?_,?_,Nat.le_refl _⟩,⟨st,ρ,Sim.base hs2 fun b hb hl=>?_,hS0⟩,Keeps.refl _ _,hI0⟩
  ·rcases List.mem_append.1 hb with e|e
   ·exact .inr ⟨(List.mem_filter.1 e).1,hg⟩
   ·exact .inl (List.mem_range'_1.1 e).1
  ·rcases List.mem_append.1 hb with e|e
   ·simpa using(List.mem_filter.1 e).2
   ·have:=List.mem_range'_1.1 e;omega
  ·exact List.mem_append_right _ (List.mem_range'_1.2 ⟨hl0,by omega⟩)
  ·rcases hb with e|e
   ·have e:c.w0.heap.size≤b:=e;exact List.mem_append_right _ (List.mem_range'_1.2 ⟨e,by omega⟩)
   ·exact List.mem_append_left _ (List.mem_filter.2 ⟨e.1,by simpa using hl⟩)
 ·
  rintro e W2 ⟨v,rfl,(⟨S2,Y,X,_,⟨o1,o2,o3,o4,_⟩,⟨st1,ρ1,hsim0,hent⟩,hk,hip⟩|⟨S2,Y,X,_,⟨o1,o2,o3,o4,_⟩,x,jc,s1,ρ1,hj,hsim,hq⟩)⟩
  ·obtain⟨ρ2,hsim⟩:=Ent.sound hsim0 hent;have hsim:=Sim.unbase (c:={c with ob:=(w.heap.size+1,.loop (rec .ready none))::obr,ds:=mark::c.ds}) hsim o1 o2 o3 o4 h.ex;have hl2:=(hsim.obs (w.heap.size+1,.loop (rec .ready none)) (by simp)).1;have hr:=run_endLoop (P:=P) hl2 (by rw[hrec];simp);have hsp:=Sim.putObj (o':=.loop {rec .ready none with state:=.exhausted}) (ds':=mark::c.ds) hsim rfl rfl (.inl hl0) hobr;have hp:(rec .ready none).pending=none:=by rw[hrec]
   exact⟨none,_,hr.trans (congrArg (fun p=>Result.ok p _) hp),hR _ (hext _) .normal _ _ _ _ _ hsp (hQ hip)⟩
  ·have hsim:=Sim.unbase (c:={c with ob:=(w.heap.size+1,.loop (rec .done (some jc)))::obr,ds:=mark::c.ds}) hsim o1 o2 o3 o4 h.ex;have hl2:=(hsim.obs (w.heap.size+1,.loop (rec .done (some jc))) (by simp)).1;have hr:=run_endLoop (P:=P) hl2 (by rw[hrec];simp);have hsp:=Sim.putObj (o':=.loop {rec .done (some jc)with state:=.exhausted}) (ds':=mark::c.ds) hsim rfl rfl (.inl hl0) hobr;have hp:(rec .done (some jc)).pending=some jc:=by rw[hrec]
   refine⟨some jc,_,hr.trans (congrArg (fun p=>Result.ok p _) hp),?_⟩;cases x with
   |normal=>cases hj
   |exit i=>cases hj;exact wpIn_exit (hR _ (hext _) (.exit i) _ _ _ _ _ hsp hq)
   |ret=>cases hj;exact wpIn_ret (hR _ (hext _) .ret _ _ _ _ _ hsp hq)
end Go.Abs
end
section
namespace Go.Abs
open Go.RowKit
variable{c:Ctx}{st:St}{tmps:Array Value}{w:World}{S:Safe}{ρ:Rho}{E:AEnv}{T:Nat→Option Ty}
theorem yKe{ops l}(h:trOps T ops=some l){o}(ho:o∈ops){d:Nat}(hd:o.dst=some d):d∈l.filterMap fun p=>wrOf p.2:=by
 obtain⟨hlen,hget⟩:=zyG h;obtain⟨k,hk,rfl⟩:=List.getElem_of_mem ho;obtain⟨gi,i,hl,htg,hti⟩:=hget k _ (List.getElem?_eq_getElem hk);refine List.mem_filterMap.2 ⟨(gi,i),List.mem_of_getElem? hl,?_⟩;have:=zJU hti;cases i<;>simp only[DstIs,wrOf,dstOf]at this⊢<;>first
  |(rw[hd]at this;exact this.symm)
  |(rw[hd]at this;cases this)
def noGoto(Q:Exit→Act→World→Prop):Exit→Act→World→Prop
 |.goto _,_,_=>False
 |e,a,w=>Q e a w
theorem zvj{P}{b:Frame}{a k cs w c}:step P (lone (b.atR a (.code (.scope c)::k)) cs w)=.next (lone (b.atR a (.code c:: .inScope c::k)) cs w):=
 step_lone_go (by simp[stepG,stepG.exec,Frame.atR])
theorem ywk{P}{b:Frame}{a k cs w c}:step P (lone (b.atR a (.inScope c::k)) cs w)=.next (lone (b.atR a k) cs w):=
 step_lone_go (by simp[stepG,stepG.exec,Frame.atR])
theorem zWO{F n P c Q a w}(h:c.wpIn F n P (noGoto Q) a w):(Code.scope c).wpIn F n P Q a w:=by
 intro b k cs hro hb hr;have h0:(lone (b.atR a (.code (.scope c)::k)) cs w).fenced P F:=fenced_calm hb hr rfl;obtain⟨e,a₁,w₁,hq,harr⟩:=h b (.inScope c::k) cs hro hb hr;cases e with
 |normal=>exact⟨.normal,a₁,w₁,hq,.head h0 zvj (StepsIn.trans harr (.one (fenced_calm hb hr rfl) ywk))⟩
 |exit id=>
  have hx:exitTo id (.inScope c::k)=exitTo id k:=by simp[exitTo]
  exact⟨.exit id,a₁,w₁,hq,fun k' hk=>.head h0 zvj (harr.1 k' (by rw[hx];exact hk)),
   fun hr' hk=>let ⟨k₁,h1,h2⟩:=harr.2 hr' (by rw[hx];exact hk);⟨k₁,h1,.head h0 zvj h2⟩⟩
 |goto l=>exact hq.elim
 |ret=>exact⟨_,a₁,w₁,hq,.of_steps (.one h0 zvj) harr⟩
 |panic ch=>exact⟨_,a₁,w₁,hq,.of_steps (.one h0 zvj) harr⟩
 |outgrown=>exact⟨_,a₁,w₁,hq,.of_steps (.one h0 zvj) harr⟩
theorem yk2(hG:E.G=c.G)(hC:∀f args r,E.C f args r→Ev c.P c.G f args r)(hT:∀t ty,T t=some ty→chkTy c.P t ty=true)(hm:c.P.follows .mixedOrders=true){id ops draw ac}(htr:tr T c.N (.region id ops draw)=some ac)
  (hw:∀d∈ac.wrs,c.kp d=false) {F} (hF:FW F) (m) {Q} {R} (hQ:∀a w,Goes c (Q .normal) a w→R .normal a w) (h:Sim c st tmps w S ρ) (hq:awp E ac Q st):(Code.region id ops draw).wpIn F m c.P R ⟨tmps,c.ds⟩ w:=by
 simp only[tr,Option.bind_eq_bind]at htr;cases hl:trOps T ops.toList with
 |none=>simp[hl]at htr
 |some l=>
  simp only[hl,Option.bind_some]at htr;split at htr
  ·rename_i hok;have hlen:l.length=ops.toList.length:=(zyG hl).1;have hwl:∀d∈l.filterMap (fun p=>wrOf p.2),c.kp d=false:=by
    intro d hd;split at htr
    ·split at htr
     ·split at htr
      ·cases htr;exact hw d hd
      ·split at htr
       ·cases htr;exact hw d hd
       ·cases htr;exact hw d hd
     ·exact hw d (yJn hlen htr d hd)
    ·split at htr<;> · cases htr;exact hw d hd
   have hdst:∀o∈ops.toList,∀d,o.dst=some d→c.D d:=by intro o ho d hd;simp only[okDst,List.all_eq_true]at hok;have:=hok o ho;exact⟨by simpa[hd]using this,hwl d (yKe hl ho hd)⟩
   split at htr
   ·rename_i hdr;subst hdr;split at htr
    ·rename_i hdok;simp only[Bool.and_eq_true]at hdok;replace hdok:=hdok.1;split at htr
     ·cases htr;obtain⟨B,hB,hq⟩:=hq;obtain⟨S1,ρ1,h1⟩:=h.frzBox hB;exact zVu hG hC hT hm hl hdst hdok hF m R hQ h1 hq
     ·split at htr
      ·cases htr;exact yZ4 hG hC hT hm hl (fun o ho d hd=>⟨hdst o ho d hd,yKe hl ho hd⟩) hwl hdok hF m R hQ h hq
      ·cases htr;exact zVu hG hC hT hm hl hdst hdok hF m R hQ h hq
    ·exact yjx hG hC hT hm hl hdst htr hF m R hQ h hq
   ·rename_i hdr;have:draw=false:=by simpa using hdr
    subst this;split at htr
    ·cases htr;obtain⟨s,⟨ps,hps,_⟩,hq⟩:=hq;obtain⟨ρ1,h1⟩:=zZr h hps;refine wpIn_region ?_;rw[List.range_eq_range'];exact yzg hG hC hT hl hdst hF m R hQ ops.size 0 (by omega) h1 hq
    ·cases htr;refine wpIn_region ?_;rw[List.range_eq_range'];exact yzg hG hC hT hl hdst hF m R hQ ops.size 0 (by omega) h hq
  ·cases htr
theorem zqN{P G N}(hG:E.G=G)(hC:∀f args r,E.C f args r→Ev P G f args r)(hIt:∀f caps xs,E.It f caps xs→ItOk P G f caps xs)(hT:∀t ty,T t=some ty→chkTy P t ty=true)(hm:P.follows .mixedOrders=true):
  ∀(cd) (ac),tr T N cd=some ac→∀ro:Option Nat,(ro.isSome=true→ac.noRng=true)→Sound E P G N cd ac ro:=by
 intro cd;induction cd with
 |skip=>intro ac htr ro hro m c hcP hcG hcN hw Q R hR st tmps w S ρ h hq;cases htr;exact wpIn_skip (hR c (Ext.refl c) (fun _=>rfl) .normal _ _ _ _ _ h hq)
 |region id ops draw=>
  intro ac htr ro hro m c hcP hcG hcN hw Q R hR st tmps w S ρ h hq;subst hcP;subst hcG;subst hcN;refine yk2 hG hC hT hm htr hw (FR.fw ro) m ?_ h hq
  rintro⟨tm,ds⟩ w ⟨hd,st',S',ρ',h',hq'⟩
  simp only at hd;subst hd;exact hR c (Ext.refl c) (fun _=>rfl) .normal _ _ _ _ _ h' hq'
 |seq x y ihx ihy=>
  intro ac htr ro hro m c hcP hcG hcN hw Q R hR st tmps w S ρ h hq;simp only[tr,Option.bind_eq_bind,Option.pure_def,Option.bind_eq_some_iff,Option.some.injEq]at htr;obtain⟨a1,h1,a2,h2,rfl⟩:=htr;simp only[AC.noRng,Bool.and_eq_true]at hro;refine wpIn_seq (ihx a1 h1 ro (fun hs=>(hro hs).1) m (c:=c) hcP hcG hcN (fun d hd=>hw d (List.mem_append_left _ hd)) (Q:=seqK (awp E a2 Q) Q) ?_ h hq);intro c' hc' hcc e s tm w' S' ρ' hs hk;cases e with
  |normal=>
   refine ihy a2 h2 ro (fun hs=>(hro hs).2) m (c:=c') (by obtain⟨_,_,rfl,_⟩:=hc';exact hcP) (by obtain⟨_,_,rfl,_⟩:=hc';exact hcG) (by obtain⟨_,_,rfl,_⟩:=hc';exact hcN)
    (fun d hd=>by obtain⟨_,_,rfl,_⟩:=hc';exact hw d (List.mem_append_right _ hd)) ?_ hs hk
   intro c2 hc2 hcc2;exact hR c2 (hc'.trans hc2) (fun hs=>(hcc2 hs).trans (hcc hs))
  |exit i=>exact hR c' hc' hcc (.exit i) _ _ _ _ _ hs hk
  |ret=>exact hR c' hc' hcc .ret _ _ _ _ _ hs hk
 |cond x a b iha ihb=>
  intro ac htr ro hro m c hcP hcG hcN hw Q R hR st tmps w S ρ h hq;simp only[tr,Option.bind_eq_bind,Option.pure_def,Option.bind_eq_some_iff,Option.some.injEq]at htr;obtain⟨x',hx,a1,h1,a2,h2,rfl⟩:=htr;simp only[AC.noRng,Bool.and_eq_true]at hro;simp only[awp]at hq;split at hq
  ·rename_i p hp;have hev:=h.ev (ds:=c.ds) hx hq.1;rw[hp]at hev;simp only[RepA,Rep]at hev;exact wpIn_cond_split hev (fun ht=>iha a1 h1 ro (fun hs=>(hro hs).1) m hcP hcG hcN (fun d hd=>hw d (List.mem_append_left _ hd)) hR h (hq.2.1 ht))
    (fun ht=>ihb a2 h2 ro (fun hs=>(hro hs).2) m hcP hcG hcN (fun d hd=>hw d (List.mem_append_right _ hd)) hR h (hq.2.2 ht))
  ·exact hq.elim
 |block id x ih=>
  intro ac htr ro hro m c hcP hcG hcN hw Q R hR st tmps w S ρ h hq;simp only[tr,Option.bind_eq_bind,Option.pure_def,Option.bind_eq_some_iff,Option.some.injEq]at htr;obtain⟨a1,h1,rfl⟩:=htr;refine wpIn_block (ih a1 h1 ro hro m (c:=c) hcP hcG hcN hw (Q:=blockK id Q) ?_ h hq);intro c' hc' hcc e s tm w' S' ρ' hs hk;cases e with
  |normal=>exact hR c' hc' hcc .normal _ _ _ _ _ hs hk
  |exit i=>
   simp only[blockK]at hk;simp only[AX.out,Exit.inBlock];split at hk
   ·rename_i hi;rw[if_pos hi];exact hR c' hc' hcc .normal _ _ _ _ _ hs hk
   ·rename_i hi;rw[if_neg hi];exact hR c' hc' hcc (.exit i) _ _ _ _ _ hs hk
  |ret=>exact hR c' hc' hcc .ret _ _ _ _ _ hs hk
 |scope x ih=>intro ac htr ro hro m c hcP hcG hcN hw Q R hR st tmps w S ρ h hq;simp only[tr,Option.bind_eq_bind,Option.pure_def,Option.bind_eq_some_iff,Option.some.injEq]at htr;obtain⟨a1,h1,rfl⟩:=htr;refine zWO (ih a1 h1 ro hro m (c:=c) hcP hcG hcN hw (Q:=Q) ?_ h hq);intro c' hc' hcc e s tm w' S' ρ' hs hk;have:=hR c' hc' hcc e _ _ _ _ _ hs hk;cases e<;>exact this
 |label l=>intro ac htr ro hro m c hcP hcG hcN hw Q R hR st tmps w S ρ h hq;cases htr;exact wpIn_label (hR c (Ext.refl c) (fun _=>rfl) .normal _ _ _ _ _ h hq)
 |loop x ih=>
  intro ac htr ro hro m c hcP hcG hcN hw Q R hR st tmps w S ρ h hq;simp only[tr,Option.bind_eq_bind,Option.pure_def,Option.bind_eq_some_iff,Option.some.injEq]at htr;obtain⟨a1,h1,rfl⟩:=htr;refine zWd ?_;have key:=hq (fun s=>∀c',Ext c c'→(ro.isSome=true→c'=c)→∀(tm:Array Value) (w:World) (S:Safe) (ρ:Rho),Sim c' s tm w S ρ→Inside (FR ro) m P x R ⟨tm,c'.ds⟩ w) ?_
  ·exact key c (Ext.refl c) (fun _=>rfl) _ _ _ _ h
  ·intro s s1 he hb c' hc' hcc tm w' S' ρ' hs;obtain⟨ρ1,hs1⟩:=Ent.sound hs he;refine zYS (ih a1 h1 ro hro m (c:=c') (by obtain⟨_,_,rfl,_⟩:=hc';exact hcP) (by obtain⟨_,_,rfl,_⟩:=hc';exact hcG) (by obtain⟨_,_,rfl,_⟩:=hc';exact hcN)
    (fun d hd=>by obtain⟨_,_,rfl,_⟩:=hc';exact hw d hd) (Q:=seqK _ Q) ?_ hs1 hb)
   intro c2 hc2 hcc2 e s2 tm2 w2 S2 ρ2 hs2 hk;cases e with
   |normal=>exact hk c2 (hc'.trans hc2) (fun h=>(hcc2 h).trans (hcc h)) tm2 w2 S2 ρ2 hs2
   |exit i=>exact hR c2 (hc'.trans hc2) (fun h=>(hcc2 h).trans (hcc h)) (.exit i) _ _ _ _ _ hs2 hk
   |ret=>exact hR c2 (hc'.trans hc2) (fun h=>(hcc2 h).trans (hcc h)) .ret _ _ _ _ _ hs2 hk
 |exit id=>intro ac htr ro hro m c hcP hcG hcN hw Q R hR st tmps w S ρ h hq;cases htr;exact wpIn_exit (hR c (Ext.refl c) (fun _=>rfl) (.exit id) _ _ _ _ _ h hq)
 |ret=>intro ac htr ro hro m c hcP hcG hcN hw Q R hR st tmps w S ρ h hq;cases htr;exact wpIn_ret (hR c (Ext.refl c) (fun _=>rfl) .ret _ _ _ _ _ h hq)
 |rangeFunc g ps assign body iha ihb=>
  intro ac htr ro hro m c hcP hcG hcN hw Q R hR st tmps w S ρ h hq;simp only[tr,Option.bind_eq_bind,Option.bind_eq_some_iff]at htr;obtain⟨g',hg',a,ha,b,hb,htr⟩:=htr;split at htr
  ·rename_i hck;simp only[Bool.and_eq_true,List.all_eq_true,decide_eq_true_eq]at hck;cases htr;simp only[AC.noRng]at hro;have hro':ro=none:=by cases ro with|none=>rfl|some l=>exact absurd (hro rfl) (by simp)
   subst hro';simp only[awp]at hq;split at hq
   ·rename_i f caps hv;obtain⟨hgd,xs,hxs,hL⟩:=hq;exact yWD hIt hg' (fun l=>iha a ha (some l) fun _=>hck.1.1) (fun l=>ihb b hb (some l) fun _=>hck.1.2) hck.2 m hcP hcG hcN (fun c' hc'=>hR c' hc' (fun h=>by cases h)) h hv hgd hxs hL
   ·exact hq.elim
  ·cases htr
 |_=>intro ac htr;cases htr
end Go.Abs
end
section
namespace Go.Abs
open Go.RowKit
variable{c:Ctx}{st:St}{tmps:Array Value}{w:World}{S:Safe}{ρ:Rho}{E:AEnv}{T:Nat→Option Ty}
def rvRun(tmps:Array Value):ResultVar→Sem Value
 |.tmp t=>pure (tmps.getD t undef)
 |.cell a t=>do loadVar t (←asAddr (tmps.getD a undef))
theorem zvh(fn)(tmps:Array Value):results fn tmps=(do
  let vs←fn.results.mapM (rvRun tmps)
  pure (if h:vs.size=1 then vs[0]else .tuple vs)):=rfl
theorem zjP(h:Sim c st tmps w S ρ)(hT:∀t ty,T t=some ty→chkTy c.P t ty=true){rv x}(htr:trRes T rv=some x){a}(ha:resAV st x=some a):
  ∃v,(rvRun tmps rv).run c.P w=.ok v w∧RepA w S ρ a v:=by
 cases rv with
 |tmp t=>cases htr;cases ha;exact⟨_,rfl,h.slots t⟩
 |cell s t=>
  simp only[trRes,Option.bind_eq_bind,Option.pure_def,Option.bind_eq_some_iff,Option.some.injEq]at htr;obtain⟨ty,hty,rfl⟩:=htr;simp only[resAV]at ha;split at ha
  ·rename_i k off hk;split at ha
   ·rename_i cs hcs;cases ha;have hsl:=h.slots s;rw[hk]at hsl;obtain⟨b,hb,hv⟩:=hsl;unfold rdMem at hcs;split at hcs
    ·rename_i bx hbx;split at hcs
     ·rename_i hlt;cases hcs;obtain⟨b',vs,e,h1,h2,h3,h4,h6⟩:=h.mem k bx hbx (h.noMp hb hbx);obtain rfl:=Option.some.inj (hb.symm.trans h1);have hlen:=RepAs.length h4;have hra:=RepAs.take (tySize ty) (RepAs.drop off h4);obtain⟨v,hrun,hv2⟩:=yzC (w:=w) (hT _ _ hty) (b:=b) (o:=off) (l:=(vs.toList.drop off).take (tySize ty)) (by simp at hlen⊢;omega) (fun j v hj=>by
       rw[List.getElem?_take]at hj;split at hj
       ·simp only[List.getElem?_drop]at hj;simp[World.cell?,h3];simpa using hj
       ·cases hj)
      refine⟨v,by simp only[rvRun,hv];simp[asAddr,hrun],?_⟩;cases hag:tyAgg ty with
      |true=>simp only[hag,if_true]at hv2;subst hv2;exact⟨_,rfl,by simpa using hra⟩
      |false=>
       simp only[hag,Bool.false_eq_true,if_false]at hv2;rw[hv2]at hra;generalize hcc:(bx.drop off).take (tySize ty)=cc at hra;cases cc with
       |nil=>simp[RepAs]at hra
       |cons a0 r0=>obtain⟨v',r',q1,q2,q3⟩:=hra;cases q1;exact q2
     ·cases hcs
    ·cases hcs
   ·cases ha
  ·cases ha
theorem zZV(h:Sim c st tmps w S ρ)(hT:∀t ty,T t=some ty→chkTy c.P t ty=true){S'}(hk:∀(a) (v),RepA w S ρ a v→RepA w S' ρ a v)(hth:Through w S' ρ st.mem):∀{rvs:List ResultVar} {rs} {l},rvs.mapM (trRes T)=some rs→resCVs st rs=some l→
  ∃vs,(rvs.mapM (rvRun tmps)).run c.P w=.ok vs w∧RepCL w S' l vs
 |[],rs,l,htr,hl=>by simp at htr;subst htr;simp only[resCVs,Option.some.injEq]at hl;subst hl;exact⟨[],by simp,rfl⟩
 |rv::rvs,rs,l,htr,hl=>by
  simp only[List.mapM_cons,Option.bind_eq_bind,Option.bind_eq_some_iff,Option.pure_def,Option.some.injEq]at htr;obtain⟨x,hx,xs,hxs,rfl⟩:=htr;simp only[resCVs]at hl;split at hl
  ·rename_i y ys hy hys;cases hl;unfold resCV at hy;split at hy
   ·rename_i a ha;obtain⟨v,hrun,hrep⟩:=zjP h hT hx ha;obtain⟨vs,hrun2,hrep2⟩:=zZV h hT hk hth hxs hys;refine⟨v::vs,?_,⟨v,vs,rfl,ywn hth 4 (hk a v hrep) hy,hrep2⟩⟩;simp only[List.mapM_cons,Sem.run_bind,hrun,Result.andThen_ok,hrun2,Sem.run_pure]
   ·cases hy
  ·cases hl
theorem yZ6{st x r}(h:resCV st x=some r):resCVs st [x]=some [r]:=by simp[resCVs,h]
theorem yy5{st}:∀{rs} {l},resCVs st rs=some l→l.length=rs.length
 |[],l,h=>by simp only[resCVs,Option.some.injEq]at h;subst h;rfl
 |x::xs,l,h=>by
  simp only[resCVs]at h;split at h
  ·cases h;simp[yy5 ‹_›]
  ·cases h
theorem zKp:∀{args} {vs} {k},RepCL w S args vs→∀j,RepA w S ρ (getS (initSlots k args) j) (if j<k then undef else vs.getD (j-k) undef)∨getS (initSlots k args) j=.undef
 |[],vs,k,h,j=>.inr rfl
 |x::xs,_,k,⟨v,r,h,h1,h2⟩,j=>by
  subst h;simp only[initSlots,getS];by_cases hj:k=j
  ·subst hj;rw[if_pos rfl];left;simpa using RepC.toAV h1
  ·rw[if_neg hj];rcases zKp (k:=k+1) h2 j with h3|h3
   ·by_cases hjk:j<k
    ·right;have:∀(args:List CV) (k j:Nat),j<k→getS (initSlots k args) j=.undef:=by
      intro args;induction args with
      |nil=>intro k j _;rfl
      |cons a as ih=>intro k j hjk;simp only[initSlots,getS];rw[if_neg (by omega)];exact ih (k+1) j (by omega)
     exact this xs (k+1) j (by omega)
    ·left;rw[if_neg (by omega)]at h3;rw[if_neg hjk];have e:j-k=(j-(k+1))+1:=by omega
     rw[e];simpa using h3
   ·exact .inr h3
theorem RepCL.length:∀{as} {l},RepCL w S as l→l.length=as.length
 |[],_,h=>by simp only[RepCL]at h;subst h;rfl
 |_::_,_,⟨v,r,h,_,h2⟩=>by subst h;simp[RepCL.length h2]
theorem Sim.shut(h:Sim c st tmps w S ρ){D}(hob:(D,Obj.deferred (some []))∈c.ob)(hl:c.w0.heap.size≤D):Sim {c with ob:=c.ob.filter (fun p=>!(p.1==D))} st tmps (w.putObj D (.deferred none)) S ρ:=by
 have h0:=h.obs _ hob;have h1:Sim {c with ob:=(D,.deferred (some []))::c.ob.filter (fun p=>!(p.1==D)),ds:=c.ds} st tmps w S ρ:=h.reob (fun p hp=>by
  simp only[List.mem_cons]at hp;rcases hp with rfl|hp
  ·exact h0
  ·exact h.obs p (List.mem_filter.1 hp).1)
 have h2:=Sim.putObj (o':=.deferred none) (ds':=c.ds) h1 rfl rfl (.inl hl) (fun p hp=>by simpa using(List.mem_filter.1 hp).2);exact h2.reob (fun p hp=>h2.obs p (by simp[hp]))
theorem zj6{fn R P}(hfin:∀(c') (w'),c'.P=c.P→c'.G=c.G→c'.w0=c.w0→c'.S0=c.S0→c'.X=c.X→c'.kx=c.kx→c'.pin=c.pin→c'.mpin=c.mpin→Sim c' st tmps w' S ρ→∃v,(results fn tmps).run P w'=.ok v w'∧R (.returned v) w'):
  ∀(Ds:List Nat) {ob} {w},Ds.Nodup→(∀D∈Ds,(D,Obj.deferred (some []))∈ob)→(∀D∈Ds,c.w0.heap.size≤D)→Sim {c with ob:=ob} st tmps w S ρ→LeavesInM Fence.wide 0 P fn tmps R (Ds.map markOf) .returning w
 |[],ob,w,_,_,_,h=>hfin {c with ob:=ob} _ rfl rfl rfl rfl rfl rfl rfl rfl h
 |D::Ds,ob,w,hn,hm,hb,h=>by obtain⟨hn1,hn2⟩:=List.nodup_cons.1 hn;have hk:=(h.obs _ (hm D (by simp))).1;refine⟨by simp,.inl ⟨D,_,rfl,run_takeDeferred hk,?_⟩⟩;refine zj6 hfin Ds hn2 (fun D' hD'=>List.mem_filter.2 ⟨hm D' (by simp[hD']),by simp;rintro rfl;exact hn1 hD'⟩) (fun D' hD'=>hb D' (by simp[hD'])) (h.shut (hm D (by simp)) (hb D (by simp)))
def GivesO(P:Program)(w:World)(S:Safe)(X:List Nat)(sz:Nat)(es:List (List D)):Ending→World→Prop:=fun e w'=>∃v S',e=.returned v∧Rep w' S' (.lst es) v∧(∀e∈es,e.length=sz)∧Room (OwnX P w X) w' S' sz v∧BelowO (OwnX P w X) w w'∧Keeps w S w' S'∧(∀b o,S' b o→S b o∨OwnX P w X b)∧Live w' S'
theorem Ctx.xzv{c:Ctx}{P w X}(h1:c.P=P)(h2:c.w0=w)(h3:c.X=X):c.Own=OwnX P w X:=by
 subst h1 h2 h3;rfl
theorem ywF{P G w S N fn rs X sz es}{T:Nat→Option Ty}(hT:∀t ty,T t=some ty→chkTy P t ty=true)(hrs:fn.results.toList.mapM (trRes T)=some rs)
  {c'} (hc:Ext {P:=P,G:=G,w0:=w,S0:=S,N:=N,X:=X,kx:=some (w,S)} c') {st} {tmps} {w'} {S'} {ρ'} (hs:Sim c' st tmps w' S' ρ') (hret:retOwn st sz es rs):LeavesInM Fence.wide 0 P fn tmps (GivesO P w S X sz es) c'.ds .returning w':=by
 obtain⟨ob',Ds,rfl,h1,h2,h3,h4⟩:=hc;simp only[List.append_nil];refine zj6 (c:={P:=P,G:=G,w0:=w,S0:=S,N:=N,X:=X,kx:=some (w,S),ds:=(Ds.map markOf)}) ?_ Ds (ob:=ob') h1 h2 (fun D hD=>h4 _ (h2 D hD)) (by simpa using hs);intro c2 w2 e1 e2 e3 e4 e5 e6 _ _ hs;simp only at e1 e2 e3 e4 e5 e6;have hown:=Ctx.xzv e1 e3 e5;cases rs with
 |nil=>exact hret.elim
 |cons x rs=>
 cases rs with
 |cons y rs=>exact hret.elim
 |nil=>
 have hone:∃rv,fn.results.toList=[rv]∧trRes T rv=some x:=by
  generalize fn.results.toList=l at hrs;cases l with
  |nil=>simp at hrs
  |cons rv l=>
   simp only[List.mapM_cons,Option.bind_eq_bind,Option.bind_eq_some_iff,Option.pure_def,Option.some.injEq]at hrs;obtain⟨x',hx,xs,hxs,hrs⟩:=hrs;cases hrs;cases l with
   |nil=>exact⟨rv,rfl,hx⟩
   |cons rv2 l=>simp only[List.mapM_cons,Option.bind_eq_bind,Option.bind_eq_some_iff,Option.pure_def,Option.some.injEq]at hxs;obtain⟨_,_,_,_,hxs⟩:=hxs;cases hxs
 obtain⟨rv,hrv,htx⟩:=hone;have hfin:∀v,(rvRun tmps rv).run c2.P w2=.ok v w2→(results fn tmps).run P w2=.ok v w2:=by
  intro v hrun;have hrun:(rvRun tmps rv).run P w2=.ok v w2:=by rw[←e1];exact hrun
  rw[zvh,Array.mapM_eq_mapM_toList,hrv];simp only[List.mapM_cons,List.mapM_nil,Sem.run_bind,Sem.run_map,hrun];simp
 have hrest:BelowO (OwnX P w X) w w2∧Keeps w S w2 S'∧(∀b o,S' b o→S b o∨OwnX P w X b)∧Live w2 S':=by
  refine⟨?_,hs.keeps (w,S) e6,fun b o hso=>?_,hs.live⟩
  ·have:=hs.below;unfold BelowC at this;rw[hown,e3]at this;exact this
  ·have:=hs.new b o hso;rw[hown,e4]at this;exact this
 simp only[retOwn]at hret;split at hret
 ·rename_i t sz' es' ha;obtain⟨rfl,rfl,ht⟩:=hret;obtain⟨v,hrun,hl,hlen,base,n,cap,htok,hv⟩:=zjP hs (e1▸hT) htx ha;refine⟨v,hfin v hrun,v,S',rfl,hl,hlen,⟨base,n,cap,hv,?_⟩,hrest⟩;obtain⟨y,g1,g2⟩:=hs.tok t ht;rw[htok]at g1;cases g1;rcases g2 with g2|⟨b,k0,k1,k2,k3,k4,k5,k6,k7⟩
  ·exact .inl g2
  ·exact .inr ⟨b,k0,hown▸k1,k2,k3,k4,k5⟩
 ·rename_i es' ha;obtain⟨rfl,hlen⟩:=hret;obtain⟨v,hrun,hl,base,n,hv⟩:=zjP hs (e1▸hT) htx ha;exact⟨v,hfin v hrun,v,S',rfl,hl,hlen,⟨base,n,n,hv,.inl rfl⟩,hrest⟩
 ·exact hret.elim
def Gives(w:World)(S:Safe)(r:CV):Ending→World→Prop:=fun e w'=>∃v S',e=.returned v∧RepC w' S' r v∧Below w.heap.size w w'∧(∀b o,S b o→S' b o)∧(∀b o,S' b o→S b o∨w.heap.size≤b)∧Live w' S'
theorem zJE{P G w S N fn rs r}{T:Nat→Option Ty}(hT:∀t ty,T t=some ty→chkTy P t ty=true)(hrs:fn.results.toList.mapM (trRes T)=some rs)
  {c'} (hc:Ext {P:=P,G:=G,w0:=w,S0:=S,N:=N} c') {st} {tmps} {w'} {S'} {ρ'} (hs:Sim c' st tmps w' S' ρ') (hret:retOk st r rs):LeavesInM Fence.wide 0 P fn tmps (Gives w S r) c'.ds .returning w':=by
 obtain⟨ob',Ds,rfl,h1,h2,h3,h4⟩:=hc;simp only[List.append_nil];refine zj6 (c:={P:=P,G:=G,w0:=w,S0:=S,N:=N,ds:=(Ds.map markOf)}) ?_ Ds (ob:=ob') h1 h2 (fun D hD=>h4 _ (h2 D hD)) (by simpa using hs);intro c2 w2 e1 e2 e3 e4 e5 _ _ _ hs;obtain⟨S2,e1',e2',e3',e4',e5'⟩:=hs.close;simp only at e1 e2 e3 e4;have hl:∃l,resCVs st rs=some l∧((∃y,rs=[y]∧l=[r])∨(rs.length≠1∧r=.tup l)):=by
  unfold retOk at hret;split at hret
  ·rename_i y;exact⟨[r],yZ6 hret,.inl ⟨y,rfl,rfl⟩⟩
  ·rename_i hne;split at hret
   ·rename_i l hl;refine⟨l,hl,.inr ⟨fun h1=>?_,hret⟩⟩;obtain⟨y,hy⟩:=List.length_eq_one_iff.1 h1;exact hne y hy
   ·exact hret.elim
 obtain⟨l,hl,hcase⟩:=hl;obtain⟨vs,hrun,hrep⟩:=zZV hs (e1▸hT) e4' e5' hrs hl;rw[e1]at hrun;have hvl:=RepCL.length hrep;have hll:=yy5 hl;have hrun':(results fn tmps).run P w2=.ok (if h:vs.toArray.size=1 then vs.toArray[0]else .tuple vs.toArray) w2:=by rw[zvh,Array.mapM_eq_mapM_toList];have hrunP:(fn.results.toList.mapM (rvRun tmps)).run P w2=.ok vs w2:=hrun;simp only[Sem.run_bind,Sem.run_map,hrunP];simp
 have hbel:Below w.heap.size w w2:=by have:=hs.below.below e5;rwa [e3]at this
 refine⟨_,hrun',_,S2,rfl,?_,hbel,fun b o hso=>e1' b o (hs.old b o (e4▸hso)),fun b o hso=>?_,e3'⟩
 ·rcases hcase with⟨y,hy,hlr⟩|⟨hne,hr'⟩
  ·subst hlr;obtain⟨v,r',q1,q2,q3⟩:=hrep;simp only[RepCL]at q3;subst q3;subst q1;simpa using q2
  ·rw[dif_neg (by simp;omega),hr'];exact⟨_,rfl,by simpa using hrep⟩
 ·rcases e2' b o hso with h1|h1
  ·rcases hs.new b o h1 with h2|h2
   ·exact .inl (e4▸h2)
   ·exact .inr (e3▸Ctx.zVm e5 h2)
  ·exact .inr (e3▸Ctx.zVm e5 h1)
theorem zKq{P G w S}{fn:Func}{args cargs}(hn:args.length≤fn.ntmps)(hlive:Live w S)(hglob:GlobOk P G w S)(hargs:RepCL w S args cargs.toList):
  Sim {P:=P,G:=G,w0:=w,S0:=S,N:=fn.ntmps} ⟨initSlots 0 args,[],[]⟩ (cargs++Array.replicate (fn.ntmps-cargs.size) undef) w S ⟨fun _=>none,fun _=>none,fun _=>none⟩:=by
 have hlen:=RepCL.length hargs
 simp only[Array.length_toList]at hlen
 refine{size:=by simp;omega,slots:=fun k=>?_,mem:=fun s cs hs=>(by simp[getM]at hs),inj:=fun s s' b hs=>(by cases hs),boxNew:=fun _ _=>rfl,mps:={at':=fun s k e kvs hs=>(by simp[getM]at hs),inj:=fun s s' b hs=>(by cases hs),new:=fun _ _=>rfl,lt:=fun s b hs=>(by cases hs),apart:=fun s b hs=>(by cases hs)},tok:=fun t ht=>(by simp[getT]at ht),tokNew:=fun _ _=>rfl,
        below:=BelowO.refl _,old:=fun _ _ hs=>hs,new:=fun _ _ hs=>.inl hs,live:=hlive,glob:=hglob.1,ex:=hglob.2,fx:=fun k hk=>(by cases hk),obs:=fun p hp=>(by cases hp),keeps:=fun p hp=>(by cases hp),pins:=Pins.nil rfl rfl}
 rcases zKp (ρ:=⟨fun _=>none,fun _=>none,fun _=>none⟩) (k:=0) hargs k with h1|h1
 ·rw[if_neg (by omega)]at h1
  have:(cargs++Array.replicate (fn.ntmps-cargs.size) undef).getD k undef=cargs.toList.getD (k-0) undef:=by
   simp only[Array.getD_eq_getD_getElem?,Nat.sub_zero,List.getD_eq_getElem?_getD,Array.getElem?_toList]
   by_cases hk:k<cargs.size
   ·rw[Array.getElem?_append_left hk]
   ·have hnone:cargs[k]? =none:=Array.getElem?_eq_none (by omega)
    rw[Array.getElem?_append_right (by omega),hnone]
    by_cases hk2:k-cargs.size<fn.ntmps-cargs.size
    ·simp[hk2]
    ·simp[hk2]
  rw[this];exact h1
 ·rw[h1];trivial
theorem yXB{P G w S}{fn:Func}{args cargs X sz a}(hn:args.length≤fn.ntmps)(hlive:Live w S)(hglob:GlobOk P G w S)(hargs:RepCL w S args cargs.toList)(hX:TakesX P w S X args cargs.toList sz a):
  ∃ρ,Sim {P:=P,G:=G,w0:=w,S0:=S,N:=fn.ntmps,X:=X,kx:=some (w,S)} (initO args sz a) (cargs++Array.replicate (fn.ntmps-cargs.size) undef) w S ρ:=by
 have h0:=zKq hn hlive hglob hargs;have h1:Sim {P:=P,G:=G,w0:=w,S0:=S,N:=fn.ntmps,X:=X,kx:=some (w,S)} ⟨initSlots 0 args,[],[]⟩ (cargs++Array.replicate (fn.ntmps-cargs.size) undef) w S ⟨fun _=>none,fun _=>none,fun _=>none⟩:=
  {size:=h0.size,slots:=h0.slots,mem:=fun s cs hs=>(by simp[getM]at hs),inj:=fun s s' b hs=>(by cases hs),boxNew:=fun _ _=>rfl,mps:={at':=fun s k e kvs hs=>(by simp[getM]at hs),inj:=fun s s' b hs=>(by cases hs),new:=fun _ _=>rfl,lt:=fun s b hs=>(by cases hs),apart:=fun s b hs=>(by cases hs)},tok:=fun t ht=>(by simp[getT]at ht),tokNew:=fun _ _=>rfl,
   below:=BelowO.refl _,old:=fun _ _ hs=>hs,new:=fun _ _ hs=>.inl hs,live:=hlive,glob:=hglob.1,ex:=hglob.2,fx:=fun k hk=>(by cases hk),obs:=fun p hp=>(by cases hp),keeps:=fun p hp=>(by cases hp;exact Keeps.refl _ _),pins:=Pins.nil rfl rfl}
 cases a with
 |none=>exact⟨_,h1⟩
 |some k=>
  obtain⟨es,v,g1,g2,g3,base,n,cap,hv,hr⟩:=hX;obtain⟨ρ',hle,htok,hs⟩:=h1.newTok (d:=k) rfl none (tk':=[(k,true)]) (fun t=>by
   simp only[getT,reduceCtorEq,if_false];by_cases ht:k=t
   ·subst ht;simp
   ·rw[if_neg ht,if_neg (fun e=>ht e.symm)]) (base,n,cap,sz) (by
   rcases hr with hr|⟨b,k0,⟨k1,k1'⟩,k2,k3,k4,k5⟩
   ·exact .inl hr
   ·exact .inr ⟨b,k0,.inr ⟨by rw[k1];simp,k1'⟩,k2,k3,k4,k5,fun s hs=>(by cases hs),fun t b' y _ ht=>(by simp[getT]at ht)⟩)
  refine⟨ρ',?_⟩;have hk:args.getD k (.one .nilp)=.one (.lst es):=by simp[List.getD,g1]
  simp only[initO,hk];refine{hs with slots:=fun j=>?_};simp only[getS];by_cases hj:k=j
  ·subst hj;rw[if_pos rfl];have hval:(cargs++Array.replicate (fn.ntmps-cargs.size) undef).getD k undef=v:=by
    have g3':cargs[k]? =some v:=by simpa using g3
    have hlt:=(Array.getElem?_eq_some_iff.1 g3').1;rw[Array.getD_eq_getD_getElem?,Array.getElem?_append_left hlt,g3'];rfl
   rw[hval];have hrep:∀{args:List CV} {l:List Value} {k:Nat} {v:Value} {es:List (List D)},RepCL w S args l→args[k]? =some (.one (.lst es))→l[k]? =some v→Rep w S (.lst es) v:=by
    intro args;induction args with
    |nil=>intro l k v es _ h1;simp at h1
    |cons x xs ih=>
     intro l k v es ⟨v',r,e,q1,q2⟩ h1 h2;subst e;cases k with
     |zero=>simp at h1 h2;subst h1 h2;exact q1
     |succ k=>exact ih q2 (by simpa using h1) (by simpa using h2)
   exact⟨hrep hargs g1 g3,g2,base,n,cap,htok,hv⟩
  ·rw[if_neg hj];exact hs.slots j
def BodyD(E:AEnv)(f:FnA)(args:List CV)(r:CV):Prop:=args.length≤f.n∧awp E f.ac (retK f.rs r) ⟨initSlots 0 args,[],[]⟩
theorem yvR{P G f fn fa args a sz es}(hf:P.funcs[f]? =some fn)(htr:trFn T fn=some fa)
  (hC:∀f args r,E.C f args r→Ev P G f args r) (hIt:∀f caps xs,E.It f caps xs→ItOk P G f caps xs) (hG:E.G=G) (hT:∀t ty,T t=some ty→chkTy P t ty=true) (hm:P.follows .mixedOrders=true) (h:args.length≤fa.n∧awp E fa.ac (retKO fa.rs sz es) (initO args sz a)):EvOwn P G f args a sz es:=by
 simp only[trFn]at htr;split at htr
 ·cases htr
 ·rename_i hname;simp only[Option.bind_eq_bind,Option.pure_def,Option.bind_eq_some_iff,Option.some.injEq]at htr;obtain⟨cd,hcd,ac,hac,rs,hrs,rfl⟩:=htr;obtain⟨hn,hawp⟩:=h;simp only at hn hawp;refine⟨⟨fn,hf,by simpa using hname,by simp[hcd]⟩,?_⟩;intro w S cargs X hlive hglob hargs hX;obtain⟨ρ,hsim⟩:=yXB (P:=P) hn hlive hglob hargs hX;refine callsIn_wide.1 (callsIn_of_wp_marks (n:=0) (R:=GivesO P w S X sz es) hf hcd trivial ?_);refine zqN hG hC hIt hT hm cd ac hac none (fun h=>by cases h) 0 (c:={P:=P,G:=G,w0:=w,S0:=S,N:=fn.ntmps,X:=X,kx:=some (w,S)}) rfl rfl rfl (fun _ _=>rfl) ?_ hsim hawp;intro c' hc' _ x st tmps w' S' ρ' hs hr;cases x with
  |normal=>exact ywF hT hrs hc' hs hr
  |exit i=>exact hr.elim
  |ret=>exact ywF hT hrs hc' hs hr
theorem zWi{P G f fn fa args r}(hf:P.funcs[f]? =some fn)(htr:trFn T fn=some fa)
  (hC:∀f args r,E.C f args r→Ev P G f args r) (hIt:∀f caps xs,E.It f caps xs→ItOk P G f caps xs) (hG:E.G=G) (hT:∀t ty,T t=some ty→chkTy P t ty=true) (hm:P.follows .mixedOrders=true) (h:BodyD E fa args r):EvD P G f args r:=by
 simp only[trFn]at htr;split at htr
 ·cases htr
 ·rename_i hname;simp only[Option.bind_eq_bind,Option.pure_def,Option.bind_eq_some_iff,Option.some.injEq]at htr;obtain⟨cd,hcd,ac,hac,rs,hrs,rfl⟩:=htr;obtain⟨hn,hawp⟩:=h;simp only at hn hawp;refine⟨⟨fn,hf,by simpa using hname,by simp[hcd]⟩,?_⟩;intro w S cargs hlive hglob hargs;have hsim:=zKq (P:=P) hn hlive hglob hargs;refine callsIn_wide.1 (callsIn_of_wp_marks (n:=0) (R:=Gives w S r) hf hcd trivial ?_);refine zqN hG hC hIt hT hm cd ac hac none (fun h=>by cases h) 0 (c:={P:=P,G:=G,w0:=w,S0:=S,N:=fn.ntmps}) rfl rfl rfl (fun _ _=>rfl) ?_ hsim hawp;intro c' hc' _ x st tmps w' S' ρ' hs hr;cases x with
  |normal=>exact zJE hT hrs hc' hs hr
  |exit i=>exact hr.elim
  |ret=>exact zJE hT hrs hc' hs hr
theorem zWa(h:Sim c st tmps w S ρ)(hT:∀t ty,T t=some ty→chkTy c.P t ty=true):∀{rvs:List ResultVar} {rs} {l},rvs.mapM (trRes T)=some rs→resCVs0 st rs=some l→
  ∃vs,(rvs.mapM (rvRun tmps)).run c.P w=.ok vs w∧RepCL w S l vs
 |[],rs,l,htr,hl=>by simp at htr;subst htr;simp only[resCVs0,Option.some.injEq]at hl;subst hl;exact⟨[],by simp,rfl⟩
 |rv::rvs,rs,l,htr,hl=>by
  simp only[List.mapM_cons,Option.bind_eq_bind,Option.bind_eq_some_iff,Option.pure_def,Option.some.injEq]at htr;obtain⟨x,hx,xs,hxs,rfl⟩:=htr;simp only[resCVs0]at hl;split at hl
  ·rename_i y ys hy hys;cases hl;unfold resCV0 at hy;split at hy
   ·rename_i a ha;obtain⟨v,hrun,hrep⟩:=zjP h hT hx ha;obtain⟨vs,hrun2,hrep2⟩:=zWa h hT hxs hys;refine⟨v::vs,?_,⟨v,vs,rfl,ywn (m:=[]) zyp 1 hrep hy,hrep2⟩⟩;simp only[List.mapM_cons,Sem.run_bind,hrun,Result.andThen_ok,hrun2,Sem.run_pure]
   ·cases hy
  ·cases hl
theorem yjz{st x r}(h:resCV0 st x=some r):resCVs0 st [x]=some [r]:=by simp[resCVs0,h]
theorem yzz{st}:∀{rs} {l},resCVs0 st rs=some l→l.length=rs.length
 |[],l,h=>by simp only[resCVs0,Option.some.injEq]at h;subst h;rfl
 |x::xs,l,h=>by
  simp only[resCVs0]at h;split at h
  ·cases h;simp[yzz ‹_›]
  ·cases h
theorem RepCL.length':∀{as} {l},RepCL w S as l→l.length=as.length
 |[],_,h=>by simp only[RepCL]at h;subst h;rfl
 |_::_,_,⟨v,r,h,_,h2⟩=>by subst h;simp[RepCL.length' h2]
theorem Sim.toB{m1 t1 c tmps w S ρ}(h:Sim c ⟨[],m1,t1⟩ tmps w S ρ):Sim (ctxB c.P c.G c.w0 c.S0 c.X c.pin c.mpin c.kx) ⟨[],m1,t1⟩ #[] w S ρ:=
 {size:=rfl,slots:=fun _=>trivial,mem:=h.mem,inj:=h.inj,boxNew:=h.boxNew,mps:=h.mps,tok:=h.tok,tokNew:=h.tokNew,below:=h.below,old:=h.old,new:=h.new,live:=h.live,glob:=h.glob,ex:=h.ex,
  fx:=fun k hk=>(by cases hk),obs:=fun p hp=>(by cases hp),keeps:=h.keeps,pins:=⟨fun p hp=>⟨Nat.zero_le _,(h.pins.1 p hp).2⟩,fun p hp=>⟨Nat.zero_le _,(h.pins.2 p hp).2⟩⟩}
def GivesB(P:Program)(G:Nat→Option (List D))(w:World)(S:Safe)(X:List Nat)(pin mpin:List (Nat×Nat))(r:CV)(m1:Mem)(t1:List (Nat×Bool)):Ending→World→Prop:=fun e w'=>
 ∃v S' ρ',e=.returned v∧RepR w' S' ρ' r v∧Sim (ctxB P G w S X pin mpin (some (w,S))) ⟨[],m1,t1⟩ #[] w' S' ρ'
theorem ywE{P G w S N fn rs X pin mpin r m1 t1}{T:Nat→Option Ty}(hT:∀t ty,T t=some ty→chkTy P t ty=true)(hrs:fn.results.toList.mapM (trRes T)=some rs)
  {c'} (hc:Ext {P:=P,G:=G,w0:=w,S0:=S,N:=N,X:=X,pin:=pin,mpin:=mpin,kx:=some (w,S)} c') {st} {tmps} {w'} {S'} {ρ'} (hs:Sim c' st tmps w' S' ρ') (hret:retB st r m1 t1 rs):LeavesInM Fence.wide 0 P fn tmps (GivesB P G w S X pin mpin r m1 t1) c'.ds .returning w':=by
 obtain⟨ob',Ds,rfl,h1,h2,h3,h4⟩:=hc;simp only[List.append_nil];refine zj6 (c:={P:=P,G:=G,w0:=w,S0:=S,N:=N,X:=X,pin:=pin,mpin:=mpin,kx:=some (w,S),ds:=(Ds.map markOf)}) ?_ Ds (ob:=ob') h1 h2 (fun D hD=>h4 _ (h2 D hD)) (by simpa using hs);intro c2 w2 e1 e2 e3 e4 e5 e6 e7 e8 hs;simp only at e1 e2 e3 e4 e5 e6 e7 e8;unfold retB at hret;split at hret
 ·rename_i s ee off n cap;obtain⟨k,rfl,hent⟩:=hret;obtain⟨ρ1,hs1⟩:=hent.sound hs;have hs2:=Sim.toB (m1:=m1) (t1:=t1) {hs1 with slots:=fun _=>trivial};rw[e1,e2,e3,e4,e5,e6,e7,e8]at hs2;cases hrl:fn.results.toList with
  |nil=>rw[hrl]at hrs;simp at hrs
  |cons rv rvs=>
  rw[hrl]at hrs;simp only[List.mapM_cons,Option.bind_eq_bind,Option.bind_eq_some_iff,Option.pure_def,Option.some.injEq,List.cons.injEq]at hrs;obtain⟨x,hx,xs,hxs,rfl,rfl⟩:=hrs;have hnil:rvs=[]:=by
   cases rvs with
   |nil=>rfl
   |cons _ _=>simp[List.mapM_cons,Option.bind_eq_some_iff]at hxs
  subst hnil;obtain⟨v,hrun,hrep⟩:=zjP hs1 (e1▸hT) hx (a:=.vec s ee off n cap) (by simp[resAV,getS]);rw[e1]at hrun;refine⟨v,?_,v,_,ρ1,rfl,hrep,hs2⟩;rw[zvh,Array.mapM_eq_mapM_toList];simp only[hrl,List.mapM_cons,List.mapM_nil,Sem.run_bind,Sem.run_map];simp[hrun]
 rename_i hnvr;obtain⟨hret,hent⟩:=hret;have hl:∃l,resCVs0 st rs=some l∧((∃y,rs=[y]∧l=[r])∨(rs.length≠1∧r=.tup l)):=by
  split at hret
  ·rename_i y;exact⟨[r],yjz hret,.inl ⟨y,rfl,rfl⟩⟩
  ·rename_i hne;split at hret
   ·rename_i l hl;refine⟨l,hl,.inr ⟨fun h1=>?_,hret⟩⟩;obtain⟨y,hy⟩:=List.length_eq_one_iff.1 h1;exact hne y hy
   ·exact hret.elim
 obtain⟨l,hl,hcase⟩:=hl;obtain⟨vs,hrun,hrep⟩:=zWa hs (e1▸hT) hrs hl;rw[e1]at hrun;have hvl:=RepCL.length' hrep;have hll:=yzz hl;have hrun':(results fn tmps).run P w2=.ok (if h:vs.toArray.size=1 then vs.toArray[0]else .tuple vs.toArray) w2:=by rw[zvh,Array.mapM_eq_mapM_toList];have hrunP:(fn.results.toList.mapM (rvRun tmps)).run P w2=.ok vs w2:=hrun;simp only[Sem.run_bind,Sem.run_map,hrunP];simp
 obtain⟨ρ1,hs1⟩:=hent.sound hs;have hs2:=hs1.toB;rw[e1,e2,e3,e4,e5,e6,e7,e8]at hs2;refine⟨_,hrun',_,_,ρ1,rfl,?_,hs2⟩;rcases hcase with⟨y,hy,hlr⟩|⟨hne,hr'⟩
 ·subst hlr;obtain⟨v,r',q1,q2,q3⟩:=hrep;simp only[RepCL]at q3;subst q3;subst q1;cases r<;>first|(simpa[RepR]using q2)|exact absurd rfl (hnvr _ _ _ _ _)
 ·rw[dif_neg (by simp;omega),hr'];exact⟨_,rfl,by simpa using hrep⟩
theorem yko:∀{args} {vs} {k},RepAs w S ρ args vs→∀j,RepA w S ρ (getS (initA k args) j) (if j<k then undef else vs.getD (j-k) undef)∨getS (initA k args) j=.undef
 |[],vs,k,h,j=>.inr rfl
 |x::xs,_,k,⟨v,r,h,h1,h2⟩,j=>by
  subst h;simp only[initA,getS];by_cases hj:k=j
  ·subst hj;rw[if_pos rfl];left;simpa using h1
  ·rw[if_neg hj];rcases yko (k:=k+1) h2 j with h3|h3
   ·by_cases hjk:j<k
    ·right;have:∀(args:List AV) (k j:Nat),j<k→getS (initA k args) j=.undef:=by
      intro args;induction args with
      |nil=>intro k j _;rfl
      |cons a as ih=>intro k j hjk;simp only[initA,getS];rw[if_neg (by omega)];exact ih (k+1) j (by omega)
     exact this xs (k+1) j (by omega)
    ·left;rw[if_neg (by omega)]at h3;rw[if_neg hjk];have e:j-k=(j-(k+1))+1:=by omega
     rw[e];simpa using h3
   ·exact .inr h3
theorem yXA{P G w S}{fn:Func}{as cargs X pin mpin m0 t0 ρ}(hn:as.length≤fn.ntmps)(hN:fn.ntmps≤1000)
  (h:Sim (ctxB P G w S X pin mpin none) ⟨[],m0,t0⟩ #[] w S ρ) (hp:∀p∈pin,1000≤p.1) (hm:∀p∈mpin,1000≤p.1) (hargs:RepAs w S ρ as cargs.toList):
  Sim {P:=P,G:=G,w0:=w,S0:=S,N:=fn.ntmps,X:=X,pin:=pin,mpin:=mpin,kx:=some (w,S)} ⟨initA 0 as,m0,t0⟩ (cargs++Array.replicate (fn.ntmps-cargs.size) undef) w S ρ:=by
 have hlen:=RepAs.length hargs
 simp only[Array.length_toList]at hlen
 refine{size:=by simp;omega,slots:=fun k=>?_,mem:=h.mem,inj:=h.inj,boxNew:=h.boxNew,mps:=h.mps,tok:=h.tok,tokNew:=h.tokNew,below:=h.below,old:=h.old,new:=h.new,live:=h.live,glob:=h.glob,ex:=h.ex,
        fx:=fun k hk=>(by cases hk),obs:=fun p hp=>(by cases hp),keeps:=fun p hp=>(by cases hp;exact Keeps.refl _ _),pins:=⟨fun p hpp=>⟨Nat.le_trans hN (hp p hpp),(h.pins.1 p hpp).2⟩,fun p hpp=>⟨Nat.le_trans hN (hm p hpp),(h.pins.2 p hpp).2⟩⟩}
 rcases yko (ρ:=ρ) (k:=0) hargs k with h1|h1
 ·rw[if_neg (by omega)]at h1
  have:(cargs++Array.replicate (fn.ntmps-cargs.size) undef).getD k undef=cargs.toList.getD (k-0) undef:=by
   simp only[Array.getD_eq_getD_getElem?,Nat.sub_zero,List.getD_eq_getElem?_getD,Array.getElem?_toList]
   by_cases hk:k<cargs.size
   ·rw[Array.getElem?_append_left hk]
   ·have hnone:cargs[k]? =none:=Array.getElem?_eq_none (by omega)
    rw[Array.getElem?_append_right (by omega),hnone]
    by_cases hk2:k-cargs.size<fn.ntmps-cargs.size
    ·simp[hk2]
    ·simp[hk2]
  rw[this];exact h1
 ·rw[h1];trivial
theorem yvP{P G f fn fa as m0 t0 r m1 t1}(hf:P.funcs[f]? =some fn)(htr:trFn T fn=some fa)
  (hC:∀f args r,E.C f args r→Ev P G f args r) (hIt:∀f caps xs,E.It f caps xs→ItOk P G f caps xs) (hG:E.G=G) (hT:∀t ty,T t=some ty→chkTy P t ty=true) (hm:P.follows .mixedOrders=true)
  (h:as.length≤fa.n∧fa.n≤1000∧r.isOwn=false∧awp E fa.ac (retKB fa.rs r m1 t1) ⟨initA 0 as,m0,t0⟩):EvB P G f as m0 t0 r m1 t1:=by
 simp only[trFn]at htr;split at htr
 ·cases htr
 ·rename_i hname;simp only[Option.bind_eq_bind,Option.pure_def,Option.bind_eq_some_iff,Option.some.injEq]at htr;obtain⟨cd,hcd,ac,hac,rs,hrs,rfl⟩:=htr;obtain⟨hn,hN,_,hawp⟩:=h;simp only at hn hN hawp;refine⟨⟨fn,hf,by simpa using hname,by simp[hcd]⟩,?_⟩;intro w S cargs X pin mpin ρ hsim hp hmp _ _ hargs;have hs0:=yXA (fn:=fn) hn hN hsim hp hmp hargs;refine callsIn_wide.1 (callsIn_of_wp_marks (n:=0) (R:=GivesB P G w S X pin mpin r m1 t1) hf hcd trivial ?_);refine zqN hG hC hIt hT hm cd ac hac none (fun h=>by cases h) 0 (c:={P:=P,G:=G,w0:=w,S0:=S,N:=fn.ntmps,X:=X,pin:=pin,mpin:=mpin,kx:=some (w,S)}) rfl rfl rfl (fun _ _=>rfl) ?_ hs0 hawp;intro c' hc' _ x st tmps w' S' ρ' hs hr;cases x with
  |normal=>exact ywE hT hrs hc' hs hr
  |exit i=>exact hr.elim
  |ret=>exact ywE hT hrs hc' hs hr
theorem yZm{P G f fn fa args r}(hf:P.funcs[f]? =some fn)(htr:trFn T fn=some fa)
  (hC:∀f args r,E.C f args r→Ev P G f args r) (hIt:∀f caps xs,E.It f caps xs→ItOk P G f caps xs) (hG:E.G=G) (hT:∀t ty,T t=some ty→chkTy P t ty=true) (hm:P.follows .mixedOrders=true) (h:Body E fa args r):Ev P G f args r:=by
 cases r with
 |own a sz es=>exact yvR hf htr hC hIt hG hT hm h
 |one x=>exact zWi hf htr hC hIt hG hT hm h
 |agg x=>exact zWi hf htr hC hIt hG hT hm h
 |tup x=>exact zWi hf htr hC hIt hG hT hm h
 |bx=>exact yvP hf htr hC hIt hG hT hm h
 |vr=>exact h.elim
 |vc=>exact h.elim
end Go.Abs
end
section
namespace Go.Abs
open Go.RowKit
variable{c:Ctx}{st:St}{tmps:Array Value}{w:World}{S:Safe}{ρ:Rho}{T:Nat→Option Ty}
mutual
def AV.frz(s b:Nat):AV→AV
 |.ptr s' off=>if s'=s then .d (.gp b off)else .ptr s' off
 |.vec s' esz off n cap=>if s'=s then .undef else .vec s' esz off n cap
 |.agg cs=>.agg (AV.frzs s b cs)
 |.tup cs=>.tup (AV.frzs s b cs)
 |.clo f cs=>.clo f (AV.frzs s b cs)
 |.cond g a=>.cond g (AV.frz s b a)
 |a=>a
def AV.frzs(s b:Nat):List AV→List AV
 |[]=>[]
 |a::as=>AV.frz s b a::AV.frzs s b as
end
def frzSlots(s b:Nat):List (Nat×AV)→List (Nat×AV)
 |[]=>[]
 |(k,v)::r=>(k,AV.frz s b v)::frzSlots s b r
def frzMem(s b:Nat):Mem→Mem
 |[]=>[]
 |(k,cs)::r=>if k=s then frzMem s b r else(k,AV.frzs s b cs)::frzMem s b r
def St.frz(s b:Nat)(st:St):St:=⟨frzSlots s b st.slots,frzMem s b st.mem,st.tk⟩
def ext(G:Nat→Option (List D))(b:Nat)(ds:List D):Nat→Option (List D):=fun g=>if g=b then some ds else G g
def Gfree(G:Nat→Option (List D))(b:Nat):Prop:=∀cs,G b=some cs→cs=[]
def awpF(X:(Nat→Option (List D))→AEnv):List Nat→(Nat→Option (List D))→Nat→AC→(AX→St→Prop)→St→Prop
 |bs,G,n+1,.seq a b,Q,st=>awp (X G) a (seqK (awpF X bs G n b Q) Q) st
 |_,_,_+1,_,_,_=>False
 |[],G,0,ac,Q,st=>awp (X G) ac Q st
 |s::bs,G,0,ac,Q,st=>∀b,Gfree G b→∃cs ds,getM st.mem s=some cs∧toDs [] 2 (AV.frzs s b cs)=some ds∧awpF X bs (ext G b ds) 0 ac Q (st.frz s b)
def Rho.drop(ρ:Rho)(s:Nat):Rho:={ρ with box:=fun s'=>if s'=s then none else ρ.box s'}
mutual
theorem RepA.frz{s b:Nat}(hb:ρ.box s=some b):∀(a:AV) (v:Value),RepA w S ρ a v→RepA w S (ρ.drop s) (a.frz s b) v
 |.undef,_,_=>trivial
 |.d _,_,h=>h
 |.agg cs,_,⟨vs,h1,h2⟩=>⟨vs,h1,RepAs.frz hb cs _ h2⟩
 |.tup cs,_,⟨vs,h1,h2⟩=>⟨vs,h1,RepAs.frz hb cs _ h2⟩
 |.ptr s' off,v,⟨b',h1,h2⟩=>by
  simp only[AV.frz];by_cases he:s'=s
  ·rw[if_pos he];subst he;obtain rfl:=Option.some.inj (hb.symm.trans h1);exact h2
  ·rw[if_neg he];exact⟨b',by simp[Rho.drop,he,h1],h2⟩
 |.full _,_,h=>h
 |.own _ _ _,_,h=>h
 |.clo _ caps,_,⟨cs,h1,h2⟩=>⟨cs,h1,RepAs.frz hb caps _ h2⟩
 |.cond _ a,_,⟨h1,h2⟩=>⟨fun hg=>RepA.frz hb a _ (h1 hg),h2⟩
 |.mref _,_,h=>h
 |.mp _ _ _,_,h=>h
 |.zsl _ _,_,h=>h
 |.pnd _ _ _ _,_,h=>h
 |.eptr _ _,_,h=>h
 |.vec s' _ off _ _,v,⟨k1,k2,b',h1,h2⟩=>by
  simp only[AV.frz];by_cases he:s'=s
  ·rw[if_pos he];trivial
  ·rw[if_neg he];exact⟨k1,k2,b',by simp[Rho.drop,he,h1],h2⟩
theorem RepAs.frz{s b:Nat}(hb:ρ.box s=some b):∀(as:List AV) (vs:List Value),RepAs w S ρ as vs→RepAs w S (ρ.drop s) (AV.frzs s b as) vs
 |[],_,h=>h
 |a::as,_,⟨v,r,h1,h2,h3⟩=>⟨v,r,h1,RepA.frz hb a v h2,RepAs.frz hb as r h3⟩
end
theorem yqj(s b k):∀l:List (Nat×AV),getS (frzSlots s b l) k=(getS l k).frz s b
 |[]=>rfl
 |(j,v)::r=>by
  simp only[frzSlots,getS];split
  ·rfl
  ·exact yqj s b k r
theorem zKl(s b k):∀l:Mem,getM (frzMem s b l) k=if k=s then none else(getM l k).map (AV.frzs s b)
 |[]=>by simp[frzMem,getM]
 |(j,v)::r=>by
  have ih:=zKl s b k r;simp only[frzMem,getM];by_cases hj:j=s
  ·rw[if_pos hj,ih];by_cases hk:k=s
   ·rw[if_pos hk,if_pos hk]
   ·rw[if_neg hk,if_neg hk,if_neg (by omega)]
  ·rw[if_neg hj];simp only[getM];by_cases hjk:j=k
   ·rw[if_pos hjk,if_neg (by omega),if_pos hjk];rfl
   ·rw[if_neg hjk,ih,if_neg hjk]
theorem Pins.drop{c ρ}(h:Pins c ρ)(s):Pins c (ρ.drop s):=h.sub (fun s' b e=>by
 simp only[Rho.drop]at e;split at e
 ·cases e
 ·exact .inr e) (fun _ _ e=>.inr e)
theorem Sim.freeze(h:Sim c st tmps w S ρ){s cs}(hs:getM st.mem s=some cs):
  ∃b,Gfree c.G b∧∀ds,toDs [] 2 (AV.frzs s b cs)=some ds→∃S' ρ',Sim {c with G:=ext c.G b ds} (st.frz s b) tmps w S' ρ':=by
 cases hmp:isMp cs with
 |true=>
  refine⟨w.heap.size,fun cs' hg=>?_,fun ds hds=>?_⟩
  ·have:=h.glob _ cs' hg;cases cs' with
   |nil=>rfl
   |cons d ds=>obtain⟨⟨_,v,hv,_⟩,_⟩:=this;exact absurd (zyu hv) (by omega)
  ·obtain⟨k,e,kvs,rfl⟩:=zxX.1 hmp;simp[AV.frzs,AV.frz,toDs,AV.toD]at hds
 |false=>
 obtain⟨b,vs,e,h1,h2,h3,h4,h5⟩:=h.mem s cs hs hmp;refine⟨b,fun cs' hg=>?_,fun ds hds=>?_⟩
 ·have:=h.glob b cs' hg;cases cs' with
  |nil=>rfl
  |cons d ds=>exact absurd this.1.1 (h5 0)
 ·have hk:Keeps w S w (fun b' o=>S b' o∨(b'=b∧o<vs.size)):=fun b' o hs=>⟨.inl hs,rfl⟩;have up:∀{a:AV} {v:Value},RepA w S ρ a v→RepA w (fun b' o=>S b' o∨(b'=b∧o<vs.size)) (ρ.drop s) (a.frz s b) v:=fun hr=>RepA.frz h1 _ _ (RepA.keep hk ρ.le_refl _ _ hr);have ups:∀{as:List AV} {l:List Value},RepAs w S ρ as l→RepAs w (fun b' o=>S b' o∨(b'=b∧o<vs.size)) (ρ.drop s) (AV.frzs s b as) l:=fun hr=>RepAs.frz h1 _ _ (RepAs.keep hk ρ.le_refl _ _ hr);refine⟨fun b' o=>S b' o∨(b'=b∧o<vs.size),ρ.drop s,{size:=h.size,ex:=⟨h.ex.1,fun g cs' hg hG=>h.ex.2 g cs' hg (by have hg':g<c.P.globals.size:=hg;have:g≠b:=by{have:=h.ex.1;rcases h2 with h2|⟨_,h2⟩<;>omega};simpa[ext,this]using hG)⟩,slots:=fun k=>?_,mem:=?_,inj:=?_,boxNew:=?_,mps:=?_,tok:=?_,tokNew:=h.tokNew,below:=h.below,old:=fun b' o hs=>.inl (h.old b' o hs),new:=?_,live:=?_,glob:=?_,fx:=h.fx,obs:=h.obs,keeps:=fun p hp=>(h.keeps p hp).trans hk,pins:=Pins.drop h.pins s}⟩
  ·show RepA _ _ _ (getS (frzSlots s b st.slots) k) _;rw[yqj];exact up (h.slots k)
  ·intro s' cs' hs' hnm;have hs':getM (frzMem s b st.mem) s'=some cs':=hs';rw[zKl]at hs';by_cases he:s'=s
   ·rw[if_pos he]at hs';cases hs'
   ·rw[if_neg he]at hs';cases hm:getM st.mem s' with
    |none=>rw[hm]at hs';cases hs'
    |some cs0=>
     rw[hm]at hs';cases hs';have hnm0:isMp cs0=false:=by
      cases hm0:isMp cs0 with
      |false=>rfl
      |true=>obtain⟨k,e,kvs,rfl⟩:=zxX.1 hm0;cases hnm
     obtain⟨b',vs',e',g1,g2,g3,g4,g5⟩:=h.mem s' cs0 hm hnm0;refine⟨b',vs',e',by simp[Rho.drop,he,g1],g2,g3,ups g4,fun o=>?_⟩
     rintro(hso|⟨rfl,_⟩)
     ·exact g5 o hso
     ·exact he (h.inj _ _ _ g1 h1)
  ·intro s1 s2 b' e1 e2;simp only[Rho.drop]at e1 e2;split at e1
   ·cases e1
   ·split at e2
    ·cases e2
    ·exact h.inj _ _ _ e1 e2
  ·intro s' hs';have hs':getM (frzMem s b st.mem) s'=none:=hs';rw[zKl]at hs';simp only[Rho.drop];by_cases he:s'=s
   ·rw[if_pos he]
   ·rw[if_neg he]at hs'⊢;exact h.boxNew s' (by simpa using hs')
  ·refine{at':=fun s' k q kvs hs'=>?_,inj:=h.mps.inj,new:=fun s' hs'=>?_,lt:=h.mps.lt,apart:=fun s' b' hs'=>?_}
   ·have hs':getM (frzMem s b st.mem) s'=some [.mp k q kvs]:=hs';rw[zKl]at hs';by_cases he:s'=s
    ·rw[if_pos he]at hs';cases hs'
    ·rw[if_neg he]at hs';cases hm:getM st.mem s' with
     |none=>rw[hm]at hs';cases hs'
     |some cs0=>
      rw[hm]at hs';have h0:AV.frzs s b cs0=[.mp k q kvs]:=by simpa using hs'
      have:cs0=[.mp k q kvs]:=by
       cases cs0 with
       |nil=>cases h0
       |cons a as=>
        simp only[AV.frzs,List.cons.injEq]at h0;cases as with
        |cons _ _=>cases h0.2
        |nil=>
         cases a<;>simp only[AV.frz,AV.mp.injEq,reduceCtorEq,false_and]at h0
         ·split at h0<;>simp at h0
         ·obtain⟨⟨rfl,rfl,rfl⟩,_⟩:=h0;rfl
         ·split at h0<;>simp at h0
      subst this;obtain⟨b',g1,g2,g3⟩:=h.mps.at' s' k q kvs hm;exact⟨b',g1,by simp[Rho.drop,g2],g3.1,g3.2.to hk rfl⟩
   ·have hs':getM (frzMem s b st.mem) s'=none:=hs';rw[zKl]at hs';by_cases he:s'=s
    ·rw[he];exact h.mps.apart s b h1
    ·rw[if_neg he]at hs';exact h.mps.new s' (by simpa using hs')
   ·simp only[Rho.drop]at hs';split at hs'
    ·cases hs'
    ·exact h.mps.apart s' b' hs'
  ·intro t ht;obtain⟨x,hx,hok⟩:=h.tok t ht;refine⟨x,hx,?_⟩;rcases hok with hok|⟨b',g1,g2,g3,g4,g5,g6,g7,g8⟩
   ·exact .inl hok
   ·refine .inr ⟨b',g1,g2,g3,g4,g5,fun o ho=>?_,fun s' hs'=>?_,g8⟩
    ·rintro(hso|⟨rfl,_⟩)
     ·exact g6 o ho hso
     ·exact g7 s h1
    ·simp only[Rho.drop]at hs';split at hs'
     ·cases hs'
     ·exact g7 s' hs'
  ·rintro b' o (hso|⟨rfl,_⟩)
   ·exact h.new b' o hso
   ·exact .inr h2
  ·rintro b' o (hso|⟨rfl,ho⟩)
   ·exact h.live b' o hso
   ·exact⟨vs[o],by rw[zzm h3];simp[ho]⟩
  ·intro g cs' hg;simp only[ext]at hg;split at hg
   ·rename_i hgb;subst hgb;cases hg;have hr:=zv6 (zyp (w:=w) (S:=fun b' o=>S b' o∨(b'=g∧o<vs.size)) (ρ:=ρ.drop s)) 2 (ups h4) hds;refine RepCs.zkN hr fun j v hj=>?_;have hj':vs[j]? =some v:=by simpa using hj
    refine⟨by rw[Nat.zero_add,zzm h3];exact hj',.inr ⟨rfl,?_⟩⟩;rw[Nat.zero_add];exact(Array.getElem?_eq_some_iff.1 hj').1
   ·exact RepCs.keep hk _ _ _ (h.glob g cs' hg)
def baseC(P:Program)(w0:World)(S0:Safe)(N:Nat)(G:Nat→Option (List D)):Ctx:={P:=P,G:=G,w0:=w0,S0:=S0,N:=N}
theorem zWg{X P w0 S0 N}(hXG:∀G,(X G).G=G)(hX:∀G f args r,(X G).C f args r→Ev P G f args r)(hXI:∀G f caps xs,(X G).It f caps xs→ItOk P G f caps xs)
  (hT:∀t ty,T t=some ty→chkTy P t ty=true) (hm:P.follows .mixedOrders=true)
  {R} {Q} (hR:∀G c',Ext (baseC P w0 S0 N G) c'→∀x st tmps w S ρ,Sim c' st tmps w S ρ→Q x st→R x.out ⟨tmps,c'.ds⟩ w):
  ∀(bs) (n) (G) (cd) (ac),tr T N cd=some ac→∀{c},Ext (baseC P w0 S0 N G) c→∀{st} {tmps} {w} {S} {ρ},Sim c st tmps w S ρ→awpF X bs G n ac Q st→cd.wpIn (FR none) 0 P R ⟨tmps,c.ds⟩ w
 |bs,n+1,G,cd,ac,htr,c,hc,st,tmps,w,S,ρ,h,hq=>by
  have f1:c.P=P∧c.G=G∧c.N=N∧∀d,c.kp d=false:=by obtain⟨_,_,rfl,_⟩:=hc;exact⟨rfl,rfl,rfl,fun _=>rfl⟩
  cases ac<;>simp only[awpF]at hq;case seq a b=>
   cases cd<;>simp only[tr,Option.bind_eq_bind,Option.pure_def,reduceCtorEq,Option.bind_eq_some_iff,Option.some.injEq]at htr;case seq x y=>
    obtain⟨a1,e1,a2,e2,htr⟩:=htr;cases htr;refine wpIn_seq (zqN (E:=X G) (hXG G) (hX G) (hXI G) hT hm x a e1 none (fun h=>by cases h) 0 (c:=c) f1.1 f1.2.1 f1.2.2.1 (fun d _=>f1.2.2.2 d) (Q:=seqK (awpF X bs G n b Q) Q) ?_ h hq);intro c' hc' _ e s tm w' S' ρ' hs hk;cases e with
    |normal=>exact zWg hXG hX hXI hT hm hR bs n G y b e2 (hc.trans hc') hs hk
    |exit i=>exact hR G c' (hc.trans hc') (.exit i) _ _ _ _ _ hs hk
    |ret=>exact hR G c' (hc.trans hc') .ret _ _ _ _ _ hs hk
   case region=>
    exfalso;obtain⟨l,_,htr⟩:=htr
    repeat' split at htr
    all_goals first
     |(rcases zwh htr with⟨_,_,_,_,h',_⟩|⟨h',_⟩|⟨_,h',_⟩|⟨_,_,h',_⟩|⟨_,_,_,h',_⟩<;>cases h')
     |cases htr
   all_goals (exfalso;revert htr;(try (repeat' split))<;>intro htr<;>simp at htr)
  all_goals exact hq.elim
 |[],0,G,cd,ac,htr,c,hc,st,tmps,w,S,ρ,h,hq=>by
  have f1:c.P=P∧c.G=G∧c.N=N∧∀d,c.kp d=false:=by obtain⟨_,_,rfl,_⟩:=hc;exact⟨rfl,rfl,rfl,fun _=>rfl⟩
  exact zqN (E:=X G) (hXG G) (hX G) (hXI G) hT hm cd ac htr none (fun h=>by cases h) 0 (c:=c) f1.1 f1.2.1 f1.2.2.1 (fun d _=>f1.2.2.2 d) (fun c' hc' _=>hR G c' (hc.trans hc')) h (by simpa only[awpF]using hq)
 |s::bs,0,G,cd,ac,htr,c,hc,st,tmps,w,S,ρ,h,hq=>by
  have f1:c.P=P∧c.G=G∧c.N=N∧∀d,c.kp d=false:=by obtain⟨_,_,rfl,_⟩:=hc;exact⟨rfl,rfl,rfl,fun _=>rfl⟩
  simp only[awpF]at hq;cases hs:getM st.mem s with
  |none=>
   exfalso;have hfree:Gfree G w.heap.size:=fun cs hg=>by
    have:=h.glob _ cs (f1.2.1▸hg);cases cs with
    |nil=>rfl
    |cons d ds=>obtain⟨⟨_,v,hv,_⟩,_⟩:=this;exact absurd (zyu hv) (by omega)
   obtain⟨cs,ds,e1,_⟩:=hq _ hfree;rw[hs]at e1;cases e1
  |some cs=>obtain⟨b,hb,hf⟩:=h.freeze hs;obtain⟨cs',ds,e1,e2,e3⟩:=hq b (f1.2.1▸hb);rw[hs]at e1;cases e1;obtain⟨S',ρ',hs'⟩:=hf ds e2;refine zWg hXG hX hXI hT hm hR bs 0 (ext G b ds) cd ac htr (c:={c with G:=ext c.G b ds}) ?_ hs' e3;obtain⟨o,Ds,rfl,r1,r2,r3,r4⟩:=hc;exact⟨o,Ds,rfl,r1,r2,r3,r4⟩
end Go.Abs
end
section
namespace Go.Abs
open Go.RowKit
variable{c:Ctx}{st:St}{tmps:Array Value}{w:World}{S:Safe}{ρ:Rho}{T:Nat→Option Ty}
def Gle(G G':Nat→Option (List D)):Prop:=∀g cs,G g=some cs→cs=[]∨G' g=some cs
theorem Gle.refl(G):Gle G G:=fun _ _ h=>.inr h
theorem Gle.trans{G G' G''}(h:Gle G G')(h':Gle G' G''):Gle G G'':=fun g cs hg=>by
 rcases h g cs hg with h1|h1
 ·exact .inl h1
 ·exact h' g cs h1
theorem Gle.ext{G b}(hb:Gfree G b)(ds):Gle G (ext G b ds):=fun g cs hg=>by
 by_cases h:g=b
 ·subst h;exact .inl (hb cs hg)
 ·exact .inr (by simp[Go.Abs.ext,h,hg])
theorem GlobOk.mono{P G G'}(hG:Gle G G'){w S}(hg:GlobOk P G' w S):GlobOk P G w S:=
 ⟨fun g cs hgc=>by
  rcases hG g cs hgc with h1|h1
  ·subst h1;trivial
  ·exact hg.1 g cs h1,hg.2.1,fun g cs hlt hgc hne=>by
  rcases hG g cs hgc with h1|h1
  ·exact absurd h1 hne
  ·exact hg.2.2 g cs hlt h1 hne⟩
theorem Ev.mono{P G G'}(hG:Gle G G'){f args r}(h:Ev P G f args r):Ev P G' f args r:=by
 cases r with
 |own a sz es=>exact⟨h.1,fun w S cargs X hl hg ha hx=>h.2 w S cargs X hl (hg.mono hG) ha hx⟩
 |one x=>exact⟨h.1,fun w S cargs hl hg ha=>h.2 w S cargs hl (hg.mono hG) ha⟩
 |agg x=>exact⟨h.1,fun w S cargs hl hg ha=>h.2 w S cargs hl (hg.mono hG) ha⟩
 |tup x=>exact⟨h.1,fun w S cargs hl hg ha=>h.2 w S cargs hl (hg.mono hG) ha⟩
 |vc sz es=>exact⟨h.1,fun w S cargs hl hg ha=>h.2 w S cargs hl (hg.mono hG) ha⟩
 |vr=>exact h.elim
 |bx as m0 t0 r m1 t1=>
  refine⟨h.1,fun w S cargs X pin mpin ρ hs a b c d e=>?_⟩;have hg:GlobOk P G w S:=GlobOk.mono hG ⟨hs.glob,hs.ex⟩;have hs':Sim (ctxB P G w S X pin mpin none) ⟨[],m0,t0⟩ #[] w S ρ:=
   {size:=hs.size,slots:=hs.slots,mem:=hs.mem,inj:=hs.inj,boxNew:=hs.boxNew,mps:=hs.mps,tok:=hs.tok,tokNew:=hs.tokNew,below:=hs.below,old:=hs.old,new:=hs.new,live:=hs.live,glob:=hg.1,ex:=hg.2,fx:=hs.fx,obs:=hs.obs,keeps:=hs.keeps,pins:=hs.pins}
  refine(h.2 w S cargs X pin mpin ρ hs' a b c d e).mono ?_
  rintro e w' ⟨v,S',ρ',h1,h2,h3⟩
  exact⟨v,S',ρ',h1,h2,
   {size:=h3.size,slots:=h3.slots,mem:=h3.mem,inj:=h3.inj,boxNew:=h3.boxNew,mps:=h3.mps,tok:=h3.tok,tokNew:=h3.tokNew,below:=h3.below,old:=h3.old,new:=h3.new,live:=h3.live,glob:=fun g cs hg=>RepCs.keep (h3.keeps (w,S) rfl) g 0 cs (hs.glob g cs hg),ex:=hs.ex,fx:=h3.fx,obs:=h3.obs,keeps:=h3.keeps,pins:=h3.pins}⟩
def BodyFD(X:(Nat→Option (List D))→AEnv)(bs:List Nat)(dep:Nat)(G:Nat→Option (List D))(f:FnA)(args:List CV)(r:CV):Prop:=
 args.length≤f.n∧awpF X bs G dep f.ac (retK f.rs r) ⟨initSlots 0 args,[],[]⟩
def BodyF(X:(Nat→Option (List D))→AEnv)(bs:List Nat)(dep:Nat)(G:Nat→Option (List D))(f:FnA)(args:List CV):CV→Prop
 |.own _ _ _=>False
 |.bx _ _ _ _ _ _=>False
 |.vr _ _ _ _ _=>False
 |.vc _ _=>False
 |.one x=>BodyFD X bs dep G f args (.one x)
 |.agg x=>BodyFD X bs dep G f args (.agg x)
 |.tup x=>BodyFD X bs dep G f args (.tup x)
theorem zYt{X P G bs dep f fn fa args r}(hf:P.funcs[f]? =some fn)(htr:trFn T fn=some fa)
  (hX:∀G f args r,(X G).C f args r→Ev P G f args r) (hXI:∀G f caps xs,(X G).It f caps xs→ItOk P G f caps xs) (hXG:∀G,(X G).G=G) (hT:∀t ty,T t=some ty→chkTy P t ty=true) (hm:P.follows .mixedOrders=true) (h:BodyFD X bs dep G fa args r):EvD P G f args r:=by
 simp only[trFn]at htr;split at htr
 ·cases htr
 ·rename_i hname;simp only[Option.bind_eq_bind,Option.pure_def,Option.bind_eq_some_iff,Option.some.injEq]at htr;obtain⟨cd,hcd,ac,hac,rs,hrs,rfl⟩:=htr;obtain⟨hn,hawp⟩:=h;simp only at hn hawp;refine⟨⟨fn,hf,by simpa using hname,by simp[hcd]⟩,?_⟩;intro w S cargs hlive hglob hargs;have hsim:=zKq (P:=P) hn hlive hglob hargs;refine callsIn_wide.1 (callsIn_of_wp_marks (n:=0) (R:=Gives w S r) hf hcd trivial ?_);refine zWg hXG hX hXI hT hm (w0:=w) (S0:=S) ?_ bs dep G cd ac hac (Ext.refl _) hsim hawp;intro G' c' hc' x st tmps w' S' ρ' hs hr;cases x with
  |normal=>exact zJE hT hrs hc' hs hr
  |exit i=>exact hr.elim
  |ret=>exact zJE hT hrs hc' hs hr
theorem yvQ{X P G bs dep f fn fa args r}(hf:P.funcs[f]? =some fn)(htr:trFn T fn=some fa)
  (hX:∀G f args r,(X G).C f args r→Ev P G f args r) (hXI:∀G f caps xs,(X G).It f caps xs→ItOk P G f caps xs) (hXG:∀G,(X G).G=G) (hT:∀t ty,T t=some ty→chkTy P t ty=true) (hm:P.follows .mixedOrders=true) (h:BodyF X bs dep G fa args r):Ev P G f args r:=by
 cases r with
 |own a sz es=>exact h.elim
 |bx=>exact h.elim
 |vr=>exact h.elim
 |vc=>exact h.elim
 |one x=>exact zYt hf htr hX hXI hXG hT hm h
 |agg x=>exact zYt hf htr hX hXI hXG hT hm h
 |tup x=>exact zYt hf htr hX hXI hXG hT hm h
end Go.Abs
end
