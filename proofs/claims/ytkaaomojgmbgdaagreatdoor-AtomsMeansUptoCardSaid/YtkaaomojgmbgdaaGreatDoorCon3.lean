/-
  CONTRACTS: what the functions answer, as plain Lean functions, each by evaluation at the abstract machine.
-/
import Derived.Test.YtkaaomojgmbgdaaGreatDoorCon2
set_option linter.unusedSimpArgs false
set_option linter.unusedVariables false
set_option linter.unusedSectionVars false
set_option maxRecDepth 100000
section
namespace Go.Abs
theorem yQl{l p}(h:hasP l p=true):p∈l:=by unfold hasP at h;obtain⟨x,hx,hs⟩:=List.any_eq_true.1 h;have:=(Pred.zyC _ _).1 hs;first|exact this▸hx|(rw[this];exact hx)|(rw[←this];exact hx)
theorem yZw{t}(p):∀l,∀y∈l,y∈innerP t p l:=by
 induction p using Pred.ind with
 |h o s n ks ih=>
 intro l y hy;have key:∀(m l:List Pred),(∀k∈m,k∈ks)→y∈l→y∈m.foldl (fun l k=>innerP t k l) l:=by
  intro m;induction m with
  |nil=>intro l _ h;exact h
  |cons k m ihm=>intro l hm h;exact ihm _ (fun x hx=>hm x (by simp[hx])) (ih k (hm k (by simp)) l y h)
 rw[zq5];split
 ·exact List.mem_append.2 (.inl (key ks l (fun _ h=>h) hy))
 ·exact key ks l (fun _ h=>h) hy
theorem yXC{t}(p):∀l,∀q∈p.pre,q.op=t→q∈innerP t p l:=by
 induction p using Pred.ind with
 |h o s n ks ih=>
 intro l q hq ht;have key:∀(m l:List Pred),(∀k∈m,k∈ks)→(∃k∈m,q∈k.pre)→q∈m.foldl (fun l k=>innerP t k l) l:=by
  intro m;induction m with
  |nil=>intro l _ h;obtain⟨k,hk,_⟩:=h;cases hk
  |cons k m ihm=>
   intro l hm h;obtain⟨x,hx,hqx⟩:=h;rw[List.foldl_cons];rcases List.mem_cons.1 hx with rfl|hx
   ·have h1:=ih x (hm x (by simp)) l q hqx ht;have hk:∀(m l:List Pred),q∈l→q∈m.foldl (fun l k=>innerP t k l) l:=by
     intro m;induction m with
     |nil=>intro l h;exact h
     |cons z m ihz=>intro l h;exact ihz _ (yZw z l q h)
    exact hk m _ h1
   ·exact ihm _ (fun y hy=>hm y (by simp[hy])) ⟨x,hx,hqx⟩
 rw[zq5];rw[Pred.zjG]at hq;rcases List.mem_cons.1 hq with rfl|hq
 ·have ht:o=t:=ht;have ht':(o==t)=true:=by simpa using ht
  rw[ht',Bool.true_and];cases e:hasP (ks.foldl (fun l k=>innerP t k l) l) (.mk o s n ks)with
  |true=>simp only[Bool.not_true,Bool.false_eq_true,if_false];exact yQl e
  |false=>simp
 ·have:=key ks l (fun _ h=>h) (zv2.1 hq);split
  ·exact List.mem_append.2 (.inl this)
  ·exact this
theorem yX6{p}(h:innerP 5 p []=[]):NoHole p:=fun q hq h5=>by have:=yXC (t:=5) p [] q hq h5;rw[h]at this;cases this
theorem yYt{P}(h15:∀a b,P (.mk 15 [] 0 [a,b]))(ht:AllN P trueP)(hf:AllN P falseP){l}(h:∀x∈l,AllN P x):AllN P (andP l):=by
 have key:∀l:List Pred,(∀x∈l,AllN P x)→AllN P (andGo l).1:=by
  refine snocI (fun _=>ht) fun l x ih h=>?_;have h1:=ih fun y hy=>h y (by simp[hy]);have hx:=h x (by simp);rw[zqJ];unfold andStp;split
  ·exact h1
  ·split
   ·exact AllN.mk (h15 _ _) (by
      intro k hk;simp only[List.mem_cons,List.not_mem_nil,or_false]at hk;rcases hk with rfl|rfl
      ·exact h1
      ·exact hx)
   ·exact hx
 unfold andP;split
 ·exact hf
 ·exact key l h
theorem zKR{P o a b}(h:P (.mk o [] 0 [a,b]))(ha:AllN P a)(hb:AllN P b):AllN P (.mk o [] 0 [a,b]):=AllN.mk h (by
 intro k hk;simp only[List.mem_cons,List.not_mem_nil,or_false]at hk;rcases hk with rfl|rfl
 ·exact ha
 ·exact hb)
theorem yv9:NoHole trueP:=AllN.mk (by decide) (by simp)
theorem ykE:NoHole falseP:=AllN.mk (by decide) (by simp)
theorem yyS{v a b}(ha:NoHole a)(hb:NoHole b):NoHole (eqnS v a b):=by
 unfold eqnS;split
 ·exact zKR (by show(18:Int)≠5;decide) ha hb
 ·exact zKR (by show(10:Int)≠5;decide) ha hb
theorem yze{p}(h:NoHole p):∀k∈p.kids,NoHole k:=by obtain⟨o,s,n,ks⟩:=p;exact fun k hk=>AllN.kid h hk
theorem yjS{α β γ:Type}{f}:∀{a:List α} {b:List β} {c:γ},c∈List.zipWith f a b→∃x∈a,∃y∈b,c=f x y
 |[],_,c,h=>by simp at h
 |_::_,[],c,h=>by simp at h
 |x::a,y::b,c,h=>by
  rw[List.zipWith_cons_cons]at h;rcases List.mem_cons.1 h with rfl|h
  ·exact⟨x,by simp,y,by simp,rfl⟩
  ·obtain⟨x',h1,y',h2,h3⟩:=yjS h;exact⟨x',by simp[h1],y',by simp[h2],h3⟩
theorem yv8{v a b}(ha:NoHole a)(hb:NoHole b):∀c∈congS v a b,NoHole c:=by
 intro c hc;unfold congS at hc;split at hc
 ·cases hc
 ·rw[List.mem_singleton]at hc;subst hc;refine zKR (by show(17:Int)≠5;decide) (yYt (fun _ _=>by show(15:Int)≠5;decide) yv9 ykE fun x hx=>?_) (yyS ha hb);obtain⟨k,hk,k',hk',rfl⟩:=yjS hx;exact yyS (yze ha k hk) (yze hb k' hk')
theorem yzd{v}:∀{l},(∀x∈l,NoHole x)→∀c∈closS v l,NoHole c
 |[],_,c,hc=>by cases hc
 |a::r,h,c,hc=>by
  rw[closS]at hc;rcases List.mem_append.1 hc with hc|hc
  ·obtain⟨b,hb,hc⟩:=List.mem_flatMap.1 hc;exact yv8 (h a (by simp)) (h b (by simp[hb])) c hc
  ·exact yzd (fun x hx=>h x (by simp[hx])) c hc
theorem yYo{v}(p)(hc:p.cnt<2^62)(h:(OfS v p).2=0):∀q∈p.pre,(OfS v q).2=0:=by
 induction p using Pred.ind with
 |h o s n ks ih=>
 intro q hq;obtain⟨hk,_,_⟩:=zJz hc h;rw[Pred.zjG]at hq;rcases List.mem_cons.1 hq with rfl|hq
 ·exact h
 ·obtain⟨k,hkm,hqk⟩:=zv2.1 hq;have hck:k.cnt≤Pred.cnts ks:=Pred.ywQ hkm;rw[Pred.cnt]at hc;exact ih k hkm (by omega) (by rw[(hk k hkm).1];exact(hk k hkm).2) q hqk
structure BG(v:SEnv)(p:Pred):Prop where
 good:Good p
 hole:NoHole p
 bool:ofS v p=(sBool,0)
theorem yxF{v}:∀{l ps} {q},(∀k∈l,BG v k)→CQ q→(∀x∈ps,VP q.forms.length x)→CQ (eachQ v txt0 l ps q).2∧∀x∈(eachQ v txt0 l ps q).1,VP (eachQ v txt0 l ps q).2.forms.length x
 |[],ps,q,_,hq,hp=>⟨hq,hp⟩
 |k::l,ps,q,h,hq,hp=>by
  rw[eachQ];split
  ·exact⟨hq,hp⟩
  ·have hk:=h k (by simp);have h1:=yVL k hk.good hk.hole hk.bool q hq;refine yxF (fun x hx=>h x (by simp[hx])) h1.cq fun x hx=>?_;rcases List.mem_append.1 hx with hx|hx
   ·exact(hp x hx).le h1.le
   ·rw[List.mem_singleton.1 hx];exact h1.vp
theorem yYJ:∀{l} {ps} {q},CQ q→(∀x∈ps,VP q.forms.length x)→CQ (bndQ txt0 l ps q).2∧∀x∈(bndQ txt0 l ps q).1,VP (bndQ txt0 l ps q).2.forms.length x
 |[],ps,q,hq,hp=>⟨hq,hp⟩
 |s::l,ps,q,hq,hp=>by
  rw[bndQ];split
  ·exact⟨hq,hp⟩
  ·have h1:=ywH (s:=s) (up:=false) hq;have h2:=ywH (s:=s) (up:=true) h1.cq;refine yYJ h2.cq fun x hx=>?_;rcases List.mem_append.1 hx with hx|hx
   ·exact(hp x hx).le (Nat.le_trans h1.le h2.le)
   ·simp only[List.mem_cons,List.not_mem_nil,or_false]at hx;rcases hx with rfl|rfl
    ·exact h1.vp.le h2.le
    ·exact h2.vp
theorem xzG{n l}(h:∀x∈l,VP n x):VP n (andP l):=by
 have key:∀l:List Pred,(∀x∈l,VP n x)→VP n (andGo l).1:=by
  refine snocI (fun _=>zVF 1) fun l x ih h=>?_;have h1:=ih fun y hy=>h y (by simp[hy]);have hx:=h x (by simp);rw[zqJ];unfold andStp;split
  ·exact h1
  ·split
   ·exact yxh (.inl rfl) h1 hx
   ·exact hx
 unfold andP;split
 ·exact zVF 0
 ·exact key l h
theorem yxy{v p}(hb:BoolS v p=0)(hz:p.same zeroP=false):(OfS v p).2=0∧ofS v p=(sBool,0):=by
 unfold BoolS at hb;rw[hz,if_neg (by decide)]at hb;have h2:(OfS v p).2=0:=by
  split at hb
  ·cases hb
  ·exact hb
 refine⟨h2,?_⟩;obtain⟨_,h3⟩:=yzZ h2;rw[h2]at hb;have h1:((OfS v p).1==sBool)=true:=by
  cases e:((OfS v p).1==sBool)with
  |true=>rfl
  |false=>rw[e]at hb;simp at hb
 rw[←h3];exact Prod.ext (by simpa using h1) h2
theorem ywc{v p}(hc:p.cnt≤1048576)(hb:BoolS v p=0)(hh:innerP 5 p []=[]):(p.same zeroP=false→BG v p)∧∀c∈closS v (innerP 4 p []),BG v c:=by
 have h1:p.same zeroP=false→BG v p:=fun hz=>⟨zJ7 hb hz,yX6 hh,(yxy hb hz).2⟩;refine⟨h1,fun c hcm=>?_⟩;cases hz:p.same zeroP with
 |true=>rw[(Pred.zyC p zeroP).1 hz]at hcm;cases hcm
 |false=>
  have hsub:∀x∈innerP 4 p [],x∈p.pre:=fun x hx=>by
   rcases zYR p [] hx with h|h
   ·cases h
   ·exact h
  have hO:=(yxy hb hz).1;refine⟨ywP (ywu hb) c hcm,yzd (fun x hx=>?_) c hcm,yvv (fun x hx=>⟨?_,yYo p (by omega) hO x (hsub x hx)⟩) c hcm⟩
  ·exact fun q hq=>(h1 hz).hole q ((zqF p x (hsub x hx)).1 q hq)
  ·have:=(zqF p x (hsub x hx)).2;omega
theorem yjg{v p}(hc:p.cnt≤1048576):(questQ v txt0 p).2≠0∧(questQ v txt0 p).1=zeroA∨(questQ v txt0 p).2=0∧(∀f∈(questQ v txt0 p).1.forms,linE f=0∧f.coefs≠[]∧formL f=(f,1))∧(questQ v txt0 p).1.forms.length≤40∧VP (questQ v txt0 p).1.forms.length (questQ v txt0 p).1.body:=by
 unfold questQ;by_cases hb:(BoolS v p !=0)=true
 ·rw[if_pos hb];exact .inl ⟨by simpa using hb,rfl⟩
 rw[if_neg hb];by_cases hh:decide (((innerP 5 p []).length:Int)>0)=true
 ·rw[if_pos hh];exact .inl ⟨by simp,rfl⟩
 rw[if_neg hh];have hb':BoolS v p=0:=by simpa using hb
 have hh':innerP 5 p []=[]:=by
  cases e:innerP 5 p []with
  |nil=>rfl
  |cons x l=>rw[e]at hh;simp at hh
 obtain⟨b1,b2⟩:=ywc hc hb' hh';have key:∀r:List Pred×QS,CQ r.2→(∀x∈r.1,VP r.2.forms.length x)→(qfin1 v txt0 p r).2≠0∧(qfin1 v txt0 p r).1=zeroA∨(qfin1 v txt0 p r).2=0∧(∀f∈(qfin1 v txt0 p r).1.forms,linE f=0∧f.coefs≠[]∧formL f=(f,1))∧(qfin1 v txt0 p r).1.forms.length≤40∧VP (qfin1 v txt0 p r).1.forms.length (qfin1 v txt0 p r).1.body:=by
  intro r h1 h2;obtain⟨h3,h4⟩:=yxF (ps:=r.1) (q:=r.2) b2 h1 h2;unfold qfin1 qfin2;obtain⟨h5,h6⟩:=yYJ (l:=(eachQ v txt0 (closS v (innerP 4 p [])) r.1 r.2).2.bools) h3 h4;generalize bndQ txt0 (eachQ v txt0 (closS v (innerP 4 p [])) r.1 r.2).2.bools (eachQ v txt0 (closS v (innerP 4 p [])) r.1 r.2).1 (eachQ v txt0 (closS v (innerP 4 p [])) r.1 r.2).2=F at*
  unfold qfin3;split
  ·exact .inl ⟨by simp,rfl⟩
  ·split
   ·exact .inl ⟨by simp,rfl⟩
   ·rename_i h7;refine .inr ⟨rfl,h5,?_,xzG h6⟩;simp at h7;show F.2.forms.length≤40;omega
 have hq0:CQ q0:=fun f hf=>by cases hf
 cases hz:p.same zeroP with
 |true=>simp only[if_true];exact key _ hq0 (by simp)
 |false=>simp only[Bool.false_eq_true,if_false];obtain⟨h1,h2⟩:=yxF (v:=v) (l:=[p]) (ps:=[]) (q:=q0) (fun k hk=>by rw[List.mem_singleton.1 hk];exact b1 hz) hq0 (by simp);exact key _ h1 h2
end Go.Abs
end
section
namespace Go.Abs
theorem ykC{p}(h:AllN (fun q=>q.name.length≤1073741824) p):NamesP p:=by
 intro q hq;induction hq with
 |self=>obtain⟨o,s,n,ks⟩:=q;exact AllN.top h
 |@kid k p hk _ ih=>obtain⟨o,s,n,ks⟩:=p;exact ih (AllN.kid h hk)
end Go.Abs
end
section
namespace Go.Abs
structure RS where
 forms:List Lin
 bools:List Pred
 long:Bool
 wrong:Bool
def cellsA(v:SEnv)(q:RS)(a b:Nat):List AV:=[.d (.lst (v.vars.map SVar.cells)),.d (.lst (v.syms.map SSym.cells)),.d (.lst (v.holes.map SHole.cells)),.own a 2 (q.forms.map Lin.cells),.own b 4 (q.bools.map Pred.cells),.d (.bool q.long),.d (.bool q.wrong)]
def bxA(v:SEnv)(q:RS)(a b:Nat):Mem:=[(1000,cellsA v q a b)]
theorem renA{v q c d}:renMem [(1000,1000)] [(2000,c),(2001,d)] (bxA v q 2000 2001)=bxA v q c d:=by
 simp only[bxA,cellsA,renMem,getTM,Option.getD_some,mC,mN,AV.ren1,AV.ren0,Nat.reduceEqDiff,if_true,if_false]
theorem yXl{v q c d k m}(h:k<1000):getM (bxA v q c d++m) k=getM m k:=by
 have h0:¬1000=k:=by omega
 simp only[bxA,List.cons_append,List.nil_append,getM,h0,if_false]
theorem yK7{v q c d m}:getM (bxA v q c d++m) 1000=some (cellsA v q c d):=rfl
attribute [go_sem] renA yXl yK7
def RS.add(q:RS)(f:Lin):RS:=⟨q.forms++[f],q.bools,q.long||decide (((q.forms.length+1:Nat):Int)>40),q.wrong⟩
variable{E:AEnv}(Z:Sys E)
include Z
variable(v:SEnv)
end Go.Abs
end
section
namespace Go.Abs
def RS.err(q:RS):RS:=⟨q.forms,q.bools,q.long,true⟩
variable{E:AEnv}(Z:Sys E)
include Z
variable(v:SEnv)
end Go.Abs
end
section
namespace Go.Abs
theorem yjY{v o}{s:Str}{n ks}(h:BG v (.mk o s n ks)):
  (o=2∧s=[]∧ks=[])∨(o=3∨o=4)∨((o=14∨o=15∨o=16∨o=17∨o=18)∧∀k∈ks,BG v k)∨
  ((o=10∨o=11)∧∃a b,ks=[a,b]∧(ofS v a).2=0∧(ofS v b).2=0∧(ofS v a).1=(ofS v b).1∧((srt v a==sBool)=true→BG v a∧BG v b))∨
  ((o=12∨o=13)∧∃a b,ks=[a,b]∧ofS v a=(sInt,0)∧ofS v b=(sInt,0)∧(srt v a==sBool)=false):=by
 obtain⟨hg,hh,ho⟩:=h;obtain⟨hn,_⟩:=zq4 hg;obtain⟨he,hs⟩:=ykH ho;have hh5:o≠5:=hh.top;have lo:=hn.lo;have hi:=hn.hi;have hbad:∀l:List Str,(if allS l sInt then(sInt,(0:Int))else([],11))≠(sBool,0):=fun l=>by split<;>simp[sInt,sBool]
 have h2k:(o=10∨o=11∨o=12∨o=13)→∃a b,ks=[a,b]:=fun h=>zqA (l:=ks) (by have:=zVc hn.kd (by omega);omega);have hd:o=1∨o=2∨o=3∨o=4∨o=6∨o=7∨o=8∨o=9∨o=10∨o=11∨o=12∨o=13∨14≤o:=by omega
 rcases hd with rfl|rfl|h|h|rfl|rfl|rfl|rfl|h|h|h|h|h
 ·exact absurd (congrArg Prod.fst hs) zvi
 ·exact .inl ⟨rfl,by have:=hn.nm;simpa using this,zjb hn rfl⟩
 ·exact .inr (.inl (.inl h))
 ·exact .inr (.inl (.inr h))
 ·exact absurd hs (hbad _)
 ·exact absurd hs (hbad _)
 ·exact absurd hs (hbad _)
 ·exact absurd hs (hbad _)
 ·obtain⟨a,b,rfl⟩:=h2k (.inl h);refine .inr (.inr (.inr (.inl ⟨.inl h,a,b,rfl,he a (by simp),he b (by simp),?_,?_⟩)));all_goals
   subst h;have h6:(if(ofS v a).1==(ofS v b).1 then(sBool,(0:Int))else([],11))=(sBool,0):=hs;have h7:(ofS v a).1=(ofS v b).1:=by
    by_cases c:((ofS v a).1==(ofS v b).1)=true
    ·simpa using c
    ·rw[if_neg c]at h6;simp[sBool]at h6
  ·exact h7
  ·intro h5;have ha:=zKP h5;exact⟨⟨hg.kid (by simp),hh.kid (by simp),ha⟩,⟨hg.kid (by simp),hh.kid (by simp),Prod.ext (by rw[←h7,ha]) (he b (by simp))⟩⟩
 ·obtain⟨a,b,rfl⟩:=h2k (.inr (.inl h));refine .inr (.inr (.inr (.inl ⟨.inr h,a,b,rfl,he a (by simp),he b (by simp),?_,?_⟩)));all_goals
   subst h;have h6:(if(ofS v a).1==(ofS v b).1 then(sBool,(0:Int))else([],11))=(sBool,0):=hs;have h7:(ofS v a).1=(ofS v b).1:=by
    by_cases c:((ofS v a).1==(ofS v b).1)=true
    ·simpa using c
    ·rw[if_neg c]at h6;simp[sBool]at h6
  ·exact h7
  ·intro h5;have ha:=zKP h5;exact⟨⟨hg.kid (by simp),hh.kid (by simp),ha⟩,⟨hg.kid (by simp),hh.kid (by simp),Prod.ext (by rw[←h7,ha]) (he b (by simp))⟩⟩
 ·obtain⟨a,b,rfl⟩:=h2k (.inr (.inr (.inl h)));have h6:(if allS [(ofS v a).1,(ofS v b).1] sInt then(sBool,(0:Int))else([],11))=(sBool,0):=by subst h;exact hs
  have h7:allS [(ofS v a).1,(ofS v b).1] sInt=true:=by
   by_cases c:allS [(ofS v a).1,(ofS v b).1] sInt=true
   ·exact c
   ·rw[if_neg c]at h6;simp[sBool]at h6
  have ha:ofS v a=(sInt,0):=Prod.ext (zZn h7 _ (by simp)) (he a (by simp));have hb:ofS v b=(sInt,0):=Prod.ext (zZn h7 _ (by simp)) (he b (by simp));have hne:(srt v a==sBool)=false:=by
   cases c:(srt v a==sBool)with
   |false=>rfl
   |true=>have:=zKP c;rw[ha]at this;exact absurd (congrArg Prod.fst this) zvi
  exact .inr (.inr (.inr (.inr ⟨.inl h,a,b,rfl,ha,hb,hne⟩)))
 ·obtain⟨a,b,rfl⟩:=h2k (.inr (.inr (.inr h)));have h6:(if allS [(ofS v a).1,(ofS v b).1] sInt then(sBool,(0:Int))else([],11))=(sBool,0):=by subst h;exact hs
  have h7:allS [(ofS v a).1,(ofS v b).1] sInt=true:=by
   by_cases c:allS [(ofS v a).1,(ofS v b).1] sInt=true
   ·exact c
   ·rw[if_neg c]at h6;simp[sBool]at h6
  have ha:ofS v a=(sInt,0):=Prod.ext (zZn h7 _ (by simp)) (he a (by simp));have hb:ofS v b=(sInt,0):=Prod.ext (zZn h7 _ (by simp)) (he b (by simp));have hne:(srt v a==sBool)=false:=by
   cases c:(srt v a==sBool)with
   |false=>rfl
   |true=>have:=zKP c;rw[ha]at this;exact absurd (congrArg Prod.fst this) zvi
  exact .inr (.inr (.inr (.inr ⟨.inr h,a,b,rfl,ha,hb,hne⟩)))
 ·have h6:o=14∨o=15∨o=16∨o=17∨o=18:=by omega
  refine .inr (.inr (.inl ⟨h6,fun k hk=>⟨hg.kid hk,hh.kid hk,Prod.ext (ykr h6 hs _ (List.mem_map.2 ⟨k,hk,rfl⟩)) (he k hk)⟩⟩))
structure GrowR(q q':RS)(n:Nat):Prop where
 f:q'.forms.length≤q.forms.length+n
 b:q'.bools.length≤q.bools.length+n
theorem GrowR.refl(q):GrowR q q 0:=⟨Nat.le_refl _,Nat.le_refl _⟩
theorem GrowR.trans{a b c m n}(h:GrowR a b m)(k:GrowR b c n):GrowR a c (m+n):=⟨by have:=h.f;have:=k.f;omega,by have:=h.b;have:=k.b;omega⟩
theorem GrowR.le{a b m n}(h:GrowR a b m)(k:m≤n):GrowR a b n:=⟨by have:=h.f;omega,by have:=h.b;omega⟩
end Go.Abs
end
section
namespace Go.Abs
def cellsB(v:SEnv)(q:RS)(a:Nat):List AV:=[.d (.lst (v.vars.map SVar.cells)),.d (.lst (v.syms.map SSym.cells)),.d (.lst (v.holes.map SHole.cells)),.own a 2 (q.forms.map Lin.cells),.d (.lst (q.bools.map Pred.cells)),.d (.bool q.long),.d (.bool q.wrong)]
def bxB(v:SEnv)(q:RS)(a:Nat):Mem:=[(1000,cellsB v q a)]
def bxBG(v:SEnv)(q:RS)(a s:Nat):Mem:=[(s,cellsB v q a)]
theorem renB{v q c s}:renMem [(1000,s)] [(2000,c)] (bxB v q 2000)=bxBG v q c s:=by
 simp only[bxB,bxBG,cellsB,renMem,getTM,Option.getD_some,mC,mN,AV.ren1,AV.ren0,Nat.reduceEqDiff,if_true,if_false]
theorem renB1{v q c}:renMem [(1000,1000)] [(2000,c)] (bxB v q 2000)=bxB v q c:=renB
theorem yK8{v q c k m}(h:k<1000):getM (bxB v q c++m) k=getM m k:=by
 have h0:¬1000=k:=by omega
 simp only[bxB,List.cons_append,List.nil_append,getM,h0,if_false]
theorem yQk{v q c m}:getM (bxB v q c++m) 1000=some (cellsB v q c):=rfl
attribute [go_sem] renB1 yK8 yQk
variable{E:AEnv}(Z:Sys E)
include Z
variable(v:SEnv)
end Go.Abs
end
section
namespace Go.Abs
theorem yKo{a}(h:linE a=0):addL a noLin=(a,true):=by
 unfold addL;rw[h,zZG];simp only[bne_self_eq_false,Bool.or_self,Bool.false_eq_true,if_false];have hc:=(zxR h).2;have e:(⟨addGo a.coefs noLin.coefs,wAdd a.c noLin.c⟩:Lin)=a:=by
  obtain⟨l,c⟩:=a;have hc:inRange c=true:=hc;have:wAdd c 0=c:=by unfold wAdd;rw[Int.add_zero];rw[zzp]at hc;exact i64_in _ (by omega)
  show(⟨addGo l [],wAdd c 0⟩:Lin)=⟨l,c⟩;rw[zwl,this]
 rw[e];unfold rightL;rw[h];rfl
theorem yKn{a b}(h:linE a≠0):addL a b=(noLin,false):=by
 unfold addL;have:(linE a !=0)=true:=by simpa using h
 rw[this];rfl
theorem yjO(s):varL s=if linE ⟨[⟨s,1⟩],0⟩==0 then(⟨[⟨s,1⟩],0⟩,true)else(noLin,false):=by
 unfold varL;by_cases h:linE ⟨[⟨s,1⟩],0⟩=0
 ·rw[yKo h,if_pos (by simpa using h)]
 ·rw[yKn h,if_neg (by simpa using h)]
theorem lin1(s)(k c)(hk:k≠0)(hr:inRange k=true)(hc:inRange c=true):linE ⟨[⟨s,k⟩],c⟩=if s==[]||decide ((s.length:Int)>400)then 3 else 0:=by
 unfold linE;rw[if_neg (by simp)];have hk':(k==0||!inRange k)=false:=by rw[hr];simpa using hk
 simp only[coefE,errC,hk',hc];split
 ·simp
 ·simp
theorem yqC(s):(lessL s).2=(linE ⟨[⟨s,1⟩],-1⟩==0)∧((lessL s).2=true→(lessL s).1=⟨[⟨s,1⟩],-1⟩):=by
 have e0:=lin1 s 1 0 (by decide) (by decide) (by decide);have e1:=lin1 s 1 (-1) (by decide) (by decide) (by decide);unfold lessL;rw[yjO,e0,e1];by_cases c:(s==[]||decide ((s.length:Int)>400))=true
 ·simp only[if_pos c];refine⟨?_,fun h=>?_⟩
  ·simp
  ·simp at h
 ·simp only[if_neg c];rw[if_neg c]at e0 e1;have:addL ⟨[⟨s,1⟩],0⟩ monL=(⟨[⟨s,1⟩],-1⟩,true):=by
   unfold addL;have em:linE monL=0:=by decide
   rw[e0,em];have ea:addGo [⟨s,1⟩] monL.coefs=[⟨s,1⟩]:=zwl _;simp only[bne_self_eq_false,Bool.or_self,Bool.false_eq_true,if_false];rw[ea];have ew:wAdd 0 monL.c= -1:=by decide
   rw[ew];unfold rightL;rw[e1];rfl
  simp[this]
theorem yQs(s)(h:linE ⟨[⟨s,1⟩],-1⟩=0):negL s=(⟨[⟨s,-1⟩],0⟩,true):=by
 have e0:=lin1 s 1 0 (by decide) (by decide) (by decide);rw[lin1 s 1 (-1) (by decide) (by decide) (by decide)]at h;rw[h]at e0;unfold negL;rw[yjO,e0];simp only[beq_self_eq_true,if_true,Bool.true_and];have:scaleL ⟨[⟨s,1⟩],0⟩ (-1)=(⟨[⟨s,-1⟩],0⟩,true):=by
  unfold scaleL;rw[e0];have m1:mulI 1 (-1)=(-1,true):=by decide
  have m0:mulI 0 (-1)=(0,true):=by decide
  simp[mulOk,mulC,m1,m0]
 rw[this]
theorem zJW(d)(q):(zeroQ txt0 d q).2.bad=q.bad:=by
 unfold zeroQ askS;split
 ·rfl
 ·cases lookI txt0 q.forms (txt0 (formL d).1)<;>rfl
theorem yx0(d)(q):(mostQ txt0 d q).2.bad=q.bad:=by
 unfold mostQ askS;split
 ·rfl
 ·split<;>(cases lookI txt0 q.forms (txt0 (formL d).1)<;>rfl)
theorem yYH(d)(q):(belowQ txt0 d q).2.bad=q.bad:=by
 unfold belowQ askS;split
 ·rfl
 ·split<;>(cases lookI txt0 q.forms (txt0 (formL d).1)<;>rfl)
theorem yV9(q:QS)(s):(q.take s).bad=q.bad:=by unfold QS.take;split<;>rfl
end Go.Abs
end
section
namespace Go.Abs
theorem zQP(o)(s:Str)(n)(a b):formT (.mk o s n [a,b])=if o==1 then(⟨[],n⟩,true)else if o==6 then((addL (formT a).1 (formT b).1).1,(formT a).2&&(formT b).2&&(addL (formT a).1 (formT b).1).2)
        else if o==7 then((addL (formT a).1 (scaleL (formT b).1 (-1)).1).1,(formT a).2&&(formT b).2&&(scaleL (formT b).1 (-1)).2&&(addL (formT a).1 (scaleL (formT b).1 (-1)).1).2)
        else if o==8 then((scaleL (formT b).1 a.n).1,(formT b).2&&(scaleL (formT b).1 a.n).2)
        else varL (nameS (.mk o s n [a,b])):=by rw[formT]
theorem yVz{s:Str}{n a b}(h:nodeE 8 s n [a,b]=0):a.op=1:=by
 unfold nodeE at h;split at h
 ·cases h
 ·split at h
  ·cases h
  ·split at h
   ·cases h
   ·split at h
    ·cases h
    ·rename_i c4;simpa using c4
theorem ykc{o}{s:Str}{n ks}(h:o=3∨o=4):formT (.mk o s n ks)=varL (nameS (.mk o s n ks)):=by
 match ks with
 |[]=>rcases h with rfl|rfl<;>(rw[formT]<;>first|rfl|simp)
 |[a]=>rcases h with rfl|rfl<;>(rw[formT]<;>first|rfl|simp)
 |[a,b]=>rcases h with rfl|rfl<;>(rw[formT]<;>first|rfl|simp)
 |a::b::c::d=>rcases h with rfl|rfl<;>(rw[formT]<;>first|rfl|simp)
end Go.Abs
end
section
namespace Go.Abs
def CK:Pred→Prop:=AllN fun q=>(q.op=10∨q.op=11)→∀k∈q.kids,k.checkE=0
theorem yvJ{o d q}:(cmpQ txt0 o d q).2.bad=(q.note d.2).bad:=by
 unfold cmpQ;split
 ·rfl
 ·split
  ·exact zJW _ _
  ·split
   ·exact zJW _ _
   ·split
    ·exact yx0 _ _
    ·exact yYH _ _
theorem ykG{q:QS}(b)(h:q.bad=true):(q.note b).bad=true:=by show(q.bad||!b)=true;rw[h];rfl
theorem yYi{s q}(h:q.bad=true):(valueQ txt0 s q).2.bad=true:=by unfold valueQ;rw[zJW];exact ykG _ (by rw[yV9];exact h)
theorem zJK{v}:∀{l} {q},(∀k∈l,∀q:QS,q.bad=true→(predQ v txt0 k q).2.bad=true)→q.bad=true→(predQ.go v txt0 l q).2.bad=true
 |[],_,_,h=>h
 |k::l,q,hk,h=>by rw[predQ.go];exact zJK (fun x hx=>hk x (by simp[hx])) (hk k (by simp) q h)
theorem yZT{v}(p):∀q:QS,q.bad=true→(predQ v txt0 p q).2.bad=true:=by
 induction p using Pred.ind with
 |h o s n ks ih=>
 intro q h;rw[predQ];split
 ·exact h
 ·split
  ·exact yYi h
  ·split
   ·split
    ·exact zJK ih h
    ·rw[yvJ];exact ykG _ h
   ·exact zJK ih h
theorem yyb{a b}(ga:Good a)(gb:Good b):PlainL (diffL a b).1:=zQg ga gb
theorem xzE{v a}(h:a.checkE=0):srt v a=(ofS v a).1:=by unfold srt OfS;rw[h];rfl
end Go.Abs
end
section
namespace Go.Abs
theorem yKG{l ps q}(h:q.bad=true):bndQ txt0 l ps q=(ps,q):=by
 cases l with
 |nil=>rfl
 |cons s l=>rw[bndQ,h,if_pos rfl]
def SP(x:Pred):Prop:=CK x∧x.checkE=0
theorem sp_of{v p}(hc:p.cnt<2^62)(h:(OfS v p).2=0):∀x∈p.pre,SP x∧∀k∈x.kids,SP k:=by
 have hO:=yYo p hc h;have h1:∀x∈p.pre,SP x:=fun x hx=>by refine⟨fun q hq _ k hk=>?_,(yzZ (hO x hx)).1⟩;have hqp:=(zqF p x hx).1 q hq;refine(yzZ (hO k ((zqF p q hqp).1 k ?_))).1;obtain⟨o,s,n,ks⟩:=q;rw[Pred.zjG];obtain⟨o',s',n',ks'⟩:=k;exact List.mem_cons_of_mem _ (zv2.2 ⟨_,hk,zjH _ _ _ _⟩)
 refine fun x hx=>⟨h1 x hx,fun k hk=>h1 k ((zqF p x hx).1 k ?_)⟩;obtain⟨o,s,n,ks⟩:=x;rw[Pred.zjG];obtain⟨o',s',n',ks'⟩:=k;exact List.mem_cons_of_mem _ (zv2.2 ⟨_,hk,zjH _ _ _ _⟩)
theorem yJy{v a b}(ha:SP a)(hb:SP b):CK (eqnS v a b):=by
 have hk:∀o:Int,((Pred.mk o [] 0 [a,b]).op=10∨(Pred.mk o [] 0 [a,b]).op=11)→∀k∈(Pred.mk o [] 0 [a,b]).kids,k.checkE=0:=fun o _ k hk=>by
  have hk:k∈[a,b]:=hk;simp only[List.mem_cons,List.not_mem_nil,or_false]at hk;rcases hk with rfl|rfl
  ·exact ha.2
  ·exact hb.2
 exact zKR (hk _) ha.1 hb.1
theorem yQb{v a b}(ha:SP a∧∀k∈a.kids,SP k)(hb:SP b∧∀k∈b.kids,SP k):∀c∈congS v a b,CK c:=by
 intro c hc;have hno:∀{o:Int} {x y:Pred},o≠10→o≠11→((Pred.mk o [] 0 [x,y]).op=10∨(Pred.mk o [] 0 [x,y]).op=11)→∀k∈(Pred.mk o [] 0 [x,y]).kids,k.checkE=0:=fun{o x y} h1 h2 h=>by have h:o=10∨o=11:=h;omega
 unfold congS at hc;split at hc
 ·cases hc
 ·rw[List.mem_singleton]at hc;subst hc;refine zKR (hno (by decide) (by decide)) (yYt (fun _ _=>hno (by decide) (by decide)) ?_ ?_ fun x hx=>?_) (yJy ha.1 hb.1)
  ·exact AllN.mk (fun _ k hk=>by cases hk) (by simp)
  ·exact AllN.mk (fun _ k hk=>by cases hk) (by simp)
  ·obtain⟨k,hk,k',hk',rfl⟩:=yjS hx;exact yJy (ha.2 k hk) (hb.2 k' hk')
theorem yYS{v}:∀{l},(∀x∈l,SP x∧∀k∈x.kids,SP k)→∀c∈closS v l,CK c
 |[],_,c,hc=>by cases hc
 |a::r,h,c,hc=>by
  rw[closS]at hc;rcases List.mem_append.1 hc with hc|hc
  ·obtain⟨b,hb,hc⟩:=List.mem_flatMap.1 hc;exact yQb (h a (by simp)) (h b (by simp[hb])) c hc
  ·exact yYS (fun x hx=>h x (by simp[hx])) c hc
end Go.Abs
end
section
namespace Go.Abs
def extS(at':List Coef)(fs:List Fact)(p:Pred):List Coef×Bool:=
 if(innerP 4 p []).all fun a=>(EvalS at' fs a).2 then(((innerP 4 p []).map fun a=>(⟨nameS a,(EvalS at' fs a).1⟩:Coef))++at',true)else([],false)
def knownS(at':List Coef)(p:Pred):Bool:=(freeS p).all fun s=>(findC s at').2
theorem xzU{E}(L:Law12 E)(at')(fs)(hE:∀p,E.C zxD [.agg p.cells,.one (.lst (at'.map Coef.cells)),.one (.lst (fs.map Fact.cells))] (res2 (EvalS at' fs p)))(hat:at'.length≤1000)
  (p) (hi:IPred p) (hz:p.sz≤1048576) (ha:∀a∈innerP 4 p [],IPred a∧a.sz≤1048576):E.C zj5 [.agg p.cells,.one (.lst (at'.map Coef.cells)),.one (.lst (fs.map Fact.cells))] (.tup [.one (.lst ((extS at' fs p).1.map Coef.cells)),.one (.bool (extS at' fs p).2)]):=by
 have Z:=L.sys;have hcs:=zVL p;have hA:=zY2 Z p (zxN p (by omega)) (by omega);have hN:=fun a h=>zwm Z L.itoa L.join a (ha a h).1 (ha a h).2;have hil:(innerP 4 p []).length≤1048576:=by have:=zk5 4 p [];simp at this;omega
 refine Z.zj5 _ _ ⟨b0l rfl,?_⟩;generalize hR:extS at' fs p=R;unfold extS at hR;unfold res2 at hE;generalize innerP 4 p []=l at*
 rw[Pred.zzb p]at*
 unfold zQk;refine zzd fun N0 h0=>?_;simp only[go_sem];subst h0;refine zzd fun N1 h1=>?_;simp only[go_sem];subst h1;refine zzd fun N2 h2=>?_;simp only[go_sem];refine zza hA ?_;simp only[go_sem];subst h2;refine zzd fun N3 h3=>?_;simp only[go_sem];refine zzg l (fun done=>∀b∈done,(EvalS at' fs b).2=true) (fun done _=>⟨[(10,.d (.int .i64 done.length)),(8,.own 8 2 ((done.map fun a=>(⟨nameS a,(EvalS at' fs a).1⟩:Coef)).map Coef.cells)),(9,.d (.lst (l.map Pred.cells))),(1,.d (.lst (at'.map Coef.cells))),(2,.d (.lst (fs.map Fact.cells)))],[],[(8,true)]⟩) ?_ (by simp) ?_ ?_
 ·exact zxV 8 8 2 [] [(8,8)] rfl (by simp) rfl (by simp only[Ent0,go_sem,cN,oS,mN,lN,nZ])
 ·intro done b r hl hI;have hlt:=zzn hl;have hd:decide ((done.length:Int)<(l.length:Int))=true:=decide_eq_true hlt;have hdl:done.length<l.length:=by rw[hl];simp
  have hgk:=zzz hl;have hw:IntKind.i64.wrap ((done.length:Int)+1)=((done.length+1:Nat):Int):=zzf (by omega);have hEb:=hE b;have hNb:=hN b (by rw[hl];simp);have hl4:(∀e∈l.map Pred.cells,e.length=4)=True:=Pred.zyR l;have hno:(EvalS at' fs b).2=false→(l.all fun a=>(EvalS at' fs a).2)=false:=fun h=>by rw[hl,List.all_append,List.all_cons,h];simp
  rw[Pred.zzb b]at hgk hEb hNb;simp only[zW7,go_sem,hd,hlt,hgk,hl4,lM];try intro _
  refine zza hEb ?_;simp only[go_sem,hlt,hgk,hl4];generalize hV:EvalS at' fs b=V at*
  obtain⟨x,ok⟩:=V;cases ok with
  |false=>rw[hno rfl,if_neg (by decide)]at hR;subst hR;simp only[go_sem,mN]
  |true=>simp only[go_sem,hlt,hgk,hl4];refine zza hNb ?_;simp only[go_sem,hw,lM];have hall:∀b'∈done++[b],(EvalS at' fs b').2=true:=zzY hI (by rw[hV]);refine⟨⟨by simp,by omega,by omega⟩,zzk [(8,42)] ?_,hall⟩;simp only[go_sem,cN,oS,lA,lC,lN,zA,hV,mA,mC,mN,Coef.cells]
 ·intro hI;have hall:(l.all fun a=>(EvalS at' fs a).2)=true:=List.all_eq_true.2 hI;rw[hall,if_pos rfl]at hR;subst hR;simp only[zW7,go_sem,lM];try intro _
  subst h3;have hl2:∀e∈(l.map fun a=>(⟨nameS a,(EvalS at' fs a).1⟩:Coef)).map Coef.cells,e.length=2:=by intro e he;obtain⟨c,_,rfl⟩:=List.mem_map.1 he;rfl
  simp only[go_sem,lM];exact⟨⟨by omega,by omega⟩,by rw[mA]⟩
end Go.Abs
end
section
namespace Go.Abs
def varT(at':List Coef)(x:SVar):Bool:=x.sort==sBool&&(findC x.name at').2&&(findC x.name at').1 !=0&&(findC x.name at').1 !=1
def appT(v:SEnv)(at':List Coef)(fs:List Fact)(a:Pred):Bool:=(OfS v a).1==sBool&&(EvalS at' fs a).2&&(EvalS at' fs a).1 !=0&&(EvalS at' fs a).1 !=1
def truthsS(v:SEnv)(at':List Coef)(fs:List Fact)(p:Pred):Bool:=v.vars.all (fun x=>!varT at' x)&&(innerP 4 p []).all (fun a=>!appT v at' fs a)
theorem xz6{E}(Z:Sys E)(at')(p)(hF:E.C zq9 [.agg p.cells] (.one (.lst ((freeS p).map fun s=>[.str s])))):
  E.C zKv [.agg p.cells,.one (.lst (at'.map Coef.cells))] (.one (.bool (knownS at' p))):=by
 have hf:=fun s=>yQM Z at' s;refine Z.zKv _ _ ⟨b0l rfl,?_⟩;generalize hR:knownS at' p=R;unfold knownS at hR;unfold res2 at hf;generalize freeS p=l at*
 rw[Pred.zzb p]at*
 unfold yw3;refine zzd fun N0 h0=>?_;simp only[go_sem];subst h0;refine zzd fun N1 h1=>?_;simp only[go_sem];refine zza hF ?_;simp only[go_sem];subst h1;refine zzd fun N3 h3=>?_;simp only[go_sem];refine zzg l (fun done=>∀s∈done,(findC s at').2=true) (fun done _=>⟨[(6,.d (.int .i64 done.length)),(5,.d (.lst (l.map fun s=>[.str s]))),(1,.d (.lst (at'.map Coef.cells)))],[],[]⟩) ?_ (by simp) ?_ ?_
 ·exact zze (by simp only[go_sem])
 ·intro done s r hl hI;have hlt:=zzn hl;have hd:decide ((done.length:Int)<(l.length:Int))=true:=decide_eq_true hlt;have hw:IntKind.i64.wrap ((done.length:Int)+1)=((done.length+1:Nat):Int)∨True:=.inr trivial;have hgk:(l.map fun s=>[D.str s]).getD done.length []=[.str s]:=zzV (f:=fun s=>[D.str s]) hl rfl;have hfs:=hf s;have hno:(findC s at').2=false→(l.all fun s=>(findC s at').2)=false:=fun h=>by rw[hl,List.all_append,List.all_cons,h];simp
  have hl1:(∀e∈l.map (fun s=>[D.str s]),e.length=1)=True:=eq_true (by intro e he;obtain⟨s,_,rfl⟩:=List.mem_map.1 he;rfl);simp only[zQl,go_sem,hd,hlt,hgk,hl1,lM];intro _;have hw:IntKind.i64.wrap ((done.length:Int)+1)=((done.length+1:Nat):Int):=zzf (by omega);refine zza hfs ?_;simp only[go_sem];cases c:(findC s at').2 with
  |false=>rw[hno c]at hR;simp only[go_sem,←hR]
  |true=>simp only[go_sem,hw,lA];exact⟨zze (by simp only[go_sem]),zzY hI c⟩
 ·intro hI;have hall:(l.all fun s=>(findC s at').2)=true:=List.all_eq_true.2 hI;rw[hall]at hR;subst hR h3;simp only[zQl,go_sem,implies_true]
theorem xz2{E}(Z:Sys E)(v)(hO:∀p,E.C zzF [.agg v.cells,.agg p.cells] (two (OfS v p)))(at')(fs)(hE:∀p,E.C zxD [.agg p.cells,.one (.lst (at'.map Coef.cells)),.one (.lst (fs.map Fact.cells))] (res2 (EvalS at' fs p)))
  (p) (hz:p.sz≤1048576):E.C zXr [.agg v.cells,.agg p.cells,.one (.lst (at'.map Coef.cells)),.one (.lst (fs.map Fact.cells))] (.one (.bool (truthsS v at' fs p))):=by
 have hcs:=zVL p;have hA:=zY2 Z p (zxN p (by omega)) (by omega);have hf:=fun s=>yQM Z at' s;refine Z.zXr _ _ ⟨b0l rfl,?_⟩;generalize hR:truthsS v at' fs p=R;unfold truthsS at hR;unfold res2 at hf hE;unfold two at hO;generalize innerP 4 p []=l at*
 have hvc:v.cells=[.lst (v.vars.map SVar.cells),.lst (v.syms.map SSym.cells),.lst (v.holes.map SHole.cells)]:=rfl;rw[hvc]at*
 rw[Pred.zzb p]at*
 unfold yxI;refine zzd fun N0 h0=>?_;simp only[go_sem];subst h0;refine zzd fun N1 h1=>?_;simp only[go_sem];refine loop_named' fun K hK=>?_;refine zzg v.vars (fun done=>∀x∈done,(!varT at' x)=true) (fun done _=>⟨[(9,.d (.int .i64 done.length)),(2,.d (.lst (at'.map Coef.cells))),(3,.d (.lst (fs.map Fact.cells))),(4,.ptr 4 0),(5,.ptr 5 0)],[(4,[.d (.lst (v.vars.map SVar.cells)),.d (.lst (v.syms.map SSym.cells)),.d (.lst (v.holes.map SHole.cells))]),(5,[.d (.int .i64 p.op),.d (.str p.name),.d (.int .i64 p.n),.d (.lst (p.kids.map Pred.cells))])],[]⟩) ?_ (by simp) ?_ ?_
 ·exact zze (by simp only[go_sem,oS])
 ·intro done x r hl hI;have hlt:=zzn hl;have hd:decide ((done.length:Int)<(v.vars.length:Int))=true:=decide_eq_true hlt;have hgk:=zzV (f:=SVar.cells) hl rfl;have hfs:=hf x.name;have hno:varT at' x=true→(v.vars.all fun x=>!varT at' x)=false:=fun h=>by rw[hl,List.all_append,List.all_cons,h];simp
  have hvt:varT at' x=(x.sort==[66,111,111,108]&&(findC x.name at').2&&(findC x.name at').1 !=0&&(findC x.name at').1 !=1):=rfl;obtain⟨xn,xs⟩:=x;simp only[SVar.cells]at hgk hvt hfs;unfold zJs;refine zzd fun M0 g0=>?_;simp only[go_sem,hd,hlt,lM];try intro _
  have hw:IntKind.i64.wrap ((done.length:Int)+1)=((done.length+1:Nat):Int):=zzf (by omega);subst g0;refine zzd fun M1 g1=>?_;rw[zyt];refine zzd fun M2 g2=>?_;simp only[go_sem,hlt,hgk];refine zza hfs ?_;simp only[go_sem];subst g2;simp only[go_sem,hlt,hgk];rw[←hvt];cases c:varT at' ⟨xn,xs⟩with
  |true=>rw[hno c,Bool.false_and]at hR;simp only[go_sem,if_true,hK,←hR]
  |false=>simp only[go_sem,if_false];subst g1;simp only[go_sem,hw,lA];exact⟨zze (by simp only[go_sem,oS]),zzY hI (by rw[c];rfl)⟩
 ·intro hI;have hall:(v.vars.all fun x=>!varT at' x)=true:=List.all_eq_true.2 hI;rw[hall,Bool.true_and]at hR;unfold zJs;refine zzd fun M0 g0=>?_;simp only[go_sem,lM];try intro _
  subst hK;rw[blockK];subst h1;refine zzd fun N2 h2=>?_;simp only[go_sem];refine zza hA ?_;simp only[go_sem];subst h2;refine zzd fun N3 h3=>?_;simp only[go_sem];refine loop_named' fun K2 hK2=>?_;refine zzg l (fun done=>∀x∈done,(!appT v at' fs x)=true) (fun done _=>⟨[(13,.d (.int .i64 done.length)),(12,.d (.lst (l.map Pred.cells))),(2,.d (.lst (at'.map Coef.cells))),(3,.d (.lst (fs.map Fact.cells))),(4,.ptr 4 0)],[(4,[.d (.lst (v.vars.map SVar.cells)),.d (.lst (v.syms.map SSym.cells)),.d (.lst (v.holes.map SHole.cells))])],[]⟩) ?_ (by simp) ?_ ?_
  ·exact zze (by simp only[go_sem,oS])
  ·intro done x r hl hI;have hlt:=zzn hl;have hd:decide ((done.length:Int)<(l.length:Int))=true:=decide_eq_true hlt;have hgk:=zzz hl;have hl4:(∀e∈l.map Pred.cells,e.length=4)=True:=Pred.zyR l;have hOx:=hO x;have hEx:=hE x;have hno:appT v at' fs x=true→(l.all fun x=>!appT v at' fs x)=false:=fun h=>by rw[hl,List.all_append,List.all_cons,h];simp
   have hat:appT v at' fs x=((OfS v x).1==[66,111,111,108]&&(EvalS at' fs x).2&&(EvalS at' fs x).1 !=0&&(EvalS at' fs x).1 !=1):=rfl;rw[Pred.zzb x]at hgk hOx hEx;unfold zJr;refine zzd fun M0 g0=>?_;simp only[go_sem,hd,hlt,lM];try intro _
   have hw:IntKind.i64.wrap ((done.length:Int)+1)=((done.length+1:Nat):Int):=zzf (by omega);subst g0;refine zzd fun M1 g1=>?_;rw[zyt];refine zzd fun M2 g2=>?_;simp only[go_sem,hlt,hgk,hl4];refine⟨_,hOx,?_⟩;simp only[go_sem];subst g2;refine zzd fun M3 g3=>?_;simp only[go_sem,hlt,hgk,hl4];refine zza hEx ?_;simp only[go_sem];subst g3;simp only[go_sem];rw[←hat];cases c:appT v at' fs x with
   |true=>rw[hno c]at hR;simp only[go_sem,if_true,hK2,←hR]
   |false=>simp only[go_sem,if_false];subst g1;simp only[go_sem,hw,lA];exact⟨zze (by simp only[go_sem,oS]),zzY hI (by rw[c];rfl)⟩
  ·intro hI;have hall:(l.all fun x=>!appT v at' fs x)=true:=List.all_eq_true.2 hI;rw[hall]at hR;unfold zJr;refine zzd fun M0 g0=>?_;simp only[go_sem,lM];try intro _
   subst hK2;rw[blockK];subst h3;simp only[go_sem,←hR]
end Go.Abs
end
section
namespace Go.Abs
def QExt(q q':QS):Prop:=∃m,q'.forms=q.forms++m
theorem QExt.refl(q):QExt q q:=⟨[],by simp⟩
theorem QExt.trans{a b c}(h:QExt a b)(k:QExt b c):QExt a c:=by obtain⟨m,hm⟩:=h;obtain⟨n,hn⟩:=k;exact⟨m++n,by rw[hn,hm,List.append_assoc]⟩
def SgOk(F:Str→Int)(σ:List Int)(fs:List Lin):Prop:=∀i (h:i<fs.length),lookGo (Lib.itoa (i:Int)) 0 σ=some (sgnI (linV F fs[i]))
theorem SgOk.pre{F σ q q'}(h:SgOk F σ q'.forms)(he:QExt q q'):SgOk F σ q.forms:=by obtain⟨m,hm⟩:=he;intro i hi;have:=h i (by rw[hm,lA];omega);rw[this];congr 3;simp only[hm];rw[List.getElem_append_left hi]
theorem xz0(F){d}(h:linE d=0)(hc:d.coefs≠[]):∃k:Int,linV F d=k*linV F (formL d).1∧(0<k∧(formL d).2=1∨k<0∧(formL d).2= -1):=by
 have hne:=fun c hc=>((zXs h).2.1 c hc).1;have hg0:gcdL 0 d.coefs≠0:=fun h0=>by
  cases e:d.coefs with
  |nil=>exact hc e
  |cons x l=>have:=(zJJ d.coefs 0).2 x (by rw[e];simp);rw[h0]at this;exact hne x (by rw[e];simp) (Int.zero_dvd.1 this)
 have hG:=yvU (b:=d.c) hg0;rw[yxJ h hc];have hsg:sgnF d.coefs=1∨sgnF d.coefs= -1:=by unfold sgnF;split<;>omega
 have hGd:=yqh (gcdL 0 d.coefs) d.c;generalize hGe:gcdI (gcdL 0 d.coefs) d.c=G at*
 generalize sgnF d.coefs=sg at*
 refine⟨G*sg,?_,by rcases hsg with rfl|rfl<;>omega⟩;have hkG:∀n:Int,G ∣ n→G*sg ∣ n:=fun n hn=>by
  rcases hsg with rfl|rfl
  ·rw[Int.mul_one];exact hn
  ·have:G* -1= -G:=by omega
   rw[this];exact(Int.neg_dvd).2 hn
 have hdv:∀c∈d.coefs,G*sg ∣ c.n:=fun c hc=>hkG _ (Int.dvd_trans hGd.1 ((zJJ d.coefs 0).2 c hc));have hdc:G*sg ∣ d.c:=hkG _ hGd.2;have hk:G*sg≠0:=by rcases hsg with rfl|rfl<;>omega
 rw[zvV,zvV];simp only
 rw[yWt F d.coefs hdv,Int.mul_add];obtain⟨m,hm⟩:=hdc;rw[hm,Int.mul_tdiv_cancel_left _ hk]
theorem xzY{F σ q d}(hp:∀g∈q.forms,PlainL g)(hd:PlainL d):QExt q (askS txt0 d q).2∧(SgOk F σ (askS txt0 d q).2.forms→lookGo (Lib.itoa ((askS txt0 d q).1:Int)) 0 σ=some (sgnI (linV F (formL d).1))):=by
 unfold askS;cases h:lookI txt0 q.forms (txt0 (formL d).1)with
 |some i=>
  refine⟨QExt.refl q,fun hs=>?_⟩;have key:∀(l:List Lin) (j i:Nat),lookG txt0 (txt0 (formL d).1) j l=some i→∃k,i=j+k∧∃h:k<l.length,txt0 l[k]=txt0 (formL d).1:=by
   intro l;induction l with
   |nil=>intro j i h;cases h
   |cons g l ih=>
    intro j i h;rw[lookG]at h;cases e:lookG txt0 (txt0 (formL d).1) (j+1) l with
    |some i'=>rw[e]at h;cases h;obtain⟨k,hk,hk2,ht⟩:=ih _ _ e;exact⟨k+1,by omega,by simp;omega,by simpa using ht⟩
    |none=>
     rw[e]at h;simp only at h;split at h
     ·rename_i ht;cases h;exact⟨0,rfl,by simp,by simpa using ht⟩
     ·cases h
  obtain⟨k,hk,hk2,ht⟩:=key _ _ _ h;have:i=k:=by omega
  subst this;have hf:q.forms[i]=(formL d).1:=yJe (hp _ (List.getElem_mem _)) (zQN hd) ht;rw[←hf];exact hs i hk2
 |none=>refine⟨⟨_,rfl⟩,fun hs=>?_⟩;have:=hs q.forms.length (by simp);rw[this];congr 3;simp
theorem xzJ{σ o}{i:Nat}{y}(ho:o=10∨o=13)(h:lookGo (Lib.itoa (i:Int)) 0 σ=some (sgnI y)):evalS σ (leafP o i)=isS (if o=10 then y==0 else decide (y≤0)):=by
 rw[yZn ho,h];show isS _=isS _;congr 1;rcases ho with rfl|rfl
 ·show(sgnI y==0||((10:Int)==13&&decide (sgnI y<0)))=_;rw[if_pos rfl];unfold sgnI;rcases Int.lt_trichotomy y 0 with h|h|h
  ·rw[if_pos h];simp;omega
  ·subst h;rfl
  ·rw[if_neg (by omega),if_pos h];simp;omega
 ·show(sgnI y==0||((13:Int)==13&&decide (sgnI y<0)))=_;rw[if_neg (by decide)];unfold sgnI;rcases Int.lt_trichotomy y 0 with h|h|h
  ·rw[if_pos h];simp;omega
  ·subst h;rfl
  ·rw[if_neg (by omega),if_pos h];simp;omega
end Go.Abs
end
section
namespace Go.Abs
theorem xzZ(σ)(b):evalS σ (tP b)=isS b:=by
 unfold tP;cases b
 ·show evalS σ (.mk 2 [] 0 [])=_;rw[evalS];rfl
 ·show evalS σ (.mk 2 [] 1 [])=_;rw[evalS];rfl
theorem xzK(σ)(p):evalS σ (negP p)=notS (evalS σ p):=by show evalS σ (.mk 14 [] 0 [p])=_;rw[evalS];rfl
theorem xzI(b):notS (isS b)=isS (!b):=by cases b<;>rfl
theorem xzO(a b):andS (isS a) (isS b)=isS (a&&b):=by cases a<;>cases b<;>rfl
theorem xzS(σ)(a b):evalS σ (.mk 15 [] 0 [a,b])=andS (evalS σ a) (evalS σ b):=by rw[evalS];rfl
theorem xyf(σ)(a b):evalS σ (.mk 16 [] 0 [a,b])=notS (andS (notS (evalS σ a)) (notS (evalS σ b))):=by rw[evalS];rfl
theorem xyp(σ)(a b):evalS σ (.mk 17 [] 0 [a,b])=notS (andS (evalS σ a) (notS (evalS σ b))):=by rw[evalS];rfl
theorem xzT(σ)(a b)(x y)(ha:evalS σ a=isS x)(hb:evalS σ b=isS y):evalS σ (.mk 18 [] 0 [a,b])=isS (x==y):=by rw[evalS];show(if decide (evalS σ a<0)||decide (evalS σ b<0)then-1 else isS (evalS σ a==evalS σ b))=_;rw[ha,hb];cases x<;>cases y<;>rfl
theorem xz3(F){d}(h:((d.coefs.length:Int)==0)=true):linV F d=d.c:=by
 have:d.coefs=[]:=by
  cases e:d.coefs with
  |nil=>rfl
  |cons x l=>rw[e]at h;simp at h;omega
 rw[zvV,this];simp[sumC]
variable{F:Str→Int}{σ:List Int}
theorem xz7{q d}(hp:∀g∈q.forms,PlainL g)(hd:PlainL d)(hl:linE d=0):QExt q (zeroQ txt0 d q).2∧(SgOk F σ (zeroQ txt0 d q).2.forms→evalS σ (zeroQ txt0 d q).1=isS (linV F d==0)):=by
 unfold zeroQ;by_cases c:((d.coefs.length:Int)==0)=true
 ·rw[if_pos c];exact⟨QExt.refl q,fun _=>by rw[xzZ,xz3 F c]⟩
 ·rw[if_neg c];obtain⟨h1,h2⟩:=xzY (F:=F) (σ:=σ) hp hd;refine⟨h1,fun hs=>?_⟩;obtain⟨k,hk,hs2⟩:=xz0 F hl (zJG c);show evalS σ (leafP 10 (askS txt0 d q).1)=_;rw[xzJ (.inl rfl) (h2 hs),if_pos rfl,hk];have hk0:k≠0:=by omega
  congr 1;by_cases hz:linV F (formL d).1=0
  ·rw[hz,Int.mul_zero]
  ·have:=Int.mul_ne_zero hk0 hz;rw[show(linV F (formL d).1==0)=false by simpa using hz,show(k*linV F (formL d).1==0)=false by simpa using this]
theorem xyH{k x:Int}(hk:0<k):decide (k*x≤0)=decide (x≤0):=by
 by_cases h:x≤0
 ·have:=Int.mul_nonpos_of_nonneg_of_nonpos (Int.le_of_lt hk) h;rw[decide_eq_true h,decide_eq_true this]
 ·have:=Int.mul_pos hk (by omega:0<x);rw[decide_eq_false h,decide_eq_false (by omega)]
theorem xym{k x:Int}(hk:k<0):decide (k*x≤0)=(!decide (x≤0)||x==0):=by
 rcases Int.lt_trichotomy x 0 with h|h|h
 ·have:=Int.mul_pos_of_neg_of_neg hk h;rw[decide_eq_false (by omega),decide_eq_true (by omega),show(x==0)=false by simp;omega];rfl
 ·subst h;simp
 ·have:=Int.mul_neg_of_neg_of_pos hk h;rw[decide_eq_true (by omega),decide_eq_false (by omega)];rfl
theorem xyI{k x:Int}(hk:0<k):decide (k*x<0)=(decide (x≤0)&&!(x==0)):=by
 rcases Int.lt_trichotomy x 0 with h|h|h
 ·have:=Int.mul_neg_of_pos_of_neg hk h;rw[decide_eq_true this,decide_eq_true (by omega),show(x==0)=false by simp;omega];rfl
 ·subst h;simp
 ·have:=Int.mul_pos hk h;rw[decide_eq_false (by omega),decide_eq_false (by omega)];rfl
theorem xyn{k x:Int}(hk:k<0):decide (k*x<0)=!decide (x≤0):=by
 rcases Int.lt_trichotomy x 0 with h|h|h
 ·have:=Int.mul_pos_of_neg_of_neg hk h;rw[decide_eq_false (by omega),decide_eq_true (by omega)];rfl
 ·subst h;simp
 ·have:=Int.mul_neg_of_neg_of_pos hk h;rw[decide_eq_true this,decide_eq_false (by omega)];rfl
theorem xzV{q d}(hp:∀g∈q.forms,PlainL g)(hd:PlainL d)(hl:linE d=0):QExt q (mostQ txt0 d q).2∧(SgOk F σ (mostQ txt0 d q).2.forms→evalS σ (mostQ txt0 d q).1=isS (decide (linV F d≤0))):=by
 unfold mostQ;by_cases c:((d.coefs.length:Int)==0)=true
 ·rw[if_pos c];exact⟨QExt.refl q,fun _=>by rw[xzZ,xz3 F c]⟩
 ·rw[if_neg c];obtain⟨h1,h2⟩:=xzY (F:=F) (σ:=σ) hp hd;obtain⟨k,hk,hs2⟩:=xz0 F hl (zJG c);rcases hs2 with⟨k1,k2⟩|⟨k1,k2⟩
  ·rw[if_neg (by omega)];refine⟨h1,fun hs=>?_⟩;show evalS σ (leafP 13 (askS txt0 d q).1)=_;rw[xzJ (.inr rfl) (h2 hs),if_neg (by decide),hk,xyH k1]
  ·rw[if_pos (by omega)];refine⟨h1,fun hs=>?_⟩;show evalS σ (.mk 16 [] 0 [negP (leafP 13 (askS txt0 d q).1),leafP 10 (askS txt0 d q).1])=_;rw[xyf,xzK,xzJ (.inr rfl) (h2 hs),xzJ (.inl rfl) (h2 hs),if_neg (by decide),if_pos rfl,xzI,xzI,xzI,xzO,xzI,hk,xym k1];congr 1;cases decide (linV F (formL d).1≤0)<;>cases(linV F (formL d).1==0)<;>rfl
theorem xyk{q d}(hp:∀g∈q.forms,PlainL g)(hd:PlainL d)(hl:linE d=0):QExt q (belowQ txt0 d q).2∧(SgOk F σ (belowQ txt0 d q).2.forms→evalS σ (belowQ txt0 d q).1=isS (decide (linV F d<0))):=by
 unfold belowQ;by_cases c:((d.coefs.length:Int)==0)=true
 ·rw[if_pos c];exact⟨QExt.refl q,fun _=>by rw[xzZ,xz3 F c]⟩
 ·rw[if_neg c];obtain⟨h1,h2⟩:=xzY (F:=F) (σ:=σ) hp hd;obtain⟨k,hk,hs2⟩:=xz0 F hl (zJG c);rcases hs2 with⟨k1,k2⟩|⟨k1,k2⟩
  ·rw[if_neg (by omega)];refine⟨h1,fun hs=>?_⟩;show evalS σ (.mk 15 [] 0 [leafP 13 (askS txt0 d q).1,negP (leafP 10 (askS txt0 d q).1)])=_;rw[xzS,xzK,xzJ (.inr rfl) (h2 hs),xzJ (.inl rfl) (h2 hs),if_neg (by decide),if_pos rfl,xzI,xzO,hk,xyI k1]
  ·rw[if_pos (by omega)];refine⟨h1,fun hs=>?_⟩;show evalS σ (negP (leafP 13 (askS txt0 d q).1))=_;rw[xzK,xzJ (.inr rfl) (h2 hs),if_neg (by decide),xzI,hk,xyn k1]
end Go.Abs
end
section
namespace Go.Abs
theorem xyb{n k}(h:(mulI n k).2=true):(mulI n k).1=n*k:=by
 unfold mulI bnd at*
 split at h
 ·rename_i hc;rw[if_pos hc];split at h
  ·rename_i hb;rw[if_pos hb]
  ·cases h
 ·cases h
theorem xyD{n k}(h:(addI n k).2=true):(addI n k).1=n+k:=by
 unfold addI bnd at*
 split at h
 ·rename_i hc;rw[if_pos hc];split at h
  ·rename_i hb;rw[if_pos hb]
  ·cases h
 ·cases h
theorem xyt{n k}(h:(subI n k).2=true):(subI n k).1=n-k:=by
 unfold subI bnd at*
 split at h
 ·rename_i hc;rw[if_pos hc];split at h
  ·rename_i hb;rw[if_pos hb]
  ·cases h
 ·cases h
theorem xzN(F){a k}(h:(scaleL a k).2=true):linV F (scaleL a k).1=k*linV F a:=by
 unfold scaleL at*
 split at h
 ·cases h
 ·rename_i hc;rw[if_neg hc];split at h
  ·rename_i hk;have:k=0:=by simpa using hk
   rw[if_pos hk,this,Int.zero_mul];rfl
  ·rename_i hk;rw[if_neg hk];split at h
   ·rename_i hm;rw[if_pos hm];simp only[Bool.and_eq_true,List.all_eq_true,Bool.or_eq_true,beq_iff_eq]at hm;obtain⟨h1,h2⟩:=hm;have hl:∀l:List Coef,(∀c∈l,mulOk k c=true)→sumC F (l.map (mulC k))=k*sumC F l:=by
     intro l;induction l with
     |nil=>intro _;simp[sumC]
     |cons c l ih=>intro hl;rw[mC,zyX,zyX,ih fun d hd=>hl d (by simp[hd]),Int.mul_add];have:=xyb (hl c (by simp));show(mulI c.n k).1*F c.name+_=_;rw[this,Int.mul_comm c.n k,Int.mul_assoc]
    rw[zvV,zvV];simp only
    rw[hl _ h1,Int.mul_add];congr 1;rcases h2 with h2|h2
    ·rw[h2,yZK,Int.mul_zero]
    ·rw[xyb h2,Int.mul_comm]
   ·cases h
section
variable{at':List Coef}{fs:List Fact}{F:Str→Int}
def HV(at':List Coef)(fs:List Fact)(F:Str→Int):Pred→Prop:=AllN fun t=>(t.op=3∨t.op=4)→(valR at' fs t).2=true→F (nameS t)=(valR at' fs t).1
theorem xyv{s}(h:(varL s).2=true):linV F (varL s).1=F s:=by
 rw[yjO]at*
 split at h
 ·rename_i hc;rw[if_pos hc];simp[linV]
 ·cases h
theorem xzH{o}{s:Str}{n ks}(h1:o≠1)(h2:o≠2)(h3:o≠3)(h5:o≠5)(h:(valR at' fs (.mk o s n ks)).2=true):(∀k∈ks,(valR at' fs k).2=true)∧valR at' fs (.mk o s n ks)=topR at' fs o s (ks.map fun k=>(valR at' fs k).1):=by
 rw[yQY]at h⊢;rw[if_neg (by simp;omega),if_neg (by simp;omega),if_neg (by simp;omega)]at h⊢;split at h
 ·rename_i hc;rw[if_pos hc];exact⟨List.all_eq_true.1 hc,rfl⟩
 ·cases h
theorem xyh{v}(p):Good p→NoHole p→(ofS v p).2=0→(ofS v p).1≠sBool→HV at' fs F p→(valR at' fs p).2=true→(formT p).2=true→linV F (formT p).1=(valR at' fs p).1:=by
 induction p using Pred.ind with
 |h o s n ks ih=>
 intro hg hh h2 h1 hv hr hf;obtain⟨hn,_⟩:=zq4 hg;have h0:nodeE o s n ks=0:=hg _ (zjH o s n ks);have hh5:o≠5:=hh.top;have lo:=hn.lo;have hi:=hn.hi;have he:(∀k∈ks,(ofS v k).2=0)∧ofS v (.mk o s n ks)=nodeS v o s (ks.map fun k=>(ofS v k).1):=by
  rw[zJj]at h2⊢;by_cases h3:(ofS.errs v ks !=0)=true
  ·rw[if_pos h3]at h2;simp only at h2;rw[h2]at h3;cases h3
  ·rw[if_neg h3];exact⟨zYs (by simpa using h3),rfl⟩
 obtain⟨he,hs⟩:=he;rw[hs]at h1 h2;have hd:o=1∨o=2∨o=3∨o=4∨o=6∨o=7∨o=8∨o=9∨o=10∨o=11∨o=12∨o=13∨14≤o:=by omega
 have hint:(o=6∨o=7∨o=8∨o=9)→∀k∈ks,(ofS v k).1=sInt:=fun ho k hk=>by
  have h3:(if allS (ks.map fun k=>(ofS v k).1) sInt then(sInt,(0:Int))else([],11)).2=0:=by rcases ho with rfl|rfl|rfl|rfl<;>exact h2
  by_cases c:allS (ks.map fun k=>(ofS v k).1) sInt=true
  ·exact zZn c _ (List.mem_map.2 ⟨k,hk,rfl⟩)
  ·rw[if_neg c]at h3;cases h3
 have hkid:(o=6∨o=7∨o=8∨o=9)→∀k∈ks,(formT k).2=true→linV F (formT k).1=(valR at' fs k).1:=fun ho k hk hfk=>
  ih k hk (hg.kid hk) (hh.kid hk) (he k hk) (by rw[hint ho k hk];exact zvi) (hv.kid hk) ((xzH (by omega) (by omega) (by omega) (by omega) hr).1 k hk) hfk
 have bad:∀{b:Bool},(if b then(sBool,(0:Int))else([],11)).2=0→(if b then(sBool,(0:Int))else([],11)).1≠sBool→False:=fun{b} h3 h4=>by
  cases b with
  |true=>exact h4 rfl
  |false=>cases h3
 rcases hd with rfl|rfl|rfl|rfl|rfl|rfl|rfl|rfl|rfl|rfl|rfl|rfl|h14
 ·obtain rfl:=zjb hn rfl;have e1:formT (.mk 1 s n [])=(⟨[],n⟩,true):=by rw[formT]<;>first|rfl|simp
  rw[e1,yQY];simp[linV]
 ·exact absurd rfl h1
 ·have hvt:=hv.top (.inl rfl) hr;rw[ykc (.inl rfl)]at hf⊢;rw[xyv hf,hvt]
 ·have hvt:=hv.top (.inr rfl) hr;rw[ykc (.inr rfl)]at hf⊢;rw[xyv hf,hvt]
 ·obtain⟨a,b,rfl⟩:=zqA (l:=ks) (by have:=hn.kd;simp[kidsOk]at this;omega);obtain⟨_,hv2⟩:=xzH (by decide) (by decide) (by decide) (by decide) hr;have hv3:valR at' fs (.mk 6 s n [a,b])=addI (valR at' fs a).1 (valR at' fs b).1:=hv2;rw[zQP]at hf⊢;have hf:((formT a).2&&(formT b).2&&(addL (formT a).1 (formT b).1).2)=true:=hf;simp only[Bool.and_eq_true]at hf;show linV F (addL (formT a).1 (formT b).1).1=_;rw[(yxp F hf.2).2,hkid (.inl rfl) a (by simp) hf.1.1,hkid (.inl rfl) b (by simp) hf.1.2,hv3,xyD (by rw[←hv3];exact hr)]
 ·obtain⟨a,b,rfl⟩:=zqA (l:=ks) (by have:=hn.kd;simp[kidsOk]at this;omega);obtain⟨_,hv2⟩:=xzH (by decide) (by decide) (by decide) (by decide) hr;have hv3:valR at' fs (.mk 7 s n [a,b])=subI (valR at' fs a).1 (valR at' fs b).1:=hv2;rw[zQP]at hf⊢;have hf:((formT a).2&&(formT b).2&&(scaleL (formT b).1 (-1)).2&&(addL (formT a).1 (scaleL (formT b).1 (-1)).1).2)=true:=hf;simp only[Bool.and_eq_true]at hf;show linV F (addL (formT a).1 (scaleL (formT b).1 (-1)).1).1=_;rw[(yxp F hf.2).2,xzN F hf.1.2,hkid (.inr (.inl rfl)) a (by simp) hf.1.1.1,hkid (.inr (.inl rfl)) b (by simp) hf.1.1.2,hv3,xyt (by rw[←hv3];exact hr)];omega
 ·obtain⟨a,b,rfl⟩:=zqA (l:=ks) (by have:=hn.kd;simp[kidsOk]at this;omega);obtain⟨_,hv2⟩:=xzH (by decide) (by decide) (by decide) (by decide) hr;have hv3:valR at' fs (.mk 8 s n [a,b])=mulI (valR at' fs a).1 (valR at' fs b).1:=hv2;have ha1:=yVz h0;have han:(valR at' fs a).1=a.n:=by obtain⟨oa,sa,na,la⟩:=a;have:oa=1:=ha1;subst this;rw[yQY];rfl
  rw[zQP]at hf⊢;have hf:((formT b).2&&(scaleL (formT b).1 a.n).2)=true:=hf;simp only[Bool.and_eq_true]at hf;show linV F (scaleL (formT b).1 a.n).1=_;rw[xzN F hf.2,hkid (.inr (.inr (.inl rfl))) b (by simp) hf.1,hv3,xyb (by rw[←hv3];exact hr),han]
 ·obtain⟨a,rfl⟩:=yv7 (l:=ks) (by have:=hn.kd;simp[kidsOk]at this;omega);obtain⟨_,hv2⟩:=xzH (by decide) (by decide) (by decide) (by decide) hr;have hv3:valR at' fs (.mk 9 s n [a])=subI 0 (valR at' fs a).1:=hv2;have e1:formT (.mk 9 s n [a])=((scaleL (formT a).1 (-1)).1,(formT a).2&&(scaleL (formT a).1 (-1)).2):=by rw[formT];rfl
  rw[e1]at hf⊢;simp only[Bool.and_eq_true]at hf;show linV F (scaleL (formT a).1 (-1)).1=_;rw[xzN F hf.2,hkid (.inr (.inr (.inr rfl))) a (by simp) hf.1,hv3,xyt (by rw[←hv3];exact hr)];omega
 ·exact(bad h2 h1).elim
 ·exact(bad h2 h1).elim
 ·exact(bad h2 h1).elim
 ·exact(bad h2 h1).elim
 ·exfalso;have h6:o=14∨o=15∨o=16∨o=17∨o=18:=by omega
  rcases h6 with rfl|rfl|rfl|rfl|rfl<;>exact bad h2 h1
theorem xyx{v a b}(ga:Good a)(gb:Good b)(na:NoHole a)(nb:NoHole b)(ea:(ofS v a).2=0)(eb:(ofS v b).2=0)(sa:(ofS v a).1≠sBool)(sb:(ofS v b).1≠sBool)(va:HV at' fs F a)(vb:HV at' fs F b)(ra:(valR at' fs a).2=true)(rb:(valR at' fs b).2=true)(h:(diffL a b).2=true):
  linV F (diffL a b).1=(valR at' fs a).1-(valR at' fs b).1:=by
 have h:((formT a).2&&(formT b).2&&(scaleL (formT b).1 (-1)).2&&(addL (formT a).1 (scaleL (formT b).1 (-1)).1).2)=true:=h;simp only[Bool.and_eq_true]at h;show linV F (addL (formT a).1 (scaleL (formT b).1 (-1)).1).1=_;rw[(yxp F h.2).2,xzN F h.1.2,xyh a ga na ea sa va ra h.1.1.1,xyh b gb nb eb sb vb rb h.1.1.2];omega
end
end Go.Abs
end
section
namespace Go.Abs
section
variable{at':List Coef}{fs:List Fact}{F:Str→Int}{σ:List Int}
def TB(v:SEnv)(at':List Coef)(fs:List Fact):Pred→Prop:=AllN fun t=>(t.op=3∨t.op=4)→ofS v t=(sBool,0)→(valR at' fs t).2=true→(valR at' fs t).1=0∨(valR at' fs t).1=1
theorem xyK(b):tru b=0∨tru b=1:=by cases b<;>simp[tru]
theorem xzM{v p}(hg:BG v p)(ht:TB v at' fs p)(hr:(valR at' fs p).2=true):(valR at' fs p).1=0∨(valR at' fs p).1=1:=by
 obtain⟨o,s,n,ks⟩:=p;have key:o≠1→o≠2→o≠3→o≠5→(∀x y,∃b,(compI o x y).1=tru b)→o≠4→(valR at' fs (.mk o s n ks)).1=0∨(valR at' fs (.mk o s n ks)).1=1:=fun h1 h2 h3 h5 hc h4=>by obtain⟨_,e⟩:=xzH h1 h2 h3 h5 hr;rw[e];unfold topR;rw[if_neg (by simpa using h4)];obtain⟨b,hb⟩:=hc _ _;rw[hb];exact xyK b
 rcases yjY hg with⟨rfl,rfl,rfl⟩|h34|⟨hc,_⟩|⟨hc,_⟩|⟨hc,_⟩
 ·have hb:=(zq4 hg.good).1.bl rfl;rw[yQY];show n=0∨n=1;omega
 ·exact ht.top h34 hg.bool hr
 ·rcases hc with rfl|rfl|rfl|rfl|rfl<;>exact key (by decide) (by decide) (by decide) (by decide) (fun x y=>⟨_,rfl⟩) (by decide)
 ·rcases hc with rfl|rfl<;>exact key (by decide) (by decide) (by decide) (by decide) (fun x y=>⟨_,rfl⟩) (by decide)
 ·rcases hc with rfl|rfl<;>exact key (by decide) (by decide) (by decide) (by decide) (fun x y=>⟨_,rfl⟩) (by decide)
theorem xyg{v p}(hg:Good p){q}(hq:PQ q):PQ (predQ v txt0 p q).2:=(yjc (txt:=txt0) (fun _ _=>rfl) p hg q hq).2
theorem xyG{v p q}(h:(predQ v txt0 p q).2.bad=false):q.bad=false:=by
 cases c:q.bad with
 |false=>rfl
 |true=>rw[yZT p q c]at h;cases h
theorem xys{v}(p):BG v p→CK p→HV at' fs F p→TB v at' fs p→(valR at' fs p).2=true→∀q,PQ q→
  QExt q (predQ v txt0 p q).2∧((predQ v txt0 p q).2.bad=false→SgOk F σ (predQ v txt0 p q).2.forms→evalS σ (predQ v txt0 p q).1=isS ((valR at' fs p).1 !=0)):=by
 induction p using Pred.ind with
 |h o s n ks ih=>
 intro hg hck hv ht hr q hq;have two:∀{a b:Pred},ks=[a,b]→BG v a→BG v b→o≠1→o≠2→o≠3→o≠5→QExt q (predQ.go v txt0 ks q).2∧((predQ.go v txt0 ks q).2.bad=false→SgOk F σ (predQ.go v txt0 ks q).2.forms→∃x y,(predQ.go v txt0 ks q).1=[x,y]∧evalS σ x=isS ((valR at' fs a).1 !=0)∧evalS σ y=isS ((valR at' fs b).1 !=0)):=fun{a b} hk ba bb h1 h2 h3 h5=>by have hkr:=(xzH h1 h2 h3 h5 hr).1;subst hk;have ia:=ih a (by simp) ba (hck.kid (by simp)) (hv.kid (by simp)) (ht.kid (by simp)) (hkr a (by simp)) q hq;have ib:=ih b (by simp) bb (hck.kid (by simp)) (hv.kid (by simp)) (ht.kid (by simp)) (hkr b (by simp)) (predQ v txt0 a q).2 (xyg ba.good hq);refine⟨ia.1.trans ib.1,fun hb hs=>?_⟩;have hb:(predQ v txt0 b (predQ v txt0 a q).2).2.bad=false:=hb;have hs:SgOk F σ (predQ v txt0 b (predQ v txt0 a q).2).2.forms:=hs;exact⟨_,_,rfl,ia.2 (xyG hb) (hs.pre ib.1),ib.2 hb hs⟩
 have hcmp:∀{a b:Pred},ks=[a,b]→(ofS v a).2=0→(ofS v b).2=0→(ofS v a).1≠sBool→(ofS v b).1≠sBool→o≠1→o≠2→o≠3→o≠5→(diffL a b).2=true→linV F (diffL a b).1=(valR at' fs a).1-(valR at' fs b).1:=fun{a b} hk ea eb sa sb h1 h2 h3 h5 hd=>by have hkr:=(xzH h1 h2 h3 h5 hr).1;exact xyx (hg.good.kid (k:=a) (by rw[hk];simp)) (hg.good.kid (k:=b) (by rw[hk];simp)) (hg.hole.kid (by rw[hk];simp)) (hg.hole.kid (by rw[hk];simp)) ea eb sa sb (hv.kid (by rw[hk];simp)) (hv.kid (by rw[hk];simp)) (hkr a (by rw[hk];simp)) (hkr b (by rw[hk];simp)) hd
 rw[predQ];rcases yjY hg with⟨rfl,rfl,rfl⟩|h34|⟨hc,hkb⟩|⟨hc,a,b,rfl,ea,eb,hab,hbb⟩|⟨hc,a,b,rfl,ea,eb,hbb⟩
 ·have hb:=(zq4 hg.good).1.bl rfl;refine⟨QExt.refl q,fun _ _=>?_⟩;show evalS σ (.mk 2 [] n [])=_;rw[evalS,yQY];show isS (n==1)=isS (n !=0);congr 1;rcases(by omega:n=0∨n=1)with rfl|rfl<;>rfl
 ·have e1:(o==2)=false:=by rcases h34 with rfl|rfl<;>rfl
  have e2:(o==3||o==4)=true:=by rcases h34 with rfl|rfl<;>rfl
  rw[e1,e2];simp only[Bool.false_eq_true,if_false,if_true];have hvt:=hv.top h34 hr;have htb:=xzM hg ht hr;obtain⟨d1,d2⟩:=yqC (nameS (.mk o s n ks));have hpl:∀g∈((q.take (nameS (.mk o s n ks))).note (lessL (nameS (.mk o s n ks))).2).forms,PlainL g:=by rw[zva,zVB];exact hq.f
  obtain⟨z1,z2⟩:=xz7 (F:=F) (σ:=σ) hpl (zQX (zKz _ hg.good)) (yXT _);refine⟨?_,fun hb hs=>?_⟩
  ·obtain⟨m,hm⟩:=z1;exact⟨m,by unfold valueQ;rw[hm,zva,zVB]⟩
  ·have hok:(lessL (nameS (.mk o s n ks))).2=true:=by
     unfold valueQ at hb;rw[zJW]at hb;have hb:((q.take (nameS (.mk o s n ks))).bad||!(lessL (nameS (.mk o s n ks))).2)=false:=hb;cases c:(lessL (nameS (.mk o s n ks))).2 with
     |true=>rfl
     |false=>rw[c]at hb;simp at hb
   have:=z2 hs;unfold valueQ;rw[this,d2 hok];congr 1;have e:linV F ⟨[⟨nameS (.mk o s n ks),1⟩],-1⟩=(valR at' fs (.mk o s n ks)).1-1:=by rw[zvV];show sumC F [⟨nameS (.mk o s n ks),1⟩]+ -1=_;rw[zyX,←hvt];simp[sumC];omega
   rw[e];rcases htb with h|h<;>rw[h]<;>rfl
 ·have e1:(o==2)=false:=by rcases hc with rfl|rfl|rfl|rfl|rfl<;>rfl
  have e2:(o==3||o==4)=false:=by rcases hc with rfl|rfl|rfl|rfl|rfl<;>rfl
  have e3:(o==10||(o==11||(o==12||o==13)))=false:=by rcases hc with rfl|rfl|rfl|rfl|rfl<;>rfl
  rw[e1,e2,e3];simp only[Bool.false_eq_true,if_false];have hn:=(zq4 hg.good).1;by_cases h14:o=14
  ·subst h14;obtain⟨a,rfl⟩:=yv7 (l:=ks) (by have:=hn.kd;simp[kidsOk]at this;omega);obtain⟨hkr,hv2⟩:=xzH (by decide) (by decide) (by decide) (by decide) hr;have hv3:valR at' fs (.mk 14 s n [a])=(tru ((valR at' fs a).1==0),true):=hv2;have ia:=ih a (by simp) (hkb a (by simp)) (hck.kid (by simp)) (hv.kid (by simp)) (ht.kid (by simp)) (hkr a (by simp)) q hq;refine⟨ia.1,fun hb hs=>?_⟩;show evalS σ (negP (predQ v txt0 a q).1)=_;rw[xzK,ia.2 hb hs,hv3,xzI];congr 1;cases c:((valR at' fs a).1==0)<;>simp[tru,bne,c]
  ·obtain⟨a,b,rfl⟩:=zqA (l:=ks) (by have:=zVc hn.kd (by omega);omega);obtain⟨_,hv2⟩:=xzH (o:=o) (by omega) (by omega) (by omega) (by omega) hr;obtain⟨t1,t2⟩:=two rfl (hkb a (by simp)) (hkb b (by simp)) (by omega) (by omega) (by omega) (by omega);refine⟨t1,fun hb hs=>?_⟩;obtain⟨x,y,hxy,hx,hy⟩:=t2 hb hs;show evalS σ (.mk o [] 0 (predQ.go v txt0 [a,b] q).1)=_;rw[hxy];generalize hA:((valR at' fs a).1 !=0)=A at*
   generalize hB:((valR at' fs b).1 !=0)=B at*
   have hA':((valR at' fs a).1==0)=!A:=by rw[←hA];simp[bne]
   have tn:∀b:Bool,(tru b !=0)=b:=fun b=>by cases b<;>rfl
   rcases hc with rfl|rfl|rfl|rfl|rfl
   ·exact absurd rfl h14
   ·have hv3:valR at' fs (.mk 15 s n [a,b])=(tru ((valR at' fs a).1 !=0&&(valR at' fs b).1 !=0),true):=hv2;rw[xzS,hx,hy,hv3,hA,hB,xzO,tn]
   ·have hv3:valR at' fs (.mk 16 s n [a,b])=(tru ((valR at' fs a).1 !=0||(valR at' fs b).1 !=0),true):=hv2;rw[xyf,hx,hy,hv3,hA,hB,xzI,xzI,xzO,xzI,tn];cases A<;>cases B<;>rfl
   ·have hv3:valR at' fs (.mk 17 s n [a,b])=(tru ((valR at' fs a).1==0||(valR at' fs b).1 !=0),true):=hv2;rw[xyp,hx,hy,hv3,hA',hB,xzI,xzO,xzI,tn];cases A<;>cases B<;>rfl
   ·have hv3:valR at' fs (.mk 18 s n [a,b])=(tru (((valR at' fs a).1 !=0)==((valR at' fs b).1 !=0)),true):=hv2;rw[xzT σ x y A B hx hy,hv3,hA,hB,tn]
 ·have e1:(o==2)=false:=by rcases hc with rfl|rfl<;>rfl
  have e2:(o==3||o==4)=false:=by rcases hc with rfl|rfl<;>rfl
  have e3:(o==10||(o==11||(o==12||o==13)))=true:=by rcases hc with rfl|rfl<;>rfl
  rw[e1,e2,e3];simp only[Bool.false_eq_true,if_false,if_true,List.getD_cons_zero,List.getD_cons_succ];have tn:∀b:Bool,(tru b !=0)=b:=fun b=>by cases b<;>rfl
  obtain⟨hkr,hv2⟩:=xzH (o:=o) (by omega) (by omega) (by omega) (by omega) hr;have hv3:valR at' fs (.mk o s n [a,b])=(if o=10 then tru ((valR at' fs a).1==(valR at' fs b).1)else tru ((valR at' fs a).1 !=(valR at' fs b).1),true):=by rw[hv2];rcases hc with rfl|rfl<;>rfl
  cases hsb:(srt v a==sBool)with
  |true=>
   obtain⟨ba,bb⟩:=hbb hsb;simp only[if_true];obtain⟨t1,t2⟩:=two rfl ba bb (by omega) (by omega) (by omega) (by omega);refine⟨t1,fun hb hs=>?_⟩;obtain⟨x,y,hxy,hx,hy⟩:=t2 hb hs;show evalS σ (iffQ o (predQ.go v txt0 [a,b] q).1)=_;have va:=xzM ba (ht.kid (by simp)) (hkr a (by simp));have vb:=xzM bb (ht.kid (by simp)) (hkr b (by simp));rw[hxy,hv3];unfold iffQ;rcases hc with rfl|rfl
   ·rw[if_neg (by decide),xzT σ x y _ _ hx hy,if_pos rfl,tn];congr 1;rcases va with h|h<;>rcases vb with h'|h'<;>rw[h,h']<;>rfl
   ·rw[if_pos (beq_self_eq_true (11:Int)),xzK,xzT σ x y _ _ hx hy,if_neg (by decide),tn,xzI];congr 1;rcases va with h|h<;>rcases vb with h'|h'<;>rw[h,h']<;>rfl
  |false=>
   have hca:=hck.top hc a (by show a∈[a,b];simp);have sa:(ofS v a).1≠sBool:=fun e=>by rw[xzE hca,e]at hsb;simp at hsb
   have sb:(ofS v b).1≠sBool:=by rw[←hab];exact sa
   simp only[Bool.false_eq_true,if_false];have hpl:=yyb (hg.good.kid (k:=a) (by simp)) (hg.good.kid (k:=b) (by simp));obtain⟨z1,z2⟩:=xz7 (F:=F) (σ:=σ) (q:=q.note (diffL a b).2) hq.f hpl (yvM a b);have hq0:o=10∨o=11:=hc;unfold cmpQ;by_cases cb:(q.note (diffL a b).2).bad=true
   ·rw[if_pos cb];exact⟨QExt.refl q,fun hb=>by rw[cb]at hb;cases hb⟩
   ·rw[if_neg cb];have hok:(diffL a b).2=true:=by
     have cb:¬(q.bad||!(diffL a b).2)=true:=cb;cases c:(diffL a b).2 with
     |true=>rfl
     |false=>rw[c]at cb;simp at cb
    have hval:=hcmp rfl ea eb sa sb (by omega) (by omega) (by omega) (by omega) hok;have hz:(linV F (diffL a b).1==0)=((valR at' fs a).1==(valR at' fs b).1):=by
     rw[hval];by_cases e:(valR at' fs a).1=(valR at' fs b).1
     ·rw[e];simp
     ·rw[show((valR at' fs a).1==(valR at' fs b).1)=false by simpa using e];simp;omega
    rcases hc with rfl|rfl
    ·rw[if_pos (beq_self_eq_true (10:Int))];refine⟨z1,fun hb hs=>?_⟩;rw[z2 hs,hv3,if_pos rfl,tn,hz]
    ·rw[if_neg (by decide),if_pos (beq_self_eq_true (11:Int))];refine⟨z1,fun hb hs=>?_⟩;show evalS σ (negP _)=_;rw[xzK,z2 hs,hv3,if_neg (by decide),tn,hz,xzI];rfl
 ·have e1:(o==2)=false:=by rcases hc with rfl|rfl<;>rfl
  have e2:(o==3||o==4)=false:=by rcases hc with rfl|rfl<;>rfl
  have e3:(o==10||(o==11||(o==12||o==13)))=true:=by rcases hc with rfl|rfl<;>rfl
  rw[e1,e2,e3];simp only[Bool.false_eq_true,if_false,if_true,List.getD_cons_zero,List.getD_cons_succ,hbb];have tn:∀b:Bool,(tru b !=0)=b:=fun b=>by cases b<;>rfl
  obtain⟨hkr,hv2⟩:=xzH (o:=o) (by omega) (by omega) (by omega) (by omega) hr;have hv3:valR at' fs (.mk o s n [a,b])=(if o=12 then tru (decide ((valR at' fs a).1<(valR at' fs b).1))else tru (decide ((valR at' fs a).1≤(valR at' fs b).1)),true):=by rw[hv2];rcases hc with rfl|rfl<;>rfl
  have hsi:∀{x:Str×Int},x=(sInt,0)→x.2=0∧x.1≠sBool:=fun{x} hx=>by rw[hx];exact⟨rfl,zvi⟩
  have hpl:=yyb (hg.good.kid (k:=a) (by simp)) (hg.good.kid (k:=b) (by simp));obtain⟨m1,m2⟩:=xzV (F:=F) (σ:=σ) (q:=q.note (diffL a b).2) hq.f hpl (yvM a b);obtain⟨l1,l2⟩:=xyk (F:=F) (σ:=σ) (q:=q.note (diffL a b).2) hq.f hpl (yvM a b);unfold cmpQ;by_cases cb:(q.note (diffL a b).2).bad=true
  ·rw[if_pos cb];exact⟨QExt.refl q,fun hb=>by rw[cb]at hb;cases hb⟩
  ·rw[if_neg cb];have hok:(diffL a b).2=true:=by
    have cb:¬(q.bad||!(diffL a b).2)=true:=cb;cases c:(diffL a b).2 with
    |true=>rfl
    |false=>rw[c]at cb;simp at cb
   have hval:=hcmp rfl (hsi ea).1 (hsi eb).1 (hsi ea).2 (hsi eb).2 (by omega) (by omega) (by omega) (by omega) hok;rcases hc with rfl|rfl
   ·rw[if_neg (by decide),if_neg (by decide),if_neg (by decide)];refine⟨l1,fun hb hs=>?_⟩;rw[l2 hs,hv3,if_pos rfl,tn,hval];congr 1;exact decide_eq_decide.2 (by omega)
   ·rw[if_neg (by decide),if_neg (by decide),if_pos (beq_self_eq_true (13:Int))];refine⟨m1,fun hb hs=>?_⟩;rw[m2 hs,hv3,if_neg (by decide),tn,hval];congr 1;exact decide_eq_decide.2 (by omega)
end
end Go.Abs
end
section
namespace Go.Abs
section
variable{at':List Coef}{fs:List Fact}{F:Str→Int}{σ:List Int}
def B01(F:Str→Int)(q:QS):Prop:=∀s∈q.bools,F s=0∨F s=1
theorem xzL(d)(q):(zeroQ txt0 d q).2.bools=q.bools:=by
 unfold zeroQ;split
 ·rfl
 ·exact(zWV txt0 d q).2.2
theorem xya(d)(q):(mostQ txt0 d q).2.bools=q.bools:=by
 unfold mostQ;split
 ·rfl
 ·split<;>exact(zWV txt0 d q).2.2
theorem xz4(d)(q):(belowQ txt0 d q).2.bools=q.bools:=by
 unfold belowQ;split
 ·rfl
 ·split<;>exact(zWV txt0 d q).2.2
theorem xzW(o)(d)(q):(cmpQ txt0 o d q).2.bools=q.bools:=by
 unfold cmpQ;split
 ·rfl
 ·split
  ·exact xzL _ _
  ·split
   ·exact xzL _ _
   ·split
    ·exact xya _ _
    ·exact xz4 _ _
theorem xz1{v}:∀{l} {q},(∀k∈l,∀q:QS,B01 F q→B01 F (predQ v txt0 k q).2)→B01 F q→B01 F (predQ.go v txt0 l q).2
 |[],_,_,h=>h
 |k::l,q,hk,h=>by rw[predQ.go];exact xz1 (fun x hx=>hk x (by simp[hx])) (hk k (by simp) q h)
theorem xyo{v}(p):BG v p→HV at' fs F p→TB v at' fs p→(valR at' fs p).2=true→∀q:QS,B01 F q→B01 F (predQ v txt0 p q).2:=by
 induction p using Pred.ind with
 |h o s n ks ih=>
 intro hg hv ht hr q hq;rw[predQ];rcases yjY hg with⟨rfl,rfl,rfl⟩|h34|⟨hc,hkb⟩|⟨hc,a,b,rfl,ea,eb,hab,hbb⟩|⟨hc,a,b,rfl,ea,eb,hbb⟩
 ·exact hq
 ·have e1:(o==2)=false:=by rcases h34 with rfl|rfl<;>rfl
  have e2:(o==3||o==4)=true:=by rcases h34 with rfl|rfl<;>rfl
  rw[e1,e2];simp only[Bool.false_eq_true,if_false,if_true];have hvt:=hv.top h34 hr;have htb:=xzM hg ht hr;intro t htm;unfold valueQ at htm;rw[xzL,yQ4]at htm;unfold QS.take at htm;split at htm
  ·exact hq t htm
  ·rcases List.mem_append.1 htm with h|h
   ·exact hq t h
   ·rw[List.mem_singleton.1 h,hvt];exact htb
 ·have e1:(o==2)=false:=by rcases hc with rfl|rfl|rfl|rfl|rfl<;>rfl
  have e2:(o==3||o==4)=false:=by rcases hc with rfl|rfl|rfl|rfl|rfl<;>rfl
  have e3:(o==10||(o==11||(o==12||o==13)))=false:=by rcases hc with rfl|rfl|rfl|rfl|rfl<;>rfl
  rw[e1,e2,e3];simp only[Bool.false_eq_true,if_false];have hkr:=(xzH (by omega) (by omega) (by omega) (by omega) hr).1;exact xz1 (fun k hk q'=>ih k hk (hkb k hk) (hv.kid hk) (ht.kid hk) (hkr k hk) q') hq
 ·have e1:(o==2)=false:=by rcases hc with rfl|rfl<;>rfl
  have e2:(o==3||o==4)=false:=by rcases hc with rfl|rfl<;>rfl
  have e3:(o==10||(o==11||(o==12||o==13)))=true:=by rcases hc with rfl|rfl<;>rfl
  rw[e1,e2,e3];simp only[Bool.false_eq_true,if_false,if_true,List.getD_cons_zero,List.getD_cons_succ];have hkr:=(xzH (by omega) (by omega) (by omega) (by omega) hr).1;cases hsb:(srt v a==sBool)with
  |true=>
   obtain⟨ba,bb⟩:=hbb hsb;simp only[if_true];refine xz1 (fun k hk q'=>?_) hq;have hk2:=hk;simp only[List.mem_cons,List.not_mem_nil,or_false]at hk2;rcases hk2 with rfl|rfl
   ·exact ih k hk ba (hv.kid hk) (ht.kid hk) (hkr k hk) q'
   ·exact ih k hk bb (hv.kid hk) (ht.kid hk) (hkr k hk) q'
  |false=>simp only[Bool.false_eq_true,if_false];intro t htm;rw[xzW]at htm;exact hq t htm
 ·have e1:(o==2)=false:=by rcases hc with rfl|rfl<;>rfl
  have e2:(o==3||o==4)=false:=by rcases hc with rfl|rfl<;>rfl
  have e3:(o==10||(o==11||(o==12||o==13)))=true:=by rcases hc with rfl|rfl<;>rfl
  rw[e1,e2,e3];simp only[Bool.false_eq_true,if_false,if_true,List.getD_cons_zero,List.getD_cons_succ,hbb];intro t htm;rw[xzW]at htm;exact hq t htm
structure MK(v:SEnv)(at':List Coef)(fs:List Fact)(F:Str→Int)(k:Pred):Prop where
 bg:BG v k
 ck:CK k
 hv:HV at' fs F k
 tb:TB v at' fs k
 ok:(valR at' fs k).2=true
theorem xz5{v l ps q}(h:q.bad=true):eachQ v txt0 l ps q=(ps,q):=by
 cases l with
 |nil=>rfl
 |cons k l=>rw[eachQ,if_pos h]
theorem xzR{v}:∀{l ps} {q},(∀k∈l,MK v at' fs F k)→PQ q→B01 F q→
  QExt q (eachQ v txt0 l ps q).2∧PQ (eachQ v txt0 l ps q).2∧B01 F (eachQ v txt0 l ps q).2∧((eachQ v txt0 l ps q).2.bad=false→SgOk F σ (eachQ v txt0 l ps q).2.forms→∃xs,(eachQ v txt0 l ps q).1=ps++xs∧xs.map (evalS σ)=l.map fun k=>isS ((valR at' fs k).1 !=0))
 |[],ps,q,_,hp,hb=>⟨QExt.refl q,hp,hb,fun _ _=>⟨[],by simp[eachQ],rfl⟩⟩
 |k::l,ps,q,hk,hp,hb=>by
  have m:=hk k (by simp);obtain⟨p1,p2⟩:=xys (F:=F) (σ:=σ) k m.bg m.ck m.hv m.tb m.ok q hp;have p3:=xyg (v:=v) m.bg.good hp;have p4:=xyo k m.bg m.hv m.tb m.ok q hb;obtain⟨r1,r2,r3,r4⟩:=xzR (l:=l) (ps:=ps++[(predQ v txt0 k q).1]) (fun x hx=>hk x (by simp[hx])) p3 p4;rw[eachQ];split
  ·rename_i hbad;exact⟨QExt.refl q,hp,hb,fun h=>by rw[hbad]at h;cases h⟩
  ·refine⟨p1.trans r1,r2,r3,fun h hs=>?_⟩;obtain⟨xs,h1,h2⟩:=r4 h hs;have hb2:(predQ v txt0 k q).2.bad=false:=by
    cases c:(predQ v txt0 k q).2.bad with
    |false=>rfl
    |true=>rw[xz5 c]at h;rw[c]at h;exact h
   refine⟨(predQ v txt0 k q).1::xs,by rw[h1,List.append_assoc];rfl,?_⟩;rw[mC,mC,h2,p2 hb2 (hs.pre r1)]
theorem xye:∀{l} {ps} {q},(∀s∈l,s.all plc=true∧(F s=0∨F s=1))→PQ q→
  QExt q (bndQ txt0 l ps q).2∧((bndQ txt0 l ps q).2.bad=false→SgOk F σ (bndQ txt0 l ps q).2.forms→∃xs,(bndQ txt0 l ps q).1=ps++xs∧∀x∈xs,evalS σ x=1)
 |[],ps,q,_,hp=>⟨QExt.refl q,fun _ _=>⟨[],by simp[bndQ],by simp⟩⟩
 |s::l,ps,q,hl,hp=>by
  obtain⟨hs,h01⟩:=hl s (by simp);have q1:=(zVK (txt:=txt0) (fun _ _=>rfl) (s:=s) (up:=false) hs hp).2;have q2:=(zVK (txt:=txt0) (fun _ _=>rfl) (s:=s) (up:=true) hs q1).2;obtain⟨m1,m2⟩:=xzV (F:=F) (σ:=σ) (q:=q.note (negL s).2) hp.f (yZL hs) (yQt s);obtain⟨n1,n2⟩:=xzV (F:=F) (σ:=σ) (q:=(boundQ txt0 s false q).2.note (lessL s).2) q1.f (zQX hs) (yXT s);have k1:QExt q (boundQ txt0 s false q).2:=m1;have k2:QExt (boundQ txt0 s false q).2 (boundQ txt0 s true (boundQ txt0 s false q).2).2:=n1;obtain⟨r1,r2⟩:=xye (l:=l) (ps:=ps++[(boundQ txt0 s false q).1,(boundQ txt0 s true (boundQ txt0 s false q).2).1]) (fun x hx=>hl x (by simp[hx])) q2;rw[bndQ];split
  ·rename_i hbad;exact⟨QExt.refl q,fun h=>by rw[hbad]at h;cases h⟩
  ·refine⟨(k1.trans k2).trans r1,fun h hsg=>?_⟩;obtain⟨xs,x1,x2⟩:=r2 h hsg;have hb2:(boundQ txt0 s true (boundQ txt0 s false q).2).2.bad=false:=by
    cases c:(boundQ txt0 s true (boundQ txt0 s false q).2).2.bad with
    |false=>rfl
    |true=>rw[yKG c]at h;rw[c]at h;exact h
   have hb3:(mostQ txt0 (lessL s).1 ((boundQ txt0 s false q).2.note (lessL s).2)).2.bad=false:=hb2;rw[yx0]at hb3;have hb3:((boundQ txt0 s false q).2.bad||!(lessL s).2)=false:=hb3;have hok:(lessL s).2=true:=by
    cases c:(lessL s).2 with
    |true=>rfl
    |false=>rw[c]at hb3;simp at hb3
   obtain⟨d1,d2⟩:=yqC s;have hlin:linE ⟨[⟨s,1⟩],-1⟩=0:=by rw[hok]at d1;simpa using d1.symm
   have hn:=yQs s hlin;have v1:evalS σ (boundQ txt0 s false q).1=1:=by
    have:=m2 ((hsg.pre r1).pre k2);have e:(boundQ txt0 s false q).1=(mostQ txt0 (negL s).1 (q.note (negL s).2)).1:=rfl;rw[e,this,hn];have e2:linV F ⟨[⟨s,-1⟩],0⟩= -F s:=by rw[zvV];show sumC F [⟨s,-1⟩]+0=_;rw[zyX];simp[sumC]
    rw[e2,decide_eq_true (by omega)];rfl
   have v2:evalS σ (boundQ txt0 s true (boundQ txt0 s false q).2).1=1:=by
    have:=n2 (hsg.pre r1);have e:(boundQ txt0 s true (boundQ txt0 s false q).2).1=(mostQ txt0 (lessL s).1 ((boundQ txt0 s false q).2.note (lessL s).2)).1:=rfl;rw[e,this,d2 hok];have e2:linV F ⟨[⟨s,1⟩],-1⟩=F s-1:=by rw[zvV];show sumC F [⟨s,1⟩]+ -1=_;rw[zyX];simp[sumC];omega
    rw[e2,decide_eq_true (by omega)];rfl
   refine⟨(boundQ txt0 s false q).1::(boundQ txt0 s true (boundQ txt0 s false q).2).1::xs,by rw[x1,List.append_assoc];rfl,fun x hx=>?_⟩;rcases List.mem_cons.1 hx with rfl|hx
   ·exact v1
   ·rcases List.mem_cons.1 hx with rfl|hx
    ·exact v2
    ·exact x2 x hx
theorem xyl{l}(h:∀x∈l,∃b,evalS σ x=isS b):evalS σ (andP l)=isS (l.all fun x=>evalS σ x==1):=by
 have hz:evalS σ zeroP= -1:=by show evalS σ (.mk 0 [] 0 [])=_;rw[evalS];rfl
 have ht:evalS σ trueP=1:=by show evalS σ (.mk 2 [] 1 [])=_;rw[evalS];rfl
 have hf:evalS σ falseP=0:=by show evalS σ (.mk 2 [] 0 [])=_;rw[evalS];rfl
 have hvd:∀x,(∃b,evalS σ x=isS b)→voidP x=true→evalS σ x=1:=fun x ⟨b,hb⟩ hv=>by
  unfold voidP at hv;rcases Bool.or_eq_true _ _▸hv with e|e
  ·rw[(Pred.zyC _ _).1 e,hz]at hb;cases b<;>simp[isS]at hb
  ·rw[(Pred.zyC _ _).1 e,ht]
 have key:∀l:List Pred,(∀x∈l,∃b,evalS σ x=isS b)→evalS σ (andGo l).1=isS (l.all fun x=>evalS σ x==1)∧((andGo l).2=false→(andGo l).1=trueP):=by
  refine snocI (fun _=>⟨ht,fun _=>rfl⟩) fun l x ih h=>?_;obtain⟨i1,i2⟩:=ih fun y hy=>h y (by simp[hy]);have hx:=h x (by simp);rw[zqJ,List.all_append,List.all_cons,List.all_nil,Bool.and_true];unfold andStp;cases c:voidP x with
  |true=>rw[hvd x hx c];simp only[if_true,beq_self_eq_true,Bool.and_true];exact⟨i1,i2⟩
  |false=>
   simp only[Bool.false_eq_true,if_false];obtain⟨b,hb⟩:=hx;have hb1:(evalS σ x==1)=b:=by rw[hb];cases b<;>rfl
   cases c2:(andGo l).2 with
   |true=>simp only[if_true];refine⟨?_,fun h=>by cases h⟩;rw[xzS,i1,hb,xzO];congr 2;cases b<;>rfl
   |false=>
    simp only[Bool.false_eq_true,if_false];refine⟨?_,fun h=>by cases h⟩;have h1:=i2 c2;rw[h1,ht]at i1;have:(l.all fun x=>evalS σ x==1)=true:=by
     cases c3:(l.all fun x=>evalS σ x==1)with
     |true=>rfl
     |false=>rw[c3]at i1;cases i1
    rw[this,Bool.true_and,hb1,hb]
 unfold andP;split
 ·rename_i ha;obtain⟨x,hx,hxf⟩:=List.any_eq_true.1 ha;unfold isFalse at hxf;rw[Bool.and_eq_true]at hxf;have:x=falseP:=(Pred.zyC _ _).1 hxf.2;have hall:(l.all fun x=>evalS σ x==1)=false:=by
   cases c3:(l.all fun x=>evalS σ x==1)with
   |false=>rfl
   |true=>have:=List.all_eq_true.1 c3 x hx;rw[‹x=falseP›,hf]at this;cases this
  rw[hall,hf];rfl
 ·exact(key l h).1
end
end Go.Abs
end
section
namespace Go.Abs
section
variable{at':List Coef}{fs:List Fact}{F:Str→Int}{σ:List Int}
theorem xzQ{o a b}(h1:o≠1)(h2:o≠2)(h3:o≠3)(h4:o≠4)(h5:o≠5)(ra:(valR at' fs a).2=true)(rb:(valR at' fs b).2=true):valR at' fs (.mk o [] 0 [a,b])=compI o (valR at' fs a).1 (valR at' fs b).1:=by rw[yQY,if_neg (by simp;omega),if_neg (by simpa using h3),if_neg (by simpa using h5),if_pos (by simp[ra,rb])];unfold topR;rw[if_neg (by simpa using h4)];rfl
theorem xz8{v a b}(ra:(valR at' fs a).2=true)(rb:(valR at' fs b).2=true):
  valR at' fs (eqnS v a b)=(tru (if(OfS v a).2==0&&(OfS v a).1==sBool then((valR at' fs a).1 !=0)==((valR at' fs b).1 !=0)else(valR at' fs a).1==(valR at' fs b).1),true):=by
 unfold eqnS;cases c:((OfS v a).2==0&&(OfS v a).1==sBool)with
 |true=>simp only[if_true];rw[xzQ (by decide) (by decide) (by decide) (by decide) (by decide) ra rb];rfl
 |false=>simp only[Bool.false_eq_true,if_false];rw[xzQ (by decide) (by decide) (by decide) (by decide) (by decide) ra rb];rfl
theorem xyu{b}(h:tru b≠0):b=true:=by
 cases b with
 |true=>rfl
 |false=>exact absurd rfl h
theorem xyC{l}(h:∀x∈l,(valR at' fs x).2=true)(ho:∀x∈l,x.op=10∨x.op=18):(valR at' fs (andP l)).2=true∧((valR at' fs (andP l)).1≠0→∀x∈l,(valR at' fs x).1≠0):=by
 have hv:∀x:Pred,(x.op=10∨x.op=18)→voidP x=false∧isFalse x=false:=fun x hx=>by
  have key:∀y:Pred,¬(y.op=10∨y.op=18)→x.same y=false:=fun y hy=>by
   cases e:x.same y with
   |false=>rfl
   |true=>rw[(Pred.zyC _ _).1 e]at hx;exact absurd hx hy
  have h0:=key zeroP (by decide);have h1:=key trueP (by decide);have h2:=key falseP (by decide);unfold isFalse voidP;rw[h0,h1,h2];exact⟨rfl,rfl⟩
 have ht:valR at' fs trueP=(1,true):=by show valR at' fs (.mk 2 [] 1 [])=_;rw[yQY];rfl
 have key:∀l:List Pred,(∀x∈l,(valR at' fs x).2=true∧(x.op=10∨x.op=18))→(valR at' fs (andGo l).1).2=true∧((valR at' fs (andGo l).1).1≠0→∀x∈l,(valR at' fs x).1≠0)∧((andGo l).2=false→l=[]):=by
  refine snocI (fun _=>⟨(by show(valR at' fs trueP).2=true;rw[ht]),(fun _ x hx=>(by cases hx)),fun _=>rfl⟩) fun l x ih h=>?_;obtain⟨i1,i2,i3⟩:=ih fun y hy=>h y (by simp[hy]);obtain⟨hx,hxo⟩:=h x (by simp);rw[zqJ];unfold andStp;rw[(hv x hxo).1];simp only[Bool.false_eq_true,if_false];cases c2:(andGo l).2 with
  |true=>
   simp only[if_true];rw[xzQ (by decide) (by decide) (by decide) (by decide) (by decide) i1 hx];refine⟨rfl,fun hne y hy=>?_,fun h=>by cases h⟩;have hb:((valR at' fs (andGo l).1).1 !=0&&(valR at' fs x).1 !=0)=true:=xyu hne;simp only[Bool.and_eq_true,bne_iff_ne]at hb;rcases List.mem_append.1 hy with hy|hy
   ·exact i2 hb.1 y hy
   ·rw[List.mem_singleton.1 hy];exact hb.2
  |false=>simp only[Bool.false_eq_true,if_false];have hl:=i3 c2;subst hl;refine⟨hx,fun hne y hy=>?_,fun h=>by cases h⟩;have hy:y∈[x]:=hy;rw[List.mem_singleton.1 hy];exact hne
 have k:=key l fun x hx=>⟨h x hx,ho x hx⟩;unfold andP;split
 ·rename_i ha;obtain⟨x,hx,hxf⟩:=List.any_eq_true.1 ha;rw[(hv x (ho x hx)).2]at hxf;cases hxf
 ·exact⟨k.1,k.2.1⟩
theorem xyj{v}:∀{la lb},la.map (srt v)=lb.map (srt v)→(∀k∈la,(valR at' fs k).2=true∧((OfS v k).1=sBool→(valR at' fs k).1=0∨(valR at' fs k).1=1))→(∀k∈lb,(valR at' fs k).2=true∧((OfS v k).1=sBool→(valR at' fs k).1=0∨(valR at' fs k).1=1))→(∀x∈List.zipWith (eqnS v) la lb,(valR at' fs x).1≠0)→la.map (fun k=>(valR at' fs k).1)=lb.map (fun k=>(valR at' fs k).1)
 |[],[],_,_,_,_=>rfl
 |[],_::_,h,_,_,_=>by simp at h
 |_::_,[],h,_,_,_=>by simp at h
 |a::la,b::lb,h,ha,hb,hx=>by
  rw[mC,mC]at h;obtain⟨h1,h2⟩:=List.cons.inj h;have e:=hx (eqnS v a b) (by simp);obtain⟨ra,a01⟩:=ha a (by simp);obtain⟨rb,b01⟩:=hb b (by simp);rw[xz8 ra rb]at e;have e:=xyu e;have e2:(valR at' fs a).1=(valR at' fs b).1:=by
   cases c:((OfS v a).2==0&&(OfS v a).1==sBool)with
   |true=>
    rw[c]at e;simp only[if_true]at e;rw[Bool.and_eq_true]at c;have hs:(OfS v a).1=sBool:=by simpa using c.2
    have hs2:(OfS v b).1=sBool:=by have:(OfS v a).1=(OfS v b).1:=h1;rw[←this];exact hs
    rcases a01 hs with h|h<;>rcases b01 hs2 with h'|h'<;>rw[h,h']at e⊢
    ·cases e
    ·cases e
   |false=>rw[c]at e;simpa using e
  rw[mC,mC,e2,xyj h2 (fun k hk=>ha k (by simp[hk])) (fun k hk=>hb k (by simp[hk])) fun x hx'=>hx x (by simp[hx'])]
theorem xyw{v a b}(ra:(valR at' fs a).2=true)(rb:(valR at' fs b).2=true)
  (ka:∀k∈a.kids,(OfS v k).1=sBool→(valR at' fs k).2=true→(valR at' fs k).1=0∨(valR at' fs k).1=1) (kb:∀k∈b.kids,(OfS v k).1=sBool→(valR at' fs k).2=true→(valR at' fs k).1=0∨(valR at' fs k).1=1):
  ∀c∈congS v a b,valR at' fs c=(1,true):=by
 intro c hc;obtain⟨oa,sa,na,la⟩:=a;obtain⟨ob,sb,nb,lb⟩:=b;unfold congS at hc;split at hc
 ·cases hc
 rename_i hn;rw[List.mem_singleton]at hc;subst hc;have ka:∀k∈la,_:=ka;have kb:∀k∈lb,_:=kb;have hn:¬((oa !=4||ob !=4||sa !=sb||!alikeS v la lb)=true):=hn;have hn:oa=4∧ob=4∧sa=sb∧alikeS v la lb=true:=by simp only[Bool.or_eq_true,bne_iff_ne,Bool.not_eq_true',not_or,Decidable.not_not,Bool.not_eq_false]at hn;exact⟨hn.1.1.1,hn.1.1.2,hn.1.2,hn.2⟩
 obtain⟨rfl,rfl,rfl,hal⟩:=hn;obtain⟨va,ea⟩:=xzH (by decide) (by decide) (by decide) (by decide) ra;obtain⟨vb,eb⟩:=xzH (by decide) (by decide) (by decide) (by decide) rb;have hs:la.map (srt v)=lb.map (srt v):=by simpa[alikeS]using hal
 show valR at' fs (.mk 17 [] 0 [andP (List.zipWith (eqnS v) la lb),eqnS v (.mk 4 sa na la) (.mk 4 sa nb lb)])=_;have hop:∀x∈List.zipWith (eqnS v) la lb,x.op=10∨x.op=18:=fun x hx=>by obtain⟨k,_,k',_,rfl⟩:=yjS hx;unfold eqnS;show(if _ then(18:Int)else 10)=10∨(if _ then(18:Int)else 10)=18;split<;>simp
 have hval:∀x∈List.zipWith (eqnS v) la lb,(valR at' fs x).2=true:=fun x hx=>by obtain⟨k,hk,k',hk',rfl⟩:=yjS hx;rw[xz8 (va k hk) (vb k' hk')]
 obtain⟨h1,h2⟩:=xyC hval hop;have he:=xz8 (v:=v) ra rb;rw[xzQ (by decide) (by decide) (by decide) (by decide) (by decide) h1 (by rw[he])];show(tru ((valR at' fs (andP (List.zipWith (eqnS v) la lb))).1==0||(valR at' fs (eqnS v (.mk 4 sa na la) (.mk 4 sa nb lb))).1 !=0),true)=_;by_cases h0:(valR at' fs (andP (List.zipWith (eqnS v) la lb))).1=0
 ·rw[h0];rfl
 ·have hl:=xyj hs (fun k hk=>⟨va k hk,fun hb=>ka k hk hb (va k hk)⟩) (fun k hk=>⟨vb k hk,fun hb=>kb k hk hb (vb k hk)⟩) (h2 h0);have hab:valR at' fs (.mk 4 sa na la)=valR at' fs (.mk 4 sa nb lb):=by rw[ea,eb,hl]
  rw[he,hab];have:(if(OfS v (.mk 4 sa na la)).2==0&&(OfS v (.mk 4 sa na la)).1==sBool then((valR at' fs (.mk 4 sa nb lb)).1 !=0)==((valR at' fs (.mk 4 sa nb lb)).1 !=0)else(valR at' fs (.mk 4 sa nb lb)).1==(valR at' fs (.mk 4 sa nb lb)).1)=true:=by split<;>simp
  rw[this];simp[tru]
theorem xzP{v}{P:Pred→Prop}:∀{l},(∀a∈l,∀b∈l,∀c∈congS v a b,P c)→∀c∈closS v l,P c
 |[],_,c,hc=>by cases hc
 |a::r,h,c,hc=>by
  rw[closS]at hc;rcases List.mem_append.1 hc with hc|hc
  ·obtain⟨b,hb,hc⟩:=List.mem_flatMap.1 hc;exact h a (by simp) b (by simp[hb]) c hc
  ·exact xzP (fun x hx y hy=>h x (by simp[hx]) y (by simp[hy])) c hc
theorem xyd{v P}(h0:∀(o) (n) (ks),(o=2∨o=10∨o=15∨o=17∨o=18)→P (.mk o [] n ks)){a b}(ha:AllN P a)(hb:AllN P b):∀c∈congS v a b,AllN P c:=by
 have heq:∀{x y:Pred},AllN P x→AllN P y→AllN P (eqnS v x y):=fun{x y} hx hy=>by
  unfold eqnS;split
  ·exact zKR (h0 _ _ _ (by omega)) hx hy
  ·exact zKR (h0 _ _ _ (by omega)) hx hy
 have hk:∀{x:Pred},AllN P x→∀k∈x.kids,AllN P k:=fun{x} hx=>by obtain⟨o,s,n,ks⟩:=x;exact fun k hk=>AllN.kid hx hk
 intro c hc;unfold congS at hc;split at hc
 ·cases hc
 ·rw[List.mem_singleton]at hc;subst hc;refine zKR (h0 _ _ _ (by omega)) (yYt (fun _ _=>h0 _ _ _ (by omega)) ?_ ?_ fun x hx=>?_) (heq ha hb)
  ·exact AllN.mk (h0 2 1 [] (by omega)) (by simp)
  ·exact AllN.mk (h0 2 0 [] (by omega)) (by simp)
  ·obtain⟨k,hk1,k',hk2,rfl⟩:=yjS hx;exact heq (hk ha k hk1) (hk hb k' hk2)
end
end Go.Abs
end
section
namespace Go.Abs
section
variable{at':List Coef}{fs:List Fact}{F:Str→Int}{σ:List Int}
def FSv(at':List Coef)(fs:List Fact)(p:Pred)(s:Str):Int:=(findC s (((innerP 4 p []).map fun a=>(⟨nameS a,(EvalS at' fs a).1⟩:Coef))++at')).1
theorem xyy{l:List Pred}{a}(r)(ha:a∈l)(hg:∀x∈l,Good x):findC (nameS a) ((l.map fun a=>(⟨nameS a,(EvalS at' fs a).1⟩:Coef))++r)=((EvalS at' fs a).1,true):=by
 induction l with
 |nil=>cases ha
 |cons x l ih=>
  rw[mC,List.cons_append,findC];by_cases e:nameS x=nameS a
  ·have:=yyP (hg x (by simp)) (hg a ha) e;rw[if_pos (by simpa using e),this]
  ·rw[if_neg (by simpa using e)];refine ih ?_ fun y hy=>hg y (by simp[hy]);rcases List.mem_cons.1 ha with rfl|h
   ·exact absurd rfl e
   ·exact h
theorem xyz{l:List Pred}{s}(r)(h:∀x∈l,nameS x≠s):findC s ((l.map fun a=>(⟨nameS a,(EvalS at' fs a).1⟩:Coef))++r)=findC s r:=by
 induction l with
 |nil=>rfl
 |cons x l ih=>rw[mC,List.cons_append,findC,if_neg (by simpa using h x (by simp))];exact ih fun y hy=>h y (by simp[hy])
theorem xyA{t q}(p):∀l,q∈innerP t p l→q∈l∨q.op=t:=by
 induction p using Pred.ind with
 |h o s n ks ih=>
 intro l hq;rw[zq5]at hq;have key:∀(m l:List Pred),(∀k∈m,k∈ks)→q∈m.foldl (fun l k=>innerP t k l) l→q∈l∨q.op=t:=by
  intro m;induction m with
  |nil=>intro l _ h;exact .inl h
  |cons k m ihm=>
   intro l hm h;rw[List.foldl_cons]at h;rcases ihm _ (fun x hx=>hm x (by simp[hx])) h with h|h
   ·exact ih k (hm k (by simp)) l h
   ·exact .inr h
 have key2:=key ks l (fun _ h=>h);split at hq
 ·rename_i hc;rcases List.mem_append.1 hq with hq|hq
  ·exact key2 hq
  ·right;rw[List.mem_singleton.1 hq];rw[Bool.and_eq_true]at hc;show o=t;simpa using hc.1
 ·exact key2 hq
theorem xyi{s:Str}{n ks}(hr:(valR at' fs (.mk 3 s n ks)).2=true):(findC s at').2=true∧(valR at' fs (.mk 3 s n ks)).1=(findC s at').1:=by
 have e:valR at' fs (.mk 3 s n ks)=if(findC s at').2 then bnd (findC s at').1 else(0,false):=by rw[yQY];rfl
 rw[e]at hr⊢;cases c:(findC s at').2 with
 |false=>rw[c]at hr;cases hr
 |true=>
  rw[c]at hr;simp only[if_true]at hr⊢;unfold bnd at hr⊢;split at hr
  ·rename_i h;rw[if_pos h];exact⟨trivial,rfl⟩
  ·cases hr
theorem hv_of{p}(hg:Good p)(hc:∀q∈p.pre,q.checkE=0):HV at' fs (FSv at' fs p) p:=by
 intro q hq ho hr;have hsub:∀x∈innerP 4 p [],x∈p.pre:=fun x hx=>by
  rcases zYR p [] hx with h|h
  ·cases h
  ·exact h
 have hgs:∀x∈innerP 4 p [],Good x:=fun x hx=>hg.sub (hsub x hx);rcases ho with ho|ho
 ·have hne:∀x∈innerP 4 p [],nameS x≠nameS q:=fun x hx e=>by
    have:=yyP (hgs x hx) (hg.sub hq) e;rcases xyA p [] hx with h|h
    ·cases h
    ·rw[this,ho]at h;cases h
  unfold FSv;rw[xyz at' hne];obtain⟨o,s,n,ks⟩:=q;have ho:o=3:=ho;subst ho;have hn:nameS (.mk 3 s n ks)=s:=by rw[zZF];rfl
  rw[hn,(xyi hr).2]
 ·unfold FSv;rw[xyy at' (yXC p [] q hq ho) hgs];show(EvalS at' fs q).1=_;unfold EvalS;rw[hc q hq];rfl
theorem xz9{l s}(h:(findVar l s).2=true):∃x∈l,x.name=s∧x.sort=(findVar l s).1:=by
 unfold findVar at h⊢;cases c:l.reverse.find? (fun v=>v.name==s)with
 |none=>rw[c]at h;cases h
 |some x=>
  refine⟨x,?_,?_,rfl⟩
  ·have:=List.mem_of_find?_eq_some c;simpa using this
  ·have:=List.find?_some c;simpa using this
theorem tb_of{v p}(hO:∀q∈p.pre,(OfS v q).2=0)(hT:truthsS v at' fs p=true):TB v at' fs p:=by
 intro q hq ho hb hr;unfold truthsS at hT;rw[Bool.and_eq_true,List.all_eq_true,List.all_eq_true]at hT;rcases ho with ho|ho
 ·obtain⟨o,s,n,ks⟩:=q;have ho:o=3:=ho;subst ho;obtain⟨h1,h2⟩:=xyi hr;have hns:nodeS v 3 s (ks.map fun k=>(ofS v k).1)=(sBool,0):=(ykH hb).2;have hns:(if !(findVar v.vars s).2 then(([]:Str),(5:Int))else((findVar v.vars s).1,0))=(sBool,0):=hns;have hf:(findVar v.vars s).2=true:=by
   cases c:(findVar v.vars s).2 with
   |true=>rfl
   |false=>rw[c]at hns;have:=congrArg Prod.snd hns;cases this
  rw[hf]at hns;obtain⟨x,hx,hxn,hxs⟩:=xz9 hf;have hs:x.sort=sBool:=by rw[hxs];exact congrArg Prod.fst hns
  have:=hT.1 x hx;unfold varT at this;rw[hs,hxn,h1]at this;rw[h2];simp at this;omega
 ·have:=hT.2 q (yXC p [] q hq ho);unfold appT at this;have hO':=yzZ (hO q hq);have hE:EvalS at' fs q=valR at' fs q:=by unfold EvalS;rw[hO'.1];rfl
  rw[hO'.2,hb,hE,hr]at this;simp at this;omega
theorem xyq:∀{σ:List Int} {j k:Nat} (h:k<σ.length),(∀x∈σ,sgnOk x=true)→lookGo (Lib.itoa ((j+k:Nat):Int)) j σ=some σ[k]
 |[],_,_,h,_=>by simp at h
 |x::σ,j,0,_,hs=>by rw[lookGo,Nat.add_zero,beq_self_eq_true,hs x (by simp)];rfl
 |x::σ,j,k+1,h,hs=>by
  rw[lookGo];have hne:(Lib.itoa (j:Int)==Lib.itoa ((j+(k+1):Nat):Int))=false:=by
   cases c:(Lib.itoa (j:Int)==Lib.itoa ((j+(k+1):Nat):Int))with
   |false=>rfl
   |true=>have:=zKs (by simpa using c:Lib.itoa (j:Int)=Lib.itoa ((j+(k+1):Nat):Int));omega
  rw[hne,Bool.false_and];simp only[Bool.false_eq_true,if_false];have:=xyq (σ:=σ) (j:=j+1) (k:=k) (by simpa using h) (fun y hy=>hs y (by simp[hy]));rw[show j+1+k=j+(k+1) by omega]at this;rw[this];rfl
theorem xyF(z):sgnOk (sgnI z)=true:=by
 unfold sgnI;split
 ·rfl
 ·split<;>rfl
theorem xyB(F)(l):SgOk F (l.map fun a=>sgnI (linV F a)) l:=by intro i hi;have:=xyq (σ:=l.map fun a=>sgnI (linV F a)) (j:=0) (k:=i) (by simpa using hi) (by intro x hx;obtain⟨a,_,rfl⟩:=List.mem_map.1 hx;exact xyF _);rw[zA]at this;rw[this];simp
end
theorem xyr{at' fs v p}(hc:p.cnt≤1048576)(hq:(questQ v txt0 p).2=0)(hH:(HoldsS at' fs p).2=true)(hT:truthsS v at' fs p=true)(hE:(extS at' fs p).2=true)(hS:(sgnsV (questQ v txt0 p).1.forms (extS at' fs p).1).2=true):
  evalS (sgnsV (questQ v txt0 p).1.forms (extS at' fs p).1).1 (questQ v txt0 p).1.body=isS (HoldsS at' fs p).1:=by
 have hext:extS at' fs p=(((innerP 4 p []).map fun a=>(⟨nameS a,(EvalS at' fs a).1⟩:Coef))++at',true)∧∀a∈innerP 4 p [],(EvalS at' fs a).2=true:=by
  unfold extS at hE⊢;split at hE
  ·rename_i h;rw[if_pos h];exact⟨rfl,List.all_eq_true.1 h⟩
  ·cases hE
 obtain⟨hx,hall⟩:=hext;rw[hx]at hS⊢;simp only at hS⊢;have hsg:(sgnsV (questQ v txt0 p).1.forms (((innerP 4 p []).map fun a=>(⟨nameS a,(EvalS at' fs a).1⟩:Coef))++at')).1=(questQ v txt0 p).1.forms.map fun a=>sgnI (linV (FSv at' fs p) a):=by
  unfold sgnsV at hS⊢;split at hS
  ·rename_i h;rw[if_pos h];have h:=List.all_eq_true.1 h;exact List.map_congr_left fun b hb=>by rw[yqW (h b hb)];rfl
  ·cases hS
 rw[hsg];have hsk:=xyB (FSv at' fs p) (questQ v txt0 p).1.forms;generalize ((questQ v txt0 p).1.forms.map fun a=>sgnI (linV (FSv at' fs p) a))=σ at*
 clear hsg hS hx hE;unfold questQ at hq hsk⊢;by_cases hb:(BoolS v p !=0)=true
 ·rw[if_pos hb]at hq;have hq:BoolS v p=0:=hq;rw[hq]at hb;cases hb
 rw[if_neg hb]at hq hsk⊢;by_cases hh:decide (((innerP 5 p []).length:Int)>0)=true
 ·rw[if_pos hh]at hq;cases hq
 rw[if_neg hh]at hq hsk⊢;have hb':BoolS v p=0:=by simpa using hb
 have hh':innerP 5 p []=[]:=by
  cases e:innerP 5 p []with
  |nil=>rfl
  |cons x l=>rw[e]at hh;simp at hh
 obtain⟨b1,b2⟩:=ywc hc hb' hh';have hsub:∀x∈innerP 4 p [],x∈p.pre:=fun x hx=>by
  rcases zYR p [] hx with h|h
  ·cases h
  ·exact h
 have mk:(p.same zeroP=false→MK v at' fs (FSv at' fs p) p)∧(∀c∈closS v (innerP 4 p []),MK v at' fs (FSv at' fs p) c∧(valR at' fs c).1=1):=by
  cases hz:p.same zeroP with
  |true=>refine⟨fun h=>(by cases h),fun c hcm=>?_⟩;rw[(Pred.zyC p zeroP).1 hz]at hcm;cases hcm
  |false=>
   have hO0:=(yxy hb' hz).1;have hO:=yYo p (by omega) hO0;have hsp:=sp_of (v:=v) (p:=p) (by omega) hO0;have bg:=b1 hz;have hck:∀q∈p.pre,q.checkE=0:=fun q hq=>(yzZ (hO q hq)).1;have hv:=hv_of (at':=at') (fs:=fs) bg.good hck;have ht:=tb_of (at':=at') (fs:=fs) hO hT;have hval:∀a∈innerP 4 p [],(valR at' fs a).2=true:=fun a ha=>by have:=hall a ha;unfold EvalS at this;rw[hck a (hsub a ha)]at this;exact this
   have h01:∀k∈p.pre,(OfS v k).1=sBool→(valR at' fs k).2=true→(valR at' fs k).1=0∨(valR at' fs k).1=1:=fun k hk hs hr=>by
    have hk2:=yzZ (hO k hk);have hb:ofS v k=(sBool,0):=by rw[←hk2.2];exact Prod.ext hs (hO k hk)
    exact xzM ⟨bg.good.sub hk,fun q hq=>bg.hole q ((zqF p k hk).1 q hq),hb⟩ (fun q hq=>ht q ((zqF p k hk).1 q hq)) hr
   have hkid:∀a∈innerP 4 p [],∀k∈a.kids,k∈p.pre:=fun a ha k hk=>by refine(zqF p a (hsub a ha)).1 k ?_;obtain⟨o,s,n,ks⟩:=a;rw[Pred.zjG];exact List.mem_cons_of_mem _ (zv2.2 ⟨k,hk,yVK k⟩)
   refine⟨fun _=>⟨bg,?_,hv,ht,?_⟩,fun c hcm=>?_⟩
   ·exact(hsp p (yVK p)).1.1
   ·unfold HoldsS at hH;rw[hz]at hH;have hH:(EvalS at' fs p).2=true:=hH;unfold EvalS at hH;rw[hck p (yVK p)]at hH;exact hH
   ·have hcv:valR at' fs c=(1,true):=xzP (P:=fun c=>valR at' fs c=(1,true)) (fun a ha b hb c hc=>xyw (hval a ha) (hval b hb) (fun k hk=>h01 k (hkid a ha k hk)) (fun k hk=>h01 k (hkid b hb k hk)) c hc) c hcm;refine⟨⟨b2 c hcm,?_,?_,?_,by rw[hcv]⟩,by rw[hcv]⟩
    ·exact yYS (fun x hx=>hsp x (hsub x hx)) c hcm
    ·exact xzP (P:=HV at' fs (FSv at' fs p)) (fun a ha b hb c hc=>xyd (P:=fun t=>(t.op=3∨t.op=4)→(valR at' fs t).2=true→FSv at' fs p (nameS t)=(valR at' fs t).1) (fun o n ks h ho=>by have ho:o=3∨o=4:=ho;omega) (fun q hq=>hv q ((zqF p a (hsub a ha)).1 q hq)) (fun q hq=>hv q ((zqF p b (hsub b hb)).1 q hq)) c hc) c hcm
    ·exact xzP (P:=TB v at' fs) (fun a ha b hb c hc=>xyd (P:=fun t=>(t.op=3∨t.op=4)→ofS v t=(sBool,0)→(valR at' fs t).2=true→(valR at' fs t).1=0∨(valR at' fs t).1=1) (fun o n ks h ho=>by have ho:o=3∨o=4:=ho;omega) (fun q hq=>ht q ((zqF p a (hsub a ha)).1 q hq)) (fun q hq=>ht q ((zqF p b (hsub b hb)).1 q hq)) c hc) c hcm
 have hH2:(HoldsS at' fs p).1=if p.same zeroP then true else((valR at' fs p).1 !=0):=by
  unfold HoldsS at hH⊢;cases hz:p.same zeroP with
  |true=>rfl
  |false=>rw[hz]at hH;have hH:(EvalS at' fs p).2=true:=hH;have hck:p.checkE=0:=(yzZ (yYo p (by omega) (yxy hb' hz).1 p (yVK p))).1;show((EvalS at' fs p).2&&(EvalS at' fs p).1 !=0)=((valR at' fs p).1 !=0);rw[hH,Bool.true_and];unfold EvalS;rw[hck];rfl
 have key:∀r:List Pred×QS,PQ r.2→B01 (FSv at' fs p) r.2→(∀σ,r.2.bad=false→SgOk (FSv at' fs p) σ r.2.forms→r.1.map (evalS σ)=if p.same zeroP then[]else[isS ((valR at' fs p).1 !=0)])→(qfin1 v txt0 p r).2=0→SgOk (FSv at' fs p) σ (qfin1 v txt0 p r).1.forms→evalS σ (qfin1 v txt0 p r).1.body=isS (HoldsS at' fs p).1:=by
  rintro⟨ps,q⟩ h1 h2 h3 h4 h5
  simp only at h1 h2 h3;obtain⟨r1,r2,r3,r4⟩:=xzR (σ:=σ) (ps:=ps) (fun k hk=>(mk.2 k hk).1) h1 h2;unfold qfin1 qfin2 at h4 h5⊢;simp only at h4 h5⊢;have hcl1:∀k∈closS v (innerP 4 p []),(valR at' fs k).1=1:=fun k hk=>(mk.2 k hk).2;obtain⟨s1,s2⟩:=xye (σ:=σ) (ps:=(eachQ v txt0 (closS v (innerP 4 p [])) ps q).1) (fun s hs=>⟨r2.b s hs,r3 s hs⟩) r2;have hbk:(eachQ v txt0 (closS v (innerP 4 p [])) ps q).2.bad=true→(bndQ txt0 (eachQ v txt0 (closS v (innerP 4 p [])) ps q).2.bools (eachQ v txt0 (closS v (innerP 4 p [])) ps q).1 (eachQ v txt0 (closS v (innerP 4 p [])) ps q).2).2.bad=true:=fun h=>by rw[yKG h];exact h
  have hek:q.bad=true→(eachQ v txt0 (closS v (innerP 4 p [])) ps q).2.bad=true:=fun h=>by rw[xz5 h];exact h
  generalize eachQ v txt0 (closS v (innerP 4 p [])) ps q=B at*
  generalize bndQ txt0 B.2.bools B.1 B.2=C at*
  unfold qfin3 at h4 h5⊢;cases hbad:C.2.bad with
  |true=>rw[hbad]at h4;cases h4
  |false=>
   rw[hbad]at h4 h5;simp only[Bool.false_eq_true,if_false]at h4 h5⊢;by_cases hl:decide ((C.2.forms.length:Int)>40)=true
   ·rw[if_pos hl]at h4;cases h4
   rw[if_neg hl]at h5⊢;have h5:SgOk (FSv at' fs p) σ C.2.forms:=h5;show evalS σ (andP C.1)=_;have hBb:B.2.bad=false:=by
    cases c:B.2.bad with
    |false=>rfl
    |true=>rw[hbk c]at hbad;cases hbad
   have hqb:q.bad=false:=by
    cases c:q.bad with
    |false=>rfl
    |true=>rw[hek c]at hBb;cases hBb
   obtain⟨xs,x1,x2⟩:=r4 hBb (h5.pre s1);obtain⟨ys,y1,y2⟩:=s2 hbad h5;have z:=h3 σ hqb ((h5.pre s1).pre r1);have hxs:∀x∈xs,evalS σ x=1:=fun x hx=>by have:evalS σ x∈xs.map (evalS σ):=List.mem_map.2 ⟨x,hx,rfl⟩;rw[x2]at this;obtain⟨k,hk,he⟩:=List.mem_map.1 this;rw[←he,hcl1 k hk];rfl
   have hone:∀{x:Pred},evalS σ x=1→∃b,evalS σ x=isS b:=fun h=>⟨true,h⟩;have hps:∀x∈ps,∃b,evalS σ x=isS b:=fun x hx=>by
    have:evalS σ x∈ps.map (evalS σ):=List.mem_map.2 ⟨x,hx,rfl⟩;rw[z]at this;split at this
    ·cases this
    ·exact⟨_,List.mem_singleton.1 this⟩
   rw[xyl (l:=C.1) (fun x hx=>by
    rw[y1,x1]at hx;rcases List.mem_append.1 hx with hx|hx
    ·rcases List.mem_append.1 hx with hx|hx
     ·exact hps x hx
     ·exact hone (hxs x hx)
    ·exact hone (y2 x hx)),hH2]
   have a1:(xs.all fun x=>evalS σ x==1)=true:=List.all_eq_true.2 fun x hx=>by rw[hxs x hx];rfl
   have a2:(ys.all fun x=>evalS σ x==1)=true:=List.all_eq_true.2 fun x hx=>by rw[y2 x hx];rfl
   have a0:(ps.all fun x=>evalS σ x==1)=(ps.map (evalS σ)).all (fun z=>z==1):=by rw[List.all_map];rfl
   rw[y1,x1,List.all_append,List.all_append,a1,a2,Bool.and_true,Bool.and_true,a0,z];congr 1;cases p.same zeroP with
   |true=>rfl
   |false=>simp only[Bool.false_eq_true,if_false,List.all_cons,List.all_nil,Bool.and_true];cases((valR at' fs p).1 !=0)<;>rfl
 have hq0:PQ q0:=yqN;have hb0:B01 (FSv at' fs p) q0:=fun s hs=>by cases hs
 cases hz:p.same zeroP with
 |true=>rw[hz]at hq hsk;simp only[if_true]at hq hsk⊢;exact key ([],q0) hq0 hb0 (fun σ _ _=>by rw[hz];rfl) hq hsk
 |false=>rw[hz]at hq hsk;simp only[Bool.false_eq_true,if_false]at hq hsk⊢;have hm:=fun σ=>xzR (σ:=σ) (v:=v) (l:=[p]) (ps:=[]) (q:=q0) (fun k hk=>by rw[List.mem_singleton.1 hk];exact mk.1 hz) hq0 hb0;refine key _ (hm []).2.1 (hm []).2.2.1 (fun σ hb hs=>?_) hq hsk;obtain⟨xs,x1,x2⟩:=(hm σ).2.2.2 hb hs;rw[x1,List.nil_append,x2,hz];rfl
end Go.Abs
end
section
namespace Go.Abs
structure Law12m(E:AEnv):Prop extends Law12 E where
 G0:E.G 2=some (kws.map .str)
 it:∀p,E.It zz1 [.ref (Pred.cells p)] (yields p.pre)
 un:UnionLaw E
theorem xyJ(p:Pred):∀q∈p.pre,q.sz≤p.sz:=by
 induction p using Pred.ind with
 |h o s n ks ih=>
 intro q hq;rw[Pred.zjG]at hq;rcases List.mem_cons.1 hq with rfl|hq
 ·exact Nat.le_refl _
 ·obtain⟨k,hk,hqk⟩:=zv2.1 hq;have h1:=ih k hk q hqk;have h2:=zQ7 hk;have h3:=@zjU o s n ks;omega
theorem xyE(p:Pred):p.pre.length=p.cnt:=by
 induction p using Pred.ind with
 |h o s n ks ih=>
 rw[Pred.zjG,Pred.cnt];have:∀l:List Pred,(∀k∈l,k.pre.length=k.cnt)→(Pred.pre.pres l).length=Pred.cnts l:=by
  intro l;induction l with
  |nil=>intro _;rfl
  |cons k l ihl=>intro h;rw[Pred.pre.pres,lA,h k (by simp),ihl fun x hx=>h x (by simp[hx]),Pred.cnts]
 rw[lC,this ks ih]
theorem xyc{v p}(hc:p.cnt≤1048576)(hq:(questQ v txt0 p).2=0):IPred p∧∀a∈innerP 4 p [],IPred a:=by
 unfold questQ at hq;by_cases hb:(BoolS v p !=0)=true
 ·rw[if_pos hb]at hq;have hq:BoolS v p=0:=hq;rw[hq]at hb;cases hb
 have hb':BoolS v p=0:=by simpa using hb
 cases hz:p.same zeroP with
 |true=>have:=(Pred.zyC p zeroP).1 hz;subst this;refine⟨?_,fun a ha=>by cases ha⟩;unfold IPred AllN;decide+kernel
 |false=>exact⟨zYQ (zJ7 hb' hz),fun a ha=>zYQ (ywu hb' a ha)⟩
set_option maxHeartbeats 2000000 in
theorem xzX{E}(L:Law12m E)(v:SEnv)(hv:v.Ok)(p:Pred)(hz:p.sz≤1048576)(at':List Coef)(fs:List Fact)(hsm:∀f∈fs,Small f.args.length)(hwf:∀f∈fs,f.Wf):
  E.C zvo [.agg v.cells,.agg p.cells,.agg [.lst (at'.map Coef.cells),.lst (fs.map Fact.cells)]] (.one (.bool true)):=by
 have Z:=L.sys;have hw:=zkj L.toLaw12;have hs:=zvB Z [p];have hl:=zYV Z v;have hq:=L.quest v hv p hz;have hcn:p.cnt≤1048576:=Nat.le_trans (zVL p) hz;have hfn:=ykA Z (fun n hn=>L.itoa n hn) fs hsm hwf;have hH:=yYm Z L.G0 L.it at' fs p;have hEv:=fun q=>zQ4 Z L.G0 L.it at' fs q;have hfr:=yJN Z L.un L.it p (by rw[xyE];exact hcn);have hkn:=xz6 Z at' p hfr;have htr:=xz2 Z v (fun q=>L.of v q hv) at' fs hEv p hz;have law:=xyr (at':=at') (fs:=fs) (v:=v) hcn;have qp:=xyc (v:=v) hcn;have hNm:=yjg (v:=v) hcn;have hsub:∀x∈innerP 4 p [],x.sz≤1048576:=fun x hx=>by
  rcases zYR p [] hx with h|h
  ·cases h
  ·exact Nat.le_trans (xyJ p x h) hz
 have hex:=fun hl hi ha=>xzU L.toLaw12 at' fs hEv hl p hi hz ha;have hsg:=fun f h=>yks Z f (extS at' fs p).1 h;generalize questQ v txt0 p=Q at*
 obtain⟨⟨b,fm⟩,e⟩:=Q;simp only at law hq qp hNm;have hE:=fun s h h2=>zvZ Z L.atoi L.itoa s h b h2;refine Z.zvo _ _ ⟨b0l rfl,?_⟩;simp only[mC,mN]at hs;have hvc:v.cells=[.lst (v.vars.map SVar.cells),.lst (v.syms.map SSym.cells),.lst (v.holes.map SHole.cells)]:=rfl;rw[hvc]at*
 rw[Pred.zzb p]at*
 generalize HoldsS at' fs p=H at*
 obtain⟨is,ok⟩:=H;generalize truthsS v at' fs p=T at*
 generalize knownS at' p=KN at*
 generalize extS at' fs p=X at*
 obtain⟨pt,had⟩:=X;simp only at law hsg hH;unfold zK9;refine zzd fun N0 h0=>?_;simp only[go_sem];subst h0;refine zzd fun N1 h1=>?_;simp only[go_sem];refine zza hl ?_;simp only[go_sem];refine zjX hs ?_;simp only[go_sem,lM];try intro _
 try intro _
 refine zjX hfn ?_;simp only[go_sem];cases c:(!lightA v||!smallA [p]||decide ((at'.length:Int)>16)||decide ((fs.length:Int)>40)||!funB fs)with
 |true=>simp only[go_sem];refine zza hw ?_;simp only[go_sem]
 |false=>
 have hal:at'.length≤1000:=by simp only[Bool.or_eq_false_iff,decide_eq_false_iff_not]at c;omega
 simp only[go_sem];subst h1;refine zzd fun N2 h2=>?_;simp only[go_sem];refine zza hq ?_;simp only[go_sem,Atm.zzb];subst h2;refine zzd fun N3 h3=>?_;simp only[go_sem];refine zza hH ?_;simp only[go_sem];subst h3;refine zzd fun N4 h4=>?_;simp only[go_sem];refine zjX hkn ?_;simp only[go_sem];refine zjX htr ?_;simp only[go_sem];cases c2:(e !=0||!ok||!KN||!T)with
 |true=>simp only[go_sem];refine zza hw ?_;simp only[go_sem]
 |false=>
 simp only[Bool.or_eq_false_iff,bne_eq_false_iff_eq,Bool.not_eq_false']at c2;obtain⟨⟨⟨rfl,rfl⟩,rfl⟩,rfl⟩:=c2;have qp:=qp rfl;have hNm:fm.length≤40∧VP fm.length b:=by
  rcases hNm with⟨h,_⟩|⟨_,_,h1,h2⟩
  ·exact absurd rfl h
  ·exact⟨h1,h2⟩
 have hex:=hex hal qp.1 fun a ha=>⟨qp.2 a ha,hsub a ha⟩;have hsg:=hsg fm (by omega);simp only[go_sem];subst h4;refine zzd fun N5 h5=>?_;simp only[go_sem];refine zza hex ?_;simp only[go_sem];subst h5;refine zzd fun N6 h6=>?_;simp only[go_sem];refine zza hsg ?_;simp only[go_sem];have hsl:(sgnsV fm pt).1.length≤1000:=by
  unfold sgnsV;split
  ·simp only[lM];omega
  ·simp
 generalize sgnsV fm pt=S at*
 obtain⟨s,fits⟩:=S;simp only at law hsg hsl⊢;subst h6;refine zzd fun N7 h7=>?_;simp only[go_sem];cases c3:(!had||!fits)with
 |true=>simp only[go_sem];refine zza hw ?_;simp only[go_sem]
 |false=>
 simp only[Bool.or_eq_false_iff,Bool.not_eq_false']at c3;obtain⟨rfl,rfl⟩:=c3;have law:evalS s b=isS is:=by simpa using law
 have hEb:=hE s hsl (ykC (hNm.2.nm (by omega)));rw[law,Pred.zzb b]at hEb;simp only[go_sem];subst h7;refine zzd fun N8 h8=>?_;simp only[go_sem];refine zza hEb ?_;simp only[go_sem];subst h8;have k1:((isS is==1)==is)=true:=by cases is<;>rfl
 have k2:decide (isS is≥0)=true:=by cases is<;>rfl
 simp only[go_sem,k1,k2];refine zza hw ?_;simp only[go_sem]
end Go.Abs
end
