/-
  CONTRACTS: what the functions answer, as plain Lean functions, each by evaluation at the abstract machine.
-/
import Derived.Test.YtkaaomojgmbgdaaGreatDoorCon2
set_option linter.unusedSimpArgs false
set_option linter.unusedVariables false
set_option linter.unusedSectionVars false
set_option maxRecDepth 100000
section
namespace Go.Abs
def uS(c:UInt8):Bool:=c==40||c==41||c==44
theorem CY:∀{a b x y:aD},a.all (fun c=>!uS c)=true→b.all (fun c=>!uS c)=true→(∀c,x.head? =some c→uS c=true)→(∀c,y.head? =some c→uS c=true)→a++x=b++y→a=b∧x=y
 |[],[],x,y,_,_,_,_,h=>⟨rfl,h⟩
 |[],c::b,x,y,_,hb,hx,_,h=>by rw[List.nil_append]at h;have:=hx c (by rw[h];rfl);rw[List.all_cons,this]at hb;cases hb
 |c::a,[],x,y,ha,_,_,hy,h=>by rw[List.nil_append]at h;have:=hy c (by rw[←h];rfl);rw[List.all_cons,this]at ha;cases ha
 |c::a,d::b,x,y,ha,hb,hx,hy,h=>by rw[List.cons_append,List.cons_append,List.cons.injEq]at h;rw[List.all_cons,Bool.and_eq_true]at ha hb;obtain⟨h1,h2⟩:=CY ha.2 hb.2 hx hy h.2;exact⟨by rw[h.1,h1],h2⟩
theorem RQ{s:aD}(h:s.all sE=true):s.all (fun c=>!uS c)=true:=by
 rw[List.all_eq_true]at h⊢;intro c hc;have:∀n:Nat,n<256→sE (UInt8.ofNat n)=true→(!uS (UInt8.ofNat n))=true:=by decide+kernel
 have h2:=this c.toNat c.toNat_lt (by simpa using h c hc);simpa using h2
theorem yZy(n):∃c r,Lib.itoa n=c::r∧(c.toNat=45∨48≤c.toNat∧c.toNat≤57):=by
 have hd:∀u:Nat,∃c r,Lib.decDigits u=c::r∧(c.toNat=45∨48≤c.toNat∧c.toNat≤57):=fun u=>by
  cases h:Lib.decDigits u with
  |nil=>exfalso;unfold Lib.decDigits at h;split at h<;>simp at h
  |cons c r=>exact⟨c,r,rfl,.inr (H7 u c (by rw[h];simp))⟩
 unfold Lib.itoa;split
 ·exact⟨45,_,rfl,.inl rfl⟩
 ·exact hd _
theorem yQn(n):(Lib.itoa n).all (fun c=>!uS c)=true:=by
 have hd:∀u:Nat,(Lib.decDigits u).all (fun c=>!uS c)=true:=fun u=>by
  rw[List.all_eq_true];intro c hc;have:=H7 u c hc;have key:∀n:Nat,n<256→48≤n→n≤57→(!uS (UInt8.ofNat n))=true:=by decide+kernel
  have h2:=key c.toNat c.toNat_lt this.1 this.2;simpa using h2
 unfold Lib.itoa;split
 ·rw[List.all_cons,hd];rfl
 ·exact hd _
def yo(c:UInt8):Bool:=isSmall c.toNat||dX c.toNat
theorem yya{s:aD}(h:dO s=true):(∃c r,s=c::r∧yo c=true)∧s≠jr∧s≠fQ:=by
 refine⟨?_,?_,?_⟩
 ·unfold dO at h;simp only[Bool.and_eq_true]at h;obtain⟨⟨_,h1⟩,_⟩:=h;cases s with
  |nil=>exfalso;revert h1;decide
  |cons c r=>
   refine⟨c,r,rfl,?_⟩;unfold cutAt at h1;by_cases hc:c.toNat=46
   ·rw[if_pos hc]at h1;exfalso;have e1:isName []=false:=by decide
    have e2:cG []=false:=by decide
    simp only[e1,e2]at h1;revert h1;decide
   ·rw[if_neg hc]at h1;unfold yo;cases n1:isName (c::(cutAt r).1)with
    |true=>unfold isName at n1;simp only[Bool.and_eq_true]at n1;have:=n1.1.1.2;rw[List.getD_cons_zero]at this;rw[this];rfl
    |false=>
     cases n2:cG (c::(cutAt r).1)with
     |true=>unfold cG at n2;simp only[Bool.and_eq_true]at n2;have:=n2.1.1.2;rw[List.getD_cons_zero]at this;rw[this,Bool.or_true]
     |false=>rw[n1,n2]at h1;simp at h1;rw[h1.1.1];decide
 ·rintro rfl;revert h;decide+kernel
 ·rintro rfl;revert h;decide+kernel
structure Node(o:Int)(s:aD)(n:Int)(ks:List Pred):Prop where
 lo:1≤o
 hi:o≤18
 nm:s=[]∨o=3∨o=4∨o=5
 nn:n=0∨o=1∨o=2
 kd:bN o ks.length=true
 bl:o=2→0≤n∧n≤1
 cl:dD o s=true
theorem yQv{o}{s:aD}{n ks}(h:dr o s n ks=0):Node o s n ks:=by
 unfold dr at h;by_cases c1:(decide (o<1)||decide (o>18)||!s==[]&&!bG o||n !=0&&!(o==1||o==2)||!bN o ks.length)=true
 ·rw[if_pos c1]at h;cases h
 rw[if_neg c1]at h;by_cases c2:(o==1&&!aq n||o==2&&(decide (n<0)||decide (n>1)))=true
 ·rw[if_pos c2]at h;cases h
 rw[if_neg c2]at h;by_cases c3:(!dD o s)=true
 ·rw[if_pos c3]at h;cases h
 simp only[Bool.or_eq_true,not_or,Bool.and_eq_true,not_and,decide_eq_true_eq]at c1 c2;obtain⟨⟨⟨⟨a1,a2⟩,a3⟩,a4⟩,a5⟩:=c1;refine⟨by omega,by omega,?_,?_,by simpa using a5,fun ho=>?_,by simpa using c3⟩
 ·by_cases hs:s=[]
  ·exact .inl hs
  ·have:=a3 (by simpa using hs);simp only[bG]at this;simp at this;omega
 ·by_cases hn:n=0
  ·exact .inl hn
  ·have:=a4 (by simpa using hn);simp at this;omega
 ·have:=c2.2 (by simpa using ho);omega
theorem D8{o}{s:aD}(h:dD o s=true)(ho:o=3∨o=4):(∃c r,s=c::r∧yo c=true)∧s≠jr∧s≠fQ:=by
 unfold dD at h;rcases ho with rfl|rfl
 ·have h:(s==sV||dO s)=true:=h;rcases Bool.or_eq_true_iff.1 h with h|h
  ·rw[beq_iff_eq.1 h];exact⟨⟨118,[],rfl,by decide⟩,by decide,by decide⟩
  ·exact yya h
 ·have h:(s==jZ||s==oU||dO s)=true:=h;rcases Bool.or_eq_true_iff.1 h with h|h
  ·rcases Bool.or_eq_true_iff.1 h with h|h
   ·rw[beq_iff_eq.1 h];exact⟨⟨116,[97,103],rfl,by decide⟩,by decide,by decide⟩
   ·rw[beq_iff_eq.1 h];exact⟨⟨118,[97,108],rfl,by decide⟩,by decide,by decide⟩
  ·exact yya h
def mU(o:Int)(s:aD)(n:Int):aD:=if o==1 then Lib.itoa n else if o==2 then(if n==1 then jr else fQ)else if o==3 then s else iM o s
def iZ(o:Int):Bool:=o==1||o==2||o==3
theorem yyQ(o)(s:aD)(n)(ks)(r:aD):aU (.mk o s n ks)++r=mU o s n++if iZ o then r else 40::(Lib.join (ks.map aU) [44]++41::r):=by
 rw[Ha];unfold mU iZ;by_cases h1:(o==1)=true
 ·simp only[h1,if_true,Bool.true_or]
 ·by_cases h2:(o==2)=true
  ·simp only[h1,h2,if_true,Bool.true_or,Bool.or_true,if_false,Bool.false_eq_true]
  ·by_cases h3:(o==3)=true
   ·simp only[h1,h2,h3,if_true,Bool.or_true,if_false,Bool.false_eq_true]
   ·simp only[h1,h2,h3,Bool.or_self,if_false,Bool.false_eq_true,List.append_assoc,List.cons_append,List.nil_append]
theorem yV5(o):(iR o).all (fun c=>!uS c)=true:=by
 unfold iR;split
 ·rfl
 ·have:∀k,(kS.getD k []).all (fun c=>!uS c)=true:=by
    intro k;rcases Nat.lt_or_ge k 13 with h|h
    ·have:∀k,k<13→(kS.getD k []).all (fun c=>!uS c)=true:=by decide+kernel
     exact this k h
    ·rw[List.getD_eq_getElem?_getD,List.getElem?_eq_none (by exact h)];rfl
  exact this _
theorem Yr{o s n}(hs:s.all sE=true):(mU o s n).all (fun c=>!uS c)=true:=by
 unfold mU iM;split
 ·exact yQn n
 ·split
  ·split<;>decide
  ·split
   ·exact RQ hs
   ·split
    ·exact RQ hs
    ·split
     ·rw[List.all_cons,RQ hs];rfl
     ·exact yV5 o
end Go.Abs
end
section
namespace Go.Abs
theorem yWS:∀i,i<13→∀j,j<13→kS.getD i []=kS.getD j []→i=j∨i=1∧j=3∨i=3∧j=1:=by decide+kernel
theorem yjG:∀i,i<13→∃c∈([43,45,42,61,33,60,38,124]:List UInt8),(kS.getD i []).head? =some c:=by decide+kernel
theorem yK2:∀c∈([43,45,42,61,33,60,38,124]:List UInt8),yo c=false∧c≠63:=by decide+kernel
theorem M4{o}(h:6≤o)(h2:o≤18):iR o=kS.getD (o-6).toNat []∧(o-6).toNat<13∧o=6+((o-6).toNat:Int):=by refine⟨?_,by omega,by omega⟩;unfold iR;rw[if_neg (by simp;omega)]
theorem yXX{c}(h:c.toNat=45∨48≤c.toNat∧c.toNat≤57):yo c=false:=by unfold yo isSmall dX;simp;omega
theorem Tk{o}(h:iZ o=true):o=1∨o=2∨o=3:=by
 unfold iZ at h;simp at h;omega
theorem yKb{o o' s s' n n' ks nN}(h:Node o s n ks)(h':Node o' s' n' nN)(l:iZ o=true)(l':iZ o'=true)(e:mU o s n=mU o' s' n'):o=o'∧s=s'∧n=n':=by
 have nm:=h.nm;have GW:=h'.nm;have nn:=h.nn;have Rq:=h'.nn;have bl:=h.bl;have bl':=h'.bl;have ft:jr=116::[114,117,101]∧fQ=102::[97,108,115,101]:=⟨rfl,rfl⟩;have wb:∀m:Int,∃c r,(if m==1 then jr else fQ)=c::r∧yo c=true:=fun m=>by
  cases m==1
  ·exact⟨102,_,rfl,by decide⟩
  ·exact⟨116,_,rfl,by decide⟩
 have wi:∀m:Int,∃c r,Lib.itoa m=c::r∧yo c=false:=fun m=>by obtain⟨c,r,h1,h2⟩:=yZy m;exact⟨c,r,h1,yXX h2⟩
 have wG:∀{x y:aD},(∃c r,x=c::r∧yo c=true)→(∃c r,y=c::r∧yo c=false)→x≠y:=by
  rintro _ _ ⟨c,r,rfl,h1⟩ ⟨d,t,rfl,h2⟩ h
  rw[List.cons.injEq]at h;rw[h.1,h2]at h1;cases h1
 have bs:∀{m:Int} {t:aD},t≠jr→t≠fQ→(if m==1 then jr else fQ)≠t:=fun{m t} h1 h2=>by
  cases m==1
  ·exact fun h=>h2 h.symm
  ·exact fun h=>h1 h.symm
 rcases Tk l with rfl|rfl|rfl<;>rcases Tk l' with rfl|rfl|rfl
 ·exact⟨rfl,by simp at nm GW;rw[nm,GW],NH e⟩
 ·exact absurd e.symm (wG (wb n') (wi n))
 ·exact absurd e.symm (wG (D8 h'.cl (.inl rfl)).1 (wi n))
 ·exact absurd e (wG (wb n) (wi n'))
 ·refine⟨rfl,by simp at nm GW;rw[nm,GW],?_⟩;have e:(if n==1 then jr else fQ)=(if n'==1 then jr else fQ):=e;have b1:=bl rfl;have b2:=bl' rfl;by_cases c1:n=1<;>by_cases c2:n'=1
  ·rw[c1,c2]
  ·rw[c1,if_pos (beq_self_eq_true (1:Int)),if_neg (by simpa using c2)]at e;exact absurd e (by decide)
  ·rw[c2,if_neg (by simpa using c1),if_pos (beq_self_eq_true (1:Int))]at e;exact absurd e (by decide)
  ·omega
 ·obtain⟨_,h1,h2⟩:=D8 h'.cl (.inl rfl);exact absurd e (bs h1 h2)
 ·exact absurd e (wG (D8 h.cl (.inl rfl)).1 (wi n'))
 ·obtain⟨_,h1,h2⟩:=D8 h.cl (.inl rfl);exact absurd e.symm (bs h1 h2)
 ·exact⟨rfl,e,by simp at nn Rq;rw[nn,Rq]⟩
theorem ZP{o}(s)(n)(l:iZ o=false):mU o s n=iM o s∧o≠1∧o≠2∧o≠3:=by unfold iZ at l;simp only[Bool.or_eq_false_iff]at l;obtain⟨⟨l1,l2⟩,l3⟩:=l;unfold mU;rw[if_neg (by rw[l1];decide),if_neg (by rw[l2];decide),if_neg (by rw[l3];decide)];exact⟨rfl,by simpa using l1,by simpa using l2,by simpa using l3⟩
theorem yKa{o o' s s' n n' ks nN}(h:Node o s n ks)(h':Node o' s' n' nN)(l:iZ o=false)(l':iZ o'=false)(e:mU o s n=mU o' s' n'):(o=o'∨o=7∧o'=9∨o=9∧o'=7)∧s=s'∧n=n':=by
 obtain⟨w,a1,a2,a3⟩:=ZP s n l;obtain⟨w',a1',a2',a3'⟩:=ZP s' n' l';rw[w,w']at e;have nn:=h.nn;have Rq:=h'.nn;have nm:=h.nm;have GW:=h'.nm;have lo:=h.lo;have hi:=h.hi;have lo':=h'.lo;have vf:=h'.hi;have hn:n=n':=by rw[show n=0 by omega,show n'=0 by omega]
 have sg:∀{o:Int} (s:aD),6≤o→o≤18→iM o s=kS.getD (o-6).toNat []:=fun{o} s h1 h2=>by unfold iM;rw[if_neg (by simp;omega),if_neg (by simp;omega),(M4 h1 h2).1]
 have sf:∀{o:Int} (s:aD),6≤o→o≤18→∃c r,iM o s=c::r∧yo c=false∧c≠63:=fun{o} s h1 h2=>by
  rw[sg s h1 h2];obtain⟨c,hc,hh⟩:=yjG _ (M4 h1 h2).2.1;cases hs:kS.getD (o-6).toNat []with
  |nil=>rw[hs]at hh;cases hh
  |cons d r=>rw[hs]at hh;simp only[List.head?_cons,Option.some.injEq]at hh;exact⟨d,r,rfl,hh▸yK2 c hc⟩
 have h4:∀s:aD,iM 4 s=s:=fun _=>rfl;have h5:∀s:aD,iM 5 s=63::s:=fun _=>rfl;have XT:yo 63=false:=by decide
 have k:∀{o:Int},1≤o→o≤18→o≠1→o≠2→o≠3→o=4∨o=5∨6≤o:=by intros;omega
 rcases k lo hi a1 a2 a3 with rfl|rfl|b<;>rcases k lo' vf a1' a2' a3' with rfl|rfl|b'
 ·exact⟨.inl rfl,e,hn⟩
 ·exfalso;obtain⟨c,r,hc,hl⟩:=(D8 h.cl (.inr rfl)).1;rw[h4,h5,hc,List.cons.injEq]at e;rw[e.1,XT]at hl;cases hl
 ·exfalso;obtain⟨c,r,hc,hl⟩:=(D8 h.cl (.inr rfl)).1;obtain⟨d,t,hd,hf,_⟩:=sf s' b' vf;rw[h4,hd,hc,List.cons.injEq]at e;rw[e.1,hf]at hl;cases hl
 ·exfalso;obtain⟨c,r,hc,hl⟩:=(D8 h'.cl (.inr rfl)).1;rw[h4,h5,hc,List.cons.injEq]at e;rw[←e.1,XT]at hl;cases hl
 ·rw[h5,h5,List.cons.injEq]at e;exact⟨.inl rfl,e.2,hn⟩
 ·exfalso;obtain⟨d,t,hd,hf,b6⟩:=sf s' b' vf;rw[h5,hd,List.cons.injEq]at e;exact b6 e.1.symm
 ·exfalso;obtain⟨c,r,hc,hl⟩:=(D8 h'.cl (.inr rfl)).1;obtain⟨d,t,hd,hf,_⟩:=sf s b hi;rw[h4,hd,hc,List.cons.injEq]at e;rw[←e.1,hf]at hl;cases hl
 ·exfalso;obtain⟨d,t,hd,hf,b6⟩:=sf s b hi;rw[h5,hd,List.cons.injEq]at e;exact b6 e.1
 ·rw[sg s b hi,sg s' b' vf]at e;obtain⟨_,p1,p2⟩:=M4 b hi;obtain⟨_,q1,q2⟩:=M4 b' vf;refine⟨?_,?_,hn⟩
  ·have:=yWS _ p1 _ q1 e;omega
  ·have e1:s=[]:=by rcases nm with h|h|h|h<;>first|exact h|omega
   have e2:s'=[]:=by rcases GW with h|h|h|h<;>first|exact h|omega
   rw[e1,e2]
def Stop(r:aD):Prop:=∀c,r.head? =some c→c=41∨c=44
theorem Stop.uS{r}(h:Stop r):∀c,r.head? =some c→uS c=true:=fun c hc=>by
 rcases h c hc with rfl|rfl<;>decide
theorem FF(r:aD):Stop (41::r):=fun c hc=>by simp at hc;exact .inl hc.symm
theorem FG(r:aD):Stop (44::r):=fun c hc=>by simp at hc;exact .inr hc.symm
theorem yyH(k)(ks)(r:aD):Lib.join ((k::ks).map aU) [44]++41::r=aU k++(if ks.isEmpty then 41::r else 44::(Lib.join (ks.map aU) [44]++41::r)):=by
 rw[mC,Lib.join_cons];cases ks with
 |nil=>simp[Lib.joinTail]
 |cons x l=>rw[mC,Lib.join_cons];simp[Lib.joinTail]
theorem Gw{o}{s:aD}{n ks}(h:Good (.mk o s n ks)):Node o s n ks∧s.all sE=true:=by have h0:Pred.err (.mk o s n ks)=0:=h _ (Gu o s n ks);exact⟨yQv h0,ZE h0⟩
theorem KF{o s n ks}(h:Node o s n ks)(l:iZ o=true):ks=[]:=by have:=h.kd;rcases Tk l with rfl|rfl|rfl<;> · simp[bN]at this;exact this
theorem yyI{o s n ks}(h:Node o s n ks)(l:iZ o=false):ks≠[]:=by
 rintro rfl
 have:=h.kd;unfold iZ at l;simp only[Bool.or_eq_false_iff]at l;obtain⟨⟨l1,l2⟩,l3⟩:=l;unfold bN at this;rw[l1,l2,l3]at this;simp at this
theorem yVv(p):Good p→∀q,Good q→∀r1 r2,Stop r1→Stop r2→aU p++r1=aU q++r2→p=q∧r1=r2:=by
 induction p using Pred.ind with
 |h o s n ks ih=>
 intro hp q hq r1 r2 s1 s2 e;obtain⟨o',s',n',nN⟩:=q;obtain⟨hn,ha⟩:=Gw hp;obtain⟨xK,BS⟩:=Gw hq;rw[yyQ,yyQ]at e;have st:∀(b:Bool) (x r:aD),Stop r→∀c,(if b then r else 40::x).head? =some c→uS c=true:=fun b x r h c hc=>by
  cases b with
  |true=>exact h.uS c hc
  |false=>simp at hc;rw[←hc];decide
 obtain⟨ew,er⟩:=CY (Yr ha) (Yr BS) (st _ _ _ s1) (st _ _ _ s2) e;have bad:∀{r x:aD},Stop r→r≠40::x:=fun{r x} h hr=>by have:=h 40 (by rw[hr];rfl);revert this;decide
 cases l:iZ o with
 |true=>
  cases l':iZ o' with
  |true=>rw[l,l']at er;simp only[if_true]at er;obtain⟨rfl,rfl,rfl⟩:=yKb hn xK l l' ew;rw[KF hn l,KF xK l'];exact⟨rfl,er⟩
  |false=>rw[l,l']at er;exact absurd er (bad s1)
 |false=>
  cases l':iZ o' with
  |true=>rw[l,l']at er;exact absurd er.symm (bad s2)
  |false=>
   rw[l,l']at er;simp only[Bool.false_eq_true,if_false,List.cons.injEq,true_and]at er;obtain⟨eo,rfl,rfl⟩:=yKa hn xK l l' ew;have key:∀(l1 l2:List Pred),(∀k∈l1,k∈ks)→(∀k∈l2,Good k)→l1≠[]→l2≠[]→Lib.join (l1.map aU) [44]++41::r1=Lib.join (l2.map aU) [44]++41::r2→l1=l2∧r1=r2:=by
    intro l1;induction l1 with
    |nil=>intro l2 _ _ h;exact absurd rfl h
    |cons k l1 p6=>
     intro l2 g1 g2 _ h2 e;cases l2 with
     |nil=>exact absurd rfl h2
     |cons k' l2=>
      rw[yyH,yyH]at e;have qg:∀(b:Bool) (x y:aD),Stop (if b then 41::x else 44::y):=fun b x y=>by
       cases b with
       |true=>exact FF x
       |false=>exact FG y
      obtain⟨rfl,e2⟩:=ih k (g1 k (by simp)) (hp.ej (g1 k (by simp))) k' (g2 k' (by simp)) _ _ (qg _ _ _) (qg _ _ _) e;cases l1 with
      |nil=>
       cases l2 with
       |nil=>simp only[List.isEmpty_nil,if_true,List.cons.injEq,true_and]at e2;exact⟨rfl,e2⟩
       |cons y l2=>simp at e2
      |cons x l1=>
       cases l2 with
       |nil=>simp at e2
       |cons y l2=>simp only[List.isEmpty_cons,Bool.false_eq_true,if_false,List.cons.injEq,true_and]at e2;obtain⟨h1,h3⟩:=p6 (y::l2) (fun z hz=>g1 z (by simp[hz])) (fun z hz=>g2 z (by simp[hz])) (by simp) (by simp) e2;exact⟨by rw[h1],h3⟩
   obtain⟨rfl,e4⟩:=key ks nN (fun k hk=>hk) (fun k hk=>hq.ej hk) (yyI hn l) (yyI xK l') er;refine⟨?_,e4⟩;have k1:=hn.kd;have k2:=xK.kd;rcases eo with rfl|⟨rfl,rfl⟩|⟨rfl,rfl⟩
   ·rfl
   ·exfalso;simp[bN]at k1 k2;omega
   ·exfalso;simp[bN]at k1 k2;omega
theorem yyP{p q}(hp:Good p)(hq:Good q)(h:aU p=aU q):p=q:=
 (yVv p hp q hq [] [] (fun _ h=>by simp at h) (fun _ h=>by simp at h) (by rw[List.append_nil,List.append_nil,h])).1
end Go.Abs
end
section
namespace Go.Abs
theorem yxJ{d}(h:cr d=0)(hc:d.aG≠[]):bB d=(⟨d.aG.map (gA (eJ (dZ 0 d.aG) d.c*mo d.aG)),d.c.tdiv (eJ (dZ 0 d.aG) d.c*mo d.aG)⟩,mo d.aG):=by
 unfold bB;rw[h,if_neg (by decide),if_neg];cases e:d.aG with
 |nil=>exact absurd e hc
 |cons x l=>simp;omega
end Go.Abs
end
section
namespace Go.Abs
theorem R7(a b):cr (eC a b).1=0:=Vw _ _
def CQ(q:QS):Prop:=∀f∈q.ah,cr f=0∧f.aG≠[]∧bB f=(f,1)
structure VP(n:Nat)(p:Pred):Prop where
 ev:∀σ:List Int,n≤σ.length→(∀x∈σ,rL x)→0≤aX σ p
 nm:n≤1000→cW (fun q=>q.name.length≤1073741824) p
theorem VP.le{n m p}(h:VP n p)(hm:n≤m):VP m p:=⟨fun σ hl hs=>h.ev σ (by omega) hs,fun h1=>h.nm (by omega)⟩
structure Eu(q:QS)(r:Pred×QS):Prop where
 cq:CQ r.2
 le:q.ah.length≤r.2.ah.length
 vp:VP r.2.ah.length r.1
theorem O0{d:aH}(h:¬((d.aG.length:Int)==0)=true):d.aG≠[]:=fun h0=>h (by rw[h0];rfl)
theorem Eu.of{q q1 r}(h:Eu q1 r)(hl:q.ah.length≤q1.ah.length):Eu q r:=⟨h.cq,Nat.le_trans hl h.le,h.vp⟩
end Go.Abs
end
section
namespace Go.Abs
def fe:Pred→Prop:=cW fun q=>q.op≠5
theorem Hr:dH≠aL:=by decide
theorem YY{v o}{s:aD}{n ks}(h:cM v (.mk o s n ks)=(aL,0)):(∀k∈ks,(cM v k).2=0)∧jV v o s (ks.map fun k=>(cM v k).1)=(aL,0):=by
 rw[Gq]at h;by_cases h1:(cM.mF v ks !=0)=true
 ·rw[if_pos h1]at h;have:=congrArg Prod.fst h;simp[aL]at this
 ·rw[if_neg h1]at h;exact⟨TX (by simpa using h1),h⟩
theorem LD{v k}(h:(iG v k==aL)=true):cM v k=(aL,0):=by
 have h:(ff v k).1=aL:=by simpa[iG]using h
 unfold ff at h;by_cases h1:(k.bO !=0)=true
 ·rw[if_pos h1]at h;cases h
 ·rw[if_neg h1]at h;by_cases h2:(cM v k).2=0
  ·exact Prod.ext h h2
  ·exfalso;obtain⟨o,s,n,ks⟩:=k;rw[Gq]at h h2;by_cases h3:(cM.mF v ks !=0)=true
   ·rw[if_pos h3]at h;cases h
   ·rw[if_neg h3]at h h2;revert h h2;unfold jV wD rH LB
    repeat' split
    all_goals simp[aL]
theorem VG{o m}(h:bN o m=true)(ho:o=10∨o=11∨o=12∨o=13∨o=15∨o=16∨o=17∨o=18):m=2:=by
 rcases ho with rfl|rfl|rfl|rfl|rfl|rfl|rfl|rfl<;>simpa[bN]using h
theorem El{α:Type}{l:List α}(h:l.length=2):∃a b,l=[a,b]:=by
 match l,h with
 |[a,b],_=>exact⟨a,b,rfl⟩
theorem Vl{α:Type}{l:List α}(h:l.length=1):∃a,l=[a]:=by
 match l,h with
 |[a],_=>exact⟨a,rfl⟩
theorem Gs{l s}(h:iz l s=true):∀x∈l,x=s:=fun x hx=>by have:=List.all_eq_true.1 h x hx;simpa using this
theorem ykr{v o s l}(ho:o=14∨o=15∨o=16∨o=17∨o=18)(h:jV v o s l=(aL,0)):∀x∈l,x=aL:=by
 have:(if iz l aL then(aL,(0:Int))else([],11))=(aL,0):=by rcases ho with rfl|rfl|rfl|rfl|rfl<;>exact h
 split at this
 ·rename_i h;exact Gs h
 ·simp[aL]at this
end Go.Abs
end
section
namespace Go.Abs
theorem yQl{l p}(h:nK l p=true):p∈l:=by unfold nK at h;obtain⟨x,hx,hs⟩:=List.any_eq_true.1 h;have:=(Pred.wz _ _).1 hs;first|exact this▸hx|(rw[this];exact hx)|(rw[←this];exact hx)
theorem yZw{t}(p):∀l,∀y∈l,y∈au t p l:=by
 induction p using Pred.ind with
 |h o s n ks ih=>
 intro l y hy;have key:∀(m l:List Pred),(∀k∈m,k∈ks)→y∈l→y∈m.foldl (fun l k=>au t k l) l:=by
  intro m;induction m with
  |nil=>intro l _ h;exact h
  |cons k m Fo=>intro l hm h;exact Fo _ (fun x hx=>hm x (by simp[hx])) (ih k (hm k (by simp)) l y h)
 rw[Hi];split
 ·exact List.mem_append.2 (.inl (key ks l (fun _ h=>h) hy))
 ·exact key ks l (fun _ h=>h) hy
theorem Yz{t}(p):∀l,∀q∈p.pre,q.op=t→q∈au t p l:=by
 induction p using Pred.ind with
 |h o s n ks ih=>
 intro l q hq ht;have key:∀(m l:List Pred),(∀k∈m,k∈ks)→(∃k∈m,q∈k.pre)→q∈m.foldl (fun l k=>au t k l) l:=by
  intro m;induction m with
  |nil=>intro l _ h;obtain⟨k,hk,_⟩:=h;cases hk
  |cons k m Fo=>
   intro l hm h;obtain⟨x,hx,XC⟩:=h;rw[List.foldl_cons];rcases List.mem_cons.1 hx with rfl|hx
   ·have h1:=ih x (hm x (by simp)) l q XC ht;have hk:∀(m l:List Pred),q∈l→q∈m.foldl (fun l k=>au t k l) l:=by
     intro m;induction m with
     |nil=>intro l h;exact h
     |cons z m ihz=>intro l h;exact ihz _ (yZw z l q h)
    exact hk m _ h1
   ·exact Fo _ (fun y hy=>hm y (by simp[hy])) ⟨x,hx,XC⟩
 rw[Hi];rw[Pred.tM]at hq;rcases List.mem_cons.1 hq with rfl|hq
 ·have ht:o=t:=ht;have iO:(o==t)=true:=by simpa using ht
  rw[iO,Bool.true_and];cases e:nK (ks.foldl (fun l k=>au t k l) l) (.mk o s n ks)with
  |true=>simp only[Bool.not_true,Bool.false_eq_true,if_false];exact yQl e
  |false=>simp
 ·have:=key ks l (fun _ h=>h) (Bh.1 hq);split
  ·exact List.mem_append.2 (.inl this)
  ·exact this
theorem yX6{p}(h:au 5 p []=[]):fe p:=fun q hq h5=>by have:=Yz (t:=5) p [] q hq h5;rw[h]at this;cases this
theorem Vi{P}(Ix:∀a b,P (.mk 15 [] 0 [a,b]))(ht:cW P gX)(hf:cW P dv){l}(h:∀x∈l,cW P x):cW P (ig l):=by
 have key:∀l:List Pred,(∀x∈l,cW P x)→cW P (fb l).1:=by
  refine vA (fun _=>ht) fun l x ih h=>?_;have h1:=ih fun y hy=>h y (by simp[hy]);have hx:=h x (by simp);rw[Hj];unfold jC;split
  ·exact h1
  ·split
   ·exact cW.mk (Ix _ _) (by
      intro k hk;simp only[List.mem_cons,List.not_mem_nil,or_false]at hk;rcases hk with rfl|rfl
      ·exact h1
      ·exact hx)
   ·exact hx
 unfold ig;split
 ·exact hf
 ·exact key l h
theorem FL{P o a b}(h:P (.mk o [] 0 [a,b]))(ha:cW P a)(hb:cW P b):cW P (.mk o [] 0 [a,b]):=cW.mk h (by
 intro k hk;simp only[List.mem_cons,List.not_mem_nil,or_false]at hk;rcases hk with rfl|rfl
 ·exact ha
 ·exact hb)
theorem yv9:fe gX:=cW.mk (by decide) (by simp)
theorem ykE:fe dv:=cW.mk (by decide) (by simp)
theorem yyS{v a b}(ha:fe a)(hb:fe b):fe (dN v a b):=by
 unfold dN;split
 ·exact FL (by show(18:Int)≠5;decide) ha hb
 ·exact FL (by show(10:Int)≠5;decide) ha hb
theorem yze{p}(h:fe p):∀k∈p.kids,fe k:=by obtain⟨o,s,n,ks⟩:=p;exact fun k hk=>cW.ej h hk
theorem LC{α β γ:Type}{f}:∀{a:List α} {b:List β} {c:γ},c∈List.zipWith f a b→∃x∈a,∃y∈b,c=f x y
 |[],_,c,h=>by simp at h
 |_::_,[],c,h=>by simp at h
 |x::a,y::b,c,h=>by
  rw[List.zipWith_cons_cons]at h;rcases List.mem_cons.1 h with rfl|h
  ·exact⟨x,by simp,y,by simp,rfl⟩
  ·obtain⟨x',h1,y',h2,h3⟩:=LC h;exact⟨x',by simp[h1],y',by simp[h2],h3⟩
theorem yv8{v a b}(ha:fe a)(hb:fe b):∀c∈eS v a b,fe c:=by
 intro c hc;unfold eS at hc;split at hc
 ·cases hc
 ·rw[List.mem_singleton]at hc;subst hc;refine FL (by show(17:Int)≠5;decide) (Vi (fun _ _=>by show(15:Int)≠5;decide) yv9 ykE fun x hx=>?_) (yyS ha hb);obtain⟨k,hk,k',fR,rfl⟩:=LC hx;exact yyS (yze ha k hk) (yze hb k' fR)
theorem yzd{v}:∀{l},(∀x∈l,fe x)→∀c∈bD v l,fe c
 |[],_,c,hc=>by cases hc
 |a::r,h,c,hc=>by
  rw[bD]at hc;rcases List.mem_append.1 hc with hc|hc
  ·obtain⟨b,hb,hc⟩:=List.mem_flatMap.1 hc;exact yv8 (h a (by simp)) (h b (by simp[hb])) c hc
  ·exact yzd (fun x hx=>h x (by simp[hx])) c hc
theorem RW{v}(p)(hc:p.cX<2^62)(h:(ff v p).2=0):∀q∈p.pre,(ff v q).2=0:=by
 induction p using Pred.ind with
 |h o s n ks ih=>
 intro q hq;obtain⟨hk,_,_⟩:=SI hc h;rw[Pred.tM]at hq;rcases List.mem_cons.1 hq with rfl|hq
 ·exact h
 ·obtain⟨k,dQ,XB⟩:=Bh.1 hq;have uY:k.cX≤Pred.bw ks:=Pred.MZ dQ;rw[Pred.cX]at hc;exact ih k dQ (by omega) (by rw[(hk k dQ).1];exact(hk k dQ).2) q XB
structure BG(v:al)(p:Pred):Prop where
 nI:Good p
 hole:fe p
 bool:cM v p=(aL,0)
theorem Nb{v p}(hb:eY v p=0)(hz:p.same a8=false):(ff v p).2=0∧cM v p=(aL,0):=by
 unfold eY at hb;rw[hz,if_neg (by decide)]at hb;have h2:(ff v p).2=0:=by
  split at hb
  ·cases hb
  ·exact hb
 refine⟨h2,?_⟩;obtain⟨_,h3⟩:=Ek h2;rw[h2]at hb;have h1:((ff v p).1==aL)=true:=by
  cases e:((ff v p).1==aL)with
  |true=>rfl
  |false=>rw[e]at hb;simp at hb
 rw[←h3];exact Prod.ext (by simpa using h1) h2
theorem Z8{v p}(hc:p.cX≤1048576)(hb:eY v p=0)(hh:au 5 p []=[]):(p.same a8=false→BG v p)∧∀c∈bD v (au 4 p []),BG v c:=by
 have h1:p.same a8=false→BG v p:=fun hz=>⟨OY hb hz,yX6 hh,(Nb hb hz).2⟩;refine⟨h1,fun c pZ=>?_⟩;cases hz:p.same a8 with
 |true=>rw[(Pred.wz p a8).1 hz]at pZ;cases pZ
 |false=>
  have nt:∀x∈au 4 p [],x∈p.pre:=fun x hx=>by
   rcases HX p [] hx with h|h
   ·cases h
   ·exact h
  have hO:=(Nb hb hz).1;refine⟨Z3 (Vn hb) c pZ,yzd (fun x hx=>?_) c pZ,ZQ (fun x hx=>⟨?_,RW p (by omega) hO x (nt x hx)⟩) c pZ⟩
  ·exact fun q hq=>(h1 hz).hole q ((yg p x (nt x hx)).1 q hq)
  ·have:=(yg p x (nt x hx)).2;omega
end Go.Abs
end
section
namespace Go.Abs
structure RS where
 ah:List aH
 aA:List Pred
 long:Bool
 fD:Bool
def gY(v:al)(q:RS)(a b:Nat):List AV:=[.d (.aw (v.vars.map b8.cells)),.d (.aw (v.syms.map cI.cells)),.d (.aw (v.bT.map bI.cells)),.own a 2 (q.ah.map aH.cells),.own b 4 (q.aA.map Pred.cells),.d (.bool q.long),.d (.bool q.fD)]
def pU(v:al)(q:RS)(a b:Nat):Mem:=[(1000,gY v q a b)]
def BJ:bJ:=[(1000,1000)]
theorem Cu(v)(q)(a b):pU v q a b=[(1000,[.d (.aw (v.vars.map b8.cells)),.d (.aw (v.syms.map cI.cells)),.d (.aw (v.bT.map bI.cells)),.own a 2 (q.ah.map aH.cells),.own b 4 (q.aA.map Pred.cells),.d (.bool q.long),.d (.bool q.fD)])]:=rfl
theorem RA{v q c d}:dC [(1000,1000)] [(2000,c),(2001,d)] (pU v q 2000 2001)=pU v q c d:=by
 simp only[pU,gY,dC,aZ,Option.getD_some,mC,mN,AV.oT,AV.gW,Nat.reduceEqDiff,if_true,if_false]
theorem yXl{v q c d k m}(h:k<1000):getM (pU v q c d++m) k=getM m k:=by
 have h0:¬1000=k:=by omega
 simp only[pU,List.cons_append,List.nil_append,getM,h0,if_false]
theorem yK7{v q c d m}:getM (pU v q c d++m) 1000=some (gY v q c d):=rfl
attribute [go_sem] RA yXl yK7
theorem p9{E f}{P:eX→Prop}{st av pB r v q q' gs}
  (hC:E.C f [] (.bx pB (pU v q 2000 2001) QT r (pU v q' 2000 2001) QT)) (a b c d) (hr:r.fB=false) (bV:gs=true)
  (hm:fT BJ [(2000,a),(2001,b)] av pB) (h0:getM st.mem 1000=some (gY v q a b))
  (ha:aE st.tk a=some true) (hb:aE st.tk b=some true) (ki:(a==b)=false) (hc:aE st.tk c=none) (hd:aE st.tk d=none) (qe:(c==d)=false)
  (hK:P ⟨[(1000,1000)],[(2000,a),(2001,b)],[(2000,c),(2001,d)],pB,pU v q 2000 2001,pU v q' 2000 2001,r⟩):
  ∃x:eX,jE E none f gs av st x∧P x:=by
 refine⟨_,⟨rfl,bV,hr,?_,hC⟩,hK⟩
 ·have y5:(b==a)=false:=by rw[beq_eq_false_iff_ne]at ki⊢;exact Ne.symm ki
  simp only[okB,BJ]at hm⊢;refine⟨hm,?_,?_,?_⟩
  ·simp only[pU,de,h0,gY];simp only[go_sem]
  ·simp only[mS,ha,hb,QT,List.contains_cons,cN,y5,Bool.or_false,and_self]
  ·simp only[pU,gY,go_sem,hc,hd,List.contains_cons,cN,Nat.reduceBEq,ki,qe,List.mem_cons,List.not_mem_nil,or_false,forall_eq_or_imp,forall_eq,List.all_cons,List.all_nil]
theorem pE{v q st}(a b)(h0:getM st.mem 1000=some (gY v q a b))
  (ha:aE st.tk a=some true) (hb:aE st.tk b=some true) (ki:(a==b)=false):nF st ⟨[],pU v q 2000 2001,QT⟩:=by
 have y5:(b==a)=false:=by rw[beq_eq_false_iff_ne]at ki⊢;exact Ne.symm ki
 refine jP [(2000,a),(2001,b)] ?_;simp only[pU,gY,QT]at h0⊢;simp only[go_sem,h0,ha,hb,y5,List.contains_cons,cN,oS]
def tZ:List aH→aH→Nat→Option Nat
 |[],_,_=>none
 |g::l,f,i=>if kV g f then some i else tZ l f (i+1)
def RS.add(q:RS)(f:aH):RS:=⟨q.ah++[f],q.aA,q.long||decide (((q.ah.length+1:Nat):Int)>40),q.fD⟩
def dF(f:aH)(q:RS):Nat×RS:=match tZ q.ah f 0 with
 |some i=>(i,q)
 |none=>(q.ah.length,q.add f)
def oW(d:aH)(q:RS):Pred×RS:=if(d.aG.length:Int)==0 then(tP (d.c==0),q)else(bh 10 (dF (bB d).1 q).1,(dF (bB d).1 q).2)
def kU(d:aH)(q:RS):Pred×RS:=
 if(d.aG.length:Int)==0 then(tP (decide (d.c≤0)),q)
 else if(bB d).2==1 then(bh 13 (dF (bB d).1 q).1,(dF (bB d).1 q).2)else(.mk 16 [] 0 [eK (bh 13 (dF (bB d).1 q).1),bh 10 (dF (bB d).1 q).1],(dF (bB d).1 q).2)
def vn(d:aH)(q:RS):Pred×RS:=
 if(d.aG.length:Int)==0 then(tP (decide (d.c<0)),q)
 else if(bB d).2==1 then(.mk 15 [] 0 [bh 13 (dF (bB d).1 q).1,eK (bh 10 (dF (bB d).1 q).1)],(dF (bB d).1 q).2)else(eK (bh 13 (dF (bB d).1 q).1),(dF (bB d).1 q).2)
theorem zKo{f}:∀{l} {i},(∀g∈l,kV g f=false)→tZ l f i=none
 |[],_,_=>rfl
 |g::l,i,h=>by rw[tZ,h g (by simp),if_neg (by decide)];exact zKo fun x hx=>h x (by simp[hx])
theorem yxR{f g}:∀{a r} {i},(∀x∈a,kV x f=false)→kV g f=true→tZ (a++g::r) f i=some (i+a.length)
 |[],r,i,_,h=>by rw[List.nil_append,tZ,h];rfl
 |x::a,r,i,ha,h=>by rw[List.cons_append,tZ,ha x (by simp),if_neg (by decide),yxR (fun y hy=>ha y (by simp[hy])) h,lC];congr 1;omega
theorem yXz{f}:∀{l} {i k},tZ l f i=some k→k<i+l.length
 |[],_,_,h=>by cases h
 |g::l,i,k,h=>by
  rw[tZ]at h;split at h
  ·cases h;simp
  ·have:=yXz h;rw[lC];omega
variable{E:ax}(Z:Sys E)
include Z
theorem LU(o)(l):E.C H8 [.one (.int .i64 o),.one (.aw (l.map Pred.cells))] (.agg (Pred.mk o [] 0 l).cells):=by refine Z.H8 _ _ ⟨bn rfl,?_⟩;rw[Pred.bm (.mk o [] 0 l)];simp only[zQL,go_sem,Pred.op,Pred.name,Pred.n,Pred.kids]
theorem zvH(b):E.C Pe [.one (.bool b)] (.agg (tP b).cells):=by
 refine Z.Pe _ _ ⟨bn rfl,?_⟩;cases b<;>
 ·simp only[tP,gX,dv,Pred.bm,Pred.op,Pred.name,Pred.n,Pred.kids,if_true,if_false,Bool.false_eq_true];simp only[zJe,go_sem,mN]
theorem zZU(o)(i:Nat)(hi:i≤8589934593):E.C La [.one (.int .i64 o),.one (.int .i64 i)] (.agg (bh o i).cells):=by
 have hd:=zqH Z (i:Int) (by omega) (by omega);have hn:=LU Z o [.mk 3 (Lib.itoa (i:Int)) 0 [],.mk 1 [] 0 []];rw[show Pred.mk o [] 0 [.mk 3 (Lib.itoa (i:Int)) 0 [],.mk 1 [] 0 []]=bh o i from rfl]at hn;simp only[mC,mN,Pred.bm (.mk 3 _ 0 []),Pred.bm (.mk 1 [] 0 []),Pred.op,Pred.name,Pred.n,Pred.kids]at hn;have hc:=ud o i;generalize (bh o i).cells=L at*
 refine Z.La _ _ ⟨bn rfl,?_⟩;simp only[zQK,go_sem];refine aR hd ?_;simp only[go_sem];refine aR hn ?_;simp only[go_sem,hc]
variable(v:al)
set_option maxHeartbeats 1000000 in
theorem zWf(f)(q)(hq:q.ah.length≤8589934592):E.C OE [] (.bx [.ptr 1000 0,.agg (f.cells.map .d)] (pU v q 2000 2001) QT (.one (.int .i64 (dF f q).1)) (pU v (dF f q).2 2000 2001) QT):=by
 have hS:=fun g=>zjN Z g f;refine Z.OE _ _ ⟨bn rfl,bn rfl,rfl,?_⟩;generalize hA:dF f q=A at*
 obtain⟨i,q1⟩:=A;unfold dF at hA;simp only[aH.bm]at*
 unfold zw8;refine dJ fun N0 h0=>?_;simp only[Cu v q,QT,go_sem];subst h0;refine dJ fun N1 h1=>?_;simp only[go_sem];have gx:∀done g r,q.ah=done++g::r→(∀x∈done,kV x f=false)→kV g f=true→(done.length,q)=(i,q1):=fun done g r hl hI hs=>by rw[hl,yxR hI hs]at hA;simp only[zA]at hA;exact hA
 have jR:(∀x∈q.ah,kV x f=false)→(q.ah.length,q.add f)=(i,q1):=fun h=>by rw[zKo h]at hA;exact hA
 clear hA;refine gU q.ah (fun done=>∀g∈done,kV g f=false) (fun done _=>⟨[(5,.d (.int .i64 done.length)),(0,.ptr 1000 0),(3,.ptr 3 0)],[(3,[.d (.aw (f.aG.map ak.cells)),.d (.int .i64 f.c)]),(1000,[.d (.aw (v.vars.map b8.cells)),.d (.aw (v.syms.map cI.cells)),.d (.aw (v.bT.map bI.cells)),.own 2000 2 (q.ah.map aH.cells),.own 2001 4 (q.aA.map Pred.cells),.d (.bool q.long),.d (.bool q.fD)])],[(2000,true),(2001,true)]⟩) ?_ (by simp) ?_ ?_
 ·exact jP [(2000,2000),(2001,2001)] (by simp only[go_sem,List.contains_cons,cN,oS,Nat.reduceBEq])
 ·intro done g r hl hI;have bf:=gw hl;have hx:=u4 (f:=aH.cells) hl rfl;have hd:decide ((done.length:Int)<(q.ah.length:Int))=true:=decide_eq_true bf;have gx:=gx done g r hl hI;have W5:=hS g;obtain⟨cs,c⟩:=g;simp only[aH.cells]at hx W5;unfold zym;refine dJ fun M0 g0=>?_;simp only[go_sem,hd,bf,lM];try intro _
  have pM:IntKind.i64.wrap ((done.length:Int)+1)=((done.length+1:Nat):Int):=gn (by omega);subst g0;refine dJ fun M1 g1=>?_;rw[Br];refine dJ fun M2 g2=>?_;simp only[go_sem,bf,hx];refine⟨_,W5,?_⟩;simp only[go_sem];subst g2;cases hs:kV ⟨cs,c⟩ f with
  |true=>obtain⟨rfl,rfl⟩:=Prod.mk.inj (gx hs);simp only[go_sem];exact pE 2000 2001 rfl rfl rfl rfl
  |false=>simp only[go_sem];subst g1;simp only[go_sem,pM,lA];exact⟨jP [(2000,2000),(2001,2001)] (by simp only[go_sem,List.contains_cons,cN,oS,Nat.reduceBEq]),qi hI hs⟩
 ·intro hI;obtain⟨rfl,rfl⟩:=Prod.mk.inj (jR hI);have mw:=aH.lens q.ah;have o1:(q.ah.length+1)*32≤2^46:=by omega
  have o2:q.ah.length≤9223372036854775806:=by omega
  simp only[zym,go_sem,lM];try intro _
  subst h1;refine dJ fun N2 h2=>?_;simp only[go_sem,lM,mw,o1,o2];refine⟨fun e he=>by rw[List.mem_singleton.1 he];rfl,?_⟩;have xP:IntKind.i64.wrap (((q.ah.length+1:Nat):Int)-1)=(q.ah.length:Int):=by rw[i64_in _ (by omega)];omega
  have CM:((q.ah.map aH.cells++[[D.aw (f.aG.map ak.cells),D.int .i64 f.c]]).length)=q.ah.length+1:=by simp
  subst h2;cases c40:decide (((q.ah.length+1:Nat):Int)>40)with
  |true=>simp only[go_sem,CM,c40];intro _ _;refine⟨xP,?_⟩;refine pE (q:=q.add f) 32 2001 ?_ rfl rfl rfl;simp only[go_sem,gY,RS.add,c40,Bool.or_true,mA];rfl
  |false=>simp only[go_sem,CM,c40];intro _ _;refine⟨xP,?_⟩;refine pE (q:=q.add f) 32 2001 ?_ rfl rfl rfl;simp only[go_sem,gY,RS.add,c40,Bool.or_false,mA];rfl
end Go.Abs
end
section
namespace Go.Abs
theorem H9(p):(eK p).cells=[.int .i64 14,.str [],.int .i64 0,.aw [p.cells]]:=by unfold eK;rw[Pred.bm];rfl
theorem LO(o)(a b):(Pred.mk o [] 0 [a,b]).cells=[.int .i64 o,.str [],.int .i64 0,.aw [a.cells,b.cells]]:=by rw[Pred.bm];rfl
theorem LS(f)(q):(dF f q).2.ah.length≤q.ah.length+1∧(dF f q).1≤q.ah.length∧(dF f q).2.aA=q.aA∧(dF f q).2.fD=q.fD:=by
 unfold dF;cases h:tZ q.ah f 0 with
 |some i=>have:=yXz h;exact⟨by simp,by simp;omega,rfl,rfl⟩
 |none=>exact⟨by simp[RS.add],by simp,rfl,rfl⟩
variable{E:ax}(Z:Sys E)
include Z
variable(v:al)
theorem yz4(d)(q)(hq:q.ah.length≤1073741824):E.C Wb [] (.bx [.ptr 1000 0,.agg (d.cells.map .d)] (pU v q 2000 2001) QT (.agg (oW d q).1.cells) (pU v (oW d q).2 2000 2001) QT):=by
 have hF:=zjM Z d;have hI:=zWf Z v (bB d).1 q (by omega);have hL:=fun o=>zZU Z o (dF (bB d).1 q).1 (by have:=(LS (bB d).1 q).2.1;omega);have aa:=fun b=>zvH Z b;refine Z.Wb _ _ ⟨bn rfl,bn rfl,rfl,?_⟩;generalize hA:oW d q=A at*
 unfold oW at hA;obtain⟨P,q1⟩:=A;unfold wu at hF;generalize bB d=F at*
 obtain⟨f,s⟩:=F;simp only at hI hL hA hF;generalize dF f q=S at*
 obtain⟨i,q2⟩:=S;simp only[aH.bm,mC,mN,ud]at*
 simp only[zj2,Cu v q,QT,go_sem];intro hl;cases c:((d.aG.length:Int)==0)with
 |true=>rw[c,if_pos rfl]at hA;obtain⟨rfl,rfl⟩:=Prod.mk.inj hA;simp only[go_sem];refine aR (aa _) ?_;unfold tP;simp only[go_sem];exact pE 2000 2001 rfl rfl rfl rfl
 |false=>rw[c,if_neg (by decide)]at hA;obtain⟨rfl,rfl⟩:=Prod.mk.inj hA;simp only[go_sem];refine aR hF ?_;simp only[go_sem];refine p9 hI 2000 2001 3000 3001 rfl rfl (by simp only[BJ,go_sem]) rfl rfl rfl rfl rfl rfl rfl ?_;simp only[go_sem];refine aR (hL 10) ?_;simp only[go_sem,ud];exact pE 3000 3001 rfl rfl rfl rfl
theorem yq8(d)(q)(hq:q.ah.length≤1073741824):E.C OD [] (.bx [.ptr 1000 0,.agg (d.cells.map .d)] (pU v q 2000 2001) QT (.agg (kU d q).1.cells) (pU v (kU d q).2 2000 2001) QT):=by
 have hF:=zjM Z d;have hI:=zWf Z v (bB d).1 q (by omega);have hL:=fun o=>zZU Z o (dF (bB d).1 q).1 (by have:=(LS (bB d).1 q).2.1;omega);have aa:=fun b=>zvH Z b;have oP:∀p,(Pred.mk 14 [] 0 [p]).cells=[.int .i64 14,.str [],.int .i64 0,.aw [p.cells]]:=H9;have vw:=LU Z 14 [bh 13 (dF (bB d).1 q).1];have h16:=LU Z 16 [eK (bh 13 (dF (bB d).1 q).1),bh 10 (dF (bB d).1 q).1];refine Z.OD _ _ ⟨bn rfl,bn rfl,rfl,?_⟩;generalize hA:kU d q=A at*
 unfold kU at hA;obtain⟨P,q1⟩:=A;unfold wu at hF;generalize bB d=F at*
 obtain⟨f,s⟩:=F;simp only at hI hL hA hF;generalize dF f q=S at*
 obtain⟨i,q2⟩:=S;simp only[aH.bm,mC,mN,LO,oP,H9,ud]at*
 simp only[zkF,Cu v q,QT,go_sem];intro hl;cases c:((d.aG.length:Int)==0)with
 |true=>rw[c,if_pos rfl]at hA;obtain⟨rfl,rfl⟩:=Prod.mk.inj hA;simp only[go_sem];refine aR (aa _) ?_;unfold tP;simp only[go_sem];exact pE 2000 2001 rfl rfl rfl rfl
 |false=>
  rw[c,if_neg (by decide)]at hA;simp only[go_sem];refine aR hF ?_;simp only[go_sem];refine p9 hI 2000 2001 3000 3001 rfl rfl (by simp only[BJ,go_sem]) rfl rfl rfl rfl rfl rfl rfl ?_;simp only[go_sem];cases c1:(s==1)with
  |true=>rw[c1,if_pos rfl]at hA;obtain⟨rfl,rfl⟩:=Prod.mk.inj hA;simp only[go_sem];refine aR (hL 13) ?_;simp only[go_sem];simp only[go_sem,LO,oP,H9,ud];exact pE 3000 3001 rfl rfl rfl rfl
  |false=>rw[c1,if_neg (by decide)]at hA;obtain⟨rfl,rfl⟩:=Prod.mk.inj hA;simp only[go_sem];refine aR (hL 13) ?_;simp only[go_sem];refine aR vw ?_;simp only[go_sem];refine aR (hL 10) ?_;simp only[go_sem];refine aR h16 ?_;simp only[go_sem];simp only[go_sem,LO,oP,H9,ud];exact pE 3000 3001 rfl rfl rfl rfl
theorem yq7(d)(q)(hq:q.ah.length≤1073741824):E.C zxu [] (.bx [.ptr 1000 0,.agg (d.cells.map .d)] (pU v q 2000 2001) QT (.agg (vn d q).1.cells) (pU v (vn d q).2 2000 2001) QT):=by
 have hF:=zjM Z d;have hI:=zWf Z v (bB d).1 q (by omega);have hL:=fun o=>zZU Z o (dF (bB d).1 q).1 (by have:=(LS (bB d).1 q).2.1;omega);have aa:=fun b=>zvH Z b;have oP:∀p,(Pred.mk 14 [] 0 [p]).cells=[.int .i64 14,.str [],.int .i64 0,.aw [p.cells]]:=H9;have vw:=LU Z 14 [bh 10 (dF (bB d).1 q).1];have xac:=LU Z 14 [bh 13 (dF (bB d).1 q).1];have Ix:=LU Z 15 [bh 13 (dF (bB d).1 q).1,eK (bh 10 (dF (bB d).1 q).1)];refine Z.zxu _ _ ⟨bn rfl,bn rfl,rfl,?_⟩;generalize hA:vn d q=A at*
 unfold vn at hA;obtain⟨P,q1⟩:=A;unfold wu at hF;generalize bB d=F at*
 obtain⟨f,s⟩:=F;simp only at hI hL hA hF;generalize dF f q=S at*
 obtain⟨i,q2⟩:=S;simp only[aH.bm,mC,mN,LO,oP,H9,ud]at*
 simp only[zj0,Cu v q,QT,go_sem];intro hl;cases c:((d.aG.length:Int)==0)with
 |true=>rw[c,if_pos rfl]at hA;obtain⟨rfl,rfl⟩:=Prod.mk.inj hA;simp only[go_sem];refine aR (aa _) ?_;unfold tP;simp only[go_sem];exact pE 2000 2001 rfl rfl rfl rfl
 |false=>
  rw[c,if_neg (by decide)]at hA;simp only[go_sem];refine aR hF ?_;simp only[go_sem];refine p9 hI 2000 2001 3000 3001 rfl rfl (by simp only[BJ,go_sem]) rfl rfl rfl rfl rfl rfl rfl ?_;simp only[go_sem];cases c1:(s==1)with
  |true=>rw[c1,if_pos rfl]at hA;obtain⟨rfl,rfl⟩:=Prod.mk.inj hA;simp only[go_sem];refine aR (hL 13) ?_;simp only[go_sem];refine aR (hL 10) ?_;simp only[go_sem];refine aR vw ?_;simp only[go_sem];refine aR Ix ?_;simp only[go_sem];simp only[go_sem,LO,oP,H9,ud];exact pE 3000 3001 rfl rfl rfl rfl
  |false=>rw[c1,if_neg (by decide)]at hA;obtain⟨rfl,rfl⟩:=Prod.mk.inj hA;simp only[go_sem];refine aR (hL 13) ?_;simp only[go_sem];refine aR xac ?_;simp only[go_sem];simp only[go_sem,LO,oP,H9,ud];exact pE 3000 3001 rfl rfl rfl rfl
end Go.Abs
end
section
namespace Go.Abs
def bz:Pred→aH×Bool
 |.mk o s n ks=>
  if o==1 then(⟨[],n⟩,cr ⟨[],n⟩==0)
  else if o==3 then(⟨[⟨s,1⟩],0⟩,cr ⟨[⟨s,1⟩],0⟩==0)
  else match ks with
   |[a]=>if o==9 then(if !(bz a).2 then(bE,false)else aF (bz a).1 (-1))else(bE,false)
   |[a,b]=>
    if o==8 then(if !(bz b).2 then(bE,false)else aF (bz b).1 a.n)
    else if o==6 then(if !(bz a).2||!(bz b).2 then(bE,false)else cf (bz a).1 (bz b).1)
    else if o==7 then(if !(bz b).2 then(bE,false)else if !(bz a).2||!(aF (bz b).1 (-1)).2 then(bE,false)else cf (bz a).1 (aF (bz b).1 (-1)).1)
    else(bE,false)
   |_=>(bE,false)
def KOk:Pred→Prop:=cW fun q=>bN q.op q.kids.length=true
variable{E:ax}(Z:Sys E)
include Z
set_option maxHeartbeats 4000000 in
theorem yk1(p):KOk p→E.C Oy [.agg p.cells] (lv (bz p)):=by
 induction p using Pred.ind with
 |h o s n ks ih=>
 intro hk;have uZ:bN o ks.length=true:=hk.top;have hC:=fun a=>UL Z a;have hSc:=fun a k=>zJl Z a k;have hAd:=fun a b=>yy3 Z a b;refine Z.Oy _ _ ⟨bn rfl,?_⟩;generalize hR:bz (.mk o s n ks)=R at*
 obtain⟨L,ok⟩:=R;unfold lv at*
 rw[Pred.bm (.mk o s n ks)];simp only[Pred.op,Pred.name,Pred.n,Pred.kids,aH.bm]at hC hSc hAd ih⊢;by_cases h1:o=1
 ·subst h1;obtain rfl:=TT uZ (by decide);have hR:((⟨[],n⟩:aH),cr ⟨[],n⟩==0)=(L,ok):=by rw[←hR,bz]<;>first|rfl|simp
  obtain⟨rfl,rfl⟩:=Prod.mk.inj hR;have:=hC ⟨[],n⟩;simp only[mN]at this;simp only[Ph,go_sem,Int.reduceBEq];refine⟨_,this,?_⟩;simp only[go_sem]
 by_cases h3:o=3
 ·subst h3;obtain rfl:=TT uZ (by decide);have hR:((⟨[⟨s,1⟩],0⟩:aH),cr ⟨[⟨s,1⟩],0⟩==0)=(L,ok):=by rw[←hR,bz]<;>first|rfl|simp
  obtain⟨rfl,rfl⟩:=Prod.mk.inj hR;have:=hC ⟨[⟨s,1⟩],0⟩;simp only[mN,mC,ak.cells]at this;simp only[Ph,go_sem,Int.reduceBEq,ak.cells,mC,mN];refine⟨_,this,?_⟩;simp only[go_sem]
 by_cases h9:o=9
 ·subst h9;obtain⟨a,rfl⟩:=Vl (l:=ks) (by simp[bN]at uZ;omega);rw[bz]at hR;have hR:(if !(bz a).2 then(bE,false)else aF (bz a).1 (-1))=(L,ok):=hR;have my:=ih a (by simp) (hk.ej (by simp));have WZ:=hSc (bz a).1 (-1);have ji:(∀e∈[a.cells],e.length=4)=True:=eq_true (by simp[Pred.mV]);generalize bz a=A at*
  generalize aF A.1 (-1)=S at*
  simp only[Ph,go_sem,Int.reduceBEq,mC,mN,lC,lN,ji];refine aR my ?_;simp only[go_sem];cases ca:A.2 with
  |false=>rw[ca]at hR;obtain⟨rfl,rfl⟩:=Prod.mk.inj (show(bE,false)=(L,ok)from hR);simp only[go_sem,bE,mN]
  |true=>rw[ca]at hR;have hR:S=(L,ok):=hR;subst hR;simp only[go_sem];refine aR WZ ?_;simp only[go_sem]
 by_cases h8:o=8
 ·subst h8;obtain⟨a,b,rfl⟩:=El (l:=ks) (by simp[bN]at uZ;omega);rw[bz]at hR;have hR:(if !(bz b).2 then(bE,false)else aF (bz b).1 a.n)=(L,ok):=hR;have nM:=ih b (by simp) (hk.ej (by simp));have WZ:=hSc (bz b).1 a.n;have ji:(∀e∈[a.cells,b.cells],e.length=4)=True:=eq_true (by simp[Pred.mV]);have nH:=Pred.bm a;generalize bz b=A at*
  generalize aF A.1 a.n=S at*
  simp only[Ph,go_sem,Int.reduceBEq,mC,mN,lC,lN,ji];refine aR nM ?_;simp only[go_sem,ji];cases ca:A.2 with
  |false=>rw[ca]at hR;obtain⟨rfl,rfl⟩:=Prod.mk.inj (show(bE,false)=(L,ok)from hR);simp only[go_sem,bE,mN]
  |true=>rw[ca]at hR;have hR:S=(L,ok):=hR;subst hR;simp only[go_sem,ji,nH];refine⟨_,WZ,?_⟩;simp only[go_sem]
 by_cases h6:o=6
 ·subst h6;obtain⟨a,b,rfl⟩:=El (l:=ks) (by simp[bN]at uZ;omega);rw[bz]at hR;have hR:(if !(bz a).2||!(bz b).2 then(bE,false)else cf (bz a).1 (bz b).1)=(L,ok):=hR;have my:=ih a (by simp) (hk.ej (by simp));have nM:=ih b (by simp) (hk.ej (by simp));have EI:=hAd (bz a).1 (bz b).1;have ji:(∀e∈[a.cells,b.cells],e.length=4)=True:=eq_true (by simp[Pred.mV]);generalize bz a=A at*
  generalize bz b=B at*
  generalize cf A.1 B.1=S at*
  simp only[Ph,go_sem,Int.reduceBEq,mC,mN,lC,lN,ji];refine aR my ?_;simp only[go_sem,ji];refine aR nM ?_;simp only[go_sem,ji,Int.reduceBEq,Bool.and_false];cases ca:(!A.2||!B.2)with
  |true=>rw[ca]at hR;obtain⟨rfl,rfl⟩:=Prod.mk.inj (show(bE,false)=(L,ok)from hR);simp only[go_sem,bE,mN]
  |false=>rw[ca]at hR;have hR:S=(L,ok):=hR;subst hR;simp only[go_sem];refine aR EI ?_;simp only[go_sem]
 by_cases h7:o=7
 ·subst h7;obtain⟨a,b,rfl⟩:=El (l:=ks) (by simp[bN]at uZ;omega);rw[bz]at hR;have hR:(if !(bz b).2 then(bE,false)else if !(bz a).2||!(aF (bz b).1 (-1)).2 then(bE,false)else cf (bz a).1 (aF (bz b).1 (-1)).1)=(L,ok):=hR;have my:=ih a (by simp) (hk.ej (by simp));have nM:=ih b (by simp) (hk.ej (by simp));have WZ:=hSc (bz b).1 (-1);have EI:=hAd (bz a).1 (aF (bz b).1 (-1)).1;have ji:(∀e∈[a.cells,b.cells],e.length=4)=True:=eq_true (by simp[Pred.mV]);generalize bz a=A at*
  generalize bz b=B at*
  generalize aF B.1 (-1)=C at*
  generalize cf A.1 C.1=S at*
  simp only[Ph,go_sem,Int.reduceBEq,mC,mN,lC,lN,ji];refine aR my ?_;simp only[go_sem,ji];refine aR nM ?_;simp only[go_sem,ji,Int.reduceBEq,Bool.and_true];cases cb:B.2 with
  |false=>rw[cb]at hR;obtain⟨rfl,rfl⟩:=Prod.mk.inj (show(bE,false)=(L,ok)from hR);simp only[go_sem,bE,mN,Bool.or_true]
  |true=>
   rw[cb]at hR;have hR:(if !A.2||!C.2 then(bE,false)else S)=(L,ok):=hR;simp only[go_sem];refine aR WZ ?_;simp only[go_sem];cases ca:(!A.2||!C.2)with
   |true=>rw[ca]at hR;obtain⟨rfl,rfl⟩:=Prod.mk.inj (show(bE,false)=(L,ok)from hR);simp only[go_sem,bE,mN]
   |false=>rw[ca]at hR;have hR:S=(L,ok):=hR;subst hR;simp only[go_sem];refine aR EI ?_;simp only[go_sem]
 have e1:(o==1)=false:=by simpa using h1
 have e3:(o==3)=false:=by simpa using h3
 have e9:(o==9)=false:=by simpa using h9
 have e8:(o==8)=false:=by simpa using h8
 have e6:(o==6)=false:=by simpa using h6
 have e7:(o==7)=false:=by simpa using h7
 have hT:bz (.mk o s n ks)=(bE,false):=by
  match ks with
  |[]=>rw[bz]<;>simp[e1,e3]
  |[a]=>rw[bz];simp only[e1,e3,e9,Bool.false_eq_true,if_false]
  |[a,b]=>rw[bz];simp only[e1,e3,e8,e6,e7,Bool.false_eq_true,if_false]
  |a::b::c::d=>rw[bz]<;>simp[e1,e3]
 rw[hT]at hR;obtain⟨rfl,rfl⟩:=Prod.mk.inj hR;simp only[Ph,go_sem,e1,e3,e9,e8,e6,e7,bE,mN]
end Go.Abs
end
section
namespace Go.Abs
def kH(p:Pred)(k n:Int):aH:=⟨[⟨(bZ p).name,k⟩],n⟩
def RS.err(q:RS):RS:=⟨q.ah,q.aA,q.long,true⟩
def eM(a b:Pred)(q:RS):aH×RS:=if(bz (.mk 7 [] 0 [bZ a,bZ b])).2 then((bz (.mk 7 [] 0 [bZ a,bZ b])).1,q)else(bE,q.err)
def RS.Be(q:RS)(p:Pred):RS:=if q.aA.any fun x=>x.same p then q else⟨q.ah,q.aA++[p],q.long,q.fD⟩
def rG(p:Pred)(q:RS):Pred×RS:=if cr (kH p 1 (-1)) !=0 then(tP false,q.err)else oW (kH p 1 (-1)) (q.Be p)
theorem yqA(p):Good p→KOk (bZ p):=by
 induction p using Pred.ind with
 |h o s n ks ih=>
 intro hg;obtain⟨hn,_⟩:=Gw hg;rw[O6];split
 ·exact cW.mk (by show bN 3 0=true;decide) (by simp)
 ·refine cW.mk (by show bN o ((ks.map bZ).length)=true;rw[lM];exact hn.kd) fun k hk=>?_;obtain⟨x,hx,rfl⟩:=List.mem_map.1 hk;exact ih x hx (hg.ej hx)
theorem yVp{a b}(ha:Good a)(hb:Good b):KOk (.mk 7 [] 0 [bZ a,bZ b]):=FL (by show bN 7 2=true;decide) (yqA a ha) (yqA b hb)
variable{E:ax}(Z:Sys E)
include Z
theorem zVs(p)(hi:kF p)(hz:p.sz≤1048576)(k n):E.C TR [.agg p.cells,.one (.int .i64 k),.one (.int .i64 n)] (.agg (kH p k n).cells):=by
 have hf:=zZT Z p hi hz;refine Z.TR _ _ ⟨bn rfl,?_⟩;unfold kH;generalize bZ p=F at*
 rw[Pred.bm F]at hf;rw[Pred.bm p]at*
 simp only[yyA,go_sem];refine aR hf ?_;simp only[go_sem,aH.bm,ak.cells,mC,mN]
variable(v:al)
theorem yq9(p)(q):E.C zxv [] (.bx [.ptr 1000 0,.agg (p.cells.map .d)] (pU v q 2000 2001) QT (.one (.str (iG v p))) (pU v q 2000 2001) QT):=by
 have hO:=zKG Z v p;refine Z.zxv _ _ ⟨bn rfl,bn rfl,rfl,?_⟩;unfold iG;unfold two at hO;rw[show v.cells=[.aw (v.vars.map b8.cells),.aw (v.syms.map cI.cells),.aw (v.bT.map bI.cells)]from rfl]at hO;generalize ff v p=R at*
 rw[Pred.bm p]at*
 simp only[mC,mN];simp only[zj1,Cu v q,QT,go_sem];refine⟨_,hO,?_⟩;simp only[go_sem];exact pE 2000 2001 rfl rfl rfl rfl
theorem zZ0(a b)(ga:Good a)(gb:Good b)(za:a.sz≤1048576)(zb:b.sz≤1048576)(q):E.C UX [] (.bx [.ptr 1000 0,.agg (a.cells.map .d),.agg (b.cells.map .d)] (pU v q 2000 2001) QT (.agg (eM a b q).1.cells) (pU v (eM a b q).2 2000 2001) QT):=by
 have Mm:=zZT Z a (HU ga) za;have Xh:=zZT Z b (HU gb) zb;have hn:=LU Z 7 [bZ a,bZ b];have ht:=yk1 Z _ (yVp ga gb);refine Z.UX _ _ ⟨bn rfl,bn rfl,rfl,?_⟩;generalize hA:eM a b q=A at*
 obtain⟨L,q1⟩:=A;unfold eM at hA;unfold lv at ht;generalize bz (.mk 7 [] 0 [bZ a,bZ b])=T at*
 obtain⟨t,ok⟩:=T;simp only[mC,mN,LO]at hn ht;generalize bZ a=FA at*
 generalize bZ b=FB at*
 rw[Pred.bm FA]at*
 rw[Pred.bm FB]at*
 rw[Pred.bm a]at*
 rw[Pred.bm b]at*
 simp only[aH.bm,mC,mN]at*
 simp only[zki,Cu v q,QT,go_sem];refine⟨_,Mm,?_⟩;simp only[go_sem];refine⟨_,Xh,?_⟩;simp only[go_sem];refine⟨_,hn,?_⟩;simp only[go_sem];refine⟨_,ht,?_⟩;simp only[go_sem];cases ok with
 |true=>rw[if_pos rfl]at hA;obtain⟨rfl,rfl⟩:=Prod.mk.inj hA;simp only[go_sem];exact pE 2000 2001 rfl rfl rfl rfl
 |false=>rw[if_neg (by decide)]at hA;obtain⟨rfl,rfl⟩:=Prod.mk.inj hA;simp only[go_sem,bE,mN];exact pE (q:=q.err) 2000 2001 rfl rfl rfl rfl
set_option maxHeartbeats 4000000 in
theorem yvr(p)(gp:Good p)(hz:p.sz≤1048576)(q)(hq:q.ah.length≤1073741824)(hb:q.aA.length≤1073741824):E.C zy2 [] (.bx [.ptr 1000 0,.agg (p.cells.map .d)] (pU v q 2000 2001) QT (.agg (rG p q).1.cells) (pU v (rG p q).2 2000 2001) QT):=by
 have h1:=zVs Z p (HU gp) hz 1 (-1);have hC:=UL Z (kH p 1 (-1));have hS:=fun x=>V9 Z x p;have aa:=zvH Z false;have hsf:(q.Be p).ah=q.ah:=by unfold RS.Be;split<;>rfl
 have hZ:=yz4 Z v (kH p 1 (-1)) (q.Be p) (by rw[hsf];exact hq);refine Z.zy2 _ _ ⟨bn rfl,bn rfl,rfl,?_⟩;generalize hA:rG p q=A at*
 obtain⟨P,q1⟩:=A;unfold rG at hA;generalize kH p 1 (-1)=D at*
 have CJ:=Pred.bm P;rw[Pred.bm p]at*
 rw[Pred.bm (tP false)]at aa;simp only[aH.bm,mC,mN]at*
 unfold zjy;refine dJ fun N0 h0=>?_;simp only[Cu v q,QT,go_sem];subst h0;refine dJ fun N1 g1=>?_;simp only[go_sem];refine aR h1 ?_;simp only[go_sem];subst g1;refine dJ fun N2 g2=>?_;simp only[go_sem];refine aR hC ?_;simp only[go_sem];cases c:(cr D !=0)with
 |true=>rw[c,if_pos rfl]at hA;obtain⟨rfl,rfl⟩:=Prod.mk.inj hA;simp only[go_sem];refine aR aa ?_;simp only[go_sem,CJ];exact pE (q:=q.err) 2000 2001 rfl rfl rfl rfl
 |false=>
  rw[c,if_neg (by decide)]at hA;rw[hA]at hZ;simp only[go_sem];subst g2;refine dJ fun N3 g3=>?_;simp only[go_sem];subst g3;refine dJ fun N4 g4=>?_;simp only[go_sem];refine mf fun K hK=>?_;refine gU q.aA (fun _=>True) (fun done _=>⟨[(7,.d (.int .i64 done.length)),(6,.d (.bool (done.any fun x=>x.same p))),(0,.ptr 1000 0),(3,.ptr 3 0),(4,.ptr 4 0),(5,.ptr 5 0)],
   [(3,[.d (.int .i64 p.op),.d (.str p.name),.d (.int .i64 p.n),.d (.aw (p.kids.map Pred.cells))]),(4,[.d (.int .i64 0),.d (.str []),.d (.int .i64 0),.full []]),(5,[.d (.aw (D.aG.map ak.cells)),.d (.int .i64 D.c)]),(1000,[.d (.aw (v.vars.map b8.cells)),.d (.aw (v.syms.map cI.cells)),.d (.aw (v.bT.map bI.cells)),.own 2000 2 (q.ah.map aH.cells),.own 2001 4 (q.aA.map Pred.cells),.d (.bool q.long),.d (.bool q.fD)])],[(2000,true),(2001,true)]⟩) ?_ trivial ?_ ?_
  ·exact jP [(2000,2000),(2001,2001)] (by simp only[go_sem,List.contains_cons,cN,oS,Nat.reduceBEq,List.any_nil,mN])
  ·intro done x r hl _;have bf:=gw hl;have hd:decide ((done.length:Int)<(q.aA.length:Int))=true:=decide_eq_true bf;have pM:IntKind.i64.wrap ((done.length:Int)+1)=((done.length+1:Nat):Int):=gn (by omega);have hSx:=hS x;have hx:=rJ hl;rw[Pred.bm x]at hx hSx;have ji:(∀e∈q.aA.map Pred.cells,e.length=4)=True:=Pred.yt q.aA;have xad:(done++[x]).any (fun x=>x.same p)=(done.any (fun x=>x.same p)||x.same p):=by simp
   unfold zxU;refine dJ fun M0 g0=>?_;simp only[go_sem,hd,bf,lM];try intro _
   subst g0;refine dJ fun M1 g1=>?_;rw[Br];simp only[go_sem,bf,hx,ji];refine⟨_,fun _=>hSx,?_⟩;simp only[go_sem];subst g1;simp only[go_sem,pM,lA,xad];exact jP [(2000,2000),(2001,2001)] (by simp only[go_sem,List.contains_cons,cN,oS,Nat.reduceBEq])
  ·intro _;unfold zxU;refine dJ fun M0 g0=>?_;simp only[go_sem,lM];try intro _
   subst hK;rw[je];subst g4;refine dJ fun N5 g5=>?_;have leaf:∀(qg:St) (tb:Nat),aC qg.ae 0=.ptr 1000 0→aC qg.ae 5=.ptr 5 0→aC qg.ae 4=.ptr 4 0→getM qg.mem 4=some [.d (.int .i64 0),.d (.str []),.d (.int .i64 0),.full []]→getM qg.mem 5=some [.d (.aw (D.aG.map ak.cells)),.d (.int .i64 D.c)]→
     getM qg.mem 1000=some (gY v (q.Be p) 2000 tb)→aE qg.tk 2000=some true→aE qg.tk tb=some true→(2000==tb)=false→aE qg.tk 3000=none→aE qg.tk 3001=none→N5 qg:=by
    intro qg tb s0 s5 s4 m4 m5 m0 t0 tb' b6 f0 f1;subst g5;simp only[go_sem,s0,s5,s4,m4,m5];refine p9 hZ 2000 tb 3000 3001 rfl rfl (by simp only[BJ,go_sem,m5]) m0 t0 tb' b6 f0 f1 rfl ?_;simp only[go_sem,CJ,m4];exact pE 3000 3001 rfl rfl rfl rfl
   cases ha:(q.aA.any fun x=>x.same p)with
   |true=>
    have QY:q.Be p=q:=by unfold RS.Be;rw[ha,if_pos rfl]
    simp only[go_sem,ha];exact leaf _ 2001 rfl rfl rfl rfl rfl (by rw[QY];rfl) rfl rfl rfl rfl rfl
   |false=>
    have QY:q.Be p=⟨q.ah,q.aA++[p],q.long,q.fD⟩:=by unfold RS.Be;rw[ha];rfl
    simp only[go_sem,ha];have ji:(∀e∈q.aA.map Pred.cells,e.length=4)=True:=Pred.yt q.aA;have o1:(q.aA.length+1)*56≤2^46:=by omega
    have o2:q.aA.length≤9223372036854775806:=by omega
    refine G4 [] ?_;simp only[go_sem,ji,lM,o1,o2,cN]
    repeat' (first
     |exact leaf _ 47 rfl rfl rfl rfl rfl (by rw[QY];simp only[go_sem,gY,mA,mC,mN,Pred.bm p]) rfl rfl rfl rfl rfl
     |(refine And.intro ?_ ?_)
     |(intro h;cases h))
end Go.Abs
end
section
namespace Go.Abs
theorem Vj{v o}{s:aD}{n ks}(h:BG v (.mk o s n ks)):
  (o=2∧s=[]∧ks=[])∨(o=3∨o=4)∨((o=14∨o=15∨o=16∨o=17∨o=18)∧∀k∈ks,BG v k)∨
  ((o=10∨o=11)∧∃a b,ks=[a,b]∧(cM v a).2=0∧(cM v b).2=0∧(cM v a).1=(cM v b).1∧((iG v a==aL)=true→BG v a∧BG v b))∨
  ((o=12∨o=13)∧∃a b,ks=[a,b]∧cM v a=(dH,0)∧cM v b=(dH,0)∧(iG v a==aL)=false):=by
 obtain⟨hg,hh,ho⟩:=h;obtain⟨hn,_⟩:=Gw hg;obtain⟨he,hs⟩:=YY ho;have hh5:o≠5:=hh.top;have lo:=hn.lo;have hi:=hn.hi;have od:∀l:List aD,(if iz l dH then(dH,(0:Int))else([],11))≠(aL,0):=fun l=>by split<;>simp[dH,aL]
 have Mc:(o=10∨o=11∨o=12∨o=13)→∃a b,ks=[a,b]:=fun h=>El (l:=ks) (by have:=VG hn.kd (by omega);omega);have hd:o=1∨o=2∨o=3∨o=4∨o=6∨o=7∨o=8∨o=9∨o=10∨o=11∨o=12∨o=13∨14≤o:=by omega
 rcases hd with rfl|rfl|h|h|rfl|rfl|rfl|rfl|h|h|h|h|h
 ·exact absurd (congrArg Prod.fst hs) Hr
 ·exact .inl ⟨rfl,by have:=hn.nm;simpa using this,KF hn rfl⟩
 ·exact .inr (.inl (.inl h))
 ·exact .inr (.inl (.inr h))
 ·exact absurd hs (od _)
 ·exact absurd hs (od _)
 ·exact absurd hs (od _)
 ·exact absurd hs (od _)
 ·obtain⟨a,b,rfl⟩:=Mc (.inl h);refine .inr (.inr (.inr (.inl ⟨.inl h,a,b,rfl,he a (by simp),he b (by simp),?_,?_⟩)));all_goals
   subst h;have h6:(if(cM v a).1==(cM v b).1 then(aL,(0:Int))else([],11))=(aL,0):=hs;have h7:(cM v a).1=(cM v b).1:=by
    by_cases c:((cM v a).1==(cM v b).1)=true
    ·simpa using c
    ·rw[if_neg c]at h6;simp[aL]at h6
  ·exact h7
  ·intro h5;have ha:=LD h5;exact⟨⟨hg.ej (by simp),hh.ej (by simp),ha⟩,⟨hg.ej (by simp),hh.ej (by simp),Prod.ext (by rw[←h7,ha]) (he b (by simp))⟩⟩
 ·obtain⟨a,b,rfl⟩:=Mc (.inr (.inl h));refine .inr (.inr (.inr (.inl ⟨.inr h,a,b,rfl,he a (by simp),he b (by simp),?_,?_⟩)));all_goals
   subst h;have h6:(if(cM v a).1==(cM v b).1 then(aL,(0:Int))else([],11))=(aL,0):=hs;have h7:(cM v a).1=(cM v b).1:=by
    by_cases c:((cM v a).1==(cM v b).1)=true
    ·simpa using c
    ·rw[if_neg c]at h6;simp[aL]at h6
  ·exact h7
  ·intro h5;have ha:=LD h5;exact⟨⟨hg.ej (by simp),hh.ej (by simp),ha⟩,⟨hg.ej (by simp),hh.ej (by simp),Prod.ext (by rw[←h7,ha]) (he b (by simp))⟩⟩
 ·obtain⟨a,b,rfl⟩:=Mc (.inr (.inr (.inl h)));have h6:(if iz [(cM v a).1,(cM v b).1] dH then(aL,(0:Int))else([],11))=(aL,0):=by subst h;exact hs
  have h7:iz [(cM v a).1,(cM v b).1] dH=true:=by
   by_cases c:iz [(cM v a).1,(cM v b).1] dH=true
   ·exact c
   ·rw[if_neg c]at h6;simp[aL]at h6
  have ha:cM v a=(dH,0):=Prod.ext (Gs h7 _ (by simp)) (he a (by simp));have hb:cM v b=(dH,0):=Prod.ext (Gs h7 _ (by simp)) (he b (by simp));have b6:(iG v a==aL)=false:=by
   cases c:(iG v a==aL)with
   |false=>rfl
   |true=>have:=LD c;rw[ha]at this;exact absurd (congrArg Prod.fst this) Hr
  exact .inr (.inr (.inr (.inr ⟨.inl h,a,b,rfl,ha,hb,b6⟩)))
 ·obtain⟨a,b,rfl⟩:=Mc (.inr (.inr (.inr h)));have h6:(if iz [(cM v a).1,(cM v b).1] dH then(aL,(0:Int))else([],11))=(aL,0):=by subst h;exact hs
  have h7:iz [(cM v a).1,(cM v b).1] dH=true:=by
   by_cases c:iz [(cM v a).1,(cM v b).1] dH=true
   ·exact c
   ·rw[if_neg c]at h6;simp[aL]at h6
  have ha:cM v a=(dH,0):=Prod.ext (Gs h7 _ (by simp)) (he a (by simp));have hb:cM v b=(dH,0):=Prod.ext (Gs h7 _ (by simp)) (he b (by simp));have b6:(iG v a==aL)=false:=by
   cases c:(iG v a==aL)with
   |false=>rfl
   |true=>have:=LD c;rw[ha]at this;exact absurd (congrArg Prod.fst this) Hr
  exact .inr (.inr (.inr (.inr ⟨.inr h,a,b,rfl,ha,hb,b6⟩)))
 ·have h6:o=14∨o=15∨o=16∨o=17∨o=18:=by omega
  refine .inr (.inr (.inl ⟨h6,fun k hk=>⟨hg.ej hk,hh.ej hk,Prod.ext (ykr h6 hs _ (List.mem_map.2 ⟨k,hk,rfl⟩)) (he k hk)⟩⟩))
def cP(v:al):Pred→RS→Pred×RS
 |.mk o s n ks,q=>
  if o==2 then(.mk o s n ks,q)
  else if o==3||o==4 then rG (.mk o s n ks) q
  else if o==14||(o==15||(o==16||(o==17||o==18)))then(.mk o [] 0 (oL ks q).1,(oL ks q).2)
  else if o==10||o==11 then
   if iG v (ks.getD 0 a8)==aL then(p5 o (oL ks q).1,(oL ks q).2)
   else(if o==11 then eK (oW (eM (ks.getD 0 a8) (ks.getD 1 a8) q).1 (eM (ks.getD 0 a8) (ks.getD 1 a8) q).2).1 else(oW (eM (ks.getD 0 a8) (ks.getD 1 a8) q).1 (eM (ks.getD 0 a8) (ks.getD 1 a8) q).2).1,(oW (eM (ks.getD 0 a8) (ks.getD 1 a8) q).1 (eM (ks.getD 0 a8) (ks.getD 1 a8) q).2).2)
  else if o==13 then kU (eM (ks.getD 0 a8) (ks.getD 1 a8) q).1 (eM (ks.getD 0 a8) (ks.getD 1 a8) q).2
  else vn (eM (ks.getD 0 a8) (ks.getD 1 a8) q).1 (eM (ks.getD 0 a8) (ks.getD 1 a8) q).2
where oL:List Pred→RS→List Pred×RS
 |[],q=>([],q)
 |k::ks,q=>((cP v k q).1::(oL ks (cP v k q).2).1,(oL ks (cP v k q).2).2)
theorem yvX(v)(x):∀(l) (q),cP.oL v (l++[x]) q=((cP.oL v l q).1++[(cP v x (cP.oL v l q).2).1],(cP v x (cP.oL v l q).2).2)
 |[],q=>rfl
 |y::l,q=>by rw[List.cons_append,cP.oL,yvX v x l,cP.oL];rfl
structure iX(q q':RS)(n:Nat):Prop where
 f:q'.ah.length≤q.ah.length+n
 b:q'.aA.length≤q.aA.length+n
theorem iX.refl(q):iX q q 0:=⟨Nat.le_refl _,Nat.le_refl _⟩
theorem iX.trans{a b c m n}(h:iX a b m)(k:iX b c n):iX a c (m+n):=⟨by have:=h.f;have:=k.f;omega,by have:=h.b;have:=k.b;omega⟩
theorem iX.le{a b m n}(h:iX a b m)(k:m≤n):iX a b n:=⟨by have:=h.f;omega,by have:=h.b;omega⟩
theorem zVa(f)(q):iX q (dF f q).2 1:=by have:=LS f q;exact⟨this.1,by rw[this.2.2.1];omega⟩
theorem yvj(d)(q):iX q (oW d q).2 1:=by
 unfold oW;split
 ·exact(iX.refl q).le (by omega)
 ·exact zVa _ q
theorem zKx(d)(q):iX q (kU d q).2 1:=by
 unfold kU;split
 ·exact(iX.refl q).le (by omega)
 ·split<;>exact zVa _ q
theorem yXR(d)(q):iX q (vn d q).2 1:=by
 unfold vn;split
 ·exact(iX.refl q).le (by omega)
 ·split<;>exact zVa _ q
theorem zqQ(a b)(q):(eM a b q).2.ah=q.ah∧(eM a b q).2.aA=q.aA:=by
 unfold eM;split<;>exact⟨rfl,rfl⟩
theorem yZk(a b)(q):iX q (eM a b q).2 0:=⟨by rw[(zqQ a b q).1];omega,by rw[(zqQ a b q).2];omega⟩
theorem yZd(p)(q):iX q (rG p q).2 1:=by
 unfold rG;split
 ·exact⟨by show q.ah.length≤_;omega,by show q.aA.length≤_;omega⟩
 ·have h1:(q.Be p).ah=q.ah∧(q.Be p).aA.length≤q.aA.length+1:=by
    unfold RS.Be;split
    ·exact⟨rfl,by omega⟩
    ·exact⟨rfl,by simp⟩
  have h2:=yvj (kH p 1 (-1)) (q.Be p);have h3:(oW (kH p 1 (-1)) (q.Be p)).2.aA=(q.Be p).aA:=by
   unfold oW;split
   ·rfl
   ·exact(LS _ _).2.2.1
  exact⟨by have:=h2.f;rw[h1.1]at this;exact this,by rw[h3];exact h1.2⟩
theorem zKn{v}:∀{l} (_:∀k∈l,∀q,iX q (cP v k q).2 k.cX) (q),iX q (cP.oL v l q).2 (Pred.bw l)
 |[],_,q=>iX.refl q
 |k::l,h,q=>by rw[cP.oL,Pred.bw];exact(h k (by simp) q).trans (zKn (fun x hx=>h x (by simp[hx])) _)
theorem zWX(v)(p):∀q,iX q (cP v p q).2 p.cX:=by
 induction p using Pred.ind with
 |h o s n ks ih=>
 intro q;have zi:=zKn (v:=v) (l:=ks) (fun k hk q=>ih k hk q) q;have hd:=yZk (ks.getD 0 a8) (ks.getD 1 a8) q;rw[cP,Pred.cX];split
 ·exact(iX.refl q).le (by omega)
 ·split
  ·exact(yZd _ q).le (by omega)
  ·split
   ·exact zi.le (by omega)
   ·split
    ·split
     ·exact zi.le (by omega)
     ·exact(hd.trans (yvj _ _)).le (by omega)
    ·split
     ·exact(hd.trans (zKx _ _)).le (by omega)
     ·exact(hd.trans (yXR _ _)).le (by omega)
end Go.Abs
end
section
namespace Go.Abs
theorem yxN(v):∀(l) (q),(cP.oL v l q).1.length=l.length
 |[],q=>rfl
 |x::l,q=>by rw[cP.oL,lC,lC,yxN v l]
variable{E:ax}(Z:Sys E)
include Z
variable(v:al)
set_option maxHeartbeats 4000000 in
theorem yz3(ks)(q)(ih:∀k∈ks,∀q:RS,q.ah.length+k.cX≤1073741824→q.aA.length+k.cX≤1073741824→E.C Pk [] (.bx [.ptr 1000 0,.agg (k.cells.map .d)] (pU v q 2000 2001) QT (.agg (cP v k q).1.cells) (pU v (cP v k q).2 2000 2001) QT))
  (hf:q.ah.length+Pred.bw ks≤1073741824) (hb:q.aA.length+Pred.bw ks≤1073741824):
  E.C Wa [] (.bx [.ptr 1000 0,.d (.aw (ks.map Pred.cells))] (pU v q 2000 2001) QT (.one (.aw ((cP.oL v ks q).1.map Pred.cells))) (pU v (cP.oL v ks q).2 2000 2001) QT):=by
 refine Z.Wa _ _ ⟨bn rfl,bn rfl,rfl,?_⟩;simp only[zjZ,Cu v q,QT,go_sem];refine mf fun K hK=>?_;refine gU ks (fun _=>True) (fun done rest=>⟨[(6,.d (.int .i64 done.length)),(5,.own 5 4 ((cP.oL v done q).1.map Pred.cells)),(1,.d (.aw (ks.map Pred.cells))),(0,.ptr 1000 0)],
  pU v (cP.oL v done q).2 2000 2001,[(5,true),(2000,true),(2001,true)]⟩) ?_ trivial ?_ ?_
 ·refine Bp 5 5 4 [] [(5,5),(2000,2000),(2001,2001)] rfl (by simp) rfl ?_;simp only[jz,go_sem,cP.oL,Cu v q,List.contains_cons,cN,oS,Nat.reduceBEq,nZ,mN,lN]
 ·intro done k r hl _;have dQ:k∈ks:=by rw[hl];simp
  have bf:=gw hl;have hd:decide ((done.length:Int)<(ks.length:Int))=true:=decide_eq_true bf;have AM:=rJ hl;have dU:Pred.bw ks=Pred.bw done+(k.cX+Pred.bw r):=by rw[hl,Tw,Pred.bw]
  have hg:=zKn (v:=v) (l:=done) (fun k _ q=>zWX v k q) q;have pj:=yxN v done q;have yy:=Sq done;have fR:=ih k dQ (cP.oL v done q).2 (by have:=hg.f;omega) (by have:=hg.b;omega);rw[yvX];generalize cP.oL v done q=Dn at*
  obtain⟨dp,dq⟩:=Dn;simp only at fR pj⊢;generalize cP v k dq=Kn at*
  obtain⟨kp,kq⟩:=Kn;simp only at fR⊢;have o1:(dp.length+1)*56≤2^46:=by omega
  have o2:dp.length≤9223372036854775806:=by omega
  have mw:=Pred.yt dp;simp only[zx3,go_sem,AM,bf,hd,lM,Cu v dq,Pred.mV];try intro _
  have hw:IntKind.i64.wrap ((done.length:Int)+1)=((done.length+1:Nat):Int):=gn (by omega);refine p9 fR 2000 2001 3000 3001 rfl rfl (by simp only[BJ,go_sem]) rfl rfl rfl rfl rfl rfl rfl ?_;simp only[go_sem,Pred.mV,lM,o1,o2,mw,hw,lA,List.mem_singleton,forall_eq];refine jP [(5,21),(2000,3000),(2001,3001)] ?_;simp only[go_sem,Cu v kq,List.contains_cons,cN,oS,Nat.reduceBEq,mA,mC,mN,lA]
 ·intro _;generalize cP.oL v ks q=Dn at*
  obtain⟨dp,dq⟩:=Dn;simp only[zx3,go_sem,hK,Cu v dq,lM];try intro _
  exact pE (q:=dq) 2000 2001 rfl rfl rfl rfl
end Go.Abs
end
section
namespace Go.Abs
theorem zJD(v)(o)(s:aD)(n)(ks)(q):cP v (.mk o s n ks) q=if o==2 then(.mk o s n ks,q)
  else if o==3||o==4 then rG (.mk o s n ks) q
  else if o==14||(o==15||(o==16||(o==17||o==18)))then(.mk o [] 0 (cP.oL v ks q).1,(cP.oL v ks q).2)
  else if o==10||o==11 then
   if iG v (ks.getD 0 a8)==aL then(p5 o (cP.oL v ks q).1,(cP.oL v ks q).2)
   else(if o==11 then eK (oW (eM (ks.getD 0 a8) (ks.getD 1 a8) q).1 (eM (ks.getD 0 a8) (ks.getD 1 a8) q).2).1 else(oW (eM (ks.getD 0 a8) (ks.getD 1 a8) q).1 (eM (ks.getD 0 a8) (ks.getD 1 a8) q).2).1,(oW (eM (ks.getD 0 a8) (ks.getD 1 a8) q).1 (eM (ks.getD 0 a8) (ks.getD 1 a8) q).2).2)
  else if o==13 then kU (eM (ks.getD 0 a8) (ks.getD 1 a8) q).1 (eM (ks.getD 0 a8) (ks.getD 1 a8) q).2
  else vn (eM (ks.getD 0 a8) (ks.getD 1 a8) q).1 (eM (ks.getD 0 a8) (ks.getD 1 a8) q).2:=by rw[cP]
theorem Td{E c a b Q st}(h:ev st c=.d (.bool true))(hg:gd st c=true)(k:cx E a Q st):cx E (.cond c a b) Q st:=by rw[yxw,h];exact⟨hg,k⟩
theorem Cv{E c a b Q st}(h:ev st c=.d (.bool false))(hg:gd st c=true)(k:cx E b Q st):cx E (.cond c a b) Q st:=by rw[yxw,h];exact⟨hg,k⟩
variable{E:ax}(Z:Sys E)
include Z
variable(v:al)
set_option maxHeartbeats 2000000 in
theorem yz2(p):∀q:RS,BG v p→p.sz≤1048576→q.ah.length+p.cX≤1073741824→q.aA.length+p.cX≤1073741824→
  E.C Pk [] (.bx [.ptr 1000 0,.agg (p.cells.map .d)] (pU v q 2000 2001) QT (.agg (cP v p q).1.cells) (pU v (cP v p q).2 2000 2001) QT):=by
 induction p using Pred.ind with
 |h o s n ks ih=>
 intro q hg hz hf hb;have cU:=@BD o s n ks;have xI:(Pred.mk o s n ks).cX=Pred.bw ks+1:=by rw[Pred.cX]
 have se:(Pred.mk o s n ks).cells=[.int .i64 o,.str s,.int .i64 n,.aw (ks.map Pred.cells)]:=by rw[Pred.bm];rfl
 have hP:=zJD v o s n ks q;have fA:=yvr Z v (.mk o s n ks) hg.nI hz q (by omega) (by omega);refine Z.Pk _ _ ⟨bn rfl,bn rfl,rfl,?_⟩;rcases Vj hg with⟨rfl,rfl,rfl⟩|Bw|⟨hc,zm⟩|⟨hc,a,b,rfl,Ml,heb,ki,mW⟩|⟨hc,a,b,rfl,Ml,heb,mW⟩
 ·rw[hP];simp only[Int.reduceBEq,if_true];rw[se];unfold Pn;refine dJ fun N0 h0=>?_;simp only[Cu v q,QT,go_sem];subst h0;refine dJ fun NT hT=>?_;refine dJ fun NB hB=>?_;simp only[go_sem];subst hB;rw[Br];refine dJ fun NL hL=>?_;simp only[go_sem,Int.reduceBEq];subst hL;refine Td rfl rfl ?_;simp only[go_sem];exact pE 2000 2001 rfl rfl rfl rfl
 ·have hP:cP v (.mk o s n ks) q=rG (.mk o s n ks) q:=by rw[hP];rcases Bw with rfl|rfl<;>rfl
  rw[hP,se];rw[se]at fA;generalize rG (.mk o s n ks) q=R at*
  obtain⟨P,q1⟩:=R;have CJ:=Pred.bm P;rcases Bw with rfl|rfl;all_goals
   simp only[mC,mN]at fA⊢;unfold Pn;refine dJ fun N0 h0=>?_;simp only[Cu v q,QT,go_sem];subst h0;refine dJ fun NT hT=>?_;refine dJ fun NB hB=>?_;simp only[go_sem];subst hB;rw[Br];refine dJ fun NL hL=>?_;simp only[go_sem,Int.reduceBEq];subst hL;refine Cv rfl rfl ?_;refine dJ fun NL hL=>?_;simp only[go_sem,Int.reduceBEq];subst hL;refine Td rfl rfl ?_;simp only[go_sem];refine p9 fA 2000 2001 3000 3001 rfl rfl (by simp only[BJ,go_sem]) rfl rfl rfl rfl rfl rfl rfl ?_;simp only[go_sem,CJ];exact pE 3000 3001 rfl rfl rfl rfl
 ·have Xu:=yz3 Z v ks q (fun k hk q h1 h2=>ih k hk q (zm k hk) (by have:=NJ hk;omega) h1 h2) (by omega) (by omega);have hP:cP v (.mk o s n ks) q=(.mk o [] 0 (cP.oL v ks q).1,(cP.oL v ks q).2):=by rw[hP];rcases hc with rfl|rfl|rfl|rfl|rfl<;>rfl
  rw[hP,se];generalize cP.oL v ks q=R at*
  obtain⟨ps,q1⟩:=R;simp only at Xu⊢;rw[Pred.bm (.mk o [] 0 ps)];simp only[Pred.op,Pred.name,Pred.n,Pred.kids];rcases hc with rfl|rfl|rfl|rfl|rfl;all_goals
   simp only[mC,mN];unfold Pn;refine dJ fun N0 h0=>?_;simp only[Cu v q,QT,go_sem];subst h0;refine dJ fun NT hT=>?_;refine dJ fun NB hB=>?_;simp only[go_sem];subst hB;rw[Br];refine dJ fun NL hL=>?_;simp only[go_sem,Int.reduceBEq];subst hL;refine Cv rfl rfl ?_;refine dJ fun NL hL=>?_;simp only[go_sem,Int.reduceBEq];subst hL;refine Cv rfl rfl ?_;refine dJ fun NL hL=>?_;simp only[go_sem,Int.reduceBEq];subst hL;refine Td rfl rfl ?_;simp only[go_sem];refine⟨?_,?_⟩;all_goals
    refine p9 Xu 2000 2001 3000 3001 rfl rfl (by simp only[BJ,go_sem]) rfl rfl rfl rfl rfl rfl rfl ?_;simp only[go_sem];exact pE 3000 3001 rfl rfl rfl rfl
 ·have Qg:Pred.bw [a,b]=a.cX+b.cX:=by simp[Pred.bw]
  have QW:Pred.lS [a,b]=a.sz+b.sz:=by simp[Pred.lS]
  have ga:Good a:=hg.nI.ej (by simp);have gb:Good b:=hg.nI.ej (by simp);have Gl:=yq9 Z v a q;have vx:=LU Z 14;have ji:(∀e∈[a.cells,b.cells],e.length=4)=True:=eq_true (by simp[Pred.mV]);cases lP:(iG v a==aL)with
  |true=>
   have QX:(iG v a==[66,111,111,108])=true:=lP;obtain⟨y5,xae⟩:=mW lP;have Xu:=yz3 Z v [a,b] q (fun k hk q h1 h2=>ih k hk q (by
    simp only[List.mem_cons,List.not_mem_nil,or_false]at hk;rcases hk with rfl|rfl
    ·exact y5
    ·exact xae) (by have:=NJ hk;omega) h1 h2) (by omega) (by omega)
   have hP:cP v (.mk o s n [a,b]) q=(p5 o (cP.oL v [a,b] q).1,(cP.oL v [a,b] q).2):=by rw[hP];rcases hc with rfl|rfl<;> · simp only[Int.reduceBEq,Bool.or_self,Bool.or_false,Bool.false_or,Bool.or_true,Bool.false_eq_true,if_false,if_true,List.getD_cons_zero,lP]
   rw[hP,se];generalize cP.oL v [a,b] q=R at*
   obtain⟨ps,q1⟩:=R;have vx:=vx [.mk 18 [] 0 ps];have Bz:=Pred.bm (.mk 18 [] 0 ps);have Gk:(Pred.mk 14 [] 0 [.mk 18 [] 0 ps]).cells=[.int .i64 14,.str [],.int .i64 0,.aw [(Pred.mk 18 [] 0 ps).cells]]:=by rw[Pred.bm];rfl
   simp only[Pred.op,Pred.name,Pred.n,Pred.kids]at Bz;rw[Gk]at vx;simp only[mC,mN,Bz]at Xu vx⊢;rcases hc with rfl|rfl;all_goals
    simp only[p5,eK,Gk,Bz,Int.reduceBEq,Bool.false_eq_true,if_false,if_true];unfold Pn;refine dJ fun N0 h0=>?_;simp only[Cu v q,QT,go_sem];subst h0;refine dJ fun NT hT=>?_;refine dJ fun NB hB=>?_;simp only[go_sem];subst hB;rw[Br];refine dJ fun NL hL=>?_;simp only[go_sem,Int.reduceBEq];subst hL;refine Cv rfl rfl ?_;refine dJ fun NL hL=>?_;simp only[go_sem,Int.reduceBEq];subst hL;refine Cv rfl rfl ?_;refine dJ fun NL hL=>?_;simp only[go_sem,Int.reduceBEq];subst hL;refine Cv rfl rfl ?_;refine dJ fun NL hL=>?_;simp only[go_sem,Int.reduceBEq];subst hL;refine Td rfl rfl ?_;refine dJ fun NA hA=>?_;simp only[go_sem];subst hA;refine dJ fun NC hC=>?_;refine dJ fun ND hD=>?_;simp only[go_sem,ji];refine p9 Gl 2000 2001 3000 3001 rfl rfl (by simp only[BJ,go_sem]) rfl rfl rfl rfl rfl rfl rfl ?_;simp only[go_sem,QX];subst hD;refine Td rfl rfl ?_;simp only[go_sem];refine p9 Xu 3000 3001 3002 3003 rfl rfl (by simp only[BJ,go_sem]) rfl rfl rfl rfl rfl rfl rfl ?_;simp only[go_sem];subst hC;simp only[go_sem,Int.reduceBEq];first
     |exact pE 3002 3003 rfl rfl rfl rfl
     |(refine aR vx ?_
       simp only[go_sem];exact pE 3002 3003 rfl rfl rfl rfl)
  |false=>
   have QX:(iG v a==[66,111,111,108])=false:=lP;have OK:=zZ0 Z v a b ga gb (by omega) (by omega) q;have lU:=zqQ a b q;have hP:cP v (.mk o s n [a,b]) q=(if o==11 then eK (oW (eM a b q).1 (eM a b q).2).1 else(oW (eM a b q).1 (eM a b q).2).1,(oW (eM a b q).1 (eM a b q).2).2):=by rw[hP];rcases hc with rfl|rfl<;> · simp only[Int.reduceBEq,Bool.or_self,Bool.or_false,Bool.false_or,Bool.or_true,Bool.false_eq_true,if_false,if_true,List.getD_cons_zero,List.getD_cons_succ,lP]
   have hze:=yz4 Z v (eM a b q).1 (eM a b q).2 (by rw[lU.1];omega);rw[hP,se];generalize eM a b q=DD at*
   obtain⟨dl,dq⟩:=DD;simp only at hze OK lU⊢;generalize oW dl dq=R at*
   obtain⟨P,q1⟩:=R;have vx:=vx [P];have Bz:=Pred.bm P;have Gk:(Pred.mk 14 [] 0 [P]).cells=[.int .i64 14,.str [],.int .i64 0,.aw [P.cells]]:=by rw[Pred.bm];rfl
   rw[Gk]at vx;simp only[mC,mN,Bz,aH.bm]at hze OK vx⊢;rcases hc with rfl|rfl;all_goals
    simp only[eK,Gk,Bz,Int.reduceBEq,Bool.false_eq_true,if_false,if_true];unfold Pn;refine dJ fun N0 h0=>?_;simp only[Cu v q,QT,go_sem];subst h0;refine dJ fun NT hT=>?_;refine dJ fun NB hB=>?_;simp only[go_sem];subst hB;rw[Br];refine dJ fun NL hL=>?_;simp only[go_sem,Int.reduceBEq];subst hL;refine Cv rfl rfl ?_;refine dJ fun NL hL=>?_;simp only[go_sem,Int.reduceBEq];subst hL;refine Cv rfl rfl ?_;refine dJ fun NL hL=>?_;simp only[go_sem,Int.reduceBEq];subst hL;refine Cv rfl rfl ?_;refine dJ fun NL hL=>?_;simp only[go_sem,Int.reduceBEq];subst hL;refine Td rfl rfl ?_;refine dJ fun NA hA=>?_;simp only[go_sem];subst hA;refine dJ fun NC hC=>?_;refine dJ fun ND hD=>?_;simp only[go_sem,ji];refine p9 Gl 2000 2001 3000 3001 rfl rfl (by simp only[BJ,go_sem]) rfl rfl rfl rfl rfl rfl rfl ?_;simp only[go_sem,QX];subst hD;refine Cv rfl rfl ?_;simp only[go_sem,ji];refine p9 OK 3000 3001 3002 3003 rfl rfl (by simp only[BJ,go_sem]) rfl rfl rfl rfl rfl rfl rfl ?_;simp only[go_sem];refine p9 hze 3002 3003 3004 3005 rfl rfl (by simp only[BJ,go_sem]) rfl rfl rfl rfl rfl rfl rfl ?_;simp only[go_sem];subst hC;simp only[go_sem,Int.reduceBEq];first
     |exact pE 3004 3005 rfl rfl rfl rfl
     |(refine aR vx ?_
       simp only[go_sem];exact pE 3004 3005 rfl rfl rfl rfl)
 ·have Qg:Pred.bw [a,b]=a.cX+b.cX:=by simp[Pred.bw]
  have QW:Pred.lS [a,b]=a.sz+b.sz:=by simp[Pred.lS]
  have ga:Good a:=hg.nI.ej (by simp);have gb:Good b:=hg.nI.ej (by simp);have ji:(∀e∈[a.cells,b.cells],e.length=4)=True:=eq_true (by simp[Pred.mV]);have OK:=zZ0 Z v a b ga gb (by omega) (by omega) q;have lU:=zqQ a b q;have hmo:=yq8 Z v (eM a b q).1 (eM a b q).2 (by rw[lU.1];omega);have hle:=yq7 Z v (eM a b q).1 (eM a b q).2 (by rw[lU.1];omega);have hP:cP v (.mk o s n [a,b]) q=if o==13 then kU (eM a b q).1 (eM a b q).2 else vn (eM a b q).1 (eM a b q).2:=by rw[hP];rcases hc with rfl|rfl<;>rfl
  rw[hP,se];generalize eM a b q=DD at*
  obtain⟨dl,dq⟩:=DD;simp only at hmo hle OK lU⊢;generalize kU dl dq=RM at*
  generalize vn dl dq=RL at*
  obtain⟨PM,qm⟩:=RM;obtain⟨PL,ql⟩:=RL;have pZ:=Pred.bm PM;have jn:=Pred.bm PL;simp only[mC,mN,aH.bm]at hmo hle OK⊢;rcases hc with rfl|rfl
  ·simp only[Int.reduceBEq,Bool.false_eq_true,if_false];unfold Pn;refine dJ fun N0 h0=>?_;simp only[Cu v q,QT,go_sem];subst h0;refine dJ fun NT hT=>?_;refine dJ fun NB hB=>?_;simp only[go_sem];subst hB;rw[Br];refine dJ fun NL hL=>?_;simp only[go_sem,Int.reduceBEq];subst hL;refine Cv rfl rfl ?_;refine dJ fun NL hL=>?_;simp only[go_sem,Int.reduceBEq];subst hL;refine Cv rfl rfl ?_;refine dJ fun NL hL=>?_;simp only[go_sem,Int.reduceBEq];subst hL;refine Cv rfl rfl ?_;refine dJ fun NL hL=>?_;simp only[go_sem,Int.reduceBEq];subst hL;refine Cv rfl rfl ?_;refine dJ fun NL hL=>?_;simp only[go_sem,Int.reduceBEq];subst hL;refine Cv rfl rfl ?_;simp only[go_sem];subst hT;simp only[go_sem,ji];refine p9 OK 2000 2001 3000 3001 rfl rfl (by simp only[BJ,go_sem]) rfl rfl rfl rfl rfl rfl rfl ?_;simp only[go_sem];refine p9 hle 3000 3001 3002 3003 rfl rfl (by simp only[BJ,go_sem]) rfl rfl rfl rfl rfl rfl rfl ?_;simp only[go_sem,jn];exact pE 3002 3003 rfl rfl rfl rfl
  ·simp only[Int.reduceBEq,if_true];unfold Pn;refine dJ fun N0 h0=>?_;simp only[Cu v q,QT,go_sem];subst h0;refine dJ fun NT hT=>?_;refine dJ fun NB hB=>?_;simp only[go_sem];subst hB;rw[Br];refine dJ fun NL hL=>?_;simp only[go_sem,Int.reduceBEq];subst hL;refine Cv rfl rfl ?_;refine dJ fun NL hL=>?_;simp only[go_sem,Int.reduceBEq];subst hL;refine Cv rfl rfl ?_;refine dJ fun NL hL=>?_;simp only[go_sem,Int.reduceBEq];subst hL;refine Cv rfl rfl ?_;refine dJ fun NL hL=>?_;simp only[go_sem,Int.reduceBEq];subst hL;refine Cv rfl rfl ?_;refine dJ fun NL hL=>?_;simp only[go_sem,Int.reduceBEq];subst hL;refine Td rfl rfl ?_;simp only[go_sem,ji];refine p9 OK 2000 2001 3000 3001 rfl rfl (by simp only[BJ,go_sem]) rfl rfl rfl rfl rfl rfl rfl ?_;simp only[go_sem];refine p9 hmo 3000 3001 3002 3003 rfl rfl (by simp only[BJ,go_sem]) rfl rfl rfl rfl rfl rfl rfl ?_;simp only[go_sem,pZ];exact pE 3002 3003 rfl rfl rfl rfl
end Go.Abs
end
section
namespace Go.Abs
def iH(v:al)(q:RS)(a:Nat):List AV:=[.d (.aw (v.vars.map b8.cells)),.d (.aw (v.syms.map cI.cells)),.d (.aw (v.bT.map bI.cells)),.own a 2 (q.ah.map aH.cells),.d (.aw (q.aA.map Pred.cells)),.d (.bool q.long),.d (.bool q.fD)]
def vu(v:al)(q:RS)(a:Nat):Mem:=[(1000,iH v q a)]
theorem yJx(v)(q)(a):vu v q a=[(1000,[.d (.aw (v.vars.map b8.cells)),.d (.aw (v.syms.map cI.cells)),.d (.aw (v.bT.map bI.cells)),.own a 2 (q.ah.map aH.cells),.d (.aw (q.aA.map Pred.cells)),.d (.bool q.long),.d (.bool q.fD)])]:=rfl
def Ey(v:al)(q:RS)(a s:Nat):Mem:=[(s,iH v q a)]
theorem J1{v q c s}:dC [(1000,s)] [(2000,c)] (vu v q 2000)=Ey v q c s:=by
 simp only[vu,Ey,iH,dC,aZ,Option.getD_some,mC,mN,AV.oT,AV.gW,Nat.reduceEqDiff,if_true,if_false]
theorem EB{E f}{P:eX→Prop}{st av pB r v q q' gs}
  (hC:E.C f [] (.bx pB (vu v q 2000) RT r (vu v q' 2000) RT)) (a c s) (hr:r.fB=false) (bV:gs=true)
  (hm:fT [(1000,s)] [(2000,a)] av pB) (h0:getM st.mem s=some (iH v q a))
  (ha:aE st.tk a=some true) (hc:aE st.tk c=none)
  (hK:P ⟨[(1000,s)],[(2000,a)],[(2000,c)],pB,vu v q 2000,vu v q' 2000,r⟩):
  ∃x:eX,jE E none f gs av st x∧P x:=by
 refine⟨_,⟨rfl,bV,hr,?_,hC⟩,hK⟩;simp only[okB];refine⟨hm,?_,?_,?_⟩
 ·simp only[vu,de,aZ,if_true,h0,iH];simp only[go_sem]
 ·simp only[mS,ha,RT,List.contains_cons,cN,and_self]
 ·simp only[vu,iH,go_sem,hc,List.contains_cons,cN,Nat.reduceBEq,List.mem_cons,List.not_mem_nil,or_false,forall_eq_or_imp,forall_eq,List.all_cons,List.all_nil]
theorem Py{E f}{P:eX→Prop}{st av pB r v q q' gs}
  (hC:E.C f [] (.bx pB (vu v q 2000) RT r (vu v q' 2000) RT)) (a c) (hr:r.fB=false) (bV:gs=true)
  (hm:fT BJ [(2000,a)] av pB) (h0:getM st.mem 1000=some (iH v q a))
  (ha:aE st.tk a=some true) (hc:aE st.tk c=none)
  (hK:P ⟨[(1000,1000)],[(2000,a)],[(2000,c)],pB,vu v q 2000,vu v q' 2000,r⟩):
  ∃x:eX,jE E none f gs av st x∧P x:=EB hC a c 1000 hr bV hm h0 ha hc hK
theorem J2{v q c}:dC [(1000,1000)] [(2000,c)] (vu v q 2000)=vu v q c:=J1
theorem yK8{v q c k m}(h:k<1000):getM (vu v q c++m) k=getM m k:=by
 have h0:¬1000=k:=by omega
 simp only[vu,List.cons_append,List.nil_append,getM,h0,if_false]
theorem yQk{v q c m}:getM (vu v q c++m) 1000=some (iH v q c):=rfl
attribute [go_sem] J2 yK8 yQk
theorem GI{v q st}(a)(h0:getM st.mem 1000=some (iH v q a))(ha:aE st.tk a=some true):nF st ⟨[],vu v q 2000,RT⟩:=by refine jP [(2000,a)] ?_;simp only[vu,iH,RT]at h0⊢;simp only[go_sem,h0,ha,List.contains_cons,cN,oS]
variable{E:ax}(Z:Sys E)
include Z
variable(v:al)
set_option maxHeartbeats 1000000 in
theorem yvn(f)(q)(hq:q.ah.length≤8589934592):E.C OE [] (.bx [.ptr 1000 0,.agg (f.cells.map .d)] (vu v q 2000) RT (.one (.int .i64 (dF f q).1)) (vu v (dF f q).2 2000) RT):=by
 have hS:=fun g=>zjN Z g f;refine Z.OE _ _ ⟨bn rfl,bn rfl,rfl,?_⟩;generalize hA:dF f q=A at*
 obtain⟨i,q1⟩:=A;unfold dF at hA;simp only[aH.bm]at*
 unfold zw8;refine dJ fun N0 h0=>?_;simp only[yJx v q,RT,go_sem];subst h0;refine dJ fun N1 h1=>?_;simp only[go_sem];have gx:∀done g r,q.ah=done++g::r→(∀x∈done,kV x f=false)→kV g f=true→(done.length,q)=(i,q1):=fun done g r hl hI hs=>by rw[hl,yxR hI hs]at hA;simp only[zA]at hA;exact hA
 have jR:(∀x∈q.ah,kV x f=false)→(q.ah.length,q.add f)=(i,q1):=fun h=>by rw[zKo h]at hA;exact hA
 clear hA;refine gU q.ah (fun done=>∀g∈done,kV g f=false) (fun done _=>⟨[(5,.d (.int .i64 done.length)),(0,.ptr 1000 0),(3,.ptr 3 0)],[(3,[.d (.aw (f.aG.map ak.cells)),.d (.int .i64 f.c)]),(1000,[.d (.aw (v.vars.map b8.cells)),.d (.aw (v.syms.map cI.cells)),.d (.aw (v.bT.map bI.cells)),.own 2000 2 (q.ah.map aH.cells),.d (.aw (q.aA.map Pred.cells)),.d (.bool q.long),.d (.bool q.fD)])],[(2000,true)]⟩) ?_ (by simp) ?_ ?_
 ·exact jP [(2000,2000)] (by simp only[go_sem,List.contains_cons,cN,oS,Nat.reduceBEq])
 ·intro done g r hl hI;have bf:=gw hl;have hx:=u4 (f:=aH.cells) hl rfl;have hd:decide ((done.length:Int)<(q.ah.length:Int))=true:=decide_eq_true bf;have gx:=gx done g r hl hI;have W5:=hS g;obtain⟨cs,c⟩:=g;simp only[aH.cells]at hx W5;unfold zym;refine dJ fun M0 g0=>?_;simp only[go_sem,hd,bf,lM];try intro _
  have pM:IntKind.i64.wrap ((done.length:Int)+1)=((done.length+1:Nat):Int):=gn (by omega);subst g0;refine dJ fun M1 g1=>?_;rw[Br];refine dJ fun M2 g2=>?_;simp only[go_sem,bf,hx];refine⟨_,W5,?_⟩;simp only[go_sem];subst g2;cases hs:kV ⟨cs,c⟩ f with
  |true=>obtain⟨rfl,rfl⟩:=Prod.mk.inj (gx hs);simp only[go_sem];exact GI 2000 rfl rfl
  |false=>simp only[go_sem];subst g1;simp only[go_sem,pM,lA];exact⟨jP [(2000,2000)] (by simp only[go_sem,List.contains_cons,cN,oS,Nat.reduceBEq]),qi hI hs⟩
 ·intro hI;obtain⟨rfl,rfl⟩:=Prod.mk.inj (jR hI);have mw:=aH.lens q.ah;have o1:(q.ah.length+1)*32≤2^46:=by omega
  have o2:q.ah.length≤9223372036854775806:=by omega
  simp only[zym,go_sem,lM];try intro _
  subst h1;refine dJ fun N2 h2=>?_;simp only[go_sem,lM,mw,o1,o2];refine⟨fun e he=>by rw[List.mem_singleton.1 he];rfl,?_⟩;have xP:IntKind.i64.wrap (((q.ah.length+1:Nat):Int)-1)=(q.ah.length:Int):=by rw[i64_in _ (by omega)];omega
  have CM:((q.ah.map aH.cells++[[D.aw (f.aG.map ak.cells),D.int .i64 f.c]]).length)=q.ah.length+1:=by simp
  subst h2;cases c40:decide (((q.ah.length+1:Nat):Int)>40)with
  |true=>simp only[go_sem,CM,c40];intro _ _;refine⟨xP,?_⟩;refine GI (q:=q.add f) 32 ?_ rfl;simp only[go_sem,iH,RS.add,c40,Bool.or_true,mA];rfl
  |false=>simp only[go_sem,CM,c40];intro _ _;refine⟨xP,?_⟩;refine GI (q:=q.add f) 32 ?_ rfl;simp only[go_sem,iH,RS.add,c40,Bool.or_false,mA];rfl
theorem yz0(d)(q)(hq:q.ah.length≤8589934592):E.C OD [] (.bx [.ptr 1000 0,.agg (d.cells.map .d)] (vu v q 2000) RT (.agg (kU d q).1.cells) (vu v (kU d q).2 2000) RT):=by
 have hF:=zjM Z d;have hI:=yvn Z v (bB d).1 q (by omega);have hL:=fun o=>zZU Z o (dF (bB d).1 q).1 (by have:=(LS (bB d).1 q).2.1;omega);have aa:=fun b=>zvH Z b;have oP:∀p,(Pred.mk 14 [] 0 [p]).cells=[.int .i64 14,.str [],.int .i64 0,.aw [p.cells]]:=H9;have vw:=LU Z 14 [bh 13 (dF (bB d).1 q).1];have h16:=LU Z 16 [eK (bh 13 (dF (bB d).1 q).1),bh 10 (dF (bB d).1 q).1];refine Z.OD _ _ ⟨bn rfl,bn rfl,rfl,?_⟩;generalize hA:kU d q=A at*
 unfold kU at hA;obtain⟨P,q1⟩:=A;unfold wu at hF;generalize bB d=F at*
 obtain⟨f,s⟩:=F;simp only at hI hL hA hF;generalize dF f q=S at*
 obtain⟨i,q2⟩:=S;simp only[aH.bm,mC,mN,LO,oP,H9,ud]at*
 simp only[zkF,yJx v q,RT,go_sem];intro hl;cases c:((d.aG.length:Int)==0)with
 |true=>rw[c,if_pos rfl]at hA;obtain⟨rfl,rfl⟩:=Prod.mk.inj hA;simp only[go_sem];refine aR (aa _) ?_;unfold tP;simp only[go_sem];exact GI 2000 rfl rfl
 |false=>
  rw[c,if_neg (by decide)]at hA;simp only[go_sem];refine aR hF ?_;simp only[go_sem];refine Py hI 2000 3000 rfl rfl (by simp only[BJ,go_sem]) rfl rfl rfl ?_;simp only[go_sem];cases c1:(s==1)with
  |true=>rw[c1,if_pos rfl]at hA;obtain⟨rfl,rfl⟩:=Prod.mk.inj hA;simp only[go_sem];refine aR (hL 13) ?_;simp only[go_sem];simp only[go_sem,LO,oP,H9,ud];exact GI 3000 rfl rfl
  |false=>rw[c1,if_neg (by decide)]at hA;obtain⟨rfl,rfl⟩:=Prod.mk.inj hA;simp only[go_sem];refine aR (hL 13) ?_;simp only[go_sem];refine aR vw ?_;simp only[go_sem];refine aR (hL 10) ?_;simp only[go_sem];refine aR h16 ?_;simp only[go_sem];simp only[go_sem,LO,oP,H9,ud];exact GI 3000 rfl rfl
end Go.Abs
end
section
namespace Go.Abs
def Bb:RS:=⟨[],[],false,false⟩
def GH(v:al)(q:RS)(a b s:Nat):Mem:=[(s,gY v q a b)]
theorem OR{v q c d s}:dC [(1000,s)] [(2000,c),(2001,d)] (pU v q 2000 2001)=GH v q c d s:=by
 simp only[pU,GH,gY,dC,aZ,Option.getD_some,mC,mN,AV.oT,AV.gW,Nat.reduceEqDiff,if_true,if_false]
theorem Ij{E f}{P:eX→Prop}{st av pB r v q q' gs}
  (hC:E.C f [] (.bx pB (pU v q 2000 2001) QT r (pU v q' 2000 2001) QT)) (a b c d s) (hr:r.fB=false) (bV:gs=true)
  (hm:fT [(1000,s)] [(2000,a),(2001,b)] av pB) (h0:getM st.mem s=some (gY v q a b))
  (ha:aE st.tk a=some true) (hb:aE st.tk b=some true) (ki:(a==b)=false) (hc:aE st.tk c=none) (hd:aE st.tk d=none) (qe:(c==d)=false)
  (hK:P ⟨[(1000,s)],[(2000,a),(2001,b)],[(2000,c),(2001,d)],pB,pU v q 2000 2001,pU v q' 2000 2001,r⟩):
  ∃x:eX,jE E none f gs av st x∧P x:=by
 refine⟨_,⟨rfl,bV,hr,?_,hC⟩,hK⟩;have y5:(b==a)=false:=by rw[beq_eq_false_iff_ne]at ki⊢;exact Ne.symm ki
 simp only[okB];refine⟨hm,?_,?_,?_⟩
 ·simp only[pU,de,aZ,if_true,h0,gY];simp only[go_sem]
 ·simp only[mS,ha,hb,QT,List.contains_cons,cN,y5,Bool.or_false,and_self]
 ·simp only[pU,gY,go_sem,hc,hd,List.contains_cons,cN,Nat.reduceBEq,ki,qe,List.mem_cons,List.not_mem_nil,or_false,forall_eq_or_imp,forall_eq,List.all_cons,List.all_nil]
def nV(ps:List Pred)(q:RS):List Pred→List Pred×RS
 |[]=>(ps,q)
 |b::l=>nV (ps++[(kU (kH b (-1) 0) q).1,(kU (kH b 1 (-1)) (kU (kH b (-1) 0) q).2).1]) (kU (kH b 1 (-1)) (kU (kH b (-1) 0) q).2).2 l
theorem ywD(b):∀(l) (ps) (q),nV ps q (l++[b])=((nV ps q l).1++[(kU (kH b (-1) 0) (nV ps q l).2).1,(kU (kH b 1 (-1)) (kU (kH b (-1) 0) (nV ps q l).2).2).1],(kU (kH b 1 (-1)) (kU (kH b (-1) 0) (nV ps q l).2).2).2)
 |[],_,_=>rfl
 |x::l,ps,q=>by rw[List.cons_append,nV,ywD b l,nV]
theorem zq8(d)(q):(kU d q).2.aA=q.aA:=by
 unfold kU;split
 ·rfl
 ·split<;>exact(LS _ _).2.2.1
theorem yvA:∀(l) (ps) (q),(nV ps q l).2.aA=q.aA∧(nV ps q l).2.ah.length≤q.ah.length+2*l.length∧(nV ps q l).1.length=ps.length+2*l.length
 |[],ps,q=>⟨rfl,by simp[nV],by simp[nV]⟩
 |b::l,ps,q=>by rw[nV];obtain⟨h1,h2,h3⟩:=yvA l (ps++[(kU (kH b (-1) 0) q).1,(kU (kH b 1 (-1)) (kU (kH b (-1) 0) q).2).1]) (kU (kH b 1 (-1)) (kU (kH b (-1) 0) q).2).2;have k1:=(zKx (kH b (-1) 0) q).f;have k2:=(zKx (kH b 1 (-1)) (kU (kH b (-1) 0) q).2).f;refine⟨by rw[h1,zq8,zq8],?_,by rw[h3];simp;omega⟩;rw[lC];omega
def FD(r:List Pred×RS):rC×Int:=if r.2.fD then(oK,2)else if r.2.long then(oK,7)else(⟨ig r.1,r.2.ah⟩,0)
def DG(v:al)(p:Pred)(r:List Pred×RS):rC×Int:=FD (nV (r.1++(cP.oL v (bD v (au 4 p [])) r.2).1) (cP.oL v (bD v (au 4 p [])) r.2).2 (cP.oL v (bD v (au 4 p [])) r.2).2.aA)
def uO(v:al)(p:Pred):rC×Int:=
 if eY v p !=0 then(oK,eY v p)
 else if decide (((au 5 p []).length:Int)>0)then(oK,6)
 else DG v p (if p.same a8 then([],Bb)else([(cP v p Bb).1],(cP v p Bb).2))
theorem yV1{q:RS}{p}(h:∀b∈q.aA,Good b∧b.sz≤1048576)(hp:Good p∧p.sz≤1048576):∀b∈(q.Be p).aA,Good b∧b.sz≤1048576:=by
 unfold RS.Be;split
 ·exact h
 ·intro b hb;rcases List.mem_append.1 hb with hb|hb
  ·exact h b hb
  ·rw[List.mem_singleton.1 hb];exact hp
theorem yxk(d)(q):(oW d q).2.aA=q.aA:=by
 unfold oW;split
 ·rfl
 ·exact(LS _ _).2.2.1
theorem yZE(d)(q):(vn d q).2.aA=q.aA:=by
 unfold vn;split
 ·rfl
 ·split<;>exact(LS _ _).2.2.1
theorem ywG{v}(p):Good p→p.sz≤1048576→∀q:RS,(∀b∈q.aA,Good b∧b.sz≤1048576)→∀b∈(cP v p q).2.aA,Good b∧b.sz≤1048576:=by
 induction p using Pred.ind with
 |h o s n ks ih=>
 intro hg hz q hq;have cU:=@BD o s n ks;have zi:∀(l:List Pred) (q:RS),(∀k∈l,k∈ks)→(∀b∈q.aA,Good b∧b.sz≤1048576)→∀b∈(cP.oL v l q).2.aA,Good b∧b.sz≤1048576:=by
  intro l;induction l with
  |nil=>intro q _ h;exact h
  |cons k l ihl=>intro q hl h;rw[cP.oL];exact ihl _ (fun x hx=>hl x (by simp[hx])) (ih k (hl k (by simp)) (hg.ej (hl k (by simp))) (by have:=NJ (hl k (by simp));omega) q h)
 have hd:=(zqQ (ks.getD 0 a8) (ks.getD 1 a8) q).2;rw[zJD];split
 ·exact hq
 ·split
  ·unfold rG;split
   ·exact hq
   ·rw[yxk];exact yV1 hq ⟨hg,hz⟩
  ·split
   ·exact zi ks q (fun _ h=>h) hq
   ·split
    ·split
     ·exact zi ks q (fun _ h=>h) hq
     ·show∀b∈(oW _ _).2.aA,_;rw[yxk,hd];exact hq
    ·split
     ·rw[zq8,hd];exact hq
     ·rw[yZE,hd];exact hq
theorem yqm{v}:∀{l} {q},(∀k∈l,Good k∧k.sz≤1048576)→(∀b∈q.aA,Good b∧b.sz≤1048576)→∀b∈(cP.oL v l q).2.aA,Good b∧b.sz≤1048576
 |[],q,_,h=>h
 |k::l,q,hl,h=>by rw[cP.oL];exact yqm (fun x hx=>hl x (by simp[hx])) (ywG k (hl k (by simp)).1 (hl k (by simp)).2 q h)
end Go.Abs
end
section
namespace Go.Abs
theorem ykw{f}(hf:cj f):∀{l} (i),(∀g∈l,cj g)→l.Nodup→iQ aI (aI f) i l=tZ l f i
 |[],_,_,_=>rfl
 |g::l,i,hp,hn=>by
  have ih:=ykw hf (l:=l) (i+1) (fun x hx=>hp x (by simp[hx])) (List.nodup_cons.1 hn).2;rw[iQ,tZ,ih];have hg:=hp g (by simp);cases hs:kV g f with
  |true=>
   have:g=f:=zjR.1 hs;subst this;have jR:tZ l g (i+1)=none:=zKo fun x hx=>by
    cases c:kV x g with
    |false=>rfl
    |true=>exact absurd (zjR.1 c▸hx) (List.nodup_cons.1 hn).1
   rw[jR];simp
  |false=>
   have b6:(aI g==aI f)=false:=by
    cases c:(aI g==aI f)with
    |false=>rfl
    |true=>have:g=f:=yJe hg hf (by simpa using c);rw[this,zjR.2 rfl]at hs;cases hs
   rw[b6];cases tZ l f (i+1)<;>simp
structure Rel(q:QS)(r:RS):Prop where
 f:q.ah=r.ah
 b:q.aA=r.aA.map aU
 x:q.bad=false
 w:r.fD=false
 l:r.long=decide ((r.ah.length:Int)>40)
 p:∀g∈r.ah,cj g
 n:r.ah.Nodup
 g:∀t∈r.aA,Good t∧(t.op=3∨t.op=4)∧cr ⟨[⟨aU t,1⟩],-1⟩=0
def GG(a:Pred×QS)(b:Pred×RS):Prop:=a.2.bad=true∧b.2.fD=true∨a.1=b.1∧Rel a.2 b.2
theorem yvs{q r}(h:Rel q r){d}(hd:cj d):(cE aI d q).1=(dF (bB d).1 r).1∧Rel (cE aI d q).2 (dF (bB d).1 r).2:=by
 have hf:=zQN hd;have hl:kG aI q.ah (aI (bB d).1)=tZ r.ah (bB d).1 0:=by rw[h.f];exact ykw hf 0 h.p h.n
 unfold cE dF;rw[hl];cases e:tZ r.ah (bB d).1 0 with
 |some i=>exact⟨rfl,h⟩
 |none=>
  refine⟨by rw[h.f],⟨by show q.ah++_=_;rw[h.f];rfl,h.b,h.x,h.w,?_,?_,?_,h.g⟩⟩
  ·show(r.long||decide (((r.ah.length+1:Nat):Int)>40))=decide (((r.ah++[(bB d).1]).length:Int)>40);rw[h.l,lA,List.length_singleton];by_cases c:(r.ah.length:Int)>40
   ·rw[decide_eq_true c,Bool.true_or,decide_eq_true (by omega)]
   ·rw[decide_eq_false c,Bool.false_or]
  ·intro g hg;rcases List.mem_append.1 hg with hg|hg
   ·exact h.p g hg
   ·rw[List.mem_singleton.1 hg];exact hf
  ·show(r.ah++[(bB d).1]).Nodup;rw[List.nodup_append];refine⟨h.n,by simp,fun a ha b hb=>?_⟩;rw[List.mem_singleton.1 hb]
   rintro rfl
   have:∀(l:List aH) (i:Nat),(bB d).1∈l→tZ l (bB d).1 i≠none:=by
    intro l;induction l with
    |nil=>intro i h;cases h
    |cons x l ih=>
     intro i hx;rw[tZ];rcases List.mem_cons.1 hx with e|hx
     ·rw[←e,zjR.2 rfl];simp
     ·split
      ·simp
      ·exact ih _ hx
   exact this _ 0 ha e
theorem yWU{d}(h:cr d=0)(hc:¬((d.aG.length:Int)==0)=true):((bB d).2==1)=!decide ((bB d).2<0):=by rw[yxJ h (O0 hc)];show(mo d.aG==1)=!decide (mo d.aG<0);unfold mo;split<;>rfl
theorem yvk{q r}(h:Rel q r){d}(hd:cj d):GG (eB aI d q) (oW d r):=by
 refine .inr ?_;unfold eB oW;split
 ·exact⟨rfl,h⟩
 ·obtain⟨h1,h2⟩:=yvs h hd;exact⟨by show bh 10 _=_;rw[h1],h2⟩
theorem zQ9{q r}(h:Rel q r){d}(hd:cj d)(hl:cr d=0):GG (dt aI d q) (kU d r):=by
 refine .inr ?_;unfold dt kU;split
 ·exact⟨rfl,h⟩
 ·rename_i hc;obtain⟨h1,h2⟩:=yvs h hd;rw[yWU hl hc,h1];by_cases c:(bB d).2<0
  ·rw[if_pos c,decide_eq_true c];exact⟨rfl,h2⟩
  ·rw[if_neg c,decide_eq_false c];exact⟨rfl,h2⟩
theorem yXS{q r}(h:Rel q r){d}(hd:cj d)(hl:cr d=0):GG (eh aI d q) (vn d r):=by
 refine .inr ?_;unfold eh vn;split
 ·exact⟨rfl,h⟩
 ·rename_i hc;obtain⟨h1,h2⟩:=yvs h hd;rw[yWU hl hc,h1];by_cases c:(bB d).2<0
  ·rw[if_pos c,decide_eq_true c];exact⟨rfl,h2⟩
  ·rw[if_neg c,decide_eq_false c];exact⟨rfl,h2⟩
theorem yKo{a}(h:cr a=0):cf a bE=(a,true):=by
 unfold cf;rw[h,LH];simp only[bne_self_eq_false,Bool.or_self,Bool.false_eq_true,if_false];have hc:=(GC h).2;have e:(⟨fJ a.aG bE.aG,oV a.c bE.c⟩:aH)=a:=by
  obtain⟨l,c⟩:=a;have hc:aq c=true:=hc;have:oV c 0=c:=by unfold oV;rw[Int.add_zero];rw[sL]at hc;exact i64_in _ (by omega)
  show(⟨fJ l [],oV c 0⟩:aH)=⟨l,c⟩;rw[GA,this]
 rw[e];unfold jL;rw[h];rfl
theorem yKn{a b}(h:cr a≠0):cf a b=(bE,false):=by
 unfold cf;have:(cr a !=0)=true:=by simpa using h
 rw[this];rfl
theorem R0(s):dI s=if cr ⟨[⟨s,1⟩],0⟩==0 then(⟨[⟨s,1⟩],0⟩,true)else(bE,false):=by
 unfold dI;by_cases h:cr ⟨[⟨s,1⟩],0⟩=0
 ·rw[yKo h,if_pos (by simpa using h)]
 ·rw[yKn h,if_neg (by simpa using h)]
theorem zY(s)(k c)(hk:k≠0)(hr:aq k=true)(hc:aq c=true):cr ⟨[⟨s,k⟩],c⟩=if s==[]||decide ((s.length:Int)>400)then 3 else 0:=by
 unfold cr;rw[if_neg (by simp)];have fR:(k==0||!aq k)=false:=by rw[hr];simpa using hk
 simp only[eR,iI,fR,hc];split
 ·simp
 ·simp
theorem Zi(s):(dV s).2=(cr ⟨[⟨s,1⟩],-1⟩==0)∧((dV s).2=true→(dV s).1=⟨[⟨s,1⟩],-1⟩):=by
 have e0:=zY s 1 0 (by decide) (by decide) (by decide);have e1:=zY s 1 (-1) (by decide) (by decide) (by decide);unfold dV;rw[R0,e0,e1];by_cases c:(s==[]||decide ((s.length:Int)>400))=true
 ·simp only[if_pos c];refine⟨?_,fun h=>?_⟩
  ·simp
  ·simp at h
 ·simp only[if_neg c];rw[if_neg c]at e0 e1;have:cf ⟨[⟨s,1⟩],0⟩ lJ=(⟨[⟨s,1⟩],-1⟩,true):=by
   unfold cf;have em:cr lJ=0:=by decide
   rw[e0,em];have ea:fJ [⟨s,1⟩] lJ.aG=[⟨s,1⟩]:=GA _;simp only[bne_self_eq_false,Bool.or_self,Bool.false_eq_true,if_false];rw[ea];have ew:oV 0 lJ.c= -1:=by decide
   rw[ew];unfold jL;rw[e1];rfl
  simp[this]
theorem yQs(s)(h:cr ⟨[⟨s,1⟩],-1⟩=0):rY s=(⟨[⟨s,-1⟩],0⟩,true):=by
 have e0:=zY s 1 0 (by decide) (by decide) (by decide);rw[zY s 1 (-1) (by decide) (by decide) (by decide)]at h;rw[h]at e0;unfold rY;rw[R0,e0];simp only[beq_self_eq_true,if_true,Bool.true_and];have:aF ⟨[⟨s,1⟩],0⟩ (-1)=(⟨[⟨s,-1⟩],0⟩,true):=by
  unfold aF;rw[e0];have m1:eF 1 (-1)=(-1,true):=by decide
  have m0:eF 0 (-1)=(0,true):=by decide
  simp[mg,mulC,m1,m0]
 rw[this]
theorem yzb{p}(h:p.op=3∨p.op=4):(bZ p).name=aU p:=by
 obtain⟨o,s,n,ks⟩:=p;have h:o=3∨o=4:=h;rw[O6];rcases h with rfl|rfl
 ·rw[Ha];rfl
 ·rfl
theorem Nt(d)(q):(eB aI d q).2.bad=q.bad:=by
 unfold eB cE;split
 ·rfl
 ·cases kG aI q.ah (aI (bB d).1)<;>rfl
theorem Vp(d)(q):(dt aI d q).2.bad=q.bad:=by
 unfold dt cE;split
 ·rfl
 ·split<;>(cases kG aI q.ah (aI (bB d).1)<;>rfl)
theorem yYH(d)(q):(eh aI d q).2.bad=q.bad:=by
 unfold eh cE;split
 ·rfl
 ·split<;>(cases kG aI q.ah (aI (bB d).1)<;>rfl)
theorem zWr(f)(r):(dF f r).2.fD=r.fD:=(LS f r).2.2.2
theorem yzO(d)(r):(oW d r).2.fD=r.fD:=by
 unfold oW;split
 ·rfl
 ·exact zWr _ _
theorem zKy(d)(r):(kU d r).2.fD=r.fD:=by
 unfold kU;split
 ·rfl
 ·split<;>exact zWr _ _
theorem ykv(d)(r):(vn d r).2.fD=r.fD:=by
 unfold vn;split
 ·rfl
 ·split<;>exact zWr _ _
theorem yV9(q:QS)(s):(q.take s).bad=q.bad:=by unfold QS.take;split<;>rfl
theorem yJa{q r}(h:Rel q r){p}(hp:Good p)(ho:p.op=3∨p.op=4)(yj:cr ⟨[⟨aU p,1⟩],-1⟩=0):Rel (q.take (aU p)) (r.Be p):=by
 have hc:q.aA.contains (aU p)=r.aA.any (fun x=>x.same p):=by
  rw[h.b];cases c:r.aA.any (fun x=>x.same p)with
  |true=>obtain⟨x,hx,hs⟩:=List.any_eq_true.1 c;have:=(Pred.wz _ _).1 hs;subst this;rw[List.contains_iff_mem];exact List.mem_map.2 ⟨x,hx,rfl⟩
  |false=>
   cases c2:(r.aA.map aU).contains (aU p)with
   |false=>rfl
   |true=>rw[List.contains_iff_mem]at c2;obtain⟨x,hx,hn⟩:=List.mem_map.1 c2;have:x=p:=yyP (h.g x hx).1 hp hn;subst this;have:=List.any_eq_false.1 c x hx;rw[(Pred.wz x x).2 rfl]at this;exact absurd rfl this
 unfold QS.take RS.Be;rw[hc];split
 ·exact h
 ·refine⟨h.f,by show q.aA++_=_;rw[h.b,mA];rfl,h.x,h.w,h.l,h.p,h.n,fun t ht=>?_⟩;rcases List.mem_append.1 ht with ht|ht
  ·exact h.g t ht
  ·rw[List.mem_singleton.1 ht];exact⟨hp,ho,yj⟩
theorem yVA{q r}(h:Rel q r):Rel (q.note true) r:=by rw[LM];exact h
theorem yYg{q r}(h:Rel q r){p}(hp:Good p)(ho:p.op=3∨p.op=4):GG (fo aI (aU p) q) (rG p r):=by
 obtain⟨e1,e2⟩:=Zi (aU p);have eo:kH p 1 (-1)=⟨[⟨aU p,1⟩],-1⟩:=by unfold kH;rw[yzb ho]
 unfold fo rG;rw[eo];by_cases c:cr ⟨[⟨aU p,1⟩],-1⟩=0
 ·have hc:(cr ⟨[⟨aU p,1⟩],-1⟩ !=0)=false:=by rw[c];rfl
  have hl:(dV (aU p)).2=true:=by rw[e1,c];rfl
  rw[hc,e2 hl,hl];simp only[Bool.false_eq_true,if_false];exact yvk (yVA (yJa h hp ho c)) (by intro x hx;rw[List.mem_singleton.1 hx];exact O4 p hp)
 ·have hc:(cr ⟨[⟨aU p,1⟩],-1⟩ !=0)=true:=by simpa using c
  have hl:(dV (aU p)).2=false:=by rw[e1];simpa using c
  rw[hc,if_pos rfl];refine .inl ⟨?_,rfl⟩;rw[Nt,hl];show(_||!false)=true;simp
end Go.Abs
end
section
namespace Go.Abs
def nU(a b:aH×Bool):Prop:=a.2=b.2∧(a.2=true→a.1=b.1)
theorem Tb(o)(s:aD)(n)(a b):aj (.mk o s n [a,b])=if o==1 then(⟨[],n⟩,true)else if o==6 then((cf (aj a).1 (aj b).1).1,(aj a).2&&(aj b).2&&(cf (aj a).1 (aj b).1).2)
        else if o==7 then((cf (aj a).1 (aF (aj b).1 (-1)).1).1,(aj a).2&&(aj b).2&&(aF (aj b).1 (-1)).2&&(cf (aj a).1 (aF (aj b).1 (-1)).1).2)
        else if o==8 then((aF (aj b).1 a.n).1,(aj b).2&&(aF (aj b).1 a.n).2)
        else dI (aU (.mk o s n [a,b])):=by rw[aj]
theorem XX{A A' B B'}(ha:nU A A')(hb:nU B B'):nU ((cf A.1 B.1).1,A.2&&B.2&&(cf A.1 B.1).2) (if !A'.2||!B'.2 then(bE,false)else cf A'.1 B'.1):=by
 obtain⟨a1,a2⟩:=ha;obtain⟨b1,b2⟩:=hb;rw[←a1,←b1];cases hA:A.2 with
 |false=>exact⟨rfl,fun h=>by cases h⟩
 |true=>
  cases hB:B.2 with
  |false=>exact⟨rfl,fun h=>by cases h⟩
  |true=>rw[←a2 hA,←b2 hB];exact⟨rfl,fun _=>rfl⟩
theorem OS{A A' B B'}(ha:nU A A')(hb:nU B B'):nU ((cf A.1 (aF B.1 (-1)).1).1,A.2&&B.2&&(aF B.1 (-1)).2&&(cf A.1 (aF B.1 (-1)).1).2) (if !B'.2 then(bE,false)else if !A'.2||!(aF B'.1 (-1)).2 then(bE,false)else cf A'.1 (aF B'.1 (-1)).1):=by
 obtain⟨a1,a2⟩:=ha;obtain⟨b1,b2⟩:=hb;rw[←a1,←b1];cases hB:B.2 with
 |false=>rw[Bool.and_false];exact⟨rfl,fun h=>by cases h⟩
 |true=>
  rw[←b2 hB];cases hA:A.2 with
  |false=>exact⟨rfl,fun h=>by cases h⟩
  |true=>
   rw[←a2 hA];cases hS:(aF B.1 (-1)).2 with
   |false=>exact⟨rfl,fun h=>by cases h⟩
   |true=>exact⟨rfl,fun _=>rfl⟩
theorem OT{B B'}(k)(hb:nU B B'):nU ((aF B.1 k).1,B.2&&(aF B.1 k).2) (if !B'.2 then(bE,false)else aF B'.1 k):=by
 obtain⟨b1,b2⟩:=hb;rw[←b1];cases hB:B.2 with
 |false=>exact⟨rfl,fun h=>by cases h⟩
 |true=>rw[←b2 hB];exact⟨rfl,fun _=>rfl⟩
theorem OU(s):nU (dI s) (⟨[⟨s,1⟩],0⟩,cr ⟨[⟨s,1⟩],0⟩==0):=by
 rw[R0];cases c:(cr ⟨[⟨s,1⟩],0⟩==0)with
 |false=>exact⟨rfl,fun h=>by cases h⟩
 |true=>exact⟨rfl,fun _=>rfl⟩
theorem yVy{s:aD}{n ks}(h:dr 1 s n ks=0):aq n=true:=by
 unfold dr at h;split at h
 ·cases h
 ·split at h
  ·cases h
  ·rename_i c2;simpa using c2
theorem yVz{s:aD}{n a b}(h:dr 8 s n [a,b]=0):a.op=1:=by
 unfold dr at h;split at h
 ·cases h
 ·split at h
  ·cases h
  ·split at h
   ·cases h
   ·split at h
    ·cases h
    ·rename_i c4;simpa using c4
theorem Y6{o}{s:aD}{n ks}(h:o=3∨o=4):aj (.mk o s n ks)=dI (aU (.mk o s n ks)):=by
 match ks with
 |[]=>rcases h with rfl|rfl<;>(rw[aj]<;>first|rfl|simp)
 |[a]=>rcases h with rfl|rfl<;>(rw[aj]<;>first|rfl|simp)
 |[a,b]=>rcases h with rfl|rfl<;>(rw[aj]<;>first|rfl|simp)
 |a::b::c::d=>rcases h with rfl|rfl<;>(rw[aj]<;>first|rfl|simp)
theorem yvd{v}(p):Good p→fe p→(cM v p).2=0→(cM v p).1≠aL→nU (aj p) (bz (bZ p)):=by
 induction p using Pred.ind with
 |h o s n ks ih=>
 intro hg hh h2 h1;obtain⟨hn,_⟩:=Gw hg;have h0:dr o s n ks=0:=hg _ (Gu o s n ks);have hh5:o≠5:=hh.top;have lo:=hn.lo;have hi:=hn.hi;have he:(∀k∈ks,(cM v k).2=0)∧cM v (.mk o s n ks)=jV v o s (ks.map fun k=>(cM v k).1):=by
  rw[Gq]at h2⊢;by_cases h3:(cM.mF v ks !=0)=true
  ·rw[if_pos h3]at h2;simp only at h2;rw[h2]at h3;cases h3
  ·rw[if_neg h3];exact⟨TX (by simpa using h3),rfl⟩
 obtain⟨he,hs⟩:=he;rw[hs]at h1 h2;rw[O6];have hd:o=1∨o=2∨o=3∨o=4∨o=6∨o=7∨o=8∨o=9∨o=10∨o=11∨o=12∨o=13∨14≤o:=by omega
 have hint:(o=6∨o=7∨o=8∨o=9)→∀k∈ks,(cM v k).1=dH:=fun ho k hk=>by
  have h3:(if iz (ks.map fun k=>(cM v k).1) dH then(dH,(0:Int))else([],11)).2=0:=by rcases ho with rfl|rfl|rfl|rfl<;>exact h2
  by_cases c:iz (ks.map fun k=>(cM v k).1) dH=true
  ·exact Gs c _ (List.mem_map.2 ⟨k,hk,rfl⟩)
  ·rw[if_neg c]at h3;cases h3
 have tX:(o=6∨o=7∨o=8∨o=9)→∀k∈ks,nU (aj k) (bz (bZ k)):=fun ho k hk=>
  ih k hk (hg.ej hk) (hh.ej hk) (he k hk) (by rw[hint ho k hk];exact Hr)
 have bad:∀{l:List aD} {b:Bool},(if b then(aL,(0:Int))else([],11)).2=0→(if b then(aL,(0:Int))else([],11)).1≠aL→False:=fun{l b} h3 h4=>by
  cases b with
  |true=>exact h4 rfl
  |false=>cases h3
 rcases hd with rfl|rfl|rfl|rfl|rfl|rfl|rfl|rfl|rfl|rfl|rfl|rfl|vw
 ·obtain rfl:=KF hn rfl;have hr:=yVy h0;have e1:aj (.mk 1 s n [])=(⟨[],n⟩,true):=by rw[aj]<;>first|rfl|simp
  have e2:bz (.mk 1 s n [])=(⟨[],n⟩,cr ⟨[],n⟩==0):=by rw[bz]<;>first|rfl|simp
  have e3:cr ⟨[],n⟩=0:=by unfold cr;show(if decide (((0:Nat):Int)>24)then(7:Int)else if eR none []==0 then(if aq n then 0 else 2)else eR none [])=0;rw[hr];rfl
  show nU _ (bz (.mk 1 s n []));rw[e1,e2,e3];exact⟨rfl,fun _=>rfl⟩
 ·exact absurd rfl h1
 ·obtain rfl:=KF hn rfl;have e2:bz (.mk 3 s n [])=(⟨[⟨s,1⟩],0⟩,cr ⟨[⟨s,1⟩],0⟩==0):=by rw[bz]<;>first|rfl|simp
  show nU _ (bz (.mk 3 s n []));rw[Y6 (.inl rfl),e2,show aU (.mk 3 s n [])=s by rw[Ha];rfl];exact OU s
 ·show nU _ (bz (.mk 3 (aU (.mk 4 s n ks)) 0 []));have e2:∀t:aD,bz (.mk 3 t 0 [])=(⟨[⟨t,1⟩],0⟩,cr ⟨[⟨t,1⟩],0⟩==0):=fun t=>by rw[bz]<;>first|rfl|simp
  rw[Y6 (.inr rfl),e2];exact OU _
 ·obtain⟨a,b,rfl⟩:=El (l:=ks) (by have:=hn.kd;simp[bN]at this;omega);have ka:=tX (.inl rfl) a (by simp);have kb:=tX (.inl rfl) b (by simp);have e2:bz (.mk 6 s n [bZ a,bZ b])=(if !(bz (bZ a)).2||!(bz (bZ b)).2 then(bE,false)else cf (bz (bZ a)).1 (bz (bZ b)).1):=by rw[bz];rfl
  show nU _ (bz (.mk 6 s n [bZ a,bZ b]));rw[Tb,e2];exact XX ka kb
 ·obtain⟨a,b,rfl⟩:=El (l:=ks) (by have:=hn.kd;simp[bN]at this;omega);have ka:=tX (.inr (.inl rfl)) a (by simp);have kb:=tX (.inr (.inl rfl)) b (by simp);have e2:bz (.mk 7 s n [bZ a,bZ b])=(if !(bz (bZ b)).2 then(bE,false)else if !(bz (bZ a)).2||!(aF (bz (bZ b)).1 (-1)).2 then(bE,false)else cf (bz (bZ a)).1 (aF (bz (bZ b)).1 (-1)).1):=by rw[bz];rfl
  show nU _ (bz (.mk 7 s n [bZ a,bZ b]));rw[Tb,e2];exact OS ka kb
 ·obtain⟨a,b,rfl⟩:=El (l:=ks) (by have:=hn.kd;simp[bN]at this;omega);have kb:=tX (.inr (.inr (.inl rfl))) b (by simp);have yY:=yVz h0;have han:(bZ a).n=a.n:=by obtain⟨oa,sa,na,la⟩:=a;have:oa=1:=yY;subst this;rw[O6];rfl
  have e2:bz (.mk 8 s n [bZ a,bZ b])=(if !(bz (bZ b)).2 then(bE,false)else aF (bz (bZ b)).1 (bZ a).n):=by rw[bz];rfl
  show nU _ (bz (.mk 8 s n [bZ a,bZ b]));rw[Tb,e2,han];exact OT a.n kb
 ·obtain⟨a,rfl⟩:=Vl (l:=ks) (by have:=hn.kd;simp[bN]at this;omega);have ka:=tX (.inr (.inr (.inr rfl))) a (by simp);have e1:aj (.mk 9 s n [a])=((aF (aj a).1 (-1)).1,(aj a).2&&(aF (aj a).1 (-1)).2):=by rw[aj];rfl
  have e2:bz (.mk 9 s n [bZ a])=(if !(bz (bZ a)).2 then(bE,false)else aF (bz (bZ a)).1 (-1)):=by rw[bz];rfl
  show nU _ (bz (.mk 9 s n [bZ a]));rw[e1,e2];exact OT (-1) ka
 ·exact(bad (l:=[]) h2 h1).elim
 ·exact(bad (l:=[]) h2 h1).elim
 ·exact(bad (l:=[]) h2 h1).elim
 ·exact(bad (l:=[]) h2 h1).elim
 ·exfalso;have h6:o=14∨o=15∨o=16∨o=17∨o=18:=by omega
  rcases h6 with rfl|rfl|rfl|rfl|rfl<;>exact bad (l:=[]) h2 h1
theorem yY0{v a b}(ga:Good a)(gb:Good b)(na:fe a)(nb:fe b)(ea:(cM v a).2=0)(eb:(cM v b).2=0)(sa:(cM v a).1≠aL)(sb:(cM v b).1≠aL):
  nU (eC a b) (bz (.mk 7 [] 0 [bZ a,bZ b])):=by
 have e2:bz (.mk 7 [] 0 [bZ a,bZ b])=(if !(bz (bZ b)).2 then(bE,false)else if !(bz (bZ a)).2||!(aF (bz (bZ b)).1 (-1)).2 then(bE,false)else cf (bz (bZ a)).1 (aF (bz (bZ b)).1 (-1)).1):=by rw[bz];rfl
 rw[e2];exact OS (yvd a ga na ea sa) (yvd b gb nb eb sb)
end Go.Abs
end
section
namespace Go.Abs
def CK:Pred→Prop:=cW fun q=>(q.op=10∨q.op=11)→∀k∈q.kids,k.bO=0
theorem ZM{o d q}:(kI aI o d q).2.bad=(q.note d.2).bad:=by
 unfold kI;split
 ·rfl
 ·split
  ·exact Nt _ _
  ·split
   ·exact Nt _ _
   ·split
    ·exact Vp _ _
    ·exact yYH _ _
theorem YX{q:QS}(b)(h:q.bad=true):(q.note b).bad=true:=by show(q.bad||!b)=true;rw[h];rfl
theorem yYi{s q}(h:q.bad=true):(fo aI s q).2.bad=true:=by unfold fo;rw[Nt];exact YX _ (by rw[yV9];exact h)
theorem O2{v}:∀{l} {q},(∀k∈l,∀q:QS,q.bad=true→(aO v aI k q).2.bad=true)→q.bad=true→(aO.go v aI l q).2.bad=true
 |[],_,_,h=>h
 |k::l,q,hk,h=>by rw[aO.go];exact O2 (fun x hx=>hk x (by simp[hx])) (hk k (by simp) q h)
theorem yZT{v}(p):∀q:QS,q.bad=true→(aO v aI p q).2.bad=true:=by
 induction p using Pred.ind with
 |h o s n ks ih=>
 intro q h;rw[aO];split
 ·exact h
 ·split
  ·exact yYi h
  ·split
   ·split
    ·exact O2 ih h
    ·rw[ZM];exact YX _ h
   ·exact O2 ih h
theorem yWP(r:RS)(p):(r.Be p).fD=r.fD:=by unfold RS.Be;split<;>rfl
theorem zK4{a b r}(h:r.fD=true):(eM a b r).2.fD=true:=by
 unfold eM;split
 ·exact h
 ·rfl
theorem VN{v}:∀{l} {r},(∀k∈l,∀r:RS,r.fD=true→(cP v k r).2.fD=true)→r.fD=true→(cP.oL v l r).2.fD=true
 |[],_,_,h=>h
 |k::l,q,hk,h=>by rw[cP.oL];exact VN (fun x hx=>hk x (by simp[hx])) (hk k (by simp) q h)
theorem zKX{v}(p):∀r:RS,r.fD=true→(cP v p r).2.fD=true:=by
 induction p using Pred.ind with
 |h o s n ks ih=>
 intro r h;rw[zJD];split
 ·exact h
 ·split
  ·unfold rG;split
   ·rfl
   ·rw[yzO,yWP];exact h
  ·split
   ·exact VN ih h
   ·split
    ·split
     ·exact VN ih h
     ·show(oW _ _).2.fD=true;rw[yzO];exact zK4 h
    ·split
     ·rw[zKy];exact zK4 h
     ·rw[ykv];exact zK4 h
theorem yvY{v}:∀{l} {q} {r},(∀k∈l,∀q r,Rel q r→GG (aO v aI k q) (cP v k r))→Rel q r→
  ((aO.go v aI l q).2.bad=true∧(cP.oL v l r).2.fD=true∨(aO.go v aI l q).1=(cP.oL v l r).1∧Rel (aO.go v aI l q).2 (cP.oL v l r).2)
 |[],_,_,_,h=>.inr ⟨rfl,h⟩
 |k::l,q,r,hk,h=>by
  rw[aO.go,cP.oL];rcases hk k (by simp) q r h with⟨h1,h2⟩|⟨h1,h2⟩
  ·exact .inl ⟨O2 (fun x _=>yZT x) h1,VN (fun x _=>zKX x) h2⟩
  ·rcases yvY (l:=l) (fun x hx=>hk x (by simp[hx])) h2 with h3|⟨h3,h4⟩
   ·exact .inl h3
   ·exact .inr ⟨by rw[h1,h3],h4⟩
theorem yyb{a b}(ga:Good a)(gb:Good b):cj (eC a b).1:=zQg ga gb
theorem xzE{v a}(h:a.bO=0):iG v a=(cM v a).1:=by unfold iG ff;rw[h];rfl
theorem yWo{v}(p):BG v p→CK p→∀q r,Rel q r→GG (aO v aI p q) (cP v p r):=by
 induction p using Pred.ind with
 |h o s n ks ih=>
 intro hg uY q r h;have vR:∀{a b:Pred},ks=[a,b]→(cM v a).2=0→(cM v b).2=0→(cM v a).1≠aL→(cM v b).1≠aL→
   ((eC a b).2=false∧eM a b r=(bE,r.err)∨(eC a b).2=true∧eM a b r=((eC a b).1,r)):=fun{a b} hk ea eb sa sb=>by
  have ga:=hg.nI.ej (k:=a) (by rw[hk];simp);have gb:=hg.nI.ej (k:=b) (by rw[hk];simp);obtain⟨d1,d2⟩:=yY0 (v:=v) ga gb (hg.hole.ej (by rw[hk];simp)) (hg.hole.ej (by rw[hk];simp)) ea eb sa sb;unfold eM;rw[←d1];cases c:(eC a b).2 with
  |false=>exact .inl ⟨rfl,rfl⟩
  |true=>rw[←d2 c];exact .inr ⟨rfl,rfl⟩
 rw[aO,zJD];rcases Vj hg with⟨rfl,rfl,rfl⟩|Bw|⟨hc,zm⟩|⟨hc,a,b,rfl,ea,eb,ki,mW⟩|⟨hc,a,b,rfl,ea,eb,mW⟩
 ·exact .inr ⟨rfl,h⟩
 ·have e1:(o==2)=false:=by rcases Bw with rfl|rfl<;>rfl
  have e2:(o==3||o==4)=true:=by rcases Bw with rfl|rfl<;>rfl
  rw[e1,e2];simp only[Bool.false_eq_true,if_false,if_true];exact yYg h hg.nI Bw
 ·have zi:=yvY (v:=v) (l:=ks) (fun k hk q r h=>ih k hk (zm k hk) (uY.ej hk) q r h) h;have e1:(o==2)=false:=by rcases hc with rfl|rfl|rfl|rfl|rfl<;>rfl
  have e2:(o==3||o==4)=false:=by rcases hc with rfl|rfl|rfl|rfl|rfl<;>rfl
  have e3:(o==10||(o==11||(o==12||o==13)))=false:=by rcases hc with rfl|rfl|rfl|rfl|rfl<;>rfl
  have e4:(o==14||(o==15||(o==16||(o==17||o==18))))=true:=by rcases hc with rfl|rfl|rfl|rfl|rfl<;>rfl
  rw[e1,e2,e3,e4];simp only[Bool.false_eq_true,if_false,if_true];rcases zi with h1|⟨h1,h2⟩
  ·exact .inl h1
  ·exact .inr ⟨by show Pred.mk o [] 0 _=_;rw[h1],h2⟩
 ·have e1:(o==2)=false:=by rcases hc with rfl|rfl<;>rfl
  have e2:(o==3||o==4)=false:=by rcases hc with rfl|rfl<;>rfl
  have e3:(o==10||(o==11||(o==12||o==13)))=true:=by rcases hc with rfl|rfl<;>rfl
  have e4:(o==14||(o==15||(o==16||(o==17||o==18))))=false:=by rcases hc with rfl|rfl<;>rfl
  have e5:(o==10||o==11)=true:=by rcases hc with rfl|rfl<;>rfl
  rw[e1,e2,e3,e4,e5];simp only[Bool.false_eq_true,if_false,if_true,List.getD_cons_zero,List.getD_cons_succ];cases lP:(iG v a==aL)with
  |true=>
   obtain⟨ba,bb⟩:=mW lP;simp only[if_true];have zi:=yvY (v:=v) (l:=[a,b]) (fun k hk q r h=>ih k hk (by
    simp only[List.mem_cons,List.not_mem_nil,or_false]at hk;rcases hk with rfl|rfl
    ·exact ba
    ·exact bb) (uY.ej hk) q r h) h
   rcases zi with h1|⟨h1,h2⟩
   ·exact .inl h1
   ·exact .inr ⟨by show p5 o _=p5 o _;rw[h1],h2⟩
  |false=>
   have wM:=uY.top hc a (by show a∈[a,b];simp);have sa:(cM v a).1≠aL:=fun e=>by rw[xzE wM,e]at lP;simp at lP
   have sb:(cM v b).1≠aL:=by rw[←ki];exact sa
   simp only[Bool.false_eq_true,if_false];have A7:=yyb (hg.nI.ej (k:=a) (by simp)) (hg.nI.ej (k:=b) (by simp));rcases vR rfl ea eb sa sb with⟨c1,c2⟩|⟨c1,c2⟩
   ·refine .inl ⟨?_,?_⟩
    ·rw[ZM,c1];show(q.bad||!false)=true;simp
    ·show(oW _ _).2.fD=true;rw[yzO,c2];rfl
   ·rw[c2];have hz:=yvk h A7;have Mu:(q.note true).bad=false:=by rw[LM];exact h.x
    unfold kI;rw[c1,Mu,LM];rcases hc with rfl|rfl
    ·exact hz
    ·rcases hz with h1|⟨h1,h2⟩
     ·exact .inl h1
     ·exact .inr ⟨by show eK _=eK _;rw[h1],h2⟩
 ·have e1:(o==2)=false:=by rcases hc with rfl|rfl<;>rfl
  have e2:(o==3||o==4)=false:=by rcases hc with rfl|rfl<;>rfl
  have e3:(o==10||(o==11||(o==12||o==13)))=true:=by rcases hc with rfl|rfl<;>rfl
  have e4:(o==14||(o==15||(o==16||(o==17||o==18))))=false:=by rcases hc with rfl|rfl<;>rfl
  have e5:(o==10||o==11)=false:=by rcases hc with rfl|rfl<;>rfl
  rw[e1,e2,e3,e4,e5];simp only[Bool.false_eq_true,if_false,if_true,List.getD_cons_zero,List.getD_cons_succ,mW];have A7:=yyb (hg.nI.ej (k:=a) (by simp)) (hg.nI.ej (k:=b) (by simp));have MA:∀{x:aD×Int},x=(dH,0)→x.2=0∧x.1≠aL:=fun{x} hx=>by rw[hx];exact⟨rfl,Hr⟩
  rcases vR rfl (MA ea).1 (MA eb).1 (MA ea).2 (MA eb).2 with⟨c1,c2⟩|⟨c1,c2⟩
  ·refine .inl ⟨?_,?_⟩
   ·rw[ZM,c1];show(q.bad||!false)=true;simp
   ·split
    ·rw[zKy,c2];rfl
    ·rw[ykv,c2];rfl
  ·rw[c2];have Mu:(q.note true).bad=false:=by rw[LM];exact h.x
   unfold kI;rw[c1,Mu,LM];rcases hc with rfl|rfl
   ·exact yXS h A7 (R7 a b)
   ·exact zQ9 h A7 (R7 a b)
end Go.Abs
end
section
namespace Go.Abs
theorem zQh{v}:∀{l ps} {q} {r},(∀k∈l,BG v k∧CK k)→Rel q r→
  ((cJ v aI l ps q).2.bad=true∧(cP.oL v l r).2.fD=true∨(cJ v aI l ps q).1=ps++(cP.oL v l r).1∧Rel (cJ v aI l ps q).2 (cP.oL v l r).2)
 |[],ps,q,r,_,h=>.inr ⟨by rw[cJ,cP.oL,List.append_nil],h⟩
 |k::l,ps,q,r,hk,h=>by
  rw[cJ,cP.oL,h.x];simp only[Bool.false_eq_true,if_false];rcases yWo k (hk k (by simp)).1 (hk k (by simp)).2 q r h with⟨h1,h2⟩|⟨h1,h2⟩
  ·refine .inl ⟨?_,VN (fun x _=>zKX x) h2⟩;cases l with
   |nil=>rw[cJ];exact h1
   |cons x l=>rw[cJ,h1,if_pos rfl];exact h1
  ·rcases zQh (l:=l) (ps:=ps++[(aO v aI k q).1]) (fun x hx=>hk x (by simp[hx])) h2 with h3|⟨h3,h4⟩
   ·exact .inl h3
   ·exact .inr ⟨by rw[h3,h1,List.append_assoc];rfl,h4⟩
theorem yjZ:∀{l} {ps} {q} {r},(∀t∈l,Good t∧(t.op=3∨t.op=4)∧cr ⟨[⟨aU t,1⟩],-1⟩=0)→Rel q r→
  (jQ aI (l.map aU) ps q).1=(nV ps r l).1∧Rel (jQ aI (l.map aU) ps q).2 (nV ps r l).2
 |[],ps,q,r,_,h=>⟨rfl,h⟩
 |b::l,ps,q,r,hl,h=>by
  obtain⟨gb,ob,cb⟩:=hl b (by simp);obtain⟨e1,e2⟩:=Zi (aU b);have OP:(dV (aU b)).2=true:=by rw[e1,cb];rfl
  have oP:=yQs (aU b) cb;have Xy:cr ⟨[⟨aU b,-1⟩],0⟩=0:=by rw[zY _ (-1) 0 (by decide) (by decide) (by decide)];rw[zY _ 1 (-1) (by decide) (by decide) (by decide)]at cb;exact cb
  have pl:∀k c:Int,cj ⟨[⟨aU b,k⟩],c⟩:=fun k c x hx=>by rw[List.mem_singleton.1 hx];exact O4 b gb
  have o1:kH b (-1) 0=⟨[⟨aU b,-1⟩],0⟩:=by unfold kH;rw[yzb ob]
  have o2:kH b 1 (-1)=⟨[⟨aU b,1⟩],-1⟩:=by unfold kH;rw[yzb ob]
  have b1:∀q:QS,bj aI (aU b) false q=dt aI ⟨[⟨aU b,-1⟩],0⟩ q:=fun q=>by unfold bj;rw[oP,LM];rfl
  have b2:∀q:QS,bj aI (aU b) true q=dt aI ⟨[⟨aU b,1⟩],-1⟩ q:=fun q=>by unfold bj;rw[OP,LM,e2 OP];rfl
  rw[mC,jQ,nV,h.x,b1,b2,o1,o2];simp only[Bool.false_eq_true,if_false];have m1:=zQ9 h (pl (-1) 0) Xy;rcases m1 with⟨h1,_⟩|⟨h1,h2⟩
  ·rw[Vp,h.x]at h1;cases h1
  have m2:=zQ9 h2 (pl 1 (-1)) cb;rcases m2 with⟨h3,_⟩|⟨h3,h4⟩
  ·rw[Vp,h2.x]at h3;cases h3
  rw[←h1,←h3];exact yjZ (l:=l) (fun t ht=>hl t (by simp[ht])) h4
theorem ywC:∀(l) (ps) (r),r.fD=true→(nV ps r l).2.fD=true
 |[],_,_,h=>h
 |b::l,ps,r,h=>by rw[nV];exact ywC l _ _ (by rw[zKy,zKy];exact h)
theorem yKG{l ps q}(h:q.bad=true):jQ aI l ps q=(ps,q):=by
 cases l with
 |nil=>rfl
 |cons s l=>rw[jQ,h,if_pos rfl]
def SP(x:Pred):Prop:=CK x∧x.bO=0
theorem J6{v p}(hc:p.cX<2^62)(h:(ff v p).2=0):∀x∈p.pre,SP x∧∀k∈x.kids,SP k:=by
 have hO:=RW p hc h;have h1:∀x∈p.pre,SP x:=fun x hx=>by refine⟨fun q hq _ k hk=>?_,(Ek (hO x hx)).1⟩;have hqp:=(yg p x hx).1 q hq;refine(Ek (hO k ((yg p q hqp).1 k ?_))).1;obtain⟨o,s,n,ks⟩:=q;rw[Pred.tM];obtain⟨o',s',n',nN⟩:=k;exact List.mem_cons_of_mem _ (Bh.2 ⟨_,hk,Gu _ _ _ _⟩)
 refine fun x hx=>⟨h1 x hx,fun k hk=>h1 k ((yg p x hx).1 k ?_)⟩;obtain⟨o,s,n,ks⟩:=x;rw[Pred.tM];obtain⟨o',s',n',nN⟩:=k;exact List.mem_cons_of_mem _ (Bh.2 ⟨_,hk,Gu _ _ _ _⟩)
theorem Yp{v a b}(ha:SP a)(hb:SP b):CK (dN v a b):=by
 have hk:∀o:Int,((Pred.mk o [] 0 [a,b]).op=10∨(Pred.mk o [] 0 [a,b]).op=11)→∀k∈(Pred.mk o [] 0 [a,b]).kids,k.bO=0:=fun o _ k hk=>by
  have hk:k∈[a,b]:=hk;simp only[List.mem_cons,List.not_mem_nil,or_false]at hk;rcases hk with rfl|rfl
  ·exact ha.2
  ·exact hb.2
 exact FL (hk _) ha.1 hb.1
theorem yQb{v a b}(ha:SP a∧∀k∈a.kids,SP k)(hb:SP b∧∀k∈b.kids,SP k):∀c∈eS v a b,CK c:=by
 intro c hc;have jR:∀{o:Int} {x y:Pred},o≠10→o≠11→((Pred.mk o [] 0 [x,y]).op=10∨(Pred.mk o [] 0 [x,y]).op=11)→∀k∈(Pred.mk o [] 0 [x,y]).kids,k.bO=0:=fun{o x y} h1 h2 h=>by have h:o=10∨o=11:=h;omega
 unfold eS at hc;split at hc
 ·cases hc
 ·rw[List.mem_singleton]at hc;subst hc;refine FL (jR (by decide) (by decide)) (Vi (fun _ _=>jR (by decide) (by decide)) ?_ ?_ fun x hx=>?_) (Yp ha.1 hb.1)
  ·exact cW.mk (fun _ k hk=>by cases hk) (by simp)
  ·exact cW.mk (fun _ k hk=>by cases hk) (by simp)
  ·obtain⟨k,hk,k',fR,rfl⟩:=LC hx;exact Yp (ha.2 k hk) (hb.2 k' fR)
theorem YJ{v}:∀{l},(∀x∈l,SP x∧∀k∈x.kids,SP k)→∀c∈bD v l,CK c
 |[],_,c,hc=>by cases hc
 |a::r,h,c,hc=>by
  rw[bD]at hc;rcases List.mem_append.1 hc with hc|hc
  ·obtain⟨b,hb,hc⟩:=List.mem_flatMap.1 hc;exact yQb (h a (by simp)) (h b (by simp[hb])) c hc
  ·exact YJ (fun x hx=>h x (by simp[hx])) c hc
theorem yZV(v)(p)(hc:p.cX≤1048576):cR v aI p=uO v p:=by
 unfold cR uO;by_cases hb:(eY v p !=0)=true
 ·rw[if_pos hb,if_pos hb]
 rw[if_neg hb,if_neg hb];by_cases hh:decide (((au 5 p []).length:Int)>0)=true
 ·rw[if_pos hh,if_pos hh]
 rw[if_neg hh,if_neg hh];have nL:eY v p=0:=by simpa using hb
 have E0:au 5 p []=[]:=by
  cases e:au 5 p []with
  |nil=>rfl
  |cons x l=>rw[e]at hh;simp at hh
 obtain⟨b1,b2⟩:=Z8 hc nL E0;have ck:(p.same a8=false→CK p)∧∀c∈bD v (au 4 p []),CK c:=by
  cases hz:p.same a8 with
  |true=>refine⟨fun h=>(by cases h),fun c pZ=>?_⟩;rw[(Pred.wz p a8).1 hz]at pZ;cases pZ
  |false=>
   have gy:=J6 (v:=v) (p:=p) (by omega) (Nb nL hz).1;refine⟨fun _=>?_,YJ fun x hx=>?_⟩
   ·obtain⟨o,s,n,ks⟩:=p;exact(gy _ (Gu o s n ks)).1.1
   ·rcases HX p [] hx with h|h
    ·cases h
    ·exact gy x h
 have key:∀(a:List Pred×QS) (b:List Pred×RS),(a.2.bad=true∧b.2.fD=true∨a.1=b.1∧Rel a.2 b.2)→kR v aI p a=DG v p b:=by
  rintro⟨ps,q⟩ ⟨ps',r⟩ h
  have od:∀(ps:List Pred) (q:QS) (ps':List Pred) (r:RS),q.bad=true→r.fD=true→rI aI ps q=FD (nV ps' r r.aA):=fun ps q ps' r h1 h2=>by unfold rI uN FD;rw[yKG h1,ywC _ _ _ h2];simp only[h1,if_true]
  unfold kR DG;simp only at h⊢;rcases h with⟨h1,h2⟩|⟨h1,h2⟩
  ·refine od _ _ _ _ ?_ (VN (fun x _=>zKX x) h2);cases bD v (au 4 p [])with
   |nil=>exact h1
   |cons x l=>rw[cJ,h1,if_pos rfl];exact h1
  ·subst h1;rcases zQh (v:=v) (l:=bD v (au 4 p [])) (ps:=ps) (fun k hk=>⟨b2 k hk,ck.2 k hk⟩) h2 with⟨h3,h4⟩|⟨h3,h4⟩
   ·exact od _ _ _ _ h3 h4
   ·rw[←h3];obtain⟨h5,h6⟩:=yjZ (l:=(cP.oL v (bD v (au 4 p [])) r).2.aA) (ps:=(cJ v aI (bD v (au 4 p [])) ps q).1) h4.g h4;unfold rI;rw[h4.b];generalize jQ aI _ _ _=A at*
    generalize nV _ _ _=B at*
    unfold uN FD;rw[h6.x,h6.w,h6.l,h5,h6.f]
 have hr0:Rel q0 Bb:=⟨rfl,rfl,rfl,rfl,rfl,by simp[Bb],by simp[Bb],by simp[Bb]⟩;cases hz:p.same a8 with
 |true=>simp only[if_true];exact key _ _ (.inr ⟨rfl,hr0⟩)
 |false=>
  simp only[Bool.false_eq_true,if_false];refine key _ _ ?_;rcases zQh (v:=v) (l:=[p]) (ps:=[]) (fun k hk=>by rw[List.mem_singleton.1 hk];exact⟨b1 hz,ck.1 hz⟩) hr0 with⟨h3,h4⟩|⟨h3,h4⟩
  ·exact .inl ⟨h3,h4⟩
  ·exact .inr ⟨by rw[h3];rfl,h4⟩
end Go.Abs
end
section
namespace Go.Abs
theorem yZ8(a):DH a a=true:=by
 unfold DH;rw[(Pred.wz _ _).2 rfl];simp only[decide_true,Bool.and_true,Bool.true_and];have:∀l:List aH,((l.zip l).all fun q=>kV q.1 q.2)=true:=by
  intro l;induction l with
  |nil=>rfl
  |cons x l ih=>rw[List.zip_cons_cons,List.all_cons,ih,zjR.2 rfl];rfl
 exact this _
theorem ywp{E}(L:Law12 E)(v)(hv:v.Ok)(p)(hz:p.sz≤1048576)
  (hQ:E.C V7 [.agg v.cells,.agg p.cells] (.tup [.agg (uO v p).1.cells,.one (.int .i64 (uO v p).2)])):
  E.C zwp [.agg v.cells,.agg p.cells] (.one (.bool true)):=by
 have Z:=L.sys;have hw:=zkj L;have hs:=zvB Z [p];have hl:=zYV Z v;have hq:=L.DC v hv p hz;rw[←yZV v p (Nat.le_trans (HT p) hz)]at hQ;have ox:=yzw Z (cR v aI p).1 (cR v aI p).1;rw[yZ8]at ox;generalize cR v aI p=Q at*
 obtain⟨⟨b,fs⟩,e⟩:=Q;refine Z.zwp _ _ ⟨bn rfl,?_⟩;simp only[mC,mN]at hs;have Ba:v.cells=[.aw (v.vars.map b8.cells),.aw (v.syms.map cI.cells),.aw (v.bT.map bI.cells)]:=rfl;rw[Ba]at*
 rw[Pred.bm p]at*
 simp only[rC.bm]at ox hq hQ;unfold zZ4;refine dJ fun N0 h0=>?_;simp only[go_sem];subst h0;refine dJ fun N1 h1=>?_;simp only[go_sem];refine aR hl ?_;simp only[go_sem];refine Bg hs ?_;simp only[go_sem];cases c:(!tj v||!tw [p])with
 |true=>simp only[go_sem];refine aR hw ?_;simp only[go_sem]
 |false=>simp only[go_sem];subst h1;refine dJ fun N2 h2=>?_;simp only[go_sem];refine aR hq ?_;simp only[go_sem];subst h2;refine dJ fun N3 h3=>?_;simp only[go_sem];refine aR hQ ?_;simp only[go_sem];subst h3;simp only[go_sem];refine aR ox ?_;simp only[go_sem,beq_self_eq_true];refine aR hw ?_;simp only[go_sem]
end Go.Abs
end
section
namespace Go.Abs
variable{E:ax}(Z:Sys E)
include Z
variable(v:al)
set_option maxHeartbeats 4000000 in
theorem yzu(p)(hz:p.sz≤1048576):E.C V7 [.agg v.cells,.agg p.cells] (.tup [.agg (uO v p).1.cells,.one (.int .i64 (uO v p).2)]):=by
 have dU:=HT p;have ur:=yjp Z v p;have uu:=ykX Z p (by omega);have OJ:=yzq Z p;have x7:=yzn Z p (by omega);refine Z.V7 _ _ ⟨bn rfl,?_⟩;generalize hR:uO v p=R;unfold uO at hR;have se:=Pred.bm p;have Ba:v.cells=[.aw (v.vars.map b8.cells),.aw (v.syms.map cI.cells),.aw (v.bT.map bI.cells)]:=rfl;rw[Ba]at ur⊢;unfold zYH;refine dJ fun N0 h0=>?_;rw[se]at ur uu OJ x7⊢;simp only[go_sem];subst h0;refine dJ fun N1 h1=>?_;simp only[go_sem];refine aR ur ?_;simp only[go_sem];subst h1;refine dJ fun N2 h2=>?_;simp only[go_sem];cases c0:(eY v p !=0)with
 |true=>rw[c0,if_pos rfl]at hR;subst hR;simp only[go_sem,Hv];try exact⟨rfl,rfl⟩
 |false=>
 rw[c0,if_neg (by decide)]at hR;simp only[go_sem];subst h2;refine dJ fun N3 h3=>?_;simp only[go_sem];refine aR uu ?_;simp only[go_sem,lM];intro _;cases c1:decide (((au 5 p []).length:Int)>0)with
 |true=>rw[c1,if_pos rfl]at hR;subst hR;simp only[go_sem,Hv];try exact⟨rfl,rfl⟩
 |false=>
 rw[c1,if_neg (by decide)]at hR;simp only[go_sem];have E0:au 5 p []=[]:=by
  cases e:au 5 p []with
  |nil=>rfl
  |cons x l=>rw[e]at c1;simp at c1
 obtain⟨b1,b2⟩:=Z8 (v:=v) (by omega:p.cX≤1048576) (by simpa using c0) E0;subst h3;refine dJ fun N4 h4=>?_;simp only[go_sem];subst h4;refine dJ fun N5 h5=>?_;simp only[go_sem];subst h5;refine dJ fun N6 h6=>?_;simp only[go_sem];refine aR OJ ?_;simp only[go_sem];have nt:∀x∈au 4 p [],x∈p.pre:=fun x hx=>by
  rcases HX p [] hx with h|h
  ·cases h
  ·exact h
 have I3:(au 4 p []).length≤1048576:=by have:=HY 4 p [];simp at this;omega
 have tJ:p.same a8=false→Good p∧p.cX≤400:=fun qC=>by refine⟨(b1 qC).nI,?_⟩;have hO:=(Ek (Nb (v:=v) (by simpa using c0) qC).1).1;have:=(Pred.V0 hO).1;rw[yyU p (by omega)]at this;omega
 have wL:∀x∈au 4 p [],Good x∧x.cX≤400:=by
  intro x hx;cases qC:p.same a8 with
  |true=>rw[(Pred.wz p a8).1 qC]at hx;cases hx
  |false=>obtain⟨g1,g2⟩:=tJ qC;have:=yg p x (nt x hx);exact⟨g1.sub (nt x hx),by omega⟩
 have xG:(au 4 p []).length≤400:=by
  have:=HY 4 p [];cases qC:p.same a8 with
  |true=>rw[(Pred.wz p a8).1 qC];decide
  |false=>have:=(tJ qC).2;simp at*;omega
 have tT:∀x∈bD v (au 4 p []),Good x∧x.cX≤3204:=OZ (m:=400) wL;have ES:(bD v (au 4 p [])).length≤160000:=by have:=ywO v (au 4 p []);have h2:(au 4 p []).length*(au 4 p []).length≤400*400:=Nat.mul_le_mul xG xG;omega
 have Mi:Pred.bw (bD v (au 4 p []))≤512640000:=by have h1:=yz7 (l:=bD v (au 4 p [])) (m:=3204) fun x hx=>(tT x hx).2;have h2:(bD v (au 4 p [])).length*3204≤160000*3204:=Nat.mul_le_mul ES (Nat.le_refl _);omega
 have ON:∀x∈bD v (au 4 p []),x.sz≤1048576:=fun x hx=>by have:=yXu _ (tT x hx).1;have:=(tT x hx).2;omega
 have yV:=zX9 Z v (au 4 p []) (by unfold Small;omega) fun x hx=>Eo x (by have:=(yg p x (nt x hx)).2;omega);have OV:∀(ps:List Pred) (q:RS) (cH:St),aC cH.ae 2=.ptr 2 0→aC cH.ae 3=.ptr 3 0→aC cH.ae 4=.ptr 4 0→aC cH.ae 5=.d (.int .i64 0)→aC cH.ae 7=.ptr 26 0→
   getM cH.mem 2=some [.d (.aw (v.vars.map b8.cells)),.d (.aw (v.syms.map cI.cells)),.d (.aw (v.bT.map bI.cells))]→getM cH.mem 3=some [.d (.int .i64 p.op),.d (.str p.name),.d (.int .i64 p.n),.d (.aw (p.kids.map Pred.cells))]→
   (∀sl,aC sl 10=.d (.int .i64 0)→aC sl 9=.d (.aw ((bD v (au 4 p [])).map Pred.cells))→aC sl 7=.ptr 26 0→aC sl 4=.ptr 4 0→aC sl 5=.d (.int .i64 0)→aC sl 8=aC cH.ae 8→nF ⟨sl,cH.mem,cH.tk⟩ ⟨[(10,.d (.int .i64 0)),(8,.own 4000 4 (ps.map Pred.cells)),(9,.d (.aw ((bD v (au 4 p [])).map Pred.cells))),(7,.ptr 26 0),(4,.ptr 4 0),(5,.d (.int .i64 0))],[(26,gY v q 2000 2001),(4,[.d (.int .i64 0),.d (.str []),.d (.int .i64 0),.full [],.full []])],[(4000,true),(2000,true),(2001,true)]⟩)→
   ps.length≤1→q.ah.length≤1048576→q.aA.length≤1048576→(∀b∈q.aA,Good b∧b.sz≤1048576)→R=DG v p (ps,q)→N6 cH:=by
  intro ps q cH s2 s3 s4 s5 s7 m2 m3 qq A7 hqf Mx hqg pz;subst h6;refine dJ fun N7 h7=>?_;simp only[go_sem,s2,s3,m2,m3];refine⟨_,x7,?_⟩;simp only[go_sem];refine⟨_,yV,?_⟩;simp only[go_sem];subst h7;refine dJ fun N8 h8=>?_;have DK:∀(ps:List Pred) (q:RS) (cH:St),aC cH.ae 4=.ptr 4 0→aC cH.ae 5=.d (.int .i64 0)→aC cH.ae 7=.ptr 26 0→aC cH.ae 8=.own 4000 4 (ps.map Pred.cells)→getM cH.mem 26=some (gY v q 2000 2001)→getM cH.mem 4=some [.d (.int .i64 0),.d (.str []),.d (.int .i64 0),.full [],.full []]→
    aE cH.tk 4000=some true→aE cH.tk 2000=some true→aE cH.tk 2001=some true→ps.length≤160001→q.ah.length≤1073741824→q.aA.length≤1073741824→(∀b∈q.aA,Good b∧b.sz≤1048576)→R=FD (nV ps q q.aA)→N8 cH:=by
   clear Mi ES tT ON wL xG I3 nt tJ yV qq pz;intro ps q cH s4 s5 s7 s8 Ro m4 t4 t2 t1 A7 hqf Mx hqg pz;subst h8;refine dJ fun N9 h9=>?_;have Ao:∀(D:List Pred×RS) (cH:St),aC cH.ae 4=.ptr 4 0→aC cH.ae 5=.d (.int .i64 0)→aC cH.ae 7=.ptr 26 0→aC cH.ae 8=.own 4000 4 (D.1.map Pred.cells)→getM cH.mem 26=some (iH v D.2 2000)→getM cH.mem 4=some [.d (.int .i64 0),.d (.str []),.d (.int .i64 0),.full [],.full []]→
     aE cH.tk 4000=some true→aE cH.tk 2000=some true→R=FD D→N9 cH:=by
    intro D cH s4 s5 s7 s8 Ro m4 t4 t2 pz;subst h9;obtain⟨dp,⟨df,db,dl,dw⟩⟩:=D;simp only[iH]at s8 Ro;have hand:=yy1 Z dp;have nH:=Pred.bm (ig dp);unfold FD at pz;simp only at pz;refine dJ fun N10 rR=>?_;simp only[go_sem,s4,s5,s7,Ro,m4];cases dw with
    |true=>rw[if_pos rfl]at pz;simp only[go_sem,s4,s5,m4,pz,Hv];try exact⟨rfl,rfl⟩
    |false=>
    simp only[Bool.false_eq_true,if_false]at pz;simp only[go_sem];subst rR;refine dJ fun N11 vH=>?_;simp only[go_sem,s4,s5,s7,Ro,m4];cases dl with
    |true=>rw[if_pos rfl]at pz;simp only[go_sem,s4,s5,m4,pz,Hv];try exact⟨rfl,rfl⟩
    |false=>
    simp only[Bool.false_eq_true,if_false]at pz;simp only[go_sem];subst vH;simp only[go_sem,s4,s5,s7,s8,Ro,m4];refine⟨_,hand,?_⟩;simp only[go_sem,s4,s5,s7,s8,Ro,m4,nH,pz,rC.bm];try exact⟨rfl,rfl⟩
   simp only[go_sem,s4,s5,s7,s8];refine mf fun K hK=>?_;refine gU q.aA (fun _=>True) (fun done _=>⟨[(11,.d (.int .i64 done.length)),(4,.ptr 4 0),(5,.d (.int .i64 0)),(7,.ptr 26 0),(8,.own 4000 4 ((nV ps q done).1.map Pred.cells))],[(26,iH v (nV ps q done).2 2000),(4,[.d (.int .i64 0),.d (.str []),.d (.int .i64 0),.full [],.full []])],[(4000,true),(2000,true)]⟩) ?_ trivial ?_ ?_
   ·refine jP [(4000,4000),(2000,2000)] ?_;simp only[go_sem,s4,s5,s7,s8,Ro,m4,t4,t2,t1,gY,iH,nV,List.contains_cons,cN,oS,lN,nZ,Nat.reduceBEq]
   ·intro done x r hl _;have hd:=yvA done ps q;obtain⟨xg,xz⟩:=hqg x (by rw[hl];simp);have bf:=gw hl;have yy:done.length≤q.aA.length:=by rw[hl];simp
    have hw:IntKind.i64.wrap ((done.length:Int)+1)=((done.length+1:Nat):Int):=gn (by omega);rw[ywD];generalize hDn:nV ps q done=Dn at*
    obtain⟨dp,⟨AH,Gf,U2,U3⟩⟩:=Dn;simp only at hd⊢;obtain⟨C9,sx,hd3⟩:=hd;subst C9;have u9:(q.aA.map Pred.cells).getD done.length []=x.cells:=rJ hl;have ji:(∀e∈q.aA.map Pred.cells,e.length=4)=True:=Pred.yt _;have E7:=zVs Z x (HU xg) xz (-1) 0;have Je:=zVs Z x (HU xg) xz 1 (-1);have tS:=yz0 Z v (kH x (-1) 0) ⟨AH,q.aA,U2,U3⟩ (by show AH.length≤_;omega);have k1:=(zKx (kH x (-1) 0) ⟨AH,q.aA,U2,U3⟩).f;have k1b:=zq8 (kH x (-1) 0) ⟨AH,q.aA,U2,U3⟩;have oM:=yz0 Z v (kH x 1 (-1)) (kU (kH x (-1) 0) ⟨AH,q.aA,U2,U3⟩).2 (by have:_≤AH.length+1:=k1;omega);have XS:=zq8 (kH x 1 (-1)) (kU (kH x (-1) 0) ⟨AH,q.aA,U2,U3⟩).2;generalize kU (kH x (-1) 0) ⟨AH,q.aA,U2,U3⟩=B1 at*
    obtain⟨P1,⟨XW,q1b,q1l,q1w⟩⟩:=B1;simp only at k1b XS tS oM⊢;subst k1b;generalize kU (kH x 1 (-1)) ⟨XW,q.aA,q1l,q1w⟩=B2 at*
    obtain⟨P2,⟨Vd,Vc,q2l,q2w⟩⟩:=B2;simp only at XS oM⊢;subst XS;have BA:=Pred.bm P1;have Ly:=Pred.bm P2;have hx4:=Pred.mV x;have o1:(dp.length+2)*56≤2^46:=by omega
    have o2:dp.length≤9223372036854775805:=by omega
    have qV:IntKind.i64.wrap ((dp.length:Int)+1)=((dp.length+1:Nat):Int):=gn (by omega);have JB:(∀e∈dp.map Pred.cells,e.length=4)=True:=Pred.yt dp;unfold zkC;refine dJ fun M1 g1=>?_;simp only[go_sem,iH,bf,lM];try intro _
    subst g1;rw[Nd,Br,Vz];refine dJ fun NT WW=>?_;refine G4 [(26,4,1)] ?_;simp only[go_sem,bf,u9,ji,hx4,List.contains_cons,cN,Nat.reduceBEq,beq_self_eq_true];refine aR E7 ?_;simp only[go_sem];refine EB tS 2000 3000 26 rfl rfl (by simp only[go_sem]) rfl rfl rfl ?_;simp only[go_sem,J1,Ey,iH,bf,u9,ji,hx4,List.contains_cons,cN,Nat.reduceBEq,beq_self_eq_true];refine aR Je ?_;simp only[go_sem];refine EB oM 3000 3001 26 rfl rfl (by simp only[go_sem]) rfl rfl rfl ?_;simp only[go_sem,J1,Ey,iH,bf,u9,ji,hx4,List.contains_cons,cN,Nat.reduceBEq,beq_self_eq_true,lM];subst WW;simp only[go_sem,o1,o2,qV,JB,hw,lM,lA,Nat.reduceSub,Pred.mV];refine⟨by simp[Pred.mV],jP [(4000,86),(2000,3001)] ?_⟩;simp only[go_sem,iH,List.contains_cons,cN,oS,Nat.reduceBEq,mA,mC,mN]
   ·intro _;unfold zkC;refine dJ fun M1 g1=>?_;have C9:=(yvA q.aA ps q).1;have l0:decide ((q.aA.length:Int)<((nV ps q q.aA).2.aA.length:Int))=false:=by rw[C9];simp
    simp only[go_sem,iH,lM,l0];try intro _
    simp only[go_sem,hK];exact Ao (nV ps q q.aA) _ rfl rfl rfl rfl rfl rfl rfl rfl pz
  simp only[go_sem];refine mf fun K hK=>?_;have u6:=fun c hc=>(b2 c hc);refine gU (bD v (au 4 p [])) (fun _=>True) (fun done _=>⟨[(10,.d (.int .i64 done.length)),(8,.own 4000 4 ((ps++(cP.oL v done q).1).map Pred.cells)),(9,.d (.aw ((bD v (au 4 p [])).map Pred.cells))),(7,.ptr 26 0),(4,.ptr 4 0),(5,.d (.int .i64 0))],[(26,gY v (cP.oL v done q).2 2000 2001),(4,[.d (.int .i64 0),.d (.str []),.d (.int .i64 0),.full [],.full []])],[(4000,true),(2000,true),(2001,true)]⟩) ?_ trivial ?_ ?_
  ·simp only[cP.oL,List.append_nil,lN,nZ];refine qq _ ?_ ?_ ?_ ?_ ?_ ?_;all_goals simp only[go_sem,s7,s4,s5]
  ·intro done k r hl _;have dQ:k∈bD v (au 4 p []):=by rw[hl];simp
   have bf:=gw hl;have hd:decide ((done.length:Int)<((bD v (au 4 p [])).length:Int))=true:=decide_eq_true bf;have AM:=rJ hl;have ji:(∀e∈(bD v (au 4 p [])).map Pred.cells,e.length=4)=True:=Pred.yt _;have xau:Pred.bw (bD v (au 4 p []))=Pred.bw done+(k.cX+Pred.bw r):=by rw[hl,Tw,Pred.bw]
   have hg:=zKn (v:=v) (l:=done) (fun k _ q=>zWX v k q) q;have pj:=yxN v done q;have yy:=Sq done;have fR:=yz2 Z v k (cP.oL v done q).2 (b2 k dQ) (ON k dQ) (by have:=hg.f;omega) (by have:=hg.b;omega);rw[yvX];generalize cP.oL v done q=Dn at*
   obtain⟨dp,dq⟩:=Dn;simp only at fR pj⊢;generalize cP v k dq=Kn at*
   obtain⟨kp,kq⟩:=Kn;simp only at fR⊢;have o1:((ps++dp).length+1)*56≤2^46:=by rw[lA];omega
   have o2:(ps++dp).length≤9223372036854775806:=by rw[lA];omega
   have mw:=Pred.yt (ps++dp);simp only[zkD,go_sem,AM,bf,hd,ji,lM,Pred.mV];try intro _
   have hw:IntKind.i64.wrap ((done.length:Int)+1)=((done.length+1:Nat):Int):=gn (by omega);refine Ij fR 2000 2001 3000 3001 26 rfl rfl (by simp only[go_sem]) rfl rfl rfl rfl rfl rfl rfl ?_;simp only[go_sem,OR,GH,Pred.mV,lM,o1,o2,mw,hw,lA,List.mem_singleton,forall_eq];refine⟨⟨by rw[lA]at o1;exact o1,by rw[lA]at o2;exact o2⟩,?_⟩;refine jP [(4000,54),(2000,3000),(2001,3001)] ?_;simp only[go_sem,gY,List.contains_cons,cN,oS,Nat.reduceBEq,mA,mC,mN,lA,List.append_assoc]
  ·intro _;have hg:=zKn (v:=v) (l:=bD v (au 4 p [])) (fun k _ q=>zWX v k q) q;have pj:=yxN v (bD v (au 4 p [])) q;have rB:=yqm (v:=v) (l:=bD v (au 4 p [])) (q:=q) (fun k hk=>⟨(tT k hk).1,ON k hk⟩) hqg;unfold DG at pz;simp only at pz;unfold zkD;refine dJ fun M1 g1=>?_;have l0:decide (((bD v (au 4 p [])).length:Int)<((bD v (au 4 p [])).length:Int))=false:=by simp
   simp only[go_sem,lM,l0];try intro _
   simp only[go_sem,hK];exact DK _ _ _ rfl rfl rfl rfl rfl rfl rfl rfl rfl (by rw[lA,pj];omega) (by have:=hg.f;omega) (by have:=hg.b;omega) rB pz
 clear Mi ES tT ON wL xG I3 nt tJ yV;cases qC:p.same a8 with
 |true=>rw[qC,if_pos rfl]at hR;simp only[Bool.not_true,Bool.false_eq_true,if_false];refine OV [] Bb _ rfl rfl rfl rfl rfl rfl rfl ?_ (by simp) (by simp[Bb]) (by simp[Bb]) (by simp[Bb]) hR.symm;intro sl g10 g9 g7 g4 g5 g8;have g8:aC sl 8=.full []:=g8;refine⟨[(.s 8,4000,4),(.m 26 3,2000,2),(.m 26 4,2001,4)],[(4000,4000),(2000,2000),(2001,2001)],_,⟨_,⟨[],g8,by simp,rfl,rfl⟩,_,⟨_,[],rfl,rfl,by simp,rfl,rfl⟩,_,⟨_,[],rfl,rfl,by simp,rfl,rfl⟩,rfl⟩,?_⟩;simp only[jz,go_sem,g10,g9,g7,g4,g5,gY,Bb,List.set_cons_zero,List.set_cons_succ,List.contains_cons,cN,oS,Nat.reduceBEq,mN]
 |false=>
  rw[qC,if_neg (by decide)]at hR;simp only[Bool.not_false,if_true];have hbg:=b1 qC;have hB:=yz2 Z v p Bb hbg hz (by simp[Bb];omega) (by simp[Bb];omega);have yd:=zWX v p Bb;have rB:=ywG (v:=v) p hbg.nI hz Bb (by simp[Bb]);generalize cP v p Bb=B at*
  obtain⟨bp,bq⟩:=B;simp only at hB yd rB hR;rw[se]at hB;rw[yKB];refine⟨_,⟨[(.m 26 3,3000,2),(.m 26 4,3001,4)],⟨_,⟨_,[],rfl,rfl,by simp,rfl,rfl⟩,_,⟨_,[],rfl,rfl,by simp,rfl,rfl⟩,rfl⟩,rfl⟩,?_⟩;simp only[go_sem,List.set_cons_zero,List.set_cons_succ];refine Ij hB 3000 3001 3002 3003 26 rfl rfl (by simp only[go_sem]) rfl rfl rfl rfl rfl rfl rfl ?_;simp only[go_sem,OR,Pred.mV];refine⟨⟨by simp,by simp[Pred.mV],by decide⟩,?_⟩;refine OV [bp] bq _ rfl rfl rfl rfl rfl (by simp only[go_sem,GH]) (by simp only[go_sem,GH]) ?_ (by simp) (by have:=yd.f;simp[Bb]at this;omega) (by have:=yd.b;simp[Bb]at this;omega) rB hR.symm;intro sl g10 g9 g7 g4 g5 g8;have g8:aC sl 8=.own 35 4 [bp.cells]:=g8;refine jP [(4000,35),(2000,3002),(2001,3003)] ?_;simp only[go_sem,g10,g9,g7,g4,g5,g8,GH,gY,List.contains_cons,cN,oS,Nat.reduceBEq,mC,mN]
end Go.Abs
end
section
namespace Go.Abs
theorem yJp{E}(L:Law12 E)(v:al)(hv:v.Ok)(p:Pred)(hz:p.sz≤1048576):E.C zwp [.agg v.cells,.agg p.cells] (.one (.bool true)):=ywp L v hv p hz (yzu L.sys v p hz)
end Go.Abs
end
