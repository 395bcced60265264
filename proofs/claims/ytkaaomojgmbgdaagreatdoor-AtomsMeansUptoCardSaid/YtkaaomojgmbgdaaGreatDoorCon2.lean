/-
  CONTRACTS: what the functions answer, as plain Lean functions, each by evaluation at the abstract machine.
-/
import Derived.Lib.Join
import Derived.Test.YtkaaomojgmbgdaaGreatDoorCon1
set_option linter.unusedSimpArgs false
set_option linter.unusedVariables false
set_option linter.unusedSectionVars false
set_option maxRecDepth 100000
section
namespace Go.Abs
theorem zVx{E a b c d Q st}(h:∀N,N=awp E d Q→awp E a (seqK (awp E b (seqK (awp E c (seqK N Q)) Q)) Q) st):awp E (.seq a (.seq b (.seq c d))) Q st:=h _ rfl
def sTrue:Str:=[116,114,117,101]
def sFalse:Str:=[102,97,108,115,101]
def signL:List Str:=[[43],[45],[42],[45],[61],[33,61],[60],[60,61],[33],[38],[124],[61,62],[60,61,62]]
def signT(o:Int):Str:=if decide (o<6)||decide (o>18)then[]else signL.getD (o-6).toNat []
def headS(o:Int)(s:Str):Str:=if o==4 then s else if o==5 then 63::s else signT o
def nameS:Pred→Str
 |.mk o s n ks=>if o==1 then Lib.itoa n else if o==2 then(if n==1 then sTrue else sFalse)else if o==3 then s else headS o s++[40]++Lib.join (namesS ks) [44]++[41]
where namesS:List Pred→List Str
 |[]=>[]
 |k::ks=>nameS k::namesS ks
theorem yX3(ks):nameS.namesS ks=ks.map nameS:=by
 induction ks with
 |nil=>rfl
 |cons k ks ih=>rw[nameS.namesS,ih];rfl
theorem zZF(o)(s:Str)(n)(ks):nameS (.mk o s n ks)=if o==1 then Lib.itoa n else if o==2 then(if n==1 then sTrue else sFalse)else if o==3 then s else headS o s++[40]++Lib.join (ks.map nameS) [44]++[41]:=by
 rw[nameS,yX3]
def IPred:Pred→Prop:=AllN fun q=>I64 q.op∧I64 q.n
theorem yk6(o):(signT o).length≤3:=by
 unfold signT;split
 ·simp
 ·have:∀k,(signL.getD k []).length≤3:=by
    intro k;rcases Nat.lt_or_ge k 13 with h|h
    ·have:∀k,k<13→(signL.getD k []).length≤3:=by decide
     exact this k h
    ·rw[List.getD_eq_getElem?_getD,List.getElem?_eq_none (by exact h)];simp
  exact this _
theorem yXw(o)(s):(headS o s).length≤s.length+3:=by
 unfold headS;split
 ·omega
 ·split
  ·simp
  ·have:=yk6 o;omega
theorem yqw:∀l:List Str,(Lib.join l [44]).length≤(l.map List.length).sum+l.length
 |[]=>by rw[Lib.join_nil];simp
 |x::r=>by
  rw[Lib.join_cons];have:∀r:List Str,(Lib.joinTail [44] r).length≤(r.map List.length).sum+r.length:=by
   intro r;unfold Lib.joinTail;induction r with
   |nil=>simp
   |cons y r ih=>simp at ih⊢;omega
  have:=this r;simp;omega
theorem zVj(p):IPred p→(nameS p).length+1≤32*p.sz:=by
 induction p using Pred.ind with
 |h o s n ks ih=>
 intro hi;rw[zZF,Pred.sz];have hn:=hi.top.2;have hit:=Lib.itoa_length_le n hn.1 hn.2;have hh:=yXw o s;have hj:=yqw (ks.map nameS);have hs:∀l:List Pred,(∀k∈l,(nameS k).length+1≤32*k.sz)→((l.map nameS).map List.length).sum+l.length≤32*Pred.szs l:=by
  intro l;induction l with
  |nil=>intro _;simp[Pred.szs]
  |cons k l ih2=>intro h;have h1:=h k (by simp);have h2:=ih2 fun x hx=>h x (by simp[hx]);rw[Pred.szs];simp only[mC,List.sum_cons,lC]at h2⊢;omega
 have hs:=hs ks fun k hk=>ih k hk (hi.kid hk);split
 ·omega
 ·split
  ·split
   ·simp only[sTrue,lC,lN];omega
   ·simp only[sFalse,lC,lN];omega
  ·split
   ·omega
   ·simp only[lA,lC,lN,lM]at hj⊢;omega
theorem zYl{ks k}(h:k∈ks):k.sz≤Pred.szs ks:=by
 induction ks with
 |nil=>cases h
 |cons x ks ih=>
  rw[Pred.szs];rcases List.mem_cons.1 h with rfl|h
  ·omega
  ·have:=ih h;omega
theorem zjU{o}{s:Str}{n ks}:Pred.szs ks+s.length+5=(Pred.mk o s n ks).sz:=by rw[Pred.sz];omega
theorem zQW(l):5*l.length≤Pred.szs l:=by
 induction l with
 |nil=>simp
 |cons k l ih=>
  have h3:5≤k.sz:=by obtain⟨_,_,_,_⟩:=k;rw[Pred.sz];omega
  rw[Pred.szs,lC];omega
def JoinP(E:AEnv):Prop:=∀(l:List Str) (sep:Str),l.length≤1048576→(Lib.join l sep).length≤140737488355328→E.C strings_Join [.one (.lst (l.map fun k=>[.str k])),.one (.str sep)] (.one (.str (Lib.join l sep)))
variable{E:AEnv}(Z:Sys E)
include Z
theorem zvA(b):E.C zzH [.one (.bool b)] (.one (.str (if b then sTrue else sFalse))):=by refine Z.zzH _ _ ⟨b0l rfl,?_⟩;cases b<;>simp only[zxz,go_sem,if_true]<;>rfl
theorem zXc(b):E.C zyD [.one (.bool b)] (.one (.str (if b then sTrue else sFalse))):=by have h:=zvA Z b;refine Z.zyD _ _ ⟨b0l rfl,?_⟩;simp only[zvy,go_sem];refine zza h ?_;simp only[go_sem]
omit Z in
theorem yxa{o:Int}(h:(decide (o<6)||decide (o>18))=false):o=6∨o=7∨o=8∨o=9∨o=10∨o=11∨o=12∨o=13∨o=14∨o=15∨o=16∨o=17∨o=18:=by
 simp at h;omega
omit Z in
theorem yKd{o:Int}(h:I64 o)(h6:¬o<6):IntKind.i64.wrap (o-6)=o-6:=i64_in _ (by unfold I64 at h;omega)
theorem yxv(o)(ho:I64 o):E.C zv8 [.one (.int .i64 o)] (.one (.str (signT o))):=by
 refine Z.zv8 _ _ ⟨b0l rfl,?_⟩;generalize hR:signT o=R;unfold signT at hR;by_cases h6:o<6
 ·have c6:decide (o<6)=true:=decide_eq_true h6;rw[c6]at hR;subst hR;simp only[zv0,go_sem,c6];try rfl
 ·have c6:decide (o<6)=false:=decide_eq_false h6;have hw:=yKd ho h6;by_cases h18:o>18
  ·have c18:decide (o>18)=true:=decide_eq_true h18;have c19:decide (o-6≥13)=true:=decide_eq_true (by omega);rw[c6,c18]at hR;subst hR;simp only[zv0,go_sem,c6,hw,c19];try rfl
  ·have c18:decide (o>18)=false:=decide_eq_false h18;have hc:(decide (o<6)||decide (o>18))=false:=by rw[c6,c18];rfl
   subst hR;rcases yxa hc with h|h|h|h|h|h|h|h|h|h|h|h|h<;>subst h<;>simp only[Int.reduceSub]at hw<;>(simp only[zv0,go_sem,hw,Int.reduceSub,Int.reduceToNat,Int.reduceLT,Int.reduceLE,Int.reduceGE,zA,Nat.mul_one];try rfl)
set_option maxHeartbeats 2000000 in
theorem zwm(hI:ItoaP E)(hJ:JoinP E)(p):IPred p→p.sz≤1048576→E.C zyx [.agg p.cells] (.one (.str (nameS p))):=by
 induction p using Pred.ind with
 |h o s n ks ih=>
 intro hi hz;have hsg:=yxv Z o hi.top.1;have hin:=hI n hi.top.2;have hfb:=fun b=>zXc Z b;have hlen1:=zVj _ hi;have hsz:=@zjU o s n ks;refine Z.zyx _ _ ⟨b0l rfl,?_⟩;rw[Pred.zzb];generalize hR:nameS (.mk o s n ks)=R at*
 rw[zZF]at hR;simp only[zW4,Pred.op,Pred.name,Pred.n,Pred.kids];refine zVx fun N hN=>?_;have tail:∀(hd:Str),R=hd++[40]++Lib.join (ks.map nameS) [44]++[41]→∀st':St,getS st'.slots 1=.ptr 1 0→getS st'.slots 3=.d (.str hd)→st'.mem=[(1,[.d (.int .i64 o),.d (.str s),.d (.int .i64 n),.d (.lst (ks.map Pred.cells))])]→st'.tk=[]→N st':=by
  intro hd hR st' e1 e3 em et;subst hN;simp only[go_sem,e1,e3,em,et];intro hlen;refine zzg ks (fun _=>True) (fun done rest=>⟨[(39,.d (.int .i64 done.length)),(38,.d (.int .i64 ks.length)),(37,.d (.lst (ks.map Pred.cells))),(3,.d (.str hd)),(4,.own 4 1 (done.map fun k=>[.str (nameS k)]))],[],[(4,true)]⟩) ?_ trivial ?_ ?_
  ·exact zxV 4 4 1 [] [(4,4)] rfl (by simp) rfl (by simp only[Ent0,go_sem,cN,oS,mN,lN,nZ,e3])
  ·intro done k r hl _;have hk':=ih k (by rw[hl];simp) (hi.kid (by rw[hl];simp)) (by have:=zYl (ks:=ks) (k:=k) (by rw[hl];simp);omega);have hlt:=zzn hl;have hw:IntKind.i64.wrap ((done.length:Int)+1)=((done.length+1:Nat):Int):=zzf (by omega);have hls:=zQW ks;have hd2:done.length<ks.length:=by rw[hl];simp
   simp only[zvK,go_sem,hlt,zzz hl];refine zza hk' ?_;simp only[go_sem,hw,lA,lM];refine⟨⟨by simp,by omega,by omega⟩,zzk [(4,47)] ?_⟩;simp only[go_sem,cN,oS,mA]
  ·intro _;have hls:=zQW ks;have hmm:ks.map (fun k=>[D.str (nameS k)])=(ks.map nameS).map fun k=>[D.str k]:=by rw[List.map_map];rfl
   have hRl:R.length=hd.length+1+(Lib.join (ks.map nameS) [44]).length+1:=by rw[hR];simp only[lA,lC,lN]
   have hj:=hJ (ks.map nameS) [44] (by rw[lM];omega) (by omega);rw[←hmm]at hj;simp only[zvK,go_sem];refine⟨by omega,?_⟩;refine zza hj ?_;simp only[go_sem,lA];refine⟨by omega,by omega,?_⟩;rw[hR]
 by_cases h1:o=1
 ·subst h1;have hR':Lib.itoa n=R:=hR;subst hR';clear tail hN;simp only[go_sem,Int.reduceBEq];refine zza hin ?_;simp only[go_sem]
 by_cases h2:o=2
 ·subst h2;have hR':(if n==1 then sTrue else sFalse)=R:=hR;subst hR';clear tail hN;simp only[go_sem,Int.reduceBEq];refine zza (hfb _) ?_;simp only[go_sem]
 by_cases h3:o=3
 ·subst h3;have hR':s=R:=hR;subst hR';clear tail hN;simp only[go_sem,Int.reduceBEq]
 have e1:(o==1)=false:=by simpa using h1
 have e2:(o==2)=false:=by simpa using h2
 have e3:(o==3)=false:=by simpa using h3
 simp only[e1,e2,e3,Bool.false_eq_true,if_false]at hR;by_cases h4:o=4
 ·subst h4;clear hN;simp only[go_sem,Int.reduceBEq];refine tail s hR.symm _ ?_ ?_ ?_ rfl<;>simp only[go_sem]
 by_cases h5:o=5
 ·subst h5;clear hN;have ol:0+1+s.length≤9223372036854775807:=by omega
  simp only[go_sem,Int.reduceBEq,ol];refine tail (63::s) hR.symm _ ?_ ?_ ?_ rfl<;>simp only[go_sem]
 ·have e4:(o==4)=false:=by simpa using h4
  have e5:(o==5)=false:=by simpa using h5
  have hh:headS o s=signT o:=by unfold headS;rw[e4,e5];rfl
  rw[hh]at hR;clear hN;simp only[go_sem,e1,e2,e3,e4,e5];refine zza hsg ?_;simp only[go_sem];refine tail (signT o) hR.symm _ ?_ ?_ ?_ rfl<;>simp only[go_sem]
end Go.Abs
end
section
namespace Go.Abs
def flatS:Pred→Pred
 |.mk o s n ks=>if o==4 then .mk 3 (nameS (.mk o s n ks)) 0 []else .mk o s n (flats ks)
where flats:List Pred→List Pred
 |[]=>[]
 |k::ks=>flatS k::flats ks
theorem yK4(ks):flatS.flats ks=ks.map flatS:=by
 induction ks with
 |nil=>rfl
 |cons k ks ih=>rw[flatS.flats,ih];rfl
theorem zXo(o)(s:Str)(n)(ks):flatS (.mk o s n ks)=if o==4 then .mk 3 (nameS (.mk o s n ks)) 0 []else .mk o s n (ks.map flatS):=by
 rw[flatS,yK4]
theorem zVL(p:Pred):p.cnt≤p.sz:=by
 induction p using Pred.ind with
 |h o s n ks ih=>
 have:Pred.cnts ks≤Pred.szs ks:=by
  induction ks with
  |nil=>simp[Pred.cnts,Pred.szs]
  |cons k ks ih2=>have h1:=ih k (by simp);have h2:=ih2 fun x hx=>ih x (by simp[hx]);rw[Pred.cnts,Pred.szs];omega
 rw[Pred.cnt,Pred.sz];omega
variable{E:AEnv}(Z:Sys E)
include Z
theorem yxt(hI:ItoaP E)(hJ:JoinP E)(p):IPred p→p.sz≤1048576→E.C zkU [.agg p.cells] (.agg (flatS p).cells):=by
 induction p using Pred.ind with
 |h o s n ks ih=>
 intro hi hz;have hnm:=zwm Z hI hJ _ hi hz;have hsz:=@zjU o s n ks;have hls:=zQW ks;refine Z.zkU _ _ ⟨b0l rfl,?_⟩;rw[zXo];generalize nameS (.mk o s n ks)=nm at*
 rw[Pred.zzb (.mk o s n ks)]at hnm⊢;simp only[Pred.op,Pred.name,Pred.n,Pred.kids]at hnm⊢;cases c:(o==4)with
 |true=>simp only[zZv,go_sem,c,if_true];refine zza hnm ?_;simp only[go_sem,Pred.zzb (.mk 3 nm 0 []),Pred.op,Pred.name,Pred.n,Pred.kids];try rfl
 |false=>
 simp only[zZv,go_sem,c,if_false];intro hlen;refine zzg ks (fun _=>True) (fun done rest=>⟨[(22,.d (.int .i64 done.length)),(21,.d (.int .i64 ks.length)),(20,.d (.lst (ks.map Pred.cells))),(3,.ptr 3 0),(2,.ptr 2 0)],[(3,[.d (.int .i64 o),.d (.str s),.d (.int .i64 n),.own 3 4 (done.map fun k=>(flatS k).cells)]),(2,[.d (.int .i64 0),.d (.str []),.d (.int .i64 0),.full []])],[(3,true)]⟩) ?_ trivial ?_ ?_
 ·exact zwG 3 3 3 4 _ [] [(3,3)] rfl rfl (by simp) rfl (by simp only[Ent0,go_sem,cN,oS,mN,nZ,lN])
 ·intro done k r hl _;have hkm:k∈ks:=by rw[hl];simp
  have hk':=ih k hkm (hi.kid hkm) (by have:=zYl hkm;omega);have hlt:=zzn hl;have hd:done.length<ks.length:=by rw[hl];simp
  have hw:IntKind.i64.wrap ((done.length:Int)+1)=((done.length+1:Nat):Int):=zzf (by omega);have ha1:(done.length+1)*56≤2^46:=by omega
  have ht:(∀e∈done.map (fun k=>(flatS k).cells),e.length=4)=True:=eq_true (by simp[Pred.zzh]);simp only[zvM,go_sem,hlt,zzz hl];refine zza hk' ?_;simp only[go_sem,hw,lA,lM,mA,ht,Pred.zzh];refine⟨⟨by simp[Pred.zzh],ha1,by omega⟩,zzk [(3,31)] ?_⟩;simp only[go_sem,cN,oS]
 ·intro _;have ht:ks.map (fun k=>(flatS k).cells)=(ks.map flatS).map Pred.cells:=by rw[List.map_map];rfl
  simp only[zvM,go_sem];rw[Pred.zzb];simp only[go_sem,Pred.op,Pred.name,Pred.n,Pred.kids,ht]
theorem zWW(hI:ItoaP E)(hJ:JoinP E)(p)(hi:IPred p)(hz:p.sz≤1048576):E.C zkS [.agg p.cells] (.tup [.agg (flatS p).cells,.one (.lst ((innerP 4 p []).map Pred.cells))]):=by
 have h0:=zVL p;have h1:=yxt Z hI hJ p hi hz;have h2:=zY2 Z p (zxN p (by omega)) (by omega);refine Z.zkS _ _ ⟨b0l rfl,?_⟩;generalize flatS p=q at*
 simp only[Pred.zzb]at h1 h2⊢;simp only[zW3,go_sem];refine⟨_,h1,?_⟩;simp only[go_sem];refine⟨_,h2,?_⟩;simp only[go_sem];try rfl
end Go.Abs
end
section
namespace Go.Abs
def srt(v:SEnv)(p:Pred):Str:=(OfS v p).1
def alikeS(v:SEnv)(a b:List Pred):Bool:=a.map (srt v)==b.map (srt v)
def eqnS(v:SEnv)(a b:Pred):Pred:=.mk (if(OfS v a).2==0&&(OfS v a).1==sBool then 18 else 10) [] 0 [a,b]
def congS(v:SEnv)(a b:Pred):List Pred:=
 if(a.op !=4||b.op !=4||a.name !=b.name||!alikeS v a.kids b.kids)then[]else[.mk 17 [] 0 [andP (List.zipWith (eqnS v) a.kids b.kids),eqnS v a b]]
def closS(v:SEnv):List Pred→List Pred
 |[]=>[]
 |a::r=>r.flatMap (congS v a)++closS v r
theorem ywr{v a b}(h:alikeS v a b=true):a.length=b.length:=by
 have:a.map (srt v)=b.map (srt v):=by simpa[alikeS]using h
 simpa using congrArg List.length this
theorem zJY{v}:∀{a b},a.length=b.length→alikeS v a b=(a.zip b).all fun q=>srt v q.1==srt v q.2
 |[],[],_=>rfl
 |x::a,y::b,h=>by have ih:=zJY (v:=v) (a:=a) (b:=b) (by simpa using h);unfold alikeS at ih⊢;rw[mC,mC,List.zip_cons_cons,List.all_cons,←ih];rfl
 |[],y::b,h=>by simp at h
 |x::a,[],h=>by simp at h
theorem yz1{v a b}(h:a.length≠b.length):alikeS v a b=false:=by
 cases c:alikeS v a b with
 |false=>rfl
 |true=>exact absurd (ywr c) h
variable{E:AEnv}(Z:Sys E)
include Z
theorem zxZ(o)(a b):E.C zwn [.one (.int .i64 o),.agg a.cells,.agg b.cells] (.agg (Pred.mk o [] 0 [a,b]).cells):=by
 refine Z.zwn _ _ ⟨b0l rfl,?_⟩;rw[Pred.zzb (.mk o [] 0 [a,b])];have ha:=Pred.zzb a;have hb:=Pred.zzb b;generalize a.cells=ca at*
 generalize b.cells=cb at*
 subst ha hb;simp only[zQj,go_sem,Pred.op,Pred.name,Pred.n,Pred.kids,Pred.zzb a,Pred.zzb b]
theorem zvu(a):E.C zwH [.agg a.cells] (.agg (Pred.mk 14 [] 0 [a]).cells):=by refine Z.zwH _ _ ⟨b0l rfl,?_⟩;rw[Pred.zzb (.mk 14 [] 0 [a])];simp only[zVM,go_sem,Pred.op,Pred.name,Pred.n,Pred.kids,Pred.zzb a]
theorem zwI(b):E.C zxF [.one (.bool b)] (.agg (if b then trueP else falseP).cells):=by refine Z.zxF _ _ ⟨b0l rfl,?_⟩;cases b<;>simp only[zXQ,go_sem,if_true,if_false]<;>rfl
theorem zKU(v)(hOf:∀p,E.C zzF [.agg v.cells,.agg p.cells] (two (OfS v p)))(a b):E.C zxa [.agg v.cells,.agg a.cells,.agg b.cells] (.agg (eqnS v a b).cells):=by
 have h1:=hOf a;have h2:=fun o=>zxZ Z o a b;refine Z.zxa _ _ ⟨b0l rfl,?_⟩;unfold eqnS;generalize OfS v a=R at*
 obtain⟨s,e⟩:=R;unfold two at h1;have ha:=Pred.zzb a;have hb:=Pred.zzb b;generalize hca:a.cells=ca at*
 generalize hcb:b.cells=cb at*
 subst ha hb;simp only[SEnv.cells]at h1⊢;simp only[zqS,go_sem];refine zza h1 ?_;simp only[go_sem];cases c1:(e==0)with
 |false=>simp only[go_sem,if_false];refine zza (h2 10) ?_;simp only[go_sem,Pred.zzb (.mk 10 [] 0 [a,b])];try rfl
 |true=>
  cases c2:(s==sBool)with
  |false=>have c2':(s==[66,111,111,108])=false:=c2;simp only[go_sem,if_false,c2'];refine zza (h2 10) ?_;simp only[go_sem,Pred.zzb (.mk 10 [] 0 [a,b])];try rfl
  |true=>have c2':(s==[66,111,111,108])=true:=c2;simp only[go_sem,if_true,c2'];refine zza (h2 18) ?_;simp only[go_sem,Pred.zzb (.mk 18 [] 0 [a,b])];try rfl
theorem zJp(v)(hOf:∀p,E.C zzF [.agg v.cells,.agg p.cells] (two (OfS v p)))(a b):E.C zyH [.agg a.cells,.agg b.cells,.one (.ref v.cells)] (.one (.bool (srt v a==srt v b))):=by
 have h1:=hOf a;have h2:=hOf b;refine Z.zyH _ _ ⟨b0l rfl,?_⟩;unfold srt;generalize OfS v a=R at*
 generalize OfS v b=S at*
 unfold two at h1 h2;have ha:=Pred.zzb a;have hb:=Pred.zzb b;generalize hca:a.cells=ca at*
 generalize hcb:b.cells=cb at*
 subst ha hb;simp only[SEnv.cells]at h1 h2⊢;simp only[zZ2,go_sem];refine zza h1 ?_;simp only[go_sem];refine zza h2 ?_;simp only[go_sem]
theorem yQg(v)(hOf:∀p,E.C zzF [.agg v.cells,.agg p.cells] (two (OfS v p)))(a b):
  E.C zzi [.one (.lst (a.map Pred.cells)),.one (.lst (b.map Pred.cells)),.one (.clo zyH [.ref v.cells])] (.one (.bool (alikeS v a b))):=by
 have hf:=fun x y=>zJp Z v hOf x y;refine Z.zzi _ _ ⟨b0l rfl,?_⟩;generalize hR:alikeS v a b=R;simp only[zzM,go_sem];intro _ _;by_cases hl:a.length=b.length
 ·have c:((a.length:Int) !=(b.length:Int))=false:=by simp[hl]
  rw[zJY hl]at hR;simp only[go_sem,c];intro _;have hzl:(a.zip b).length=a.length:=by rw[List.length_zip,hl,Nat.min_self]
  generalize hz:a.zip b=zs at*
  refine zzg zs (fun done=>done.all (fun q=>srt v q.1==srt v q.2)=true) (fun done rest=>⟨[(17,.d (.int .i64 done.length)),(16,.d (.int .i64 a.length)),(15,.d (.lst (a.map Pred.cells))),(1,.d (.lst (b.map Pred.cells))),(2,.d (.clo zyH [.ref v.cells]))],[],[]⟩) ?_ rfl ?_ ?_
  ·exact zze (by simp only[go_sem])
  ·intro done x r hl' hI;obtain⟨fd,fr,sd,sr,e1,e2,e3,e4⟩:=zkQ (hz.trans hl');have hx:=zzV (f:=Pred.cells) e1 e3;have hy:=zzV (f:=Pred.cells) e2 e4;have hlt:=zzn hl';have l1:((done.length:Int)<(a.length:Int))=True:=eq_true (by rw[e1,←e3];simp;omega);have l2:((done.length:Int)<(b.length:Int))=True:=eq_true (by rw[e2,←e4];simp;omega);have hw:IntKind.i64.wrap ((done.length:Int)+1)=((done.length+1:Nat):Int):=zzf (by omega);rw[hl',List.all_append,hI,Bool.true_and,List.all_cons]at hR;have hfx:=hf x.1 x.2;have ha:=Pred.zzb x.1;have hb:=Pred.zzb x.2;generalize x.1.cells=ca at*
   generalize x.2.cells=cb at*
   subst ha hb;simp only[zzv,go_sem,hx,hy,l1,l2];refine zza hfx ?_;cases c2:(srt v x.1==srt v x.2)with
   |true=>simp only[go_sem,hw,lA];refine⟨zze (by simp only[go_sem]),?_⟩;rw[List.all_append,hI,List.all_cons,c2];rfl
   |false=>rw[c2]at hR;simp only[go_sem]at hR⊢;exact hR
  ·intro hI;rw[hI]at hR;have l0:decide ((zs.length:Int)<(a.length:Int))=false:=by rw[hzl];simp
   simp only[zzv,go_sem,l0,←hR]
 ·have c:((a.length:Int) !=(b.length:Int))=true:=by simp;omega
  rw[yz1 hl]at hR;simp only[go_sem,c,←hR]
theorem yzS(v)(hOf:∀p,E.C zzF [.agg v.cells,.agg p.cells] (two (OfS v p)))(a b):E.C zkT [.agg v.cells,.one (.lst (a.map Pred.cells)),.one (.lst (b.map Pred.cells))] (.one (.bool (alikeS v a b))):=by have h:=yQg Z v hOf a b;refine Z.zkT _ _ ⟨b0l rfl,?_⟩;simp only[SEnv.cells]at h⊢;simp only[zXP,go_sem];refine yj1 (cvs:=[.one (.lst (a.map Pred.cells)),.one (.lst (b.map Pred.cells)),.one (.clo zyH [.ref [.lst (v.vars.map SVar.cells),.lst (v.syms.map SSym.cells),.lst (v.holes.map SHole.cells)]])]) (by simp only[go_sem]) rfl rfl h ?_;simp only[go_sem]
end Go.Abs
end
section
namespace Go.Abs
def hdS(v:SEnv):List Pred→List Pred→List Pred
 |[],_=>[]
 |a::d,rest=>(d++rest).flatMap (congS v a)++hdS v d rest
theorem zQa(v)(d r):closS v (d++r)=hdS v d r++closS v r:=by
 induction d with
 |nil=>rfl
 |cons a d ih=>rw[List.cons_append,closS,hdS,ih,List.append_assoc]
theorem yxP(v)(x)(r):∀d,hdS v (d++[x]) r=hdS v d (x::r)++r.flatMap (congS v x)
 |[]=>by simp[hdS]
 |a::d=>by rw[List.cons_append,hdS,hdS,yxP v x r d];simp
theorem zQe(v)(a b):(congS v a b).length≤1:=by
 unfold congS;split<;>simp
theorem zJH{α β:Type}{f:α→List β}(h:∀x,(f x).length≤1):∀l:List α,(l.flatMap f).length≤l.length
 |[]=>by simp
 |x::l=>by have:=zJH h l;have:=h x;simp only[List.flatMap_cons,lA,lC];omega
theorem yxO(v)(r):∀d:List Pred,(hdS v d r).length≤d.length*(d.length+r.length)
 |[]=>by simp[hdS]
 |a::d=>by
  have h1:=yxO v r d;have h2:=zJH (zQe v a) (d++r);rw[hdS,lA,lC];rw[lA]at h2;have:(d.length+1)*(d.length+1+r.length)=d.length*(d.length+r.length)+d.length+(d.length+1+r.length):=by rw[Nat.add_mul,Nat.one_mul,Nat.add_right_comm d.length 1 r.length,Nat.mul_add _ _ 1,Nat.mul_one]
  omega
theorem ywO(v)(l):(closS v l).length≤l.length*l.length:=by have h:=zQa v l [];have h2:=yxO v [] l;rw[List.append_nil]at h;rw[h,closS,List.append_nil];simpa using h2
theorem yY3{v a b}(ha:Tame a)(hb:Tame b):Tame (eqnS v a b):=by
 unfold eqnS;refine AllN.mk ?_ fun k hk=>?_
 ·show Small 2;unfold Small;omega
 ·simp only[List.mem_cons,List.not_mem_nil,or_false]at hk;rcases hk with rfl|rfl
  ·exact ha
  ·exact hb
theorem Tame.kids{p}(h:Tame p):∀k∈p.kids,Tame k:=by obtain⟨o,s,n,ks⟩:=p;exact fun k hk=>AllN.kid h hk
theorem Tame.small{p}(h:Tame p):Small p.kids.length:=by obtain⟨o,s,n,ks⟩:=p;exact AllN.top h
theorem zJo{v}:∀{a b},(∀k∈a,Tame k)→(∀k∈b,Tame k)→∀p∈List.zipWith (eqnS v) a b,Tame p
 |[],_,_,_,p,hp=>by simp at hp
 |_::_,[],_,_,p,hp=>by simp at hp
 |x::a,y::b,ha,hb,p,hp=>by
  rw[List.zipWith_cons_cons]at hp;rcases List.mem_cons.1 hp with rfl|hp
  ·exact yY3 (ha x (by simp)) (hb y (by simp))
  ·exact zJo (fun k hk=>ha k (by simp[hk])) (fun k hk=>hb k (by simp[hk])) p hp
theorem zipWith_map{v}:∀a b,List.zipWith (eqnS v) a b=(a.zip b).map fun q=>eqnS v q.1 q.2
 |[],_=>by simp
 |_::_,[]=>by simp
 |x::a,y::b=>by rw[List.zipWith_cons_cons,List.zip_cons_cons,mC,zipWith_map a b]
variable{E:AEnv}(Z:Sys E)
include Z
set_option maxHeartbeats 4000000 in
theorem zvJ(v)(hOf:∀p,E.C zzF [.agg v.cells,.agg p.cells] (two (OfS v p)))(l)(hl1:Small l.length)(hlt:∀p∈l,Tame p):E.C zy3 [.agg v.cells,.one (.lst (l.map Pred.cells))] (.one (.lst ((closS v l).map Pred.cells))):=by
 have hal:=fun a b=>yzS Z v hOf a b;have heq:=fun a b=>zKU Z v hOf a b;have hop:=fun a b=>zxZ Z 17 a b;refine Z.zy3 _ _ ⟨b0l rfl,?_⟩;unfold Small at hl1;generalize hR:closS v l=R;simp only[SEnv.cells]at hal heq⊢;simp only[zZ1,go_sem];intro hlen;refine zzg l (fun done=>True) (fun done rest=>⟨[(14,.d (.int .i64 done.length)),(13,.d (.int .i64 l.length)),(12,.d (.lst (l.map Pred.cells))),(1,.d (.lst (l.map Pred.cells))),(2,.ptr 2 0),(5,.own 5 4 ((hdS v done rest).map Pred.cells))],[(2,[.d (.lst (v.vars.map SVar.cells)),.d (.lst (v.syms.map SSym.cells)),.d (.lst (v.holes.map SHole.cells))])],[(5,true)]⟩) ?_ trivial ?_ ?_
 ·exact zxV 5 5 4 [] [(5,5)] rfl (by simp) rfl (by simp only[Ent0,go_sem,cN,oS,hdS,nZ])
 ·intro done a r hl _;have hla:=zzn hl;have hw:IntKind.i64.wrap ((done.length:Int)+1)=((done.length+1:Nat):Int):=zzf (by omega);have hn1:((done.length+1:Nat):Int)≤l.length:=by rw[hl];simp;omega
  have hdr1:l.drop (done.length+1)=r:=by rw[show done.length+1=(done++[a]).length by simp,hl,show done++a::r=(done++[a])++r by simp];exact List.drop_left' rfl
  have hdm:(l.map Pred.cells).drop (done.length+1)=r.map Pred.cells:=by rw[←List.map_drop,hdr1]
  have hlr:done.length+(r.length+1)=l.length:=by rw[hl];simp
  have hat:Tame a:=hlt a (by rw[hl];simp);have hac:=Pred.zzb a;have hak:=hat.small;unfold Small at hak;have hhl:=yxO v (a::r) done;rw[lC,hlr]at hhl;have hhl2:done.length*l.length≤1048575*1048576:=Nat.mul_le_mul (by omega) hl1;rw[yxP];simp only[zw3,go_sem,hla,zzz hl,hac,hw,hn1,hdm,Int.toNat_natCast];intro hlr2;refine zyb fun K hK=>?_;refine zzg r (fun done=>True) (fun dn rest=>⟨[(24,.d (.int .i64 dn.length)),(23,.d (.int .i64 r.length)),(22,.d (.lst (r.map Pred.cells))),(14,.d (.int .i64 done.length)),(13,.d (.int .i64 l.length)),(12,.d (.lst (l.map Pred.cells))),(1,.d (.lst (l.map Pred.cells))),(2,.ptr 2 0),(7,.ptr 7 0),(5,.own 5 4 ((hdS v done (a::r)++dn.flatMap (congS v a)).map Pred.cells))],[(7,[.d (.int .i64 a.op),.d (.str a.name),.d (.int .i64 a.n),.d (.lst (a.kids.map Pred.cells))]),(2,[.d (.lst (v.vars.map SVar.cells)),.d (.lst (v.syms.map SSym.cells)),.d (.lst (v.holes.map SHole.cells))])],[(5,true)]⟩) ?_ trivial ?_ ?_
  ·exact zzk [(5,5)] (by simp only[go_sem,cN,oS,List.flatMap_nil])
  ·intro dn b r2 hl2 _;have hlb:=zzn hl2;have hw2:IntKind.i64.wrap ((dn.length:Int)+1)=((dn.length+1:Nat):Int):=zzf (by omega);have hlr2:dn.length+(r2.length+1)=r.length:=by rw[hl2];simp
   have hbt:Tame b:=hlt b (by rw[hl,hl2];simp);have hbc:=Pred.zzb b;have hx:=zzz hl2;have hfl:=zJH (zQe v a) dn;have hsn:(dn++[b]).flatMap (congS v a)=dn.flatMap (congS v a)++congS v a b:=by simp
   rw[hsn,←List.append_assoc];generalize hO:hdS v done (a::r)++dn.flatMap (congS v a)=O at*
   have hOl:O.length+1≤1048575*1048576+1048576:=by rw[←hO,lA];omega
   have hal':=hal a.kids b.kids;unfold zw2;refine zzd fun N1 h1=>?_;simp only[go_sem,hlb];subst h1;refine zzd fun N2 h2=>?_;simp only[go_sem];subst h2;rw[zJ5,zyt];refine zzd fun N3 h3=>?_;simp only[go_sem,hlb,hx,hbc];subst h3;refine zzd fun N4 h4=>?_;simp only[go_sem,hac];refine⟨_,fun _=>hal',?_⟩;simp only[go_sem];have hcg:congS v a b=if(a.op !=4||b.op !=4||a.name !=b.name||!alikeS v a.kids b.kids)then[]else[.mk 17 [] 0 [andP (List.zipWith (eqnS v) a.kids b.kids),eqnS v a b]]:=rfl
   generalize hB:(a.op !=4||b.op !=4||a.name !=b.name||!alikeS v a.kids b.kids)=B at hcg;have hB':(a.op !=4||b.op !=4||!a.name==b.name||!alikeS v a.kids b.kids)=B:=hB;simp only[hB'];cases B with
   |true=>rw[if_pos rfl]at hcg;simp only[go_sem,if_true,hcg,hw2,lA];exact zzk [(5,5)] (by simp only[go_sem,cN,oS])
   |false=>
    rw[if_neg (by decide)]at hcg;simp only[go_sem,if_false];subst h4;have hca:alikeS v a.kids b.kids=true:=by
     cases c:alikeS v a.kids b.kids with
     |true=>rfl
     |false=>rw[c]at hB;simp at hB
    have hln:=ywr hca;have hbk:=hbt.small;unfold Small at hbk;have hzl:(a.kids.zip b.kids).length=a.kids.length:=by rw[List.length_zip,hln,Nat.min_self]
    have hand:=yzj Z (List.zipWith (eqnS v) a.kids b.kids) fun p hp _=>zJo hat.kids hbt.kids p hp;rw[zipWith_map]at hand hcg;have heqab:=heq a b;have hopab:=hop (andP ((a.kids.zip b.kids).map fun q=>eqnS v q.1 q.2)) (eqnS v a b);rw[hac,hbc]at heqab;generalize hz:a.kids.zip b.kids=zs at*
    simp only[go_sem];intro hlk;refine zyb fun K2 hK2=>?_;refine zzg zs (fun done=>True) (fun dk rest=>⟨[(55,.d (.int .i64 dk.length)),(54,.d (.int .i64 a.kids.length)),(24,.d (.int .i64 dn.length)),(23,.d (.int .i64 r.length)),(22,.d (.lst (r.map Pred.cells))),(14,.d (.int .i64 done.length)),(13,.d (.int .i64 l.length)),(12,.d (.lst (l.map Pred.cells))),(1,.d (.lst (l.map Pred.cells))),(2,.ptr 2 0),(7,.ptr 7 0),(9,.ptr 9 0),(5,.own 5 4 (O.map Pred.cells)),(10,.own 10 4 (dk.map fun q=>(eqnS v q.1 q.2).cells))],[(9,[.d (.int .i64 b.op),.d (.str b.name),.d (.int .i64 b.n),.d (.lst (b.kids.map Pred.cells))]),(7,[.d (.int .i64 a.op),.d (.str a.name),.d (.int .i64 a.n),.d (.lst (a.kids.map Pred.cells))]),(2,[.d (.lst (v.vars.map SVar.cells)),.d (.lst (v.syms.map SSym.cells)),.d (.lst (v.holes.map SHole.cells))])],[(10,true),(5,true)]⟩) ?_ trivial ?_ ?_
    ·exact zxV 10 10 4 [] [(10,10),(5,5)] rfl (by simp) rfl (by simp only[Ent0,go_sem,cN,List.contains_cons,oS,nZ,Nat.reduceBEq])
    ·intro dk x rk hlk' _;obtain⟨fd,fr,sd,sr,e1,e2,e3,e4⟩:=zkQ (hz.trans hlk');have hxa:=zzV (f:=Pred.cells) e1 e3;have hxb:=zzV (f:=Pred.cells) e2 e4;have l1:((dk.length:Int)<(a.kids.length:Int))=True:=eq_true (by rw[e1,←e3];simp;omega);have l2:((dk.length:Int)<(b.kids.length:Int))=True:=eq_true (by rw[e2,←e4];simp;omega);have hdk:dk.length<a.kids.length:=by rw[e1,←e3];simp
     have hw3:IntKind.i64.wrap ((dk.length:Int)+1)=((dk.length+1:Nat):Int):=zzf (by omega);have heqx:=heq x.1 x.2;have hxc1:=Pred.zzb x.1;have hxc2:=Pred.zzb x.2;have ht:(∀e∈dk.map (fun q=>(eqnS v q.1 q.2).cells),e.length=4)=True:=eq_true (fun e he=>by obtain⟨q,_,rfl⟩:=List.mem_map.1 he;exact Pred.zzh _);have hec:=Pred.zzh (eqnS v x.1 x.2);generalize x.1.cells=cx1 at*
     generalize x.2.cells=cx2 at*
     subst hxc1 hxc2;simp only[zw1,go_sem,hxa,hxb,l1,l2,lM];refine⟨_,heqx,?_⟩;simp only[go_sem,hw3,lA,lM,ht,hec];refine⟨⟨fun e he=>by rw[List.mem_singleton.1 he];exact hec,by omega,by omega⟩,zzk [(10,72),(5,5)] ?_⟩;simp only[go_sem,cN,List.contains_cons,oS,Nat.reduceBEq,mA]
    ·intro _;have l0:decide ((zs.length:Int)<(a.kids.length:Int))=false:=by rw[hzl];simp
     have hmm:zs.map (fun q=>(eqnS v q.1 q.2).cells)=(zs.map fun q=>eqnS v q.1 q.2).map Pred.cells:=by rw[List.map_map];rfl
     rw[←hmm]at hand;generalize hAnd:andP (zs.map fun q=>eqnS v q.1 q.2)=AN at*
     generalize hEq:eqnS v a b=EN at*
     have hxc1:=Pred.zzb AN;have hxc2:=Pred.zzb EN;have hopc:=Pred.zzh (Pred.mk 17 [] 0 [AN,EN]);generalize hoc:(Pred.mk 17 [] 0 [AN,EN]).cells=oc at*
     generalize AN.cells=cx1 at*
     generalize EN.cells=cx2 at*
     subst hxc1 hxc2;simp only[zw1,go_sem,l0,hK2];refine⟨_,hand,?_⟩;simp only[go_sem];refine⟨_,heqab,?_⟩;simp only[go_sem];refine⟨_,hopab,?_⟩;simp only[go_sem,lM,hopc];refine⟨⟨fun e he=>by rw[List.mem_singleton.1 he];exact hopc,by omega,by omega⟩,?_⟩;simp only[hcg,hw2,lA,mA];exact zzk [(5,83)] (by simp only[go_sem,cN,oS,hoc])
  ·intro _;unfold zw2;refine zzd fun N1 h1=>?_;simp only[go_sem];subst h1;refine zzd fun N2 h2=>?_;simp only[go_sem,hK,hw,lA];exact zzk [(5,5)] (by simp only[go_sem,cN,oS])
 ·intro _;have hRe:hdS v l []=R:=by rw[←hR,show closS v l=closS v (l++[]) by simp,zQa];simp[closS]
  simp only[zw3,go_sem,hRe]
end Go.Abs
end
section
namespace Go.Abs
theorem zKF{n g:Int}(h:inRange n=true)(hg:g≠0):IntKind.i64.wrap (n.tdiv g)=n.tdiv g:=by
 have:(n.tdiv g).natAbs≤n.natAbs:=by rw[Int.natAbs_tdiv];exact Nat.div_le_self _ _
 rw[zzp]at h;exact i64_in _ (by omega)
def headN(l:List Coef):Int:=match l with
 |[]=>0
 |x::_=>x.n
def sgnF(l:List Coef):Int:=if headN l<0 then-1 else 1
def formL(a:Lin):Lin×Int:=
 if linE a !=0 then(noLin,0)
 else if(a.coefs.length:Int)==0 then(if a.c>0 then(⟨[],1⟩,1)else if a.c<0 then(⟨[],1⟩,-1)else(noLin,1))
 else(⟨a.coefs.map (quoC (gcdI (gcdL 0 a.coefs) a.c*sgnF a.coefs)),a.c.tdiv (gcdI (gcdL 0 a.coefs) a.c*sgnF a.coefs)⟩,sgnF a.coefs)
def resF(r:Lin×Int):CV:=.tup [.agg r.1.cells,.one (.int .i64 r.2)]
theorem yvT(a b):0≤gcdI a b:=by unfold gcdI;omega
theorem yvU{a b}(ha:a≠0):0<gcdI a b:=by unfold gcdI;have:=Nat.gcd_pos_of_pos_left b.natAbs (show 0<a.natAbs by omega);omega
theorem yXi(l):∀g,0≤g→gcdL g l=gcdI g (gcdL 0 l):=by
 induction l with
 |nil=>intro g hg;unfold gcdL gcdI;simp;omega
 |cons x l ih=>intro g hg;have e1:gcdL g (x::l)=gcdL (gcdI g x.n) l:=rfl;have e2:gcdL 0 (x::l)=gcdL (gcdI 0 x.n) l:=rfl;rw[e1,e2,ih _ (yvT _ _),ih (gcdI 0 x.n) (yvT _ _)];unfold gcdI;simp[Nat.gcd_assoc]
theorem yXj(l)(c):gcdL (gcdI c 0) l=gcdI (gcdL 0 l) c:=by rw[yXi _ _ (yvT _ _)];unfold gcdI;simp only[Int.natAbs_natCast,Int.natAbs_zero,Nat.gcd_zero_right];rw[Nat.gcd_comm]
variable{E:AEnv}(Z:Sys E)
include Z
theorem yxD(x){g}(hg:g≠0)(hx:inRange x.n=true):E.C zzW [] (.bx [.agg (x.cells.map .d),.ptr 1000 0] [(1000,[.d (.int .i64 g)])] [] (.tup [.agg (quoC g x).cells,.one (.bool true)]) [(1000,[.d (.int .i64 g)])] []):=by
 refine Z.zzW _ _ ⟨b0l rfl,b0l rfl,rfl,?_⟩;have hq:=zKF hx hg;have h0:(g≠0)=True:=eq_true hg;simp only[Coef.cells,quoC]at*
 simp only[zw5,go_sem,mC,mN,hq,h0];exact zze (by simp only[go_sem,oS])
theorem zKw(l:List Coef){g}(hg:g≠0)(hl:l.length≤1000)(hr:∀c∈l,inRange c.n=true):E.C zyr [.one (.lst (l.map Coef.cells)),.one (.int .i64 g)] (.one (.lst ((l.map (quoC g)).map Coef.cells))):=by
 have h4:=yvN Z zzW (.int .i64 g) (quoC g) (fun _=>true) l hl fun x hx=>yxD Z x hg (hr x hx);have he:eachS (quoC g) (fun _=>true) l=(l.map (quoC g),true):=by unfold eachS;rw[zYo (fun _ _=>rfl)];rfl
 rw[he]at h4;refine Z.zyr _ _ ⟨b0l rfl,?_⟩;simp only[zkW,go_sem];refine yxz ⟨[(1000,3)],[],[],_,_,_,_⟩ h4 rfl rfl ?_ ?_
 ·simp only[okB,go_sem,List.cons_append,List.nil_append];exact⟨rfl,rfl,fun p hp=>by rw[List.mem_singleton.1 hp];rfl⟩
 ·simp only[go_sem,List.cons_append,List.nil_append,Option.getD_some]
omit Z in
theorem yy9(l:List Coef):(headN l<0∧sgnF l= -1)∨(¬headN l<0∧sgnF l=1):=by
 unfold sgnF;split
 ·exact .inl ⟨by assumption,rfl⟩
 ·exact .inr ⟨by assumption,rfl⟩
theorem zX4(a):E.C zk7 [.agg a.cells] (resF (formL a)):=by
 have h1:=zyS Z a;refine Z.zk7 _ _ ⟨b0l rfl,?_⟩;generalize hR:formL a=R;unfold formL at hR;obtain⟨l,c⟩:=a;simp only[Lin.cells,resF]at*
 cases c0:(linE ⟨l,c⟩ !=0)with
 |true=>rw[c0,if_pos rfl]at hR;subst hR;simp only[zvl,go_sem];refine zza h1 ?_;simp only[c0,go_sem,noLin,mN];try exact⟨rfl,rfl⟩
 |false=>
 have h0:linE ⟨l,c⟩=0:=by simpa using c0
 have hll:=zxJ h0;have hrg:=zjd h0;have⟨hce,hcr⟩:=zxR h0;simp only at hll hrg hce hcr;rw[c0,if_neg (by decide)]at hR;cases l with
 |nil=>
  have hz0:((([]:List Coef).length:Int)==0)=true:=rfl;rw[hz0,if_pos rfl]at hR;simp only[zvl,go_sem];refine zza h1 ?_;have hz:(((0:Nat):Int)==0)=true:=rfl;have hz1:((0:Int)==0)=true:=rfl;simp only[c0,go_sem,hz,hz1,if_true];by_cases hp:c>0
  ·rw[if_pos hp]at hR;subst hR;simp only[go_sem,decide_eq_true hp];try exact⟨rfl,rfl⟩
  ·rw[if_neg hp]at hR;by_cases hn:c<0
   ·rw[if_pos hn]at hR;subst hR;simp only[go_sem,decide_eq_false hp,decide_eq_true hn];try exact⟨rfl,rfl⟩
   ·rw[if_neg hn]at hR;subst hR;simp only[go_sem,decide_eq_false hp,decide_eq_false hn,noLin];try exact⟨rfl,rfl⟩
 |cons x l=>
 have hz:(((x::l).length:Int)==0)=false:=by simp;omega
 have hx0:((x::l).map Coef.cells).getD 0 []=x.cells:=rfl;rw[hz,if_neg (by decide)]at hR;have hgp:0<gcdL 0 (x::l):=gcdL_pos' fun y hy=>(zkV hce y hy).2;have hgr:=zk3 (g:=0) (by decide) hrg;have hgc:=zXp hgr hcr;have hgcp:0<gcdI (gcdL 0 (x::l)) c:=yvU (by omega);have hcz:=yyX Z hcr (b:=0) (by decide);have hdv:=zq6 Z ⟨x::l,c⟩ (gcdI c 0) (zXp hcr (by decide)) hrg;have hdd:=fun g hg=>zKw Z (x::l) (g:=g) hg (by omega) hrg;simp only[Lin.cells]at hdv;rw[yXj]at hdv;have hq:=fun g hg=>zKF hcr (g:=g) hg;have hs:=yy9 (x::l);have hhd:headN (x::l)=x.n:=rfl;rw[hhd]at hs;have hpos:(0:Int)<((x::l).length:Int):=by simp<;>omega
 generalize sgnF (x::l)=s at*
 generalize gcdI (gcdL 0 (x::l)) c=g at*
 generalize hL:x::l=L at*
 have hg0:(g≠0)=True:=eq_true (by omega);rw[zzp]at hgc;simp only[zvl,go_sem];refine zza h1 ?_;simp only[c0,go_sem,hz];intro _;refine⟨_,hcz,?_⟩;simp only[go_sem];refine⟨_,hdv,?_⟩;simp only[go_sem,hx0,Coef.cells,lM,hpos];rcases hs with⟨hs1,rfl⟩|⟨hs1,rfl⟩
 ·have hwg:IntKind.i64.wrap (0-g)=g* -1:=(i64_in _ (by omega)).trans (by omega);simp only[decide_eq_true hs1,go_sem,hwg];refine⟨_,hdd (g* -1) (by omega),?_⟩;have hg1:(g* -1≠0)=True:=eq_true (by omega);simp only[go_sem,hq (g* -1) (by omega),hg1];subst hR;exact⟨⟨rfl,rfl⟩,rfl⟩
 ·rw[Int.mul_one]at hR;simp only[decide_eq_false hs1,go_sem];refine⟨_,hdd g (by omega),?_⟩;simp only[go_sem,hq g (by omega),hg0];subst hR;exact⟨⟨rfl,rfl⟩,rfl⟩
end Go.Abs
end
section
namespace Go.Abs
theorem Coef.zzb(c:Coef):c.cells=[.str c.name,.int .i64 c.n]:=rfl
theorem Lin.zzb(a:Lin):a.cells=[.lst (a.coefs.map Coef.cells),.int .i64 a.c]:=rfl
structure Atm where
 body:Pred
 forms:List Lin
def Atm.cells(a:Atm):List D:=a.body.cells++[.lst (a.forms.map Lin.cells)]
theorem Atm.zzb(a:Atm):a.cells=[.int .i64 a.body.op,.str a.body.name,.int .i64 a.body.n,.lst (a.body.kids.map Pred.cells),.lst (a.forms.map Lin.cells)]:=by
 unfold Atm.cells;rw[Pred.zzb];rfl
variable{E:AEnv}(Z:Sys E)
include Z
end Go.Abs
end
section
namespace Go.Abs
def takenM(l:List Str):List (D×MV):=l.reverse.map fun s=>(.str s,.one (.bool true))
theorem yjJ(l)(s:Str):takenM (l++[s])=(.str s,.one (.bool true))::takenM l:=by simp[takenM]
theorem yYe(l):(takenM l).length=l.length:=by simp[takenM]
theorem yW2(l)(s:Str):mapAt (takenM l) (.str s) (.one (.bool false))=.one (.bool (l.contains s)):=by
 have key:∀r:List Str,mapAt (r.map fun s=>(D.str s,MV.one (.bool true))) (.str s) (.one (.bool false))=.one (.bool (r.contains s)):=by
  intro r;induction r with
  |nil=>rfl
  |cons x r ih=>
   unfold mapAt at ih⊢;rw[mC,mapGet,ykq];by_cases hx:x=s
   ·subst hx;simp
   ·have h1:(x==s)=false:=by simpa using hx
    have h2:(x::r).contains s=r.contains s:=by rw[Bool.eq_iff_iff,List.contains_iff_mem,List.contains_iff_mem];simp[Ne.symm hx]
    rw[h1,h2];exact ih
 unfold takenM;rw[key];have:l.reverse.contains s=l.contains s:=by rw[Bool.eq_iff_iff,List.contains_iff_mem,List.contains_iff_mem];simp
 rw[this]
def idxG(txt:Lin→Str):Nat→List Lin→List (D×MV)
 |_,[]=>[]
 |i,f::r=>idxG txt (i+1) r++[(.str (txt f),.one (.int .i64 i))]
def idxM(txt:Lin→Str)(fs:List Lin):List (D×MV):=idxG txt 0 fs
theorem ykl(txt)(f):∀(fs) i,idxG txt i (fs++[f])=(.str (txt f),.one (.int .i64 ((i+fs.length:Nat):Int)))::idxG txt i fs
 |[],i=>rfl
 |x::fs,i=>by
  rw[List.cons_append,idxG,ykl txt f fs (i+1),idxG,lC,List.cons_append];have:i+1+fs.length=i+(fs.length+1):=by omega
  rw[this]
theorem ykm(txt)(f)(fs):idxM txt (fs++[f])=(.str (txt f),.one (.int .i64 fs.length))::idxM txt fs:=by
 unfold idxM;rw[ykl,zA]
theorem yqs(txt)(fs):(idxM txt fs).length=fs.length:=by
 unfold idxM;have:∀i,(idxG txt i fs).length=fs.length:=by
  induction fs with
  |nil=>intro i;rfl
  |cons x fs ih=>intro i;rw[idxG,lA,ih];rfl
 exact this 0
def lookG(txt:Lin→Str)(k:Str):Nat→List Lin→Option Nat
 |_,[]=>none
 |i,f::r=>match lookG txt k (i+1) r with
  |some j=>some j
  |none=>if txt f==k then some i else none
def lookI(txt:Lin→Str)(fs:List Lin)(k:Str):Option Nat:=lookG txt k 0 fs
theorem yZI(a b)(x):mapGet (a++b) x=match mapGet a x with|some v=>some v|none=>mapGet b x:=by
 induction a with
 |nil=>rfl
 |cons p a ih=>
  obtain⟨k,v⟩:=p;rw[List.cons_append,mapGet,mapGet];split
  ·rfl
  ·exact ih
theorem yxQ(txt)(k:Str):∀(fs) i,mapGet (idxG txt i fs) (.str k)=(lookG txt k i fs).map fun j:Nat=>MV.one (.int .i64 (j:Int))
 |[],_=>rfl
 |f::r,i=>by
  rw[idxG,yZI,yxQ txt k r (i+1),lookG];cases lookG txt k (i+1) r with
  |some j=>rfl
  |none=>
   simp only[Option.map_none];rw[mapGet];cases c:(txt f==k)with
   |true=>have c':keyEq (.str (txt f)) (.str k)=true:=c;rw[if_pos c',if_pos rfl];rfl
   |false=>have c':keyEq (.str (txt f)) (.str k)=false:=c;rw[c',if_neg (by decide),if_neg (by decide)];rfl
theorem yXy(txt)(fs)(k:Str):mapAt (idxM txt fs) (.str k) (.one (.int .i64 0))=.one (.int .i64 (((lookI txt fs k).getD 0:Nat):Int)):=by unfold mapAt idxM lookI;rw[yxQ];cases lookG txt k 0 fs<;>rfl
theorem yqr(txt)(fs)(k:Str):mapHas (idxM txt fs) (.str k)=(lookI txt fs k).isSome:=by unfold mapHas idxM lookI;rw[yxQ];cases lookG txt k 0 fs<;>rfl
theorem yxY(txt)(k):∀(fs) i j,lookG txt k i fs=some j→i≤j∧j<i+fs.length
 |[],_,_,h=>by cases h
 |f::r,i,j,h=>by
  rw[lookG]at h;cases c:lookG txt k (i+1) r with
  |some m=>rw[c]at h;obtain rfl:=Option.some.inj h;have:=yxY txt k r (i+1) m c;rw[lC];omega
  |none=>
   rw[c]at h;simp only at h;split at h
   ·obtain rfl:=Option.some.inj h;rw[lC];omega
   ·cases h
structure QS where
 forms:List Lin
 bools:List Str
 bad:Bool
def tcellQ(s:Str):List D:=[.str s]
def cellsQ(v:SEnv)(q:QS)(a b:Nat):List AV:=[.d (.lst (v.vars.map SVar.cells)),.d (.lst (v.syms.map SSym.cells)),.d (.lst (v.holes.map SHole.cells)),.mref 1001,.own a 2 (q.forms.map Lin.cells),.own b 1 (q.bools.map tcellQ),.mref 1002,.d (.bool q.bad)]
def bxQ(v:SEnv)(txt:Lin→Str)(q:QS)(a b:Nat):Mem:=[(1000,cellsQ v q a b),(1001,[.mp zzN zxk (idxM txt q.forms)]),(1002,[.mp zzN zyY (takenM q.bools)])]
def QT:List (Nat×Bool):=[(2000,true),(2001,true)]
def σQ:TMap:=[(1000,1000),(1001,1001),(1002,1002)]
theorem renQ{v txt q c d}:renMem [(1000,1000),(1001,1001),(1002,1002)] [(2000,c),(2001,d)] (bxQ v txt q 2000 2001)=bxQ v txt q c d:=by
 simp only[bxQ,cellsQ,renMem,getTM,Option.getD_some,mC,mN,AV.ren1,AV.ren0,Nat.reduceEqDiff,if_true,if_false]
theorem yXn{v txt q c d k m}(h:k<1000):getM (bxQ v txt q c d++m) k=getM m k:=by
 have h0:¬1000=k:=by omega
 have h1:¬1001=k:=by omega
 have h2:¬1002=k:=by omega
 simp only[bxQ,List.cons_append,List.nil_append,getM,h0,h1,h2,if_false]
theorem yK9{v txt q c d m}:getM (bxQ v txt q c d++m) 1000=some (cellsQ v q c d):=rfl
theorem yVa{v txt q c d m}:getM (bxQ v txt q c d++m) 1001=some [.mp zzN zxk (idxM txt q.forms)]:=rfl
theorem yVb{v txt q c d m}:getM (bxQ v txt q c d++m) 1002=some [.mp zzN zyY (takenM q.bools)]:=rfl
attribute [go_sem] renQ yXn yK9 yVa yVb
theorem callQ2{E f}{P:BArgs→Prop}{st av as0 r v txt q q' gs}
  (hC:E.C f [] (.bx as0 (bxQ v txt q 2000 2001) QT r (bxQ v txt q' 2000 2001) QT)) (a b c d) (hr:r.isOwn=false) (hgs:gs=true)
  (hm:MatchVs σQ [(2000,a),(2001,b)] av as0) (h0:getM st.mem 1000=some (cellsQ v q a b)) (h1:getM st.mem 1001=some [.mp zzN zxk (idxM txt q.forms)]) (h2:getM st.mem 1002=some [.mp zzN zyY (takenM q.bools)])
  (ha:getT st.tk a=some true) (hb:getT st.tk b=some true) (hab:(a==b)=false) (hc:getT st.tk c=none) (hd:getT st.tk d=none) (hcd:(c==d)=false)
  (hK:P ⟨[(1000,1000),(1001,1001),(1002,1002)],[(2000,a),(2001,b)],[(2000,c),(2001,d)],as0,bxQ v txt q 2000 2001,bxQ v txt q' 2000 2001,r⟩):
  ∃x:BArgs,callB1 E none f gs av st x∧P x:=by
 refine⟨_,⟨rfl,hgs,hr,?_,hC⟩,hK⟩
 ·have hba:(b==a)=false:=by rw[beq_eq_false_iff_ne]at hab⊢;exact Ne.symm hab
  simp only[okB,σQ]at hm⊢;refine⟨hm,?_,?_,?_⟩
  ·simp only[bxQ,MatchMem,h0,h1,h2,cellsQ];simp only[go_sem]
  ·simp only[mpOk,ha,hb,List.contains_cons,cN,hba,Bool.or_false,and_self]
  ·simp only[bxQ,cellsQ,go_sem,hc,hd,List.contains_cons,cN,Nat.reduceBEq,hab,hcd,List.mem_cons,List.not_mem_nil,or_false,forall_eq_or_imp,forall_eq,List.all_cons,List.all_nil]
theorem endQ{v txt q st}(a b)(h0:getM st.mem 1000=some (cellsQ v q a b))(h1:getM st.mem 1001=some [.mp zzN zxk (idxM txt q.forms)])(h2:getM st.mem 1002=some [.mp zzN zyY (takenM q.bools)])
  (ha:getT st.tk a=some true) (hb:getT st.tk b=some true) (hab:(a==b)=false):Ent st ⟨[],bxQ v txt q 2000 2001,QT⟩:=by
 have hba:(b==a)=false:=by rw[beq_eq_false_iff_ne]at hab⊢;exact Ne.symm hab
 refine zzk [(2000,a),(2001,b)] ?_;simp only[bxQ,cellsQ,QT]at h0⊢;simp only[go_sem,h0,h1,h2,ha,hb,hba,List.contains_cons,cN,oS]
end Go.Abs
end
section
namespace Go.Abs
def leafP(o:Int)(i:Nat):Pred:=.mk o [] 0 [.mk 3 (Lib.itoa (i:Int)) 0 [],.mk 1 [] 0 []]
def negP(p:Pred):Pred:=.mk 14 [] 0 [p]
def tP(b:Bool):Pred:=if b then trueP else falseP
def askS(txt:Lin→Str)(d:Lin)(q:QS):Nat×QS:=match lookI txt q.forms (txt (formL d).1)with
 |some i=>(i,q)
 |none=>(q.forms.length,{q with forms:=q.forms++[(formL d).1]})
def zeroQ(txt:Lin→Str)(d:Lin)(q:QS):Pred×QS:=if(d.coefs.length:Int)==0 then(tP (d.c==0),q)else(leafP 10 (askS txt d q).1,(askS txt d q).2)
def mostQ(txt:Lin→Str)(d:Lin)(q:QS):Pred×QS:=
 if(d.coefs.length:Int)==0 then(tP (decide (d.c≤0)),q)
 else if(formL d).2<0 then(.mk 16 [] 0 [negP (leafP 13 (askS txt d q).1),leafP 10 (askS txt d q).1],(askS txt d q).2)else(leafP 13 (askS txt d q).1,(askS txt d q).2)
def belowQ(txt:Lin→Str)(d:Lin)(q:QS):Pred×QS:=
 if(d.coefs.length:Int)==0 then(tP (decide (d.c<0)),q)
 else if(formL d).2<0 then(negP (leafP 13 (askS txt d q).1),(askS txt d q).2)else(.mk 15 [] 0 [leafP 13 (askS txt d q).1,negP (leafP 10 (askS txt d q).1)],(askS txt d q).2)
def QS.note(q:QS)(ok:Bool):QS:={q with bad:=q.bad||!ok}
def varL(s:Str):Lin×Bool:=addL ⟨[⟨s,1⟩],0⟩ noLin
def TxtOk(a:Lin):Prop:=a.coefs.length≤24∧(∀c∈a.coefs,c.name.length≤400∧I64 c.n)∧I64 a.c
def TextP(E:AEnv)(txt:Lin→Str):Prop:=∀a:Lin,TxtOk a→E.C zKV [.agg a.cells] (.one (.str (txt a)))
theorem yz8:∀{p} {l},coefE p l=0→∀c∈l,c.name≠[]∧c.name.length≤400
 |_,[],_,c,hc=>by cases hc
 |p,x::l,h,c,hc=>by
  rw[coefE]at h;have h0:errC p x=0:=by
   by_cases e:(errC p x==0)=true
   ·simpa using e
   ·rw[if_neg e]at h;exact h
  rw[h0]at h;rcases List.mem_cons.1 hc with rfl|hc
  ·unfold errC at h0;split at h0
   ·cases h0
   ·rename_i h1;simp only[Bool.or_eq_true,beq_iff_eq,decide_eq_true_eq,not_or]at h1;exact⟨h1.1,by omega⟩
  ·exact yz8 h c hc
theorem yqS{n g:Int}(h:inRange n=true):I64 (n.tdiv g):=by
 have:(n.tdiv g).natAbs≤n.natAbs:=by rw[Int.natAbs_tdiv];exact Nat.div_le_self _ _
 rw[zzp]at h;unfold I64;omega
theorem ykb(d):TxtOk (formL d).1:=by
 unfold formL;split
 ·exact⟨by simp[noLin],by simp[noLin],by simp[noLin,I64]⟩
 ·rename_i h;have h0:linE d=0:=by simpa using h
  have hll:=zxJ h0;have hrg:=zjd h0;have⟨hce,hcr⟩:=zxR h0;split
  ·split
   ·exact⟨by simp,by simp,by simp[I64]⟩
   ·split
    ·exact⟨by simp,by simp,by simp[I64]⟩
    ·exact⟨by simp[noLin],by simp[noLin],by simp[noLin,I64]⟩
  ·refine⟨by simpa using hll,fun c hc=>?_,yqS hcr⟩;obtain⟨x,hx,rfl⟩:=List.mem_map.1 hc;exact⟨(yz8 hce x hx).2,yqS (hrg x hx)⟩
theorem zx0(v)(txt)(q):bxQ v txt q 2000 2001=[(1000,[.d (.lst (v.vars.map SVar.cells)),.d (.lst (v.syms.map SSym.cells)),.d (.lst (v.holes.map SHole.cells)),.mref 1001,.own 2000 2 (q.forms.map Lin.cells),.own 2001 1 (q.bools.map tcellQ),.mref 1002,.d (.bool q.bad)]),(1001,[.mp zzN zxk (idxM txt q.forms)]),(1002,[.mp zzN zyY (takenM q.bools)])]:=rfl
theorem zzw(o)(i):(leafP o i).cells=[.int .i64 o,.str [],.int .i64 0,.lst [[.int .i64 3,.str (Lib.itoa (i:Int)),.int .i64 0,.lst []],[.int .i64 1,.str [],.int .i64 0,.lst []]]]:=by unfold leafP;rw[Pred.zzb];simp only[Pred.op,Pred.name,Pred.n,Pred.kids,mC,mN,Pred.zzb (.mk 3 _ 0 []),Pred.zzb (.mk 1 [] 0 [])]
theorem zWV(txt)(d)(q):(askS txt d q).2.forms.length≤q.forms.length+1∧(askS txt d q).1≤q.forms.length∧(askS txt d q).2.bools=q.bools:=by
 unfold askS;cases h:lookI txt q.forms (txt (formL d).1)with
 |some i=>have:=yxY txt _ q.forms 0 i h;exact⟨by simp,by simp;omega,rfl⟩
 |none=>exact⟨by simp,by simp,rfl⟩
variable{E:AEnv}(Z:Sys E)
include Z
variable(v:SEnv)(txt:Lin→Str)
theorem zwy(a:Lin)(ok)(q):E.C zzj [] (.bx [.ptr 1000 0,.agg (a.cells.map .d),.d (.bool ok)] (bxQ v txt q 2000 2001) QT (.agg a.cells) (bxQ v txt (q.note ok) 2000 2001) QT):=by
 refine Z.zzj _ _ ⟨b0l rfl,b0l rfl,rfl,?_⟩;cases ok with
 |true=>
  have hq:q.note true=q:=by unfold QS.note;simp
  rw[hq];simp only[zya,bxQ,cellsQ,QT,go_sem,Lin.zzb];exact endQ 2000 2001 rfl rfl rfl rfl rfl rfl
 |false=>
  have hq:q.note false=⟨q.forms,q.bools,true⟩:=by unfold QS.note;simp
  rw[hq];simp only[zya,bxQ,cellsQ,QT,go_sem,Lin.zzb];exact endQ (q:=⟨q.forms,q.bools,true⟩) 2000 2001 rfl rfl rfl rfl rfl rfl
attribute [local go_sem] AV.toMV MV.av
set_option maxHeartbeats 1000000 in
theorem yzK(hI:ItoaP E)(hT:TextP E txt)(d)(q)(hq:q.forms.length≤1073741824):E.C zzB [] (.bx [.ptr 1000 0,.agg (d.cells.map .d)] (bxQ v txt q 2000 2001) QT (.tup [.agg (leafP 10 (askS txt d q).1).cells,.agg (leafP 13 (askS txt d q).1).cells,.one (.bool (decide ((formL d).2<0)))]) (bxQ v txt (askS txt d q).2 2000 2001) QT):=by
 have hF:=zX4 Z d;have ht:=hT _ (ykb d);have hit:=hI ((askS txt d q).1:Int) (by have:=(zWV txt d q).2.1;unfold I64p;omega);have hop:=fun o=>zxZ Z o (.mk 3 (Lib.itoa ((askS txt d q).1:Int)) 0 []) (.mk 1 [] 0 []);have hl:∀o,(leafP o (askS txt d q).1).cells=_:=fun o=>zzw o (askS txt d q).1;have hfo:∀o,Pred.mk o [] 0 [.mk 3 (Lib.itoa ((askS txt d q).1:Int)) 0 [],.mk 1 [] 0 []]=leafP o (askS txt d q).1:=fun _=>rfl;simp only[hfo,Pred.zzb (.mk 3 _ 0 []),Pred.zzb (.mk 1 [] 0 []),Pred.op,Pred.name,Pred.n,Pred.kids,mN]at hop;clear hfo;generalize hL10:(leafP 10 (askS txt d q).1).cells=L10 at*
 generalize hL13:(leafP 13 (askS txt d q).1).cells=L13 at*
 have hop10:=hop 10;have hop13:=hop 13;rw[hL10]at hop10;rw[hL13]at hop13;have hc10:=hl 10;have hc13:=hl 13;rw[hL10]at hc10;rw[hL13]at hc13;clear hop hl hL10 hL13;refine Z.zzB _ _ ⟨b0l rfl,b0l rfl,rfl,?_⟩;generalize hA:askS txt d q=A at*
 obtain⟨i,q1⟩:=A;unfold askS at hA;unfold resF at hF;generalize formL d=F at*
 obtain⟨f,s⟩:=F;have hat:=yXy txt q.forms (txt f);have hhas:=yqr txt q.forms (txt f);have hil:=yqs txt q.forms;simp only[Lin.zzb]at*
 simp only[zxH,zx0 v txt q,QT,go_sem];refine⟨_,hF,?_⟩;simp only[go_sem];refine⟨_,ht,?_⟩;simp only[go_sem,hat,hhas];cases hlk:lookI txt q.forms (txt f)with
 |some j=>rw[hlk]at hA;obtain⟨rfl,rfl⟩:=Prod.mk.inj hA;simp only[go_sem,oS,Option.getD_some];refine⟨_,hit,?_⟩;simp only[go_sem];refine⟨_,hop10,?_⟩;simp only[go_sem];refine⟨_,hop13,?_⟩;simp only[go_sem,hc10,hc13];exact endQ 2000 2001 rfl rfl rfl rfl rfl rfl
 |none=>
  rw[hlk]at hA;obtain⟨rfl,rfl⟩:=Prod.mk.inj hA;have ht2:=Lin.lens q.forms;have o1:(q.forms.length+1)*32≤2^46:=by omega
  have o2:q.forms.length≤9223372036854775806:=by omega
  have o3:q.forms.length<9223372036854775807:=by omega
  simp only[go_sem,Option.isSome_none];intro _;simp only[go_sem,hil,o3,lM,o1,o2,ht2];refine⟨fun e he=>by rw[List.mem_singleton.1 he];rfl,?_⟩;refine⟨_,hit,?_⟩;simp only[go_sem];refine⟨_,hop10,?_⟩;simp only[go_sem];refine⟨_,hop13,?_⟩;simp only[go_sem,hc10,hc13];refine endQ (q:=⟨q.forms++[f],q.bools,q.bad⟩) 50 2001 ?_ ?_ rfl rfl rfl rfl
  ·simp only[go_sem,cellsQ,mA];rfl
  ·simp only[go_sem,ykm]
end Go.Abs
end
section
namespace Go.Abs
theorem yYL(v)(txt)(q)(a b):bxQ v txt q a b=[(1000,[.d (.lst (v.vars.map SVar.cells)),.d (.lst (v.syms.map SSym.cells)),.d (.lst (v.holes.map SHole.cells)),.mref 1001,.own a 2 (q.forms.map Lin.cells),.own b 1 (q.bools.map tcellQ),.mref 1002,.d (.bool q.bad)]),(1001,[.mp zzN zxk (idxM txt q.forms)]),(1002,[.mp zzN zyY (takenM q.bools)])]:=rfl
variable{E:AEnv}(Z:Sys E)
include Z
variable(v:SEnv)(txt:Lin→Str)
theorem yxf(hI:ItoaP E)(hT:TextP E txt)(d)(q)(hq:q.forms.length≤1073741824):E.C zzI [] (.bx [.ptr 1000 0,.agg (d.cells.map .d)] (bxQ v txt q 2000 2001) QT (.agg (zeroQ txt d q).1.cells) (bxQ v txt (zeroQ txt d q).2 2000 2001) QT):=by
 have hask:=yzK Z v txt hI hT d q hq;have htr:=fun b=>zwI Z b;refine Z.zzI _ _ ⟨b0l rfl,b0l rfl,rfl,?_⟩;generalize hA:zeroQ txt d q=A at*
 unfold zeroQ at hA;obtain⟨P,q1⟩:=A;generalize askS txt d q=S at*
 obtain⟨i,q2⟩:=S;simp only[Lin.zzb,mC,mN,zzw]at*
 simp only[zkh,zx0 v txt q,QT,go_sem];intro hl;cases c:((d.coefs.length:Int)==0)with
 |true=>rw[c,if_pos rfl]at hA;obtain⟨rfl,rfl⟩:=Prod.mk.inj hA;simp only[go_sem];refine⟨_,htr _,?_⟩;unfold tP;simp only[go_sem];exact endQ 2000 2001 rfl rfl rfl rfl rfl rfl
 |false=>rw[c,if_neg (by decide)]at hA;obtain⟨rfl,rfl⟩:=Prod.mk.inj hA;simp only[go_sem];refine callQ2 hask 2000 2001 3000 3001 rfl rfl (by simp only[σQ,go_sem]) rfl rfl rfl rfl rfl rfl rfl rfl rfl ?_;simp only[go_sem,zzw];exact endQ 3000 3001 rfl rfl rfl rfl rfl rfl
theorem yYf(hI:ItoaP E)(hT:TextP E txt)(d)(q)(hq:q.forms.length≤1073741824):E.C zzx [] (.bx [.ptr 1000 0,.agg (d.cells.map .d)] (bxQ v txt q 2000 2001) QT (.agg (mostQ txt d q).1.cells) (bxQ v txt (mostQ txt d q).2 2000 2001) QT):=by
 have hask:=yzK Z v txt hI hT d q hq;have htr:=fun b=>zwI Z b;have hnot:=fun i=>zvu Z (leafP 13 i);have hop:=fun i=>zxZ Z 16 (negP (leafP 13 i)) (leafP 10 i);refine Z.zzx _ _ ⟨b0l rfl,b0l rfl,rfl,?_⟩;generalize hA:mostQ txt d q=A at*
 unfold mostQ at hA;obtain⟨P,q1⟩:=A;generalize askS txt d q=S at*
 obtain⟨i,q2⟩:=S;have hni:(negP (leafP 13 i)).cells=[.int .i64 14,.str [],.int .i64 0,.lst [(leafP 13 i).cells]]:=by unfold negP;rw[Pred.zzb];rfl
 have hnot:=hnot i;have hop:=hop i;have hnf:Pred.mk 14 [] 0 [leafP 13 i]=negP (leafP 13 i):=rfl;rw[hnf]at hnot;rw[hni]at hnot hop;have hoc:=Pred.zzb (Pred.mk 16 [] 0 [negP (leafP 13 i),leafP 10 i]);simp only[Pred.op,Pred.name,Pred.n,Pred.kids]at hoc;generalize hoC:(Pred.mk 16 [] 0 [negP (leafP 13 i),leafP 10 i]).cells=oC at*
 simp only[Lin.zzb,mC,mN,zzw]at*
 simp only[zxm,zx0 v txt q,QT,go_sem];intro hl;cases c:((d.coefs.length:Int)==0)with
 |true=>rw[c,if_pos rfl]at hA;obtain⟨rfl,rfl⟩:=Prod.mk.inj hA;simp only[go_sem];refine⟨_,htr _,?_⟩;unfold tP;simp only[go_sem];exact endQ 2000 2001 rfl rfl rfl rfl rfl rfl
 |false=>
  rw[c,if_neg (by decide)]at hA;simp only[go_sem];refine callQ2 hask 2000 2001 3000 3001 rfl rfl (by simp only[σQ,go_sem]) rfl rfl rfl rfl rfl rfl rfl rfl rfl ?_;simp only[go_sem,zzw];by_cases hs:(formL d).2<0
  ·rw[if_pos hs]at hA;obtain⟨rfl,rfl⟩:=Prod.mk.inj hA;simp only[go_sem,decide_eq_true hs,if_true];refine⟨_,hnot,?_⟩;simp only[go_sem];refine⟨_,hop,?_⟩;simp only[go_sem,hoC,hoc];exact endQ 3000 3001 rfl rfl rfl rfl rfl rfl
  ·rw[if_neg hs]at hA;obtain⟨rfl,rfl⟩:=Prod.mk.inj hA;simp only[go_sem,decide_eq_false hs,zzw,if_false];exact endQ 3000 3001 rfl rfl rfl rfl rfl rfl
theorem yjK(hI:ItoaP E)(hT:TextP E txt)(d)(q)(hq:q.forms.length≤1073741824):E.C zz4 [] (.bx [.ptr 1000 0,.agg (d.cells.map .d)] (bxQ v txt q 2000 2001) QT (.agg (belowQ txt d q).1.cells) (bxQ v txt (belowQ txt d q).2 2000 2001) QT):=by
 have hask:=yzK Z v txt hI hT d q hq;have htr:=fun b=>zwI Z b;have hnot:=fun o i=>zvu Z (leafP o i);have hop:=fun i=>zxZ Z 15 (leafP 13 i) (negP (leafP 10 i));refine Z.zz4 _ _ ⟨b0l rfl,b0l rfl,rfl,?_⟩;generalize hA:belowQ txt d q=A at*
 unfold belowQ at hA;obtain⟨P,q1⟩:=A;generalize askS txt d q=S at*
 obtain⟨i,q2⟩:=S;have hni:∀o,(negP (leafP o i)).cells=[.int .i64 14,.str [],.int .i64 0,.lst [(leafP o i).cells]]:=fun o=>by unfold negP;rw[Pred.zzb];rfl
 have hnot:=fun o=>hnot o i;have hop:=hop i;have hnf:∀o,Pred.mk 14 [] 0 [leafP o i]=negP (leafP o i):=fun o=>rfl;have hnot10:=hnot 10;have hnot13:=hnot 13;rw[hnf,hni]at hnot10 hnot13;rw[hni]at hop;have hoc:=Pred.zzb (Pred.mk 15 [] 0 [leafP 13 i,negP (leafP 10 i)]);simp only[Pred.op,Pred.name,Pred.n,Pred.kids]at hoc;generalize hoC:(Pred.mk 15 [] 0 [leafP 13 i,negP (leafP 10 i)]).cells=oC at*
 have hni13:=hni 13;clear hnot hni;simp only[Lin.zzb,mC,mN,zzw]at*
 simp only[zwK,zx0 v txt q,QT,go_sem];intro hl;cases c:((d.coefs.length:Int)==0)with
 |true=>rw[c,if_pos rfl]at hA;obtain⟨rfl,rfl⟩:=Prod.mk.inj hA;simp only[go_sem];refine⟨_,htr _,?_⟩;unfold tP;simp only[go_sem];exact endQ 2000 2001 rfl rfl rfl rfl rfl rfl
 |false=>
  rw[c,if_neg (by decide)]at hA;simp only[go_sem];refine callQ2 hask 2000 2001 3000 3001 rfl rfl (by simp only[σQ,go_sem]) rfl rfl rfl rfl rfl rfl rfl rfl rfl ?_;simp only[go_sem,zzw];by_cases hs:(formL d).2<0
  ·rw[if_pos hs]at hA;obtain⟨rfl,rfl⟩:=Prod.mk.inj hA;simp only[go_sem,decide_eq_true hs,if_true];refine⟨_,hnot13,?_⟩;simp only[go_sem,hni13];exact endQ 3000 3001 rfl rfl rfl rfl rfl rfl
  ·rw[if_neg hs]at hA;obtain⟨rfl,rfl⟩:=Prod.mk.inj hA;simp only[go_sem,decide_eq_false hs,if_false];refine⟨_,hnot10,?_⟩;simp only[go_sem];refine⟨_,hop,?_⟩;simp only[go_sem,hoC,hoc];exact endQ 3000 3001 rfl rfl rfl rfl rfl rfl
theorem zWc(s:Str)(q):E.C zzo [] (.bx [.ptr 1000 0,.d (.str s)] (bxQ v txt q 2000 2001) QT (.agg (varL s).1.cells) (bxQ v txt (q.note (varL s).2) 2000 2001) QT):=by
 have hadd:=zyK Z ⟨[⟨s,1⟩],0⟩ noLin;have hsome:=zwy Z v txt (varL s).1 (varL s).2 q;refine Z.zzo _ _ ⟨b0l rfl,b0l rfl,rfl,?_⟩;have hv:addL ⟨[⟨s,1⟩],0⟩ noLin=varL s:=rfl;rw[hv]at hadd;generalize varL s=V at*
 obtain⟨L,ok⟩:=V;unfold resL at hadd;simp only[Lin.zzb,mC,mN,noLin,Coef.zzb]at*
 simp only[zyI,zx0 v txt q,QT,go_sem];refine⟨_,hadd,?_⟩;simp only[go_sem];refine callQ2 hsome 2000 2001 3000 3001 rfl rfl (by simp only[σQ,go_sem]) rfl rfl rfl rfl rfl rfl rfl rfl rfl ?_;simp only[go_sem];exact endQ 3000 3001 rfl rfl rfl rfl rfl rfl
end Go.Abs
end
section
namespace Go.Abs
theorem zvD(q:QS)(a b):(q.note a).note b=q.note (a&&b):=by
 unfold QS.note;cases a<;>cases b<;>simp
theorem zvE(q:QS):q.note true=q:=by unfold QS.note;simp
theorem zva(q:QS)(a):(q.note a).forms=q.forms:=rfl
theorem yQ4(q:QS)(a):(q.note a).bools=q.bools:=rfl
def formT:Pred→Lin×Bool
 |.mk o s n ks=>
  if o==1 then(⟨[],n⟩,true)
  else match ks with
   |[a,b]=>
    if o==6 then((addL (formT a).1 (formT b).1).1,(formT a).2&&(formT b).2&&(addL (formT a).1 (formT b).1).2)
    else if o==7 then((addL (formT a).1 (scaleL (formT b).1 (-1)).1).1,(formT a).2&&(formT b).2&&(scaleL (formT b).1 (-1)).2&&(addL (formT a).1 (scaleL (formT b).1 (-1)).1).2)
    else if o==8 then((scaleL (formT b).1 a.n).1,(formT b).2&&(scaleL (formT b).1 a.n).2)
    else varL (nameS (.mk o s n [a,b]))
   |[a]=>if o==9 then((scaleL (formT a).1 (-1)).1,(formT a).2&&(scaleL (formT a).1 (-1)).2)else varL (nameS (.mk o s n [a]))
   |l=>varL (nameS (.mk o s n l))
theorem yVi{o}{s:Str}{n ks}(h:Pred.err (.mk o s n ks)=0):I64 o∧I64 n:=by
 have h':nodeE o s n ks=0:=h;unfold nodeE at h';by_cases c1:(decide (o<1)||decide (o>18)||!s==[]&&!isOpNamed o||n !=0&&!(o==1||o==2)||!kidsOk o ks.length)=true
 ·rw[if_pos c1]at h';cases h'
 ·rw[if_neg c1]at h';by_cases c2:(o==1&&!inRange n||o==2&&(decide (n<0)||decide (n>1)))=true
  ·rw[if_pos c2]at h';cases h'
  ·simp only[Bool.or_eq_true,decide_eq_true_eq,not_or,Bool.and_eq_true,not_and,bne_iff_ne,Bool.not_eq_true',Bool.or_eq_false_iff,beq_eq_false_iff_ne,ne_eq]at c1 c2;have ho:1≤o∧o≤18:=by omega
   refine And.intro (by unfold I64;omega) ?_;by_cases h1:o=1
   ·have:=c2.1 (by simpa using h1);have hr:inRange n=true:=by simpa using this
    rw[zzp]at hr;unfold I64;omega
   ·by_cases h2:o=2
    ·have:=c2.2 (by simpa using h2);unfold I64;omega
    ·have:n=0:=by
       have:=c1.1.2;by_cases hn:n=0
       ·exact hn
       ·exact absurd h2 (this hn h1)
     subst this;unfold I64;omega
theorem zYQ{p}(h:Good p):IPred p:=fun q hq=>by have:=h q hq;obtain⟨o,s,n,ks⟩:=q;exact yVi this
variable{E:AEnv}(Z:Sys E)
include Z
variable(v:SEnv)(txt:Lin→Str)
set_option maxHeartbeats 4000000 in
theorem yxe(hI:ItoaP E)(hJ:JoinP E)(p):∀q:QS,Good p→p.sz≤1048576→E.C zzr [] (.bx [.ptr 1000 0,.agg (p.cells.map .d)] (bxQ v txt q 2000 2001) QT (.agg (formT p).1.cells) (bxQ v txt (q.note (formT p).2) 2000 2001) QT):=by
 induction p using Pred.ind with
 |h o s n ks ih=>
 intro q ha hz;have hi:=zYQ ha;obtain⟨_,hkk,_,_⟩:=ha.top;have hnm:=zwm Z hI hJ _ hi hz;have hsz:=@zjU o s n ks;refine Z.zzr _ _ ⟨b0l rfl,b0l rfl,rfl,?_⟩;have hvar:∀(L:Lin) (ok:Bool),(L,ok)=varL (nameS (.mk o s n ks))→E.C zzo [] (.bx [.ptr 1000 0,.d (.str (nameS (.mk o s n ks)))] (bxQ v txt q 2000 2001) QT (.agg L.cells) (bxQ v txt (q.note ok) 2000 2001) QT):=by intro L ok h;have:=zWc Z v txt (nameS (.mk o s n ks)) q;rw[←h]at this;exact this
 generalize hN:nameS (.mk o s n ks)=N at*
 generalize hR:formT (.mk o s n ks)=R at*
 obtain⟨L,ok⟩:=R;rw[Pred.zzb (.mk o s n ks)]at hnm⊢;simp only[Pred.op,Pred.name,Pred.n,Pred.kids]at hnm⊢;by_cases h1:o=1
 ·subst h1;obtain rfl:=zYT hkk (by decide);have hR':((⟨[],n⟩:Lin),true)=(L,ok):=by rw[←hR];rfl
  obtain⟨rfl,rfl⟩:=Prod.mk.inj hR';rw[zvE];simp only[zzG,zx0 v txt q,QT,go_sem,Lin.zzb,Int.reduceBEq];exact endQ 2000 2001 rfl rfl rfl rfl rfl rfl
 have e1:(o==1)=false:=by simpa using h1
 by_cases h6:o=6
 ·subst h6;obtain⟨a,b,rfl⟩:=zZE hkk (by decide) (by decide) (by decide) (by decide) (by decide) (by decide) (by decide);rw[formT]at hR;have hR':((addL (formT a).1 (formT b).1).1,(formT a).2&&(formT b).2&&(addL (formT a).1 (formT b).1).2)=(L,ok):=hR;have iha:=ih a (by simp) q (ha.kid (by simp)) (by have:=zYl (ks:=[a,b]) (k:=a) (by simp);omega);have ihb:=ih b (by simp) (q.note (formT a).2) (ha.kid (by simp)) (by have:=zYl (ks:=[a,b]) (k:=b) (by simp);omega);have hadd:=zyK Z (formT a).1 (formT b).1;have hsome:=zwy Z v txt (addL (formT a).1 (formT b).1).1 (addL (formT a).1 (formT b).1).2 ((q.note (formT a).2).note (formT b).2);have hl4:(∀e∈[a.cells,b.cells],e.length=4)=True:=eq_true (by simp[Pred.zzh]);unfold resL at hadd;generalize formT a=A at*
  generalize formT b=B at*
  generalize addL A.1 B.1=S at*
  obtain⟨rfl,rfl⟩:=Prod.mk.inj hR';rw[zvD]at ihb hsome;rw[zvD]at hsome;clear hvar hnm hR hR';simp only[Lin.zzb,mC,mN]at*
  simp only[zzG,zx0 v txt q,QT,go_sem,Int.reduceBEq,lC,lN,mC,mN,hl4];refine callQ2 iha 2000 2001 3000 3001 rfl rfl (by simp only[σQ,go_sem]) rfl rfl rfl rfl rfl rfl rfl rfl rfl ?_;simp only[go_sem,hl4];refine⟨?_,?_⟩;all_goals
   refine callQ2 ihb 3000 3001 3002 3003 rfl rfl (by simp only[σQ,go_sem]) rfl rfl rfl rfl rfl rfl rfl rfl rfl ?_;simp only[go_sem,hl4];refine⟨_,hadd,?_⟩;simp only[go_sem];refine callQ2 hsome 3002 3003 3004 3005 rfl rfl (by simp only[σQ,go_sem]) rfl rfl rfl rfl rfl rfl rfl rfl rfl ?_;simp only[go_sem];exact endQ 3004 3005 rfl rfl rfl rfl rfl rfl
 by_cases h7:o=7
 ·subst h7;obtain⟨a,b,rfl⟩:=zZE hkk (by decide) (by decide) (by decide) (by decide) (by decide) (by decide) (by decide);rw[formT]at hR;have hR':((addL (formT a).1 (scaleL (formT b).1 (-1)).1).1,(formT a).2&&(formT b).2&&(scaleL (formT b).1 (-1)).2&&(addL (formT a).1 (scaleL (formT b).1 (-1)).1).2)=(L,ok):=hR;have iha:=ih a (by simp) q (ha.kid (by simp)) (by have:=zYl (ks:=[a,b]) (k:=a) (by simp);omega);have ihb:=ih b (by simp) (q.note (formT a).2) (ha.kid (by simp)) (by have:=zYl (ks:=[a,b]) (k:=b) (by simp);omega);have hsc:=zxt Z (formT b).1 (-1);have hadd:=zyK Z (formT a).1 (scaleL (formT b).1 (-1)).1;have hsm1:=zwy Z v txt (scaleL (formT b).1 (-1)).1 (scaleL (formT b).1 (-1)).2 ((q.note (formT a).2).note (formT b).2);have hsome:=zwy Z v txt (addL (formT a).1 (scaleL (formT b).1 (-1)).1).1 (addL (formT a).1 (scaleL (formT b).1 (-1)).1).2 (((q.note (formT a).2).note (formT b).2).note (scaleL (formT b).1 (-1)).2);have hl4:(∀e∈[a.cells,b.cells],e.length=4)=True:=eq_true (by simp[Pred.zzh]);unfold resL at hadd hsc;generalize formT a=A at*
  generalize formT b=B at*
  generalize scaleL B.1 (-1)=C at*
  generalize addL A.1 C.1=S at*
  obtain⟨rfl,rfl⟩:=Prod.mk.inj hR';simp only[zvD]at ihb hsome hsm1;clear hvar hnm hR hR';simp only[Lin.zzb,mC,mN]at*
  simp only[zzG,zx0 v txt q,QT,go_sem,Int.reduceBEq,lC,lN,mC,mN,hl4];refine callQ2 iha 2000 2001 3000 3001 rfl rfl (by simp only[σQ,go_sem]) rfl rfl rfl rfl rfl rfl rfl rfl rfl ?_;simp only[go_sem,hl4];refine callQ2 ihb 3000 3001 3002 3003 rfl rfl (by simp only[σQ,go_sem]) rfl rfl rfl rfl rfl rfl rfl rfl rfl ?_;simp only[go_sem,hl4];refine⟨_,hsc,?_⟩;simp only[go_sem];refine⟨?_,?_⟩;all_goals
   refine callQ2 hsm1 3002 3003 3004 3005 rfl rfl (by simp only[σQ,go_sem]) rfl rfl rfl rfl rfl rfl rfl rfl rfl ?_;simp only[go_sem];refine⟨_,hadd,?_⟩;simp only[go_sem];refine callQ2 hsome 3004 3005 3006 3007 rfl rfl (by simp only[σQ,go_sem]) rfl rfl rfl rfl rfl rfl rfl rfl rfl ?_;simp only[go_sem];exact endQ 3006 3007 rfl rfl rfl rfl rfl rfl
 by_cases h8:o=8
 ·subst h8;obtain⟨a,b,rfl⟩:=zZE hkk (by decide) (by decide) (by decide) (by decide) (by decide) (by decide) (by decide);rw[formT]at hR;have hR':((scaleL (formT b).1 a.n).1,(formT b).2&&(scaleL (formT b).1 a.n).2)=(L,ok):=hR;have ihb:=ih b (by simp) q (ha.kid (by simp)) (by have:=zYl (ks:=[a,b]) (k:=b) (by simp);omega);have hsc:=zxt Z (formT b).1 a.n;have hsome:=zwy Z v txt (scaleL (formT b).1 a.n).1 (scaleL (formT b).1 a.n).2 (q.note (formT b).2);have hl4:(∀e∈[[D.int .i64 a.op,.str a.name,.int .i64 a.n,.lst (a.kids.map Pred.cells)],b.cells],e.length=4)=True:=eq_true (by simp[Pred.zzh]);have hac:=Pred.zzb a;unfold resL at hsc;generalize formT b=B at*
  generalize scaleL B.1 a.n=C at*
  obtain⟨rfl,rfl⟩:=Prod.mk.inj hR';simp only[zvD]at hsome;clear hvar hnm hR hR';simp only[Lin.zzb,mC,mN]at*
  simp only[zzG,zx0 v txt q,QT,go_sem,Int.reduceBEq,lC,lN,mC,mN,hac,hl4];refine zWI [(3,3,1)] ?_;simp only[go_sem,hl4,List.contains_cons,cN,Nat.reduceBEq,beq_self_eq_true];refine callQ2 ihb 2000 2001 3000 3001 rfl rfl (by simp only[σQ,go_sem]) rfl rfl rfl rfl rfl rfl rfl rfl rfl ?_;simp only[go_sem,hl4];refine⟨_,hsc,?_⟩;simp only[go_sem];refine callQ2 hsome 3000 3001 3002 3003 rfl rfl (by simp only[σQ,go_sem]) rfl rfl rfl rfl rfl rfl rfl rfl rfl ?_;simp only[go_sem];exact endQ 3002 3003 rfl rfl rfl rfl rfl rfl
 by_cases h9:o=9
 ·subst h9;obtain⟨a,rfl⟩:=zKu hkk (by decide);rw[formT]at hR;have hR':((scaleL (formT a).1 (-1)).1,(formT a).2&&(scaleL (formT a).1 (-1)).2)=(L,ok):=hR;have iha:=ih a (by simp) q (ha.kid (by simp)) (by have:=zYl (ks:=[a]) (k:=a) (by simp);omega);have hsc:=zxt Z (formT a).1 (-1);have hsome:=zwy Z v txt (scaleL (formT a).1 (-1)).1 (scaleL (formT a).1 (-1)).2 (q.note (formT a).2);have hl4:(∀e∈[a.cells],e.length=4)=True:=eq_true (by simp[Pred.zzh]);unfold resL at hsc;generalize formT a=B at*
  generalize scaleL B.1 (-1)=C at*
  obtain⟨rfl,rfl⟩:=Prod.mk.inj hR';simp only[zvD]at hsome;clear hvar hnm hR hR';simp only[Lin.zzb,mC,mN]at*
  simp only[zzG,zx0 v txt q,QT,go_sem,Int.reduceBEq,lC,lN,mC,mN,hl4];refine callQ2 iha 2000 2001 3000 3001 rfl rfl (by simp only[σQ,go_sem]) rfl rfl rfl rfl rfl rfl rfl rfl rfl ?_;simp only[go_sem,hl4];refine⟨_,hsc,?_⟩;simp only[go_sem];refine callQ2 hsome 3000 3001 3002 3003 rfl rfl (by simp only[σQ,go_sem]) rfl rfl rfl rfl rfl rfl rfl rfl rfl ?_;simp only[go_sem];exact endQ 3002 3003 rfl rfl rfl rfl rfl rfl
 have e6:(o==6)=false:=by simpa using h6
 have e7:(o==7)=false:=by simpa using h7
 have e8:(o==8)=false:=by simpa using h8
 have e9:(o==9)=false:=by simpa using h9
 have hR':(L,ok)=varL N:=by
  rw[←hR,←hN];rcases ks with _|⟨a,_|⟨b,_|⟨c,r⟩⟩⟩<;>rw[formT]<;>try simp only[e1,e6,e7,e8,e9,Bool.false_eq_true,if_false]
  all_goals (first|done|simp)
 have hvar:=hvar L ok hR';simp only[Lin.zzb,mC,mN]at*
 simp only[zzG,zx0 v txt q,QT,go_sem,e1,e6,e7,e8,e9];refine⟨_,hnm,?_⟩;simp only[go_sem];refine callQ2 hvar 2000 2001 3000 3001 rfl rfl (by simp only[σQ,go_sem]) rfl rfl rfl rfl rfl rfl rfl rfl rfl ?_;simp only[go_sem];exact endQ 3000 3001 rfl rfl rfl rfl rfl rfl
end Go.Abs
end
section
namespace Go.Abs
def monL:Lin:=⟨[],-1⟩
def QS.take(q:QS)(s:Str):QS:=if q.bools.contains s then q else{q with bools:=q.bools++[s]}
def lessL(s:Str):Lin×Bool:=((addL (varL s).1 monL).1,(varL s).2&&(addL (varL s).1 monL).2)
def negL(s:Str):Lin×Bool:=((scaleL (varL s).1 (-1)).1,(varL s).2&&(scaleL (varL s).1 (-1)).2)
def valueQ(txt:Lin→Str)(s:Str)(q:QS):Pred×QS:=zeroQ txt (lessL s).1 ((q.take s).note (lessL s).2)
def boundQ(txt:Lin→Str)(s:Str)(up:Bool)(q:QS):Pred×QS:=if up then mostQ txt (lessL s).1 (q.note (lessL s).2)else mostQ txt (negL s).1 (q.note (negL s).2)
theorem zVB(q:QS)(s):(q.take s).forms=q.forms:=by unfold QS.take;split<;>rfl
variable{E:AEnv}(Z:Sys E)
include Z
variable(v:SEnv)(txt:Lin→Str)
attribute [local go_sem] AV.toMV MV.av
set_option maxHeartbeats 1000000 in
theorem yjN(hI:ItoaP E)(hT:TextP E txt)(s:Str)(q)(hq:q.forms.length≤1073741824)(hb:q.bools.length≤1073741824):E.C zz5 [] (.bx [.ptr 1000 0,.d (.str s)] (bxQ v txt q 2000 2001) QT (.agg (valueQ txt s q).1.cells) (bxQ v txt (valueQ txt s q).2 2000 2001) QT):=by
 have hvar:=zWc Z v txt s (q.take s);have hadd:=zyK Z (varL s).1 monL;have hsome:=zwy Z v txt (addL (varL s).1 monL).1 (addL (varL s).1 monL).2 ((q.take s).note (varL s).2);have hzero:=yxf Z v txt hI hT (lessL s).1 ((q.take s).note (lessL s).2) (by rw[zva,zVB];exact hq);refine Z.zz5 _ _ ⟨b0l rfl,b0l rfl,rfl,?_⟩;unfold valueQ;rw[zvD]at hsome;have hl2:((varL s).2&&(addL (varL s).1 monL).2)=(lessL s).2:=rfl;rw[hl2]at hsome;have hl1:(addL (varL s).1 monL).1=(lessL s).1:=rfl;unfold resL at hadd;rw[hl1]at hsome hadd;generalize (addL (varL s).1 monL).2=ok2 at*
 generalize lessL s=LL at*
 generalize zeroQ txt LL.1 ((q.take s).note LL.2)=R at*
 obtain⟨P,q4⟩:=R;generalize hq3:(q.take s).note LL.2=q3 at*
 generalize varL s=V at*
 generalize hq2:(q.take s).note V.2=q2 at*
 have hPc:=Pred.zzb P;generalize P.cells=Pc at*
 subst hPc;have ht:=yW2 q.bools s;have htl:=yYe q.bools;unfold QS.take at*
 simp only[Lin.zzb,mC,mN,monL]at*
 simp only[zwL,zx0 v txt q,QT,go_sem,ht];cases hc:q.bools.contains s with
 |true=>rw[hc,if_pos rfl]at hvar;simp only[go_sem];refine callQ2 hvar 2000 2001 3000 3001 rfl rfl (by simp only[σQ,go_sem]) rfl rfl rfl rfl rfl rfl rfl rfl rfl ?_;simp only[go_sem];refine⟨_,hadd,?_⟩;simp only[go_sem];refine callQ2 hsome 3000 3001 3002 3003 rfl rfl (by simp only[σQ,go_sem]) rfl rfl rfl rfl rfl rfl rfl rfl rfl ?_;simp only[go_sem];refine callQ2 hzero 3002 3003 3004 3005 rfl rfl (by simp only[σQ,go_sem]) rfl rfl rfl rfl rfl rfl rfl rfl rfl ?_;simp only[go_sem];exact endQ 3004 3005 rfl rfl rfl rfl rfl rfl
 |false=>
  rw[hc,if_neg (by decide)]at hvar;have o1:(q.bools.length+1)*16≤2^46:=by omega
  have o2:q.bools.length≤9223372036854775806:=by omega
  have o3:q.bools.length<9223372036854775807:=by omega
  have ht1:(∀e∈q.bools.map tcellQ,e.length=1)=True:=eq_true (fun e he=>by obtain⟨q,_,rfl⟩:=List.mem_map.1 he;rfl);simp only[go_sem,htl,o3,lM,o1,o2,ht1];refine⟨fun e he=>by rw[List.mem_singleton.1 he];rfl,?_⟩;refine callQ2 hvar 2000 24 3000 3001 rfl rfl (by simp only[σQ,go_sem]) (by simp only[cellsQ,go_sem,mA];rfl) rfl (by simp only[go_sem,yjJ]) rfl rfl rfl rfl rfl rfl ?_;simp only[go_sem];refine⟨_,hadd,?_⟩;simp only[go_sem];refine callQ2 hsome 3000 3001 3002 3003 rfl rfl (by simp only[σQ,go_sem]) rfl rfl rfl rfl rfl rfl rfl rfl rfl ?_;simp only[go_sem];refine callQ2 hzero 3002 3003 3004 3005 rfl rfl (by simp only[σQ,go_sem]) rfl rfl rfl rfl rfl rfl rfl rfl rfl ?_;simp only[go_sem];exact endQ 3004 3005 rfl rfl rfl rfl rfl rfl
end Go.Abs
end
section
namespace Go.Abs
def diffL(a b:Pred):Lin×Bool:=((addL (formT a).1 (scaleL (formT b).1 (-1)).1).1,(formT a).2&&(formT b).2&&(scaleL (formT b).1 (-1)).2&&(addL (formT a).1 (scaleL (formT b).1 (-1)).1).2)
def cmpQ(txt:Lin→Str)(o:Int)(d:Lin×Bool)(q:QS):Pred×QS:=
 if(q.note d.2).bad then(falseP,q.note d.2)
 else if o==10 then zeroQ txt d.1 (q.note d.2)
 else if o==11 then(negP (zeroQ txt d.1 (q.note d.2)).1,(zeroQ txt d.1 (q.note d.2)).2)
 else if o==13 then mostQ txt d.1 (q.note d.2)
 else belowQ txt d.1 (q.note d.2)
def iffQ(o:Int)(l:List Pred):Pred:=if o==11 then negP (.mk 18 [] 0 l)else .mk 18 [] 0 l
def predQ(v:SEnv)(txt:Lin→Str):Pred→QS→Pred×QS
 |.mk o s n ks,q=>
  if o==2 then(.mk o s n ks,q)
  else if o==3||o==4 then valueQ txt (nameS (.mk o s n ks)) q
  else if o==10||(o==11||(o==12||o==13))then
   if srt v (ks.getD 0 zeroP)==sBool then(iffQ o (go ks q).1,(go ks q).2)else cmpQ txt o (diffL (ks.getD 0 zeroP) (ks.getD 1 zeroP)) q
  else(.mk o [] 0 (go ks q).1,(go ks q).2)
where go:List Pred→QS→List Pred×QS
 |[],q=>([],q)
 |k::ks,q=>((predQ v txt k q).1::(go ks (predQ v txt k q).2).1,(go ks (predQ v txt k q).2).2)
theorem yXr(v)(txt)(x):∀(l) (q),predQ.go v txt (l++[x]) q=((predQ.go v txt l q).1++[(predQ v txt x (predQ.go v txt l q).2).1],(predQ v txt x (predQ.go v txt l q).2).2)
 |[],q=>rfl
 |y::l,q=>by rw[List.cons_append,predQ.go,yXr v txt x l,predQ.go];rfl
structure Grow(q q':QS)(n:Nat):Prop where
 f:q'.forms.length≤q.forms.length+n
 b:q'.bools.length≤q.bools.length+n
theorem Grow.refl(q):Grow q q 0:=⟨Nat.le_refl _,Nat.le_refl _⟩
theorem Grow.trans{a b c m n}(h:Grow a b m)(k:Grow b c n):Grow a c (m+n):=⟨by have:=h.f;have:=k.f;omega,by have:=h.b;have:=k.b;omega⟩
theorem Grow.le{a b m n}(h:Grow a b m)(k:m≤n):Grow a b n:=⟨by have:=h.f;omega,by have:=h.b;omega⟩
theorem yWb(q)(b):Grow q (q.note b) 0:=⟨Nat.le_refl _,Nat.le_refl _⟩
theorem yxr(txt)(d)(q):Grow q (askS txt d q).2 1:=by have:=zWV txt d q;exact⟨this.1,by rw[this.2.2];omega⟩
theorem yzQ(txt)(d)(q):Grow q (zeroQ txt d q).2 1:=by
 unfold zeroQ;split
 ·exact(Grow.refl q).le (by omega)
 ·exact yxr txt d q
theorem yza(txt)(d)(q):Grow q (mostQ txt d q).2 1:=by
 unfold mostQ;split
 ·exact(Grow.refl q).le (by omega)
 ·split<;>exact yxr txt d q
theorem zKW(txt)(d)(q):Grow q (belowQ txt d q).2 1:=by
 unfold belowQ;split
 ·exact(Grow.refl q).le (by omega)
 ·split<;>exact yxr txt d q
theorem yW1(q)(s):Grow q (q.take s) 1:=by
 unfold QS.take;split
 ·exact(Grow.refl q).le (by omega)
 ·exact⟨by simp,by simp⟩
theorem yYh(txt)(s)(q):Grow q (valueQ txt s q).2 1:=by
 unfold valueQ;have h1:=yW1 q s;have h2:=yzQ txt (lessL s).1 ((q.take s).note (lessL s).2);have hf:=zVB q s;have hb:(zeroQ txt (lessL s).1 ((q.take s).note (lessL s).2)).2.bools=(q.take s).bools:=by
  unfold zeroQ;split
  ·rfl
  ·rw[(zWV _ _ _).2.2];rfl
 refine⟨?_,by rw[hb];exact h1.b⟩;have:=h2.f;rw[zva,hf]at this;exact this
theorem yKM(txt)(o)(d)(q):Grow q (cmpQ txt o d q).2 1:=by
 have hn:=yWb q d.2;unfold cmpQ;split
 ·exact hn.le (by omega)
 ·split
  ·exact(hn.trans (yzQ _ _ _)).le (by omega)
  ·split
   ·exact(hn.trans (yzQ _ _ _)).le (by omega)
   ·split
    ·exact(hn.trans (yza _ _ _)).le (by omega)
    ·exact(hn.trans (zKW _ _ _)).le (by omega)
theorem yvZ{v txt}:∀{l} (_:∀k∈l,∀q,Grow q (predQ v txt k q).2 k.cnt) (q),Grow q (predQ.go v txt l q).2 (Pred.cnts l)
 |[],_,q=>Grow.refl q
 |x::l,h,q=>by rw[predQ.go,Pred.cnts];exact(h x (by simp) q).trans (yvZ (fun k hk=>h k (by simp[hk])) _)
theorem zY3(v)(txt)(p):∀q,Grow q (predQ v txt p q).2 p.cnt:=by
 induction p using Pred.ind with
 |h o s n ks ih=>
 intro q;have hgo:=yvZ ih q;rw[predQ,Pred.cnt];split
 ·exact(Grow.refl q).le (by omega)
 ·split
  ·exact(yYh txt _ q).le (by omega)
  ·split
   ·split
    ·exact hgo.le (by omega)
    ·exact(yKM txt o _ q).le (by omega)
   ·exact hgo.le (by omega)
variable{E:AEnv}(Z:Sys E)
include Z
variable(v:SEnv)(txt:Lin→Str)
set_option maxHeartbeats 4000000 in
theorem ywo(hOf:∀p,E.C zzF [.agg v.cells,.agg p.cells] (two (OfS v p)))(hI:ItoaP E)(hJ:JoinP E)(hT:TextP E txt)(o)(s:Str)(n)(a b)(ho:o==10||(o==11||(o==12||o==13)))
  (ih:∀k∈[a,b],∀q:QS,Grow q (predQ v txt k q).2 k.cnt→q.forms.length+k.cnt≤1073741824→q.bools.length+k.cnt≤1073741824→E.C zzq [] (.bx [.ptr 1000 0,.agg (k.cells.map .d)] (bxQ v txt q 2000 2001) QT (.agg (predQ v txt k q).1.cells) (bxQ v txt (predQ v txt k q).2 2000 2001) QT))
  (q) (hga:Good a) (hgb:Good b) (hz:a.sz+b.sz≤1048576) (hf:q.forms.length+(a.cnt+b.cnt+1)≤1073741824) (hb:q.bools.length+(a.cnt+b.cnt+1)≤1073741824):
  E.C zzU [] (.bx [.ptr 1000 0,.agg ((Pred.mk o s n [a,b]).cells.map .d)] (bxQ v txt q 2000 2001) QT (.agg (if srt v a==sBool then(iffQ o (predQ.go v txt [a,b] q).1,(predQ.go v txt [a,b] q).2)else cmpQ txt o (diffL a b) q).1.cells) (bxQ v txt (if srt v a==sBool then(iffQ o (predQ.go v txt [a,b] q).1,(predQ.go v txt [a,b] q).2)else cmpQ txt o (diffL a b) q).2 2000 2001) QT):=by
 have hof:=hOf a;have hl4:(∀e∈[a.cells,b.cells],e.length=4)=True:=eq_true (by simp[Pred.zzh]);refine Z.zzU _ _ ⟨b0l rfl,b0l rfl,rfl,?_⟩;have hpc:(Pred.mk o s n [a,b]).cells=[.int .i64 o,.str s,.int .i64 n,.lst [a.cells,b.cells]]:=by rw[Pred.zzb];rfl
 rw[hpc];unfold srt;generalize OfS v a=S at*
 obtain⟨S1,S2⟩:=S;unfold two at hof;cases hs:(S1==sBool)with
 |true=>
  have hs':(S1==[66,111,111,108])=true:=hs;have ga:=zY3 v txt a q;have iha:=ih a (by simp) q ga (by omega) (by omega);have gb:=zY3 v txt b (predQ v txt a q).2;have ihb:=ih b (by simp) (predQ v txt a q).2 gb (by have:=ga.f;omega) (by have:=ga.b;omega);simp only[predQ.go,if_true];generalize predQ v txt a q=A at*
  obtain⟨Pa,q1⟩:=A;simp only at*
  generalize predQ v txt b q1=B at*
  obtain⟨Pb,q2⟩:=B;simp only at*
  have hop:=zxZ Z 18 Pa Pb;have hnot:=zvu Z (.mk 18 [] 0 [Pa,Pb]);have hnf:Pred.mk 14 [] 0 [.mk 18 [] 0 [Pa,Pb]]=negP (.mk 18 [] 0 [Pa,Pb]):=rfl;rw[hnf]at hnot;unfold iffQ;generalize hI2:Pred.mk 18 [] 0 [Pa,Pb]=I2 at*
  generalize negP I2=N2 at*
  have hca:=Pred.zzb Pa;have hcb:=Pred.zzb Pb;have hci:=Pred.zzb I2;have hcn:=Pred.zzb N2;simp only[SEnv.cells,mC,mN]at*
  simp only[zyQ,zx0 v txt q,QT,go_sem,hl4];refine⟨_,hof,?_⟩;simp only[go_sem,hs',hl4];refine callQ2 iha 2000 2001 3000 3001 rfl rfl (by simp only[σQ,go_sem]) rfl rfl rfl rfl rfl rfl rfl rfl rfl ?_;simp only[go_sem,hl4,hca];refine zWI [(7,0,4)] ?_;simp only[go_sem,hl4,List.contains_cons,cN,Nat.reduceBEq,beq_self_eq_true];refine callQ2 ihb 3000 3001 3002 3003 rfl rfl (by simp only[σQ,go_sem]) rfl rfl rfl rfl rfl rfl rfl rfl rfl ?_;simp only[go_sem,hl4];rw[hca]at hop;rw[hci]at hnot;refine⟨_,hop,?_⟩;simp only[go_sem,hci];cases h11:(o==11)with
  |true=>simp only[go_sem,if_true];refine⟨_,hnot,?_⟩;simp only[go_sem,hcn];exact endQ 3002 3003 rfl rfl rfl rfl rfl rfl
  |false=>simp only[go_sem,if_false,hci];exact endQ 3002 3003 rfl rfl rfl rfl rfl rfl
 |false=>
  have hs':(S1==[66,111,111,108])=false:=hs;simp only[Bool.false_eq_true,if_false];have hA:=yxe Z v txt hI hJ a q hga (by omega);have hB:=yxe Z v txt hI hJ b (q.note (formT a).2) hgb (by omega);have hsc:=zxt Z (formT b).1 (-1);have hadd:=zyK Z (formT a).1 (scaleL (formT b).1 (-1)).1;have hsm1:=zwy Z v txt (scaleL (formT b).1 (-1)).1 (scaleL (formT b).1 (-1)).2 ((q.note (formT a).2).note (formT b).2);have hsome:=zwy Z v txt (addL (formT a).1 (scaleL (formT b).1 (-1)).1).1 (addL (formT a).1 (scaleL (formT b).1 (-1)).1).2 (((q.note (formT a).2).note (formT b).2).note (scaleL (formT b).1 (-1)).2);have hz1:=yxf Z v txt hI hT (diffL a b).1 (q.note (diffL a b).2) (by rw[zva];omega);have hm1:=yYf Z v txt hI hT (diffL a b).1 (q.note (diffL a b).2) (by rw[zva];omega);have hb1:=yjK Z v txt hI hT (diffL a b).1 (q.note (diffL a b).2) (by rw[zva];omega);have htr:=zwI Z false;have hnot:=fun x=>zvu Z x;simp only[zvD]at hB hsm1 hsome;have hD:diffL a b=((addL (formT a).1 (scaleL (formT b).1 (-1)).1).1,(formT a).2&&(formT b).2&&(scaleL (formT b).1 (-1)).2&&(addL (formT a).1 (scaleL (formT b).1 (-1)).1).2):=rfl;generalize diffL a b=D at*
  obtain⟨D1,D2⟩:=D;obtain⟨hD1,hD2⟩:=Prod.mk.inj hD;rw[←hD2]at hsome;unfold resL at hadd hsc;rw[←hD1]at hsome hadd;generalize formT a=FA at*
  generalize formT b=FB at*
  generalize scaleL FB.1 (-1)=SB at*
  generalize (addL FA.1 SB.1).2=ok4 at*
  clear hD hD1 hD2;unfold cmpQ;simp only
  generalize q.note D2=q3 at*
  generalize zeroQ txt D1 q3=Rz at*
  generalize mostQ txt D1 q3=Rm at*
  generalize belowQ txt D1 q3=Rb at*
  obtain⟨Pz,qz⟩:=Rz;obtain⟨Pm,qm⟩:=Rm;obtain⟨Pb,qb⟩:=Rb;have hnot:=hnot Pz;have hnf:Pred.mk 14 [] 0 [Pz]=negP Pz:=rfl;rw[hnf]at hnot;generalize negP Pz=N2 at*
  have hcz:=Pred.zzb Pz;have hcm:=Pred.zzb Pm;have hcb:=Pred.zzb Pb;have hcn:=Pred.zzb N2;generalize q.note FA.2=qa at*
  generalize q.note (FA.2&&FB.2)=qab at*
  generalize q.note (FA.2&&FB.2&&SB.2)=qabs at*
  simp only[SEnv.cells,mC,mN,Lin.zzb]at*
  rw[hcz]at hnot;simp only[zyQ,zx0 v txt q,QT,go_sem,hl4];refine⟨_,hof,?_⟩;simp only[go_sem,hs',hl4];refine callQ2 hA 2000 2001 3000 3001 rfl rfl (by simp only[σQ,go_sem]) rfl rfl rfl rfl rfl rfl rfl rfl rfl ?_;simp only[go_sem,hl4];refine callQ2 hB 3000 3001 3002 3003 rfl rfl (by simp only[σQ,go_sem]) rfl rfl rfl rfl rfl rfl rfl rfl rfl ?_;simp only[go_sem,hl4];refine zWI [(9,0,2)] ?_;simp only[go_sem,hl4,List.contains_cons,cN,Nat.reduceBEq,beq_self_eq_true];refine⟨_,hsc,?_⟩;simp only[go_sem];refine callQ2 hsm1 3002 3003 3004 3005 rfl rfl (by simp only[σQ,go_sem]) rfl rfl rfl rfl rfl rfl rfl rfl rfl ?_;simp only[go_sem];refine⟨_,hadd,?_⟩;simp only[go_sem];refine callQ2 hsome 3004 3005 3006 3007 rfl rfl (by simp only[σQ,go_sem]) rfl rfl rfl rfl rfl rfl rfl rfl rfl ?_;simp only[go_sem,cellsQ];cases hbad:q3.bad with
  |true=>simp only[go_sem,if_true];refine⟨_,htr,?_⟩;simp only[go_sem,if_true,if_false];exact endQ 3006 3007 rfl rfl rfl rfl rfl rfl
  |false=>
   simp only[go_sem,if_false];cases h10:(o==10)with
   |true=>simp only[go_sem,if_true];refine callQ2 hz1 3006 3007 3008 3009 rfl rfl (by simp only[σQ,go_sem]) rfl rfl rfl rfl rfl rfl rfl rfl rfl ?_;simp only[go_sem,hcz];exact endQ 3008 3009 rfl rfl rfl rfl rfl rfl
   |false=>
   simp only[go_sem,if_false];cases h11:(o==11)with
   |true=>simp only[go_sem,if_true];refine callQ2 hz1 3006 3007 3008 3009 rfl rfl (by simp only[σQ,go_sem]) rfl rfl rfl rfl rfl rfl rfl rfl rfl ?_;simp only[go_sem,hcz];refine⟨_,hnot,?_⟩;simp only[go_sem,hcn];exact endQ 3008 3009 rfl rfl rfl rfl rfl rfl
   |false=>
   simp only[go_sem,if_false];cases h13:(o==13)with
   |true=>simp only[go_sem,if_true];refine callQ2 hm1 3006 3007 3008 3009 rfl rfl (by simp only[σQ,go_sem]) rfl rfl rfl rfl rfl rfl rfl rfl rfl ?_;simp only[go_sem,hcm];exact endQ 3008 3009 rfl rfl rfl rfl rfl rfl
   |false=>simp only[go_sem,if_false];refine callQ2 hb1 3006 3007 3008 3009 rfl rfl (by simp only[σQ,go_sem]) rfl rfl rfl rfl rfl rfl rfl rfl rfl ?_;simp only[go_sem,hcb];exact endQ 3008 3009 rfl rfl rfl rfl rfl rfl
end Go.Abs
end
section
namespace Go.Abs
theorem yxZ(l):l.length≤Pred.cnts l:=by
 induction l with
 |nil=>exact Nat.zero_le _
 |cons x a iha=>
  rw[Pred.cnts,lC];have:1≤x.cnt:=by obtain⟨_,_,_,_⟩:=x;rw[Pred.cnt];omega
  omega
theorem zWZ(a b):Pred.cnts (a++b)=Pred.cnts a+Pred.cnts b:=by
 induction a with
 |nil=>simp[Pred.cnts]
 |cons x a ih=>rw[List.cons_append,Pred.cnts,Pred.cnts,ih];omega
theorem yvW(v)(txt):∀(l) (q),(predQ.go v txt l q).1.length=l.length
 |[],q=>rfl
 |x::l,q=>by rw[predQ.go,lC,lC,yvW v txt l]
variable{E:AEnv}(Z:Sys E)
include Z
variable(v:SEnv)(txt:Lin→Str)
set_option maxHeartbeats 4000000 in
theorem yzL(hOf:∀p,E.C zzF [.agg v.cells,.agg p.cells] (two (OfS v p)))(hI:ItoaP E)(hJ:JoinP E)(hT:TextP E txt)(p):∀q:QS,Good p→p.sz≤1048576→q.forms.length+p.cnt≤1073741824→q.bools.length+p.cnt≤1073741824→
  E.C zzq [] (.bx [.ptr 1000 0,.agg (p.cells.map .d)] (bxQ v txt q 2000 2001) QT (.agg (predQ v txt p q).1.cells) (bxQ v txt (predQ v txt p q).2 2000 2001) QT):=by
 induction p using Pred.ind with
 |h o s n ks ih=>
 intro q ha hz hf hb;have hi:=zYQ ha;obtain⟨_,hkk,_,_⟩:=ha.top;have hsz:=@zjU o s n ks;have hnm:=zwm Z hI hJ _ hi hz;have hcn:(Pred.mk o s n ks).cnt=Pred.cnts ks+1:=by rw[Pred.cnt]
 have hval:=yjN Z v txt hI hT (nameS (.mk o s n ks)) q (by omega) (by omega);refine Z.zzq _ _ ⟨b0l rfl,b0l rfl,rfl,?_⟩;have hpc:(Pred.mk o s n ks).cells=[.int .i64 o,.str s,.int .i64 n,.lst (ks.map Pred.cells)]:=by rw[Pred.zzb];rfl
 have hP:predQ v txt (.mk o s n ks) q=if o==2 then(.mk o s n ks,q)
  else if o==3||o==4 then valueQ txt (nameS (.mk o s n ks)) q
  else if o==10||(o==11||(o==12||o==13))then
   if srt v (ks.getD 0 zeroP)==sBool then(iffQ o (predQ.go v txt ks q).1,(predQ.go v txt ks q).2)else cmpQ txt o (diffL (ks.getD 0 zeroP) (ks.getD 1 zeroP)) q
  else(.mk o [] 0 (predQ.go v txt ks q).1,(predQ.go v txt ks q).2):=by rw[predQ]
 rw[hpc]at hnm;generalize hN:nameS (.mk o s n ks)=N at*
 cases c2:(o==2)with
 |true=>rw[hP,c2,if_pos rfl];rw[hpc];simp only[zzD,zx0 v txt q,QT,go_sem,c2];exact endQ 2000 2001 rfl rfl rfl rfl rfl rfl
 |false=>
 rw[c2,if_neg (by decide)]at hP;cases c34:(o==3||o==4)with
 |true=>
  rw[hP,c34,if_pos rfl];rw[hpc];generalize valueQ txt N q=R at*
  obtain⟨P,q1⟩:=R;have hPc:=Pred.zzb P;cases c3:(o==3)with
  |true=>simp only[zzD,zx0 v txt q,QT,go_sem,c2,c3];refine⟨_,hnm,?_⟩;simp only[go_sem];refine callQ2 hval 2000 2001 3000 3001 rfl rfl (by simp only[σQ,go_sem]) rfl rfl rfl rfl rfl rfl rfl rfl rfl ?_;simp only[go_sem,hPc];exact endQ 3000 3001 rfl rfl rfl rfl rfl rfl
  |false=>
   have c4:(o==4)=true:=by simpa[c3]using c34
   simp only[zzD,zx0 v txt q,QT,go_sem,c2,c3,c4];refine⟨_,hnm,?_⟩;simp only[go_sem];refine callQ2 hval 2000 2001 3000 3001 rfl rfl (by simp only[σQ,go_sem]) rfl rfl rfl rfl rfl rfl rfl rfl rfl ?_;simp only[go_sem,hPc];exact endQ 3000 3001 rfl rfl rfl rfl rfl rfl
 |false=>
 rw[c34,if_neg (by decide)]at hP;obtain⟨c3,c4⟩:=Bool.or_eq_false_iff.1 c34;cases cc:(o==10||(o==11||(o==12||o==13)))with
 |true=>
  rw[cc,if_pos rfl]at hP;have hor:o=10∨o=11∨o=12∨o=13:=by simpa using cc
  obtain⟨a,b,rfl⟩:=zZE hkk (by omega) (by omega) (by omega) (by omega) (by omega) (by omega) (by omega);have hcab:Pred.cnts [a,b]=a.cnt+b.cnt:=by simp[Pred.cnts]
  have hsab:Pred.szs [a,b]=a.sz+b.sz:=by simp[Pred.szs]
  have hcmp:=ywo Z v txt hOf hI hJ hT o s n a b cc (fun k hk q _ h1 h2=>ih k hk q (ha.kid hk) (by have:=zYl hk;omega) h1 h2) q (ha.kid (by simp)) (ha.kid (by simp)) (by omega) (by omega) (by omega);have hP2:predQ v txt (.mk o s n [a,b]) q=if srt v a==sBool then(iffQ o (predQ.go v txt [a,b] q).1,(predQ.go v txt [a,b] q).2)else cmpQ txt o (diffL a b) q:=hP
  rw[←hP2]at hcmp;rw[hpc]at hcmp⊢;generalize predQ v txt (.mk o s n [a,b]) q=R at*
  obtain⟨P,q1⟩:=R;have hPc:=Pred.zzb P;clear hP hP2 hval;simp only[mC,mN]at hcmp⊢;rcases hor with rfl|rfl|rfl|rfl;all_goals
   simp only[zzD,zx0 v txt q,QT,go_sem,Int.reduceBEq];refine callQ2 hcmp 2000 2001 3000 3001 rfl rfl (by simp only[σQ,go_sem]) rfl rfl rfl rfl rfl rfl rfl rfl rfl ?_;simp only[go_sem,hPc];exact endQ 3000 3001 rfl rfl rfl rfl rfl rfl
 |false=>
 rw[cc,if_neg (by decide)]at hP;have e10:(o==10)=false:=by simp at cc⊢;omega
 have e11:(o==11)=false:=by simp at cc⊢;omega
 have e12:(o==12)=false:=by simp at cc⊢;omega
 have e13:(o==13)=false:=by simp at cc⊢;omega
 rw[hP,hpc];clear hP hval hnm;simp only[zzD,zx0 v txt q,QT,go_sem,c2,c3,c4,e10,e11,e12,e13];intro hlen;refine zyb fun K hK=>?_;refine zzg ks (fun _=>True) (fun done rest=>⟨[(34,.d (.int .i64 done.length)),(33,.d (.int .i64 ks.length)),(32,.d (.lst (ks.map Pred.cells))),(0,.ptr 1000 0),(4,.ptr 4 0),(5,.ptr 5 0)],
  (5,[.d (.int .i64 o),.d (.str []),.d (.int .i64 0),.own 5 4 ((predQ.go v txt done q).1.map Pred.cells)])::(4,[.d (.int .i64 0),.d (.str []),.d (.int .i64 0),.full []])::bxQ v txt (predQ.go v txt done q).2 2000 2001,[(5,true),(2000,true),(2001,true)]⟩) ?_ trivial ?_ ?_
 ·refine zwG 5 3 5 4 _ [] [(5,5),(2000,2000),(2001,2001)] (by simp only[go_sem];rfl) rfl (by simp) (by simp only[go_sem]) ?_;simp only[Ent0,go_sem,predQ.go,zx0 v txt q,List.contains_cons,cN,oS,Nat.reduceBEq,nZ]
 ·intro done k r hl _;have hkm:k∈ks:=by rw[hl];simp
  have hlt:=zzn hl;have hw:IntKind.i64.wrap ((done.length:Int)+1)=((done.length+1:Nat):Int):=zzf (by omega);have hgk:=zzz hl;have hcs:Pred.cnts ks=Pred.cnts done+(k.cnt+Pred.cnts r):=by rw[hl,zWZ,Pred.cnts]
  have hg:=yvZ (v:=v) (txt:=txt) (l:=done) (fun k _ q=>zY3 v txt k q) q;have hgl:=yvW v txt done q;have hdl:=yxZ done;have hk':=ih k hkm (predQ.go v txt done q).2 (ha.kid hkm) (by have:=zYl hkm;omega) (by have:=hg.f;omega) (by have:=hg.b;omega);rw[yXr];generalize predQ.go v txt done q=Dn at*
  obtain⟨dp,dq⟩:=Dn;simp only at hk' hgl⊢;generalize predQ v txt k dq=Kn at*
  obtain⟨kp,kq⟩:=Kn;simp only at hk'⊢;have o1:(dp.length+1)*56≤2^46:=by omega
  have o2:dp.length≤9223372036854775806:=by omega
  have ht2:=Pred.zyR dp;simp only[zyk,go_sem,hgk,hlt,lM,zx0 v txt dq,Pred.zzh];refine⟨?_,?_⟩;all_goals
   refine callQ2 hk' 2000 2001 3000 3001 rfl rfl (by simp only[σQ,go_sem]) rfl rfl rfl rfl rfl rfl rfl rfl rfl ?_;simp only[go_sem,Pred.zzh,lM,o1,o2,ht2,hw,lA,List.mem_singleton,forall_eq];refine zzk [(5,44),(2000,3000),(2001,3001)] ?_;simp only[go_sem,zx0 v txt kq,yYL v txt kq,List.contains_cons,cN,oS,Nat.reduceBEq,mA,mC,mN,lA]
 ·intro _;generalize predQ.go v txt ks q=Dn at*
  obtain⟨dp,dq⟩:=Dn;simp only[zyk,go_sem,hK,zx0 v txt dq];exact⟨by rw[Pred.zzb];rfl,endQ (q:=dq) 2000 2001 rfl rfl rfl rfl rfl rfl⟩
end Go.Abs
end
section
namespace Go.Abs
def cellsG(v:SEnv)(q:QS)(a b s1 s2:Nat):List AV:=[.d (.lst (v.vars.map SVar.cells)),.d (.lst (v.syms.map SSym.cells)),.d (.lst (v.holes.map SHole.cells)),.mref s1,.own a 2 (q.forms.map Lin.cells),.own b 1 (q.bools.map tcellQ),.mref s2,.d (.bool q.bad)]
def bxG(v:SEnv)(txt:Lin→Str)(q:QS)(a b s0 s1 s2:Nat):Mem:=[(s0,cellsG v q a b s1 s2),(s1,[.mp zzN zxk (idxM txt q.forms)]),(s2,[.mp zzN zyY (takenM q.bools)])]
def bxE(v:SEnv)(txt:Lin→Str)(q:QS)(ps:List Pred)(a b c s7 s8 s9 s0 s1 s2:Nat):Mem:=
 (s7,[.ptr s0 0])::(s8,[.own c 4 (ps.map Pred.cells)])::(s9,[.clo zzy [.ptr s7 0,.ptr s8 0,.ptr s9 0]])::bxG v txt q a b s0 s1 s2
def ET:List (Nat×Bool):=[(2000,true),(2001,true),(2002,true)]
theorem renE{v txt q ps a b c s7 s8 s9 s0 s1 s2}:renMem [(1007,s7),(1008,s8),(1009,s9),(1000,s0),(1001,s1),(1002,s2)] [(2000,a),(2001,b),(2002,c)] (bxE v txt q ps 2000 2001 2002 1007 1008 1009 1000 1001 1002)=bxE v txt q ps a b c s7 s8 s9 s0 s1 s2:=by
 simp only[bxE,bxG,cellsG,renMem,getTM,Option.getD_some,mC,mN,AV.ren1,AV.ren0,Nat.reduceEqDiff,if_true,if_false]
theorem okE{v txt q q' ps ps' st ls a b c a' b' c' s7 s8 s9 s0 s1 s2}
  (h7:getM st.mem s7=some [.ptr s0 0]) (h8:getM st.mem s8=some [.own c 4 (ps.map Pred.cells)]) (h9:getM st.mem s9=some [.clo zzy [.ptr s7 0,.ptr s8 0,.ptr s9 0]])
  (h0:getM st.mem s0=some (cellsG v q a b s1 s2)) (h1:getM st.mem s1=some [.mp zzN zxk (idxM txt q.forms)]) (h2:getM st.mem s2=some [.mp zzN zyY (takenM q.bools)])
  (ha:getT st.tk a=some true) (hb:getT st.tk b=some true) (hc:getT st.tk c=some true) (hn:noTwice [a,b,c]=true)
  (ha':getT st.tk a'=none) (hb':getT st.tk b'=none) (hc':getT st.tk c'=none) (hn':noTwice [a',b',c']=true) (hs:noTwice [s7,s8,s9,s0,s1,s2]=true):
  okB st [.d (.lst ls),.ptr s7 0,.ptr s8 0,.ptr s9 0] ⟨[(1007,s7),(1008,s8),(1009,s9),(1000,s0),(1001,s1),(1002,s2)],[(2000,a),(2001,b),(2002,c)],[(2000,a'),(2001,b'),(2002,c')],[.d (.lst ls),.ptr 1007 0,.ptr 1008 0,.ptr 1009 0],
   bxE v txt q ps 2000 2001 2002 1007 1008 1009 1000 1001 1002,bxE v txt q' ps' 2000 2001 2002 1007 1008 1009 1000 1001 1002,.tup []⟩:=by
 simp only[okB];refine⟨?_,?_,?_,?_⟩
 ·simp only[go_sem]
 ·simp only[bxE,bxG,MatchMem,h7,h8,h9,h0,h1,h2,cellsG];simp only[go_sem,Match0s,Match0]
 ·have hn2:=hn;simp only[noTwice,List.contains_cons,cN,Bool.or_false,Bool.and_true,Bool.and_eq_true,Bool.not_eq_true',Bool.or_eq_false_iff,beq_eq_false_iff_ne,ne_eq,Bool.not_false]at hn2;have hba:(b==a)=false:=by rw[beq_eq_false_iff_ne];exact fun e=>hn2.1.1 e.symm
  have hca:(c==a)=false:=by rw[beq_eq_false_iff_ne];exact fun e=>hn2.1.2 e.symm
  have hcb:(c==b)=false:=by rw[beq_eq_false_iff_ne];exact fun e=>hn2.2 e.symm
  simp only[mpOk,ha,hb,hc,List.contains_cons,cN,hba,hca,hcb,Bool.or_false,and_self]
 ·simp only[mC,mN,hs,hn,hn'];simp only[bxE,bxG,cellsG,go_sem,ha',hb',hc',List.contains_cons,cN,Nat.reduceBEq,List.mem_cons,List.not_mem_nil,or_false,forall_eq_or_imp,forall_eq,List.all_cons,List.all_nil]
theorem endE{v txt q ps st}(a b c)(h7:getM st.mem 1007=some [.ptr 1000 0])(h8:getM st.mem 1008=some [.own c 4 (ps.map Pred.cells)])(h9:getM st.mem 1009=some [.clo zzy [.ptr 1007 0,.ptr 1008 0,.ptr 1009 0]])
  (h0:getM st.mem 1000=some (cellsQ v q a b)) (h1:getM st.mem 1001=some [.mp zzN zxk (idxM txt q.forms)]) (h2:getM st.mem 1002=some [.mp zzN zyY (takenM q.bools)])
  (ha:getT st.tk a=some true) (hb:getT st.tk b=some true) (hc:getT st.tk c=some true) (hn:noTwice [a,b,c]=true):Ent st ⟨[],bxE v txt q ps 2000 2001 2002 1007 1008 1009 1000 1001 1002,ET⟩:=by
 have hn2:=hn;simp only[noTwice,List.contains_cons,cN,Bool.or_false,Bool.and_true,Bool.and_eq_true,Bool.not_eq_true',Bool.or_eq_false_iff,beq_eq_false_iff_ne,ne_eq,Bool.not_false]at hn2;have hba:(b==a)=false:=by rw[beq_eq_false_iff_ne];exact fun e=>hn2.1.1 e.symm
 have hca:(c==a)=false:=by rw[beq_eq_false_iff_ne];exact fun e=>hn2.1.2 e.symm
 have hcb:(c==b)=false:=by rw[beq_eq_false_iff_ne];exact fun e=>hn2.2 e.symm
 refine zzk [(2000,a),(2001,b),(2002,c)] ?_;simp only[bxE,bxG,cellsG,cellsQ,ET]at h0⊢;simp only[go_sem,h7,h8,h9,h0,h1,h2,ha,hb,hc,hba,hca,hcb,List.contains_cons,cN,oS]
theorem yXm{v txt q c d k m}(h:1002<k):getM (bxQ v txt q c d++m) k=getM m k:=by
 have h0:¬1000=k:=by omega
 have h1:¬1001=k:=by omega
 have h2:¬1002=k:=by omega
 simp only[bxQ,List.cons_append,List.nil_append,getM,h0,h1,h2,if_false]
attribute [go_sem] yXm
def eachQ(v:SEnv)(txt:Lin→Str):List Pred→List Pred→QS→List Pred×QS
 |[],ps,q=>(ps,q)
 |k::ks,ps,q=>if q.bad then(ps,q)else eachQ v txt ks (ps++[(predQ v txt k q).1]) (predQ v txt k q).2
variable{E:AEnv}(Z:Sys E)
include Z
variable(v:SEnv)(txt:Lin→Str)
set_option maxHeartbeats 4000000 in
theorem zWP(hOf:∀p,E.C zzF [.agg v.cells,.agg p.cells] (two (OfS v p)))(hI:ItoaP E)(hJ:JoinP E)(hT:TextP E txt)(l):∀(ps) (q),(∀p∈l,Good p∧p.sz≤1048576)→q.forms.length+Pred.cnts l≤1073741824→q.bools.length+Pred.cnts l≤1073741824→ps.length+l.length≤1073741824→
  E.C zzy [] (.bx [.d (.lst (l.map Pred.cells)),.ptr 1007 0,.ptr 1008 0,.ptr 1009 0] (bxE v txt q ps 2000 2001 2002 1007 1008 1009 1000 1001 1002) ET (.tup []) (bxE v txt (eachQ v txt l ps q).2 (eachQ v txt l ps q).1 2000 2001 2002 1007 1008 1009 1000 1001 1002) ET):=by
 have hbx:∀(q:QS) (ps:List Pred),bxE v txt q ps 2000 2001 2002 1007 1008 1009 1000 1001 1002=(1007,[.ptr 1000 0])::(1008,[.own 2002 4 (ps.map Pred.cells)])::(1009,[.clo zzy [.ptr 1007 0,.ptr 1008 0,.ptr 1009 0]])::[(1000,[.d (.lst (v.vars.map SVar.cells)),.d (.lst (v.syms.map SSym.cells)),.d (.lst (v.holes.map SHole.cells)),.mref 1001,.own 2000 2 (q.forms.map Lin.cells),.own 2001 1 (q.bools.map tcellQ),.mref 1002,.d (.bool q.bad)]),(1001,[.mp zzN zxk (idxM txt q.forms)]),(1002,[.mp zzN zyY (takenM q.bools)])]:=fun _ _=>rfl;induction l with
 |nil=>intro ps q _ _ _ _;refine Z.zzy _ _ ⟨b0l rfl,b0l rfl,rfl,?_⟩;have h0:decide (((0:Nat):Int)>0)=false:=rfl;have h1:decide ((0:Int)>0)=false:=rfl;rw[eachQ];simp only[zxG,hbx q ps,ET,go_sem,h0,h1];exact endE (q:=q) (ps:=ps) 2000 2001 2002 rfl rfl rfl rfl rfl rfl rfl rfl rfl rfl
 |cons k ks ih=>
  intro ps q hg hf hb hp;have hcs:Pred.cnts (k::ks)=k.cnt+Pred.cnts ks:=by rw[Pred.cnts]
  have hk1:=hg k (by simp);have hpr:=yzL Z v txt hOf hI hJ hT k q hk1.1 hk1.2 (by omega) (by omega);have hgr:=zY3 v txt k q;have ih':=ih (ps++[(predQ v txt k q).1]) (predQ v txt k q).2 (fun p hp=>hg p (by simp[hp])) (by have:=hgr.f;omega) (by have:=hgr.b;omega) (by simp at hp⊢;omega);refine Z.zzy _ _ ⟨b0l rfl,b0l rfl,rfl,?_⟩;generalize hR:eachQ v txt (k::ks) ps q=R at*
  obtain⟨ps1,q1⟩:=R;rw[eachQ]at hR;have hpos:decide (((ks.length+1:Nat):Int)>0)=true:=by simp<;>omega
  have hlen4:(∀e∈(k::ks).map Pred.cells,e.length=4)=True:=Pred.zyR (k::ks);rw[mC]at hlen4⊢;obtain⟨qf,qb,qx⟩:=q;cases qx with
  |true=>rw[if_pos rfl]at hR;obtain⟨rfl,rfl⟩:=Prod.mk.inj hR;simp only[zxG,hbx ⟨qf,qb,true⟩ ps,ET,go_sem,lM,hpos];intro _;exact endE (q:=⟨qf,qb,true⟩) (ps:=ps) 2000 2001 2002 rfl rfl rfl rfl rfl rfl rfl rfl rfl rfl
  |false=>
   simp only[Bool.false_eq_true,if_false]at hR;rw[hR]at ih';generalize predQ v txt k ⟨qf,qb,false⟩=Kq at*
   obtain⟨kp,kq⟩:=Kq;simp only at*
   have hkc:=Pred.zzb kp;have o1:(ps.length+1)*56≤2^46:=by simp at hp;omega
   have o2:ps.length≤9223372036854775806:=by simp at hp;omega
   have o3:(1:Int)≤((ks.length+1:Nat):Int):=by omega
   have ht2:=Pred.zyR ps;simp only[zxG,hbx ⟨qf,qb,false⟩ ps,ET,go_sem,lM,hpos];intro hlen;refine zWI [(1008,0,1)] ?_;simp only[go_sem,hlen4,List.contains_cons,cN,Nat.reduceBEq,beq_self_eq_true];refine⟨by omega,?_⟩;refine callQ2 hpr 2000 2001 3000 3001 rfl rfl (by simp only[σQ,go_sem]) rfl rfl rfl rfl rfl rfl rfl rfl rfl ?_;simp only[go_sem,hlen4,lM,o1,o2,ht2,hkc,yYL v txt kq 3000 3001,o3];have hcell:(ps++[kp]).map Pred.cells=ps.map Pred.cells++[[.int .i64 kp.op,.str kp.name,.int .i64 kp.n,.lst (kp.kids.map Pred.cells)]]:=by rw[mA,mC,mN,hkc]
   refine⟨⟨?_,?_⟩,?_⟩;all_goals
    refine yj0 ⟨[(1007,1007),(1008,1008),(1009,1009),(1000,1000),(1001,1001),(1002,1002)],[(2000,3000),(2001,3001),(2002,23)],[(2000,3002),(2001,3003),(2002,3004)],[.d (.lst (ks.map Pred.cells)),.ptr 1007 0,.ptr 1008 0,.ptr 1009 0],bxE v txt kq (ps++[kp]) 2000 2001 2002 1007 1008 1009 1000 1001 1002,bxE v txt q1 ps1 2000 2001 2002 1007 1008 1009 1000 1001 1002,.tup []⟩ ih' rfl rfl (okE rfl (by rw[hcell];rfl) rfl rfl rfl rfl rfl rfl rfl rfl rfl rfl rfl rfl rfl) ?_;simp only[go_sem,renE];exact endE (q:=q1) (ps:=ps1) 3002 3003 3004 rfl rfl rfl rfl rfl rfl rfl rfl rfl rfl
end Go.Abs
end
section
namespace Go.Abs
theorem yXt{o}{s:Str}{n ks}(h:Pred.err (.mk o s n ks)=0):s.length≤120:=by
 have h':nodeE o s n ks=0:=h;unfold nodeE at h';by_cases c1:(decide (o<1)||decide (o>18)||!s==[]&&!isOpNamed o||n !=0&&!(o==1||o==2)||!kidsOk o ks.length)=true
 ·rw[if_pos c1]at h';cases h'
 ·rw[if_neg c1]at h';by_cases c2:(o==1&&!inRange n||o==2&&(decide (n<0)||decide (n>1)))=true
  ·rw[if_pos c2]at h';cases h'
  ·rw[if_neg c2]at h';by_cases c3:(!calledOk o s)=true
   ·rw[if_pos c3]at h';cases h'
   ·have h3:calledOk o s=true:=by simpa using c3
    have hcore:isCore s=true→s.length≤120:=by intro hc;unfold isCore at hc;simp only[Bool.and_eq_true,Bool.not_eq_true',decide_eq_false_iff_not]at hc;omega
    unfold calledOk at h3;by_cases e3:(o==3)=true
    ·rw[if_pos e3]at h3;rcases Bool.or_eq_true_iff.1 h3 with h|h
     ·rw[beq_iff_eq.1 h];decide
     ·exact hcore h
    ·rw[if_neg e3]at h3;by_cases e4:(o==4)=true
     ·rw[if_pos e4]at h3;rcases Bool.or_eq_true_iff.1 h3 with h|h
      ·rcases Bool.or_eq_true_iff.1 h with h|h
       ·rw[beq_iff_eq.1 h];decide
       ·rw[beq_iff_eq.1 h];decide
      ·exact hcore h
     ·rw[if_neg e4]at h3;by_cases e5:(o==5)=true
      ·rw[if_pos e5]at h3;exact hcore h3
      ·have:s=[]:=by
         have hn:isOpNamed o=false:=by simp only[isOpNamed,e3,e4,e5,Bool.or_self]
         simp only[Bool.or_eq_true,not_or,Bool.and_eq_true,not_and]at c1;have:=c1.1.1.2;rw[hn]at this;by_cases hs:s=[]
         ·exact hs
         ·exact absurd rfl (this (by simpa using hs))
       rw[this];simp
theorem zjH(o)(s:Str)(n)(ks):Pred.mk o s n ks∈(Pred.mk o s n ks).pre:=by rw[Pred.zjG];simp
theorem yXu(p):Good p→p.sz≤125*p.cnt:=by
 induction p using Pred.ind with
 |h o s n ks ih=>
 intro hg;have hs:=yXt (o:=o) (s:=s) (n:=n) (ks:=ks) (hg _ (zjH o s n ks));have:Pred.szs ks≤125*Pred.cnts ks:=by
  have:∀l:List Pred,(∀k∈l,k.sz≤125*k.cnt)→Pred.szs l≤125*Pred.cnts l:=by
   intro l;induction l with
   |nil=>intro _;simp[Pred.szs,Pred.cnts]
   |cons k l ih2=>intro h;have h1:=h k (by simp);have h2:=ih2 fun x hx=>h x (by simp[hx]);rw[Pred.szs,Pred.cnts];omega
  exact this ks fun k hk=>ih k hk (hg.kid hk)
 have hz:=@zjU o s n ks;rw[Pred.cnt];omega
theorem yYU(l)(x):Pred.cnts (l++[x])=Pred.cnts l+x.cnt:=by rw[zWZ];simp[Pred.cnts]
theorem snocI{α:Type}{P:List α→Prop}(h0:P [])(h:∀l x,P l→P (l++[x])):∀l,P l:=by
 intro l;have:∀n,∀l:List α,l.length=n→P l:=by
  intro n;induction n with
  |zero=>intro l hl;rw[List.length_eq_zero_iff.1 hl];exact h0
  |succ n ih=>
   intro l hl;rcases zWw l with rfl|⟨d,y,rfl⟩
   ·exact h0
   ·exact h d y (ih d (by simpa using hl))
 exact this _ l rfl
theorem yv0{o}{s:Str}{n ks}(h:nodeE o s n ks=0)(hk:∀k∈ks,Good k):Good (.mk o s n ks):=AllN.mk h hk
theorem yXv:Good trueP:=yv0 (by decide) (by simp)
theorem yZv:Good falseP:=yv0 (by decide) (by simp)
theorem zJL{o a b}(ho:10≤o∧o≤13∨15≤o∧o≤18)(ha:Good a)(hb:Good b):Good (.mk o [] 0 [a,b]):=by
 refine yv0 ?_ (by simp only[List.mem_cons,List.not_mem_nil,or_false,forall_eq_or_imp,forall_eq];exact⟨ha,hb⟩);have:o=10∨o=11∨o=12∨o=13∨o=15∨o=16∨o=17∨o=18:=by omega
 rcases this with rfl|rfl|rfl|rfl|rfl|rfl|rfl|rfl<;>rfl
theorem yKr:∀l:List Pred,(∀x∈l,Good x)→Good (andGo l).1∧(andGo l).1.cnt≤Pred.cnts l+l.length+1:=by
 refine snocI (fun _=>⟨yXv,by decide⟩) fun l x ih h=>?_;obtain⟨h1,h2⟩:=ih fun y hy=>h y (by simp[hy]);have hx:=h x (by simp);rw[zqJ,yYU,lA];unfold andStp;split
 ·exact⟨h1,by simp;omega⟩
 ·split
  ·refine⟨zJL (.inr ⟨by decide,by decide⟩) h1 hx,?_⟩;show Pred.cnt (.mk 15 [] 0 [_,_])≤_;rw[Pred.cnt];simp only[Pred.cnts,List.length_singleton];omega
  ·exact⟨hx,by simp;omega⟩
theorem yJX{l}(h:∀x∈l,Good x):Good (andP l)∧(andP l).cnt≤Pred.cnts l+l.length+1:=by
 unfold andP;split
 ·exact⟨yZv,by have:falseP.cnt=1:=rfl;omega⟩
 ·exact yKr l h
theorem ywU{v a b}(ha:Good a)(hb:Good b):Good (eqnS v a b):=by
 unfold eqnS;split
 ·exact zJL (.inr ⟨by decide,by decide⟩) ha hb
 ·exact zJL (.inl ⟨by decide,by decide⟩) ha hb
theorem yj7(v)(a b):(eqnS v a b).cnt=a.cnt+b.cnt+1:=by unfold eqnS;rw[Pred.cnt];simp[Pred.cnts]
theorem Good.kidsG{p}(h:Good p):∀k∈p.kids,Good k:=by obtain⟨o,s,n,ks⟩:=p;exact fun k hk=>h.kid hk
theorem yqy(p:Pred):Pred.cnts p.kids+1=p.cnt:=by obtain⟨o,s,n,ks⟩:=p;rw[Pred.cnt];rfl
theorem yxl{v}:∀{a b},(∀k∈a,Good k)→(∀k∈b,Good k)→(∀p∈List.zipWith (eqnS v) a b,Good p)∧Pred.cnts (List.zipWith (eqnS v) a b)≤Pred.cnts a+Pred.cnts b+a.length∧(List.zipWith (eqnS v) a b).length≤a.length
 |[],b,_,_=>⟨by simp,by simp[Pred.cnts],by simp⟩
 |_::_,[],_,_=>⟨by simp,by simp[Pred.cnts],by simp⟩
 |x::a,y::b,ha,hb=>by
  obtain⟨h1,h2,h3⟩:=yxl (v:=v) (a:=a) (b:=b) (fun k hk=>ha k (by simp[hk])) (fun k hk=>hb k (by simp[hk]));rw[List.zipWith_cons_cons];refine⟨?_,?_,by simp;omega⟩
  ·intro p hp;rcases List.mem_cons.1 hp with rfl|hp
   ·exact ywU (ha x (by simp)) (hb y (by simp))
   ·exact h1 p hp
  ·rw[Pred.cnts,Pred.cnts,Pred.cnts,yj7,lC];omega
theorem yKN{v a b}(ha:Good a)(hb:Good b):∀p∈congS v a b,Good p∧p.cnt≤4*(a.cnt+b.cnt)+4:=by
 intro p hp;unfold congS at hp;split at hp
 ·cases hp
 ·rw[List.mem_singleton]at hp;subst hp;obtain⟨h1,h2,h3⟩:=yxl (v:=v) ha.kidsG hb.kidsG;obtain⟨h4,h5⟩:=yJX h1;have k1:=yqy a;have k2:=yqy b;have k3:=yxZ a.kids;refine⟨zJL (.inr ⟨by decide,by decide⟩) h4 (ywU ha hb),?_⟩;rw[Pred.cnt];simp only[Pred.cnts];rw[yj7];omega
theorem zJF{v m}:∀{l},(∀x∈l,Good x∧x.cnt≤m)→∀p∈closS v l,Good p∧p.cnt≤8*m+4
 |[],_,p,hp=>by cases hp
 |a::r,h,p,hp=>by
  rw[closS]at hp;rcases List.mem_append.1 hp with hp|hp
  ·obtain⟨b,hb,hp⟩:=List.mem_flatMap.1 hp;have ha:=h a (by simp);have hb:=h b (by simp[hb]);have:=yKN (v:=v) ha.1 hb.1 p hp;exact⟨this.1,by omega⟩
  ·exact zJF (fun x hx=>h x (by simp[hx])) p hp
theorem yz7{l m}(h:∀x∈l,x.cnt≤m):Pred.cnts l≤l.length*m:=by
 induction l with
 |nil=>simp[Pred.cnts]
 |cons x l ih=>have h1:=h x (by simp);have h2:=ih fun y hy=>h y (by simp[hy]);rw[Pred.cnts,lC,Nat.add_mul];omega
theorem zv2{q}:∀{ks},q∈Pred.pre.pres ks↔∃k∈ks,q∈k.pre
 |[]=>by simp[Pred.pre.pres]
 |k::ks=>by rw[Pred.pre.pres,List.mem_append,zv2 (ks:=ks)];simp
theorem yVK(p:Pred):p∈p.pre:=by obtain⟨o,s,n,ks⟩:=p;rw[Pred.zjG];simp
theorem zqF(p:Pred):∀q∈p.pre,(∀r∈q.pre,r∈p.pre)∧q.cnt≤p.cnt:=by
 induction p using Pred.ind with
 |h o s n ks ih=>
 intro q hq;rw[Pred.zjG]at hq;rcases List.mem_cons.1 hq with rfl|hq
 ·exact⟨fun r hr=>hr,Nat.le_refl _⟩
 ·obtain⟨k,hk,hq⟩:=zv2.1 hq;obtain⟨h1,h2⟩:=ih k hk q hq;refine⟨fun r hr=>?_,?_⟩
  ·rw[Pred.zjG];exact List.mem_cons_of_mem _ (zv2.2 ⟨k,hk,h1 r hr⟩)
  ·have:=Pred.ywQ hk;rw[Pred.cnt];omega
theorem zYR{t q}(p):∀l,q∈innerP t p l→q∈l∨q∈p.pre:=by
 induction p using Pred.ind with
 |h o s n ks ih=>
 intro l hq;rw[zq5]at hq;have key:∀(m l:List Pred),(∀k∈m,k∈ks)→q∈m.foldl (fun l k=>innerP t k l) l→q∈l∨∃k∈ks,q∈k.pre:=by
  intro m;induction m with
  |nil=>intro l _ h;exact .inl h
  |cons k m ihm=>
   intro l hm h;rw[List.foldl_cons]at h;rcases ihm _ (fun x hx=>hm x (by simp[hx])) h with h|h
   ·rcases ih k (hm k (by simp)) l h with h|h
    ·exact .inl h
    ·exact .inr ⟨k,hm k (by simp),h⟩
   ·exact .inr h
 have key2:q∈ks.foldl (fun l k=>innerP t k l) l→q∈l∨q∈(Pred.mk o s n ks).pre:=fun h=>by
  rcases key ks l (fun _ h=>h) h with h|h
  ·exact .inl h
  ·right;rw[Pred.zjG];exact List.mem_cons_of_mem _ (zv2.2 h)
 split at hq
 ·rcases List.mem_append.1 hq with hq|hq
  ·exact key2 hq
  ·right;rw[List.mem_singleton.1 hq];exact yVK _
 ·exact key2 hq
theorem Good.sub{p q}(h:Good p)(hq:q∈p.pre):Good q:=fun r hr=>h r ((zqF p q hq).1 r hr)
end Go.Abs
end
section
namespace Go.Abs
def cellsR(v:SEnv)(q:QS)(a:Nat):List AV:=[.d (.lst (v.vars.map SVar.cells)),.d (.lst (v.syms.map SSym.cells)),.d (.lst (v.holes.map SHole.cells)),.mref 1001,.own a 2 (q.forms.map Lin.cells),.d (.lst (q.bools.map tcellQ)),.mref 1002,.d (.bool q.bad)]
def bxR(v:SEnv)(txt:Lin→Str)(q:QS)(a:Nat):Mem:=[(1000,cellsR v q a),(1001,[.mp zzN zxk (idxM txt q.forms)]),(1002,[.mp zzN zyY (takenM q.bools)])]
def RT:List (Nat×Bool):=[(2000,true)]
theorem renR{v txt q c}:renMem [(1000,1000),(1001,1001),(1002,1002)] [(2000,c)] (bxR v txt q 2000)=bxR v txt q c:=by
 simp only[bxR,cellsR,renMem,getTM,Option.getD_some,mC,mN,AV.ren1,AV.ren0,Nat.reduceEqDiff,if_true,if_false]
theorem yXp{v txt q c k m}(h:k<1000):getM (bxR v txt q c++m) k=getM m k:=by
 have h0:¬1000=k:=by omega
 have h1:¬1001=k:=by omega
 have h2:¬1002=k:=by omega
 simp only[bxR,List.cons_append,List.nil_append,getM,h0,h1,h2,if_false]
theorem yVd{v txt q c m}:getM (bxR v txt q c++m) 1000=some (cellsR v q c):=rfl
theorem yVe{v txt q c m}:getM (bxR v txt q c++m) 1001=some [.mp zzN zxk (idxM txt q.forms)]:=rfl
theorem yVf{v txt q c m}:getM (bxR v txt q c++m) 1002=some [.mp zzN zyY (takenM q.bools)]:=rfl
attribute [go_sem] renR yXp yVd yVe yVf
theorem callR2{E f}{P:BArgs→Prop}{st av as0 r v txt q q' gs}
  (hC:E.C f [] (.bx as0 (bxR v txt q 2000) RT r (bxR v txt q' 2000) RT)) (a c) (hr:r.isOwn=false) (hgs:gs=true)
  (hm:MatchVs σQ [(2000,a)] av as0) (h0:getM st.mem 1000=some (cellsR v q a)) (h1:getM st.mem 1001=some [.mp zzN zxk (idxM txt q.forms)]) (h2:getM st.mem 1002=some [.mp zzN zyY (takenM q.bools)])
  (ha:getT st.tk a=some true) (hc:getT st.tk c=none)
  (hK:P ⟨[(1000,1000),(1001,1001),(1002,1002)],[(2000,a)],[(2000,c)],as0,bxR v txt q 2000,bxR v txt q' 2000,r⟩):
  ∃x:BArgs,callB1 E none f gs av st x∧P x:=by
 refine⟨_,⟨rfl,hgs,hr,?_,hC⟩,hK⟩;simp only[okB,σQ]at hm⊢;refine⟨hm,?_,?_,?_⟩
 ·simp only[bxR,MatchMem,h0,h1,h2,cellsR];simp only[go_sem]
 ·simp only[mpOk,ha,List.contains_cons,cN,and_self]
 ·simp only[bxR,cellsR,go_sem,hc,List.contains_cons,cN,Nat.reduceBEq,List.mem_cons,List.not_mem_nil,or_false,forall_eq_or_imp,forall_eq,List.all_cons,List.all_nil]
theorem endR{v txt q st}(a)(h0:getM st.mem 1000=some (cellsR v q a))(h1:getM st.mem 1001=some [.mp zzN zxk (idxM txt q.forms)])(h2:getM st.mem 1002=some [.mp zzN zyY (takenM q.bools)])
  (ha:getT st.tk a=some true):Ent st ⟨[],bxR v txt q 2000,RT⟩:=by
 refine zzk [(2000,a)] ?_;simp only[bxR,cellsR,RT]at h0⊢;simp only[go_sem,h0,h1,h2,ha,List.contains_cons,cN,oS]
theorem ywI(v)(txt)(q):bxR v txt q 2000=[(1000,[.d (.lst (v.vars.map SVar.cells)),.d (.lst (v.syms.map SSym.cells)),.d (.lst (v.holes.map SHole.cells)),.mref 1001,.own 2000 2 (q.forms.map Lin.cells),.d (.lst (q.bools.map tcellQ)),.mref 1002,.d (.bool q.bad)]),(1001,[.mp zzN zxk (idxM txt q.forms)]),(1002,[.mp zzN zyY (takenM q.bools)])]:=rfl
variable{E:AEnv}(Z:Sys E)
include Z
variable(v:SEnv)(txt:Lin→Str)
attribute [local go_sem] AV.toMV MV.av
theorem zVv(a:Lin)(ok)(q):E.C zzj [] (.bx [.ptr 1000 0,.agg (a.cells.map .d),.d (.bool ok)] (bxR v txt q 2000) RT (.agg a.cells) (bxR v txt (q.note ok) 2000) RT):=by
 refine Z.zzj _ _ ⟨b0l rfl,b0l rfl,rfl,?_⟩;cases ok with
 |true=>
  have hq:q.note true=q:=by unfold QS.note;simp
  rw[hq];simp only[zya,bxR,cellsR,RT,go_sem,Lin.zzb];exact endR 2000 rfl rfl rfl rfl
 |false=>
  have hq:q.note false=⟨q.forms,q.bools,true⟩:=by unfold QS.note;simp
  rw[hq];simp only[zya,bxR,cellsR,RT,go_sem,Lin.zzb];exact endR (q:=⟨q.forms,q.bools,true⟩) 2000 rfl rfl rfl rfl
set_option maxHeartbeats 1000000 in
theorem yWI(hI:ItoaP E)(hT:TextP E txt)(d)(q)(hq:q.forms.length≤8589934592):E.C zzB [] (.bx [.ptr 1000 0,.agg (d.cells.map .d)] (bxR v txt q 2000) RT (.tup [.agg (leafP 10 (askS txt d q).1).cells,.agg (leafP 13 (askS txt d q).1).cells,.one (.bool (decide ((formL d).2<0)))]) (bxR v txt (askS txt d q).2 2000) RT):=by
 have hF:=zX4 Z d;have ht:=hT _ (ykb d);have hit:=hI ((askS txt d q).1:Int) (by have:=(zWV txt d q).2.1;unfold I64p;omega);have hop:=fun o=>zxZ Z o (.mk 3 (Lib.itoa ((askS txt d q).1:Int)) 0 []) (.mk 1 [] 0 []);have hl:∀o,(leafP o (askS txt d q).1).cells=_:=fun o=>zzw o (askS txt d q).1;have hfo:∀o,Pred.mk o [] 0 [.mk 3 (Lib.itoa ((askS txt d q).1:Int)) 0 [],.mk 1 [] 0 []]=leafP o (askS txt d q).1:=fun _=>rfl;simp only[hfo,Pred.zzb (.mk 3 _ 0 []),Pred.zzb (.mk 1 [] 0 []),Pred.op,Pred.name,Pred.n,Pred.kids,mN]at hop;clear hfo;generalize hL10:(leafP 10 (askS txt d q).1).cells=L10 at*
 generalize hL13:(leafP 13 (askS txt d q).1).cells=L13 at*
 have hop10:=hop 10;have hop13:=hop 13;rw[hL10]at hop10;rw[hL13]at hop13;have hc10:=hl 10;have hc13:=hl 13;rw[hL10]at hc10;rw[hL13]at hc13;clear hop hl hL10 hL13;refine Z.zzB _ _ ⟨b0l rfl,b0l rfl,rfl,?_⟩;generalize hA:askS txt d q=A at*
 obtain⟨i,q1⟩:=A;unfold askS at hA;unfold resF at hF;generalize formL d=F at*
 obtain⟨f,s⟩:=F;have hat:=yXy txt q.forms (txt f);have hhas:=yqr txt q.forms (txt f);have hil:=yqs txt q.forms;simp only[Lin.zzb]at*
 simp only[zxH,ywI v txt q,RT,go_sem];refine⟨_,hF,?_⟩;simp only[go_sem];refine⟨_,ht,?_⟩;simp only[go_sem,hat,hhas];cases hlk:lookI txt q.forms (txt f)with
 |some j=>rw[hlk]at hA;obtain⟨rfl,rfl⟩:=Prod.mk.inj hA;simp only[go_sem,oS,Option.getD_some];refine⟨_,hit,?_⟩;simp only[go_sem];refine⟨_,hop10,?_⟩;simp only[go_sem];refine⟨_,hop13,?_⟩;simp only[go_sem,hc10,hc13];exact endR 2000 rfl rfl rfl rfl
 |none=>
  rw[hlk]at hA;obtain⟨rfl,rfl⟩:=Prod.mk.inj hA;have ht2:=Lin.lens q.forms;have o1:(q.forms.length+1)*32≤2^46:=by omega
  have o2:q.forms.length≤9223372036854775806:=by omega
  have o3:q.forms.length<9223372036854775807:=by omega
  simp only[go_sem,Option.isSome_none];intro _;simp only[go_sem,hil,o3,lM,o1,o2,ht2];refine⟨fun e he=>by rw[List.mem_singleton.1 he];rfl,?_⟩;refine⟨_,hit,?_⟩;simp only[go_sem];refine⟨_,hop10,?_⟩;simp only[go_sem];refine⟨_,hop13,?_⟩;simp only[go_sem,hc10,hc13];refine endR (q:=⟨q.forms++[f],q.bools,q.bad⟩) 50 ?_ ?_ rfl rfl
  ·simp only[go_sem,cellsR,mA];rfl
  ·simp only[go_sem,ykm]
theorem yy7(hI:ItoaP E)(hT:TextP E txt)(d)(q)(hq:q.forms.length≤8589934592):E.C zzx [] (.bx [.ptr 1000 0,.agg (d.cells.map .d)] (bxR v txt q 2000) RT (.agg (mostQ txt d q).1.cells) (bxR v txt (mostQ txt d q).2 2000) RT):=by
 have hask:=yWI Z v txt hI hT d q hq;have htr:=fun b=>zwI Z b;have hnot:=fun i=>zvu Z (leafP 13 i);have hop:=fun i=>zxZ Z 16 (negP (leafP 13 i)) (leafP 10 i);refine Z.zzx _ _ ⟨b0l rfl,b0l rfl,rfl,?_⟩;generalize hA:mostQ txt d q=A at*
 unfold mostQ at hA;obtain⟨P,q1⟩:=A;generalize askS txt d q=S at*
 obtain⟨i,q2⟩:=S;have hni:(negP (leafP 13 i)).cells=[.int .i64 14,.str [],.int .i64 0,.lst [(leafP 13 i).cells]]:=by unfold negP;rw[Pred.zzb];rfl
 have hnot:=hnot i;have hop:=hop i;have hnf:Pred.mk 14 [] 0 [leafP 13 i]=negP (leafP 13 i):=rfl;rw[hnf]at hnot;rw[hni]at hnot hop;have hoc:=Pred.zzb (Pred.mk 16 [] 0 [negP (leafP 13 i),leafP 10 i]);simp only[Pred.op,Pred.name,Pred.n,Pred.kids]at hoc;generalize hoC:(Pred.mk 16 [] 0 [negP (leafP 13 i),leafP 10 i]).cells=oC at*
 simp only[Lin.zzb,mC,mN,zzw]at*
 simp only[zxm,ywI v txt q,RT,go_sem];intro hl;cases c:((d.coefs.length:Int)==0)with
 |true=>rw[c,if_pos rfl]at hA;obtain⟨rfl,rfl⟩:=Prod.mk.inj hA;simp only[go_sem];refine⟨_,htr _,?_⟩;unfold tP;simp only[go_sem];exact endR 2000 rfl rfl rfl rfl
 |false=>
  rw[c,if_neg (by decide)]at hA;simp only[go_sem];refine callR2 hask 2000 3000 rfl rfl (by simp only[σQ,go_sem]) rfl rfl rfl rfl rfl ?_;simp only[go_sem,zzw];by_cases hs:(formL d).2<0
  ·rw[if_pos hs]at hA;obtain⟨rfl,rfl⟩:=Prod.mk.inj hA;simp only[go_sem,decide_eq_true hs,if_true];refine⟨_,hnot,?_⟩;simp only[go_sem];refine⟨_,hop,?_⟩;simp only[go_sem,hoC,hoc];exact endR 3000 rfl rfl rfl rfl
  ·rw[if_neg hs]at hA;obtain⟨rfl,rfl⟩:=Prod.mk.inj hA;simp only[go_sem,decide_eq_false hs,zzw,if_false];exact endR 3000 rfl rfl rfl rfl
theorem yzY(s:Str)(q):E.C zzo [] (.bx [.ptr 1000 0,.d (.str s)] (bxR v txt q 2000) RT (.agg (varL s).1.cells) (bxR v txt (q.note (varL s).2) 2000) RT):=by
 have hadd:=zyK Z ⟨[⟨s,1⟩],0⟩ noLin;have hsome:=zVv Z v txt (varL s).1 (varL s).2 q;refine Z.zzo _ _ ⟨b0l rfl,b0l rfl,rfl,?_⟩;have hv:addL ⟨[⟨s,1⟩],0⟩ noLin=varL s:=rfl;rw[hv]at hadd;generalize varL s=V at*
 obtain⟨L,ok⟩:=V;unfold resL at hadd;simp only[Lin.zzb,mC,mN,noLin,Coef.zzb]at*
 simp only[zyI,ywI v txt q,RT,go_sem];refine⟨_,hadd,?_⟩;simp only[go_sem];refine callR2 hsome 2000 3000 rfl rfl (by simp only[σQ,go_sem]) rfl rfl rfl rfl rfl ?_;simp only[go_sem];exact endR 3000 rfl rfl rfl rfl
theorem yzA(hI:ItoaP E)(hT:TextP E txt)(s:Str)(up)(q)(hq:q.forms.length≤8589934592):E.C zzQ [] (.bx [.ptr 1000 0,.d (.str s),.d (.bool up)] (bxR v txt q 2000) RT (.agg (boundQ txt s up q).1.cells) (bxR v txt (boundQ txt s up q).2 2000) RT):=by
 have hvar:=yzY Z v txt s q;have hadd:=zyK Z (varL s).1 monL;have hsc:=zxt Z (varL s).1 (-1);have hsome:=zVv Z v txt (addL (varL s).1 monL).1 (addL (varL s).1 monL).2 (q.note (varL s).2);have hsom2:=zVv Z v txt (scaleL (varL s).1 (-1)).1 (scaleL (varL s).1 (-1)).2 (q.note (varL s).2);have hm1:=yy7 Z v txt hI hT (lessL s).1 (q.note (lessL s).2) (by rw[zva];exact hq);have hm2:=yy7 Z v txt hI hT (negL s).1 (q.note (negL s).2) (by rw[zva];exact hq);refine Z.zzQ _ _ ⟨b0l rfl,b0l rfl,rfl,?_⟩;unfold boundQ;rw[zvD]at hsome hsom2;unfold lessL negL at*
 unfold resL at hadd hsc;generalize varL s=V at*
 generalize addL V.1 monL=A at*
 generalize scaleL V.1 (-1)=S at*
 generalize mostQ txt A.1 (q.note (V.2&&A.2))=R1 at*
 generalize mostQ txt S.1 (q.note (V.2&&S.2))=R2 at*
 obtain⟨P1,q1⟩:=R1;obtain⟨P2,q2⟩:=R2;generalize q.note (V.2&&A.2)=q3 at*
 generalize q.note (V.2&&S.2)=q4 at*
 generalize q.note V.2=q5 at*
 have hPc1:=Pred.zzb P1;generalize P1.cells=Pc1 at*
 subst hPc1;have hPc2:=Pred.zzb P2;generalize P2.cells=Pc2 at*
 subst hPc2;simp only[Lin.zzb,mC,mN,monL]at*
 cases up with
 |true=>simp only[zxc,ywI v txt q,RT,go_sem,if_true];refine callR2 hvar 2000 3000 rfl rfl (by simp only[σQ,go_sem]) rfl rfl rfl rfl rfl ?_;simp only[go_sem];refine⟨_,hadd,?_⟩;simp only[go_sem];refine callR2 hsome 3000 3002 rfl rfl (by simp only[σQ,go_sem]) rfl rfl rfl rfl rfl ?_;simp only[go_sem];refine callR2 hm1 3002 3004 rfl rfl (by simp only[σQ,go_sem]) rfl rfl rfl rfl rfl ?_;simp only[go_sem];exact⟨(Pred.zzb P1).symm,endR 3004 rfl rfl rfl rfl⟩
 |false=>simp only[zxc,ywI v txt q,RT,go_sem,if_false];refine callR2 hvar 2000 3000 rfl rfl (by simp only[σQ,go_sem]) rfl rfl rfl rfl rfl ?_;simp only[go_sem];refine⟨_,hsc,?_⟩;simp only[go_sem];refine callR2 hsom2 3000 3002 rfl rfl (by simp only[σQ,go_sem]) rfl rfl rfl rfl rfl ?_;simp only[go_sem];refine callR2 hm2 3002 3004 rfl rfl (by simp only[σQ,go_sem]) rfl rfl rfl rfl rfl ?_;simp only[go_sem];exact⟨(Pred.zzb P2).symm,endR 3004 rfl rfl rfl rfl⟩
end Go.Abs
end
section
namespace Go.Abs
def cellsRG(v:SEnv)(q:QS)(a s1 s2:Nat):List AV:=[.d (.lst (v.vars.map SVar.cells)),.d (.lst (v.syms.map SSym.cells)),.d (.lst (v.holes.map SHole.cells)),.mref s1,.own a 2 (q.forms.map Lin.cells),.d (.lst (q.bools.map tcellQ)),.mref s2,.d (.bool q.bad)]
def bxRG(v:SEnv)(txt:Lin→Str)(q:QS)(a s0 s1 s2:Nat):Mem:=[(s0,cellsRG v q a s1 s2),(s1,[.mp zzN zxk (idxM txt q.forms)]),(s2,[.mp zzN zyY (takenM q.bools)])]
theorem renRG{v txt q c s0 s1 s2}:renMem [(1000,s0),(1001,s1),(1002,s2)] [(2000,c)] (bxR v txt q 2000)=bxRG v txt q c s0 s1 s2:=by
 simp only[bxR,bxRG,cellsR,cellsRG,renMem,getTM,Option.getD_some,mC,mN,AV.ren1,AV.ren0,Nat.reduceEqDiff,if_true,if_false]
theorem callRG{E f}{P:BArgs→Prop}{st av as0 r v txt q q' gs}
  (hC:E.C f [] (.bx as0 (bxR v txt q 2000) RT r (bxR v txt q' 2000) RT)) (a c s0 s1 s2) (hr:r.isOwn=false) (hgs:gs=true)
  (hm:MatchVs [(1000,s0),(1001,s1),(1002,s2)] [(2000,a)] av as0) (h0:getM st.mem s0=some (cellsRG v q a s1 s2)) (h1:getM st.mem s1=some [.mp zzN zxk (idxM txt q.forms)]) (h2:getM st.mem s2=some [.mp zzN zyY (takenM q.bools)])
  (ha:getT st.tk a=some true) (hc:getT st.tk c=none) (hs:noTwice [s0,s1,s2]=true)
  (hK:P ⟨[(1000,s0),(1001,s1),(1002,s2)],[(2000,a)],[(2000,c)],as0,bxR v txt q 2000,bxR v txt q' 2000,r⟩):
  ∃x:BArgs,callB1 E none f gs av st x∧P x:=by
 refine⟨_,⟨rfl,hgs,hr,?_,hC⟩,hK⟩;simp only[okB]at hm⊢;refine⟨hm,?_,?_,?_⟩
 ·simp only[bxR,MatchMem,h0,h1,h2,cellsR,cellsRG];simp only[go_sem]
 ·simp only[mpOk,ha,List.contains_cons,cN,and_self]
 ·simp only[mC,mN,hs];simp only[bxR,cellsR,go_sem,hc,List.contains_cons,cN,Nat.reduceBEq,List.mem_cons,List.not_mem_nil,or_false,forall_eq_or_imp,forall_eq,List.all_cons,List.all_nil]
theorem okE'{v txt q q' ps ps' st ls x0 a b c a' b' c' s7 s8 s9 s0 s1 s2}(hx:AV.toD [] 1 x0=some (.lst ls))
  (h7:getM st.mem s7=some [.ptr s0 0]) (h8:getM st.mem s8=some [.own c 4 (ps.map Pred.cells)]) (h9:getM st.mem s9=some [.clo zzy [.ptr s7 0,.ptr s8 0,.ptr s9 0]])
  (h0:getM st.mem s0=some (cellsG v q a b s1 s2)) (h1:getM st.mem s1=some [.mp zzN zxk (idxM txt q.forms)]) (h2:getM st.mem s2=some [.mp zzN zyY (takenM q.bools)])
  (ha:getT st.tk a=some true) (hb:getT st.tk b=some true) (hc:getT st.tk c=some true) (hn:noTwice [a,b,c]=true)
  (ha':getT st.tk a'=none) (hb':getT st.tk b'=none) (hc':getT st.tk c'=none) (hn':noTwice [a',b',c']=true) (hs:noTwice [s7,s8,s9,s0,s1,s2]=true):
  okB st [x0,.ptr s7 0,.ptr s8 0,.ptr s9 0] ⟨[(1007,s7),(1008,s8),(1009,s9),(1000,s0),(1001,s1),(1002,s2)],[(2000,a),(2001,b),(2002,c)],[(2000,a'),(2001,b'),(2002,c')],[.d (.lst ls),.ptr 1007 0,.ptr 1008 0,.ptr 1009 0],
   bxE v txt q ps 2000 2001 2002 1007 1008 1009 1000 1001 1002,bxE v txt q' ps' 2000 2001 2002 1007 1008 1009 1000 1001 1002,.tup []⟩:=by
 have h:=okE (v:=v) (txt:=txt) (q:=q) (q':=q') (ps:=ps) (ps':=ps') (st:=st) (ls:=ls) h7 h8 h9 h0 h1 h2 ha hb hc hn ha' hb' hc' hn' hs;unfold okB at h⊢;refine⟨⟨?_,h.1.2⟩,h.2⟩;simp only[MatchV,Match1,Match0];exact hx
def bndQ(txt:Lin→Str):List Str→List Pred→QS→List Pred×QS
 |[],ps,q=>(ps,q)
 |s::l,ps,q=>if q.bad then(ps,q)else bndQ txt l (ps++[(boundQ txt s false q).1,(boundQ txt s true (boundQ txt s false q).2).1]) (boundQ txt s true (boundQ txt s false q).2).2
def zeroA:Atm:=⟨zeroP,[]⟩
def qfin3(r:List Pred×QS):Atm×Int:=if r.2.bad then(zeroA,2)else if decide ((r.2.forms.length:Int)>40)then(zeroA,7)else(⟨andP r.1,r.2.forms⟩,0)
def qfin2(txt:Lin→Str)(ps:List Pred)(q:QS):Atm×Int:=qfin3 (bndQ txt q.bools ps q)
def qfin1(v:SEnv)(txt:Lin→Str)(p:Pred)(r:List Pred×QS):Atm×Int:=qfin2 txt (eachQ v txt (closS v (innerP 4 p [])) r.1 r.2).1 (eachQ v txt (closS v (innerP 4 p [])) r.1 r.2).2
def q0:QS:=⟨[],[],false⟩
def questQ(v:SEnv)(txt:Lin→Str)(p:Pred):Atm×Int:=
 if BoolS v p !=0 then(zeroA,BoolS v p)
 else if decide (((innerP 5 p []).length:Int)>0)then(zeroA,6)
 else qfin1 v txt p (if p.same zeroP then([],q0)else eachQ v txt [p] [] q0)
def bndD(txt:Lin→Str)(ps:List Pred)(q:QS):List Str→List Pred×QS
 |[]=>(ps,q)
 |s::l=>bndD txt (ps++[(boundQ txt s false q).1,(boundQ txt s true (boundQ txt s false q).2).1]) (boundQ txt s true (boundQ txt s false q).2).2 l
theorem ywB(txt)(s):∀(l) (ps) (q),bndD txt ps q (l++[s])=((bndD txt ps q l).1++[(boundQ txt s false (bndD txt ps q l).2).1,(boundQ txt s true (boundQ txt s false (bndD txt ps q l).2).2).1],(boundQ txt s true (boundQ txt s false (bndD txt ps q l).2).2).2)
 |[],_,_=>rfl
 |x::l,ps,q=>by rw[List.cons_append,bndD,ywB txt s l,bndD]
theorem zZq(txt)(s)(up)(q):(boundQ txt s up q).2.bools=q.bools∧(boundQ txt s up q).2.forms.length≤q.forms.length+1:=by
 have key:∀d q,(mostQ txt d q).2.bools=q.bools:=fun d q=>by
  unfold mostQ;split
  ·rfl
  ·split<;>exact(zWV txt d q).2.2
 unfold boundQ;split
 ·exact⟨key _ _,(yza txt _ _).f⟩
 ·exact⟨key _ _,(yza txt _ _).f⟩
theorem yvz(txt):∀(l) (ps) (q),(bndD txt ps q l).2.bools=q.bools∧(bndD txt ps q l).2.forms.length≤q.forms.length+2*l.length∧(bndD txt ps q l).1.length=ps.length+2*l.length
 |[],ps,q=>⟨rfl,by simp[bndD],by simp[bndD]⟩
 |s::l,ps,q=>by rw[bndD];obtain⟨h1,h2,h3⟩:=yvz txt l (ps++[(boundQ txt s false q).1,(boundQ txt s true (boundQ txt s false q).2).1]) (boundQ txt s true (boundQ txt s false q).2).2;have k1:=zZq txt s false q;have k2:=zZq txt s true (boundQ txt s false q).2;refine⟨by rw[h1,k2.1,k1.1],?_,by rw[h3];simp;omega⟩;rw[lC];omega
structure HQ(v:SEnv)(txt:Lin→Str)(p:Pred)(ps:List Pred)(q:QS)(st:St)(a b c:Nat):Prop where
 m2:getM st.mem 2=some [.d (.lst (v.vars.map SVar.cells)),.d (.lst (v.syms.map SSym.cells)),.d (.lst (v.holes.map SHole.cells))]
 m3:getM st.mem 3=some (p.cells.map .d)
 m4:getM st.mem 4=some [.d (.int .i64 0),.d (.str []),.d (.int .i64 0),.full [],.full []]
 m7:getM st.mem 7=some [.ptr 27 0]
 m8:getM st.mem 8=some [.own c 4 (ps.map Pred.cells)]
 m9:getM st.mem 9=some [.clo zzy [.ptr 7 0,.ptr 8 0,.ptr 9 0]]
 m0:getM st.mem 27=some (cellsG v q a b 24 25)
 m1:getM st.mem 24=some [.mp zzN zxk (idxM txt q.forms)]
 mm:getM st.mem 25=some [.mp zzN zyY (takenM q.bools)]
 ta:getT st.tk a=some true
 tb:getT st.tk b=some true
 tc:getT st.tk c=some true
 tn:noTwice [a,b,c]=true
structure SQ(st:St):Prop where
 s2:getS st.slots 2=.ptr 2 0
 s3:getS st.slots 3=.ptr 3 0
 s4:getS st.slots 4=.ptr 4 0
 s7:getS st.slots 7=.ptr 7 0
 s8:getS st.slots 8=.ptr 8 0
 s9:getS st.slots 9=.ptr 9 0
def convM(st s:St):Prop:=∀X:List (Nat×AV),convS ⟨X,st.mem,st.tk⟩ ⟨X,s.mem,s.tk⟩
theorem yZj(st):convM st st:=fun _=>⟨[],rfl,rfl⟩
theorem yxE{v txt}:∀{l} {ps} {q},(eachQ v txt l ps q).1.length≤ps.length+l.length∧Grow q (eachQ v txt l ps q).2 (Pred.cnts l)
 |[],ps,q=>⟨by simp[eachQ],(Grow.refl q)⟩
 |k::l,ps,q=>by
  rw[eachQ];split
  ·exact⟨by simp,(Grow.refl q).le (Nat.zero_le _)⟩
  ·obtain⟨h1,h2⟩:=yxE (v:=v) (txt:=txt) (l:=l) (ps:=ps++[(predQ v txt k q).1]) (q:=(predQ v txt k q).2);refine⟨by simp at h1⊢;omega,?_⟩;rw[Pred.cnts];exact(zY3 v txt k q).trans h2
end Go.Abs
end
section
namespace Go.Abs
theorem conv3{st v0 v1 v2 m1 m2 bd}(h27:getM st.mem 27=some [v0,v1,v2,m1,.full [],.full [],m2,bd])(h8:getM st.mem 8=some [.full []])(ht:st.tk=[]):
  convM st ⟨[],(8,[.own 3002 4 []])::(27,[v0,v1,v2,m1,.own 3000 2 [],.own 3001 1 [],m2,bd])::(27,[v0,v1,v2,m1,.own 3000 2 [],.full [],m2,bd])::st.mem,[(3002,true),(3001,true),(3000,true)]⟩:=by
 intro X;refine⟨[(.m 27 4,3000,2),(.m 27 5,3001,1),(.m 8 0,3002,4)],⟨_,⟨_,_,h27,rfl,by simp,by rw[ht];rfl,rfl⟩,_,⟨[v0,v1,v2,m1,.own 3000 2 [],.full [],m2,bd],[],rfl,rfl,by simp,by simp only[ht];rfl,rfl⟩,_,⟨[.full []],[],?_,rfl,by simp,by simp only[ht];rfl,rfl⟩,?_⟩,rfl⟩
 ·simp only[getM,Nat.reduceEqDiff,if_false];exact h8
 ·simp only[ht];rfl
theorem zxO:zeroA.cells=[.int .i64 0,.str [],.int .i64 0,.lst [],.lst []]:=by unfold Atm.cells zeroA zeroP;rw[Pred.zzb];rfl
theorem yyU(p:Pred)(h:p.cnt<2^62):p.nodes=p.cnt:=by
 induction p using Pred.ind with
 |h o s n ks ih=>
 have key:∀(l:List Pred) (a:Nat),(∀k∈l,k.cnt<2^62→k.nodes=k.cnt)→a+Pred.cnts l<2^62→Pred.nodess (a:Int) l=((a+Pred.cnts l:Nat):Int):=by
  intro l;induction l with
  |nil=>intro a _ _;rw[Pred.nodess,Pred.cnts];rfl
  |cons x l ih2=>intro a hk hl;rw[Pred.cnts]at hl;rw[Pred.nodess,hk x (by simp) (by omega),i64_in _ (by omega),Pred.cnts];have:=ih2 (a+x.cnt) (fun k hk'=>hk k (by simp[hk'])) (by omega);rw[←Int.natCast_add,this];congr 1;omega
 rw[Pred.cnt]at h⊢;rw[Pred.nodes];have:=key ks 1 ih (by omega);rw[show((1:Nat):Int)=1 from rfl]at this;rw[this];congr 1;omega
theorem zZY{o}{s:Str}{n ks}(h:Small ks.length)(hk:∀k∈ks,Tame k):Tame (.mk o s n ks):=AllN.mk h hk
theorem zvs{n}(h:n≤1000):Small n:=by unfold Small;omega
theorem zk6(o)(i):Tame (leafP o i):=zZY (zvs (by simp)) (by simp only[List.mem_cons,List.not_mem_nil,or_false,forall_eq_or_imp,forall_eq];exact⟨zZY (zvs (by simp)) (by simp),zZY (zvs (by simp)) (by simp)⟩)
theorem zYX{p}(h:Tame p):Tame (negP p):=zZY (zvs (by simp)) (by simpa using h)
theorem ykJ{o a b}(ha:Tame a)(hb:Tame b):Tame (.mk o [] 0 [a,b]):=zZY (zvs (by simp)) (by
 simp only[List.mem_cons,List.not_mem_nil,or_false,forall_eq_or_imp,forall_eq];exact⟨ha,hb⟩)
theorem ywl(b):Tame (tP b):=by cases b<;>exact zZY (zvs (by simp)) (by simp)
theorem zVH(txt)(d)(q):Tame (zeroQ txt d q).1:=by
 unfold zeroQ;split
 ·exact ywl _
 ·exact zk6 _ _
theorem yyO(txt)(d)(q):Tame (mostQ txt d q).1:=by
 unfold mostQ;split
 ·exact ywl _
 ·split
  ·exact ykJ (zYX (zk6 _ _)) (zk6 _ _)
  ·exact zk6 _ _
theorem yvu(txt)(d)(q):Tame (belowQ txt d q).1:=by
 unfold belowQ;split
 ·exact ywl _
 ·split
  ·exact zYX (zk6 _ _)
  ·exact ykJ (zk6 _ _) (zYX (zk6 _ _))
theorem yvB(txt)(s)(up)(q):Tame (boundQ txt s up q).1:=by
 unfold boundQ;split<;>exact yyO _ _ _
theorem yYT(txt)(o)(d)(q):Tame (cmpQ txt o d q).1:=by
 unfold cmpQ;split
 ·exact ywl false
 ·split
  ·exact zVH _ _ _
  ·split
   ·exact zYX (zVH _ _ _)
   ·split
    ·exact yyO _ _ _
    ·exact yvu _ _ _
theorem yql{v txt}:∀{l} (_:∀k∈l,∀q,Tame (predQ v txt k q).1) (q),∀x∈(predQ.go v txt l q).1,Tame x
 |[],_,q,x,hx=>by cases hx
 |k::l,h,q,x,hx=>by
  rw[predQ.go]at hx;rcases List.mem_cons.1 hx with rfl|hx
  ·exact h k (by simp) q
  ·exact yql (fun k hk=>h k (by simp[hk])) _ x hx
theorem yZU(v)(txt)(p):Good p→∀q,Tame (predQ v txt p q).1:=by
 induction p using Pred.ind with
 |h o s n ks ih=>
 intro hg q;have hl:=zQT hg.top.2.1;have hgo:=yql (v:=v) (txt:=txt) (l:=ks) (fun k hk q=>ih k hk (hg.kid hk) q) q;have hgl:=yvW v txt ks q;rw[predQ];split
 ·refine fun q hq=>?_;have:=hg q hq;obtain⟨o',s',n',ks'⟩:=q;have hk:=zQT (Good.top (AllN.mk (P:=fun q=>Pred.err q=0) this fun k hk r hr=>hg r ((zqF _ _ hq).1 r (by rw[Pred.zjG];exact List.mem_cons_of_mem _ (zv2.2 ⟨k,hk,hr⟩))))).2.1;exact zvs (by show ks'.length≤1000;omega)
 ·split
  ·exact zVH _ _ _
  ·split
   ·split
    ·unfold iffQ;split
     ·exact zYX (zZY (zvs (by omega)) hgo)
     ·exact zZY (zvs (by omega)) hgo
    ·exact yYT _ _ _ _
   ·exact zZY (zvs (by omega)) hgo
theorem zK7{v txt}:∀{l} {ps} {q},(∀x∈l,Good x)→(∀x∈ps,Tame x)→∀x∈(eachQ v txt l ps q).1,Tame x
 |[],ps,q,_,h=>h
 |k::l,ps,q,hg,h=>by
  rw[eachQ];split
  ·exact h
  ·refine zK7 (fun x hx=>hg x (by simp[hx])) fun x hx=>?_;rcases List.mem_append.1 hx with hx|hx
   ·exact h x hx
   ·rw[List.mem_singleton.1 hx];exact yZU v txt k (hg k (by simp)) q
theorem zJ6(txt):∀{l} {ps} {q},(∀x∈ps,Tame x)→∀x∈(bndD txt ps q l).1,Tame x
 |[],_,_,h=>h
 |s::l,ps,q,h=>by
  rw[bndD];refine zJ6 txt fun x hx=>?_;rcases List.mem_append.1 hx with hx|hx
  ·exact h x hx
  ·simp only[List.mem_cons,List.not_mem_nil,or_false]at hx;rcases hx with rfl|rfl<;>exact yvB _ _ _ _
theorem yYF{E c Q st}(h:∀Q',Q'=Q→awp E c Q' st):awp E c Q st:=h Q rfl
structure HR(v:SEnv)(txt:Lin→Str)(D:List Pred×QS)(st:St):Prop where
 s4:getS st.slots 4=.ptr 4 0
 s7:getS st.slots 7=.ptr 7 0
 s8:getS st.slots 8=.ptr 8 0
 m4:getM st.mem 4=some [.d (.int .i64 0),.d (.str []),.d (.int .i64 0),.full [],.full []]
 m7:getM st.mem 7=some [.ptr 27 0]
 m8:getM st.mem 8=some [.own 4000 4 (D.1.map Pred.cells)]
 m0:getM st.mem 27=some [.d (.lst (v.vars.map SVar.cells)),.d (.lst (v.syms.map SSym.cells)),.d (.lst (v.holes.map SHole.cells)),.mref 24,.own 4001 2 (D.2.forms.map Lin.cells),.d (.lst (D.2.bools.map tcellQ)),.mref 25,.d (.bool D.2.bad)]
variable{E:AEnv}(Z:Sys E)
include Z
variable(v:SEnv)(txt:Lin→Str)
set_option maxHeartbeats 8000000 in
theorem yvm(hOf:∀p,E.C zzF [.agg v.cells,.agg p.cells] (two (OfS v p)))(hI:ItoaP E)(hJ:JoinP E)(hT:TextP E txt)(p)(hz:p.sz≤1048576):
  E.C zzP [.agg v.cells,.agg p.cells] (.tup [.agg (questQ v txt p).1.cells,.one (.int .i64 (questQ v txt p).2)]):=by
 have hcs:=zVL p;have hBool:=zXa Z v p (hOf p);have hHoles:=yx9 Z p (zxN p (by omega)) (by omega);have hSame:=zy7 Z p zeroP;have hApps:=zY2 Z p (zxN p (by omega)) (by omega);refine Z.zzP _ _ ⟨b0l rfl,?_⟩;generalize hR:questQ v txt p=R;unfold questQ at hR;have hpc:=Pred.zzb p;have hzc:zeroP.cells=[.int .i64 0,.str [],.int .i64 0,.lst []]:=by unfold zeroP;rw[Pred.zzb];rfl
 rw[hzc]at hSame;have hvc:v.cells=[.lst (v.vars.map SVar.cells),.lst (v.syms.map SSym.cells),.lst (v.holes.map SHole.cells)]:=rfl;rw[hvc]at hBool⊢;unfold zqR;refine zzd fun N0 h0=>?_;rw[hpc]at hBool hHoles hSame hApps⊢;simp only[go_sem];subst h0;refine zzd fun N1 h1=>?_;simp only[go_sem];refine zza hBool ?_;simp only[go_sem];cases c0:(BoolS v p !=0)with
 |true=>rw[c0,if_pos rfl]at hR;subst hR;simp only[go_sem,zxO];try exact⟨rfl,rfl⟩
 |false=>
 rw[c0,if_neg (by decide)]at hR;simp only[go_sem];subst h1;refine zzd fun N2 h2=>?_;simp only[go_sem];refine zza hHoles ?_;simp only[go_sem,lM];intro _;cases c1:decide (((innerP 5 p []).length:Int)>0)with
 |true=>rw[c1,if_pos rfl]at hR;subst hR;simp only[go_sem,zxO];try exact⟨rfl,rfl⟩
 |false=>
 rw[c1,if_neg (by decide)]at hR;simp only[go_sem];subst h2;have hgood:p.same zeroP=false→Good p∧p.cnt≤400:=by
  intro hz0;unfold BoolS at c0;rw[hz0,if_neg (by decide)]at c0;have hchk:p.checkE=0:=by
   by_cases hc:p.checkE=0
   ·exact hc
   ·exfalso;unfold OfS at c0;have hc':(p.checkE !=0)=true:=by simpa using hc
    rw[if_pos hc']at c0;have hc2:(p.checkE==0)=false:=by simpa using hc
    simp only[hc2,Bool.false_and,Bool.false_eq_true,if_false]at c0;rw[hc']at c0;cases c0
  refine⟨zWq hchk,?_⟩;have hn:=yyU p (by omega);unfold Pred.checkE at hchk;split at hchk
  ·cases hchk
  ·rename_i h;simp only[decide_eq_true_eq]at h;omega
 have happs:∀x∈innerP 4 p [],Good x∧x.cnt≤400:=by
  intro x hx;cases hz0:p.same zeroP with
  |true=>rw[(Pred.zyC p zeroP).1 hz0]at hx;cases hx
  |false=>
   obtain⟨g1,g2⟩:=hgood hz0;rcases zYR p [] hx with h|h
   ·cases h
   ·have:=zqF p x h;exact⟨g1.sub h,by omega⟩
 have hal:(innerP 4 p []).length≤400:=by
  have:=zk5 4 p [];cases hz0:p.same zeroP with
  |true=>rw[(Pred.zyC p zeroP).1 hz0];decide
  |false=>have:=(hgood hz0).2;simp at*;omega
 have hclo:∀x∈closS v (innerP 4 p []),Good x∧x.cnt≤3204:=zJF (m:=400) happs;have hcll:(closS v (innerP 4 p [])).length≤160000:=by have:=ywO v (innerP 4 p []);have h2:(innerP 4 p []).length*(innerP 4 p []).length≤400*400:=Nat.mul_le_mul hal hal;omega
 have hclc:Pred.cnts (closS v (innerP 4 p []))≤512640000:=by have h1:=yz7 (l:=closS v (innerP 4 p [])) (m:=3204) fun x hx=>(hclo x hx).2;have h2:(closS v (innerP 4 p [])).length*3204≤160000*3204:=Nat.mul_le_mul hcll (Nat.le_refl _);omega
 have hgz:∀{x:Pred} {m:Nat},Good x→x.cnt≤m→m≤8000→x.sz≤1048576:=fun hx hm h8=>by have:=yXu _ hx;omega
 have hClos:=zvJ Z v hOf (innerP 4 p []) (by unfold Small;omega) fun x hx=>zxN x (by have:=(happs x hx).2;omega);refine zzd fun N3 h3=>?_;simp only[go_sem];subst h3;refine zzd fun N4 h4=>?_;simp only[go_sem];subst h4;refine zzd fun N5 h5=>?_;simp only[go_sem];subst h5;refine zzd fun N6 h6=>?_;simp only[go_sem];subst h6;refine zzd fun N7 h7=>?_;have tail7:∀(ps:List Pred) (q:QS) (st' s:St) (a b c:Nat),SQ st'→convM st' s→getM st'.mem 2=some [.d (.lst (v.vars.map SVar.cells)),.d (.lst (v.syms.map SSym.cells)),.d (.lst (v.holes.map SHole.cells))]→getM st'.mem 3=some (p.cells.map .d)→getM st'.mem 9=some [.clo zzy [.ptr 7 0,.ptr 8 0,.ptr 9 0]]→
   HQ v txt p ps q s a b c→getT s.tk 3010=none→getT s.tk 3011=none→getT s.tk 3012=none→(∀x∈ps,Tame x)→ps.length≤1→q.forms.length≤400→q.bools.length≤400→R=qfin1 v txt p (ps,q)→N7 st':=by
  intro ps q st' s a b c hS hcv e2 e3 e9 hH f1 f2 f3 htm hpl hql hqb hRq;subst h7;refine zzd fun N8 h8=>?_;have tail8:∀(ps:List Pred) (q:QS) (st':St) (a b c:Nat),SQ st'→HQ v txt p ps q st' a b c→(∀x∈ps,Tame x)→ps.length≤160001→q.forms.length≤512640400→q.bools.length≤512640400→R=qfin2 txt ps q→N8 st':=by
   intro ps q st' a b c hS hH htm hpl hql hqb hRq;subst h8;refine zzd fun N9 h9=>?_;have tail9:∀(D:List Pred×QS) (st':St),HR v txt D st'→(∀x∈D.1,Tame x)→R=qfin3 D→N9 st':=by
    intro D st' hH ht hRq;subst h9;obtain⟨dp,⟨df,db,dx⟩⟩:=D;have m0:=hH.m0;have m4:=hH.m4;have m8:=hH.m8;have hand:=yzj Z dp (fun x hx _=>ht x hx);have hac:=Pred.zzb (andP dp);simp only at m0 m8;unfold qfin3 at hRq;simp only at hRq;refine zzd fun N10 h10=>?_;simp only[go_sem,hH.s4,hH.s7,hH.m7,m0,m4];cases dx with
    |true=>rw[if_pos rfl]at hRq;simp only[go_sem,hH.s4,m4,hRq,zxO];try exact⟨rfl,rfl⟩
    |false=>
    simp only[Bool.false_eq_true,if_false]at hRq;simp only[go_sem];subst h10;refine zzd fun N11 h11=>?_;simp only[go_sem,hH.s4,hH.s7,hH.m7,m0,m4,lM];intro _;cases c40:decide ((df.length:Int)>40)with
    |true=>rw[c40,if_pos rfl]at hRq;simp only[go_sem,hH.s4,m4,hRq,zxO];try exact⟨rfl,rfl⟩
    |false=>
    rw[c40,if_neg (by decide)]at hRq;simp only[go_sem];subst h11;simp only[go_sem,hH.s4,hH.s7,hH.s8,hH.m7,m0,m4,m8];refine⟨_,hand,?_⟩;simp only[go_sem,hH.s4,hH.s7,hH.s8,hH.m7,m0,m4,m8,hac,hRq,Atm.zzb];try exact⟨rfl,rfl⟩
   have hac:(a==c)=false:=by have:=hH.tn;simp only[noTwice,List.contains_cons,cN,Bool.or_false,Bool.and_true,Bool.and_eq_true,Bool.not_eq_true',Bool.or_eq_false_iff,Bool.not_false]at this;exact this.1.2
   have hH0:=hH.m0;unfold cellsG at hH0;unfold qfin2 at hRq;simp only[go_sem,hS.s2,hS.s3,hS.s4,hS.s7,hS.s8,hS.s9];refine zyb fun K hK=>?_;refine zzg q.bools (fun done=>∀r,q.bools=done++r→bndQ txt q.bools ps q=bndQ txt r (bndD txt ps q done).1 (bndD txt ps q done).2)
    (fun done rest=>⟨[(10,.d (.int .i64 done.length)),(4,.ptr 4 0),(7,.ptr 7 0),(8,.ptr 8 0)],(4,[.d (.int .i64 0),.d (.str []),.d (.int .i64 0),.full [],.full []])::(7,[.ptr 27 0])::(8,[.own 4000 4 ((bndD txt ps q done).1.map Pred.cells)])::bxRG v txt (bndD txt ps q done).2 4001 27 24 25,[(4000,true),(4001,true)]⟩) ?_ (fun r hr=>by rw[List.nil_append]at hr;rw[←hr];rfl) ?_ ?_
   ·refine zzk [(4000,c),(4001,a)] ?_;simp only[go_sem,hS.s4,hS.s7,hS.s8,hH.m4,hH.m7,hH.m8,hH0,hH.m1,hH.mm,hH.ta,hH.tc,bndD,bxRG,cellsRG,List.contains_cons,cN,hac,oS,lN,nZ,Nat.reduceBEq]
   ·intro done x r hl hI;have hd:=yvz txt done ps q;have hIx:=hI (x::r) hl;have hlt:=zzn hl;have hw:IntKind.i64.wrap ((done.length:Int)+1)=((done.length+1:Nat):Int):=zzf (by have:=hqb;omega);have hdl:done.length≤q.bools.length:=by rw[hl];simp
    have htD:=zJ6 txt (l:=done) (ps:=ps) (q:=q) htm;rw[ywB];generalize hDn:bndD txt ps q done=Dn at*
    obtain⟨dp,dq⟩:=Dn;simp only at hd hIx htD⊢;obtain⟨hd1,hd2,hd3⟩:=hd;rw[←hd1]at hlt;have hgx:(dq.bools.map tcellQ).getD done.length []=[.str x]:=by rw[hd1];exact getD_at (f:=tcellQ) hl
    have hl4:(∀e∈dq.bools.map tcellQ,e.length=1)=True:=eq_true (fun e he=>by obtain⟨q,_,rfl⟩:=List.mem_map.1 he;rfl);unfold zwA;refine zzd fun N1 h1=>?_;simp only[go_sem,bxRG,cellsRG,lM];intro _;obtain⟨dqf,dqb,dqx⟩:=dq;simp only at hd1 hd2 hd3 hgx hlt hl4;cases dqx with
    |true=>rw[bndQ,if_pos rfl]at hIx;simp only[go_sem,hK];refine tail9 (dp,⟨dqf,dqb,true⟩) _ ⟨rfl,rfl,rfl,rfl,rfl,rfl,rfl⟩ htD (by rw[hRq,hIx])
    |false=>
     simp only[bndQ,Bool.false_eq_true,if_false]at hIx;simp only[go_sem,hlt];subst h1;have hb1:=yzA Z v txt ‹ItoaP E› hT x false ⟨dqf,dqb,false⟩ (by simp only;omega);have k1:=zZq txt x false ⟨dqf,dqb,false⟩;have hb2:=yzA Z v txt ‹ItoaP E› hT x true (boundQ txt x false ⟨dqf,dqb,false⟩).2 (by have:=k1.2;simp only at this;omega);have k2:=zZq txt x true (boundQ txt x false ⟨dqf,dqb,false⟩).2;generalize boundQ txt x false ⟨dqf,dqb,false⟩=B1 at*
     obtain⟨P1,⟨q1f,q1b,q1x⟩⟩:=B1;simp only at k1 k2 hb1 hb2 hIx⊢;obtain⟨k1a,k1b⟩:=k1;subst k1a;generalize boundQ txt x true ⟨q1f,q1b,q1x⟩=B2 at*
     obtain⟨P2,⟨q2f,q2b,q2x⟩⟩:=B2;simp only at k2 hb2 hIx⊢;obtain⟨k2a,k2b⟩:=k2;subst k2a;have hp1:=Pred.zzb P1;have hp2:=Pred.zzb P2;rw[zJ5,zyt,zJ4];refine zzd fun NT hNT=>?_;refine zWI [(8,0,1),(7,0,1),(27,5,1)] ?_;simp only[go_sem,hlt,hgx,hl4,List.contains_cons,cN,Nat.reduceBEq,beq_self_eq_true];refine callRG hb1 4001 5000 27 24 25 rfl rfl (by simp only[go_sem]) rfl rfl rfl rfl rfl rfl ?_;simp only[go_sem,renRG,bxRG,cellsRG,hlt,hgx,hl4,List.contains_cons,cN,Nat.reduceBEq,beq_self_eq_true];refine callRG hb2 5000 5001 27 24 25 rfl rfl (by simp only[go_sem]) rfl rfl rfl rfl rfl rfl ?_;simp only[go_sem,renRG,bxRG,cellsRG,hlt,hgx,hl4,List.contains_cons,cN,Nat.reduceBEq,beq_self_eq_true,lM];subst hNT;refine yYF fun QC hQC=>?_;have leaf:∀st2:St,getS st2.slots 10=.d (.int .i64 done.length)→getS st2.slots 4=.ptr 4 0→getS st2.slots 7=.ptr 7 0→getS st2.slots 8=.ptr 8 0→
       getM st2.mem 4=some [.d (.int .i64 0),.d (.str []),.d (.int .i64 0),.full [],.full []]→getM st2.mem 7=some [.ptr 27 0]→getM st2.mem 8=some [.own 80 4 (dp.map Pred.cells++[P1.cells]++[P2.cells])]→
       getM st2.mem 27=some [.d (.lst (v.vars.map SVar.cells)),.d (.lst (v.syms.map SSym.cells)),.d (.lst (v.holes.map SHole.cells)),.mref 24,.own 5001 2 (q2f.map Lin.cells),.d (.lst (q2b.map tcellQ)),.mref 25,.d (.bool q2x)]→
       getM st2.mem 24=some [.mp zzN zxk (idxM txt q2f)]→getM st2.mem 25=some [.mp zzN zyY (takenM q2b)]→getT st2.tk 80=some true→getT st2.tk 5001=some true→awp E .skip QC st2:=by
      intro st2 g10 g4 g7 g8 n4 n7 n8 n27 n24 n25 t80 t51;subst hQC;have hcell:(dp++[P1,P2]).map Pred.cells=dp.map Pred.cells++[P1.cells]++[P2.cells]:=by simp
      simp only[go_sem,g10,hw];refine⟨zzk [(4000,80),(4001,5001)] ?_,fun r' hr'=>?_⟩
      ·simp only[go_sem,g4,g7,g8,n4,n7,n8,n27,n24,n25,t80,t51,bxRG,cellsRG,hcell,List.contains_cons,cN,Nat.reduceBEq,oS,lA,List.append_assoc]
      ·have:r'=r:=by have:=hl.symm.trans hr';simpa using this.symm
       rw[this,hIx]
     have o1:(dp.length+2)*56≤2^46:=by omega
     have o2:dp.length≤9223372036854775805:=by omega
     have hw2:IntKind.i64.wrap ((dp.length:Int)+1)=((dp.length+1:Nat):Int):=zzf (by omega);have hzz:(∀e∈dp.map Pred.cells,e.length=4)=True:=Pred.zyR dp
     repeat' (first
      |(rw[yYE];refine And.intro ?_ ?_)
      |(exact leaf _ rfl rfl rfl rfl rfl rfl rfl rfl rfl rfl rfl rfl)
      |(refine zzd fun Nz hNz=>?_
        simp only[go_sem,o1,o2,hw2,hzz,lM,lA,Nat.reduceSub,Pred.zzh];subst hNz))
   ·intro hI;have hI2:=hI [] (by simp);have htD:=zJ6 txt (l:=q.bools) (ps:=ps) (q:=q) htm;have hd1:=(yvz txt q.bools ps q).1;rw[bndQ]at hI2;have l0:decide ((q.bools.length:Int)<((bndD txt ps q q.bools).2.bools.length:Int))=false:=by rw[hd1];simp
    unfold zwA;refine zzd fun N1 h1=>?_;simp only[go_sem,bxRG,cellsRG,lM,l0];intro _;simp only[go_sem,hK];exact tail9 (bndD txt ps q q.bools) _ ⟨rfl,rfl,rfl,rfl,rfl,rfl,rfl⟩ htD (by rw[hRq,hI2])
  simp only[go_sem,hS.s2,hS.s3,hS.s7,hS.s8,hS.s9,e2,e3,e9,hpc];refine⟨_,hApps,?_⟩;simp only[go_sem];refine⟨_,hClos,?_⟩;simp only[go_sem];have hE:=zWP Z v txt hOf hI hJ hT (closS v (innerP 4 p [])) ps q (fun x hx=>⟨(hclo x hx).1,hgz (hclo x hx).1 (hclo x hx).2 (by omega)⟩) (by omega) (by omega) (by omega);have hok:=yxE (v:=v) (txt:=txt) (l:=closS v (innerP 4 p [])) (ps:=ps) (q:=q);have htm':=zK7 (v:=v) (txt:=txt) (l:=closS v (innerP 4 p [])) (ps:=ps) (q:=q) (fun x hx=>(hclo x hx).1) htm;unfold qfin1 at hRq;simp only at hRq;generalize eachQ v txt (closS v (innerP 4 p [])) ps q=ER at*
  obtain⟨ps',q'⟩:=ER;simp only at hRq hok hE htm';refine yz6 ⟨_,s.mem,s.tk⟩ (hcv _) ⟨[(1007,7),(1008,8),(1009,9),(1000,27),(1001,24),(1002,25)],[(2000,a),(2001,b),(2002,c)],[(2000,3010),(2001,3011),(2002,3012)],[.d (.lst ((closS v (innerP 4 p [])).map Pred.cells)),.ptr 1007 0,.ptr 1008 0,.ptr 1009 0],bxE v txt q ps 2000 2001 2002 1007 1008 1009 1000 1001 1002,bxE v txt q' ps' 2000 2001 2002 1007 1008 1009 1000 1001 1002,.tup []⟩ hE rfl rfl
   (okE' (by simp only[AV.toD]) hH.m7 hH.m8 hH.m9 hH.m0 hH.m1 hH.mm hH.ta hH.tb hH.tc hH.tn f1 f2 f3 rfl rfl) ?_
  simp only[go_sem,renE];refine tail8 ps' q' _ 3010 3011 3012 ⟨?_,?_,?_,?_,?_,?_⟩ ⟨?_,?_,?_,?_,?_,?_,?_,?_,?_,?_,?_,?_,?_⟩ htm' ?_ ?_ ?_ hRq
  ·simp only[go_sem,hS.s2]
  ·simp only[go_sem,hS.s3]
  ·simp only[go_sem,hS.s4]
  ·simp only[go_sem,hS.s7]
  ·simp only[go_sem,hS.s8]
  ·simp only[go_sem,hS.s9]
  ·simp only[go_sem,bxE,bxG];exact hH.m2
  ·simp only[go_sem,bxE,bxG];exact hH.m3
  ·simp only[go_sem,bxE,bxG];exact hH.m4
  ·rfl
  ·rfl
  ·rfl
  ·rfl
  ·rfl
  ·rfl
  ·rfl
  ·rfl
  ·rfl
  ·rfl
  ·have:=hok.1;omega
  ·have:=hok.2.f;omega
  ·have:=hok.2.b;omega
 simp only[go_sem];refine zza hSame ?_;simp only[go_sem];cases hz0:p.same zeroP with
 |true=>
  rw[hz0,if_pos rfl]at hR;simp only[go_sem];refine tail7 [] q0 _ _ 3000 3001 3002 ⟨rfl,rfl,rfl,rfl,rfl,rfl⟩ (conv3 rfl rfl rfl) rfl (by simp only[go_sem,hpc]) rfl
   ⟨rfl,by simp only[go_sem,hpc,List.set_cons_zero,List.set_cons_succ],rfl,rfl,rfl,rfl,rfl,rfl,rfl,rfl,rfl,rfl,rfl⟩ rfl rfl rfl (by simp) (by simp) (by simp[q0]) (by simp[q0]) hR.symm
 |false=>
  rw[hz0,if_neg (by decide)]at hR;simp only[go_sem];obtain⟨hgp,hcp⟩:=hgood hz0;have hc1:Pred.cnts [p]=p.cnt:=by simp[Pred.cnts]
  have hE:=zWP Z v txt hOf hI hJ hT [p] [] q0 (fun x hx=>by rw[List.mem_singleton.1 hx];exact⟨hgp,hz⟩) (by rw[hc1];simp[q0];omega) (by rw[hc1];simp[q0];omega) (by simp);have hok:=yxE (v:=v) (txt:=txt) (l:=[p]) (ps:=[]) (q:=q0);have htm:=zK7 (v:=v) (txt:=txt) (l:=[p]) (ps:=[]) (q:=q0) (fun x hx=>by rw[List.mem_singleton.1 hx];exact hgp) (by simp);rw[hc1]at hok;generalize eachQ v txt [p] [] q0=ER at*
  obtain⟨ps',q'⟩:=ER;simp only at hok hE htm;simp only[mC,mN,hpc]at hE;refine yz6 ⟨_,_,[(3002,true),(3001,true),(3000,true)]⟩ ⟨[(.m 27 4,3000,2),(.m 27 5,3001,1),(.m 8 0,3002,4)],⟨_,⟨_,_,rfl,rfl,by simp,rfl,rfl⟩,_,⟨_,_,rfl,rfl,by simp,rfl,rfl⟩,_,⟨_,_,rfl,rfl,by simp,rfl,rfl⟩,rfl⟩,rfl⟩
   ⟨[(1007,7),(1008,8),(1009,9),(1000,27),(1001,24),(1002,25)],[(2000,3000),(2001,3001),(2002,3002)],[(2000,3003),(2001,3004),(2002,3005)],_,bxE v txt q0 [] 2000 2001 2002 1007 1008 1009 1000 1001 1002,bxE v txt q' ps' 2000 2001 2002 1007 1008 1009 1000 1001 1002,.tup []⟩ hE rfl rfl
   (okE' (by simp only[AV.toD]) rfl rfl rfl rfl rfl rfl rfl rfl rfl rfl rfl rfl rfl rfl rfl) ?_
  simp only[go_sem,renE];have hl1:=hok.1;have hf1:=hok.2.f;have hb1:=hok.2.b;refine tail7 ps' q' _ _ 3003 3004 3005 ⟨rfl,rfl,rfl,rfl,rfl,rfl⟩ (yZj _) rfl (by simp only[go_sem,hpc,bxE,bxG,List.set_cons_zero,List.set_cons_succ]) rfl
   ⟨rfl,by simp only[go_sem,hpc,bxE,bxG,List.set_cons_zero,List.set_cons_succ],rfl,rfl,rfl,rfl,rfl,rfl,rfl,rfl,rfl,rfl,rfl⟩ rfl rfl rfl htm (by simpa using hl1) (by simp[q0]at hf1;omega) (by simp[q0]at hb1;omega) hR.symm
end Go.Abs
end
section
namespace Go.Abs
def okc(c:UInt8):Bool:=alnum c.toNat||c.toNat==95||c.toNat==46
def plc(c:UInt8):Bool:=decide (32≤c.toNat)&&decide (c.toNat≤126)&&c !=34&&c !=92
theorem yxC:∀s:List UInt8,s=(cutAt s).1++(if(cutAt s).2.2 then 46::(cutAt s).2.1 else[])
 |[]=>rfl
 |c::s=>by
  have ih:=yxC s;rw[cutAt];by_cases h:c.toNat=46
  ·rw[if_pos h];have:c=46:=UInt8.toNat_inj.1 h;rw[this];rfl
  ·rw[if_neg h];simp only[List.cons_append];rw[←ih]
theorem zWS{n}(h:isSmall n=true∨isCapital n=true∨isDigit n=true):alnum n=true:=by unfold alnum;rcases h with h|h|h<;>simp[h]
theorem yVw{s}(h:isName s=true):s.all okc=true:=by
 unfold isName at h;simp only[Bool.and_eq_true]at h;obtain⟨⟨⟨_,h1⟩,_⟩,h2⟩:=h;have hs:∀(i:Nat) (l:List UInt8),scan badName i l=true→l.all okc=true:=by
  intro i l;induction l generalizing i with
  |nil=>intro _;rfl
  |cons c l ih=>
   intro h;rw[scan,Bool.and_eq_true]at h;rw[List.all_cons,ih _ h.2,Bool.and_true];have hb:=h.1;unfold badName at hb;unfold okc;cases h3:isSmall (c.toNat:Int)with
   |true=>rw[zWS (.inl h3)];rfl
   |false=>
    cases h4:isDigit (c.toNat:Int)with
    |true=>rw[zWS (.inr (.inr h4))];rfl
    |false=>
     rw[h3,h4]at hb;simp at hb;have:c.toNat=95:=by omega
     simp[this]
 cases s with
 |nil=>rfl
 |cons c s=>rw[List.all_cons,hs 1 s h2,Bool.and_true];unfold okc;have h1':isSmall (c.toNat:Int)=true:=h1;rw[zWS (.inl h1')];rfl
theorem yws{s:List UInt8}(h:(s.all fun c=>alnum c.toNat)=true):s.all okc=true:=by rw[List.all_eq_true]at h⊢;intro c hc;unfold okc;rw[h c hc];rfl
theorem yJk{s}:∀{i},scan badWord i s=true→s.all okc=true:=by
 induction s with
 |nil=>intro _ _;rfl
 |cons c l ih=>
  intro i h;rw[scan,Bool.and_eq_true]at h;rw[List.all_cons,ih h.2,Bool.and_true];have hb:=h.1;unfold badWord at hb;unfold okc;cases h3:isSmall (c.toNat:Int)with
  |true=>rw[zWS (.inl h3)];rfl
  |false=>
   cases h4:isDigit (c.toNat:Int)with
   |true=>rw[zWS (.inr (.inr h4))];rfl
   |false=>
    rw[h3,h4]at hb;simp at hb;have:c.toNat=95:=by omega
    simp[this]
theorem yqJ{s}(h:okPart s=true):s.all okc=true:=by
 unfold okPart at h;cases h1:(s.all fun c=>alnum c.toNat)with
 |true=>exact yws h1
 |false=>rw[h1]at h;simp at h;exact yJk h.2
theorem yWn:∀(n) (s),s.length≤n→parts s=true→s.all okc=true:=by
 intro n;induction n with
 |zero=>intro s hs _;have:s=[]:=List.length_eq_zero_iff.1 (by omega)
        subst this;rfl
 |succ n ih=>
  intro s hs h;rw[parts]at h;have hc:=yxC s;by_cases hm:(cutAt s).2.2=true
  ·rw[dif_pos hm,Bool.and_eq_true]at h;have hl:=zqP s hm;rw[hc,if_pos hm,List.all_append,yqJ h.1,List.all_cons,ih _ (by omega) h.2];rfl
  ·rw[dif_neg hm]at h;rw[hc,if_neg hm,List.append_nil];exact yqJ h
theorem yxB{s}(h:isCore s=true):s.all okc=true:=by
 unfold isCore at h;simp only[Bool.and_eq_true]at h;obtain⟨⟨_,h1⟩,h2⟩:=h;have hc:=yxC s;have ha:(cutAt s).1.all okc=true:=by
  cases n1:isName (cutAt s).1 with
  |true=>exact yVw n1
  |false=>
   cases n2:isTitle (cutAt s).1 with
   |true=>unfold isTitle at n2;simp only[Bool.and_eq_true]at n2;exact yws n2.1.2
   |false=>rw[n1,n2]at h1;simp at h1;rw[h1.1];decide
 by_cases hm:(cutAt s).2.2=true
 ·rw[if_pos hm]at h2;rw[hc,if_pos hm,List.all_append,ha,List.all_cons,yWn _ _ (Nat.le_refl _) h2];rfl
 ·rw[hc,if_neg hm,List.append_nil];exact ha
theorem yqn{o}{s:Str}{n ks}(h:Pred.err (.mk o s n ks)=0):s.all okc=true:=by
 have h':nodeE o s n ks=0:=h;have ht:=(Good.top (o:=o) (s:=s) (n:=n) (ks:=[]));unfold nodeE at h';by_cases c1:(decide (o<1)||decide (o>18)||!s==[]&&!isOpNamed o||n !=0&&!(o==1||o==2)||!kidsOk o ks.length)=true
 ·rw[if_pos c1]at h';cases h'
 ·rw[if_neg c1]at h';by_cases c2:(o==1&&!inRange n||o==2&&(decide (n<0)||decide (n>1)))=true
  ·rw[if_pos c2]at h';cases h'
  ·rw[if_neg c2]at h';by_cases c3:(!calledOk o s)=true
   ·rw[if_pos c3]at h';cases h'
   ·have h3:calledOk o s=true:=by simpa using c3
    unfold calledOk at h3;by_cases e3:(o==3)=true
    ·rw[if_pos e3]at h3;rcases Bool.or_eq_true_iff.1 h3 with h|h
     ·rw[beq_iff_eq.1 h];decide
     ·exact yxB h
    ·rw[if_neg e3]at h3;by_cases e4:(o==4)=true
     ·rw[if_pos e4]at h3;rcases Bool.or_eq_true_iff.1 h3 with h|h
      ·rcases Bool.or_eq_true_iff.1 h with h|h
       ·rw[beq_iff_eq.1 h];decide
       ·rw[beq_iff_eq.1 h];decide
      ·exact yxB h
     ·rw[if_neg e4]at h3;by_cases e5:(o==5)=true
      ·rw[if_pos e5]at h3;exact yxB h3
      ·have:s=[]:=by
         have hn:isOpNamed o=false:=by simp only[isOpNamed,e3,e4,e5,Bool.or_self]
         simp only[Bool.or_eq_true,not_or,Bool.and_eq_true,not_and]at c1;have:=c1.1.1.2;rw[hn]at this;by_cases hs:s=[]
         ·exact hs
         ·exact absurd rfl (this (by simpa using hs))
       rw[this];rfl
theorem yQK{c}(h:okc c=true):plc c=true:=by
 have:∀n:Nat,n<256→okc (UInt8.ofNat n)=true→plc (UInt8.ofNat n)=true:=by decide+kernel
 have h2:=this c.toNat c.toNat_lt (by simpa using h);simpa using h2
theorem yVF{s:List UInt8}(h:s.all okc=true):s.all plc=true:=by rw[List.all_eq_true]at h⊢;exact fun c hc=>yQK (h c hc)
theorem yVl(n):(Lib.itoa n).all plc=true:=by
 have hd:∀u:Nat,(Lib.decDigits u).all plc=true:=fun u=>by
  rw[List.all_eq_true];intro c hc;have:=zwo u c hc;have key:∀n:Nat,n<256→48≤n→n≤57→plc (UInt8.ofNat n)=true:=by decide+kernel
  have h2:=key c.toNat c.toNat_lt this.1 this.2;simpa using h2
 unfold Lib.itoa;split
 ·rw[List.all_cons,hd];rfl
 ·exact hd _
theorem yWT(o):(signT o).all plc=true:=by
 unfold signT;split
 ·rfl
 ·have:∀k,(signL.getD k []).all plc=true:=by
    intro k;rcases Nat.lt_or_ge k 13 with h|h
    ·have:∀k,k<13→(signL.getD k []).all plc=true:=by decide+kernel
     exact this k h
    ·rw[List.getD_eq_getElem?_getD,List.getElem?_eq_none (by exact h)];rfl
  exact this _
theorem yXx{o s}(h:s.all plc=true):(headS o s).all plc=true:=by
 unfold headS;split
 ·exact h
 ·split
  ·rw[List.all_cons,h];rfl
  ·exact yWT o
theorem yVm:∀{l:List Str},(∀x∈l,x.all plc=true)→(Lib.join l [44]).all plc=true
 |[],_=>by rw[Lib.join_nil];rfl
 |x::r,h=>by
  rw[Lib.join_cons,List.all_append,h x (by simp),Bool.true_and];unfold Lib.joinTail;rw[List.all_eq_true];intro c hc;obtain⟨y,hy,hc⟩:=List.mem_flatten.1 hc;obtain⟨z,hz,rfl⟩:=List.mem_map.1 hy;rcases List.mem_append.1 hc with hc|hc
  ·rw[List.mem_singleton.1 hc];decide
  ·exact List.all_eq_true.1 (h z (by simp[hz])) c hc
theorem zKz(p):Good p→(nameS p).all plc=true:=by
 induction p using Pred.ind with
 |h o s n ks ih=>
 intro hg;have hs:=yVF (yqn (o:=o) (s:=s) (n:=n) (ks:=ks) (hg _ (zjH o s n ks)));rw[zZF];split
 ·exact yVl n
 ·split
  ·split<;>decide
  ·split
   ·exact hs
   ·rw[List.all_append,List.all_append,List.all_append,yXx hs,yVm fun x hx=>by obtain⟨k,hk,rfl⟩:=List.mem_map.1 hx;exact ih k hk (hg.kid hk)];rfl
def PlainL(a:Lin):Prop:=∀c∈a.coefs,c.name.all plc=true
def txt0(a:Lin):Str:=(a.coefs.flatMap fun c=>Lib.itoa c.n++32::34::(c.name++34::[32]))++Lib.itoa a.c
theorem yxV{c}(hc:c=32∨c=34)(n):c∉Lib.itoa n:=by
 have hd:∀u:Nat,c∉Lib.decDigits u:=fun u hu=>by have:=zwo u c hu;rcases hc with rfl|rfl<;>simp at this
 intro h;unfold Lib.itoa at h;split at h
 ·rcases List.mem_cons.1 h with h|h
  ·rcases hc with rfl|rfl<;>cases h
  ·exact hd _ h
 ·exact hd _ h
theorem yJL{s:Str}(h:s.all plc=true):(34:UInt8)∉s:=fun hm=>by have:=List.all_eq_true.1 h 34 hm;simp[plc]at this
theorem yJe:∀{a b},PlainL a→PlainL b→txt0 a=txt0 b→a=b:=by
 rintro⟨l,c⟩ ⟨m,d⟩ ha hb h
 have key:∀(l m:List Coef),(∀c∈l,c.name.all plc=true)→(∀c∈m,c.name.all plc=true)→(l.flatMap fun c=>Lib.itoa c.n++32::34::(c.name++34::[32]))++Lib.itoa c=(m.flatMap fun c=>Lib.itoa c.n++32::34::(c.name++34::[32]))++Lib.itoa d→l=m∧c=d:=by
  intro l;induction l with
  |nil=>
   intro m _ _ h;cases m with
   |nil=>exact⟨rfl,zKs (by simpa using h)⟩
   |cons y m=>
    exfalso;have:(32:UInt8)∈Lib.itoa c:=by rw[List.flatMap_nil,List.nil_append]at h;rw[h];simp
    exact yxV (.inl rfl) c this
  |cons x l ih=>
   intro m hl hm h;cases m with
   |nil=>
    exfalso;have:(32:UInt8)∈Lib.itoa d:=by rw[List.flatMap_nil,List.nil_append]at h;rw[←h];simp
    exact yxV (.inl rfl) d this
   |cons y m=>rw[List.flatMap_cons,List.flatMap_cons]at h;simp only[List.append_assoc,List.cons_append,List.nil_append]at h;obtain⟨h1,h2⟩:=yYW (yxV (.inl rfl) _) (yxV (.inl rfl) _) h;simp only[List.cons.injEq,true_and]at h2;obtain⟨h3,h4⟩:=yYW (yJL (hl x (by simp))) (yJL (hm y (by simp))) h2;simp only[List.cons.injEq,true_and]at h4;obtain⟨h5,h6⟩:=ih m (fun c hc=>hl c (by simp[hc])) (fun c hc=>hm c (by simp[hc])) h4;obtain⟨xn,xk⟩:=x;obtain⟨yn,yk⟩:=y;simp only at h3 h1;exact⟨by rw[h5,h3,zKs h1],h6⟩
 obtain⟨h1,h2⟩:=key l m ha hb h;rw[h1,h2]
end Go.Abs
end
section
namespace Go.Abs
theorem zj8:PlainL noLin:=by intro c hc;cases hc
theorem yYq:∀(n) (a b),a.length+b.length≤n→∀c∈addGo a b,∃d,(d∈a∨d∈b)∧d.name=c.name:=by
 intro n;induction n with
 |zero=>intro a b h c hc;rw[List.length_eq_zero_iff.1 (show a.length=0 by omega),zkt]at hc;exact⟨c,.inr hc,rfl⟩
 |succ n ih=>
  intro a b h c hc;cases a with
  |nil=>rw[zkt]at hc;exact⟨c,.inr hc,rfl⟩
  |cons x a=>
   cases b with
   |nil=>rw[zwl]at hc;exact⟨c,.inl hc,rfl⟩
   |cons y b=>
    rw[zXf]at hc;simp only[lC]at h;split at hc
    ·rcases List.mem_cons.1 hc with rfl|hc
     ·exact⟨_,.inl (by simp),rfl⟩
     ·obtain⟨d,hd,hn⟩:=ih a (y::b) (by simp only[lC];omega) c hc;exact⟨d,hd.imp (fun h=>by simp[h]) id,hn⟩
    ·split at hc
     ·rcases List.mem_cons.1 hc with rfl|hc
      ·exact⟨_,.inr (by simp),rfl⟩
      ·obtain⟨d,hd,hn⟩:=ih (x::a) b (by simp only[lC];omega) c hc;exact⟨d,hd.imp id (fun h=>by simp[h]),hn⟩
     ·rcases List.mem_append.1 hc with hc|hc
      ·unfold addHd at hc;split at hc
       ·rw[List.mem_singleton.1 hc];exact⟨x,.inl (by simp),rfl⟩
       ·cases hc
      ·obtain⟨d,hd,hn⟩:=ih a b (by omega) c hc;exact⟨d,hd.imp (fun h=>by simp[h]) (fun h=>by simp[h]),hn⟩
theorem zqI{a b}(ha:PlainL a)(hb:PlainL b):PlainL (addL a b).1:=by
 unfold addL;split
 ·exact zj8
 ·unfold rightL;split
  ·exact zj8
  ·intro c hc;obtain⟨d,hd,hn⟩:=yYq _ a.coefs b.coefs (Nat.le_refl _) c hc;rw[←hn];rcases hd with hd|hd
   ·exact ha d hd
   ·exact hb d hd
theorem zvI{a k}(ha:PlainL a):PlainL (scaleL a k).1:=by
 unfold scaleL;split
 ·exact zj8
 ·split
  ·exact zj8
  ·split
   ·intro c hc;obtain⟨d,hd,rfl⟩:=List.mem_map.1 hc;exact ha d hd
   ·exact zj8
theorem zQN{a}(ha:PlainL a):PlainL (formL a).1:=by
 unfold formL;split
 ·exact zj8
 ·split
  ·split
   ·intro c hc;cases hc
   ·split
    ·intro c hc;cases hc
    ·exact zj8
  ·intro c hc;obtain⟨d,hd,rfl⟩:=List.mem_map.1 hc;exact ha d hd
theorem zVE{s}(h:s.all plc=true):PlainL (varL s).1:=zqI (by intro c hc;rw[List.mem_singleton.1 hc];exact h) zj8
theorem zQX{s}(h:s.all plc=true):PlainL (lessL s).1:=zqI (zVE h) (by intro c hc;cases hc)
theorem yZL{s}(h:s.all plc=true):PlainL (negL s).1:=zvI (zVE h)
theorem zQO(p):Good p→PlainL (formT p).1:=by
 induction p using Pred.ind with
 |h o s n ks ih=>
 intro hg;have hv:=zVE (nameS_plain hg);rcases ks with _|⟨a,_|⟨b,_|⟨c,r⟩⟩⟩
 ·rw[formT]
  ·split
   ·intro c hc;cases hc
   ·exact hv
  ·simp
  ·simp
 ·rw[formT];split
  ·intro c hc;cases hc
  ·split
   ·exact zvI (ih a (by simp) (hg.kid (by simp)))
   ·exact hv
 ·rw[formT];have ha:=ih a (by simp) (hg.kid (by simp));have hb:=ih b (by simp) (hg.kid (by simp));split
  ·intro c hc;cases hc
  ·split
   ·exact zqI ha hb
   ·split
    ·exact zqI ha (zvI hb)
    ·split
     ·exact zvI hb
     ·exact hv
 ·rw[formT]
  ·split
   ·intro c hc;cases hc
   ·exact hv
  ·simp
  ·simp
where nameS_plain {p:Pred} (h:Good p):(nameS p).all plc=true:=zKz p h
theorem zQg{a b}(ha:Good a)(hb:Good b):PlainL (diffL a b).1:=zqI (zQO a ha) (zvI (zQO b hb))
structure PQ(q:QS):Prop where
 f:∀g∈q.forms,PlainL g
 b:∀s∈q.bools,s.all plc=true
variable{txt:Lin→Str}(hx:∀a,PlainL a→txt a=txt0 a)
include hx
theorem zQ0{k}:∀{fs} (i),(∀g∈fs,PlainL g)→lookG txt k i fs=lookG txt0 k i fs
 |[],_,_=>rfl
 |f::r,i,h=>by rw[lookG,lookG,zQ0 (i+1) fun g hg=>h g (by simp[hg]),hx f (h f (by simp))]
theorem zKT{d q}(hd:PlainL d)(hq:PQ q):askS txt d q=askS txt0 d q∧PQ (askS txt0 d q).2:=by
 have hf:=zQN hd;constructor
 ·unfold askS lookI;rw[hx _ hf,zQ0 hx 0 hq.f]
 ·unfold askS;split
  ·exact hq
  ·refine⟨fun g hg=>?_,hq.b⟩;rcases List.mem_append.1 hg with hg|hg
   ·exact hq.f g hg
   ·rw[List.mem_singleton.1 hg];exact hf
theorem yzP{d q}(hd:PlainL d)(hq:PQ q):zeroQ txt d q=zeroQ txt0 d q∧PQ (zeroQ txt0 d q).2:=by obtain⟨h1,h2⟩:=zKT hx hd hq;unfold zeroQ;rw[h1];exact⟨rfl,by split<;>assumption⟩
theorem zWu{d q}(hd:PlainL d)(hq:PQ q):mostQ txt d q=mostQ txt0 d q∧PQ (mostQ txt0 d q).2:=by obtain⟨h1,h2⟩:=zKT hx hd hq;unfold mostQ;rw[h1];exact⟨rfl,by split;exact hq;split<;>assumption⟩
theorem ywz{d q}(hd:PlainL d)(hq:PQ q):belowQ txt d q=belowQ txt0 d q∧PQ (belowQ txt0 d q).2:=by obtain⟨h1,h2⟩:=zKT hx hd hq;unfold belowQ;rw[h1];exact⟨rfl,by split;exact hq;split<;>assumption⟩
omit hx in
theorem PQ.note{q:QS}(h:PQ q)(b:Bool):PQ (q.note b):=⟨h.f,h.b⟩
omit hx in
theorem PQ.take{q:QS}{s:Str}(h:PQ q)(hs:s.all plc=true):PQ (q.take s):=by
 unfold QS.take;split
 ·exact h
 ·refine⟨h.f,fun t ht=>?_⟩;rcases List.mem_append.1 ht with ht|ht
  ·exact h.b t ht
  ·rw[List.mem_singleton.1 ht];exact hs
theorem yvf{s q}(hs:s.all plc=true)(hq:PQ q):valueQ txt s q=valueQ txt0 s q∧PQ (valueQ txt0 s q).2:=
 yzP hx (zQX hs) ((hq.take hs).note _)
theorem zVK{s up q}(hs:s.all plc=true)(hq:PQ q):boundQ txt s up q=boundQ txt0 s up q∧PQ (boundQ txt0 s up q).2:=by
 unfold boundQ;split
 ·exact zWu hx (zQX hs) (hq.note _)
 ·exact zWu hx (yZL hs) (hq.note _)
theorem yZh{o d q}(hd:PlainL d.1)(hq:PQ q):cmpQ txt o d q=cmpQ txt0 o d q∧PQ (cmpQ txt0 o d q).2:=by
 obtain⟨h1,h2⟩:=yzP hx hd (hq.note d.2);obtain⟨h3,h4⟩:=zWu hx hd (hq.note d.2);obtain⟨h5,h6⟩:=ywz hx hd (hq.note d.2);unfold cmpQ;rw[h1,h3,h5];refine⟨rfl,?_⟩;split
 ·exact hq.note _
 ·split
  ·exact h2
  ·split
   ·exact h2
   ·split<;>assumption
theorem ykj{v}:∀{l} (_:∀k∈l,∀q,PQ q→predQ v txt k q=predQ v txt0 k q∧PQ (predQ v txt0 k q).2) (q),PQ q→predQ.go v txt l q=predQ.go v txt0 l q∧PQ (predQ.go v txt0 l q).2
 |[],_,q,hq=>⟨rfl,hq⟩
 |k::l,h,q,hq=>by obtain⟨h1,h2⟩:=h k (by simp) q hq;obtain⟨h3,h4⟩:=ykj (v:=v) (l:=l) (fun k hk=>h k (by simp[hk])) _ h2;rw[predQ.go,predQ.go,h1,h3];exact⟨rfl,h4⟩
theorem yjc{v}(p):Good p→∀q,PQ q→predQ v txt p q=predQ v txt0 p q∧PQ (predQ v txt0 p q).2:=by
 induction p using Pred.ind with
 |h o s n ks ih=>
 intro hg q hq;obtain⟨h1,h2⟩:=ykj hx (v:=v) (l:=ks) (fun k hk q hq=>ih k hk (hg.kid hk) q hq) q hq;obtain⟨h3,h4⟩:=yvf hx (zKz _ hg) hq;rw[predQ,predQ,h1,h3];split
 ·exact⟨rfl,hq⟩
 ·split
  ·exact⟨rfl,h4⟩
  ·split
   ·rename_i hc;split
    ·exact⟨rfl,h2⟩
    ·obtain⟨_,hkk,_,_⟩:=hg.top;have hor:o=10∨o=11∨o=12∨o=13:=by simpa using hc
     obtain⟨a,b,rfl⟩:=zZE hkk (by omega) (by omega) (by omega) (by omega) (by omega) (by omega) (by omega);exact yZh hx (zQg (hg.kid (by simp)) (hg.kid (by simp))) hq
   ·exact⟨rfl,h2⟩
theorem zWh{v}:∀{l ps} {q},(∀k∈l,Good k)→PQ q→eachQ v txt l ps q=eachQ v txt0 l ps q∧PQ (eachQ v txt0 l ps q).2
 |[],ps,q,_,hq=>⟨rfl,hq⟩
 |k::l,ps,q,hg,hq=>by
  obtain⟨h1,h2⟩:=yjc hx (v:=v) k (hg k (by simp)) q hq;rw[eachQ,eachQ,h1];split
  ·exact⟨rfl,hq⟩
  ·exact zWh (fun k hk=>hg k (by simp[hk])) h2
theorem yz5:∀{l} {ps} {q},(∀s∈l,s.all plc=true)→PQ q→bndQ txt l ps q=bndQ txt0 l ps q∧PQ (bndQ txt0 l ps q).2
 |[],ps,q,_,hq=>⟨rfl,hq⟩
 |s::l,ps,q,hs,hq=>by
  obtain⟨h1,h2⟩:=zVK hx (up:=false) (hs s (by simp)) hq;obtain⟨h3,h4⟩:=zVK hx (up:=true) (hs s (by simp)) h2;rw[bndQ,bndQ,h1,h3];split
  ·exact⟨rfl,hq⟩
  ·exact yz5 (fun k hk=>hs k (by simp[hk])) h4
omit hx in
theorem zJ7{v:SEnv}{p:Pred}(hb:BoolS v p=0)(hz:p.same zeroP=false):Good p:=by
 unfold BoolS at hb;rw[hz,if_neg (by decide)]at hb;refine zWq ?_;by_cases hc:p.checkE=0
 ·exact hc
 ·exfalso;unfold OfS at hb;have hc':(p.checkE !=0)=true:=by simpa using hc
  rw[if_pos hc']at hb;have hc2:(p.checkE==0)=false:=by simpa using hc
  simp only[hc2,Bool.false_and,Bool.false_eq_true,if_false]at hb;exact hc hb
omit hx in
theorem ywu{v:SEnv}{p:Pred}(hb:BoolS v p=0):∀x∈innerP 4 p [],Good x:=by
 intro x hx;cases hz:p.same zeroP with
 |true=>rw[(Pred.zyC p zeroP).1 hz]at hx;cases hx
 |false=>
  rcases zYR p [] hx with h|h
  ·cases h
  ·exact(zJ7 hb hz).sub h
omit hx in
theorem ywP{v:SEnv}{l:List Pred}(h:∀x∈l,Good x):∀x∈closS v l,Good x:=by
 intro x hx;have hm:∃m,∀x∈l,x.cnt≤m:=by
  clear hx;induction l with
  |nil=>exact⟨0,by simp⟩
  |cons y l ih=>
   obtain⟨m,hm⟩:=ih fun x hx=>h x (by simp[hx]);refine⟨m+y.cnt,fun x hx=>?_⟩;rcases List.mem_cons.1 hx with rfl|hx
   ·omega
   ·have:=hm x hx;omega
 obtain⟨m,hm⟩:=hm;exact(zJF (m:=m) (fun x hx=>⟨h x hx,hm x hx⟩) x hx).1
omit hx in
theorem yqN:PQ q0:=⟨by simp[q0],by simp[q0]⟩
theorem ykQ(v)(p):questQ v txt p=questQ v txt0 p:=by
 unfold questQ;by_cases hb:BoolS v p=0
 ·have hb':(BoolS v p !=0)=false:=by simpa using hb
  simp only[hb',Bool.false_eq_true,if_false];split
  ·rfl
  ·have key:∀r:List Pred×QS,PQ r.2→qfin1 v txt p r=qfin1 v txt0 p r:=by intro r hr;obtain⟨h1,h2⟩:=zWh hx (v:=v) (l:=closS v (innerP 4 p [])) (ps:=r.1) (q:=r.2) (ywP (ywu hb)) hr;unfold qfin1 qfin2;rw[h1];obtain⟨h3,_⟩:=yz5 hx (l:=(eachQ v txt0 (closS v (innerP 4 p [])) r.1 r.2).2.bools) (ps:=(eachQ v txt0 (closS v (innerP 4 p [])) r.1 r.2).1) h2.b h2;rw[h3]
   cases hz:p.same zeroP with
   |true=>simp only[if_true];exact key _ yqN
   |false=>simp only[Bool.false_eq_true,if_false];obtain⟨h1,h2⟩:=zWh hx (v:=v) (l:=[p]) (ps:=[]) (q:=q0) (fun k hk=>by rw[List.mem_singleton.1 hk];exact zJ7 hb hz) yqN;rw[h1];exact key _ h2
 ·have hb':(BoolS v p !=0)=true:=by simpa using hb
  simp only[hb',if_true]
end Go.Abs
end
section
namespace Go.Abs
def vP(s:Str):Pred:=.mk 3 s 0 []
def twP(o:Int)(a b:Pred):Pred:=.mk o [] 0 [a,b]
def nP(k:Int):Pred:=.mk 1 [] k []
def apX(s:Str)(p:Pred):Pred:=.mk 4 s 0 [p]
def envE:SEnv:=⟨[⟨[120],[73,110,116]⟩,⟨[121],[73,110,116]⟩,⟨[98],[66,111,111,108]⟩],[⟨[102],[[73,110,116]],[73,110,116]⟩],[]⟩
theorem yY2:envE.Ok:=⟨by intro s hs;simp[envE]at hs;subst hs;simp[Small],by intro s hs;simp[envE]at hs⟩
def exA:Pred:=twP 15 (twP 12 (vP [120]) (vP [121])) (twP 12 (vP [121]) (vP [120]))
def exB:Pred:=twP 15 (twP 15 (twP 10 (apX [102] (vP [120])) (nP 1)) (twP 10 (apX [102] (vP [121])) (nP 2))) (twP 10 (vP [120]) (vP [121]))
def exD:Pred:=twP 15 (twP 10 (twP 8 (nP 2) (vP [120])) (nP 4)) (twP 10 (twP 8 (nP 3) (vP [120])) (nP 6))
def bdA:Pred:=.mk 15 [] 0 [.mk 15 [] 0 [.mk 13 [] 0 [vP [48],.mk 1 [] 0 []],.mk 14 [] 0 [.mk 10 [] 0 [vP [48],.mk 1 [] 0 []]]],.mk 14 [] 0 [.mk 13 [] 0 [vP [48],.mk 1 [] 0 []]]]
def bdD:Pred:=.mk 15 [] 0 [.mk 10 [] 0 [vP [48],.mk 1 [] 0 []],.mk 10 [] 0 [vP [48],.mk 1 [] 0 []]]
def smallA(l:List Pred):Bool:=l.all fun p=>!decide (p.nodes>80)
def lightA(v:SEnv):Bool:=decide ((v.vars.length:Int)≤12)&&decide ((v.syms.length:Int)≤8)&&decide ((v.holes.length:Int)≤4)
theorem quA:questQ envE txt0 exA=(⟨bdA,[⟨[⟨[120],1⟩,⟨[121],-1⟩],0⟩]⟩,0):=by kernel_rfl
theorem quB2:(questQ envE txt0 exB).2=0:=by kernel_rfl
theorem quB1:(questQ envE txt0 exB).1.forms.length=4:=by kernel_rfl
theorem quC2:(questQ envE txt0 (vP [98])).2=0:=by kernel_rfl
theorem quC1:(questQ envE txt0 (vP [98])).1.forms=[⟨[⟨[98],1⟩],-1⟩,⟨[⟨[98],1⟩],0⟩]:=by kernel_rfl
theorem quD:questQ envE txt0 exD=(⟨bdD,[⟨[⟨[120],1⟩],-2⟩]⟩,0):=by kernel_rfl
theorem evA:evalS [-1] bdA=0∧evalS [0] bdA=0∧evalS [1] bdA=0:=by refine⟨?_,?_,?_⟩<;>kernel_rfl
theorem evD:evalS [-1] bdD=0∧evalS [0] bdD=1∧evalS [1] bdD=0:=by refine⟨?_,?_,?_⟩<;>kernel_rfl
theorem yQ6:innerP 4 exB []=[apX [102] (vP [120]),apX [102] (vP [121])]:=by kernel_rfl
theorem flB:innerP 4 (flatS exB) []=[]:=by kernel_rfl
theorem cnB:(flatS exB).cnt≤1000:=by decide+kernel
theorem clB:(closS envE [apX [102] (vP [120]),apX [102] (vP [121])]).length=1:=by kernel_rfl
theorem nmX:nameS (twP 6 (nP (-3)) (apX [102] (vP [120])))=[43,40,45,51,44,102,40,120,41,41]:=by kernel_rfl
theorem rwC:(rowsS [⟨[⟨[98],1⟩],-1⟩,⟨[⟨[98],1⟩],0⟩] [0,1]).map Row.cells=[[.lst [[.str [98],.int .i64 1]],.int .i64 (-1),.bool true],[.lst [[.str [98],.int .i64 (-1)]],.int .i64 1,.bool false]]:=by kernel_rfl
structure Law12(E:AEnv):Prop where
 sys:Sys E
 of:∀v p,v.Ok→E.C zzF [.agg v.cells,.agg p.cells] (two (OfS v p))
 chk:∀p,E.C zws [.agg (Pred.cells p)] (.one (.int .i64 p.checkE))
 itoa:ItoaP E
 atoi:AtoiP E
 join:JoinP E
 text:∃txt,TextP E txt∧∀a,PlainL a→txt a=txt0 a
theorem yKp{α:Type}{f l a r}{x:α}(hl:l=a++x::r)(ha:∀y∈a,f y=true):l.all f=(f x&&r.all f):=by
 rw[hl,List.all_append,List.all_cons,List.all_eq_true.2 ha,Bool.true_and]
theorem zQ7{k}:∀{ks},k∈ks→k.sz≤Pred.szs ks
 |[],h=>by cases h
 |x::ks,h=>by
  rw[Pred.szs];rcases List.mem_cons.1 h with rfl|h
  ·omega
  ·have:=zQ7 h;omega
theorem yV6{q p}(h:SubP q p):q.name.length≤p.sz:=by
 induction h with
 |self=>obtain⟨o,s,n,ks⟩:=q;have:=@zjU o s n ks;show s.length≤_;omega
 |@kid k p hk _ ih=>obtain⟨o,s,n,ks⟩:=p;have h1:=@zjU o s n ks;have h2:k.sz≤Pred.szs ks:=zQ7 hk;omega
theorem zWv{p}(h:p.sz≤1048576):NamesP p:=fun q hq=>by have:=yV6 hq;omega
instance (n:Int):Decidable (I64 n):=by unfold I64;infer_instance
theorem exB_i:IPred exB:=by unfold IPred AllN;decide+kernel
theorem exX_i:IPred (twP 6 (nP (-3)) (apX [102] (vP [120]))):=by unfold IPred AllN;decide+kernel
theorem w_m1:IntKind.i64.wrap (-1)= -1:=by decide
theorem w_0:IntKind.i64.wrap 0=0:=by decide
theorem w_1:IntKind.i64.wrap 1=1:=by decide
theorem w_2:IntKind.i64.wrap 2=2:=by decide
theorem Law12.quest{E}(L:Law12 E)(v)(hv:v.Ok)(p)(hz:p.sz≤1048576):E.C zzP [.agg v.cells,.agg p.cells] (.tup [.agg (questQ v txt0 p).1.cells,.one (.int .i64 (questQ v txt0 p).2)]):=by obtain⟨txt,hT,hx⟩:=L.text;have h:=yvm L.sys v txt (fun p=>L.of v p hv) L.itoa L.join hT p hz;rw[ykQ hx]at h;exact h
theorem yVr{E}(Z:Sys E)(s:Str):E.C l12_v [.one (.str s)] (.agg (vP s).cells):=by refine Z.l12_v _ _ ⟨b0l rfl,?_⟩;simp only[yqd,go_sem,vP,Pred.zzb,Pred.op,Pred.name,Pred.n,Pred.kids]
theorem yVq{E}(Z:Sys E)(n):E.C l12_n [.one (.int .i64 n)] (.agg (nP n).cells):=by refine Z.l12_n _ _ ⟨b0l rfl,?_⟩;simp only[yqc,go_sem,nP,Pred.zzb,Pred.op,Pred.name,Pred.n,Pred.kids]
theorem yZC{E}(Z:Sys E)(o)(a b):E.C zxs [.one (.int .i64 o),.agg a.cells,.agg b.cells] (.agg (twP o a b).cells):=by refine Z.zxs _ _ ⟨b0l rfl,?_⟩;rw[twP,Pred.zzb (.mk o [] 0 [a,b])];simp only[yyi,go_sem,Pred.op,Pred.name,Pred.n,Pred.kids]
theorem yZA{E}(Z:Sys E)(s:Str)(a):E.C zYU [.one (.str s),.agg a.cells] (.agg (apX s a).cells):=by refine Z.zYU _ _ ⟨b0l rfl,?_⟩;rw[apX,Pred.zzb (.mk 4 s 0 [a])];simp only[yyg,go_sem,Pred.op,Pred.name,Pred.n,Pred.kids]
theorem yZB{E}(Z:Sys E):E.C zqz [] (.agg envE.cells):=by refine Z.zqz _ _ ⟨b0l rfl,?_⟩;simp only[yyh,go_sem];simp only[envE,SEnv.cells,mC,mN,SVar.cells,SSym.cells,scell]
theorem zYV{E}(Z:Sys E)(v):E.C zkM [.agg v.cells] (.one (.bool (lightA v))):=by refine Z.zkM _ _ ⟨b0l rfl,?_⟩;generalize hR:lightA v=R;unfold lightA at hR;rw[SEnv.cells];simp only[zVP,go_sem,lM];intro _ _ _;exact hR
theorem zvB{E}(Z:Sys E)(l):E.C zx6 [.one (.lst (l.map Pred.cells))] (.one (.bool (smallA l))):=by
 have hn:=zJk Z;refine Z.zx6 _ _ ⟨b0l rfl,?_⟩;generalize hR:smallA l=R;unfold smallA at hR;simp only[zVR,go_sem];refine zzg l (fun done=>∀y∈done,(!decide (y.nodes>80))=true) (fun done rest=>⟨[(3,.d (.int .i64 done.length)),(0,.d (.lst (l.map Pred.cells)))],[],[]⟩) ?_ (by simp) ?_ ?_
 ·exact zze (by simp only[go_sem])
 ·intro done x r hl hI;have hlt:=zzn hl;rw[yKp hl hI]at hR;simp only[zjp,go_sem,zzz hl,hlt];intro hlen;have hw:IntKind.i64.wrap ((done.length:Int)+1)=((done.length+1:Nat):Int):=zzf (by omega);refine zza (hn x) ?_;simp only[go_sem];cases h1:(decide (x.nodes>80))with
  |true=>simp only[h1,go_sem]at hR⊢;exact hR
  |false=>simp only[go_sem,hw,lA];exact⟨zze (by simp only[go_sem]),zzY hI (by rw[h1];rfl)⟩
 ·intro hI;have hall:l.all (fun y=>!decide (y.nodes>80))=true:=List.all_eq_true.2 hI;rw[hall]at hR;subst hR;simp only[zjp,go_sem,implies_true]
set_option maxHeartbeats 4000000 in
theorem zkj{E}(L:Law12 E):E.C zzS [] (.one (.bool true)):=by
 have Z:=L.sys;have he:=yZB Z;have hv:=fun s=>yVr Z s;have hn:=fun n=>yVq Z n;have ht:=fun o a b=>yZC Z o a b;have ha:=fun s a=>yZA Z s a;have hq:=fun p hz=>L.quest envE yY2 p hz;have qa:=hq exA (b0l (by kernel_rfl));have qb:=hq exB (b0l (by kernel_rfl));have qc:=hq (vP [98]) (b0l (by kernel_rfl));have qd:=hq exD (b0l (by kernel_rfl));have hfl:=zWW Z L.itoa L.join exB exB_i (b0l (by kernel_rfl));have hfa:=zY2 Z (flatS exB) (zxN _ (by have:=cnB;omega)) (by have:=cnB;omega);have hcl:=zvJ Z envE (fun p=>L.of _ p yY2) [apX [102] (vP [120]),apX [102] (vP [121])] (by unfold Small;simp) (by intro p hp;simp only[List.mem_cons,List.not_mem_nil,or_false]at hp;rcases hp with rfl|rfl<;>exact zxN _ (by decide+kernel));have hnm:=zwm Z L.itoa L.join (twP 6 (nP (-3)) (apX [102] (vP [120]))) exX_i (b0l (by kernel_rfl));have hrw:=zZp Z [⟨[⟨[98],1⟩],-1⟩,⟨[⟨[98],1⟩],0⟩] [0,1] (by simp);have hea:=fun s=>zvZ Z L.atoi L.itoa [s] (by simp) bdA (zWv (b0l (by kernel_rfl)));have hed:=fun s=>zvZ Z L.atoi L.itoa [s] (by simp) bdD (zWv (b0l (by kernel_rfl)));have ea1:=hea (-1);have ea2:=hea 0;have ea3:=hea 1;have ed1:=hed (-1);have ed2:=hed 0;have ed3:=hed 1;rw[evA.1]at ea1;rw[evA.2.1]at ea2;rw[evA.2.2]at ea3;rw[evD.1]at ed1;rw[evD.2.1]at ed2;rw[evD.2.2]at ed3;rw[nmX]at hnm;rw[rwC]at hrw;rw[yQ6]at hfl;rw[flB]at hfa;rw[quA]at qa;rw[quD]at qd;refine Z.zzS _ _ ⟨b0l rfl,?_⟩;unfold zVO;have hb:=quB2;have hb1:=quB1;have hc:=quC2;have hc1:=quC1;have hcl1:=clB;generalize questQ envE txt0 exB=QB at*
 generalize questQ envE txt0 (vP [98])=QC at*
 generalize closS envE [apX [102] (vP [120]),apX [102] (vP [121])]=CL at*
 generalize flatS exB=FB at*
 have hx:E.C zxs [.one (.int .i64 15),.agg (twP 15 (twP 10 (apX [102] (vP [120])) (nP 1)) (twP 10 (apX [102] (vP [121])) (nP 2))).cells,.agg (twP 10 (vP [120]) (vP [121])).cells] (.agg exB.cells):=ht 15 _ _;rw[Pred.zzb exB]at hx qb hfl;rw[Pred.zzb FB]at hfa hfl;obtain⟨QBa,QBe⟩:=QB;obtain⟨⟨QBb,QBf⟩,rfl⟩:∃x:Atm,QBa=x:=⟨_,rfl⟩;obtain⟨⟨QCb,QCf⟩,QCe⟩:=QC;simp only at hb hb1 hc hc1;subst hb hc hc1;refine zzd fun N0 h0=>?_;simp only[go_sem];subst h0;refine zzd fun N1 h1=>?_;simp only[go_sem];repeat
  first
   |refine zza he ?_
   |refine zza (hv _) ?_
   |refine zza (ht _ _ _) ?_
   |refine zza qa ?_
  try simp only[go_sem,Atm.zzb]
 subst h1;refine zzd fun N2 h2=>?_;simp only[go_sem];repeat
  first
   |refine zza (hv _) ?_
   |refine zza (hn _) ?_
   |refine zza (ha _ _) ?_
   |refine zza hx ?_
   |refine zza (ht _ _ _) ?_
  try simp only[go_sem]
 subst h2;refine zzd fun N3 h3=>?_;simp only[go_sem];refine zza he ?_;simp only[go_sem];refine zza qb ?_;simp only[go_sem,Atm.zzb];subst h3;refine zzd fun N4 h4=>?_;simp only[go_sem];refine zza he ?_;simp only[go_sem];refine zza (hv _) ?_;simp only[go_sem];refine zza qc ?_;simp only[go_sem,Atm.zzb];subst h4;refine zzd fun N5 h5=>?_;simp only[go_sem];repeat
  first
   |refine zza he ?_
   |refine zza (hv _) ?_
   |refine zza (hn _) ?_
   |refine zza (ht _ _ _) ?_
   |refine zza qd ?_
  try simp only[go_sem,Atm.zzb]
 subst h5;refine zzd fun N6 h6=>?_;simp only[go_sem,lM,hb1,lC,lN,Nat.reduceAdd,beq_self_eq_true,bne_self_eq_false,Lin.cells];refine⟨by intro e he;simp only[List.mem_cons,List.not_mem_nil,or_false]at he;rcases he with rfl|rfl<;>rfl,?_⟩;subst h6;refine zzd fun N7 h7=>?_;simp only[go_sem];rw[Pred.zzb bdA]at ea1 ea2 ea3;rw[Pred.zzb bdD]at ed1 ed2 ed3;simp only[mC,mN,icell]at ea1 ea2 ea3 ed1 ed2 ed3;refine zzg [(0:Nat),1,2] (fun _=>True) (fun done rest=>⟨[(10,.d (.int .i64 ((done.length:Int)-1))),(0,.d (.bool false)),(1,.ptr 1 0),(3,.ptr 3 0),(6,.ptr 6 0),(8,.ptr 8 0)],[(1,[.d (.int .i64 bdA.op),.d (.str bdA.name),.d (.int .i64 bdA.n),.d (.lst (bdA.kids.map Pred.cells)),.d (.lst [[.lst [[.str [120],.int .i64 1],[.str [121],.int .i64 (-1)]],.int .i64 0]])]),(3,[.d (.int .i64 exB.op),.d (.str exB.name),.d (.int .i64 exB.n),.d (.lst (exB.kids.map Pred.cells))]),(6,[.d (.int .i64 QCb.op),.d (.str QCb.name),.d (.int .i64 QCb.n),.d (.lst (QCb.kids.map Pred.cells)),.d (.lst [[.lst [[.str [98],.int .i64 1]],.int .i64 (-1)],[.lst [[.str [98],.int .i64 1]],.int .i64 0]])]),(8,[.d (.int .i64 bdD.op),.d (.str bdD.name),.d (.int .i64 bdD.n),.d (.lst (bdD.kids.map Pred.cells)),.d (.lst [[.lst [[.str [120],.int .i64 1]],.int .i64 (-2)]])])],[]⟩) ?_ trivial ?_ ?_
 ·exact zze (by simp only[go_sem,Coef.cells,Int.reduceSub,oS,Int.zero_sub,and_self])
 ·intro done x r hl _;have hd:done=[]∨done=[0]∨done=[0,1]:=by
   match done,hl with
   |[],_=>exact .inl rfl
   |[a],hl=>simp at hl;right;left;rw[hl.1]
   |[a,b],hl=>simp at hl;right;right;rw[hl.1,hl.2.1]
   |a::b::c::d,hl=>exfalso;have:=congrArg List.length hl;simp at this
  rcases hd with rfl|rfl|rfl;all_goals
   simp only[zjn,go_sem,Int.reduceSub,Int.reduceLE,decide_true,Int.reduceNeg,Int.sub_self];first
    |refine zza ea1 ?_
    |refine zza ea2 ?_
    |refine zza ea3 ?_
   simp only[go_sem,beq_self_eq_true,bne_self_eq_false];first
    |refine zza ed1 ?_
    |refine zza ed2 ?_
    |refine zza ed3 ?_
   simp only[go_sem,Int.reduceSub,Int.reduceMul,Int.reduceAdd,Int.reduceNeg,beq_self_eq_true,bne_self_eq_false];simp only[go_sem,w_m1,w_0,w_1,w_2,Int.reduceMul,Int.reduceAdd,Int.reduceNeg,Int.zero_mul,beq_self_eq_true,bne_self_eq_false,if_false];exact zze (by simp only[go_sem,oS,and_self,Int.reduceSub])
 ·intro _;simp only[zjn,go_sem,Int.reduceSub,Int.reduceLE,decide_false,lC,lN,Nat.reduceAdd,Int.reduceAdd,Int.natCast_add,Int.cast_ofNat_Int];subst h7;refine zzd fun N8 h8=>?_;simp only[go_sem];refine zza hfl ?_;simp only[go_sem];subst h8;refine zzd fun N9 h9=>?_;simp only[go_sem];refine zza hrw ?_;simp only[go_sem];subst h9;simp only[go_sem];repeat
   first
    |refine zza (hv _) ?_
    |refine zza (hn _) ?_
    |refine zza (ha _ _) ?_
    |refine zza (ht _ _ _) ?_
    |refine zza hnm ?_
    |refine zza hfa ?_
    |refine zza he ?_
    |refine zza hcl ?_
   try simp only[go_sem,lM,lC,lN,Nat.reduceAdd,beq_self_eq_true,hcl1,mC,mN]
  exact⟨by intro e he;simp only[List.mem_cons,List.not_mem_nil,or_false]at he;rcases he with rfl|rfl<;>rfl,by intro e he;simp only[List.mem_cons,List.not_mem_nil,or_false]at he;rcases he with rfl|rfl<;>rfl⟩
end Go.Abs
end
section
namespace Go.Abs
def sgnI(z:Int):Int:=if z<0 then-1 else if z>0 then 1 else 0
theorem yXN{x y}(h:leS x y=false):y<x:=by unfold leS at h;rw[Go.Proofs.bytesLess_eq,Bool.or_eq_false_iff]at h;simp only[decide_eq_false_iff_not,beq_eq_false_iff_ne,ne_eq]at h;exact ykz h.1 (fun e=>h.2 e.symm)
theorem ywR:∀{l} {p},coefE p l=0→(l.Pairwise fun x y=>x.name<y.name)∧(∀c∈l,c.n≠0∧inRange c.n=true)∧∀q,p=some q→∀c∈l,q.name<c.name
 |[],_,_=>⟨List.Pairwise.nil,by simp,by simp⟩
 |x::r,p,h=>by
  rw[coefE]at h;cases hx:(errC p x==0)with
  |false=>rw[hx]at h;simp at h;rw[h]at hx;simp at hx
  |true=>
   rw[hx]at h;simp only[if_true]at h;obtain⟨h1,h2,h3⟩:=ywR h;have hx0:errC p x=0:=by simpa using hx
   unfold errC at hx0;split at hx0
   ·cases hx0
   ·split at hx0
    ·cases hx0
    ·rename_i hn;have hn:x.n≠0∧inRange x.n=true:=by simpa using hn
     have h3x:=h3 x rfl;refine⟨List.pairwise_cons.2 ⟨h3x,h1⟩,fun c hc=>?_,fun q hq c hc=>?_⟩
     ·rcases List.mem_cons.1 hc with rfl|hc
      ·exact hn
      ·exact h2 c hc
     ·subst hq;simp only at hx0;split at hx0
      ·cases hx0
      ·rename_i hle;have hlt:=yXN (by simpa using hle);rcases List.mem_cons.1 hc with rfl|hc
       ·exact hlt
       ·exact ltT hlt (h3x c hc)
theorem zXs{a}(h:linE a=0):(a.coefs.Pairwise fun x y=>x.name<y.name)∧(∀c∈a.coefs,c.n≠0∧inRange c.n=true)∧inRange a.c=true:=by
 unfold linE at h;split at h
 ·cases h
 ·cases hc:(coefE none a.coefs==0)with
  |false=>rw[hc]at h;simp at h;rw[h]at hc;simp at hc
  |true=>
   rw[hc]at h;simp only[if_true]at h;obtain⟨h1,h2,_⟩:=ywR (by simpa using hc);refine⟨h1,h2,?_⟩;cases hr:inRange a.c with
   |true=>rfl
   |false=>rw[hr]at h;cases h
def linV(f:Str→Int)(a:Lin):Int:=(a.coefs.map fun c=>c.n*f c.name).foldr (· + ·) 0+a.c
def Ref:List Int→List Int→Prop
 |[],[]=>True
 |a::s,b::t=>(a=2∨a=b)∧Ref s t
 |_,_=>False
theorem Ref.refl:∀s:List Int,Ref s s
 |[]=>trivial
 |_::s=>⟨.inr rfl,Ref.refl s⟩
theorem Ref.len:∀{s t},Ref s t→s.length=t.length
 |[],[],_=>rfl
 |_::_,_::_,h=>by rw[lC,lC,Ref.len h.2]
theorem Ref.set:∀{s t} {k},Ref s t→Ref (s.set k (t.getD k 0)) t
 |[],[],_,_=>trivial
 |a::s,b::t,0,h=>⟨.inr rfl,h.2⟩
 |a::s,b::t,k+1,h=>by simp only[List.set_cons_succ,List.getD_cons_succ];exact⟨h.1,Ref.set h.2⟩
def sumC(f:Str→Int)(l:List Coef):Int:=(l.map fun c=>c.n*f c.name).foldr (· + ·) 0
theorem zyX(f)(c)(l):sumC f (c::l)=c.n*f c.name+sumC f l:=rfl
theorem yV7(f)(a b):sumC f (a++b)=sumC f a+sumC f b:=by
 induction a with
 |nil=>simp[sumC]
 |cons c a ih=>rw[List.cons_append,zyX,zyX,ih];omega
theorem zvV(f)(a):linV f a=sumC f a.coefs+a.c:=rfl
theorem zWR(f):∀(k) (a b),a.length+b.length≤k→(∀c∈a,inRange c.n=true)→(∀c∈b,inRange c.n=true)→sumC f (addGo a b)=sumC f a+sumC f b
 |k,[],b,_,_,_=>by rw[zkt];simp[sumC]
 |k,x::a,[],_,_,_=>by rw[zwl];simp[sumC]
 |0,x::a,y::b,h,_,_=>by simp at h
 |k+1,x::a,y::b,h,h1,h2=>by
  simp only[lC]at h;rw[zXf];have r1:=h1 x (by simp);have r2:=h2 y (by simp);split
  ·rw[zyX,zWR f k a (y::b) (by simp;omega) (fun c hc=>h1 c (by simp[hc])) h2,zyX,zyX];omega
  ·rename_i c1;split
   ·rw[zyX,zWR f k (x::a) b (by simp;omega) h1 (fun c hc=>h2 c (by simp[hc])),zyX,zyX];omega
   ·rename_i c2;have hxy:x.name=y.name:=by
     rw[Go.Proofs.bytesLess_eq]at c1 c2;simp only[decide_eq_true_eq]at c1 c2;by_cases he:x.name=y.name
     ·exact he
     ·exact absurd (ykz c2 he) c1
    rw[yV7,zWR f k a b (by omega) (fun c hc=>h1 c (by simp[hc])) (fun c hc=>h2 c (by simp[hc])),zyX,zyX];have hw:wAdd x.n y.n=x.n+y.n:=by rw[zzp]at r1 r2;exact i64_in _ (by omega)
    have:sumC f (addHd x y)=(x.n+y.n)*f x.name:=by
     unfold addHd;rw[hw];split
     ·simp[sumC]
     ·rename_i h0;have:x.n+y.n=0:=by simpa using h0
      rw[this];simp[sumC]
    rw[this,←hxy,Int.add_mul];omega
theorem yxp(f){a b}(h:(addL a b).2=true):linE a=0∧linV f (addL a b).1=linV f a+linV f b:=by
 unfold addL at*
 split at h
 ·cases h
 ·rename_i hc;rw[if_neg hc];simp only[Bool.or_eq_true,not_or,bne_iff_ne,ne_eq,Decidable.not_not]at hc;obtain⟨_,a2,a3⟩:=zXs hc.1;obtain⟨_,b2,b3⟩:=zXs hc.2;refine⟨hc.1,?_⟩;unfold rightL at*
  split at h
  ·cases h
  ·rename_i he;rw[if_neg he];have hw:wAdd a.c b.c=a.c+b.c:=by rw[zzp]at a3 b3;exact i64_in _ (by omega)
   rw[zvV,zvV,zvV,hw];show sumC f (addGo a.coefs b.coefs)+(a.c+b.c)=_;rw[zWR f _ a.coefs b.coefs (Nat.le_refl _) (fun c hc=>(a2 c hc).2) (fun c hc=>(b2 c hc).2)];omega
theorem yqH{n}(h:inRange n=true):mulI n (-1)=(-n,true):=by
 have h1:inRange (-1)=true:=by decide
 have h2:inRange (-n)=true:=by rw[zzp]at h⊢;omega
 have e:n*(-1)= -n:=by omega
 unfold mulI bnd;rw[h,h1,e,h2];rfl
theorem yqh(a b):gcdI a b ∣ a∧gcdI a b ∣ b:=by unfold gcdI;exact⟨Int.ofNat_dvd_left.2 (Nat.gcd_dvd_left _ _),Int.ofNat_dvd_left.2 (Nat.gcd_dvd_right _ _)⟩
theorem zJJ:∀(l) (g),gcdL g l ∣ g∧∀c∈l,gcdL g l ∣ c.n
 |[],g=>⟨Int.dvd_refl _,by simp⟩
 |c::l,g=>by
  obtain⟨h1,h2⟩:=zJJ l (gcdI g c.n);obtain⟨h3,h4⟩:=yqh g c.n;have e:gcdL g (c::l)=gcdL (gcdI g c.n) l:=rfl;rw[e];refine⟨Int.dvd_trans h1 h3,fun d hd=>?_⟩;rcases List.mem_cons.1 hd with rfl|hd
  ·exact Int.dvd_trans h1 h4
  ·exact h2 d hd
theorem yWt(f){g}:∀l:List Coef,(∀c∈l,g ∣ c.n)→sumC f l=g*sumC f (l.map (quoC g))
 |[],_=>by simp[sumC]
 |c::l,h=>by
  rw[mC,zyX,zyX,yWt f l fun d hd=>h d (by simp[hd]),Int.mul_add];obtain⟨q,hq⟩:=h c (by simp);have:g*(quoC g c).n=c.n:=by
   unfold quoC;simp only
   rw[Int.mul_tdiv_cancel' ⟨q,hq⟩]
  rw[←Int.mul_assoc,this];rfl
theorem yve{at'}:∀{cs} {s v},valGo at' s cs=(v,true)→v=s+sumC (fun n=>(findC n at').1) cs
 |[],s,v,h=>by cases h;simp[sumC]
 |c::cs,s,v,h=>by
  rw[valGo]at h;split at h
  ·rename_i h1;split at h
   ·rename_i h2;have h3:=yve h;have e1:(mulI c.n (findC c.name at').1).1=c.n*(findC c.name at').1:=by
     unfold mulI bnd at h1⊢;split at h1
     ·rename_i hc;rw[if_pos hc];split at h1
      ·rename_i hb;rw[if_pos hb]
      ·cases h1
     ·cases h1
    have e2:(addI s (mulI c.n (findC c.name at').1).1).1=s+(mulI c.n (findC c.name at').1).1:=by
     unfold addI bnd at h2⊢;split at h2
     ·rename_i hc;rw[if_pos hc];split at h2
      ·rename_i hb;rw[if_pos hb]
      ·cases h2
     ·cases h2
    rw[h3,e2,e1,zyX];omega
   ·cases h
  ·cases h
theorem yqW{a at'}(h:(valL a at').2=true):(valL a at').1=linV (fun n=>(findC n at').1) a:=by
 unfold valL at*
 split at h
 ·cases h
 ·rename_i hc;rw[if_neg hc];have:valGo at' a.c a.coefs=((valGo at' a.c a.coefs).1,true):=by rw[←h]
  rw[yve this,zvV];omega
theorem yYb(n):sgnI n=if decide (n<0)then-1 else if decide (n>0)then 1 else 0:=by
 unfold sgnI;by_cases h1:n<0
 ·rw[if_pos h1,decide_eq_true h1];rfl
 ·rw[if_neg h1,decide_eq_false h1];by_cases h2:n>0
  ·rw[if_pos h2,decide_eq_true h2];rfl
  ·rw[if_neg h2,decide_eq_false h2];rfl
end Go.Abs
end
section
namespace Go.Abs
def ixC(s:Str):Nat→List Coef→Int
 |_,[]=> -1
 |i,c::r=>if c.name==s then i else ixC s (i+1) r
theorem yQp{s a r x}(ha:∀y∈a,(y.name==s)=false):∀i,ixC s i (a++x::r)=if x.name==s then((i+a.length:Nat):Int)else ixC s (i+a.length+1) r:=by
 induction a with
 |nil=>intro i;rfl
 |cons y a ih=>
  intro i;rw[List.cons_append,ixC,ha y (by simp),if_neg (by decide),ih (fun z hz=>ha z (by simp[hz])),lC];have:i+1+a.length=i+(a.length+1):=by omega
  rw[this]
theorem yqv{s a}(ha:∀y∈a,(y.name==s)=false):∀i,ixC s i a= -1:=by
 induction a with
 |nil=>intro i;rfl
 |cons y a ih=>intro i;rw[ixC,ha y (by simp),if_neg (by decide),ih fun z hz=>ha z (by simp[hz])]
theorem yXI(s)(l):(∃a x r,l=a++x::r∧ixC s 0 l=(a.length:Int)∧(findC s l).1=x.n)∨(ixC s 0 l= -1∧(findC s l).1=0):=by
 by_cases h:∃c∈l,(c.name==s)=true
 ·left;induction l with
  |nil=>simp at h
  |cons y l ih=>
   by_cases hy:(y.name==s)=true
   ·exact⟨[],y,l,rfl,by rw[ixC,if_pos hy];rfl,by rw[findC,if_pos hy]⟩
   ·have hy':(y.name==s)=false:=by simpa using hy
    obtain⟨a,x,r,h1,h2,h3⟩:=ih (by
     obtain⟨c,hc,hs⟩:=h;rcases List.mem_cons.1 hc with rfl|hc
     ·exact absurd hs hy
     ·exact⟨c,hc,hs⟩)
    have hsh:∀(m:List Coef) i,ixC s i m≥0→ixC s (i+1) m=ixC s i m+1:=by
     intro m;induction m with
     |nil=>intro i hi;simp[ixC]at hi
     |cons z m ihm=>
      intro i hi;rw[ixC]at hi⊢;rw[ixC];by_cases hz:(z.name==s)=true
      ·rw[if_pos hz,if_pos hz];omega
      ·rw[if_neg hz]at hi⊢;rw[if_neg hz];exact ihm _ hi
    refine⟨y::a,x,r,by rw[h1];rfl,?_,by rw[findC,if_neg hy];exact h3⟩;rw[ixC,if_neg hy,hsh l 0 (by omega),h2];simp
 ·right;have ha:∀y∈l,(y.name==s)=false:=fun y hy=>by
   cases c:(y.name==s)with
   |false=>rfl
   |true=>exact absurd ⟨y,hy,c⟩ h
  exact⟨yqv ha 0,by rw[yZp ha]⟩
variable{E:AEnv}(Z:Sys E)
include Z
theorem yXJ(l)(c:Coef):E.C zzu [.one (.lst (l.map Coef.cells)),.one (.clo zyq [.ref [.str c.name,.int .i64 c.n]])] (.one (.int .i64 (ixC c.name 0 l))):=by
 have hf:∀x:Coef,E.C zyq [.agg x.cells,.one (.ref [.str c.name,.int .i64 c.n])] (.one (.bool (x.name==c.name))):=fun x=>by refine Z.zyq _ _ ⟨b0l rfl,?_⟩;simp only[zqX,Coef.cells,go_sem]
 refine Z.zzu _ _ ⟨b0l rfl,?_⟩;generalize hR:ixC c.name 0 l=R;simp only[zyy,go_sem];intro hlen;refine zzg l (fun done=>∀y∈done,(y.name==c.name)=false) (fun done rest=>⟨[(8,.d (.int .i64 done.length)),(7,.d (.int .i64 l.length)),(0,.d (.lst (l.map Coef.cells))),(1,.d (.clo zyq [.ref [.str c.name,.int .i64 c.n]]))],[],[]⟩) ?_ (by simp) ?_ ?_
 ·exact zze (by simp only[go_sem])
 ·intro done x r hl hI;have hx:=getD_at (f:=Coef.cells) (d:=[]) hl;have hlt:=zzn hl;have hw:IntKind.i64.wrap ((done.length:Int)+1)=((done.length+1:Nat):Int):=zzf (by omega);rw[hl,yQp hI]at hR;have hfx:=hf x;simp only[Coef.cells]at hfx;simp only[zzR,go_sem,hx,hlt,lM,Coef.cells];refine zza hfx ?_;cases h1:(x.name==c.name)with
  |true=>simp only[h1,go_sem,zA]at hR⊢;exact hR
  |false=>simp only[go_sem,hw,lA];exact⟨zze (by simp only[go_sem]),zzY hI h1⟩
 ·intro hI;rw[yqv hI]at hR;simp only[zzR,go_sem,←hR]
theorem zYW(a)(at'):E.C zx7 [.agg a.cells,.one (.lst (at'.map Coef.cells))] (res2 (valL a at')):=by
 have h1:=zyS Z a;have h2:=fun c=>yXJ Z at' c;have h3:=fun x y=>zXu Z x y;have h4:=fun x y=>yyW Z x y;refine Z.zx7 _ _ ⟨b0l rfl,?_⟩;generalize hR:valL a at'=R;unfold valL at hR;obtain⟨l,c⟩:=a;simp only[Lin.cells,res2]at*
 simp only[zYz,go_sem];refine zza h1 ?_;cases c0:(linE ⟨l,c⟩ !=0)with
 |true=>rw[c0]at hR;subst hR;simp only[c0,go_sem];try exact⟨rfl,rfl⟩
 |false=>
 rw[c0]at hR;have hll:=zxJ (a:=⟨l,c⟩) (by simpa using c0);simp only at hll hR;simp only[c0,go_sem];intro _;refine zq7 (fun s:ValS=>⟨[(21,.d (.int .i64 s.d.length)),(20,.d (.int .i64 l.length)),(19,.d (.lst (l.map Coef.cells))),(6,.d (.int .i64 s.s)),(1,.d (.lst (at'.map Coef.cells)))],[],[]⟩)
  (fun s=>l=s.d++s.r∧valGo at' s.s s.r=R) (fun s=>s.r.length) ⟨[],l,c⟩ ?_ ⟨rfl,hR⟩ ?_
 ·exact zze (by simp only[go_sem,oS,nZ,lN])
 ·rintro⟨d,r,s⟩ ⟨hl,hI⟩
  simp only at hl hI;cases r with
  |nil=>
   have hlt:decide ((d.length:Int)<(l.length:Int))=false:=by simp[hl]
   rw[valGo]at hI;subst hI;simp only[zky,go_sem,hlt];try exact⟨rfl,rfl⟩
  |cons x r=>
   have hlt:=zzn hl;have hw:IntKind.i64.wrap ((d.length:Int)+1)=((d.length+1:Nat):Int):=zzf (by omega);rw[valGo]at hI;have h2x:=h2 x;have hmul:=h3 x.n (findC x.name at').1;have hadd:=h4 s (mulI x.n (findC x.name at').1).1;simp only[zky,go_sem,getD_at hl,hlt,Coef.cells];refine yj1 (cvs:=[.one (.lst (at'.map Coef.cells)),.one (.clo zyq [.ref [.str x.name,.int .i64 x.n]])]) (by simp only[go_sem]) rfl rfl h2x ?_;have key:∀(n:Int),(findC x.name at').1=n→(E.C zqD [.one (.int .i64 x.n),.one (.int .i64 n)] (.tup [.one (.int .i64 (mulI x.n n).1),.one (.bool (mulI x.n n).2)]))∧(E.C zYZ [.one (.int .i64 s),.one (.int .i64 (mulI x.n n).1)] (.tup [.one (.int .i64 (addI s (mulI x.n n).1).1),.one (.bool (addI s (mulI x.n n).1).2)]))∧(if(mulI x.n n).2 then(if(addI s (mulI x.n n).1).2 then valGo at' (addI s (mulI x.n n).1).1 r else(0,false))else(0,false))=R:=by
    rintro n rfl
    exact⟨hmul,hadd,hI⟩
   clear hmul hadd hI h2x;rcases yXI x.name at' with⟨a,y,r',hal,h1',h2'⟩|⟨h1',h2'⟩
   ·obtain⟨hmul,hadd,hI⟩:=key y.n h2';have hge:decide ((a.length:Int)≥0)=true:=by simp
    have hlta:=zzn hal;rw[h1'];simp only[go_sem,hge,getD_at hal,hlta,Coef.cells];refine zza hmul ?_;cases e1:(mulI x.n y.n).2 with
    |false=>rw[e1,if_neg (by decide)]at hI;subst hI;simp only[go_sem];try exact⟨rfl,rfl⟩
    |true=>
     rw[e1,if_pos rfl]at hI;simp only[go_sem];refine zza hadd ?_;cases e2:(addI s (mulI x.n y.n).1).2 with
     |false=>rw[e2,if_neg (by decide)]at hI;subst hI;simp only[go_sem];try exact⟨rfl,rfl⟩
     |true=>rw[e2,if_pos rfl]at hI;simp only[go_sem,hw];refine⟨⟨d++[x],r,_⟩,zze (by simp only[go_sem,oS,lA,lC,lN,zA]),⟨by rw[hl,List.append_assoc];rfl,hI⟩,by simp⟩
   ·obtain⟨hmul,hadd,hI⟩:=key 0 h2';have hge:decide ((-1:Int)≥0)=false:=by decide
    rw[h1'];simp only[go_sem,hge];refine zza hmul ?_;cases e1:(mulI x.n 0).2 with
    |false=>rw[e1,if_neg (by decide)]at hI;subst hI;simp only[go_sem];try exact⟨rfl,rfl⟩
    |true=>
     rw[e1,if_pos rfl]at hI;simp only[go_sem];refine zza hadd ?_;cases e2:(addI s (mulI x.n 0).1).2 with
     |false=>rw[e2,if_neg (by decide)]at hI;subst hI;simp only[go_sem];try exact⟨rfl,rfl⟩
     |true=>rw[e2,if_pos rfl]at hI;simp only[go_sem,hw];refine⟨⟨d++[x],r,_⟩,zze (by simp only[go_sem,oS,lA,lC,lN,zA]),⟨by rw[hl,List.append_assoc];rfl,hI⟩,by simp⟩
end Go.Abs
end
section
namespace Go.Abs
theorem loop_named'{E c K F}(h:∀K',K'=K→awp E (.loop c) K' F):awp E (.loop c) K F:=h K rfl
def sgnsV(f:List Lin)(pt:List Coef):List Int×Bool:=if f.all fun a=>(valL a pt).2 then(f.map fun a=>sgnI (valL a pt).1,true)else([],false)
theorem yks{E}(Z:Sys E)(f)(pt)(hf:f.length≤1000):
  E.C zjE [.one (.lst (f.map Lin.cells)),.one (.lst (pt.map Coef.cells))] (.tup [.one (.lst ((sgnsV f pt).1.map icell)),.one (.bool (sgnsV f pt).2)]):=by
 have hv:=fun a=>zYW Z a pt;refine Z.zjE _ _ ⟨b0l rfl,?_⟩;generalize hR:sgnsV f pt=R;unfold sgnsV at hR;unfold res2 at hv;simp only[zVQ,go_sem];refine zzg f (fun done=>∀b∈done,(valL b pt).2=true) (fun done _=>⟨[(7,.d (.int .i64 done.length)),(6,.own 8 1 ((done.map fun b=>sgnI (valL b pt).1).map icell)),(0,.d (.lst (f.map Lin.cells))),(1,.d (.lst (pt.map Coef.cells)))],[],[(8,true)]⟩) ?_ (by simp) ?_ ?_
 ·exact zxV 6 8 1 [] [(8,8)] rfl (by simp) rfl (by simp only[Ent0,go_sem,cN,oS,mN,lN,nZ])
 ·intro done b r hl hI;have hlt:=zzn hl;have hx:=zzV (f:=Lin.cells) hl rfl;have hd:decide ((done.length:Int)<(f.length:Int))=true:=decide_eq_true hlt;have hdl:done.length<f.length:=by rw[hl];simp
  have hw:IntKind.i64.wrap ((done.length:Int)+1)=((done.length+1:Nat):Int):=zzf (by omega);have hvb:=hv b;have hsg:=yYb (valL b pt).1;have hno:(valL b pt).2=false→(f.all fun a=>(valL a pt).2)=false:=fun h=>by rw[hl,List.all_append,List.all_cons,h];simp
  obtain⟨cs,c⟩:=b;simp only[Lin.cells]at hx hvb;simp only[zjo,go_sem,hd,hlt,hx,lM];try intro _
  refine zza hvb ?_;simp only[go_sem];generalize hV:valL ⟨cs,c⟩ pt=V at*
  obtain⟨v,ok⟩:=V;simp only at hsg⊢;cases ok with
  |false=>rw[hno rfl,if_neg (by decide)]at hR;subst hR;simp only[go_sem,mN]
  |true=>
   have hall:∀b'∈done++[(⟨cs,c⟩:Lin)],(valL b' pt).2=true:=zzY hI (by rw[hV]);have hmap:(done++[(⟨cs,c⟩:Lin)]).map (fun b=>sgnI (valL b pt).1)=done.map (fun b=>sgnI (valL b pt).1)++[sgnI v]:=by rw[mA,mC,mN,hV]
   cases c1:decide (v<0)with
   |true=>
    rw[c1]at hsg;simp only[if_true]at hsg;have c2:decide (v>0)=false:=by simp only[decide_eq_true_eq,decide_eq_false_iff_not]at c1⊢;omega
    simp only[go_sem,hw,lM,c2];refine⟨⟨by simp,by omega,by omega⟩,zzk [(8,35)] ?_,hall⟩;simp only[go_sem,cN,oS,lA,lC,lN,zA,hmap,hsg,mA,mC,mN,icell]
   |false=>
    rw[c1]at hsg;simp only[Bool.false_eq_true,if_false]at hsg;cases c2:decide (v>0)with
    |true=>rw[c2]at hsg;simp only[if_true]at hsg;simp only[go_sem,hw,lM];refine⟨⟨by simp,by omega,by omega⟩,zzk [(8,35)] ?_,hall⟩;simp only[go_sem,cN,oS,lA,lC,lN,zA,hmap,hsg,mA,mC,mN,icell]
    |false=>rw[c2]at hsg;simp only[Bool.false_eq_true,if_false]at hsg;simp only[go_sem,hw,lM];refine⟨⟨by simp,by omega,by omega⟩,zzk [(8,35)] ?_,hall⟩;simp only[go_sem,cN,oS,lA,lC,lN,zA,hmap,hsg,mA,mC,mN,icell]
 ·intro hI;have hall:(f.all fun a=>(valL a pt).2)=true:=List.all_eq_true.2 hI;rw[hall,if_pos rfl]at hR;subst hR;simp only[zjo,go_sem]
end Go.Abs
end
section
namespace Go.Abs
namespace Pred
end Pred
theorem yzZ{v p}(h:(OfS v p).2=0):p.checkE=0∧OfS v p=ofS v p:=by
 unfold OfS at*
 by_cases h1:(p.checkE !=0)=true
 ·rw[if_pos h1]at h;simp only at h;rw[h]at h1;cases h1
 ·rw[if_neg h1];exact⟨by simpa using h1,rfl⟩
def Bl(v:SEnv)(p:Pred):Prop:=ofS v p=(sBool,0)
theorem yW4(v)(o)(a b)(ha:(ofS v a).2=0)(hb:(ofS v b).2=0):ofS v (.mk o [] 0 [a,b])=nodeS v o [] [(ofS v a).1,(ofS v b).1]:=by
 rw[zJj,yxG (by simp[ha,hb])];rfl
theorem yJu{v o a b}(ho:o=15∨o=16∨o=17∨o=18)(ha:Bl v a)(hb:Bl v b):Bl v (.mk o [] 0 [a,b]):=by
 unfold Bl at*
 rw[yW4 v o a b (by rw[ha]) (by rw[hb]),ha,hb];rcases ho with rfl|rfl|rfl|rfl<;>rfl
theorem yQa(v):Bl v trueP:=rfl
theorem yKF(v):Bl v falseP:=rfl
theorem yJt{v a b}(ha:(OfS v a).2=0)(hb:(OfS v b).2=0)(h:srt v a=srt v b):Bl v (eqnS v a b):=by
 obtain⟨_,h1⟩:=yzZ ha;obtain⟨_,h2⟩:=yzZ hb;unfold srt at h;rw[h1]at ha;rw[h2]at hb;unfold Bl eqnS;rw[yW4 v _ a b ha hb,h1,ha,←h2,←h,h1];by_cases hs:((ofS v a).1==sBool)=true
 ·rw[hs];simp only[beq_self_eq_true,Bool.and_self,if_true];rw[show(ofS v a).1=sBool by simpa using hs];rfl
 ·have hs':((ofS v a).1==sBool)=false:=by simpa using hs
  rw[hs'];simp only[Bool.and_false,Bool.false_eq_true,if_false];have:∀s:Str,nodeS v 10 [] [s,s]=(sBool,0):=fun s=>by show(if s==s then(sBool,(0:Int))else([],11))=_;rw[beq_self_eq_true,if_pos rfl]
  exact this _
theorem yKE{v}:∀l:List Pred,(∀x∈l,Bl v x)→Bl v (andGo l).1:=by
 refine snocI (fun _=>yQa v) fun l x ih h=>?_;have h1:=ih fun y hy=>h y (by simp[hy]);have hx:=h x (by simp);rw[zqJ];unfold andStp;split
 ·exact h1
 ·split
  ·exact yJu (.inl rfl) h1 hx
  ·exact hx
theorem yQ7{v l}(h:∀x∈l,Bl v x):Bl v (andP l):=by
 unfold andP;split
 ·exact yKF v
 ·exact yKE l h
theorem yJv{v}:∀{a b},(∀k∈a,(OfS v k).2=0)→(∀k∈b,(OfS v k).2=0)→a.map (srt v)=b.map (srt v)→∀p∈List.zipWith (eqnS v) a b,Bl v p
 |[],b,_,_,_=>by simp
 |_::_,[],_,_,_=>by simp
 |x::a,y::b,ha,hb,h=>by
  intro p hp;rw[List.zipWith_cons_cons]at hp;simp only[mC,List.cons.injEq]at h;rcases List.mem_cons.1 hp with rfl|hp
  ·exact yJt (ha x (by simp)) (hb y (by simp)) h.1
  ·exact yJv (fun k hk=>ha k (by simp[hk])) (fun k hk=>hb k (by simp[hk])) h.2 p hp
theorem yJ9{v a b}(ca:a.cnt<2^62)(cb:b.cnt<2^62)(ha:(OfS v a).2=0)(hb:(OfS v b).2=0):∀p∈congS v a b,Bl v p:=by
 intro p hp;unfold congS at hp;split at hp
 ·cases hp
 ·rename_i hc;obtain⟨o,s,n,ks⟩:=a;obtain⟨o',s',n',ks'⟩:=b;simp only[Pred.op,Pred.name,Pred.kids]at hp hc;simp only[Bool.or_eq_true,bne_iff_ne,ne_eq,Bool.not_eq_true',not_or,Decidable.not_not,Bool.not_eq_false]at hc;obtain⟨⟨⟨rfl,rfl⟩,rfl⟩,hal⟩:=hc;rw[List.mem_singleton]at hp;subst hp;obtain⟨k1,e1,_⟩:=zJz ca ha;obtain⟨k2,e2,_⟩:=zJz cb hb;have hal':ks.map (srt v)=ks'.map (srt v):=by simpa[alikeS]using hal
  have m1:ks.map (srt v)=ks.map fun k=>(ofS v k).1:=List.map_congr_left fun k hk=>by unfold srt;rw[(k1 k hk).1]
  have m2:ks'.map (srt v)=ks'.map fun k=>(ofS v k).1:=List.map_congr_left fun k hk=>by unfold srt;rw[(k2 k hk).1]
  refine yJu (.inr (.inr (.inl rfl))) (yQ7 (yJv (fun k hk=>by rw[(k1 k hk).1];exact(k1 k hk).2) (fun k hk=>by rw[(k2 k hk).1];exact(k2 k hk).2) hal')) (yJt ha hb ?_);unfold srt;rw[e1,e2,←m1,←m2,hal']
theorem yvv{v}:∀{l},(∀x∈l,x.cnt<2^62∧(OfS v x).2=0)→∀c∈closS v l,Bl v c
 |[],_,c,hc=>by cases hc
 |a::r,h,c,hc=>by
  rw[closS]at hc;rcases List.mem_append.1 hc with hc|hc
  ·obtain⟨b,hb,hc⟩:=List.mem_flatMap.1 hc;exact yJ9 (h a (by simp)).1 (h b (by simp[hb])).1 (h a (by simp)).2 (h b (by simp[hb])).2 c hc
  ·exact yvv (fun x hx=>h x (by simp[hx])) c hc
end Go.Abs
end
section
namespace Go.Abs
def stp(c:UInt8):Bool:=c==40||c==41||c==44
theorem cut_w:∀{a b x y:Str},a.all (fun c=>!stp c)=true→b.all (fun c=>!stp c)=true→(∀c,x.head? =some c→stp c=true)→(∀c,y.head? =some c→stp c=true)→a++x=b++y→a=b∧x=y
 |[],[],x,y,_,_,_,_,h=>⟨rfl,h⟩
 |[],c::b,x,y,_,hb,hx,_,h=>by rw[List.nil_append]at h;have:=hx c (by rw[h];rfl);rw[List.all_cons,this]at hb;cases hb
 |c::a,[],x,y,ha,_,_,hy,h=>by rw[List.nil_append]at h;have:=hy c (by rw[←h];rfl);rw[List.all_cons,this]at ha;cases ha
 |c::a,d::b,x,y,ha,hb,hx,hy,h=>by rw[List.cons_append,List.cons_append,List.cons.injEq]at h;rw[List.all_cons,Bool.and_eq_true]at ha hb;obtain⟨h1,h2⟩:=cut_w ha.2 hb.2 hx hy h.2;exact⟨by rw[h.1,h1],h2⟩
theorem yWh{s:Str}(h:s.all okc=true):s.all (fun c=>!stp c)=true:=by
 rw[List.all_eq_true]at h⊢;intro c hc;have:∀n:Nat,n<256→okc (UInt8.ofNat n)=true→(!stp (UInt8.ofNat n))=true:=by decide+kernel
 have h2:=this c.toNat c.toNat_lt (by simpa using h c hc);simpa using h2
theorem yZy(n):∃c r,Lib.itoa n=c::r∧(c.toNat=45∨48≤c.toNat∧c.toNat≤57):=by
 have hd:∀u:Nat,∃c r,Lib.decDigits u=c::r∧(c.toNat=45∨48≤c.toNat∧c.toNat≤57):=fun u=>by
  cases h:Lib.decDigits u with
  |nil=>exfalso;unfold Lib.decDigits at h;split at h<;>simp at h
  |cons c r=>exact⟨c,r,rfl,.inr (zwo u c (by rw[h];simp))⟩
 unfold Lib.itoa;split
 ·exact⟨45,_,rfl,.inl rfl⟩
 ·exact hd _
theorem yQn(n):(Lib.itoa n).all (fun c=>!stp c)=true:=by
 have hd:∀u:Nat,(Lib.decDigits u).all (fun c=>!stp c)=true:=fun u=>by
  rw[List.all_eq_true];intro c hc;have:=zwo u c hc;have key:∀n:Nat,n<256→48≤n→n≤57→(!stp (UInt8.ofNat n))=true:=by decide+kernel
  have h2:=key c.toNat c.toNat_lt this.1 this.2;simpa using h2
 unfold Lib.itoa;split
 ·rw[List.all_cons,hd];rfl
 ·exact hd _
def ltr(c:UInt8):Bool:=isSmall c.toNat||isCapital c.toNat
theorem yya{s:Str}(h:isCore s=true):(∃c r,s=c::r∧ltr c=true)∧s≠sTrue∧s≠sFalse:=by
 refine⟨?_,?_,?_⟩
 ·unfold isCore at h;simp only[Bool.and_eq_true]at h;obtain⟨⟨_,h1⟩,_⟩:=h;cases s with
  |nil=>exfalso;revert h1;decide
  |cons c r=>
   refine⟨c,r,rfl,?_⟩;unfold cutAt at h1;by_cases hc:c.toNat=46
   ·rw[if_pos hc]at h1;exfalso;have e1:isName []=false:=by decide
    have e2:isTitle []=false:=by decide
    simp only[e1,e2]at h1;revert h1;decide
   ·rw[if_neg hc]at h1;unfold ltr;cases n1:isName (c::(cutAt r).1)with
    |true=>unfold isName at n1;simp only[Bool.and_eq_true]at n1;have:=n1.1.1.2;rw[List.getD_cons_zero]at this;rw[this];rfl
    |false=>
     cases n2:isTitle (c::(cutAt r).1)with
     |true=>unfold isTitle at n2;simp only[Bool.and_eq_true]at n2;have:=n2.1.1.2;rw[List.getD_cons_zero]at this;rw[this,Bool.or_true]
     |false=>rw[n1,n2]at h1;simp at h1;rw[h1.1.1];decide
 ·rintro rfl;revert h;decide+kernel
 ·rintro rfl;revert h;decide+kernel
structure Node(o:Int)(s:Str)(n:Int)(ks:List Pred):Prop where
 lo:1≤o
 hi:o≤18
 nm:s=[]∨o=3∨o=4∨o=5
 nn:n=0∨o=1∨o=2
 kd:kidsOk o ks.length=true
 bl:o=2→0≤n∧n≤1
 cl:calledOk o s=true
theorem yQv{o}{s:Str}{n ks}(h:nodeE o s n ks=0):Node o s n ks:=by
 unfold nodeE at h;by_cases c1:(decide (o<1)||decide (o>18)||!s==[]&&!isOpNamed o||n !=0&&!(o==1||o==2)||!kidsOk o ks.length)=true
 ·rw[if_pos c1]at h;cases h
 rw[if_neg c1]at h;by_cases c2:(o==1&&!inRange n||o==2&&(decide (n<0)||decide (n>1)))=true
 ·rw[if_pos c2]at h;cases h
 rw[if_neg c2]at h;by_cases c3:(!calledOk o s)=true
 ·rw[if_pos c3]at h;cases h
 simp only[Bool.or_eq_true,not_or,Bool.and_eq_true,not_and,decide_eq_true_eq]at c1 c2;obtain⟨⟨⟨⟨a1,a2⟩,a3⟩,a4⟩,a5⟩:=c1;refine⟨by omega,by omega,?_,?_,by simpa using a5,fun ho=>?_,by simpa using c3⟩
 ·by_cases hs:s=[]
  ·exact .inl hs
  ·have:=a3 (by simpa using hs);simp only[isOpNamed]at this;simp at this;omega
 ·by_cases hn:n=0
  ·exact .inl hn
  ·have:=a4 (by simpa using hn);simp at this;omega
 ·have:=c2.2 (by simpa using ho);omega
theorem zxy{o}{s:Str}(h:calledOk o s=true)(ho:o=3∨o=4):(∃c r,s=c::r∧ltr c=true)∧s≠sTrue∧s≠sFalse:=by
 unfold calledOk at h;rcases ho with rfl|rfl
 ·have h:(s==sV||isCore s)=true:=h;rcases Bool.or_eq_true_iff.1 h with h|h
  ·rw[beq_iff_eq.1 h];exact⟨⟨118,[],rfl,by decide⟩,by decide,by decide⟩
  ·exact yya h
 ·have h:(s==sTag||s==sVal||isCore s)=true:=h;rcases Bool.or_eq_true_iff.1 h with h|h
  ·rcases Bool.or_eq_true_iff.1 h with h|h
   ·rw[beq_iff_eq.1 h];exact⟨⟨116,[97,103],rfl,by decide⟩,by decide,by decide⟩
   ·rw[beq_iff_eq.1 h];exact⟨⟨118,[97,108],rfl,by decide⟩,by decide,by decide⟩
  ·exact yya h
def wordS(o:Int)(s:Str)(n:Int):Str:=if o==1 then Lib.itoa n else if o==2 then(if n==1 then sTrue else sFalse)else if o==3 then s else headS o s
def leafO(o:Int):Bool:=o==1||o==2||o==3
theorem yyQ(o)(s:Str)(n)(ks)(r:Str):nameS (.mk o s n ks)++r=wordS o s n++if leafO o then r else 40::(Lib.join (ks.map nameS) [44]++41::r):=by
 rw[zZF];unfold wordS leafO;by_cases h1:(o==1)=true
 ·simp only[h1,if_true,Bool.true_or]
 ·by_cases h2:(o==2)=true
  ·simp only[h1,h2,if_true,Bool.true_or,Bool.or_true,if_false,Bool.false_eq_true]
  ·by_cases h3:(o==3)=true
   ·simp only[h1,h2,h3,if_true,Bool.or_true,if_false,Bool.false_eq_true]
   ·simp only[h1,h2,h3,Bool.or_self,if_false,Bool.false_eq_true,List.append_assoc,List.cons_append,List.nil_append]
theorem yV5(o):(signT o).all (fun c=>!stp c)=true:=by
 unfold signT;split
 ·rfl
 ·have:∀k,(signL.getD k []).all (fun c=>!stp c)=true:=by
    intro k;rcases Nat.lt_or_ge k 13 with h|h
    ·have:∀k,k<13→(signL.getD k []).all (fun c=>!stp c)=true:=by decide+kernel
     exact this k h
    ·rw[List.getD_eq_getElem?_getD,List.getElem?_eq_none (by exact h)];rfl
  exact this _
theorem yKc{o s n}(hs:s.all okc=true):(wordS o s n).all (fun c=>!stp c)=true:=by
 unfold wordS headS;split
 ·exact yQn n
 ·split
  ·split<;>decide
  ·split
   ·exact yWh hs
   ·split
    ·exact yWh hs
    ·split
     ·rw[List.all_cons,yWh hs];rfl
     ·exact yV5 o
end Go.Abs
end
section
namespace Go.Abs
theorem yWS:∀i,i<13→∀j,j<13→signL.getD i []=signL.getD j []→i=j∨i=1∧j=3∨i=3∧j=1:=by decide+kernel
theorem yjG:∀i,i<13→∃c∈([43,45,42,61,33,60,38,124]:List UInt8),(signL.getD i []).head? =some c:=by decide+kernel
theorem yK2:∀c∈([43,45,42,61,33,60,38,124]:List UInt8),ltr c=false∧c≠63:=by decide+kernel
theorem ywi{o}(h:6≤o)(h2:o≤18):signT o=signL.getD (o-6).toNat []∧(o-6).toNat<13∧o=6+((o-6).toNat:Int):=by refine⟨?_,by omega,by omega⟩;unfold signT;rw[if_neg (by simp;omega)]
theorem yXX{c}(h:c.toNat=45∨48≤c.toNat∧c.toNat≤57):ltr c=false:=by unfold ltr isSmall isCapital;simp;omega
theorem zVd{o}(h:leafO o=true):o=1∨o=2∨o=3:=by
 unfold leafO at h;simp at h;omega
theorem yKb{o o' s s' n n' ks ks'}(h:Node o s n ks)(h':Node o' s' n' ks')(l:leafO o=true)(l':leafO o'=true)(e:wordS o s n=wordS o' s' n'):o=o'∧s=s'∧n=n':=by
 have nm:=h.nm;have nm':=h'.nm;have nn:=h.nn;have nn':=h'.nn;have bl:=h.bl;have bl':=h'.bl;have ft:sTrue=116::[114,117,101]∧sFalse=102::[97,108,115,101]:=⟨rfl,rfl⟩;have wb:∀m:Int,∃c r,(if m==1 then sTrue else sFalse)=c::r∧ltr c=true:=fun m=>by
  cases m==1
  ·exact⟨102,_,rfl,by decide⟩
  ·exact⟨116,_,rfl,by decide⟩
 have wi:∀m:Int,∃c r,Lib.itoa m=c::r∧ltr c=false:=fun m=>by obtain⟨c,r,h1,h2⟩:=yZy m;exact⟨c,r,h1,yXX h2⟩
 have clash:∀{x y:Str},(∃c r,x=c::r∧ltr c=true)→(∃c r,y=c::r∧ltr c=false)→x≠y:=by
  rintro _ _ ⟨c,r,rfl,h1⟩ ⟨d,t,rfl,h2⟩ h
  rw[List.cons.injEq]at h;rw[h.1,h2]at h1;cases h1
 have bs:∀{m:Int} {t:Str},t≠sTrue→t≠sFalse→(if m==1 then sTrue else sFalse)≠t:=fun{m t} h1 h2=>by
  cases m==1
  ·exact fun h=>h2 h.symm
  ·exact fun h=>h1 h.symm
 rcases zVd l with rfl|rfl|rfl<;>rcases zVd l' with rfl|rfl|rfl
 ·exact⟨rfl,by simp at nm nm';rw[nm,nm'],zKs e⟩
 ·exact absurd e.symm (clash (wb n') (wi n))
 ·exact absurd e.symm (clash (zxy h'.cl (.inl rfl)).1 (wi n))
 ·exact absurd e (clash (wb n) (wi n'))
 ·refine⟨rfl,by simp at nm nm';rw[nm,nm'],?_⟩;have e:(if n==1 then sTrue else sFalse)=(if n'==1 then sTrue else sFalse):=e;have b1:=bl rfl;have b2:=bl' rfl;by_cases c1:n=1<;>by_cases c2:n'=1
  ·rw[c1,c2]
  ·rw[c1,if_pos (beq_self_eq_true (1:Int)),if_neg (by simpa using c2)]at e;exact absurd e (by decide)
  ·rw[c2,if_neg (by simpa using c1),if_pos (beq_self_eq_true (1:Int))]at e;exact absurd e (by decide)
  ·omega
 ·obtain⟨_,h1,h2⟩:=zxy h'.cl (.inl rfl);exact absurd e (bs h1 h2)
 ·exact absurd e (clash (zxy h.cl (.inl rfl)).1 (wi n'))
 ·obtain⟨_,h1,h2⟩:=zxy h.cl (.inl rfl);exact absurd e.symm (bs h1 h2)
 ·exact⟨rfl,e,by simp at nn nn';rw[nn,nn']⟩
theorem yvg{o}(s)(n)(l:leafO o=false):wordS o s n=headS o s∧o≠1∧o≠2∧o≠3:=by unfold leafO at l;simp only[Bool.or_eq_false_iff]at l;obtain⟨⟨l1,l2⟩,l3⟩:=l;unfold wordS;rw[if_neg (by rw[l1];decide),if_neg (by rw[l2];decide),if_neg (by rw[l3];decide)];exact⟨rfl,by simpa using l1,by simpa using l2,by simpa using l3⟩
theorem yKa{o o' s s' n n' ks ks'}(h:Node o s n ks)(h':Node o' s' n' ks')(l:leafO o=false)(l':leafO o'=false)(e:wordS o s n=wordS o' s' n'):(o=o'∨o=7∧o'=9∨o=9∧o'=7)∧s=s'∧n=n':=by
 obtain⟨w,a1,a2,a3⟩:=yvg s n l;obtain⟨w',a1',a2',a3'⟩:=yvg s' n' l';rw[w,w']at e;have nn:=h.nn;have nn':=h'.nn;have nm:=h.nm;have nm':=h'.nm;have lo:=h.lo;have hi:=h.hi;have lo':=h'.lo;have hi':=h'.hi;have hn:n=n':=by rw[show n=0 by omega,show n'=0 by omega]
 have sg:∀{o:Int} (s:Str),6≤o→o≤18→headS o s=signL.getD (o-6).toNat []:=fun{o} s h1 h2=>by unfold headS;rw[if_neg (by simp;omega),if_neg (by simp;omega),(ywi h1 h2).1]
 have sf:∀{o:Int} (s:Str),6≤o→o≤18→∃c r,headS o s=c::r∧ltr c=false∧c≠63:=fun{o} s h1 h2=>by
  rw[sg s h1 h2];obtain⟨c,hc,hh⟩:=yjG _ (ywi h1 h2).2.1;cases hs:signL.getD (o-6).toNat []with
  |nil=>rw[hs]at hh;cases hh
  |cons d r=>rw[hs]at hh;simp only[List.head?_cons,Option.some.injEq]at hh;exact⟨d,r,rfl,hh▸yK2 c hc⟩
 have h4:∀s:Str,headS 4 s=s:=fun _=>rfl;have h5:∀s:Str,headS 5 s=63::s:=fun _=>rfl;have l63:ltr 63=false:=by decide
 have k:∀{o:Int},1≤o→o≤18→o≠1→o≠2→o≠3→o=4∨o=5∨6≤o:=by intros;omega
 rcases k lo hi a1 a2 a3 with rfl|rfl|b<;>rcases k lo' hi' a1' a2' a3' with rfl|rfl|b'
 ·exact⟨.inl rfl,e,hn⟩
 ·exfalso;obtain⟨c,r,hc,hl⟩:=(zxy h.cl (.inr rfl)).1;rw[h4,h5,hc,List.cons.injEq]at e;rw[e.1,l63]at hl;cases hl
 ·exfalso;obtain⟨c,r,hc,hl⟩:=(zxy h.cl (.inr rfl)).1;obtain⟨d,t,hd,hf,_⟩:=sf s' b' hi';rw[h4,hd,hc,List.cons.injEq]at e;rw[e.1,hf]at hl;cases hl
 ·exfalso;obtain⟨c,r,hc,hl⟩:=(zxy h'.cl (.inr rfl)).1;rw[h4,h5,hc,List.cons.injEq]at e;rw[←e.1,l63]at hl;cases hl
 ·rw[h5,h5,List.cons.injEq]at e;exact⟨.inl rfl,e.2,hn⟩
 ·exfalso;obtain⟨d,t,hd,hf,hne⟩:=sf s' b' hi';rw[h5,hd,List.cons.injEq]at e;exact hne e.1.symm
 ·exfalso;obtain⟨c,r,hc,hl⟩:=(zxy h'.cl (.inr rfl)).1;obtain⟨d,t,hd,hf,_⟩:=sf s b hi;rw[h4,hd,hc,List.cons.injEq]at e;rw[←e.1,hf]at hl;cases hl
 ·exfalso;obtain⟨d,t,hd,hf,hne⟩:=sf s b hi;rw[h5,hd,List.cons.injEq]at e;exact hne e.1
 ·rw[sg s b hi,sg s' b' hi']at e;obtain⟨_,p1,p2⟩:=ywi b hi;obtain⟨_,q1,q2⟩:=ywi b' hi';refine⟨?_,?_,hn⟩
  ·have:=yWS _ p1 _ q1 e;omega
  ·have e1:s=[]:=by rcases nm with h|h|h|h<;>first|exact h|omega
   have e2:s'=[]:=by rcases nm' with h|h|h|h<;>first|exact h|omega
   rw[e1,e2]
def Stop(r:Str):Prop:=∀c,r.head? =some c→c=41∨c=44
theorem Stop.stp{r}(h:Stop r):∀c,r.head? =some c→stp c=true:=fun c hc=>by
 rcases h c hc with rfl|rfl<;>decide
theorem stop41(r:Str):Stop (41::r):=fun c hc=>by simp at hc;exact .inl hc.symm
theorem stop44(r:Str):Stop (44::r):=fun c hc=>by simp at hc;exact .inr hc.symm
theorem yyH(k)(ks)(r:Str):Lib.join ((k::ks).map nameS) [44]++41::r=nameS k++(if ks.isEmpty then 41::r else 44::(Lib.join (ks.map nameS) [44]++41::r)):=by
 rw[mC,Lib.join_cons];cases ks with
 |nil=>simp[Lib.joinTail]
 |cons x l=>rw[mC,Lib.join_cons];simp[Lib.joinTail]
theorem zq4{o}{s:Str}{n ks}(h:Good (.mk o s n ks)):Node o s n ks∧s.all okc=true:=by have h0:Pred.err (.mk o s n ks)=0:=h _ (zjH o s n ks);exact⟨yQv h0,yqn h0⟩
theorem zjb{o s n ks}(h:Node o s n ks)(l:leafO o=true):ks=[]:=by have:=h.kd;rcases zVd l with rfl|rfl|rfl<;> · simp[kidsOk]at this;exact this
theorem yyI{o s n ks}(h:Node o s n ks)(l:leafO o=false):ks≠[]:=by
 rintro rfl
 have:=h.kd;unfold leafO at l;simp only[Bool.or_eq_false_iff]at l;obtain⟨⟨l1,l2⟩,l3⟩:=l;unfold kidsOk at this;rw[l1,l2,l3]at this;simp at this
theorem yVv(p):Good p→∀q,Good q→∀r1 r2,Stop r1→Stop r2→nameS p++r1=nameS q++r2→p=q∧r1=r2:=by
 induction p using Pred.ind with
 |h o s n ks ih=>
 intro hp q hq r1 r2 s1 s2 e;obtain⟨o',s',n',ks'⟩:=q;obtain⟨hn,ha⟩:=zq4 hp;obtain⟨hn',ha'⟩:=zq4 hq;rw[yyQ,yyQ]at e;have st:∀(b:Bool) (x r:Str),Stop r→∀c,(if b then r else 40::x).head? =some c→stp c=true:=fun b x r h c hc=>by
  cases b with
  |true=>exact h.stp c hc
  |false=>simp at hc;rw[←hc];decide
 obtain⟨ew,er⟩:=cut_w (yKc ha) (yKc ha') (st _ _ _ s1) (st _ _ _ s2) e;have bad:∀{r x:Str},Stop r→r≠40::x:=fun{r x} h hr=>by have:=h 40 (by rw[hr];rfl);revert this;decide
 cases l:leafO o with
 |true=>
  cases l':leafO o' with
  |true=>rw[l,l']at er;simp only[if_true]at er;obtain⟨rfl,rfl,rfl⟩:=yKb hn hn' l l' ew;rw[zjb hn l,zjb hn' l'];exact⟨rfl,er⟩
  |false=>rw[l,l']at er;exact absurd er (bad s1)
 |false=>
  cases l':leafO o' with
  |true=>rw[l,l']at er;exact absurd er.symm (bad s2)
  |false=>
   rw[l,l']at er;simp only[Bool.false_eq_true,if_false,List.cons.injEq,true_and]at er;obtain⟨eo,rfl,rfl⟩:=yKa hn hn' l l' ew;have key:∀(l1 l2:List Pred),(∀k∈l1,k∈ks)→(∀k∈l2,Good k)→l1≠[]→l2≠[]→Lib.join (l1.map nameS) [44]++41::r1=Lib.join (l2.map nameS) [44]++41::r2→l1=l2∧r1=r2:=by
    intro l1;induction l1 with
    |nil=>intro l2 _ _ h;exact absurd rfl h
    |cons k l1 ih2=>
     intro l2 g1 g2 _ h2 e;cases l2 with
     |nil=>exact absurd rfl h2
     |cons k' l2=>
      rw[yyH,yyH]at e;have st2:∀(b:Bool) (x y:Str),Stop (if b then 41::x else 44::y):=fun b x y=>by
       cases b with
       |true=>exact stop41 x
       |false=>exact stop44 y
      obtain⟨rfl,e2⟩:=ih k (g1 k (by simp)) (hp.kid (g1 k (by simp))) k' (g2 k' (by simp)) _ _ (st2 _ _ _) (st2 _ _ _) e;cases l1 with
      |nil=>
       cases l2 with
       |nil=>simp only[List.isEmpty_nil,if_true,List.cons.injEq,true_and]at e2;exact⟨rfl,e2⟩
       |cons y l2=>simp at e2
      |cons x l1=>
       cases l2 with
       |nil=>simp at e2
       |cons y l2=>simp only[List.isEmpty_cons,Bool.false_eq_true,if_false,List.cons.injEq,true_and]at e2;obtain⟨h1,h3⟩:=ih2 (y::l2) (fun z hz=>g1 z (by simp[hz])) (fun z hz=>g2 z (by simp[hz])) (by simp) (by simp) e2;exact⟨by rw[h1],h3⟩
   obtain⟨rfl,e4⟩:=key ks ks' (fun k hk=>hk) (fun k hk=>hq.kid hk) (yyI hn l) (yyI hn' l') er;refine⟨?_,e4⟩;have k1:=hn.kd;have k2:=hn'.kd;rcases eo with rfl|⟨rfl,rfl⟩|⟨rfl,rfl⟩
   ·rfl
   ·exfalso;simp[kidsOk]at k1 k2;omega
   ·exfalso;simp[kidsOk]at k1 k2;omega
theorem yyP{p q}(hp:Good p)(hq:Good q)(h:nameS p=nameS q):p=q:=
 (yVv p hp q hq [] [] (fun _ h=>by simp at h) (fun _ h=>by simp at h) (by rw[List.append_nil,List.append_nil,h])).1
end Go.Abs
end
section
namespace Go.Abs
def GN(g:Nat)(l:List Nat):Nat:=l.foldl Nat.gcd g
theorem yvV:∀(l) (g),(gcdL g l).natAbs=GN g.natAbs (l.map fun c=>c.n.natAbs)
 |[],_=>rfl
 |x::l,g=>by show(gcdL (gcdI g x.n) l).natAbs=_;rw[yvV l];rfl
theorem yJr(k):∀(l) (g),GN (k*g) (l.map (k* ·))=k*GN g l
 |[],_=>rfl
 |x::l,g=>by show GN (Nat.gcd (k*g) (k*x)) (l.map (k* ·))=k*GN (Nat.gcd g x) l;rw[Nat.gcd_mul_left,yJr k l]
theorem ywd{k n:Int}(h:k ∣ n):n.natAbs=k.natAbs*(n.tdiv k).natAbs:=by
 obtain⟨m,rfl⟩:=h;by_cases hk:k=0
 ·subst hk;simp
 ·rw[Int.mul_tdiv_cancel_left _ hk,Int.natAbs_mul]
theorem yQj{l k}(h:∀c∈l,k ∣ c.n):(gcdL 0 l).natAbs=k.natAbs*(gcdL 0 (l.map (quoC k))).natAbs:=by
 rw[yvV,yvV];have:(l.map fun c=>c.n.natAbs)=((l.map (quoC k)).map fun c=>c.n.natAbs).map (k.natAbs* ·):=by rw[List.map_map,List.map_map];exact List.map_congr_left fun c hc=>ywd (h c hc)
 rw[this];exact yJr k.natAbs _ 0
theorem xzx{k n:Int}(h:k ∣ n)(hn:n≠0):n.tdiv k≠0:=fun h0=>by have:=ywd h;rw[h0]at this;simp at this;exact hn this
theorem ykR{k n}(h:k ∣ n)(hk:k≠0)(hr:inRange n=true):inRange (n.tdiv k)=true:=by
 have h1:=ywd h;rw[zzp]at*
 have h2:1≤k.natAbs:=by omega
 have:(n.tdiv k).natAbs≤n.natAbs:=by rw[h1];exact Nat.le_mul_of_pos_left _ h2
 omega
theorem yKR{k}(hk:k≠0){p x}(hx:k ∣ x.n)(h:errC p x=0):errC (p.map (quoC k)) (quoC k x)=0:=by
 unfold errC at*
 by_cases h1:(x.name==[]||decide ((x.name.length:Int)>400))=true
 ·rw[if_pos h1]at h;cases h
 rw[if_neg h1]at h;by_cases h2:(x.n==0||!inRange x.n)=true
 ·rw[if_pos h2]at h;cases h
 rw[if_neg h2]at h;simp only[Bool.or_eq_true,beq_iff_eq,not_or,Bool.not_eq_true',Bool.not_eq_false]at h2;have e1:((quoC k x).n==0||!inRange (quoC k x).n)=false:=by show((x.n.tdiv k)==0||!inRange (x.n.tdiv k))=false;rw[ykR hx hk h2.2];simpa using xzx hx h2.1
 rw[if_neg (show¬((quoC k x).name==[]||decide (((quoC k x).name.length:Int)>400))=true from h1),if_neg (by rw[e1];decide)];cases p with
 |none=>rfl
 |some q=>exact h
theorem zQb{k}(hk:k≠0):∀{l} {p},(∀c∈l,k ∣ c.n)→coefE p l=0→coefE (p.map (quoC k)) (l.map (quoC k))=0
 |[],_,_,_=>rfl
 |x::l,p,hd,h=>by
  rw[coefE]at h;by_cases e:(errC p x==0)=true
  ·rw[if_pos e]at h;have h0:=yKR hk (hd x (by simp)) (by simpa using e);rw[mC,coefE,h0];exact zQb hk (p:=some x) (fun c hc=>hd c (by simp[hc])) h
  ·rw[if_neg e]at h;rw[h]at e;exact absurd rfl e
theorem yVj{l k}(h:headN l≠0)(hd:∀c∈l,k ∣ c.n)(hs:0<k∧0≤headN l∨k<0∧headN l<0):0<headN (l.map (quoC k)):=by
 cases l with
 |nil=>exact absurd rfl h
 |cons x l=>
  show 0<x.n.tdiv k;have hs:0<k∧0≤x.n∨k<0∧x.n<0:=hs;have h:x.n≠0:=h;obtain⟨m,hm⟩:=hd x (by simp);rw[hm]at hs h⊢;have hk:k≠0:=by omega
  rw[Int.mul_tdiv_cancel_left _ hk];rcases hs with⟨h1,h2⟩|⟨h1,h2⟩
  ·rcases Int.lt_or_le m 0 with hm0|hm0
   ·have:=Int.mul_neg_of_pos_of_neg h1 hm0;omega
   ·rcases Int.lt_or_eq_of_le hm0 with h3|h3
    ·exact h3
    ·rw[←h3]at h;simp at h
  ·rcases Int.lt_or_le 0 m with hm0|hm0
   ·exact hm0
   ·have:=Int.mul_nonneg_of_nonpos_of_nonpos (Int.le_of_lt h1) hm0;omega
theorem yxJ{d}(h:linE d=0)(hc:d.coefs≠[]):formL d=(⟨d.coefs.map (quoC (gcdI (gcdL 0 d.coefs) d.c*sgnF d.coefs)),d.c.tdiv (gcdI (gcdL 0 d.coefs) d.c*sgnF d.coefs)⟩,sgnF d.coefs):=by
 unfold formL;rw[h,if_neg (by decide),if_neg];cases e:d.coefs with
 |nil=>exact absurd e hc
 |cons x l=>simp;omega
theorem yVM(l:List Coef):l.map (quoC 1)=l:=by
 have:quoC 1=id:=by funext c;obtain⟨s,n⟩:=c;simp[quoC]
 rw[this,List.map_id]
theorem yZt{d}(h:linE d=0)(hc:d.coefs≠[]):linE (formL d).1=0∧(formL d).1.coefs≠[]∧formL (formL d).1=((formL d).1,1):=by
 obtain⟨hce,hcr⟩:=zxR h;have hne:=fun c hc=>((zXs h).2.1 c hc).1;have hhead:headN d.coefs≠0:=by
  cases e:d.coefs with
  |nil=>exact absurd e hc
  |cons x l=>exact hne x (by rw[e];simp)
 have hg0:gcdL 0 d.coefs≠0:=fun h0=>by
  cases e:d.coefs with
  |nil=>exact hc e
  |cons x l=>have:=(zJJ d.coefs 0).2 x (by rw[e];simp);rw[h0]at this;exact hne x (by rw[e];simp) (Int.zero_dvd.1 this)
 have hG:=yvU (b:=d.c) hg0;have hfe:=yxJ h hc;have hsg:sgnF d.coefs=1∧0≤headN d.coefs∨sgnF d.coefs= -1∧headN d.coefs<0:=by unfold sgnF;split<;>omega
 generalize hGe:gcdI (gcdL 0 d.coefs) d.c=G at*
 generalize sgnF d.coefs=sg at*
 generalize hke:G*sg=k at*
 have hk:k≠0∧k.natAbs=G.natAbs∧(0<k∧0≤headN d.coefs∨k<0∧headN d.coefs<0):=by rcases hsg with⟨rfl,h1⟩|⟨rfl,h1⟩<;>omega
 have hGd:=yqh (gcdL 0 d.coefs) d.c;rw[hGe]at hGd;have hkG:∀n:Int,G ∣ n→k ∣ n:=fun n hn=>by rw[←Int.natAbs_dvd_natAbs,hk.2.1];exact Int.natAbs_dvd_natAbs.2 hn
 have hdv:∀c∈d.coefs,k ∣ c.n:=fun c hc=>hkG _ (Int.dvd_trans hGd.1 ((zJJ d.coefs 0).2 c hc));have hdc:k ∣ d.c:=hkG _ hGd.2;rw[hfe];simp only
 have hl':d.coefs.map (quoC k)≠[]:=by simpa using hc
 have hlin:linE ⟨d.coefs.map (quoC k),d.c.tdiv k⟩=0:=by have h24:=zxJ h;unfold linE;rw[if_neg (by simp;omega)];have:=zQb hk.1 (p:=none) hdv hce;rw[show(none:Option Coef).map (quoC k)=none from rfl]at this;rw[if_pos (by simpa using this),if_pos (ykR hdc hk.1 hcr)]
 refine⟨hlin,hl',?_⟩;rw[yxJ hlin hl'];simp only
 have hs1:sgnF (d.coefs.map (quoC k))=1:=by have:=yVj hhead hdv hk.2.2;unfold sgnF;rw[if_neg (by omega)]
 have hg1:gcdI (gcdL 0 (d.coefs.map (quoC k))) (d.c.tdiv k)=1:=by
  have e1:=yQj hdv;have e2:=ywd hdc;have e3:G.natAbs=Nat.gcd (gcdL 0 d.coefs).natAbs d.c.natAbs:=by rw[←hGe];rfl
  rw[e1,e2,Nat.gcd_mul_left,hk.2.1]at e3;have e4:Nat.gcd (gcdL 0 (d.coefs.map (quoC k))).natAbs (d.c.tdiv k).natAbs=1:=by
   have hp:0<G.natAbs:=by omega
   exact Nat.eq_of_mul_eq_mul_left hp (by rw[←e3,Nat.mul_one])
  unfold gcdI;rw[e4];rfl
 rw[hs1,hg1];simp only[Int.mul_one,yVM,Int.tdiv_one]
end Go.Abs
end
section
namespace Go.Abs
theorem yQ9(a):linE (scaleL a (-1)).1=0:=by
 unfold scaleL;split
 ·exact zZG
 ·rename_i hc;have hc:linE a=0:=by simpa using hc
  split
  ·exact zZG
  ·split
   ·obtain⟨_,a2,a3⟩:=zXs hc;have e1:a.coefs.map (mulC (-1))=a.coefs.map (quoC (-1)):=List.map_congr_left fun c hcm=>by have h:=(a2 c hcm).2;unfold mulC quoC;rw[yqH h];simp
    simp only
    rw[e1];have h24:=zxJ hc;unfold linE;rw[if_neg (by simp;omega)];have:=zQb (k:= -1) (by decide) (p:=none) (l:=a.coefs) (fun c _=>⟨-c.n,by omega⟩) (zxR hc).1;rw[show(none:Option Coef).map (quoC (-1))=none from rfl]at this;rw[if_pos (by simpa using this),yqH a3];have h2:inRange (-a.c)=true:=by rw[zzp]at a3⊢;omega
    simp only
    rw[if_pos h2]
   ·exact zZG
theorem yvM(a b):linE (diffL a b).1=0:=yxo _ _
theorem yXT(s):linE (lessL s).1=0:=yxo _ _
theorem yQt(s):linE (negL s).1=0:=yQ9 _
def CQ(q:QS):Prop:=∀f∈q.forms,linE f=0∧f.coefs≠[]∧formL f=(f,1)
structure VP(n:Nat)(p:Pred):Prop where
 ev:∀σ:List Int,n≤σ.length→(∀x∈σ,Sgn x)→0≤evalS σ p
 nm:n≤1000→AllN (fun q=>q.name.length≤1073741824) p
theorem VP.le{n m p}(h:VP n p)(hm:n≤m):VP m p:=⟨fun σ hl hs=>h.ev σ (by omega) hs,fun h1=>h.nm (by omega)⟩
theorem yJD{o a b}(ha:AllN (fun q=>q.name.length≤1073741824) a)(hb:AllN (fun q=>q.name.length≤1073741824) b):AllN (fun q=>q.name.length≤1073741824) (.mk o [] 0 [a,b]):=AllN.mk (by show 0≤1073741824;omega) (by
 intro k hk;simp only[List.mem_cons,List.not_mem_nil,or_false]at hk;rcases hk with rfl|rfl
 ·exact ha
 ·exact hb)
theorem yQu{o i}(h:i<1000):AllN (fun q=>q.name.length≤1073741824) (leafP o i):=yJD (AllN.mk (by have:=Lib.itoa_length_le (i:Int) (by omega) (by omega);show(Lib.itoa (i:Int)).length≤1073741824;omega) (by simp)) (AllN.mk (by show 0≤1073741824;omega) (by simp))
theorem xzD{x}(h:Sgn x):sgnOk x=true:=by unfold Sgn at h;unfold sgnOk;simp;omega
theorem yky:∀{σ} {j k},(∀x∈σ,Sgn x)→k<σ.length→(lookGo (Lib.itoa ((j+k:Nat):Int)) j σ).isSome=true
 |[],_,_,_,h=>by simp at h
 |x::σ,j,0,hs,_=>by rw[lookGo,Nat.add_zero,beq_self_eq_true,xzD (hs x (by simp))];rfl
 |x::σ,j,k+1,hs,h=>by
  rw[lookGo];split
  ·rfl
  ·have:=yky (σ:=σ) (j:=j+1) (k:=k) (fun y hy=>hs y (by simp[hy])) (by simpa using h);rw[show j+1+k=j+(k+1) by omega]at this;exact this
theorem yZn{σ o i}(ho:o=10∨o=13):evalS σ (leafP o i)=leafV o (lookGo (Lib.itoa (i:Int)) 0 σ):=by
 unfold leafP;rw[evalS];rw[if_pos (by rcases ho with rfl|rfl<;>rfl)];congr 1;show(if((Pred.mk 3 (Lib.itoa (i:Int)) 0 []).same (.mk 3 (Lib.itoa (i:Int)) 0 [])&&(Pred.mk 1 [] 0 []).same (.mk 1 [] 0 []))=true then lookGo (Lib.itoa (i:Int)) 0 σ else none)=_;rw[if_pos]
 ·rw[Bool.and_eq_true];exact⟨(Pred.zyC _ _).2 rfl,(Pred.zyC _ _).2 rfl⟩
theorem yXF(b):0≤isS b:=by cases b<;>decide
theorem zWN{n i o}(ho:o=10∨o=13)(h:i<n):VP n (leafP o i):=⟨fun σ hl hs=>by
 rw[yZn ho];have:=yky (σ:=σ) (j:=0) (k:=i) hs (by omega);rw[zA]at this;cases e:lookGo (Lib.itoa (i:Int)) 0 σ with
 |none=>rw[e]at this;cases this
 |some s=>exact yXF _,fun hn=>yQu (by omega)⟩
theorem yyR{x}(h:0≤x)(hs:Sgn x):0≤notS x:=by unfold notS;unfold Sgn at hs;split<;>omega
theorem yX5{x y}(h:0≤x)(hs:Sgn x)(h2:0≤y)(hs2:Sgn y):0≤andS x y:=by
 unfold andS Sgn at*
 split
 ·omega
 ·rename_i hc;simp only[Bool.or_eq_true,beq_iff_eq,not_or]at hc;rw[if_pos (by simp;omega)];omega
theorem yxg{n p}(h:VP n p):VP n (negP p):=⟨fun σ hl hs=>by show 0≤evalS σ (.mk 14 [] 0 [p]);rw[evalS];exact yyR (h.ev σ hl hs) (zxl _ _),fun hn=>AllN.mk (by show 0≤1073741824;omega) (by intro k hk;rw[List.mem_singleton.1 hk];exact h.nm hn)⟩
theorem yxh{n o a b}(ho:o=15∨o=16∨o=17∨o=18)(ha:VP n a)(hb:VP n b):VP n (.mk o [] 0 [a,b]):=⟨fun σ hl hs=>by
 have h1:=ha.ev σ hl hs;have h2:=hb.ev σ hl hs;have s1:=zxl σ a;have s2:=zxl σ b;rw[evalS];rcases ho with rfl|rfl|rfl|rfl
 ·exact yX5 h1 s1 h2 s2
 ·exact yyR (yX5 (yyR h1 s1) (zwZ s1) (yyR h2 s2) (zwZ s2)) (zvY _ _)
 ·exact yyR (yX5 h1 s1 (yyR h2 s2) (zwZ s2)) (zvY _ _)
 ·show 0≤(if decide (evalS σ a<0)||decide (evalS σ b<0)then-1 else isS (evalS σ a==evalS σ b));rw[if_neg (by simp;omega)];exact yXF _,fun hn=>yJD (ha.nm hn) (hb.nm hn)⟩
theorem zVF{n}(m):VP n (.mk 2 [] m []):=⟨fun σ _ _=>by
 rw[evalS,if_pos (beq_self_eq_true (2:Int))];exact yXF _,fun _=>AllN.mk (by show 0≤1073741824;omega) (by simp)⟩
theorem vp_tP{n}(b):VP n (tP b):=by
 unfold tP;split
 ·exact zVF 1
 ·exact zVF 0
structure Res(q:QS)(r:Pred×QS):Prop where
 cq:CQ r.2
 le:q.forms.length≤r.2.forms.length
 vp:VP r.2.forms.length r.1
theorem yYD{d q}(hd:linE d=0)(hc:d.coefs≠[])(hq:CQ q):CQ (askS txt0 d q).2∧(askS txt0 d q).1<(askS txt0 d q).2.forms.length∧q.forms.length≤(askS txt0 d q).2.forms.length:=by
 unfold askS;cases h:lookI txt0 q.forms (txt0 (formL d).1)with
 |some i=>have:=yxY txt0 _ q.forms 0 i h;exact⟨hq,by simp;omega,Nat.le_refl _⟩
 |none=>
  refine⟨fun f hf=>?_,by simp,by simp⟩;rcases List.mem_append.1 hf with hf|hf
  ·exact hq f hf
  ·rw[List.mem_singleton.1 hf];exact yZt hd hc
theorem zJG{d:Lin}(h:¬((d.coefs.length:Int)==0)=true):d.coefs≠[]:=fun h0=>h (by rw[h0];rfl)
theorem yqY{d q}(hd:linE d=0)(hq:CQ q):Res q (zeroQ txt0 d q):=by
 unfold zeroQ;split
 ·exact⟨hq,Nat.le_refl _,vp_tP _⟩
 ·rename_i h;obtain⟨h1,h2,h3⟩:=yYD hd (zJG h) hq;exact⟨h1,h3,zWN (.inl rfl) h2⟩
theorem yx1{d q}(hd:linE d=0)(hq:CQ q):Res q (mostQ txt0 d q):=by
 unfold mostQ;split
 ·exact⟨hq,Nat.le_refl _,vp_tP _⟩
 ·rename_i h;obtain⟨h1,h2,h3⟩:=yYD hd (zJG h) hq;split
  ·exact⟨h1,h3,yxh (.inr (.inl rfl)) (yxg (zWN (.inr rfl) h2)) (zWN (.inl rfl) h2)⟩
  ·exact⟨h1,h3,zWN (.inr rfl) h2⟩
theorem yYI{d q}(hd:linE d=0)(hq:CQ q):Res q (belowQ txt0 d q):=by
 unfold belowQ;split
 ·exact⟨hq,Nat.le_refl _,vp_tP _⟩
 ·rename_i h;obtain⟨h1,h2,h3⟩:=yYD hd (zJG h) hq;split
  ·exact⟨h1,h3,yxg (zWN (.inr rfl) h2)⟩
  ·exact⟨h1,h3,yxh (.inl rfl) (zWN (.inr rfl) h2) (yxg (zWN (.inl rfl) h2))⟩
theorem Res.of{q q1 r}(h:Res q1 r)(hl:q.forms.length≤q1.forms.length):Res q r:=⟨h.cq,Nat.le_trans hl h.le,h.vp⟩
theorem yW9{s q}(hq:CQ q):Res q (valueQ txt0 s q):=by unfold valueQ;have hf:((q.take s).note (lessL s).2).forms=q.forms:=zVB q s;refine(yqY (yXT s) (q:=(q.take s).note (lessL s).2) ?_).of (by rw[hf];exact Nat.le_refl _);unfold CQ;rw[hf];exact hq
theorem ywH{s up q}(hq:CQ q):Res q (boundQ txt0 s up q):=by
 unfold boundQ;split
 ·exact(yx1 (yXT s) (q:=q.note _) hq).of (Nat.le_refl _)
 ·exact(yx1 (yQt s) (q:=q.note _) hq).of (Nat.le_refl _)
theorem yQc{o d q}(hd:linE d.1=0)(hq:CQ q):Res q (cmpQ txt0 o d q):=by
 unfold cmpQ;have hz:=(yqY hd (q:=q.note d.2) hq).of (q:=q) (Nat.le_refl _);split
 ·exact⟨hq,Nat.le_refl _,zVF 0⟩
 ·split
  ·exact hz
  ·split
   ·exact⟨hz.cq,hz.le,yxg hz.vp⟩
   ·split
    ·exact(yx1 hd (q:=q.note d.2) hq).of (Nat.le_refl _)
    ·exact(yYI hd (q:=q.note d.2) hq).of (Nat.le_refl _)
end Go.Abs
end
section
namespace Go.Abs
def NoHole:Pred→Prop:=AllN fun q=>q.op≠5
theorem yXs{v}:∀{l} {q},(∀k∈l,∀q,CQ q→Res q (predQ v txt0 k q))→CQ q→CQ (predQ.go v txt0 l q).2∧q.forms.length≤(predQ.go v txt0 l q).2.forms.length∧(predQ.go v txt0 l q).1.length=l.length∧∀x∈(predQ.go v txt0 l q).1,VP (predQ.go v txt0 l q).2.forms.length x
 |[],q,_,hq=>⟨hq,Nat.le_refl _,rfl,by intro x hx;cases hx⟩
 |k::l,q,h,hq=>by
  have h1:=h k (by simp) q hq;obtain⟨a,b,c,d⟩:=yXs (l:=l) (fun x hx=>h x (by simp[hx])) h1.cq;rw[predQ.go];refine⟨a,Nat.le_trans h1.le b,by simp[c],fun x hx=>?_⟩;rcases List.mem_cons.1 hx with rfl|hx
  ·exact h1.vp.le b
  ·exact d x hx
theorem zvi:sInt≠sBool:=by decide
theorem ykH{v o}{s:Str}{n ks}(h:ofS v (.mk o s n ks)=(sBool,0)):(∀k∈ks,(ofS v k).2=0)∧nodeS v o s (ks.map fun k=>(ofS v k).1)=(sBool,0):=by
 rw[zJj]at h;by_cases h1:(ofS.errs v ks !=0)=true
 ·rw[if_pos h1]at h;have:=congrArg Prod.fst h;simp[sBool]at this
 ·rw[if_neg h1]at h;exact⟨zYs (by simpa using h1),h⟩
theorem zKP{v k}(h:(srt v k==sBool)=true):ofS v k=(sBool,0):=by
 have h:(OfS v k).1=sBool:=by simpa[srt]using h
 unfold OfS at h;by_cases h1:(k.checkE !=0)=true
 ·rw[if_pos h1]at h;cases h
 ·rw[if_neg h1]at h;by_cases h2:(ofS v k).2=0
  ·exact Prod.ext h h2
  ·exfalso;obtain⟨o,s,n,ks⟩:=k;rw[zJj]at h h2;by_cases h3:(ofS.errs v ks !=0)=true
   ·rw[if_pos h3]at h;cases h
   ·rw[if_neg h3]at h h2;revert h h2;unfold nodeS appS holeS opS
    repeat' split
    all_goals simp[sBool]
theorem zVc{o m}(h:kidsOk o m=true)(ho:o=10∨o=11∨o=12∨o=13∨o=15∨o=16∨o=17∨o=18):m=2:=by
 rcases ho with rfl|rfl|rfl|rfl|rfl|rfl|rfl|rfl<;>simpa[kidsOk]using h
theorem zqA{α:Type}{l:List α}(h:l.length=2):∃a b,l=[a,b]:=by
 match l,h with
 |[a,b],_=>exact⟨a,b,rfl⟩
theorem yv7{α:Type}{l:List α}(h:l.length=1):∃a,l=[a]:=by
 match l,h with
 |[a],_=>exact⟨a,rfl⟩
theorem zZn{l s}(h:allS l s=true):∀x∈l,x=s:=fun x hx=>by have:=List.all_eq_true.1 h x hx;simpa using this
theorem ykr{v o s l}(ho:o=14∨o=15∨o=16∨o=17∨o=18)(h:nodeS v o s l=(sBool,0)):∀x∈l,x=sBool:=by
 have:(if allS l sBool then(sBool,(0:Int))else([],11))=(sBool,0):=by rcases ho with rfl|rfl|rfl|rfl|rfl<;>exact h
 split at this
 ·rename_i h;exact zZn h
 ·simp[sBool]at this
theorem yVL{v}(p):Good p→NoHole p→ofS v p=(sBool,0)→∀q,CQ q→Res q (predQ v txt0 p q):=by
 induction p using Pred.ind with
 |h o s n ks ih=>
 intro hg hh ho q hq;obtain⟨hn,_⟩:=zq4 hg;obtain⟨he,hs⟩:=ykH ho;have hh5:o≠5:=hh.top;rw[predQ];split
 ·rename_i h2;have:o=2:=by simpa using h2
  subst this;rw[zjb hn rfl];have hs0:s=[]:=by have:=hn.nm;simpa using this
  rw[hs0];exact⟨hq,Nat.le_refl _,zVF n⟩
 split
 ·exact yW9 hq
 split
 ·rename_i h2 h3 h4;have h4:o=10∨o=11∨o=12∨o=13:=by simpa using h4
  obtain⟨a,b,rfl⟩:=zqA (l:=ks) (by have:=zVc hn.kd (by omega);omega);split
  ·rename_i h5;have ha:=zKP h5;rw[List.getD_cons_zero]at ha;have h5':o=10∨o=11:=by
    rcases h4 with h|h|h|h
    ·exact .inl h
    ·exact .inr h
    all_goals
     exfalso;subst h;have:(if allS [(ofS v a).1,(ofS v b).1] sInt then(sBool,(0:Int))else([],11))=(sBool,0):=hs;split at this
     ·rename_i h6;have:=zZn h6 (ofS v a).1 (by simp);rw[ha]at this;exact zvi this.symm
     ·simp[sBool]at this
   have hb:ofS v b=(sBool,0):=by
    have h6:(if(ofS v a).1==(ofS v b).1 then(sBool,(0:Int))else([],11))=(sBool,0):=by rcases h5' with rfl|rfl<;>exact hs
    have h7:(ofS v a).1=(ofS v b).1:=by
     by_cases c:((ofS v a).1==(ofS v b).1)=true
     ·simpa using c
     ·rw[if_neg c]at h6;simp[sBool]at h6
    exact Prod.ext (by rw[←h7,ha]) (he b (by simp))
   obtain⟨g1,g2,g3,g4⟩:=yXs (v:=v) (l:=[a,b]) (q:=q) (fun k hk=>by
    have hk':ofS v k=(sBool,0):=by
     simp only[List.mem_cons,List.not_mem_nil,or_false]at hk;rcases hk with rfl|rfl
     ·exact ha
     ·exact hb
    exact ih k hk (hg.kid hk) (hh.kid hk) hk') hq
   refine⟨g1,g2,?_⟩;obtain⟨x,y,hxy⟩:=zqA g3;have hx:=g4 x (by rw[hxy];simp);have hy:=g4 y (by rw[hxy];simp);show VP _ (iffQ o (predQ.go v txt0 [a,b] q).1);rw[hxy];unfold iffQ;split
   ·exact yxg (yxh (.inr (.inr (.inr rfl))) hx hy)
   ·exact yxh (.inr (.inr (.inr rfl))) hx hy
  ·exact yQc (yvM _ _) hq
 ·rename_i h2 h3 h4;have h2:o≠2:=by simpa using h2
  have h3:o≠3∧o≠4:=by simpa using h3
  have h4:o≠10∧o≠11∧o≠12∧o≠13:=by simpa using h4
  have lo:=hn.lo;have hi:=hn.hi;have h6:o=14∨o=15∨o=16∨o=17∨o=18:=by
   have hd:o=1∨o=6∨o=7∨o=8∨o=9∨(14≤o):=by omega
   have hbad:∀l:List Str,(if allS l sInt then(sInt,(0:Int))else([],11))≠(sBool,0):=fun l=>by split<;>simp[sInt,sBool]
   rcases hd with rfl|rfl|rfl|rfl|rfl|h
   ·exact absurd (congrArg Prod.fst hs) zvi
   ·exact absurd hs (hbad _)
   ·exact absurd hs (hbad _)
   ·exact absurd hs (hbad _)
   ·exact absurd hs (hbad _)
   ·omega
  have hkb:=ykr h6 hs;have hkid:∀k∈ks,ofS v k=(sBool,0):=fun k hk=>Prod.ext (hkb _ (List.mem_map.2 ⟨k,hk,rfl⟩)) (he k hk);obtain⟨g1,g2,g3,g4⟩:=yXs (v:=v) (l:=ks) (q:=q) (fun k hk=>ih k hk (hg.kid hk) (hh.kid hk) (hkid k hk)) hq;refine⟨g1,g2,?_⟩;show VP _ (.mk o [] 0 (predQ.go v txt0 ks q).1);by_cases h14:o=14
  ·subst h14;have hl1:ks.length=1:=by have:=hn.kd;simp[kidsOk]at this;omega
   obtain⟨x,hx⟩:=yv7 (g3.trans hl1);rw[hx];exact yxg (g4 x (by rw[hx];simp))
  ·have hl2:ks.length=2:=by have:=zVc hn.kd (by omega);omega
   obtain⟨x,y,hxy⟩:=zqA (g3.trans hl2);rw[hxy];exact yxh (by omega) (g4 x (by rw[hxy];simp)) (g4 y (by rw[hxy];simp))
end Go.Abs
end
