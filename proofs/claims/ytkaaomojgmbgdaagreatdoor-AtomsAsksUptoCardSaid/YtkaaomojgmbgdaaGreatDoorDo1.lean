/-
  THE DOOR: arguments that a statement reads as data are data of the abstract machine; the functions here are those of the program.
-/
import Derived.OpenShut
import Derived.Deep.DeepHandedRow
import Derived.Lib.LaidTab
import Derived.Carry
import Derived.ChangeCalls
import Derived.LaidLaws
import Derived.Lib.LaidPrint
import Derived.Lib.LaidU8
import Derived.KernelRfl
import Derived.Test.YtkaaomojgmbgdaaGreatDoorProg
import Derived.Shelf.LaysM
import Derived.Shelf.Strconv.Itoa3
import Derived.Lib.AppendIntMem
import Derived.Shelf.LaysC
import Derived.Shelf.Strconv.AtoiAll
import Derived.Shelf.Lays
import Derived.Shelf.Strings.OnBuilder
import Derived.WalkKit
import Derived.BigCall
import Derived.Deep.RegionWith
import Derived.Shelf.Strconv.Quote
import Derived.Lib.TrimAscii
import Derived.Test.YtkaaomojgmbgdaaGreatDoorCards
import Derived.Test.YtkaaomojgmbgdaaGreatDoorTie
import Derived.ProofKit
import Derived.Lay
import Derived.MakeChecks
import Derived.Deep.DeepWitnessRowRef
import Derived.Test.YtkaaomojgmbgdaaGreatDoorCon3
set_option linter.unusedSimpArgs false
set_option linter.unusedVariables false
set_option linter.unusedSectionVars false
set_option maxRecDepth 100000
section
namespace Go.Abs
open Go.RowKit
variable{H:Type}{enc:TypeId×Value→H}{P:Program}{w:World}
def dm(w:World):Safe:=fun b o=>∃v,w.cell? ⟨b,o,none⟩=some v
structure jb(bulk:DataW H→Nat)(all:List (DataW H)→Nat):Prop where
 one:∀d,1≤bulk d
 str:∀s,s.length+1≤bulk (.lit (.string s))
 slice:∀a b,all a+1≤bulk (.slice a b)
 agg:∀a,all a+1≤bulk (.agg a)
 cons:∀d r,bulk d+all r≤all (d::r)
variable{bulk:DataW H→Nat}{all:List (DataW H)→Nat}
def bC(enc:TypeId×Value→H)(P:Program)(w:World)(bulk:DataW H→Nat)(n:Nat)(t:TypeId){α:Type}(f:α→List D)(sz:α→Nat):Prop:=
 ∀cs d ps,DataW.trod enc P w 0 (fun _=>true) true n t cs=some (d,ps)→∃x:α,aS w (dm w) (f x) cs∧sz x≤bulk d
theorem En{n t α β f sz g rn}(h:bC enc P w bulk n t f sz)(φ:α→β)(hf:∀x,g (φ x)=f x)(hs:∀x,rn (φ x)≤sz x):bC enc P w bulk n t g rn:=fun cs d ps hr=>by obtain⟨x,h1,h2⟩:=h cs d ps hr;exact⟨φ x,by rw[hf];exact h1,Nat.le_trans (hs x) h2⟩
theorem VO(hb:jb bulk all){k n t}(ht:P.underlying t=some (.int k)):bC enc P w bulk n t (fun x:Int=>[.int k x]) (fun _=>1):=by
 intro cs d ps h;cases n with
 |zero=>cases h
 |succ n=>
  unfold DataW.trod at h;rw[ht]at h;split at h<;>(try (cases h;done))<;>rename_i h1<;>cases h1;rename_i k' m;split at h
  ·rename_i hk;obtain⟨rfl,_⟩:=hk;exact⟨m,⟨_,_,rfl,rfl,rfl⟩,hb.one _⟩
  ·cases h
theorem DZ(hb:jb bulk all){n t}(ht:P.underlying t=some .string):bC enc P w bulk n t (fun x:List UInt8=>[.str x]) (fun x=>x.length+1):=by
 intro cs d ps h;cases n with
 |zero=>cases h
 |succ n=>
  unfold DataW.trod at h;rw[ht]at h;split at h<;>(try (cases h;done))<;>rename_i h1<;>cases h1;rename_i s;split at h
  ·rename_i hk;cases h;exact⟨s.data.toList,⟨_,_,rfl,⟨s,rfl,rfl,by simpa[maxLen]using hk⟩,rfl⟩,hb.str _⟩
  ·cases h
theorem mapM_reads{α}{f:α→List D}{sz:α→Nat}(hb:jb bulk all){n e}(he:bC enc P w bulk n e f sz)(g:Nat→Option (List Value)):
  ∀(is:List Nat) {xs:List (DataW H×List MemPlace)},(is.mapM fun i=>(g i).bind (DataW.trod enc P w 0 (fun _=>true) true n e))=some xs→
   ∃l:List α,l.length=is.length∧(∀k (h:k<is.length),∃cs,g is[k]=some cs∧∃(h':k<l.length),aS w (dm w) (f l[k]) cs)∧(l.map sz).sum≤all (xs.map (·.1))
 |[],xs,h=>by simp at h;subst h;exact⟨[],rfl,by simp,by simp⟩
 |i::is,xs,h=>by
  simp only[List.mapM_cons,Option.bind_eq_bind,Option.bind_eq_some_iff,Option.pure_def,Option.some.injEq]at h;obtain⟨⟨d,ps⟩,⟨cs,hg,ht⟩,DP,ef,rfl⟩:=h;obtain⟨x,hx,cU⟩:=he cs d ps ht;obtain⟨l,hl,fE,yz⟩:=mapM_reads hb he g is ef;refine⟨x::l,by simp[hl],?_,?_⟩
  ·intro k hk;cases k with
   |zero=>exact⟨cs,hg,by simp,hx⟩
   |succ k=>obtain⟨kt,h1,h2,h3⟩:=fE k (by simpa using hk);exact⟨kt,h1,by simpa using h2,h3⟩
  ·simp only[mC,List.sum_cons];exact Nat.le_trans (Nat.add_le_add cU yz) (hb.cons _ _)
theorem SF{w:World}{a n cs}(h:w.cells? 0 a n=some cs):cs.length=n∧∀j,j<n→∃v,cs[j]? =some v∧w.cell? (a.add j)=some v:=by
 unfold World.cells? at h;rw[if_pos (Nat.zero_le _)]at h;have key:∀(is:List Nat) (cs:List Value),(is.mapM fun i=>w.cell? (a.add i))=some cs→cs.length=is.length∧∀k (hk:k<is.length),∃v,cs[k]? =some v∧w.cell? (a.add is[k])=some v:=by
  intro is;induction is with
  |nil=>intro cs h;simp at h;subst h;simp
  |cons i is ih=>
   intro cs h;simp only[List.mapM_cons,Option.bind_eq_bind,Option.bind_eq_some_iff,Option.pure_def,Option.some.injEq]at h;obtain⟨v,hv,kt,dU,rfl⟩:=h;obtain⟨h1,h2⟩:=ih kt dU;refine⟨by simp[h1],fun k hk=>?_⟩;cases k with
   |zero=>exact⟨v,rfl,hv⟩
   |succ k=>simpa using h2 k (by simpa using hk)
 obtain⟨h1,h2⟩:=key _ _ h;refine⟨by simpa using h1,fun j hj=>?_⟩;obtain⟨v,e1,e2⟩:=h2 j (by simpa using hj);exact⟨v,e1,by simpa using e2⟩
theorem zJn{w:World}{a v}(h:w.cell? a=some v):a.spot=none:=by
 unfold World.cell? at h;split at h
 ·split at h
  ·cases h
  ·rename_i hs;cases hh:a.spot with
   |none=>rfl
   |some x=>rw[hh]at hs;simp at hs
 ·cases h
theorem yYr{a:Addr}(h:a.spot=none)(n):a.add n=⟨a.block,a.off+n,none⟩:=by obtain⟨b,o,sp⟩:=a;simp only at h;subst h;exact addr_add b o n
theorem zWH(hb:jb bulk all){α f sz n t e}(ht:P.underlying t=some (.slice e))(hk:P.cellsOf e≠0)(hf:∀x,(f x).length=P.cellsOf e)(he:bC enc P w bulk n e f sz):
  bC enc P w bulk (n+1) t (fun l:List α=>[.aw (l.map f)]) (fun l=>(l.map sz).sum+1):=by
 intro cs d ps h;unfold DataW.trod at h;rw[ht]at h;split at h<;>(try (cases h;done))<;>rename_i h1<;>cases h1
 ·cases h;exact⟨[],⟨_,_,rfl,⟨none,0,rfl,Nat.le_refl _,by omega,fun _=>rfl,fun a ha=>by cases ha⟩,rfl⟩,hb.one _⟩
 ·rename_i a len cap;simp only at h;split at h
  ·rename_i hc;obtain⟨_,Qz,pZ⟩:=hc;simp only[Option.bind_eq_some_iff,Option.map_eq_some_iff]at h;obtain⟨xs,ef,rest,ma,h⟩:=h;cases h;simp only[if_true]at ma;obtain⟨l,hl,fE,yz⟩:=mapM_reads hb he (fun i=>w.cells? 0 (a.add (i*P.cellsOf e)) (P.cellsOf e)) (List.range len) ef;have sY:l.length=len:=by simpa using hl
   have Dm:cap≠0→a.spot=none:=by
    intro yj;by_cases sK:len=0
    ·subst sK;have bf:0<cap-0:=by omega
     obtain⟨l',gC,Qy,_⟩:=mapM_reads hb he (fun j=>w.cells? 0 (a.add ((0+j)*P.cellsOf e)) (P.cellsOf e)) (List.range (cap-0)) ma;obtain⟨cs,dU,_⟩:=Qy 0 (by simpa using bf);obtain⟨_,hg⟩:=SF dU;obtain⟨v,_,hv⟩:=hg 0 (by omega);have:=zJn hv;simpa[Addr.add]using this
    ·obtain⟨cs,dU,_⟩:=fE 0 (by simp;omega);obtain⟨_,hg⟩:=SF dU;obtain⟨v,_,hv⟩:=hg 0 (by omega);have:=zJn hv;simpa[Addr.add]using this
   refine⟨l,⟨_,_,rfl,⟨some a,cap,by rw[lM,sY],by rw[lM,sY];exact Qz,by simpa[maxLen]using pZ,(fun h=>by cases h),?_⟩,rfl⟩,Nat.le_trans (Nat.succ_le_succ yz) (hb.slice _ _)⟩;intro a' BS;cases BS;refine⟨Dm,⟨P.cellsOf e,fun x hx=>by obtain⟨y,_,rfl⟩:=List.mem_map.1 hx;exact hf y⟩,?_⟩;have key:∀(r:List α) (i:Nat),(∀k (hk:k<r.length),∃(h':i+k<l.length),l[i+k]=r[k])→bY w (dm w) a.block (a.off+i*P.cellsOf e) (r.map f):=by
    intro r;induction r with
    |nil=>intro i _;trivial
    |cons x r ih=>
     intro i hi;obtain⟨h',e0⟩:=hi 0 (by simp);simp only[Nat.add_zero,List.getElem_cons_zero]at h' e0;obtain⟨cs,dU,h2,aM⟩:=fE i (by simpa[sY]using h');simp only[List.getElem_range]at dU;obtain⟨jn,hg⟩:=SF dU;have gy:=Dm (by omega);refine⟨?_,?_⟩
     ·rw[←e0];refine aP.Ct aM fun j v hj=>?_;have tW:j<P.cellsOf e:=by rw[←jn];exact(List.getElem?_eq_some_iff.1 hj).1
      obtain⟨v',e1,e2⟩:=hg j tW;rw[hj]at e1;cases e1;rw[yYr gy,addr_add]at e2;exact⟨e2,v,e2⟩
     ·have:=ih (i+1) (fun k hk=>by
        obtain⟨g1,g2⟩:=hi (k+1) (by simpa using hk);refine⟨by omega,?_⟩;have e3:i+1+k=i+(k+1):=by omega
        simp only[e3];simpa using g2)
      rw[hf x,show a.off+i*P.cellsOf e+P.cellsOf e=a.off+(i+1)*P.cellsOf e by rw[Nat.add_mul];omega];exact this
   have:=key l 0 (fun k hk=>⟨by omega,by simp⟩);simpa using this
  ·cases h
def nc(enc:TypeId×Value→H)(P:Program)(w:World)(bulk:DataW H→Nat)(all:List (DataW H)→Nat)(n:Nat)(fs:List Field)(off:Nat){α:Type}(f:α→List D)(sz:α→Nat):Prop:=
 ∀(cs:List Value) (xs:List (DataW H×List MemPlace)),(fs.mapM fun fd=>DataW.trod enc P w 0 (fun _=>true) true n fd.type ((cs.drop fd.offset).take (P.cellsOf fd.type)))=some xs→
  ∃x:α,aS w (dm w) (f x) ((cs.drop off).take (f x).length)∧sz x≤all (xs.map (·.1))
theorem SS{n off}:nc enc P w bulk all n [] off (fun _:Unit=>[]) (fun _=>0):=by intro cs xs h;exact⟨(),by simp[aS],Nat.zero_le _⟩
theorem aS.Zr{S}:∀{a b} {l:List Value},aS w S a (l.take a.length)→aS w S b ((l.drop a.length).take b.length)→aS w S (a++b) (l.take (a++b).length)
 |[],b,l,_,h2=>by simpa using h2
 |x::a,b,l,⟨v,r,h,h1,nJ⟩,h2=>by
  cases l with
  |nil=>simp at h
  |cons y l=>simp only[lC,List.take_succ_cons,List.cons.injEq]at h;obtain⟨rfl,rfl⟩:=h;simp only[List.cons_append,lC,List.take_succ_cons];exact⟨_,_,rfl,h1,aS.Zr nJ (by simpa using h2)⟩
theorem CB(hb:jb bulk all){n off k fd fs α β f sz g rn}(ho:fd.offset=off)(hk:P.cellsOf fd.type=k)(hf:∀x,(f x).length=k)
  (h1:bC enc P w bulk n fd.type f sz) (h2:nc enc P w bulk all n fs (off+k) g rn):nc enc P w bulk all n (fd::fs) off (fun x:α×β=>f x.1++g x.2) (fun x=>sz x.1+rn x.2):=by
 intro cs xs h;simp only[List.mapM_cons,Option.bind_eq_bind,Option.bind_eq_some_iff,Option.pure_def,Option.some.injEq]at h;obtain⟨⟨d,ps⟩,hd,DP,ef,rfl⟩:=h;obtain⟨x,hx,Re⟩:=h1 _ d ps hd;obtain⟨y,hy,jT⟩:=h2 cs DP ef;refine⟨(x,y),?_,Nat.le_trans (Nat.add_le_add Re jT) (by simpa using hb.cons _ _)⟩;refine aS.Zr ?_ ?_
 ·rw[hf x,←hk,←ho];exact hx
 ·rw[hf x,List.drop_drop];exact hy
theorem Uj(hb:jb bulk all){n t fs α f}{sz:α→Nat}(ht:P.underlying t=some (.struct fs))(hk:∀x,(f x).length=P.cellsOf t)(h:nc enc P w bulk all n fs.toList 0 f sz):
  bC enc P w bulk (n+1) t f (fun x=>sz x+1):=by
 intro cs d ps hr;unfold DataW.trod at hr;simp only[ht]at hr;split at hr
 ·rename_i hlen;simp only[Option.map_eq_some_iff]at hr;obtain⟨xs,ef,hr⟩:=hr;cases hr;obtain⟨x,hx,hs⟩:=h cs xs ef;refine⟨x,?_,Nat.le_trans (Nat.succ_le_succ hs) (hb.agg _)⟩;rw[List.drop_zero,hk x,←hlen,List.take_length]at hx;exact hx
 ·cases hr
end Go.Abs
end
section
namespace Go.Abs
open Go.RowKit Go.ChangeShapes
variable{H:Type}{enc:TypeId×Value→H}{P:Program}{w:World}
theorem xzw{f}{s:ChangeSpec}{apart fresh handsOn again W W' args ds gs before tb}
  (hW:DataW.Whole enc P f.params.toList s.vars apart W args.toList ds gs before) (Dr:s.vars=[]) (sX:∀l,l.length=f.params.size→(s.fn H l).results=[.lit (.bool true)]∧(s.fn H l).args=l∧(s.fn H l).vars=[]) (hb:Below W.heap.size W W')
  (hl:laidOutB P=true) (hp:∀t∈f.params.toList,P.readableRec t=true∧t<P.types.size) (GS:P.underlying tb=some .bool) (hr:f.resultTypes=#[tb]):s.post enc P f apart fresh handsOn again W args (.bool true) W':=by
 obtain⟨p,q,hA,hV,QM,hz,hn⟩:=id hW;rw[Dr]at hV;obtain⟨rfl,rfl⟩:=trodVars_none hV;have hlen:ds.length=f.params.size:=by have:=(trodAll_length hA).2;simpa using this
 obtain⟨e1,e2,e3⟩:=sX ds hlen;have bf:∀x∈before,x.block<W.heap.size:=hW.lt;rw[List.append_nil]at QM;subst QM;have tY:∀(b:Nat) (sp:Nat→Bool) (hd:Bool),DataW.TrodAll enc P W' b sp hd f.resultTypes.toList ((Value.bool true).resultList f.resultTypes.size) (s.fn H (ds++[])).results []:=by intro b sp hd;rw[List.append_nil,e1,hr];exact trodAll_cons_mk (p:=[]) (p':=[]) (shut_bool GS true) trodAll_mk0
 have bU:∀sp:Nat→Bool,(∀x∈before,sp x.block=true)→DataW.TrodAll enc P W' 0 sp true f.params.toList args.toList (s.fn H (ds++[])).args before:=by
  intro sp gy;rw[List.append_nil,e2];have key:∀(ts:List TypeId) (vs:List Value) (ds:List (DataW H)) (ps:List MemPlace),(∀t∈ts,P.readableRec t=true∧t<P.types.size)→(∀x∈ps,x∈before)→DataW.TrodAll enc P W 0 (fun _=>true) true ts vs ds ps→DataW.TrodAll enc P W' 0 sp true ts vs ds ps:=by
   intro ts;induction ts with
   |nil=>intro vs ds ps _ _ h;obtain⟨rfl,rfl,rfl⟩:=trodAll_nil h;exact trodAll_mk0
   |cons t ts ih=>
    intro vs ds ps ht gx h;obtain⟨v,Kb,d,ds',p1,p2,rfl,rfl,rfl,h1,h2⟩:=trodAll_cons h;exact trodAll_cons_mk (WideElems.Trod_stays hl (ht t (by simp)).1 (ht t (by simp)).2 h1 (fun x hx=>hb.same (bf x (gx x (List.mem_append_left _ hx)))) (fun x hx=>gy x (gx x (List.mem_append_left _ hx))))
     (ih Kb ds' p2 (fun t' iO=>ht t' (by simp[iO])) (fun x hx=>gx x (List.mem_append_right _ hx)) h2)
  exact key _ _ _ _ hp (fun x hx=>hx) hA
 have hold:∀x∈before,(fun b=>decide (b<W.heap.size)) x.block=true:=fun x hx=>by simpa using bf x hx
 have XJ:∀sp:Nat→Bool,DataW.TrodVars enc P W' sp s.vars (s.fn H (ds++[])).vars []:=by intro sp;rw[Dr,List.append_nil,e3];rfl
 refine⟨ds,[],before,[],before,[],hW,tY _ _ _,bU _ hold,XJ _,World.keptBut_mono (fun x hx=>⟨hx,?_⟩) (hb.frame (· ∈before)),fun _=>?_⟩
 ·simpa using hx
 ·refine⟨ok_one hr rfl (okWide_bool_mk GS true),_,_,([]++before)++[],⟨[]++before,[],trodAll_append (bU _ (fun _ _=>rfl)) (tY _ _ _),XJ _,rfl,?_,?_⟩,?_⟩
  ·intro b off hx;have Fh:MemPlace.cell b off∈before:=by simpa using hx
   have:W'.frozen? ⟨b,off,none⟩=W.frozen? ⟨b,off,none⟩:=hb.frozen (p:=⟨b,off,none⟩) (bf _ Fh);rw[this];exact hz b off Fh
  ·intro ha;simpa using hn ha
  ·intro x hx _;simpa using hx
def mq{H:Type}(ss:List (List UInt8)):DataW H:=.agg (ss.map fun s=>.lit (.string s))
theorem yvb{base sp held fuel t e n cs ss p S}
  (ht:P.underlying t=some (.array n e)) (he:P.underlying e=some .string) (tH:P.cellsOf e=1) (zc:P.cellsOf t=n)
  (h:DataW.trod enc P w base sp held fuel t cs=some (mq ss,p)):aS w S (ss.map D.str) cs:=by
 cases fuel with
 |zero=>simp[DataW.trod]at h
 |succ fuel=>
  simp only[DataW.trod,ht,tH,zc,Nat.mul_one]at h;split at h
  ·rename_i hl;obtain⟨xs,hm,hx⟩:=Option.map_eq_some_iff.1 h;have ef:xs.map (·.1)=ss.map fun s=>(DataW.lit (.string s):DataW H):=by have:=congrArg Prod.fst hx;simpa[mq]using this
   have Rc:xs.length=n:=by simpa using Lib.mapM_length hm
   have kC:ss.length=n:=by have:=congrArg List.length ef;simp at this;omega
   have jn:cs.length=n:=hl;have key:∀i (hi:i<n),∃(x:ByteArray),cs[i]? =some (.string x)∧x.data.toList=ss.getD i []∧x.size≤9223372036854775807:=by
    intro i hi;obtain⟨b,hb,hf⟩:=Lib.mapM_at hm i i (by simp[hi]);have hc:(cs.drop i).take 1=[cs[i]'(by omega)]:=by rw[List.drop_eq_getElem_cons (by omega)];rfl
    rw[hc]at hf;have W9:b.1=DataW.lit (.string (ss.getD i [])):=by
     have h2:(xs.map (·.1))[i]? =some b.1:=by simp[hb]
     rw[ef]at h2;rw[List.getElem?_map,List.getElem?_eq_getElem (by omega)]at h2;simp only[Option.map_some,Option.some.injEq]at h2;rw[←h2];simp[List.getD,List.getElem?_eq_getElem (show i<ss.length by omega)]
    cases fuel with
    |zero=>simp[DataW.trod]at hf
    |succ fuel=>
     simp only[DataW.trod,he]at hf;generalize IL:cs[i]'(by omega)=ci at hf;cases ci<;>simp only[reduceCtorEq]at hf;rename_i x;split at hf
     ·rename_i vY;cases hf;simp only[DataW.lit.injEq,Lit.string.injEq]at W9;exact⟨x,by rw[List.getElem?_eq_getElem (by omega),IL],W9,by simpa[maxLen]using vY⟩
     ·cases hf
   clear h hm hx ef Rc;have fin:∀(ss:List (List UInt8)) (cs:List Value),ss.length=cs.length→(∀i,i<ss.length→∃(x:ByteArray),cs[i]? =some (.string x)∧x.data.toList=ss.getD i []∧x.size≤9223372036854775807)→aS w S (ss.map D.str) cs:=by
    intro ss;induction ss with
    |nil=>intro cs h _;cases cs with|nil=>rfl|cons _ _=>simp at h
    |cons s ss ih=>
     intro cs hl hk;cases cs with
     |nil=>simp at hl
     |cons c cs=>obtain⟨x,h1,h2,h3⟩:=hk 0 (by simp);simp only[List.getElem?_cons_zero,Option.some.injEq]at h1;subst h1;exact⟨_,_,rfl,⟨x,rfl,by simpa using h2,h3⟩,ih cs (by simpa using hl) fun i hi=>by simpa using hk (i+1) (by simpa using hi)⟩
   exact fin ss cs (by omega) (fun i hi=>key i (by omega))
  ·cases h
theorem Kt{name g cs}(hg:P.globalNamed name=some g)(h:w.var? P name=some cs):∃(e:TypeId) (fr:Nat×Nat),w.heap[g]? =some (.cells cs e fr):=by
 simp only[World.var?,hg,Option.bind_some]at h;split at h
 ·rename_i vs e fr hb;cases h;exact⟨e,fr,hb⟩
 ·cases h
theorem yV8{name k zs g}(hg:P.globalNamed name=some g)(h:Lib.TabIs P w name k zs):
  aP w (dm w) g 0 (zs.map (D.int k))∧∃(vs:Array Value) (e:TypeId) (fr:Nat×Nat),w.heap[g]? =some (.cells vs e fr)∧vs.size=(zs.map (D.int k)).length:=by
 obtain⟨e,fr,hb⟩:=Kt hg h;refine⟨aP.Ct (l:=zs.map fun z=>Value.int k z) ?_ fun j v hj=>?_,_,e,fr,hb,by simp⟩
 ·clear h hb;induction zs with
  |nil=>rfl
  |cons z zs ih=>exact⟨_,_,rfl,rfl,ih⟩
 ·have hc:w.cell? ⟨g,0+j,none⟩=some v:=by rw[zA,oX hb];simpa using hj
  exact⟨hc,v,hc⟩
theorem yzI{S name k zs g}(hg:P.globalNamed name=some g)(h:aP w S g 0 (zs.map (D.int k)))(hx:∃(vs:Array Value) (e:TypeId) (fr:Nat×Nat),w.heap[g]? =some (.cells vs e fr)∧vs.size=(zs.map (D.int k)).length):Lib.TabIs P w name k zs:=by
 obtain⟨vs,e,fr,hb,hn⟩:=hx;unfold Lib.TabIs;simp only[World.var?,hg,Option.bind_some,hb,Option.some.injEq];obtain⟨l,hl,hc⟩:=aP.values h;have fE:l=zs.map fun z=>Value.int k z:=by
  clear hc hn h;induction zs generalizing l with
  |nil=>simpa[aS]using hl
  |cons z zs ih=>obtain⟨v,r,rfl,h1,h2⟩:=hl;simp only[dR]at h1;subst h1;rw[mC,ih r h2]
 subst fE;apply Array.ext
 ·simpa using hn
 ·intro i h1 h2;simp only[List.size_toArray,lM]at h2;have:=(hc i (.int k zs[i]) (by simp[h2])).1;rw[zA,oX hb,Array.getElem?_eq_getElem h1]at this;simpa using this
theorem yZu(h:w.ShapedOpen P):P.globals.size≤w.heap.size:=by obtain⟨_,h2⟩:=h;obtain⟨o,_,ho,_⟩:=h2 P.globals.size (Nat.le_refl _) (by simp[begin];omega);exact Nat.le_of_lt (Array.getElem?_eq_some_iff.1 ho).1
theorem yJ2{r b t d v}(ht:P.underlying t=some d)(hd:d=.bool∨d=.string∨(∃k,d=.int k)∨∃e,d=.slice e)(fA:Value.okWide P w r b t v):v.cells.toList=[v]:=by
 unfold Value.okWide at fA;rw[ht]at fA;rcases hd with rfl|rfl|⟨k,rfl⟩|⟨e,rfl⟩<;>
  (simp only[Cell.okWide,ht,Cell.ok]at fA
   cases v<;>simp_all[Value.cells])
theorem yJ1{r b t fs v}(ht:P.underlying t=some (.struct fs))(fA:Value.okWide P w r b t v):∃cs,v=.agg cs∧v.cells=cs:=by unfold Value.okWide at fA;rw[ht]at fA;obtain⟨cs,rfl,_⟩:=fA;exact⟨cs,rfl,rfl⟩
end Go.Abs
end
section
namespace Go.Abs
open Go.RowKit Go.ChangeShapes
variable{H:Type}{enc:TypeId×Value→H}{P:Program}{w:World}{bulk:DataW H→Nat}{all:List (DataW H)→Nat}
theorem BF{t α f}{sz:α→Nat}:bC enc P w bulk 0 t f sz:=fun cs d ps h=>by cases h
theorem fY(hb:jb bulk all){α f sz t e}(ht:P.underlying t=some (.slice e))(hk:P.cellsOf e≠0)(hf:∀x,(f x).length=P.cellsOf e)(he:∀n,bC enc P w bulk n e f sz):
  ∀n,bC enc P w bulk n t (fun l:List α=>[.aw (l.map f)]) (fun l=>(l.map sz).sum+1)
 |0=>BF
 |n+1=>zWH hb ht hk hf (he n)
theorem yZ3(hb:jb bulk all){t s to tn ti n0 n1 n2 n3 g0 g1 g2 g3 p0 p1 p2 p3 b0 b1 b2 b3 e0 e1 e2 e3}
  (ht:P.underlying t=some (.struct #[⟨n0,to,0,e0,g0,p0,b0⟩,⟨n1,tn,1,e1,g1,p1,b1⟩,⟨n2,ti,2,e2,g2,p2,b2⟩,⟨n3,s,3,e3,g3,p3,b3⟩]))
  (ho:P.underlying to=some (.int .i64)) (hn:P.underlying tn=some .string) (hi:P.underlying ti=some (.int .i64)) (hs:P.underlying s=some (.slice t))
  (ct:P.cellsOf t=4) (co:P.cellsOf to=1) (cn:P.cellsOf tn=1) (ci:P.cellsOf ti=1) (cs:P.cellsOf s=1):∀n,bC enc P w bulk n t Pred.cells Pred.sz:=by
 intro n;induction n using Nat.strongRecOn with|_ n ih=>
 cases n with
 |zero=>exact BF
 |succ n=>
  have hk:bC enc P w bulk n s (fun l:List Pred=>[.aw (l.map Pred.cells)]) (fun l=>(l.map Pred.sz).sum+1):=by
   cases n with
   |zero=>exact BF
   |succ m=>exact zWH hb hs (by rw[ct];decide) (fun x=>by rw[ct];exact Pred.mV x) (ih m (by omega))
  have hF:=CB hb (n:=n) (fd:=⟨n0,to,0,e0,g0,p0,b0⟩) (off:=0) rfl co (fun _=>rfl) (VO hb ho) (CB hb (fd:=⟨n1,tn,1,e1,g1,p1,b1⟩) rfl cn (fun _=>rfl) (DZ hb hn) (CB hb (fd:=⟨n2,ti,2,e2,g2,p2,b2⟩) rfl ci (fun _=>rfl) (VO hb hi) (CB hb (fd:=⟨n3,s,3,e3,g3,p3,b3⟩) rfl cs (fun _=>rfl) hk SS)));have h:=Uj hb ht (fun x=>by rw[ct];rfl) hF;refine En h (fun x=>Pred.mk x.1 x.2.1 x.2.2.1 x.2.2.2.1) (fun x=>?_) (fun x=>?_)
  ·rw[Pred.bm];rfl
  ·show Pred.sz (Pred.mk x.1 x.2.1 x.2.2.1 x.2.2.2.1)≤_;simp only[Pred.sz,Pred.yJQ];exact Nat.le_refl _
theorem nc.two{n off fs α β f sz g rn}(h:nc enc P w bulk all n fs off f sz)(φ:α→β)(hf:∀x,g (φ x)=f x)(hs:∀x,rn (φ x)≤sz x):nc enc P w bulk all n fs off g rn:=fun cs xs hr=>by obtain⟨x,h1,h2⟩:=h cs xs hr;exact⟨φ x,by rw[hf];exact h1,Nat.le_trans (hs x) h2⟩
theorem yQ3{G f args aW}(j6:Ev P G f aW (.one (.bool true)))(hg:fh P G w (dm w))(ha:bA w (dm w) aW args.toList):
  Calls P f args w fun e w'=>e=.returned (.bool true)∧Below w.heap.size w w':=by
 refine(j6.2 w (dm w) args (fun b o h=>h) hg ha).mono fun e w' h=>?_;obtain⟨v,S',he,hr,hb,_⟩:=h;have:v=.bool true:=hr;subst this;exact⟨he,hb⟩
theorem Vg{c v cs vs}(h:iT w (dm w) c v)(hs:bA w (dm w) cs vs):bA w (dm w) (c::cs) (v::vs):=⟨v,vs,rfl,h,hs⟩
theorem MT{α r b n t Io v d ps}{f:α→D}{sz}(ht:P.underlying t=some Io)(hd:Io=.bool∨Io=.string∨(∃k,Io=.int k)∨∃e,Io=.slice e)(fA:Value.okWide P w r b t v)
  (hr:bC enc P w bulk n t (fun x=>[f x]) sz) (h:DataW.trod enc P w 0 (fun _=>true) true n t v.cells.toList=some (d,ps)):∃x:α,iT w (dm w) (.one (f x)) v∧sz x≤bulk d:=by
 obtain⟨x,h1,h2⟩:=hr _ _ _ h;rw[yJ2 ht hd fA]at h1;obtain⟨v',r',e,h3,_⟩:=h1;cases e;exact⟨x,h3,h2⟩
theorem u3{α r b n t fs v d ps f sz}(ht:P.underlying t=some (.struct fs))(fA:Value.okWide P w r b t v)
  (hr:bC enc P w bulk n t f sz) (h:DataW.trod enc P w 0 (fun _=>true) true n t v.cells.toList=some (d,ps)):∃x:α,iT w (dm w) (.agg (f x)) v∧sz x≤bulk d:=by
 obtain⟨x,h1,h2⟩:=hr _ _ _ h;obtain⟨cs,rfl,hc⟩:=yJ1 ht fA;rw[hc]at h1;exact⟨x,⟨cs,rfl,h1⟩,h2⟩
end Go.Abs
end
section
namespace Go.Abs
open Go.RowKit Go.ChangeShapes
variable{H:Type}{enc:TypeId×Value→H}{P:Program}{w:World}{bulk:DataW H→Nat}{all:List (DataW H)→Nat}
theorem T1(hb:jb bulk all){Gc Gd f0 s0 f1 s1 n t t0 t1 k0 o0 b0 k1 o1 b1 n0 g0 p0 n1 g1 p1 e0 e1}
  (ht:P.underlying t=some (.struct #[⟨n0,t0,o0,e0,g0,p0,b0⟩,⟨n1,t1,o1,e1,g1,p1,b1⟩]))
  (ct:P.cellsOf t=k0+k1) (c0:P.cellsOf t0=k0) (l0:∀x,(f0 x).length=k0) (h0:bC enc P w bulk n t0 f0 s0) (c1:P.cellsOf t1=k1) (l1:∀x,(f1 x).length=k1) (h1:bC enc P w bulk n t1 f1 s1) (q0:o0=0:=by rfl) (q1:o1=0+k0:=by rfl):
  bC enc P w bulk (n+1) t (fun x:Gc×Gd×Unit=>f0 (x.1)++(f1 (x.2.1)++[])) (fun x=>s0 (x.1)+(s1 (x.2.1)+0)+1):=by
 have hF:=CB (enc:=enc) (w:=w) hb (n:=n) (fd:=⟨n0,t0,o0,e0,g0,p0,b0⟩) q0 c0 l0 h0 (CB (enc:=enc) (w:=w) hb (n:=n) (fd:=⟨n1,t1,o1,e1,g1,p1,b1⟩) q1 c1 l1 h1 (SS (enc:=enc) (P:=P) (w:=w) (bulk:=bulk) (all:=all) (n:=n)));exact Uj hb ht (fun x=>by rw[ct];simp only[lA,lN,l0,l1];omega) hF
theorem VH(hb:jb bulk all){Gc Gd UZ f0 s0 f1 s1 f2 s2 n t t0 t1 t2 k0 o0 b0 k1 o1 b1 k2 o2 b2 n0 g0 p0 n1 g1 p1 n2 g2 p2 e0 e1 e2}
  (ht:P.underlying t=some (.struct #[⟨n0,t0,o0,e0,g0,p0,b0⟩,⟨n1,t1,o1,e1,g1,p1,b1⟩,⟨n2,t2,o2,e2,g2,p2,b2⟩]))
  (ct:P.cellsOf t=k0+k1+k2) (c0:P.cellsOf t0=k0) (l0:∀x,(f0 x).length=k0) (h0:bC enc P w bulk n t0 f0 s0) (c1:P.cellsOf t1=k1) (l1:∀x,(f1 x).length=k1) (h1:bC enc P w bulk n t1 f1 s1) (c2:P.cellsOf t2=k2) (l2:∀x,(f2 x).length=k2) (h2:bC enc P w bulk n t2 f2 s2) (q0:o0=0:=by rfl) (q1:o1=0+k0:=by rfl) (q2:o2=0+k0+k1:=by rfl):
  bC enc P w bulk (n+1) t (fun x:Gc×Gd×UZ×Unit=>f0 (x.1)++(f1 (x.2.1)++(f2 (x.2.2.1)++[]))) (fun x=>s0 (x.1)+(s1 (x.2.1)+(s2 (x.2.2.1)+0))+1):=by
 have hF:=CB (enc:=enc) (w:=w) hb (n:=n) (fd:=⟨n0,t0,o0,e0,g0,p0,b0⟩) q0 c0 l0 h0 (CB (enc:=enc) (w:=w) hb (n:=n) (fd:=⟨n1,t1,o1,e1,g1,p1,b1⟩) q1 c1 l1 h1 (CB (enc:=enc) (w:=w) hb (n:=n) (fd:=⟨n2,t2,o2,e2,g2,p2,b2⟩) q2 c2 l2 h2 (SS (enc:=enc) (P:=P) (w:=w) (bulk:=bulk) (all:=all) (n:=n))));exact Uj hb ht (fun x=>by rw[ct];simp only[lA,lN,l0,l1,l2];omega) hF
end Go.Abs
end
section
namespace Go.Abs
open Go.RowKit Go.Lib
variable{P:Program}{w:World}
theorem YA{S b k}:∀{l:List Nat} {o},(∀j,j<l.length→S b (o+j)∧w.cell? ⟨b,o+j,none⟩=some (.int k (l.getD j 0:Nat)))→bY w S b o (l.map fun x=>[D.int k (x:Nat)])
 |[],_,_=>trivial
 |x::l,o,h=>by rw[mC,bY];refine⟨⟨⟨(h 0 (by simp)).1,_,(h 0 (by simp)).2,rfl⟩,trivial⟩,YA fun j hj=>?_⟩;have:=h (j+1) (by simpa using hj);rw[show o+(j+1)=o+1+j by omega]at this;simpa using this
theorem YG{S b k}:∀{l:List Nat} {o},bY w S b o (l.map fun x=>[D.int k (x:Nat)])→∀j,j<l.length→w.cell? ⟨b,o+j,none⟩=some (.int k (l.getD j 0:Nat))
 |[],_,_,j,hj=>by simp at hj
 |x::l,o,h,j,hj=>by
  rw[mC,bY]at h;obtain⟨⟨⟨_,v,hc,hv⟩,_⟩,h2⟩:=h;have hv:v=.int k (x:Nat):=hv;cases j with
  |zero=>rw[Nat.add_zero,hc,hv];rfl
  |succ j=>have:=YG (b:=b) (o:=o+1) h2 j (by simpa using hj);rw[show o+(j+1)=o+1+j by omega,this];simp
theorem NR{name g t e k l}(hn:P.globalNamed name=some g)(hy:(P.globals[g]?).map (·.type)=some t)
  (ht:P.underlying t=some (.slice e)) (he:P.underlying e=some (.int k)) (hc:P.cellsOf e=1) (hl:0<l.length) (h:VarReads P w name (sliceData k l)):
  aP w (dm w) g 0 [.aw (l.map fun x=>[.int k (x:Nat)])]∧∃(vs:Array Value) (e:TypeId) (fr:Nat×Nat),w.heap[g]? =some (.cells vs e fr)∧vs.size=1:=by
 obtain⟨R,o,c,h1,h2⟩:=tabSlice_of_reads hn hy ht he hc hl h;obtain⟨g',t',cs,fuel,p,hg,dW,fH,hd⟩:=h;obtain rfl:=Option.some.inj (hn.symm.trans hg);obtain rfl:=Option.some.inj (hy.symm.trans dW);obtain⟨e',fr,hb⟩:=Kt hn fH;rcases DataW.trod_slice ht hd with⟨_,hx⟩|⟨a,len,cap,el,rs,m,rfl,dU,hx,_,Qz,pZ,U6,Xf,gy,_⟩
 ·cases hx
 have Gh:=World.var?_cell hn fH 0;rw[←Array.getElem?_toList,dU,h1]at Gh;simp only[List.getElem?_cons_zero,Option.some.injEq,Value.slice.injEq]at Gh;obtain⟨rfl,rfl,rfl⟩:=Gh;refine⟨⟨⟨⟨_,h1⟩,_,h1,⟨_,c,by rw[lM],by rw[lM];exact Qz,by unfold maxLen at pZ;omega,(fun h=>by cases h),fun a ha=>?_⟩⟩,trivial⟩,cs,e',fr,hb,?_⟩
 ·cases ha;refine⟨fun _=>rfl,⟨1,fun x hx=>?_⟩,YA fun j hj=>⟨⟨_,h2 j hj⟩,h2 j hj⟩⟩;obtain⟨y,_,rfl⟩:=List.mem_map.1 hx;rfl
 ·have:=congrArg List.length dU;simpa using this
theorem NQ{S g k l}(hl:0<l.length)(h:aP w S g 0 [.aw (l.map fun x=>[.int k (x:Nat)])]):TabSlice g k l w:=by
 obtain⟨⟨_,v,hc,hv⟩,_⟩:=h;obtain⟨base,cap,rfl,ik,vY,oq,cB⟩:∃(base:Option Addr) (cap:Nat),v=.slice base (l.map fun x=>[D.int k (x:Nat)]).length cap∧(l.map fun x=>[D.int k (x:Nat)]).length≤cap∧cap≤9223372036854775807∧(base=none→cap=0)∧∀a,base=some a→(cap≠0→a.spot=none)∧(∃sz,∀e∈(l.map fun x=>[D.int k (x:Nat)]),e.length=sz)∧bY w S a.block a.off (l.map fun x=>[D.int k (x:Nat)]):=hv;rw[lM]at ik hc;cases base with
 |none=>have:=oq rfl;omega
 |some a=>obtain⟨gy,_,fW⟩:=cB a rfl;obtain⟨bk,o,sp⟩:=a;obtain rfl:sp=none:=gy (by omega);exact⟨bk,o,cap,hc,fun j hj=>YG fW j hj⟩
theorem NV{S b k}:∀{zs:List Int} {o},aP w S b o (zs.map (D.int k))→∀j,j<zs.length→w.cell? ⟨b,o+j,none⟩=some (.int k (zs.getD j 0))
 |[],_,_,j,hj=>by simp at hj
 |z::zs,o,h,j,hj=>by
  rw[mC,aP]at h;obtain⟨⟨_,v,hc,hv⟩,h2⟩:=h;have hv:v=.int k z:=hv;cases j with
  |zero=>rw[Nat.add_zero,hc,hv];rfl
  |succ j=>have:=NV (b:=b) (o:=o+1) h2 j (by simpa using hj);rw[show o+(j+1)=o+1+j by omega,this];simp
theorem yZf{b k}{zs:List Int}(h:∀j,j<zs.length→w.cell? ⟨b,j,none⟩=some (.int k (zs.getD j 0))):aP w (dm w) b 0 (zs.map (D.int k)):=by
 have key:∀(zs:List Int) (o:Nat),(∀j,j<zs.length→w.cell? ⟨b,o+j,none⟩=some (.int k (zs.getD j 0)))→aP w (dm w) b o (zs.map (D.int k)):=by
  intro zs;induction zs with
  |nil=>intro o _;trivial
  |cons z zs ih=>intro o h;have h0:=h 0 (by simp);rw[Nat.add_zero]at h0;refine⟨⟨⟨_,h0⟩,_,h0,rfl⟩,ih (o+1) fun j hj=>?_⟩;have:=h (j+1) (by simpa using hj);rw[show o+(j+1)=o+1+j by omega]at this;simpa using this
 exact key zs 0 fun j hj=>by rw[zA];exact h j hj
def iU:List Int:=(List.range 16).flatMap fun i=>[(accLo i:Int),(accHi i:Int)]
theorem M9:iU.length=32:=by decide
theorem RX:∀i,i<16→iU.getD (2*i) 0=accLo i∧iU.getD (2*i+1) 0=accHi i:=by decide
theorem yJW{g}(h:∀i,i<16→w.cell? ⟨g,2*i,none⟩=some (.int .u8 (accLo i))∧w.cell? ⟨g,2*i+1,none⟩=some (.int .u8 (accHi i))):aP w (dm w) g 0 (iU.map (D.int .u8)):=by
 refine yZf fun j hj=>?_;rw[M9]at hj;have hi:=h (j/2) (by omega);have ha:=RX (j/2) (by omega);rcases(by omega:j=2*(j/2)∨j=2*(j/2)+1)with e|e
 ·rw[e,ha.1];exact hi.1
 ·rw[e,ha.2];exact hi.2
theorem yW0{S g3 g4}(h3:aP w S g3 0 (firstTab.map (D.int .u8)))(h4:aP w S g4 0 (iU.map (D.int .u8))):Utf8Tabs g3 g4 w:=by
 refine⟨fun c hc=>?_,fun i hi=>?_⟩
 ·have:=NV h3 c (by simp[firstTab];exact hc);rw[zA]at this;rw[this];simp[firstTab,hc]
 ·have e0:=NV h4 (2*i) (by rw[M9];omega);have e1:=NV h4 (2*i+1) (by rw[M9];omega);rw[zA,(RX i hi).1]at e0;rw[zA,(RX i hi).2]at e1;exact⟨e0,e1⟩
end Go.Abs
end
section
namespace Go.Abs
open Go.RowKit Go.Lib
variable{P:Program}{w:World}
theorem zQR{name nm d g t ms}
  (hg:P.globalNamed name=some g) (dW:(P.globals[g]?).map (·.type)=some t) (ht:P.underlying t=some (.interface ms))
  (h:VarReads P w name (.iface nm d)):aP w (dm w) g 0 [.anyI]∧∃(vs:Array Value) (e:TypeId) (fr:Nat×Nat),w.heap[g]? =some (.cells vs e fr)∧vs.size=1:=by
 obtain⟨g',t',cs,fuel,p,pI,iO,fH,hd⟩:=h;obtain rfl:=Option.some.inj (hg.symm.trans pI);obtain rfl:=Option.some.inj (dW.symm.trans iO);obtain⟨_,u,v,hc,_,_⟩:=Go.iface_of_trod ht hd;obtain⟨e',fr,hb⟩:=Kt hg fH;have hr:aS w (dm w) [.anyI] cs.toList:=by rw[hc];exact⟨_,_,rfl,⟨u,v,rfl⟩,rfl⟩
 have cB:=World.var?_cell hg fH;refine⟨aP.Ct hr fun j v hj=>?_,cs,e',fr,hb,by have:=aS.length hr;simpa using this⟩;have tW:cs[j]? =some v:=by simpa using hj
 have:=cB j;rw[tW]at this;rw[zA];exact⟨this,v,this⟩
theorem yYd{name ss g t e n}
  (hg:P.globalNamed name=some g) (dW:(P.globals[g]?).map (·.type)=some t) (ht:P.underlying t=some (.array n e)) (he:P.underlying e=some .string) (tH:P.cellsOf e=1) (zc:P.cellsOf t=n)
  (h:VarReads P w name (mq ss)):aP w (dm w) g 0 (ss.map D.str)∧∃(vs:Array Value) (e:TypeId) (fr:Nat×Nat),w.heap[g]? =some (.cells vs e fr)∧vs.size=(ss.map D.str).length:=by
 obtain⟨g',t',cs,fuel,p,pI,iO,fH,hd⟩:=h;obtain rfl:=Option.some.inj (hg.symm.trans pI);obtain rfl:=Option.some.inj (dW.symm.trans iO);have hr:aS w (dm w) (ss.map D.str) cs.toList:=yvb ht he tH zc hd;obtain⟨e',fr,hb⟩:=Kt hg fH;have cB:=World.var?_cell hg fH;refine⟨aP.Ct hr fun j v hj=>?_,cs,e',fr,hb,by have:=aS.length hr;simpa using this⟩;have tW:cs[j]? =some v:=by simpa using hj
 have:=cB j;rw[tW]at this;rw[zA];exact⟨this,v,this⟩
theorem ZO{name k zs g t e n}(hg:P.globalNamed name=some g)(dW:(P.globals[g]?).map (·.type)=some t)
  (ht:P.underlying t=some (.array n e)) (he:P.underlying e=some (.int k)) (tH:P.cellsOf e=1) (zc:P.cellsOf t=n) (h:VarReads P w name (tabData k zs)):
  aP w (dm w) g 0 (zs.map (D.int k))∧∃(vs:Array Value) (e:TypeId) (fr:Nat×Nat),w.heap[g]? =some (.cells vs e fr)∧vs.size=(zs.map (D.int k)).length:=by
 obtain⟨g',t',cs,fuel,p,pI,iO,fH,hd⟩:=h;obtain rfl:=Option.some.inj (hg.symm.trans pI);obtain rfl:=Option.some.inj (dW.symm.trans iO);have dU:=cells_of_tab ht he tH zc hd;refine yV8 hg (name:=name) ?_;unfold TabIs;rw[fH,←dU]
theorem ywq{name g t s fs}(hg:P.globalNamed name=some g)(dW:(P.globals[g]?).map (·.type)=some t)
  (ht:P.underlying t=some (.array 16 s)) (hs:P.underlying s=some (.struct fs)) (hf:∀(i) (f:Field),fs[i]? =some f→P.underlying f.type=some (.int .u8)∧f.offset=i∧P.cellsOf f.type=1) (hc:P.cellsOf s=2) (OL:fs.size=2) (zc:P.cellsOf t=32) (h:VarReads P w name acceptData):
  aP w (dm w) g 0 (iU.map (D.int .u8))∧∃(vs:Array Value) (e:TypeId) (fr:Nat×Nat),w.heap[g]? =some (.cells vs e fr)∧vs.size=(iU.map (D.int .u8)).length:=by
 obtain⟨g',t',cs,fuel,p,pI,iO,fH,hd⟩:=h;obtain rfl:=Option.some.inj (hg.symm.trans pI);obtain rfl:=Option.some.inj (dW.symm.trans iO);obtain⟨e',fr,hb⟩:=Kt hg fH;have hlen:cs.size=32:=by
  cases fuel with
  |zero=>simp[DataW.trod]at hd
  |succ fuel=>
   simp only[DataW.trod,ht]at hd;split at hd
   ·rename_i h;rw[zc]at h;simpa using h
   ·cases hd
 refine⟨yJW fun i hi=>?_,cs,e',fr,hb,by rw[hlen,lM,M9]⟩;obtain⟨WC,d,q,Mk,he⟩:=array_elem ht hd i hi;simp only[List.getElem?_map,List.getElem?_range hi,Option.map_some,Option.some.injEq]at Mk;subst Mk;rw[hc]at he;have dU:=ints_of_struct hs hf (by rw[hc,OL]) he;have e0:=congrArg (·[0]?) dU;have e1:=congrArg (·[1]?) dU;simp only[List.getElem?_take,List.getElem?_drop]at e0 e1;constructor
 ·rw[World.var?_cell hg fH (2*i),←Array.getElem?_toList];simpa[Nat.mul_comm]using e0
 ·rw[World.var?_cell hg fH (2*i+1),←Array.getElem?_toList];simpa[Nat.mul_comm]using e1
end Go.Abs
end
section
namespace Go.Abs
open Go.RowKit Go.ChangeShapes
variable{H:Type}{enc:TypeId×Value→H}{P:Program}{w:World}{bulk:DataW H→Nat}{all:List (DataW H)→Nat}
abbrev yC:={f:Fact//f.Wf}
end Go.Abs
end
section
namespace Go.Abs.Seat
open Go Go.Abs Go.Proofs
def gr(t:Ty)(l:List Nat):List (Nat×Ty):=l.map fun i=>(i,t)
def tl0:List (Nat×Ty):=gr (.cell (0:Int)) [2,3,22,33,239,264]++(gr (.cell (.d (.bool false))) [4]++(gr (.cell (.d (.int .u8 0))) [5,6,310,311]++(gr (.agg [(0:Int),(0:Int),.d (.bool false),.d (.int .u8 0)] [(0,1,false),(1,1,false),(2,1,false),(3,1,false)]) [7,8]++(gr (.cell (.d (.str []))) [9,10,11,42]++(gr (.cell (.d (.int .u64 0))) [12,224,251,277]++(gr (.agg [.d .jY] [(0,1,false)]) [18,19]++(gr (.cell (.d .oA)) [20,156,157]++(gr (.cell (.d (.int .i32 0))) [21,313,314]++(gr (.slice 4 56 [(0:Int),.d (.str []),(0:Int),.full []]) [23])))))))))
def tl1:List (Nat×Ty):=gr (.agg [(0:Int),.d (.str []),(0:Int),.full []] [(0,1,false),(1,1,false),(2,1,false),(3,1,false)]) [24,25]++(gr (.slice 2 32 [.d (.str []),.d (.str [])]) [35]++(gr (.slice 3 56 [.d (.str []),.full [],.d (.str [])]) [36]++(gr (.slice 2 40 [.d (.str []),.full []]) [37]++(gr (.agg [.full [],.full [],.full []] [(0,1,false),(1,1,false),(2,1,false)]) [38,39]++(gr (.slice 2 32 [.full [],(0:Int)]) [47]++(gr (.agg [(0:Int),.d (.str []),(0:Int),.full [],.full []] [(0,4,true),(4,1,false)]) [48,49]++(gr (.slice 1 8 [(0:Int)]) [54]++(gr (.slice 3 40 [.full [],(0:Int),.d (.bool false)]) [57]++(gr (.slice 2 24 [.d (.str []),(0:Int)]) [60,67])))))))))
def tl2:List (Nat×Ty):=gr (.agg [.full [],(0:Int)] [(0,1,false),(1,1,false)]) [61,62]++(gr (.agg [.full [],(0:Int),.d (.bool false)] [(0,2,true),(2,1,false)]) [72,73]++(gr (.slice 3 48 [.d (.str []),.full [],(0:Int)]) [75]++(gr (.agg [.full [],.full []] [(0,1,false),(1,1,false)]) [76,77,186,187]++(gr (.slice 1 16 [.d (.str [])]) [97,103]++(gr (.map 9 3 (.str []) (.one (.int .i64 0))) [109]++(gr (.map 9 4 (.str []) (.one (.bool false))) [110]++(gr (.agg [.full [],.full [],.full [],.undef,.full [],.full [],.undef,.d (.bool false)] [(0,3,true),(3,1,false),(4,1,false),(5,1,false),(6,1,false),(7,1,false)]) [111,112]++(gr (.agg [.full [],.full [],.full [],.full [],.full [],.d (.bool false),.d (.bool false)] [(0,3,true),(3,1,false),(4,1,false),(5,1,false),(6,1,false)]) [116,117]++(gr (.agg [.d (.str []),(0:Int)] [(0,1,false),(1,1,false)]) [133,134])))))))))
def tl3:List (Nat×Ty):=gr (.agg [.d (.str []),.full [],(0:Int)] [(0,1,false),(1,1,false),(2,1,false)]) [139,140]++(gr (.agg [.d (.str []),.d (.str [])] [(0,1,false),(1,1,false)]) [145,146]++(gr (.agg [.d (.str []),.full [],.d (.str [])] [(0,1,false),(1,1,false),(2,1,false)]) [147,148]++(gr (.arr 13 1 false (List.replicate 13 (.d (.str [])))) [150]++(gr (.slice 1 1 [.d (.int .u8 0)]) [152]++(gr (.agg [.d .jY,.full []] [(0,1,false),(1,1,false)]) [153,154]++(gr (.agg [.d .oB,.d (.str [])] [(0,1,false),(1,1,false)]) [168,169]++(gr (.agg [.d (.str []),.full []] [(0,1,false),(1,1,false)]) [199,200]++(gr (.arr 24 1 false (List.replicate 24 (.d (.int .u8 0)))) [223]++(gr (.arr 20 1 false (List.replicate 20 (.d (.int .u64 0)))) [252])))))))))
def tl4:List (Nat×Ty):=gr (.cell (.d (.int .u32 0))) [253]++(gr (.arr 65 1 false (List.replicate 65 (.d (.int .u8 0)))) [254]++(gr (.arr 42 1 false (List.replicate 42 (.d (.str [])))) [256]++(gr (.agg [.d (.str []),.d (.str []),.d .oA] [(0,1,false),(1,1,false),(2,1,false)]) [260,261]++(gr (.agg [.d (.str [])] [(0,1,false)]) [275,276]++(gr (.arr 32 1 false (List.replicate 32 (.d (.int .u8 0)))) [283]++(gr (.arr 64 1 false (List.replicate 64 (.d (.int .u8 0)))) [284]++(gr (.arr 256 1 false (List.replicate 256 (.d (.int .u8 0)))) [295]++(gr (.agg [.d (.int .u8 0),.d (.int .u8 0)] [(0,1,false),(1,1,false)]) [296,297]++(gr (.arr 16 2 true (List.replicate 32 (.d (.int .u8 0)))) [298])))))))))
def tl5:List (Nat×Ty):=gr (.cell (.d (.int .u16 0))) [299]++(gr (.slice 1 2 [.d (.int .u16 0)]) [300]++(gr (.slice 1 4 [.d (.int .u32 0)]) [302]++(gr (.agg [.d .jY,.d .jY,.d .jY,.d (.str [])] [(0,1,false),(1,1,false),(2,1,false),(3,1,false)]) [304,305]++(gr (.arr 0 1 false []) [306]++(gr (.agg [.d (.int .u64 0),.d (.int .u64 0),.d (.int .u32 0),.d (.int .u8 0),.d (.int .u8 0),.d (.int .u8 0),.d (.int .u8 0),.d .oB,.d .jY,.d (.int .i32 0),.d (.int .i32 0)] [(0,1,false),(1,1,false),(2,1,false),(3,1,false),(4,1,false),(5,1,false),(6,1,false),(7,1,false),(8,1,false),(9,1,false),(10,1,false)]) [315,316]++(gr (.cell (.d .oB)) [1,26,27,29,30,31,32,34,40,41,44,45,46,51,52,53,55,56,58,59,64,65,66,69,71,74,78,80,81,82,84,85,86,87,88,89,90,91,92,93,94,95,96,98,99,100,101,102,104,105,106,107,113,114,118,119,120,121,122,123,124,126,128,129,130,131,132,135,136,137,138,141,142,143,144,149,155,159,160,161,162,163,165,166,167,170,171,173,174,175,176,177,178,179,180,181,182,183,184,185,188,189,190,191,192,194,195,197,198,202,203,205,206,207,209,211,212,213,214,215,216,217,218,219,220,221,222,225,226,228,230,231,232,233,234,235,236,237,241,243,244,245,247,248,249,250,255,257,259,262,263,266,267,268,269,270,271,272,273,278,279,280,282,285,286,287,289,291,292,293,294,301,303,309,312]++(gr (.cell (.d .jY)) [15,16,17,108,115,151,193,229,242,274,281,288])))))))
def tl:List (Nat×Ty):=tl0++(tl1++(tl2++(tl3++(tl4++(tl5)))))
theorem xj:wF Tryz.prog tl=true:=by kernel_rfl
theorem mixed:Tryz.prog.follows .mixedOrders=true:=by kernel_rfl
theorem ev{f fn fa G args r}(hf:Tryz.prog.funcs[f]? =some fn)(aa:kT (l8 tl) fn=some fa)(h:Body ⟨G,Ev Tryz.prog G,mY Tryz.prog G⟩ fa args r):Ev Tryz.prog G f args r:=yZm hf aa (fun _ _ _ h=>h) (fun _ _ _ h=>h) rfl (fun _ _ ht=>K1 xj ht) mixed h
theorem yJT:kT (l8 tl) Tryz.f131=some Ou:=by kernel_rfl
theorem yJS:kT (l8 tl) Tryz.f130=some Oz:=by kernel_rfl
theorem tr_22:kT (l8 tl) Tryz.f22=some KQ:=by kernel_rfl
theorem ev2{f fa G args r}(h0:Tryz.prog.funcs[f]?.bind (kT (l8 tl))=some fa)(h:Body ⟨G,Ev Tryz.prog G,mY Tryz.prog G⟩ fa args r):Ev Tryz.prog G f args r:=by obtain⟨fn,hf,aa⟩:=Option.bind_eq_some_iff.1 h0;exact ev hf aa h
theorem sys(G):Sys ⟨G,Ev Tryz.prog G,mY Tryz.prog G⟩:=by constructor<;>exact fun _ _=>ev2 (by kernel_rfl)
def X(G:Nat→Option (List D)):ax:=⟨G,Ev Tryz.prog G,mY Tryz.prog G⟩
end Go.Abs.Seat
end
section
namespace Go.Proofs
open Go.Shelf
def Tryz.yku:Go.Shelf.Ren:=⟨fun|171=>52|243=>111|246=>167|283=>212|284=>213|285=>214|286=>215|129=>245|317=>244|318=>246|319=>247|320=>248|337=>267|338=>268|n=>n,fun|3=>3|9=>9|2=>2|4=>4|171=>223|0=>0|53=>224|37=>152|5=>5|173=>227|212=>252|51=>253|20=>20|213=>254|46=>251|232=>283|233=>284|n=>n,fun|17=>0|18=>5|19=>6|n=>n⟩
theorem Tryz.zX:Go.Proofs.LaysM.n171 Tryz.prog Tryz.yku:=by repeat' first|kernel_rfl|decide|exact fun _=>rfl|constructor
open Go.RowKit Go.Sort Go.Lib in
theorem Tryz.strconv_Itoa(n:Int)(h0: -9223372036854775808≤n)(h1:n≤9223372036854775807)(w:World)(zK:Lib.TabIs Tryz.prog w "internal/strconv.uint64pow10" .u64 Lib.pow10Tab):
  Calls Tryz.prog 52 #[.int .i64 n] w fun e w'=>e=.returned (.string ⟨(Lib.itoa n).toArray⟩)∧∃k os,w'=grow (w.drewN k) os:=Any.strconv_Itoa Tryz.zX n h0 h1 w zK
end Go.Proofs
end
section
namespace Go.Abs.Seat
open Go Go.Abs Go.Proofs
theorem yQo{G}(hg:Tryz.prog.globalNamed "internal/strconv.uint64pow10"=some 0)(bf:0<Tryz.prog.globals.size)(Db:Enters Tryz.prog strconv_Itoa)(hG:G 0=some (Lib.pow10Tab.map (D.int .u64))):fu (X G):=by
 intro n hn;refine⟨Db,fun w S aW hl pj ha=>?_⟩;have zK:Lib.TabIs Tryz.prog w "internal/strconv.uint64pow10" .u64 Lib.pow10Tab:=yzI hg (pj.1 0 _ hG) (pj.2.2 0 _ bf hG (by decide));obtain⟨v,r,h1,h2,h3⟩:=ha;simp only[bA]at h3;subst h3;have h2:v=.int .i64 n:=h2;subst h2;obtain rfl:aW=#[.int .i64 n]:=by cases aW;simp_all
 have hlen:=Lib.itoa_length_le n hn.1 hn.2;refine(Tryz.strconv_Itoa n hn.1 hn.2 w zK).mono ?_
 rintro e w' ⟨rfl,k,os,rfl⟩
 have hb:=Lib.below_grow w.heap.size w (Nat.le_refl _) k os;refine⟨_,S,rfl,⟨_,rfl,rfl,by show(Lib.itoa n).toArray.size≤_;rw[List.size_toArray];omega⟩,hb,fun _ _ h=>h,fun _ _ h=>.inl h,fun b o hs=>?_⟩;obtain⟨v,hv⟩:=hl b o hs;exact⟨v,(hb.cell (p:=⟨b,o,none⟩) (qh hv)).trans hv⟩
end Go.Abs.Seat
end
section
namespace Go.Proofs
open Go.Shelf
def Tryz.ykt:Go.Shelf.Ren:=⟨fun|172=>154|244=>198|245=>199|247=>232|279=>233|280=>234|281=>235|282=>236|287=>254|316=>255|171=>52|205=>256|321=>274|322=>275|243=>111|246=>167|283=>212|284=>213|285=>214|286=>215|129=>245|317=>244|318=>246|319=>247|320=>248|337=>267|338=>268|n=>n,fun|9=>9|3=>3|75=>157|76=>158|4=>4|5=>5|167=>239|37=>152|0=>0|85=>240|2=>2|168=>242|53=>224|175=>258|46=>251|210=>261|127=>193|145=>276|143=>274|21=>21|171=>223|173=>227|212=>252|51=>253|20=>20|213=>254|232=>283|233=>284|80=>160|n=>n,fun|15=>3|16=>4|17=>0|18=>5|19=>6|n=>n⟩
theorem Tryz.qW:Go.Proofs.LaysC.n172 Tryz.prog Tryz.ykt:=by repeat' first|kernel_rfl|decide|exact fun _=>rfl|constructor
open Go.RowKit in
theorem Tryz.strconv_Atoi_ok(s:ByteArray)(vY:s.size≤9223372036854775806)(v:Int)(h:Lib.atoiAll s.data.toList=.ok v)(w:World):
  Calls Tryz.prog 154 #[.string s] w fun e w'=>e=.returned (.tuple #[.int .i64 v,.nilIface])∧(w'=w∨∃t,w'=Lib.bytesWorld w 5 t):=Any.strconv_Atoi_ok Tryz.qW s vY v h w
open Go.RowKit in
theorem Tryz.strconv_Atoi_syntax(s:ByteArray)(E5:s.size≤281474976710656)(e0:Lib.NumEnd Int)(h:Lib.atoiAll s.data.toList=e0)(h1:∀v,e0≠.ok v)(h2:e0≠.range)(ev:Value)(w:World)(hv:w.cell? ⟨3,0,none⟩=some ev)(j6:ev=.nilIface∨∃te pe,ev=.iface te pe):
  Calls Tryz.prog 154 #[.string s] w fun e w'=>∃N,e=.returned (.tuple #[.int .i64 (0),.iface 242 (.pointer (some ⟨N,0,none⟩))])∧w.heap.size≤N∧w'.heap[N]? =some (.cells #[.string ⟨#[65,116,111,105]⟩,.string s,ev] 261 (0,0))∧Below w.heap.size w w':=by
 cases e0 with
 |ok v=>exact absurd rfl (h1 v)
 |range=>exact absurd rfl h2
 |_=>exact Any.strconv_Atoi_syntax Tryz.qW s E5 h ev w hv j6
open Go.RowKit in
theorem Tryz.strconv_Atoi_range(s:ByteArray)(E5:s.size≤281474976710656)(h:Lib.atoiAll s.data.toList=.range)(ev:Value)(w:World)(hv:w.cell? ⟨4,0,none⟩=some ev)(j6:ev=.nilIface∨∃te pe,ev=.iface te pe):
  Calls Tryz.prog 154 #[.string s] w fun e w'=>∃N,e=.returned (.tuple #[.int .i64 (Lib.atoiSat s.data.toList),.iface 242 (.pointer (some ⟨N,0,none⟩))])∧w.heap.size≤N∧w'.heap[N]? =some (.cells #[.string ⟨#[65,116,111,105]⟩,.string s,ev] 261 (0,0))∧Below w.heap.size w w':=Any.strconv_Atoi_range Tryz.qW s E5 h ev w hv j6
end Go.Proofs
end
section
namespace Go.Abs.Seat
open Go Go.Abs Go.Proofs Go.RowKit
theorem Y1:∀(a b) (n),Lib.parseUint10 n (a++b)=match Lib.parseUint10 n a with|.ok u=>Lib.parseUint10 u b|e=>e
 |[],b,n=>rfl
 |c::a,b,n=>by
  simp only[List.cons_append,Lib.parseUint10];split
  ·split
   ·rfl
   ·split
    ·rfl
    ·exact Y1 a b _
  ·rfl
theorem yWm:∀m:Nat,m≤9223372036854775807→Lib.parseUint10 0 (Lib.decDigits m)=.ok m:=by
 intro m;induction m using Nat.strongRecOn with|_ m ih=>
 intro hm;by_cases h:m<10
 ·rw[CZ h];have e:(UInt8.ofNat (48+m)).toNat=48+m:=by rw[UInt8.toNat_ofNat'];omega
  simp only[Lib.parseUint10,e];rw[if_pos (by omega),if_neg (by omega),if_neg (by omega)];congr 1;omega
 ·rw[ED h,Y1,ih (m/10) (by omega) (by omega)];have e:(UInt8.ofNat (48+m%10)).toNat=48+m%10:=by rw[UInt8.toNat_ofNat'];omega
  simp only[Lib.parseUint10,e];rw[if_pos (by omega),if_neg (by omega),if_neg (by omega)];congr 1;omega
theorem SC(m:Nat)(hm:m≤9223372036854775807):Lib.atoiAll (Lib.itoa (m:Int))=.ok (m:Int):=by
 rw[yxU];have h:=yWm m hm;have b6:Lib.decDigits m≠[]:=by
  by_cases h:m<10
  ·rw[CZ h];simp
  ·rw[ED h];simp
 generalize Lib.decDigits m=l at h b6;cases l with
 |nil=>exact absurd rfl b6
 |cons c r=>
  have hc:48≤c.toNat∧c.toNat≤57:=by
   simp only[Lib.parseUint10]at h;split at h
   ·assumption
   ·cases h
  rw[Lib.atoiAll_plain c r (by omega) (by omega)];unfold Lib.parseMag;rw[if_neg (by simp),h];simp only[Lib.signless];rw[if_neg (by omega)]
theorem YT{w S g}(h:aP w S g 0 [.anyI]):∃ev,w.cell? ⟨g,0,none⟩=some ev∧(ev=.nilIface∨∃te pe,ev=.iface te pe):=by obtain⟨l,hl,hc⟩:=aP.values h;obtain⟨v,r,rfl,⟨t,u,rfl⟩,_⟩:=hl;exact⟨_,(hc 0 _ rfl).1,.inr ⟨t,u,rfl⟩⟩
theorem yJ3{G}(h0:G 3=some [.anyI])(h1:G 4=some [.anyI])(Db:Enters Tryz.prog strconv_Atoi):wB (X G):=by
 intro s hs;have key:∀(e:Bool) (n:Int),(∀(w:World) (S:Safe) (b:ByteArray),fh Tryz.prog G w S→b.data.toList=s→b.size≤281474976710656→Calls Tryz.prog strconv_Atoi #[.string b] w fun e' w'=>(∃v,e'=.returned (.tuple #[.int .i64 n,v])∧(e=true→v=.nilIface)∧(e=false→∃t u,v=.iface t u))∧Below w.heap.size w w')→
   (X G).C strconv_Atoi [.one (.str s)] (.tup [.one (.int .i64 n),.one (if e then .oA else .anyI)]):=by
  intro e n hk;refine⟨Db,fun w S aW hl pj ha=>?_⟩;obtain⟨v,r,e1,e2,e3⟩:=ha;simp only[bA]at e3;subst e3;obtain⟨b,rfl,hb,_⟩:∃b:ByteArray,v=.string b∧b.data.toList=s∧b.size≤9223372036854775807:=e2;obtain rfl:aW=#[.string b]:=by cases aW;simp_all
  have cU:b.size≤281474976710656:=by
   have:b.size=s.length:=by rw[←hb,Array.length_toList];rfl
   omega
  refine(hk w S b pj hb cU).mono ?_
  rintro e' w' ⟨⟨v,rfl,Q7,lD⟩,hb⟩
  refine⟨_,S,rfl,⟨_,rfl,?_⟩,hb,fun _ _ h=>h,fun _ _ h=>.inl h,fun b o hs=>?_⟩
  ·refine⟨_,_,rfl,rfl,_,_,rfl,?_,rfl⟩;cases e with
   |true=>exact Q7 rfl
   |false=>exact lD rfl
  ·obtain⟨v,hv⟩:=hl b o hs;exact⟨v,(hb.cell (p:=⟨b,o,none⟩) (qh hv)).trans hv⟩
 cases h:Lib.atoiAll s with
 |ok v=>
  refine⟨v,true,Lib.atoiAll_bounds h,key true v fun w S b hg hb cU=>?_,fun m hm he=>?_⟩
  ·refine(Tryz.strconv_Atoi_ok b (by omega) v (by rw[hb];exact h) w).mono ?_
   rintro e' w' ⟨rfl,hw⟩
   refine⟨⟨_,rfl,fun _=>rfl,fun h=>by cases h⟩,?_⟩;rcases hw with rfl|⟨t,rfl⟩
   ·exact Below.refl _ _
   ·exact Lib.bytesWorld_below _ _ _
  ·rw[he,SC m (by omega)]at h;cases h;exact⟨rfl,rfl⟩
 |range=>
  refine⟨Lib.atoiSat s,false,Lib.atoiSat_bounds s,key false _ fun w S b hg hb cU=>?_,fun m hm he=>?_⟩
  ·obtain⟨ev,hc,hi⟩:=YT (hg.1 4 _ h1);refine(Tryz.strconv_Atoi_range b cU (by rw[hb];exact h) ev w hc hi).mono ?_
   rintro e' w' ⟨N,rfl,_,_,nL⟩
   rw[hb];exact⟨⟨_,rfl,⟨(fun h=>by cases h),fun _=>⟨_,_,rfl⟩⟩⟩,nL⟩
  ·rw[he,SC m (by omega)]at h;cases h
 |_=>
  refine⟨0,false,⟨by omega,by omega⟩,key false 0 fun w S b hg hb cU=>?_,fun m hm he=>?_⟩
  ·obtain⟨ev,hc,hi⟩:=YT (hg.1 3 _ h0);refine(Tryz.strconv_Atoi_syntax b cU (Lib.atoiAll s) (by rw[hb]) (fun v hv=>by rw[h]at hv;cases hv) (fun hv=>by rw[h]at hv;cases hv) ev w hc hi).mono ?_
   rintro e' w' ⟨N,rfl,_,_,hb⟩
   exact⟨⟨_,rfl,⟨(fun h=>by cases h),fun _=>⟨_,_,rfl⟩⟩⟩,hb⟩
  ·rw[he,SC m (by omega)]at h;cases h
end Go.Abs.Seat
end
section
namespace Go.Proofs
open Go.Shelf
def Tryz.zQV:Go.Shelf.Ren:=⟨fun|156=>55|165=>113|166=>114|169=>115|240=>168|241=>169|276=>216|277=>217|n=>n,fun|31=>97|9=>9|3=>3|4=>4|0=>0|20=>20|72=>154|76=>158|70=>151|37=>152|75=>157|127=>193|164=>229|5=>5|80=>160|n=>n,fun|n=>n⟩
theorem Tryz.qu:Go.Proofs.Lays.n156 Tryz.prog Tryz.zQV:=by repeat' first|kernel_rfl|decide|exact fun _=>rfl|constructor
theorem Tryz.OA:Builder.Extra Tryz.prog Tryz.zQV:=by repeat' first|kernel_rfl|decide|exact fun _=>rfl|constructor
open Go.RowKit in
theorem Tryz.strings_Join_none(a:Option Addr)(c:Nat)(sep:ByteArray)(w:World):
  Calls Tryz.prog 55 #[.slice a 0 c,.string sep] w fun e w'=>e=.returned (.string ⟨#[]⟩)∧w'=w:=Any.strings_Join_none Tryz.qu Tryz.OA a c sep w
open Go.RowKit in
theorem Tryz.strings_Join(bk o c:Nat)(xs:List ByteArray)(sep:ByteArray)(w:World)(lG:∀(j:Nat) x,xs[j]? =some x→w.cell? ⟨bk,o+j,none⟩=some (.string x))(II:bk<w.heap.size)(hN:xs.length≤140737488355328)(ik:xs.length≤c)(hlen:(Lib.join (xs.map (·.data.toList)) sep.data.toList).length≤140737488355328):
  Calls Tryz.prog 55 #[.slice (some ⟨bk,o,none⟩) xs.length c,.string sep] w fun e w'=>e=.returned (.string ⟨(Lib.join (xs.map (·.data.toList)) sep.data.toList).toArray⟩)∧Below w.heap.size w w':=Any.strings_Join Tryz.qu Tryz.OA bk o c xs sep w lG II hN ik hlen
end Go.Proofs
end
section
namespace Go.Abs.Seat
open Go Go.Abs Go.Proofs Go.RowKit
theorem Ih{y:ByteArray}{s}(h:y.data.toList=s):y=⟨s.toArray⟩:=by subst h;cases y with|mk d=>simp
theorem yxc{w S}:∀{ss:List (List UInt8)} {b o},bY w S b o (ss.map fun s=>[D.str s])→∀(j) (x),(ss.map fun s=>(⟨s.toArray⟩:ByteArray))[j]? =some x→w.cell? ⟨b,o+j,none⟩=some (.string x)
 |[],_,_,_,j,x,h=>by simp at h
 |s::ss,b,o,h0,j,x,h=>by
  rw[mC,bY]at h0;obtain⟨h1,h2⟩:=h0;obtain⟨⟨_,v,hc,hv⟩,_⟩:=h1;cases j with
  |zero=>obtain⟨y,rfl,hy,_⟩:∃y:ByteArray,v=.string y∧y.data.toList=s∧y.size≤9223372036854775807:=hv;simp only[mC,List.getElem?_cons_zero,Option.some.injEq]at h;rw[Nat.add_zero,hc,Ih hy,h]
  |succ j=>have:=yxc (b:=b) (o:=o+1) h2 j x (by simpa using h);rw[show o+(j+1)=o+1+j by omega];exact this
theorem yQq{G}(Db:Enters Tryz.prog strings_Join):mK (X G):=by
 intro l sep hl hj;refine⟨Db,fun w S aW dy pj ha=>?_⟩;obtain⟨va,r,e1,h1,vb,r2,rfl,h2,e3⟩:=ha;simp only[bA]at e3;subst e3;obtain rfl:aW=#[va,vb]:=by cases aW;simp_all
 obtain⟨sb,rfl,lP,_⟩:∃b:ByteArray,vb=.string b∧b.data.toList=sep∧b.size≤9223372036854775807:=h2;obtain⟨base,cap,rfl,ik,vY,oq,cB⟩:∃(base:Option Addr) (cap:Nat),va=.slice base (l.map fun k=>[D.str k]).length cap∧(l.map fun k=>[D.str k]).length≤cap∧cap≤9223372036854775807∧(base=none→cap=0)∧∀a,base=some a→(cap≠0→a.spot=none)∧(∃sz,∀e∈(l.map fun k=>[D.str k]),e.length=sz)∧bY w S a.block a.off (l.map fun k=>[D.str k]):=h1;rw[lM]at ik⊢;have fin:∀(e:Ending) (w':World),e=.returned (.string ⟨(Lib.join l sep).toArray⟩)∧Below w.heap.size w w'→∃v S',e=.returned v∧iT w' S' (.one (.str (Lib.join l sep))) v∧Below w.heap.size w w'∧(∀b o,S b o→S' b o)∧(∀b o,S' b o→S b o∨w.heap.size≤b)∧Live w' S':=by
  rintro e w' ⟨rfl,hb⟩
  refine⟨_,S,rfl,⟨_,rfl,rfl,by show(Lib.join l sep).toArray.size≤_;rw[List.size_toArray];omega⟩,hb,fun _ _ h=>h,fun _ _ h=>.inl h,fun b o hs=>?_⟩;obtain⟨v,hv⟩:=dy b o hs;exact⟨v,(hb.cell (p:=⟨b,o,none⟩) (qh hv)).trans hv⟩
 cases l with
 |nil=>
  refine(Tryz.strings_Join_none base cap sb w).mono ?_
  rintro e w' ⟨rfl,rfl⟩
  exact fin _ _ ⟨rfl,Below.refl _ _⟩
 |cons s l=>
  have yj:cap≠0:=by rw[lC]at ik;omega
  cases base with
  |none=>exact absurd (oq rfl) yj
  |some a=>
   obtain⟨gy,_,fW⟩:=cB a rfl;obtain⟨bk,o,sp⟩:=a;obtain rfl:sp=none:=gy yj;have dU:=yxc fW;have h0:=dU 0 ⟨s.toArray⟩ (by simp);have hm:((s::l).map fun s=>(⟨s.toArray⟩:ByteArray)).map (·.data.toList)=s::l:=by
    rw[List.map_map];conv=>rhs;rw[←List.map_id (s::l)]
    exact List.map_congr_left fun x _=>by simp
   have key:=Tryz.strings_Join bk o cap ((s::l).map fun s=>(⟨s.toArray⟩:ByteArray)) sb w dU (qh h0) (by rw[lM];omega) (by rw[lM];exact ik) (by rw[hm,lP];exact hj);rw[hm,lP,lM]at key;exact key.mono fin
end Go.Abs.Seat
end
section
namespace Go.Proofs
open Go.RowKit Go.Shelf
def hM(q:ByteArray→ByteArray)(x:ByteArray×Int):List UInt8:=Lib.itoa x.2++32::((q x.1).data.toList++[32])
theorem Om{B b bs w w'}(h:Lib.IsBuilder 154 5 B b bs w)(hb:Below w.heap.size w w'):Lib.IsBuilder 154 5 B b bs w':=by
 have key:∀p,Lib.BuilderAt 154 5 B b p bs w→Lib.BuilderAt 154 5 B b p bs w':=fun p h=>by
  obtain⟨hB,v,h1,h2,h3⟩:=h;have bf:b<w.heap.size:=by
   rcases Nat.lt_or_ge b w.heap.size with h|h
   ·exact h
   ·rw[Array.getElem?_eq_none h]at h1;cases h1
  refine⟨hB,v,by rw[hb.block b bf];exact h1,?_,h3⟩;exact h2.kept (row:=none) ⟨hb.os,hb.tape,hb.output,hb.size,fun k hk _=>hb.block k hk⟩ (by cases v.ownBlock<;>simp)
 exact h.imp (key _) (key _)
set_option maxHeartbeats 4000000 in
theorem Tryz.yJb(a)(c)(xs:List (ByteArray×Int))(k0)(q)(w)(hn:xs.length≤24)(hI:∀n:Int,n=k0∨(∃x∈xs,n=x.2)→(Lib.itoa n).length≤24)(hQ:∀x∈xs,(q x.1).size≤5000)
  (lG:∀(j) x,xs[j]? =some x→∃bk o,a=some ⟨bk,o,none⟩∧w.cell? ⟨bk,o+j*2,none⟩=some (.string x.1)∧w.cell? ⟨bk,o+j*2+1,none⟩=some (.int .i64 x.2))
  (CI:∀(n) (W),Below w.heap.size w W→(n=k0∨∃x∈xs,n=x.2)→Calls Tryz.prog 52 #[.int .i64 n] W fun e w'=>e=.returned (.string ⟨(Lib.itoa n).toArray⟩)∧Below W.heap.size W w')
  (CQ:∀(s) (W),Below w.heap.size w W→(∃x∈xs,s=x.1)→Calls Tryz.prog 253 #[.string s] W fun e w'=>e=.returned (.string (q s))∧Below W.heap.size W w'):
  Calls Tryz.prog 231 #[.agg #[.slice a xs.length c,.int .i64 k0]] w fun e w'=>e=.returned (.string ⟨(xs.flatMap (hM q)++Lib.itoa k0).toArray⟩)∧Below w.heap.size w w':=by
 have HE:∀ys:List (ByteArray×Int),(∀y∈ys,y∈xs)→(ys.flatMap (hM q)).length≤ys.length*5026:=by
  intro ys;induction ys with
  |nil=>intro _;simp
  |cons y ys ih=>intro hy;have h1:=hI y.2 (.inr ⟨y,hy y (by simp),rfl⟩);have h2:=hQ y (hy y (by simp));have h3:=ih fun z hz=>hy z (by simp[hz]);have h4:(q y.1).data.toList.length=(q y.1).size:=Array.length_toList;simp only[List.flatMap_cons,hM,List.length_append,List.length_cons,List.length_nil,h4];omega
 have Wi:=Any.hidU HE;clear HE;have HCL:=Any.hidU lG;have Wh:=Any.hidU CI;have HCQ:=Any.hidU CQ;clear lG CI CQ;have b0:Below (w.heap.size+1) (w.alloc (.cells #[.slice a xs.length c,.int .i64 k0] 62)) ((w.alloc (.cells #[.slice a xs.length c,.int .i64 k0] 62)).alloc (.cells #[.pointer none,.slice none 0 0] 154)):=(Below.refl _ _).alloc (by simp) _;have h0:Lib.IsBuilder 154 5 (w.heap.size+1) (w.heap.size+1) [] ((w.alloc (.cells #[.slice a xs.length c,.int .i64 k0] 62)).alloc (.cells #[.pointer none,.slice none 0 0] 154)):=by have:=Lib.fresh_isBuilder 154 5 (w.alloc (.cells #[.slice a xs.length c,.int .i64 k0] 62));simpa using this
 have HB0:=Any.hidU b0;have H0:=Any.hidU h0;clear b0 h0
 go_enter Tryz.func231,Tryz.ntmps231
 go_wp2_with fail
 go_loopw [9] (fun i wr=>∃k:Nat,k≤xs.length∧i=.int .i64 k∧Hid (Lib.IsBuilder 154 5 (w.heap.size+1) (w.heap.size+1) (Lib.byteCells ((xs.take k).flatMap (hM q))) wr)∧Hid (Below (w.heap.size+1) (w.alloc (.cells #[.slice a xs.length c,.int .i64 k0] 62)) wr)) (fun i _=>xs.length-(intOf i).toNat)
 case atStart=>exact⟨0,Nat.zero_le _,rfl,H0,HB0⟩
 case round=>
  obtain⟨k,hk,rfl,HB,HW⟩:=hrel;by_cases Xt:k<xs.length
  ·obtain⟨x,hx⟩:∃x,xs[k]? =some x:=⟨xs[k],List.getElem?_eq_getElem Xt⟩;obtain⟨bk,o,rfl,oO,mu⟩:=HCL.out k x hx;have bf:=World.block_lt_of_cell? _ _ oO;have ze:∀i,wr.cell? ⟨bk,i,none⟩=w.cell? ⟨bk,i,none⟩:=fun i=>by rw[HW.out.cell (p:=⟨bk,i,none⟩) (show bk<w.heap.size+1 from Nat.lt_succ_of_lt bf)];exact World.cell?_alloc_past (w:=w) (hn:=bf) ..
   have xaf:wr.cell? ⟨bk,o+k*2,none⟩=some (.string x.1):=by rw[ze];exact oO
   have xag:wr.cell? ⟨bk,o+k*2+1,none⟩=some (.int .i64 x.2):=by rw[ze];exact mu
   clear ze;have Jw:x∈xs:=List.mem_of_getElem? hx;have hsI:(⟨(Lib.itoa x.2).toArray⟩:ByteArray).size≤24:=by have:=hI x.2 (.inr ⟨x,Jw,rfl⟩);show(Lib.itoa x.2).toArray.size≤24;simpa using this
   have hlI:(Lib.itoa x.2).length≤24:=hI x.2 (.inr ⟨x,Jw,rfl⟩);have hsQ:(q x.1).size≤5000:=hQ x Jw;have vI:w.heap.size+1≤wr.heap.size:=by have:=HW.out.size;simpa using this
   have Iy:Below w.heap.size w wr:=((Below.refl w.heap.size w).alloc (Nat.le_refl _) (.cells #[.slice (some ⟨bk,o,none⟩) xs.length c,.int .i64 k0] 62)).trans (HW.out.mono (Nat.le_succ _));have Wm:=Any.hidU ((Iy.alloc (Nat.le_of_succ_le vI) (.cells #[.string x.1,.int .i64 x.2] 134)).drew);have HZA:=Any.hidU ((HW.out.alloc vI (.cells #[.string x.1,.int .i64 x.2] 134)).drew);have HSA:=Any.hidU (Om HB.out (((Below.refl wr.heap.size wr).alloc (Nat.le_refl _) (.cells #[.string x.1,.int .i64 x.2] 134)).drew));have HEk:=Wi.out (xs.take k) fun y hy=>List.mem_of_mem_take hy;have vX:((xs.take k).flatMap (hM q)).length≤200000:=by
    have:(xs.take k).length≤24:=by rw[List.length_take];omega
    have:=Nat.mul_le_mul_right 5026 this;omega
   have Hlk:=Any.hidU vX;have Hn:∀s:ByteArray,s.data.toList=hM q x→Lib.byteCells ((xs.take k).flatMap (hM q))++Lib.strCells s=Lib.byteCells ((xs.take (k+1)).flatMap (hM q)):=fun s hs=>by rw[List.take_add_one,hx,Lib.strCells_eq,hs,←Lib.byteCells_append];simp[List.flatMap_append]
   have HN:=Any.hidU Hn;have Wp:=Any.hidU Jw;have BK:=Any.hidU vI;have WO:∀W:World,Lib.IsBuilder 154 5 (w.heap.size+1) (w.heap.size+1) (Lib.byteCells ((xs.take k).flatMap (hM q))) W→w.heap.size+1≤W.heap.size→
     Calls Tryz.prog 114 #[.pointer (some ⟨w.heap.size+1,0,none⟩),.string (⟨(Lib.itoa x.2).toArray⟩++⟨#[32]⟩++q x.1++⟨#[32]⟩)] W fun e w'=>e=.returned (.tuple #[.int .i64 (⟨(Lib.itoa x.2).toArray⟩++⟨#[32]⟩++q x.1++⟨#[32]⟩:ByteArray).size,.nilIface])∧Lib.IsBuilder 154 5 (w.heap.size+1) (w.heap.size+1) (Lib.byteCells ((xs.take (k+1)).flatMap (hM q))) w'∧Below (w.heap.size+1) W w':=fun W h1 h2=>by
    refine(Any.Builder_WriteString {Tryz.qu with} Tryz.OA (w.heap.size+1) (w.heap.size+1) _ _ W h1 ?_ h2).mono ?_
    ·rw[Lib.byteCells_length];have e1:(⟨#[32]⟩:ByteArray).size=1:=rfl;rw[ByteArray.size_append,ByteArray.size_append,ByteArray.size_append,e1];omega
    ·rintro e w' ⟨rfl,h3,h4⟩
     rw[Hn _ (by simp[hM])]at h3;exact⟨rfl,Or.inr h3,h4⟩
   have HC4:=Any.hidU WO;clear WO;clear Iy HEk vX Hn Jw vI
   go_wp2_with fail
   go_region_with (first
    |(go_at_call 52
      refine(Wh.out x.2 _ Wm.out (.inr ⟨x,Wp.out,rfl⟩)).mono ?_
      rintro e W2 ⟨rfl,oM⟩
      have qo:W2.cell? ⟨wr.heap.size,0,none⟩=some (.string x.1):=(oM.cell (p:=⟨wr.heap.size,0,none⟩) (by simp)).trans (by simp);have Ic:=Any.hidU (Wm.out.trans (oM.mono (by have:=BK.out;simp;omega)));have Wn:=Any.hidU (HZA.out.trans (oM.mono (by have:=BK.out;simp;omega)));have HS2:=Any.hidU (Om HSA.out oM);clear oM)
    |(go_at_call 253
      refine(HCQ.out x.1 _ Ic.out ⟨x,Wp.out,rfl⟩).mono ?_
      rintro e W3 ⟨rfl,AJ⟩
      have Wo:=Any.hidU (Wn.out.trans (AJ.mono (by have:=Wn.out.size;simpa using this)));have HS3:=Any.hidU (Om HS2.out AJ);clear AJ)
    |(go_at_call 114
      refine(HC4.out W3 HS3.out (by have:=Wo.out.size;simpa using this)).mono ?_
      rintro e W4 ⟨rfl,h4,Qa⟩
      have H4:=Any.hidU h4;have HZ4:=Any.hidU (Wo.out.trans Qa);clear h4 Qa))
   all_goals (
    go_wp2;exact⟨⟨k+1,by omega,by go_num,H4,HZ4⟩,by simp[intOf];omega⟩)
  ·have hke:k=xs.length:=by omega
   subst hke;have eN:xs.take xs.length=xs:=List.take_of_length_le (Nat.le_refl _);rw[eN]at HB;have vI:w.heap.size+1≤wr.heap.size:=by have:=HW.out.size;simpa using this
   have Iy:Below w.heap.size w wr:=((Below.refl w.heap.size w).alloc (Nat.le_refl _) (.cells #[.slice a xs.length c,.int .i64 k0] 62)).trans (HW.out.mono (Nat.le_succ _));have uY:∀W,Below (w.heap.size+1) wr W→W.cell? ⟨w.heap.size,1,none⟩=some (.int .i64 k0):=fun W h=>by rw[h.cell (p:=⟨w.heap.size,1,none⟩) (Nat.lt_succ_self _),HW.out.cell (p:=⟨w.heap.size,1,none⟩) (Nat.lt_succ_self _)];simp
   have oO:=uY wr.drew ((Below.refl _ wr).drew);have hlI:(Lib.itoa k0).length≤24:=hI k0 (.inl rfl);have Rc:(xs.flatMap (hM q)).length≤200000:=by have:=Wi.out xs fun y hy=>hy;have:=Nat.mul_le_mul_right 5026 hn;omega
   obtain⟨L,hL⟩:∃L,xs.flatMap (hM q)=L:=⟨_,rfl⟩;rw[hL]at HB Rc;have HL:=Any.hidU hL;clear hL;have Hck:=Any.hidU uY;have HA2:=Any.hidU Iy;have BK:=Any.hidU vI;clear uY Iy vI eN
   go_wp2_with fail
   go_region_with (first
    |(go_at_call 115
      refine(Any.Builder_String_any {Tryz.qu with} Tryz.OA (w.heap.size+1) (w.heap.size+1) _ _ (Om HB.out ((Below.refl _ wr).drew)) BK.out).mono ?_
      rintro e W2 ⟨rfl,oM⟩
      have mu:=Hck.out W2 (((Below.refl _ wr).drew).trans oM);have Ic:=Any.hidU (HA2.out.drew.trans (oM.mono (Nat.le_succ _)));clear oM)
    |(go_at_call 52
      refine(Wh.out k0 _ Ic.out (.inl rfl)).mono ?_
      rintro e W3 ⟨rfl,AJ⟩
      have HW3:=Any.hidU (Ic.out.trans (AJ.mono Ic.out.size));clear AJ))
   all_goals (
    go_wp2
    go_ret
    refine⟨?_,HW3.out⟩;rw[HL.out];show Ending.returned (Value.string _)=Ending.returned (Value.string _);congr 2)
end Go.Proofs
end
section
namespace Go.Proofs
open Go.Shelf
def Tryz.yv4:Go.Shelf.Ren:=⟨fun|177=>253|250=>273|289=>284|197=>286|323=>287|260=>288|339=>289|340=>290|242=>291|119=>292|345=>293|346=>294|278=>295|n=>n,fun|9=>9|5=>5|4=>4|3=>3|37=>152|21=>21|105=>290|46=>251|119=>295|0=>0|139=>298|138=>297|49=>299|234=>300|131=>70|51=>253|236=>302|n=>n,fun|3=>7|4=>8|20=>9|21=>10|22=>11|23=>12|24=>13|n=>n⟩
theorem Tryz.Cj:Go.Proofs.Lays.n177 Tryz.prog Tryz.yv4:=by repeat' first|kernel_rfl|decide|exact fun _=>rfl|constructor
open Go.RowKit in
theorem Tryz.strconv_Quote(T:Lib.PrintTabs)(s:ByteArray)(w:World)(hlen:10*s.size+12≤140737488355328)(hT:Lib.PrintTabsAt 9 10 11 12 T w)(hU:Lib.Utf8Tabs 7 8 w):
  Calls Tryz.prog 253 #[.string s] w fun e w'=>e=.returned (.string (strOfNums (Lib.quoteZ T s)))∧Below w.heap.size w w':=Any.strconv_Quote Tryz.Cj (by kernel_rfl) T s w hlen hT hU
end Go.Proofs
end
section
namespace Go.Abs.Seat
open Go Go.Abs Go.Proofs Go.RowKit
def r6(s:ByteArray):ByteArray:=strOfNums (Lib.quoteZ Lib.goPrintTabs s)
def xU(a:aH):aD:=(a.aG.map fun c=>((⟨c.name.toArray⟩:ByteArray),c.n)).flatMap (hM r6)++Lib.itoa a.c
structure CR(G:Nat→Option (List D)):Prop where
 g0:G 0=some (Lib.pow10Tab.map (D.int .u64))
 g7:G 7=some (Lib.firstTab.map (D.int .u8))
 g8:G 8=some (iU.map (D.int .u8))
 g9:G 9=some [.aw (Lib.goPrintTabs.p16.map fun x=>[.int .u16 (x:Nat)])]
 g10:G 10=some [.aw (Lib.goPrintTabs.n16.map fun x=>[.int .u16 (x:Nat)])]
 g11:G 11=some [.aw (Lib.goPrintTabs.p32.map fun x=>[.int .u32 (x:Nat)])]
 g12:G 12=some [.aw (Lib.goPrintTabs.n32.map fun x=>[.int .u16 (x:Nat)])]
theorem zQc{w S b}:∀{l:List ak} {o},bY w S b o (l.map ak.cells)→∀(j) (x),(l.map fun c=>((⟨c.name.toArray⟩:ByteArray),c.n))[j]? =some x→w.cell? ⟨b,o+j*2,none⟩=some (.string x.1)∧w.cell? ⟨b,o+j*2+1,none⟩=some (.int .i64 x.2)
 |[],_,_,j,x,h=>by simp at h
 |c::l,o,h0,j,x,h=>by
  rw[mC,bY]at h0;obtain⟨⟨⟨_,v,hc,hv⟩,⟨_,v2,mu,lD⟩,_⟩,h2⟩:=h0;cases j with
  |zero=>obtain⟨y,rfl,hy,_⟩:∃y:ByteArray,v=.string y∧y.data.toList=c.name∧y.size≤9223372036854775807:=hv;have lD:v2=.int .i64 c.n:=lD;simp only[mC,List.getElem?_cons_zero,Option.some.injEq]at h;subst h;rw[Nat.zero_mul,Nat.add_zero,hc,mu,lD];refine⟨?_,rfl⟩;rw[←hy]
  |succ j=>have:=zQc (b:=b) (o:=o+2) h2 j x (by simpa using h);rw[show o+(j+1)*2=o+2+j*2 by omega];exact this
theorem yQV{G}(hT:CR G)(Db:Enters Tryz.prog SW)(bf:0<Tryz.prog.globals.size)(tV:Tryz.prog.globalNamed "internal/strconv.uint64pow10"=some 0):j4 (X G) xU:=by
 intro a ha;refine⟨Db,fun w S aW dy pj bU=>?_⟩;obtain⟨v,r,e1,⟨vs,rfl,h1⟩,e3⟩:=bU;simp only[bA]at e3;subst e3;obtain rfl:aW=#[.agg vs]:=by cases aW;simp_all
 obtain⟨va,r,Jv,Q8,vb,r2,rfl,Gm,e4⟩:=h1;simp only[aS]at e4;subst e4;obtain rfl:vs=#[va,vb]:=by cases vs;simp_all
 have Gm:vb=.int .i64 a.c:=Gm;subst Gm;obtain⟨base,cap,rfl,ik,vY,oq,cB⟩:∃(base:Option Addr) (cap:Nat),va=.slice base (a.aG.map ak.cells).length cap∧(a.aG.map ak.cells).length≤cap∧cap≤9223372036854775807∧(base=none→cap=0)∧∀b,base=some b→(cap≠0→b.spot=none)∧(∃sz,∀e∈(a.aG.map ak.cells),e.length=sz)∧bY w S b.block b.off (a.aG.map ak.cells):=Q8;rw[lM]at ik⊢;obtain⟨x6,Xb,hc⟩:=ha;have zK:Lib.TabIs Tryz.prog w "internal/strconv.uint64pow10" .u64 Lib.pow10Tab:=yzI tV (pj.1 0 _ hT.g0) (pj.2.2 0 _ bf hT.g0 (by decide));have GS:=Lib.tabBelow_of_tabIs zK;have hpt:Lib.PrintTabsAt 9 10 11 12 Lib.goPrintTabs w:=⟨NQ (by decide) (pj.1 9 _ hT.g9),NQ (by decide) (pj.1 10 _ hT.g10),NQ (by decide) (pj.1 11 _ hT.g11),NQ (by decide) (pj.1 12 _ hT.g12),by decide,by decide,by decide⟩;have hut:Lib.Utf8Tabs 7 8 w:=yW0 (pj.1 7 _ hT.g7) (pj.1 8 _ hT.g8);have ef:(a.aG.map fun c=>((⟨c.name.toArray⟩:ByteArray),c.n)).length=a.aG.length:=by simp
 have oo:∀x∈(a.aG.map fun c=>((⟨c.name.toArray⟩:ByteArray),c.n)),nG x.2∧x.1.size≤400:=fun x hx=>by obtain⟨c,pZ,rfl⟩:=List.mem_map.1 hx;refine⟨(Xb c pZ).2,?_⟩;show c.name.toArray.size≤400;rw[List.size_toArray];exact(Xb c pZ).1
 have I0:∀n:Int,(n=a.c∨∃x∈(a.aG.map fun c=>((⟨c.name.toArray⟩:ByteArray),c.n)),n=x.2)→nG n:=fun n h=>by
  rcases h with rfl|⟨x,hx,rfl⟩
  ·exact hc
  ·exact(oo x hx).1
 have key:=Tryz.yJb base cap (a.aG.map fun c=>((⟨c.name.toArray⟩:ByteArray),c.n)) a.c r6 w (by rw[ef];exact x6)
  (fun n hn=>by have:=I0 n hn;have h2:=Lib.itoa_length_le n this.1 this.2;omega)
  (fun x hx=>by show(strOfNums _).size≤5000;rw[strOfNums_size];have:=Lib.quoteZ_length_le Lib.goPrintTabs x.1;have:=(oo x hx).2;omega)
  (fun j x hx=>by
   have hj:j<a.aG.length:=by
    have:=(List.getElem?_eq_some_iff.1 hx).1
    rwa [ef]at this
   cases base with
   |none=>have:=oq rfl;omega
   |some b=>obtain⟨gy,_,fW⟩:=cB b rfl;obtain⟨bk,o,sp⟩:=b;obtain rfl:sp=none:=gy (by omega);exact⟨bk,o,rfl,zQc fW j x hx⟩)
  (fun n W hb hn=>by
   have:=I0 n hn;refine(Tryz.strconv_Itoa n this.1 this.2 W (GS W hb)).mono ?_
   rintro e w' ⟨rfl,k,os,rfl⟩
   exact⟨rfl,Lib.below_grow W.heap.size W (Nat.le_refl _) k os⟩)
  (fun s W hb ⟨x,hx,hs⟩=>by subst hs;exact Tryz.strconv_Quote Lib.goPrintTabs x.1 W (by have:=(oo x hx).2;omega) (printTabs_below hpt hb) (Utf8Tabs_below hut hb))
 rw[ef]at key;refine key.mono ?_
 rintro e w' ⟨rfl,hb⟩
 have hlen:(xU a).length≤9223372036854775807:=by
  have h1:∀ys:List (ByteArray×Int),(∀y∈ys,nG y.2∧y.1.size≤400)→(ys.flatMap (hM r6)).length≤ys.length*5026:=by
   intro ys;induction ys with
   |nil=>intro _;simp
   |cons y ys ih=>
    intro hy;have h1:=(hy y (by simp)).1;have h1:=Lib.itoa_length_le y.2 h1.1 h1.2;have h2:(r6 y.1).size≤5000:=by show(strOfNums _).size≤5000;rw[strOfNums_size];have:=Lib.quoteZ_length_le Lib.goPrintTabs y.1;have:=(hy y (by simp)).2;omega
    have h3:=ih fun z hz=>hy z (by simp[hz]);have h4:(r6 y.1).data.toList.length=(r6 y.1).size:=Array.length_toList;simp only[List.flatMap_cons,hM,lA,lC,lN,h4];omega
  have h2:=h1 _ oo;rw[ef]at h2;have h3:=Lib.itoa_length_le a.c hc.1 hc.2;show((a.aG.map fun c=>((⟨c.name.toArray⟩:ByteArray),c.n)).flatMap (hM r6)++Lib.itoa a.c).length≤_;rw[lA];omega
 refine⟨_,S,rfl,⟨_,rfl,rfl,by show(xU a).toArray.size≤_;rw[List.size_toArray];exact hlen⟩,hb,fun _ _ h=>h,fun _ _ h=>.inl h,fun b o hs=>?_⟩;obtain⟨v,hv⟩:=dy b o hs;exact⟨v,(hb.cell (p:=⟨b,o,none⟩) (qh hv)).trans hv⟩
theorem yzk:∀(s:aD) (f),s.length≤f→s.all mJ=true→Lib.quoteFrom Lib.goPrintTabs f ⟨s.toArray⟩=s.map fun c=>(c.toNat:Int)
 |[],f,_,_=>Lib.quoteFrom_end _ _ _ (by decide)
 |c::s,f,hf,h=>by
  rw[List.all_cons,Bool.and_eq_true]at h;obtain⟨hc,hs⟩:=h;have mu:32≤c.toNat∧c.toNat≤126∧c≠34∧c≠92:=by simp only[mJ,Bool.and_eq_true,decide_eq_true_eq,bne_iff_ne]at hc;exact⟨hc.1.1.1,hc.1.1.2,hc.1.2,hc.2⟩
  have hd:Utf8.decode ⟨(c::s).toArray⟩ 0=(c.toNat,1):=Lib.decodeL_ascii c s (by omega);have cU:(⟨(c::s).toArray⟩:ByteArray).size=s.length+1:=by show(c::s).toArray.size=_;simp
  rw[Lib.quoteFrom_step _ _ _ (by rw[cU];omega) (by rw[cU];simpa using hf)];have Bw:¬((c.toNat:Int)=34∨(c.toNat:Int)=92):=by
   rintro(h|h)
   ·exact mu.2.2.1 (UInt8.toNat_inj.1 (by show c.toNat=34;omega))
   ·exact mu.2.2.2 (UInt8.toNat_inj.1 (by show c.toNat=92;omega))
  have w6:Lib.quoteStep Lib.goPrintTabs ⟨(c::s).toArray⟩=[(c.toNat:Int)]:=by rw[Lib.quoteStep_good _ _ (by rw[hd];simp;omega),hd];unfold Lib.escRune;rw[if_neg Bw,if_pos,Lib.encodeRuneZ,if_pos (by simp only;omega)];unfold Lib.isPrintR;rw[if_pos (by simp only;omega)];simp only[Lib.isPrintLatin,Bool.or_eq_true,Bool.and_eq_true,decide_eq_true_eq];exact .inl ⟨by omega,by omega⟩
  have ma:(⟨(c::s).toArray⟩:ByteArray).extract (Utf8.decode ⟨(c::s).toArray⟩ 0).2 (⟨(c::s).toArray⟩:ByteArray).size=⟨s.toArray⟩:=by rw[hd,cU];apply ByteArray.ext;simp
  rw[w6,ma,yzk s (f-1) (by simp at hf;omega) hs];rfl
theorem yWs{s:aD}(h:s.all mJ=true):(r6 ⟨s.toArray⟩).data.toList=34::(s++[34]):=by
 show((Lib.quoteZ Lib.goPrintTabs ⟨s.toArray⟩).map fun n=>UInt8.ofNat n.toNat)=_;unfold Lib.quoteZ;rw[yzk s _ (by show s.length≤s.toArray.size;simp) h];simp only[mC,mA,List.map_map,mN];have:s.map ((fun n:Int=>UInt8.ofNat n.toNat)∘fun c:UInt8=>(c.toNat:Int))=s:=by
  conv=>rhs;rw[←List.map_id s]
  exact List.map_congr_left fun c _=>by simp
 rw[this];rfl
theorem yW6(a)(h:cj a):xU a=aI a:=by
 unfold xU aI;congr 1;have:∀l:List ak,(∀c∈l,c.name.all mJ=true)→(l.map fun c=>((⟨c.name.toArray⟩:ByteArray),c.n)).flatMap (hM r6)=l.flatMap fun c=>Lib.itoa c.n++32::34::(c.name++34::[32]):=by
  intro l;induction l with
  |nil=>intro _;rfl
  |cons c l ih=>intro h;rw[mC,List.flatMap_cons,List.flatMap_cons,ih fun x hx=>h x (by simp[hx])];congr 1;show Lib.itoa c.n++32::((r6 ⟨c.name.toArray⟩).data.toList++[32])=_;rw[yWs (h c (by simp))];simp
 exact this a.aG h
end Go.Abs.Seat
end
section
namespace Go.Abs.Seat
open Go Go.Abs Go.Proofs Go.Proofs.YtkaaomojgmbgdaaGreatDoor Go.RowKit Go.ChangeShapes
variable{H:Type}{enc:TypeId×Value→H}{w:World}
theorem en:jb (Rows.uptoBulk (H:=H)) Rows.uptoBulkAll where
 one d:=by
  cases d with
  |lit l=>cases l<;>simp only[Rows.uptoBulk]<;>omega
  |_=>simp only[Rows.uptoBulk];omega
 str s:=by simp only[Rows.uptoBulk];omega
 slice a b:=by simp only[Rows.uptoBulk];omega
 agg a:=by simp only[Rows.uptoBulk];omega
 cons d r:=by simp only[Rows.uptoBulkAll];omega
theorem jX:∀t∈[3,5,9,22,23,35,36,37,42,47,54,60,67,75,103],Tryz.prog.cellsOf t=1:=of_decide_eq_true (by kernel_rfl)
theorem c1{t:Nat}(h:t∈[3,5,9,22,23,35,36,37,42,47,54,60,67,75,103]:=by simp):Tryz.prog.cellsOf t=1:=jX t h
theorem c25:Tryz.prog.cellsOf 25=4:=by kernel_rfl
theorem c146:Tryz.prog.cellsOf 146=2:=by kernel_rfl
theorem c148:Tryz.prog.cellsOf 148=3:=by kernel_rfl
theorem Ez:Tryz.prog.cellsOf 200=2:=by kernel_rfl
theorem c39:Tryz.prog.cellsOf 39=3:=by kernel_rfl
def AO{α:Type}:α→Nat:=fun _=>1
theorem DI{α}:∀l:List α,(l.map AO).sum=l.length
 |[]=>rfl
 |_::l=>by rw[mC,List.sum_cons,DI l,lC,AO,Nat.add_comm]
theorem yQQ(n):bC enc Tryz.prog w Rows.uptoBulk n 25 Pred.cells Pred.sz:=
 yZ3 en Tryz.underlying25 Tryz.underlying22 Tryz.underlying9 Tryz.underlying3 Tryz.underlying23 c25 c1 c1 c1 c1 n
theorem xzB:∀n,bC enc Tryz.prog w Rows.uptoBulk n 146 b8.cells AO
 |0=>BF
 |n+1=>En (T1 en Tryz.underlying146 c146 c1 (fun _=>rfl) (DZ en Tryz.underlying9) c1 (fun _=>rfl) (DZ en Tryz.underlying42)) (fun x=>b8.mk x.1 x.2.1) (fun x=>rfl) (fun x=>by simp only[AO];omega)
theorem Yx(n):bC enc Tryz.prog w Rows.uptoBulk n 35 (fun l:List b8=>[.aw (l.map b8.cells)]) (fun l=>(l.map AO).sum+1):=fY en Tryz.underlying35 (by rw[c146];decide) (fun x=>by rw[c146];exact rfl) xzB n
theorem yQR:∀n,bC enc Tryz.prog w Rows.uptoBulk n 42 cQ AO
 |0=>BF
 |n+1=>En (DZ en Tryz.underlying42) (fun x=>x) (fun x=>rfl) (fun x=>by simp only[AO];omega)
theorem yVR(n):bC enc Tryz.prog w Rows.uptoBulk n 103 (fun l:List (List UInt8)=>[.aw (l.map cQ)]) (fun l=>(l.map AO).sum+1):=fY en Tryz.underlying103 (by rw[c1];decide) (fun x=>by rw[c1];exact rfl) yQR n
def FJ(s:cI):Nat:=s.args.length
theorem xzA:∀n,bC enc Tryz.prog w Rows.uptoBulk n 148 cI.cells FJ
 |0=>BF
 |n+1=>En (VH en Tryz.underlying148 c148 c1 (fun _=>rfl) (DZ en Tryz.underlying9) c1 (fun _=>rfl) (yVR n) c1 (fun _=>rfl) (DZ en Tryz.underlying42)) (fun x=>cI.mk x.1 x.2.1 x.2.2.1) (fun x=>rfl) (fun x=>by have:=DI x.2.1;simp only[FJ];omega)
theorem yQS(n):bC enc Tryz.prog w Rows.uptoBulk n 36 (fun l:List cI=>[.aw (l.map cI.cells)]) (fun l=>(l.map FJ).sum+1):=fY en Tryz.underlying36 (by rw[c148];decide) (fun x=>by rw[c148];exact rfl) xzA n
def FI(h:bI):Nat:=h.params.length
theorem yQO:∀n,bC enc Tryz.prog w Rows.uptoBulk n 200 bI.cells FI
 |0=>BF
 |n+1=>En (T1 en Tryz.underlying200 Ez c1 (fun _=>rfl) (DZ en Tryz.underlying9) c1 (fun _=>rfl) (Yx n)) (fun x=>bI.mk x.1 x.2.1) (fun x=>rfl) (fun x=>by have:=DI x.2.1;simp only[FI];omega)
theorem yVO(n):bC enc Tryz.prog w Rows.uptoBulk n 37 (fun l:List bI=>[.aw (l.map bI.cells)]) (fun l=>(l.map FI).sum+1):=fY en Tryz.underlying37 (by rw[Ez];decide) (fun x=>by rw[Ez];exact rfl) yQO n
def MU(v:al):Nat:=(v.syms.map FJ).sum+(v.bT.map FI).sum
theorem Fy:∀n,bC enc Tryz.prog w Rows.uptoBulk n 39 al.cells MU
 |0=>BF
 |n+1=>En (VH en Tryz.underlying39 c39 c1 (fun _=>rfl) (Yx n) c1 (fun _=>rfl) (yQS n) c1 (fun _=>rfl) (yVO n)) (fun x=>al.mk x.1 x.2.1 x.2.2.1) (fun x=>rfl) (fun x=>by simp only[MU];omega)
structure rM where
 pt:List ak
 apps:List yC
def rM.cells(x:rM):List D:=[.aw (x.pt.map ak.cells),.aw (x.apps.map fun f=>f.1.cells)]
def G1:Nat→Option (List D):=fun g=>if g=0 then some (Lib.pow10Tab.map (D.int .u64))else if g=2 then some (oR.map .str)else if g=3 then some [.anyI]else if g=4 then some [.anyI]else if g=7 then some (Lib.firstTab.map (D.int .u8))else if g=8 then some (iU.map (D.int .u8))else if g=9 then some [.aw (Lib.goPrintTabs.p16.map fun x=>[.int .u16 (x:Nat)])]else if g=10 then some [.aw (Lib.goPrintTabs.n16.map fun x=>[.int .u16 (x:Nat)])]else if g=11 then some [.aw (Lib.goPrintTabs.p32.map fun x=>[.int .u32 (x:Nat)])]else if g=12 then some [.aw (Lib.goPrintTabs.n32.map fun x=>[.int .u16 (x:Nat)])]else none
def LL:List (String×DataW Unit):=[("math/bits.deBruijn32tab",Rows.laid_math_bits_deBruijn32tab),("math/bits.deBruijn64tab",Rows.laid_math_bits_deBruijn64tab),("internal/strconv.uint64pow10",Rows.laid_internal_strconv_uint64pow10),("unicode/utf8.acceptRanges",Rows.laid_unicode_utf8_acceptRanges),("strconv.ErrRange",Rows.laid_strconv_ErrRange),("strconv.ErrSyntax",Rows.laid_strconv_ErrSyntax),("liquidcheck/names.keywords",Rows.laid_liquidcheck_names_keywords),("strconv.isGraphic",Rows.laid_strconv_isGraphic),("strconv.isNotPrint16",Rows.laid_strconv_isNotPrint16),("strconv.isNotPrint32",Rows.laid_strconv_isNotPrint32),("strconv.isPrint16",Rows.laid_strconv_isPrint16),("strconv.isPrint32",Rows.laid_strconv_isPrint32),("unicode/utf8.first",Rows.laid_unicode_utf8_first)]
theorem yq2:∀(i) (f:Field),(#[Field.mk "lo" 5 0 false "" "unicode/utf8" 0,Field.mk "hi" 5 1 false "" "unicode/utf8" 1]:Array Field)[i]? =some f→Tryz.prog.underlying f.type=some (.int .u8)∧f.offset=i∧Tryz.prog.cellsOf f.type=1
 |0,f,h=>by cases h;exact⟨Tryz.underlying5,rfl,c1⟩
 |1,f,h=>by cases h;exact⟨Tryz.underlying5,rfl,c1⟩
 |i+2,f,h=>by simp at h
theorem kg0(h:laidMet Tryz.prog LL w):aP w (dm w) 0 0 (Lib.pow10Tab.map (D.int .u64))∧∃(vs:Array Value) (e:TypeId) (fr:Nat×Nat),w.heap[0]? =some (.cells vs e fr)∧vs.size=((Lib.pow10Tab.map (D.int .u64)):List D).length:=ZO (by kernel_rfl) (by kernel_rfl) Tryz.underlying252 Tryz.underlying224 (by kernel_rfl) (by kernel_rfl) (show Lib.VarReads Tryz.prog w "internal/strconv.uint64pow10" (Lib.tabData .u64 Lib.pow10Tab)from(show Rows.laid_internal_strconv_uint64pow10=Lib.tabData .u64 Lib.pow10Tab by kernel_rfl)▸Lib.laidMet.reads h (List.mem_of_getElem? (i:=2) rfl))
theorem kg2(h:laidMet Tryz.prog LL w):aP w (dm w) 2 0 (oR.map .str)∧∃(vs:Array Value) (e:TypeId) (fr:Nat×Nat),w.heap[2]? =some (.cells vs e fr)∧vs.size=((oR.map .str):List D).length:=yYd (by kernel_rfl) (by kernel_rfl) Tryz.underlying256 Tryz.underlying9 (by kernel_rfl) (by kernel_rfl) (show Lib.VarReads Tryz.prog w "liquidcheck/names.keywords" (mq oR)from(show Rows.laid_liquidcheck_names_keywords=mq oR by kernel_rfl)▸Lib.laidMet.reads h (List.mem_of_getElem? (i:=6) rfl))
theorem kg3(h:laidMet Tryz.prog LL w):aP w (dm w) 3 0 [.anyI]∧∃(vs:Array Value) (e:TypeId) (fr:Nat×Nat),w.heap[3]? =some (.cells vs e fr)∧vs.size=([.anyI]:List D).length:=zQR (t:=157) (by kernel_rfl) (by kernel_rfl) Tryz.underlying157 (Lib.laidMet.reads h (List.mem_of_getElem? (i:=5) rfl))
theorem kg4(h:laidMet Tryz.prog LL w):aP w (dm w) 4 0 [.anyI]∧∃(vs:Array Value) (e:TypeId) (fr:Nat×Nat),w.heap[4]? =some (.cells vs e fr)∧vs.size=([.anyI]:List D).length:=zQR (t:=157) (by kernel_rfl) (by kernel_rfl) Tryz.underlying157 (Lib.laidMet.reads h (List.mem_of_getElem? (i:=4) rfl))
theorem kg7(h:laidMet Tryz.prog LL w):aP w (dm w) 7 0 (Lib.firstTab.map (D.int .u8))∧∃(vs:Array Value) (e:TypeId) (fr:Nat×Nat),w.heap[7]? =some (.cells vs e fr)∧vs.size=((Lib.firstTab.map (D.int .u8)):List D).length:=ZO (by kernel_rfl) (by kernel_rfl) Tryz.underlying295 Tryz.underlying5 (by kernel_rfl) (by kernel_rfl) (show Lib.VarReads Tryz.prog w "unicode/utf8.first" (Lib.tabData .u8 Lib.firstTab)from(show Rows.laid_unicode_utf8_first=Lib.tabData .u8 Lib.firstTab by kernel_rfl)▸Lib.laidMet.reads h (List.mem_of_getElem? (i:=12) rfl))
theorem kg8(h:laidMet Tryz.prog LL w):aP w (dm w) 8 0 (iU.map (D.int .u8))∧∃(vs:Array Value) (e:TypeId) (fr:Nat×Nat),w.heap[8]? =some (.cells vs e fr)∧vs.size=((iU.map (D.int .u8)):List D).length:=ywq (by kernel_rfl) (by kernel_rfl) Tryz.underlying298 Tryz.underlying297 yq2 (by kernel_rfl) (by kernel_rfl) (by kernel_rfl) (show Lib.VarReads Tryz.prog w "unicode/utf8.acceptRanges" (Lib.acceptData)from(show Rows.laid_unicode_utf8_acceptRanges=Lib.acceptData by kernel_rfl)▸Lib.laidMet.reads h (List.mem_of_getElem? (i:=3) rfl))
theorem kg9(h:laidMet Tryz.prog LL w):aP w (dm w) 9 0 [.aw (Lib.goPrintTabs.p16.map fun x=>[.int .u16 (x:Nat)])]∧∃(vs:Array Value) (e:TypeId) (fr:Nat×Nat),w.heap[9]? =some (.cells vs e fr)∧vs.size=([.aw (Lib.goPrintTabs.p16.map fun x=>[.int .u16 (x:Nat)])]:List D).length:=NR (by kernel_rfl) (by kernel_rfl) Tryz.underlying300 Tryz.underlying299 (by kernel_rfl) (by decide) (show Lib.VarReads Tryz.prog w "strconv.isPrint16" (Lib.sliceData .u16 Lib.goPrintTabs.p16)from(show Rows.laid_strconv_isPrint16=Lib.sliceData .u16 Lib.goPrintTabs.p16 by kernel_rfl)▸Lib.laidMet.reads h (List.mem_of_getElem? (i:=10) rfl))
theorem Ri(h:laidMet Tryz.prog LL w):aP w (dm w) 10 0 [.aw (Lib.goPrintTabs.n16.map fun x=>[.int .u16 (x:Nat)])]∧∃(vs:Array Value) (e:TypeId) (fr:Nat×Nat),w.heap[10]? =some (.cells vs e fr)∧vs.size=([.aw (Lib.goPrintTabs.n16.map fun x=>[.int .u16 (x:Nat)])]:List D).length:=NR (by kernel_rfl) (by kernel_rfl) Tryz.underlying300 Tryz.underlying299 (by kernel_rfl) (by decide) (show Lib.VarReads Tryz.prog w "strconv.isNotPrint16" (Lib.sliceData .u16 Lib.goPrintTabs.n16)from(show Rows.laid_strconv_isNotPrint16=Lib.sliceData .u16 Lib.goPrintTabs.n16 by kernel_rfl)▸Lib.laidMet.reads h (List.mem_of_getElem? (i:=8) rfl))
theorem Rj(h:laidMet Tryz.prog LL w):aP w (dm w) 11 0 [.aw (Lib.goPrintTabs.p32.map fun x=>[.int .u32 (x:Nat)])]∧∃(vs:Array Value) (e:TypeId) (fr:Nat×Nat),w.heap[11]? =some (.cells vs e fr)∧vs.size=([.aw (Lib.goPrintTabs.p32.map fun x=>[.int .u32 (x:Nat)])]:List D).length:=NR (by kernel_rfl) (by kernel_rfl) Tryz.underlying302 Tryz.underlying253 (by kernel_rfl) (by decide) (show Lib.VarReads Tryz.prog w "strconv.isPrint32" (Lib.sliceData .u32 Lib.goPrintTabs.p32)from(show Rows.laid_strconv_isPrint32=Lib.sliceData .u32 Lib.goPrintTabs.p32 by kernel_rfl)▸Lib.laidMet.reads h (List.mem_of_getElem? (i:=11) rfl))
theorem Rk(h:laidMet Tryz.prog LL w):aP w (dm w) 12 0 [.aw (Lib.goPrintTabs.n32.map fun x=>[.int .u16 (x:Nat)])]∧∃(vs:Array Value) (e:TypeId) (fr:Nat×Nat),w.heap[12]? =some (.cells vs e fr)∧vs.size=([.aw (Lib.goPrintTabs.n32.map fun x=>[.int .u16 (x:Nat)])]:List D).length:=NR (by kernel_rfl) (by kernel_rfl) Tryz.underlying300 Tryz.underlying299 (by kernel_rfl) (by decide) (show Lib.VarReads Tryz.prog w "strconv.isNotPrint32" (Lib.sliceData .u16 Lib.goPrintTabs.n32)from(show Rows.laid_strconv_isNotPrint32=Lib.sliceData .u16 Lib.goPrintTabs.n32 by kernel_rfl)▸Lib.laidMet.reads h (List.mem_of_getElem? (i:=9) rfl))
theorem Iv(hS:w.ShapedOpen Tryz.prog)(h:laidMetH Tryz.prog Rows.atomsNamesUptoRow.laid w):fh Tryz.prog G1 w (dm w):=by
 rw[MakeChecks.laidMetH_plain _ _ _ (by kernel_rfl)]at h;have h:laidMet Tryz.prog LL w:=h;have k0:=kg0 h;have k2:=kg2 h;have k3:=kg3 h;have k4:=kg4 h;have k7:=kg7 h;have k8:=kg8 h;have k9:=kg9 h;have Rh:=Ri h;have k11:=Rj h;have k12:=Rk h;have key:∀g cs,G1 g=some cs→aP w (dm w) g 0 cs∧∃(vs:Array Value) (e:TypeId) (fr:Nat×Nat),w.heap[g]? =some (.cells vs e fr)∧vs.size=cs.length:=by
  intro g cs hg;by_cases h0:g=0
  ·subst h0;obtain rfl:=Option.some.inj ((show G1 0=some (Lib.pow10Tab.map (D.int .u64))from rfl).symm.trans hg);exact k0
  by_cases h2:g=2
  ·subst h2;obtain rfl:=Option.some.inj ((show G1 2=some (oR.map .str)from rfl).symm.trans hg);exact k2
  by_cases h3:g=3
  ·subst h3;obtain rfl:=Option.some.inj ((show G1 3=some [.anyI]from rfl).symm.trans hg);exact k3
  by_cases h4:g=4
  ·subst h4;obtain rfl:=Option.some.inj ((show G1 4=some [.anyI]from rfl).symm.trans hg);exact k4
  by_cases h7:g=7
  ·subst h7;obtain rfl:=Option.some.inj ((show G1 7=some (Lib.firstTab.map (D.int .u8))from rfl).symm.trans hg);exact k7
  by_cases h8:g=8
  ·subst h8;obtain rfl:=Option.some.inj ((show G1 8=some (iU.map (D.int .u8))from rfl).symm.trans hg);exact k8
  by_cases h9:g=9
  ·subst h9;obtain rfl:=Option.some.inj ((show G1 9=some [.aw (Lib.goPrintTabs.p16.map fun x=>[.int .u16 (x:Nat)])]from rfl).symm.trans hg);exact k9
  by_cases rR:g=10
  ·subst rR;obtain rfl:=Option.some.inj ((show G1 10=some [.aw (Lib.goPrintTabs.n16.map fun x=>[.int .u16 (x:Nat)])]from rfl).symm.trans hg);exact Rh
  by_cases vH:g=11
  ·subst vH;obtain rfl:=Option.some.inj ((show G1 11=some [.aw (Lib.goPrintTabs.p32.map fun x=>[.int .u32 (x:Nat)])]from rfl).symm.trans hg);exact k11
  by_cases AZ:g=12
  ·subst AZ;obtain rfl:=Option.some.inj ((show G1 12=some [.aw (Lib.goPrintTabs.n32.map fun x=>[.int .u16 (x:Nat)])]from rfl).symm.trans hg);exact k12
  unfold G1 at hg;rw[if_neg h0,if_neg h2,if_neg h3,if_neg h4,if_neg h7,if_neg h8,if_neg h9,if_neg rR,if_neg vH,if_neg AZ]at hg;cases hg
 exact⟨fun g cs hg=>(key g cs hg).1,yZu hS,fun g cs _ hg _=>(key g cs hg).2⟩
theorem J8:CR G1:=⟨rfl,rfl,rfl,rfl,rfl,rfl,rfl⟩
theorem Y3:Tryz.prog.globalNamed "internal/strconv.uint64pow10"=some 0:=by kernel_rfl
theorem Yg:0<Tryz.prog.globals.size:=of_decide_eq_true (by kernel_rfl)
theorem Vo(G)(p):mY Tryz.prog G AF [.ref (Pred.cells p)] (bH p.pre):=yvt (P:=Tryz.prog) (T:=l8 tl) (fun _ _ ht=>K1 xj ht) Tryz.func131 yJT Tryz.func130 yJS p
theorem fam:We X:=⟨fun G=>sys G,fun _=>rfl,Vo⟩
theorem yKH:∀G bs dep args r,yB X bs dep G KQ args r→(X G).C rF args r:=
 fun _ _ _ _ _ h=>yvQ Tryz.func22 tr_22 (fun _ _ _ _ h=>h) (fun _ _ _ _ h=>h) (fun _=>rfl) (fun _ _ ht=>K1 xj ht) mixed h
theorem Fv:Law12 (X G1) where
 sys:=sys G1
 of:=fun v p hv=>ywj fam yKH rfl v hv p
 chk:=VQ (sys G1) rfl (Vo G1)
 itoa:=yQo Y3 Yg ⟨Tryz.f52,Tryz.func52,by kernel_rfl,by kernel_rfl⟩ rfl
 atoi:=yJ3 rfl rfl ⟨Tryz.f154,Tryz.func154,by kernel_rfl,by kernel_rfl⟩
 join:=yQq ⟨Tryz.f55,Tryz.func55,by kernel_rfl,by kernel_rfl⟩
 text:=⟨xU,yQV J8 ⟨Tryz.f231,Tryz.func231,by kernel_rfl,by kernel_rfl⟩ Yg Y3,yW6⟩
theorem O3:∀{ds} {d:DataW H},Rows.uptoBulkAll ds≤1048576→d∈ds→Rows.uptoBulk d≤1048576
 |[],_,_,h=>by cases h
 |x::ds,d,hs,h=>by
  rw[Rows.uptoBulkAll]at hs;rcases List.mem_cons.1 h with rfl|h
  ·omega
  ·exact O3 (by omega) h
theorem OX{α:Type}(f:α→Nat):∀{l:List α} {x},x∈l→f x≤(l.map f).sum
 |a::l,x,h=>by
  rw[mC,List.sum_cons];rcases List.mem_cons.1 h with rfl|h
  ·omega
  ·have:=OX f h;omega
theorem EF{ds v d}(h:MU v≤Rows.uptoBulk d)(hs:Rows.uptoSmall H ds=true)(hd:d∈ds):v.Ok:=by
 have h2:=O3 (of_decide_eq_true hs) hd;have h3:MU v=(v.syms.map FJ).sum+(v.bT.map FI).sum:=rfl;refine⟨fun s hs=>?_,fun x hx=>?_⟩
 ·have h4:=OX FJ hs;have h5:FJ s=s.args.length:=rfl;unfold Small;omega
 ·have h4:=OX FI hx;have h5:FI x=x.params.length:=rfl;unfold Small;omega
theorem An{ds}{p:Pred}{d}(h:p.sz≤Rows.uptoBulk d)(hs:Rows.uptoSmall H ds=true)(hd:d∈ds):p.sz≤1048576:=Nat.le_trans h (O3 (of_decide_eq_true hs) hd)
theorem own:ownKnob Tryz.prog.godebug=none:=by kernel_rfl
theorem laidOut:laidOutB Tryz.prog=true:=by kernel_rfl
noncomputable def po(os:Os):World:=World.laidAll Tryz.prog os Rows.atomsNamesUptoRow.laid
end Go.Abs.Seat
end
