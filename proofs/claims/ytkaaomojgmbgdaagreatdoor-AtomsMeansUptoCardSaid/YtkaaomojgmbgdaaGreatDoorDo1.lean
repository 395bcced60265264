/-
  THE DOOR: arguments that a statement reads as data are data of the abstract machine; the functions here are those of the program.
-/
import Derived.OpenShut
import Derived.Deep.DeepHandedRow
import Derived.Lib.LaidTab
import Derived.Carry
import Derived.ChangeCalls
import Derived.LaidLaws
import Derived.Lib.LaidPrint
import Derived.Lib.LaidU8
import Derived.KernelRfl
import Derived.Test.YtkaaomojgmbgdaaGreatDoorProg
import Derived.Shelf.LaysM
import Derived.Shelf.Strconv.Itoa3
import Derived.Lib.AppendIntMem
import Derived.Shelf.LaysC
import Derived.Shelf.Strconv.AtoiAll
import Derived.Shelf.Sort.Plain
import Derived.Shelf.Slices.CompactS
import Derived.Shelf.Slices.Cells
import Derived.Shelf.Lays
import Derived.Shelf.Strings.OnBuilder
import Derived.WalkKit
import Derived.BigCall
import Derived.Deep.RegionWith
import Derived.Shelf.Strconv.Quote
import Derived.Lib.TrimAscii
import Derived.Test.YtkaaomojgmbgdaaGreatDoorCards
import Derived.Test.YtkaaomojgmbgdaaGreatDoorTie
import Derived.ProofKit
import Derived.Lay
import Derived.MakeChecks
import Derived.Deep.DeepWitnessRowRef
import Derived.Test.YtkaaomojgmbgdaaGreatDoorCon3
set_option linter.unusedSimpArgs false
set_option linter.unusedVariables false
set_option linter.unusedSectionVars false
set_option maxRecDepth 100000
section
namespace Go.Abs
open Go.RowKit
variable{H:Type}{enc:TypeId×Value→H}{P:Program}{w:World}
def liveS(w:World):Safe:=fun b o=>∃v,w.cell? ⟨b,o,none⟩=some v
structure BulkOk(bulk:DataW H→Nat)(all:List (DataW H)→Nat):Prop where
 one:∀d,1≤bulk d
 str:∀s,s.length+1≤bulk (.lit (.string s))
 slice:∀a b,all a+1≤bulk (.slice a b)
 agg:∀a,all a+1≤bulk (.agg a)
 cons:∀d r,bulk d+all r≤all (d::r)
variable{bulk:DataW H→Nat}{all:List (DataW H)→Nat}
def ReadsAt(enc:TypeId×Value→H)(P:Program)(w:World)(bulk:DataW H→Nat)(n:Nat)(t:TypeId){α:Type}(f:α→List D)(sz:α→Nat):Prop:=
 ∀cs d ps,DataW.trod enc P w 0 (fun _=>true) true n t cs=some (d,ps)→∃x:α,RepL w (liveS w) (f x) cs∧sz x≤bulk d
theorem zwg{n t α β f sz g sz'}(h:ReadsAt enc P w bulk n t f sz)(φ:α→β)(hf:∀x,g (φ x)=f x)(hs:∀x,sz' (φ x)≤sz x):ReadsAt enc P w bulk n t g sz':=fun cs d ps hr=>by obtain⟨x,h1,h2⟩:=h cs d ps hr;exact⟨φ x,by rw[hf];exact h1,Nat.le_trans (hs x) h2⟩
theorem zY9(hb:BulkOk bulk all){k n t}(ht:P.underlying t=some (.int k)):ReadsAt enc P w bulk n t (fun x:Int=>[.int k x]) (fun _=>1):=by
 intro cs d ps h;cases n with
 |zero=>cases h
 |succ n=>
  unfold DataW.trod at h;rw[ht]at h;split at h<;>(try (cases h;done))<;>rename_i h1<;>cases h1;rename_i k' m;split at h
  ·rename_i hk;obtain⟨rfl,_⟩:=hk;exact⟨m,⟨_,_,rfl,rfl,rfl⟩,hb.one _⟩
  ·cases h
theorem zwV(hb:BulkOk bulk all){n t}(ht:P.underlying t=some .string):ReadsAt enc P w bulk n t (fun x:List UInt8=>[.str x]) (fun x=>x.length+1):=by
 intro cs d ps h;cases n with
 |zero=>cases h
 |succ n=>
  unfold DataW.trod at h;rw[ht]at h;split at h<;>(try (cases h;done))<;>rename_i h1<;>cases h1;rename_i s;split at h
  ·rename_i hk;cases h;exact⟨s.data.toList,⟨_,_,rfl,⟨s,rfl,rfl,by simpa[maxLen]using hk⟩,rfl⟩,hb.str _⟩
  ·cases h
theorem mapM_reads{α}{f:α→List D}{sz:α→Nat}(hb:BulkOk bulk all){n e}(he:ReadsAt enc P w bulk n e f sz)(g:Nat→Option (List Value)):
  ∀(is:List Nat) {xs:List (DataW H×List MemPlace)},(is.mapM fun i=>(g i).bind (DataW.trod enc P w 0 (fun _=>true) true n e))=some xs→
   ∃l:List α,l.length=is.length∧(∀k (h:k<is.length),∃cs,g is[k]=some cs∧∃(h':k<l.length),RepL w (liveS w) (f l[k]) cs)∧(l.map sz).sum≤all (xs.map (·.1))
 |[],xs,h=>by simp at h;subst h;exact⟨[],rfl,by simp,by simp⟩
 |i::is,xs,h=>by
  simp only[List.mapM_cons,Option.bind_eq_bind,Option.bind_eq_some_iff,Option.pure_def,Option.some.injEq]at h;obtain⟨⟨d,ps⟩,⟨cs,hg,ht⟩,xs',hxs,rfl⟩:=h;obtain⟨x,hx,hsz⟩:=he cs d ps ht;obtain⟨l,hl,hl2,hl3⟩:=mapM_reads hb he g is hxs;refine⟨x::l,by simp[hl],?_,?_⟩
  ·intro k hk;cases k with
   |zero=>exact⟨cs,hg,by simp,hx⟩
   |succ k=>obtain⟨cs',h1,h2,h3⟩:=hl2 k (by simpa using hk);exact⟨cs',h1,by simpa using h2,h3⟩
  ·simp only[mC,List.sum_cons];exact Nat.le_trans (Nat.add_le_add hsz hl3) (hb.cons _ _)
theorem zJ8{w:World}{a n cs}(h:w.cells? 0 a n=some cs):cs.length=n∧∀j,j<n→∃v,cs[j]? =some v∧w.cell? (a.add j)=some v:=by
 unfold World.cells? at h;rw[if_pos (Nat.zero_le _)]at h;have key:∀(is:List Nat) (cs:List Value),(is.mapM fun i=>w.cell? (a.add i))=some cs→cs.length=is.length∧∀k (hk:k<is.length),∃v,cs[k]? =some v∧w.cell? (a.add is[k])=some v:=by
  intro is;induction is with
  |nil=>intro cs h;simp at h;subst h;simp
  |cons i is ih=>
   intro cs h;simp only[List.mapM_cons,Option.bind_eq_bind,Option.bind_eq_some_iff,Option.pure_def,Option.some.injEq]at h;obtain⟨v,hv,cs',hcs,rfl⟩:=h;obtain⟨h1,h2⟩:=ih cs' hcs;refine⟨by simp[h1],fun k hk=>?_⟩;cases k with
   |zero=>exact⟨v,rfl,hv⟩
   |succ k=>simpa using h2 k (by simpa using hk)
 obtain⟨h1,h2⟩:=key _ _ h;refine⟨by simpa using h1,fun j hj=>?_⟩;obtain⟨v,e1,e2⟩:=h2 j (by simpa using hj);exact⟨v,e1,by simpa using e2⟩
theorem zJn{w:World}{a v}(h:w.cell? a=some v):a.spot=none:=by
 unfold World.cell? at h;split at h
 ·split at h
  ·cases h
  ·rename_i hs;cases hh:a.spot with
   |none=>rfl
   |some x=>rw[hh]at hs;simp at hs
 ·cases h
theorem yYr{a:Addr}(h:a.spot=none)(n):a.add n=⟨a.block,a.off+n,none⟩:=by obtain⟨b,o,sp⟩:=a;simp only at h;subst h;exact addr_add b o n
theorem zWH(hb:BulkOk bulk all){α f sz n t e}(ht:P.underlying t=some (.slice e))(hk:P.cellsOf e≠0)(hf:∀x,(f x).length=P.cellsOf e)(he:ReadsAt enc P w bulk n e f sz):
  ReadsAt enc P w bulk (n+1) t (fun l:List α=>[.lst (l.map f)]) (fun l=>(l.map sz).sum+1):=by
 intro cs d ps h;unfold DataW.trod at h;rw[ht]at h;split at h<;>(try (cases h;done))<;>rename_i h1<;>cases h1
 ·cases h;exact⟨[],⟨_,_,rfl,⟨none,0,rfl,Nat.le_refl _,by omega,fun _=>rfl,fun a ha=>by cases ha⟩,rfl⟩,hb.one _⟩
 ·rename_i a len cap;simp only at h;split at h
  ·rename_i hc;obtain⟨_,hlc,hcm⟩:=hc;simp only[Option.bind_eq_some_iff,Option.map_eq_some_iff]at h;obtain⟨xs,hxs,rest,hrest,h⟩:=h;cases h;simp only[if_true]at hrest;obtain⟨l,hl,hl2,hl3⟩:=mapM_reads hb he (fun i=>w.cells? 0 (a.add (i*P.cellsOf e)) (P.cellsOf e)) (List.range len) hxs;have hll:l.length=len:=by simpa using hl
   have hspot:cap≠0→a.spot=none:=by
    intro hc0;by_cases hl0:len=0
    ·subst hl0;have hlt:0<cap-0:=by omega
     obtain⟨l',hl',hl2',_⟩:=mapM_reads hb he (fun j=>w.cells? 0 (a.add ((0+j)*P.cellsOf e)) (P.cellsOf e)) (List.range (cap-0)) hrest;obtain⟨cs,hcs,_⟩:=hl2' 0 (by simpa using hlt);obtain⟨_,hg⟩:=zJ8 hcs;obtain⟨v,_,hv⟩:=hg 0 (by omega);have:=zJn hv;simpa[Addr.add]using this
    ·obtain⟨cs,hcs,_⟩:=hl2 0 (by simp;omega);obtain⟨_,hg⟩:=zJ8 hcs;obtain⟨v,_,hv⟩:=hg 0 (by omega);have:=zJn hv;simpa[Addr.add]using this
   refine⟨l,⟨_,_,rfl,⟨some a,cap,by rw[lM,hll],by rw[lM,hll];exact hlc,by simpa[maxLen]using hcm,(fun h=>by cases h),?_⟩,rfl⟩,Nat.le_trans (Nat.succ_le_succ hl3) (hb.slice _ _)⟩;intro a' ha';cases ha';refine⟨hspot,⟨P.cellsOf e,fun x hx=>by obtain⟨y,_,rfl⟩:=List.mem_map.1 hx;exact hf y⟩,?_⟩;have key:∀(r:List α) (i:Nat),(∀k (hk:k<r.length),∃(h':i+k<l.length),l[i+k]=r[k])→RepEs w (liveS w) a.block (a.off+i*P.cellsOf e) (r.map f):=by
    intro r;induction r with
    |nil=>intro i _;trivial
    |cons x r ih=>
     intro i hi;obtain⟨h',e0⟩:=hi 0 (by simp);simp only[Nat.add_zero,List.getElem_cons_zero]at h' e0;obtain⟨cs,hcs,h2,hrep⟩:=hl2 i (by simpa[hll]using h');simp only[List.getElem_range]at hcs;obtain⟨hcl,hg⟩:=zJ8 hcs;have hsp:=hspot (by omega);refine⟨?_,?_⟩
     ·rw[←e0];refine RepCs.zkN hrep fun j v hj=>?_;have hj':j<P.cellsOf e:=by rw[←hcl];exact(List.getElem?_eq_some_iff.1 hj).1
      obtain⟨v',e1,e2⟩:=hg j hj';rw[hj]at e1;cases e1;rw[yYr hsp,addr_add]at e2;exact⟨e2,v,e2⟩
     ·have:=ih (i+1) (fun k hk=>by
        obtain⟨g1,g2⟩:=hi (k+1) (by simpa using hk);refine⟨by omega,?_⟩;have e3:i+1+k=i+(k+1):=by omega
        simp only[e3];simpa using g2)
      rw[hf x,show a.off+i*P.cellsOf e+P.cellsOf e=a.off+(i+1)*P.cellsOf e by rw[Nat.add_mul];omega];exact this
   have:=key l 0 (fun k hk=>⟨by omega,by simp⟩);simpa using this
  ·cases h
def ReadsF(enc:TypeId×Value→H)(P:Program)(w:World)(bulk:DataW H→Nat)(all:List (DataW H)→Nat)(n:Nat)(fs:List Field)(off:Nat){α:Type}(f:α→List D)(sz:α→Nat):Prop:=
 ∀(cs:List Value) (xs:List (DataW H×List MemPlace)),(fs.mapM fun fd=>DataW.trod enc P w 0 (fun _=>true) true n fd.type ((cs.drop fd.offset).take (P.cellsOf fd.type)))=some xs→
  ∃x:α,RepL w (liveS w) (f x) ((cs.drop off).take (f x).length)∧sz x≤all (xs.map (·.1))
theorem zKJ{n off}:ReadsF enc P w bulk all n [] off (fun _:Unit=>[]) (fun _=>0):=by intro cs xs h;exact⟨(),by simp[RepL],Nat.zero_le _⟩
theorem RepL.yqR{S}:∀{a b} {l:List Value},RepL w S a (l.take a.length)→RepL w S b ((l.drop a.length).take b.length)→RepL w S (a++b) (l.take (a++b).length)
 |[],b,l,_,h2=>by simpa using h2
 |x::a,b,l,⟨v,r,h,h1,h1'⟩,h2=>by
  cases l with
  |nil=>simp at h
  |cons y l=>simp only[lC,List.take_succ_cons,List.cons.injEq]at h;obtain⟨rfl,rfl⟩:=h;simp only[List.cons_append,lC,List.take_succ_cons];exact⟨_,_,rfl,h1,RepL.yqR h1' (by simpa using h2)⟩
theorem zyP(hb:BulkOk bulk all){n off k fd fs α β f sz g sz'}(ho:fd.offset=off)(hk:P.cellsOf fd.type=k)(hf:∀x,(f x).length=k)
  (h1:ReadsAt enc P w bulk n fd.type f sz) (h2:ReadsF enc P w bulk all n fs (off+k) g sz'):ReadsF enc P w bulk all n (fd::fs) off (fun x:α×β=>f x.1++g x.2) (fun x=>sz x.1+sz' x.2):=by
 intro cs xs h;simp only[List.mapM_cons,Option.bind_eq_bind,Option.bind_eq_some_iff,Option.pure_def,Option.some.injEq]at h;obtain⟨⟨d,ps⟩,hd,xs',hxs,rfl⟩:=h;obtain⟨x,hx,hxs1⟩:=h1 _ d ps hd;obtain⟨y,hy,hys⟩:=h2 cs xs' hxs;refine⟨(x,y),?_,Nat.le_trans (Nat.add_le_add hxs1 hys) (by simpa using hb.cons _ _)⟩;refine RepL.yqR ?_ ?_
 ·rw[hf x,←hk,←ho];exact hx
 ·rw[hf x,List.drop_drop];exact hy
theorem zqd(hb:BulkOk bulk all){n t fs α f}{sz:α→Nat}(ht:P.underlying t=some (.struct fs))(hk:∀x,(f x).length=P.cellsOf t)(h:ReadsF enc P w bulk all n fs.toList 0 f sz):
  ReadsAt enc P w bulk (n+1) t f (fun x=>sz x+1):=by
 intro cs d ps hr;unfold DataW.trod at hr;simp only[ht]at hr;split at hr
 ·rename_i hlen;simp only[Option.map_eq_some_iff]at hr;obtain⟨xs,hxs,hr⟩:=hr;cases hr;obtain⟨x,hx,hs⟩:=h cs xs hxs;refine⟨x,?_,Nat.le_trans (Nat.succ_le_succ hs) (hb.agg _)⟩;rw[List.drop_zero,hk x,←hlen,List.take_length]at hx;exact hx
 ·cases hr
end Go.Abs
end
section
namespace Go.Abs
open Go.RowKit Go.ChangeShapes
variable{H:Type}{enc:TypeId×Value→H}{P:Program}{w:World}
theorem xzw{f}{s:ChangeSpec}{apart fresh handsOn again W W' args ds gs before tb}
  (hW:DataW.Whole enc P f.params.toList s.vars apart W args.toList ds gs before) (hvars:s.vars=[]) (hfn:∀l,l.length=f.params.size→(s.fn H l).results=[.lit (.bool true)]∧(s.fn H l).args=l∧(s.fn H l).vars=[]) (hb:Below W.heap.size W W')
  (hl:laidOutB P=true) (hp:∀t∈f.params.toList,P.readableRec t=true∧t<P.types.size) (htb:P.underlying tb=some .bool) (hr:f.resultTypes=#[tb]):s.post enc P f apart fresh handsOn again W args (.bool true) W':=by
 obtain⟨p,q,hA,hV,hpq,hz,hn⟩:=id hW;rw[hvars]at hV;obtain⟨rfl,rfl⟩:=trodVars_none hV;have hlen:ds.length=f.params.size:=by have:=(trodAll_length hA).2;simpa using this
 obtain⟨e1,e2,e3⟩:=hfn ds hlen;have hlt:∀x∈before,x.block<W.heap.size:=hW.lt;rw[List.append_nil]at hpq;subst hpq;have hres:∀(b:Nat) (sp:Nat→Bool) (hd:Bool),DataW.TrodAll enc P W' b sp hd f.resultTypes.toList ((Value.bool true).resultList f.resultTypes.size) (s.fn H (ds++[])).results []:=by intro b sp hd;rw[List.append_nil,e1,hr];exact trodAll_cons_mk (p:=[]) (p':=[]) (shut_bool htb true) trodAll_mk0
 have hargs:∀sp:Nat→Bool,(∀x∈before,sp x.block=true)→DataW.TrodAll enc P W' 0 sp true f.params.toList args.toList (s.fn H (ds++[])).args before:=by
  intro sp hsp;rw[List.append_nil,e2];have key:∀(ts:List TypeId) (vs:List Value) (ds:List (DataW H)) (ps:List MemPlace),(∀t∈ts,P.readableRec t=true∧t<P.types.size)→(∀x∈ps,x∈before)→DataW.TrodAll enc P W 0 (fun _=>true) true ts vs ds ps→DataW.TrodAll enc P W' 0 sp true ts vs ds ps:=by
   intro ts;induction ts with
   |nil=>intro vs ds ps _ _ h;obtain⟨rfl,rfl,rfl⟩:=trodAll_nil h;exact trodAll_mk0
   |cons t ts ih=>
    intro vs ds ps ht hin h;obtain⟨v,vs',d,ds',p1,p2,rfl,rfl,rfl,h1,h2⟩:=trodAll_cons h;exact trodAll_cons_mk (WideElems.Trod_stays hl (ht t (by simp)).1 (ht t (by simp)).2 h1 (fun x hx=>hb.same (hlt x (hin x (List.mem_append_left _ hx)))) (fun x hx=>hsp x (hin x (List.mem_append_left _ hx))))
     (ih vs' ds' p2 (fun t' ht'=>ht t' (by simp[ht'])) (fun x hx=>hin x (List.mem_append_right _ hx)) h2)
  exact key _ _ _ _ hp (fun x hx=>hx) hA
 have hold:∀x∈before,(fun b=>decide (b<W.heap.size)) x.block=true:=fun x hx=>by simpa using hlt x hx
 have hv0:∀sp:Nat→Bool,DataW.TrodVars enc P W' sp s.vars (s.fn H (ds++[])).vars []:=by intro sp;rw[hvars,List.append_nil,e3];rfl
 refine⟨ds,[],before,[],before,[],hW,hres _ _ _,hargs _ hold,hv0 _,World.keptBut_mono (fun x hx=>⟨hx,?_⟩) (hb.frame (· ∈before)),fun _=>?_⟩
 ·simpa using hx
 ·refine⟨ok_one hr rfl (okWide_bool_mk htb true),_,_,([]++before)++[],⟨[]++before,[],trodAll_append (hargs _ (fun _ _=>rfl)) (hres _ _ _),hv0 _,rfl,?_,?_⟩,?_⟩
  ·intro b off hx;have hx':MemPlace.cell b off∈before:=by simpa using hx
   have:W'.frozen? ⟨b,off,none⟩=W.frozen? ⟨b,off,none⟩:=hb.frozen (p:=⟨b,off,none⟩) (hlt _ hx');rw[this];exact hz b off hx'
  ·intro ha;simpa using hn ha
  ·intro x hx _;simpa using hx
def strsData{H:Type}(ss:List (List UInt8)):DataW H:=.agg (ss.map fun s=>.lit (.string s))
theorem yvb{base sp held fuel t e n cs ss p S}
  (ht:P.underlying t=some (.array n e)) (he:P.underlying e=some .string) (hce:P.cellsOf e=1) (hct:P.cellsOf t=n)
  (h:DataW.trod enc P w base sp held fuel t cs=some (strsData ss,p)):RepL w S (ss.map D.str) cs:=by
 cases fuel with
 |zero=>simp[DataW.trod]at h
 |succ fuel=>
  simp only[DataW.trod,ht,hce,hct,Nat.mul_one]at h;split at h
  ·rename_i hl;obtain⟨xs,hm,hx⟩:=Option.map_eq_some_iff.1 h;have hxs:xs.map (·.1)=ss.map fun s=>(DataW.lit (.string s):DataW H):=by have:=congrArg Prod.fst hx;simpa[strsData]using this
   have hxl:xs.length=n:=by simpa using Lib.mapM_length hm
   have hsl:ss.length=n:=by have:=congrArg List.length hxs;simp at this;omega
   have hcl:cs.length=n:=hl;have key:∀i (hi:i<n),∃(x:ByteArray),cs[i]? =some (.string x)∧x.data.toList=ss.getD i []∧x.size≤9223372036854775807:=by
    intro i hi;obtain⟨b,hb,hf⟩:=Lib.mapM_at hm i i (by simp[hi]);have hc:(cs.drop i).take 1=[cs[i]'(by omega)]:=by rw[List.drop_eq_getElem_cons (by omega)];rfl
    rw[hc]at hf;have hbi:b.1=DataW.lit (.string (ss.getD i [])):=by
     have h2:(xs.map (·.1))[i]? =some b.1:=by simp[hb]
     rw[hxs]at h2;rw[List.getElem?_map,List.getElem?_eq_getElem (by omega)]at h2;simp only[Option.map_some,Option.some.injEq]at h2;rw[←h2];simp[List.getD,List.getElem?_eq_getElem (show i<ss.length by omega)]
    cases fuel with
    |zero=>simp[DataW.trod]at hf
    |succ fuel=>
     simp only[DataW.trod,he]at hf;generalize hci:cs[i]'(by omega)=ci at hf;cases ci<;>simp only[reduceCtorEq]at hf;rename_i x;split at hf
     ·rename_i hmax;cases hf;simp only[DataW.lit.injEq,Lit.string.injEq]at hbi;exact⟨x,by rw[List.getElem?_eq_getElem (by omega),hci],hbi,by simpa[maxLen]using hmax⟩
     ·cases hf
   clear h hm hx hxs hxl;have fin:∀(ss:List (List UInt8)) (cs:List Value),ss.length=cs.length→(∀i,i<ss.length→∃(x:ByteArray),cs[i]? =some (.string x)∧x.data.toList=ss.getD i []∧x.size≤9223372036854775807)→RepL w S (ss.map D.str) cs:=by
    intro ss;induction ss with
    |nil=>intro cs h _;cases cs with|nil=>rfl|cons _ _=>simp at h
    |cons s ss ih=>
     intro cs hl hk;cases cs with
     |nil=>simp at hl
     |cons c cs=>obtain⟨x,h1,h2,h3⟩:=hk 0 (by simp);simp only[List.getElem?_cons_zero,Option.some.injEq]at h1;subst h1;exact⟨_,_,rfl,⟨x,rfl,by simpa using h2,h3⟩,ih cs (by simpa using hl) fun i hi=>by simpa using hk (i+1) (by simpa using hi)⟩
   exact fin ss cs (by omega) (fun i hi=>key i (by omega))
  ·cases h
theorem zXd{name g cs}(hg:P.globalNamed name=some g)(h:w.var? P name=some cs):∃(e:TypeId) (fr:Nat×Nat),w.heap[g]? =some (.cells cs e fr):=by
 simp only[World.var?,hg,Option.bind_some]at h;split at h
 ·rename_i vs e fr hb;cases h;exact⟨e,fr,hb⟩
 ·cases h
theorem yV8{name k zs g}(hg:P.globalNamed name=some g)(h:Lib.TabIs P w name k zs):
  RepCs w (liveS w) g 0 (zs.map (D.int k))∧∃(vs:Array Value) (e:TypeId) (fr:Nat×Nat),w.heap[g]? =some (.cells vs e fr)∧vs.size=(zs.map (D.int k)).length:=by
 obtain⟨e,fr,hb⟩:=zXd hg h;refine⟨RepCs.zkN (l:=zs.map fun z=>Value.int k z) ?_ fun j v hj=>?_,_,e,fr,hb,by simp⟩
 ·clear h hb;induction zs with
  |nil=>rfl
  |cons z zs ih=>exact⟨_,_,rfl,rfl,ih⟩
 ·have hc:w.cell? ⟨g,0+j,none⟩=some v:=by rw[zA,zzm hb];simpa using hj
  exact⟨hc,v,hc⟩
theorem yzI{S name k zs g}(hg:P.globalNamed name=some g)(h:RepCs w S g 0 (zs.map (D.int k)))(hx:∃(vs:Array Value) (e:TypeId) (fr:Nat×Nat),w.heap[g]? =some (.cells vs e fr)∧vs.size=(zs.map (D.int k)).length):Lib.TabIs P w name k zs:=by
 obtain⟨vs,e,fr,hb,hn⟩:=hx;unfold Lib.TabIs;simp only[World.var?,hg,Option.bind_some,hb,Option.some.injEq];obtain⟨l,hl,hc⟩:=RepCs.values h;have hl2:l=zs.map fun z=>Value.int k z:=by
  clear hc hn h;induction zs generalizing l with
  |nil=>simpa[RepL]using hl
  |cons z zs ih=>obtain⟨v,r,rfl,h1,h2⟩:=hl;simp only[Rep]at h1;subst h1;rw[mC,ih r h2]
 subst hl2;apply Array.ext
 ·simpa using hn
 ·intro i h1 h2;simp only[List.size_toArray,lM]at h2;have:=(hc i (.int k zs[i]) (by simp[h2])).1;rw[zA,zzm hb,Array.getElem?_eq_getElem h1]at this;simpa using this
theorem yZu(h:w.ShapedOpen P):P.globals.size≤w.heap.size:=by obtain⟨_,h2⟩:=h;obtain⟨o,_,ho,_⟩:=h2 P.globals.size (Nat.le_refl _) (by simp[begin];omega);exact Nat.le_of_lt (Array.getElem?_eq_some_iff.1 ho).1
theorem yJ2{r b t d v}(ht:P.underlying t=some d)(hd:d=.bool∨d=.string∨(∃k,d=.int k)∨∃e,d=.slice e)(hval:Value.okWide P w r b t v):v.cells.toList=[v]:=by
 unfold Value.okWide at hval;rw[ht]at hval;rcases hd with rfl|rfl|⟨k,rfl⟩|⟨e,rfl⟩<;>
  (simp only[Cell.okWide,ht,Cell.ok]at hval
   cases v<;>simp_all[Value.cells])
theorem yJ1{r b t fs v}(ht:P.underlying t=some (.struct fs))(hval:Value.okWide P w r b t v):∃cs,v=.agg cs∧v.cells=cs:=by unfold Value.okWide at hval;rw[ht]at hval;obtain⟨cs,rfl,_⟩:=hval;exact⟨cs,rfl,rfl⟩
end Go.Abs
end
section
namespace Go.Abs
open Go.RowKit Go.ChangeShapes
variable{H:Type}{enc:TypeId×Value→H}{P:Program}{w:World}{bulk:DataW H→Nat}{all:List (DataW H)→Nat}
theorem zyB{t α f}{sz:α→Nat}:ReadsAt enc P w bulk 0 t f sz:=fun cs d ps h=>by cases h
theorem reads_slice'(hb:BulkOk bulk all){α f sz t e}(ht:P.underlying t=some (.slice e))(hk:P.cellsOf e≠0)(hf:∀x,(f x).length=P.cellsOf e)(he:∀n,ReadsAt enc P w bulk n e f sz):
  ∀n,ReadsAt enc P w bulk n t (fun l:List α=>[.lst (l.map f)]) (fun l=>(l.map sz).sum+1)
 |0=>zyB
 |n+1=>zWH hb ht hk hf (he n)
theorem yZ3(hb:BulkOk bulk all){t s to tn ti n0 n1 n2 n3 g0 g1 g2 g3 p0 p1 p2 p3 b0 b1 b2 b3 e0 e1 e2 e3}
  (ht:P.underlying t=some (.struct #[⟨n0,to,0,e0,g0,p0,b0⟩,⟨n1,tn,1,e1,g1,p1,b1⟩,⟨n2,ti,2,e2,g2,p2,b2⟩,⟨n3,s,3,e3,g3,p3,b3⟩]))
  (ho:P.underlying to=some (.int .i64)) (hn:P.underlying tn=some .string) (hi:P.underlying ti=some (.int .i64)) (hs:P.underlying s=some (.slice t))
  (ct:P.cellsOf t=4) (co:P.cellsOf to=1) (cn:P.cellsOf tn=1) (ci:P.cellsOf ti=1) (cs:P.cellsOf s=1):∀n,ReadsAt enc P w bulk n t Pred.cells Pred.sz:=by
 intro n;induction n using Nat.strongRecOn with|_ n ih=>
 cases n with
 |zero=>exact zyB
 |succ n=>
  have hk:ReadsAt enc P w bulk n s (fun l:List Pred=>[.lst (l.map Pred.cells)]) (fun l=>(l.map Pred.sz).sum+1):=by
   cases n with
   |zero=>exact zyB
   |succ m=>exact zWH hb hs (by rw[ct];decide) (fun x=>by rw[ct];exact Pred.zzh x) (ih m (by omega))
  have hF:=zyP hb (n:=n) (fd:=⟨n0,to,0,e0,g0,p0,b0⟩) (off:=0) rfl co (fun _=>rfl) (zY9 hb ho) (zyP hb (fd:=⟨n1,tn,1,e1,g1,p1,b1⟩) rfl cn (fun _=>rfl) (zwV hb hn) (zyP hb (fd:=⟨n2,ti,2,e2,g2,p2,b2⟩) rfl ci (fun _=>rfl) (zY9 hb hi) (zyP hb (fd:=⟨n3,s,3,e3,g3,p3,b3⟩) rfl cs (fun _=>rfl) hk zKJ)));have h:=zqd hb ht (fun x=>by rw[ct];rfl) hF;refine zwg h (fun x=>Pred.mk x.1 x.2.1 x.2.2.1 x.2.2.2.1) (fun x=>?_) (fun x=>?_)
  ·rw[Pred.zzb];rfl
  ·show Pred.sz (Pred.mk x.1 x.2.1 x.2.2.1 x.2.2.2.1)≤_;simp only[Pred.sz,Pred.yJQ];exact Nat.le_refl _
theorem ReadsF.two{n off fs α β f sz g sz'}(h:ReadsF enc P w bulk all n fs off f sz)(φ:α→β)(hf:∀x,g (φ x)=f x)(hs:∀x,sz' (φ x)≤sz x):ReadsF enc P w bulk all n fs off g sz':=fun cs xs hr=>by obtain⟨x,h1,h2⟩:=h cs xs hr;exact⟨φ x,by rw[hf];exact h1,Nat.le_trans (hs x) h2⟩
theorem yQ3{G f args cargs}(hev:Ev P G f cargs (.one (.bool true)))(hg:GlobOk P G w (liveS w))(ha:RepCL w (liveS w) cargs args.toList):
  Calls P f args w fun e w'=>e=.returned (.bool true)∧Below w.heap.size w w':=by
 refine(hev.2 w (liveS w) args (fun b o h=>h) hg ha).mono fun e w' h=>?_;obtain⟨v,S',he,hr,hb,_⟩:=h;have:v=.bool true:=hr;subst this;exact⟨he,hb⟩
theorem yQ5{c v cs vs}(h:RepC w (liveS w) c v)(hs:RepCL w (liveS w) cs vs):RepCL w (liveS w) (c::cs) (v::vs):=⟨v,vs,rfl,h,hs⟩
theorem rep_one{α r b n t dsc v d ps}{f:α→D}{sz}(ht:P.underlying t=some dsc)(hd:dsc=.bool∨dsc=.string∨(∃k,dsc=.int k)∨∃e,dsc=.slice e)(hval:Value.okWide P w r b t v)
  (hr:ReadsAt enc P w bulk n t (fun x=>[f x]) sz) (h:DataW.trod enc P w 0 (fun _=>true) true n t v.cells.toList=some (d,ps)):∃x:α,RepC w (liveS w) (.one (f x)) v∧sz x≤bulk d:=by
 obtain⟨x,h1,h2⟩:=hr _ _ _ h;rw[yJ2 ht hd hval]at h1;obtain⟨v',r',e,h3,_⟩:=h1;cases e;exact⟨x,h3,h2⟩
theorem rep_agg{α r b n t fs v d ps f sz}(ht:P.underlying t=some (.struct fs))(hval:Value.okWide P w r b t v)
  (hr:ReadsAt enc P w bulk n t f sz) (h:DataW.trod enc P w 0 (fun _=>true) true n t v.cells.toList=some (d,ps)):∃x:α,RepC w (liveS w) (.agg (f x)) v∧sz x≤bulk d:=by
 obtain⟨x,h1,h2⟩:=hr _ _ _ h;obtain⟨cs,rfl,hc⟩:=yJ1 ht hval;rw[hc]at h1;exact⟨x,⟨cs,rfl,h1⟩,h2⟩
end Go.Abs
end
section
namespace Go.Abs
open Go.RowKit Go.ChangeShapes
variable{H:Type}{enc:TypeId×Value→H}{P:Program}{w:World}{bulk:DataW H→Nat}{all:List (DataW H)→Nat}
theorem zZj(hb:BulkOk bulk all){α0 α1 f0 s0 f1 s1 n t t0 t1 k0 o0 b0 k1 o1 b1 n0 g0 p0 n1 g1 p1 e0 e1}
  (ht:P.underlying t=some (.struct #[⟨n0,t0,o0,e0,g0,p0,b0⟩,⟨n1,t1,o1,e1,g1,p1,b1⟩]))
  (ct:P.cellsOf t=k0+k1) (c0:P.cellsOf t0=k0) (l0:∀x,(f0 x).length=k0) (h0:ReadsAt enc P w bulk n t0 f0 s0) (c1:P.cellsOf t1=k1) (l1:∀x,(f1 x).length=k1) (h1:ReadsAt enc P w bulk n t1 f1 s1) (q0:o0=0:=by rfl) (q1:o1=0+k0:=by rfl):
  ReadsAt enc P w bulk (n+1) t (fun x:α0×α1×Unit=>f0 (x.1)++(f1 (x.2.1)++[])) (fun x=>s0 (x.1)+(s1 (x.2.1)+0)+1):=by
 have hF:=zyP (enc:=enc) (w:=w) hb (n:=n) (fd:=⟨n0,t0,o0,e0,g0,p0,b0⟩) q0 c0 l0 h0 (zyP (enc:=enc) (w:=w) hb (n:=n) (fd:=⟨n1,t1,o1,e1,g1,p1,b1⟩) q1 c1 l1 h1 (zKJ (enc:=enc) (P:=P) (w:=w) (bulk:=bulk) (all:=all) (n:=n)));exact zqd hb ht (fun x=>by rw[ct];simp only[lA,lN,l0,l1];omega) hF
theorem zVt(hb:BulkOk bulk all){α0 α1 α2 f0 s0 f1 s1 f2 s2 n t t0 t1 t2 k0 o0 b0 k1 o1 b1 k2 o2 b2 n0 g0 p0 n1 g1 p1 n2 g2 p2 e0 e1 e2}
  (ht:P.underlying t=some (.struct #[⟨n0,t0,o0,e0,g0,p0,b0⟩,⟨n1,t1,o1,e1,g1,p1,b1⟩,⟨n2,t2,o2,e2,g2,p2,b2⟩]))
  (ct:P.cellsOf t=k0+k1+k2) (c0:P.cellsOf t0=k0) (l0:∀x,(f0 x).length=k0) (h0:ReadsAt enc P w bulk n t0 f0 s0) (c1:P.cellsOf t1=k1) (l1:∀x,(f1 x).length=k1) (h1:ReadsAt enc P w bulk n t1 f1 s1) (c2:P.cellsOf t2=k2) (l2:∀x,(f2 x).length=k2) (h2:ReadsAt enc P w bulk n t2 f2 s2) (q0:o0=0:=by rfl) (q1:o1=0+k0:=by rfl) (q2:o2=0+k0+k1:=by rfl):
  ReadsAt enc P w bulk (n+1) t (fun x:α0×α1×α2×Unit=>f0 (x.1)++(f1 (x.2.1)++(f2 (x.2.2.1)++[]))) (fun x=>s0 (x.1)+(s1 (x.2.1)+(s2 (x.2.2.1)+0))+1):=by
 have hF:=zyP (enc:=enc) (w:=w) hb (n:=n) (fd:=⟨n0,t0,o0,e0,g0,p0,b0⟩) q0 c0 l0 h0 (zyP (enc:=enc) (w:=w) hb (n:=n) (fd:=⟨n1,t1,o1,e1,g1,p1,b1⟩) q1 c1 l1 h1 (zyP (enc:=enc) (w:=w) hb (n:=n) (fd:=⟨n2,t2,o2,e2,g2,p2,b2⟩) q2 c2 l2 h2 (zKJ (enc:=enc) (P:=P) (w:=w) (bulk:=bulk) (all:=all) (n:=n))));exact zqd hb ht (fun x=>by rw[ct];simp only[lA,lN,l0,l1,l2];omega) hF
end Go.Abs
end
section
namespace Go.Abs
open Go.RowKit Go.Lib
variable{P:Program}{w:World}
theorem yXD{S b k}:∀{l:List Nat} {o},(∀j,j<l.length→S b (o+j)∧w.cell? ⟨b,o+j,none⟩=some (.int k (l.getD j 0:Nat)))→RepEs w S b o (l.map fun x=>[D.int k (x:Nat)])
 |[],_,_=>trivial
 |x::l,o,h=>by rw[mC,RepEs];refine⟨⟨⟨(h 0 (by simp)).1,_,(h 0 (by simp)).2,rfl⟩,trivial⟩,yXD fun j hj=>?_⟩;have:=h (j+1) (by simpa using hj);rw[show o+(j+1)=o+1+j by omega]at this;simpa using this
theorem yY4{S b k}:∀{l:List Nat} {o},RepEs w S b o (l.map fun x=>[D.int k (x:Nat)])→∀j,j<l.length→w.cell? ⟨b,o+j,none⟩=some (.int k (l.getD j 0:Nat))
 |[],_,_,j,hj=>by simp at hj
 |x::l,o,h,j,hj=>by
  rw[mC,RepEs]at h;obtain⟨⟨⟨_,v,hc,hv⟩,_⟩,h2⟩:=h;have hv:v=.int k (x:Nat):=hv;cases j with
  |zero=>rw[Nat.add_zero,hc,hv];rfl
  |succ j=>have:=yY4 (b:=b) (o:=o+1) h2 j (by simpa using hj);rw[show o+(j+1)=o+1+j by omega,this];simp
theorem zXI{name g t e k l}(hn:P.globalNamed name=some g)(hy:(P.globals[g]?).map (·.type)=some t)
  (ht:P.underlying t=some (.slice e)) (he:P.underlying e=some (.int k)) (hc:P.cellsOf e=1) (hl:0<l.length) (h:VarReads P w name (sliceData k l)):
  RepCs w (liveS w) g 0 [.lst (l.map fun x=>[.int k (x:Nat)])]∧∃(vs:Array Value) (e:TypeId) (fr:Nat×Nat),w.heap[g]? =some (.cells vs e fr)∧vs.size=1:=by
 obtain⟨R,o,c,h1,h2⟩:=tabSlice_of_reads hn hy ht he hc hl h;obtain⟨g',t',cs,fuel,p,hg,hty,hvar,hd⟩:=h;obtain rfl:=Option.some.inj (hn.symm.trans hg);obtain rfl:=Option.some.inj (hy.symm.trans hty);obtain⟨e',fr,hb⟩:=zXd hn hvar;rcases DataW.trod_slice ht hd with⟨_,hx⟩|⟨a,len,cap,el,rs,m,rfl,hcs,hx,_,hlc,hcm,hel,helem,hsp,_⟩
 ·cases hx
 have hcv:=World.var?_cell hn hvar 0;rw[←Array.getElem?_toList,hcs,h1]at hcv;simp only[List.getElem?_cons_zero,Option.some.injEq,Value.slice.injEq]at hcv;obtain⟨rfl,rfl,rfl⟩:=hcv;refine⟨⟨⟨⟨_,h1⟩,_,h1,⟨_,c,by rw[lM],by rw[lM];exact hlc,by unfold maxLen at hcm;omega,(fun h=>by cases h),fun a ha=>?_⟩⟩,trivial⟩,cs,e',fr,hb,?_⟩
 ·cases ha;refine⟨fun _=>rfl,⟨1,fun x hx=>?_⟩,yXD fun j hj=>⟨⟨_,h2 j hj⟩,h2 j hj⟩⟩;obtain⟨y,_,rfl⟩:=List.mem_map.1 hx;rfl
 ·have:=congrArg List.length hcs;simpa using this
theorem zXH{S g k l}(hl:0<l.length)(h:RepCs w S g 0 [.lst (l.map fun x=>[.int k (x:Nat)])]):TabSlice g k l w:=by
 obtain⟨⟨_,v,hc,hv⟩,_⟩:=h;obtain⟨base,cap,rfl,hcap,hmax,hnone,hcell⟩:∃(base:Option Addr) (cap:Nat),v=.slice base (l.map fun x=>[D.int k (x:Nat)]).length cap∧(l.map fun x=>[D.int k (x:Nat)]).length≤cap∧cap≤9223372036854775807∧(base=none→cap=0)∧∀a,base=some a→(cap≠0→a.spot=none)∧(∃sz,∀e∈(l.map fun x=>[D.int k (x:Nat)]),e.length=sz)∧RepEs w S a.block a.off (l.map fun x=>[D.int k (x:Nat)]):=hv;rw[lM]at hcap hc;cases base with
 |none=>have:=hnone rfl;omega
 |some a=>obtain⟨hsp,_,hes⟩:=hcell a rfl;obtain⟨bk,o,sp⟩:=a;obtain rfl:sp=none:=hsp (by omega);exact⟨bk,o,cap,hc,fun j hj=>yY4 hes j hj⟩
theorem zXj{S b k}:∀{zs:List Int} {o},RepCs w S b o (zs.map (D.int k))→∀j,j<zs.length→w.cell? ⟨b,o+j,none⟩=some (.int k (zs.getD j 0))
 |[],_,_,j,hj=>by simp at hj
 |z::zs,o,h,j,hj=>by
  rw[mC,RepCs]at h;obtain⟨⟨_,v,hc,hv⟩,h2⟩:=h;have hv:v=.int k z:=hv;cases j with
  |zero=>rw[Nat.add_zero,hc,hv];rfl
  |succ j=>have:=zXj (b:=b) (o:=o+1) h2 j (by simpa using hj);rw[show o+(j+1)=o+1+j by omega,this];simp
theorem yZf{b k}{zs:List Int}(h:∀j,j<zs.length→w.cell? ⟨b,j,none⟩=some (.int k (zs.getD j 0))):RepCs w (liveS w) b 0 (zs.map (D.int k)):=by
 have key:∀(zs:List Int) (o:Nat),(∀j,j<zs.length→w.cell? ⟨b,o+j,none⟩=some (.int k (zs.getD j 0)))→RepCs w (liveS w) b o (zs.map (D.int k)):=by
  intro zs;induction zs with
  |nil=>intro o _;trivial
  |cons z zs ih=>intro o h;have h0:=h 0 (by simp);rw[Nat.add_zero]at h0;refine⟨⟨⟨_,h0⟩,_,h0,rfl⟩,ih (o+1) fun j hj=>?_⟩;have:=h (j+1) (by simpa using hj);rw[show o+(j+1)=o+1+j by omega]at this;simpa using this
 exact key zs 0 fun j hj=>by rw[zA];exact h j hj
def accTab:List Int:=(List.range 16).flatMap fun i=>[(accLo i:Int),(accHi i:Int)]
theorem yxn:accTab.length=32:=by decide
theorem yYp:∀i,i<16→accTab.getD (2*i) 0=accLo i∧accTab.getD (2*i+1) 0=accHi i:=by decide
theorem yJW{g}(h:∀i,i<16→w.cell? ⟨g,2*i,none⟩=some (.int .u8 (accLo i))∧w.cell? ⟨g,2*i+1,none⟩=some (.int .u8 (accHi i))):RepCs w (liveS w) g 0 (accTab.map (D.int .u8)):=by
 refine yZf fun j hj=>?_;rw[yxn]at hj;have hi:=h (j/2) (by omega);have ha:=yYp (j/2) (by omega);rcases(by omega:j=2*(j/2)∨j=2*(j/2)+1)with e|e
 ·rw[e,ha.1];exact hi.1
 ·rw[e,ha.2];exact hi.2
theorem yW0{S g3 g4}(h3:RepCs w S g3 0 (firstTab.map (D.int .u8)))(h4:RepCs w S g4 0 (accTab.map (D.int .u8))):Utf8Tabs g3 g4 w:=by
 refine⟨fun c hc=>?_,fun i hi=>?_⟩
 ·have:=zXj h3 c (by simp[firstTab];exact hc);rw[zA]at this;rw[this];simp[firstTab,hc]
 ·have e0:=zXj h4 (2*i) (by rw[yxn];omega);have e1:=zXj h4 (2*i+1) (by rw[yxn];omega);rw[zA,(yYp i hi).1]at e0;rw[zA,(yYp i hi).2]at e1;exact⟨e0,e1⟩
end Go.Abs
end
section
namespace Go.Abs
open Go.RowKit Go.Lib
variable{P:Program}{w:World}
theorem zQR{name nm d g t ms}
  (hg:P.globalNamed name=some g) (hty:(P.globals[g]?).map (·.type)=some t) (ht:P.underlying t=some (.interface ms))
  (h:VarReads P w name (.iface nm d)):RepCs w (liveS w) g 0 [.anyI]∧∃(vs:Array Value) (e:TypeId) (fr:Nat×Nat),w.heap[g]? =some (.cells vs e fr)∧vs.size=1:=by
 obtain⟨g',t',cs,fuel,p,hg',ht',hvar,hd⟩:=h;obtain rfl:=Option.some.inj (hg.symm.trans hg');obtain rfl:=Option.some.inj (hty.symm.trans ht');obtain⟨_,u,v,hc,_,_⟩:=Go.iface_of_trod ht hd;obtain⟨e',fr,hb⟩:=zXd hg hvar;have hr:RepL w (liveS w) [.anyI] cs.toList:=by rw[hc];exact⟨_,_,rfl,⟨u,v,rfl⟩,rfl⟩
 have hcell:=World.var?_cell hg hvar;refine⟨RepCs.zkN hr fun j v hj=>?_,cs,e',fr,hb,by have:=RepL.length hr;simpa using this⟩;have hj':cs[j]? =some v:=by simpa using hj
 have:=hcell j;rw[hj']at this;rw[zA];exact⟨this,v,this⟩
theorem yYd{name ss g t e n}
  (hg:P.globalNamed name=some g) (hty:(P.globals[g]?).map (·.type)=some t) (ht:P.underlying t=some (.array n e)) (he:P.underlying e=some .string) (hce:P.cellsOf e=1) (hct:P.cellsOf t=n)
  (h:VarReads P w name (strsData ss)):RepCs w (liveS w) g 0 (ss.map D.str)∧∃(vs:Array Value) (e:TypeId) (fr:Nat×Nat),w.heap[g]? =some (.cells vs e fr)∧vs.size=(ss.map D.str).length:=by
 obtain⟨g',t',cs,fuel,p,hg',ht',hvar,hd⟩:=h;obtain rfl:=Option.some.inj (hg.symm.trans hg');obtain rfl:=Option.some.inj (hty.symm.trans ht');have hr:RepL w (liveS w) (ss.map D.str) cs.toList:=yvb ht he hce hct hd;obtain⟨e',fr,hb⟩:=zXd hg hvar;have hcell:=World.var?_cell hg hvar;refine⟨RepCs.zkN hr fun j v hj=>?_,cs,e',fr,hb,by have:=RepL.length hr;simpa using this⟩;have hj':cs[j]? =some v:=by simpa using hj
 have:=hcell j;rw[hj']at this;rw[zA];exact⟨this,v,this⟩
theorem yvc{name k zs g t e n}(hg:P.globalNamed name=some g)(hty:(P.globals[g]?).map (·.type)=some t)
  (ht:P.underlying t=some (.array n e)) (he:P.underlying e=some (.int k)) (hce:P.cellsOf e=1) (hct:P.cellsOf t=n) (h:VarReads P w name (tabData k zs)):
  RepCs w (liveS w) g 0 (zs.map (D.int k))∧∃(vs:Array Value) (e:TypeId) (fr:Nat×Nat),w.heap[g]? =some (.cells vs e fr)∧vs.size=(zs.map (D.int k)).length:=by
 obtain⟨g',t',cs,fuel,p,hg',ht',hvar,hd⟩:=h;obtain rfl:=Option.some.inj (hg.symm.trans hg');obtain rfl:=Option.some.inj (hty.symm.trans ht');have hcs:=cells_of_tab ht he hce hct hd;refine yV8 hg (name:=name) ?_;unfold TabIs;rw[hvar,←hcs]
theorem ywq{name g t s fs}(hg:P.globalNamed name=some g)(hty:(P.globals[g]?).map (·.type)=some t)
  (ht:P.underlying t=some (.array 16 s)) (hs:P.underlying s=some (.struct fs)) (hf:∀(i) (f:Field),fs[i]? =some f→P.underlying f.type=some (.int .u8)∧f.offset=i∧P.cellsOf f.type=1) (hc:P.cellsOf s=2) (hfs:fs.size=2) (hct:P.cellsOf t=32) (h:VarReads P w name acceptData):
  RepCs w (liveS w) g 0 (accTab.map (D.int .u8))∧∃(vs:Array Value) (e:TypeId) (fr:Nat×Nat),w.heap[g]? =some (.cells vs e fr)∧vs.size=(accTab.map (D.int .u8)).length:=by
 obtain⟨g',t',cs,fuel,p,hg',ht',hvar,hd⟩:=h;obtain rfl:=Option.some.inj (hg.symm.trans hg');obtain rfl:=Option.some.inj (hty.symm.trans ht');obtain⟨e',fr,hb⟩:=zXd hg hvar;have hlen:cs.size=32:=by
  cases fuel with
  |zero=>simp[DataW.trod]at hd
  |succ fuel=>
   simp only[DataW.trod,ht]at hd;split at hd
   ·rename_i h;rw[hct]at h;simpa using h
   ·cases hd
 refine⟨yJW fun i hi=>?_,cs,e',fr,hb,by rw[hlen,lM,yxn]⟩;obtain⟨fuel',d,q,hdi,he⟩:=array_elem ht hd i hi;simp only[List.getElem?_map,List.getElem?_range hi,Option.map_some,Option.some.injEq]at hdi;subst hdi;rw[hc]at he;have hcs:=ints_of_struct hs hf (by rw[hc,hfs]) he;have e0:=congrArg (·[0]?) hcs;have e1:=congrArg (·[1]?) hcs;simp only[List.getElem?_take,List.getElem?_drop]at e0 e1;constructor
 ·rw[World.var?_cell hg hvar (2*i),←Array.getElem?_toList];simpa[Nat.mul_comm]using e0
 ·rw[World.var?_cell hg hvar (2*i+1),←Array.getElem?_toList];simpa[Nat.mul_comm]using e1
end Go.Abs
end
section
namespace Go.Abs
open Go.RowKit Go.ChangeShapes
variable{H:Type}{enc:TypeId×Value→H}{P:Program}{w:World}{bulk:DataW H→Nat}{all:List (DataW H)→Nat}
theorem zKI(hb:BulkOk bulk all){n t}(ht:P.underlying t=some (.int .i64)):ReadsAt enc P w bulk n t (fun x:{n:Int//I64 n}=>[.int .i64 x.1]) (fun _=>1):=by
 intro cs d ps h;cases n with
 |zero=>cases h
 |succ n=>
  unfold DataW.trod at h;rw[ht]at h;split at h<;>(try (cases h;done))<;>rename_i h1<;>cases h1;rename_i k' m;split at h
  ·rename_i hk;obtain⟨rfl,hw⟩:=hk;refine⟨⟨m,?_⟩,⟨_,_,rfl,rfl,rfl⟩,hb.one _⟩;simp only[Lit.wf,Bool.and_eq_true,decide_eq_true_eq]at hw;have e1:IntKind.min .i64= -9223372036854775808:=by decide
   have e2:IntKind.max .i64=9223372036854775807:=by decide
   unfold I64;rw[e1,e2]at hw;exact hw
  ·cases h
abbrev FactW:={f:Fact//f.Wf}
def szF(f:FactW):Nat:=f.1.args.length
end Go.Abs
end
section
namespace Go.Abs.Seat
open Go Go.Abs Go.Proofs
def gr(t:Ty)(l:List Nat):List (Nat×Ty):=l.map fun i=>(i,t)
def tl0:List (Nat×Ty):=gr (.cell (0:Int)) [2,3,22,33,239,264]++(gr (.cell (.d (.bool false))) [4]++(gr (.cell (.d (.int .u8 0))) [5,6,310,311]++(gr (.agg [(0:Int),(0:Int),.d (.bool false),.d (.int .u8 0)] [(0,1,false),(1,1,false),(2,1,false),(3,1,false)]) [7,8]++(gr (.cell (.d (.str []))) [9,10,11,42]++(gr (.cell (.d (.int .u64 0))) [12,224,251,277]++(gr (.agg [.d .nilp] [(0,1,false)]) [18,19]++(gr (.cell (.d .nilI)) [20,156,157]++(gr (.cell (.d (.int .i32 0))) [21,313,314]++(gr (.slice 4 56 [(0:Int),.d (.str []),(0:Int),.full []]) [23])))))))))
def tl1:List (Nat×Ty):=gr (.agg [(0:Int),.d (.str []),(0:Int),.full []] [(0,1,false),(1,1,false),(2,1,false),(3,1,false)]) [24,25]++(gr (.slice 2 32 [.d (.str []),.d (.str [])]) [35]++(gr (.slice 3 56 [.d (.str []),.full [],.d (.str [])]) [36]++(gr (.slice 2 40 [.d (.str []),.full []]) [37]++(gr (.agg [.full [],.full [],.full []] [(0,1,false),(1,1,false),(2,1,false)]) [38,39]++(gr (.slice 2 32 [.full [],(0:Int)]) [47]++(gr (.agg [(0:Int),.d (.str []),(0:Int),.full [],.full []] [(0,4,true),(4,1,false)]) [48,49]++(gr (.slice 1 8 [(0:Int)]) [54]++(gr (.slice 3 40 [.full [],(0:Int),.d (.bool false)]) [57]++(gr (.slice 2 24 [.d (.str []),(0:Int)]) [60,67])))))))))
def tl2:List (Nat×Ty):=gr (.agg [.full [],(0:Int)] [(0,1,false),(1,1,false)]) [61,62]++(gr (.agg [.full [],(0:Int),.d (.bool false)] [(0,2,true),(2,1,false)]) [72,73]++(gr (.slice 3 48 [.d (.str []),.full [],(0:Int)]) [75]++(gr (.agg [.full [],.full []] [(0,1,false),(1,1,false)]) [76,77,186,187]++(gr (.slice 1 16 [.d (.str [])]) [97,103]++(gr (.map 9 3 (.str []) (.one (.int .i64 0))) [109]++(gr (.map 9 4 (.str []) (.one (.bool false))) [110]++(gr (.agg [.full [],.full [],.full [],.undef,.full [],.full [],.undef,.d (.bool false)] [(0,3,true),(3,1,false),(4,1,false),(5,1,false),(6,1,false),(7,1,false)]) [111,112]++(gr (.agg [.full [],.full [],.full [],.full [],.full [],.d (.bool false),.d (.bool false)] [(0,3,true),(3,1,false),(4,1,false),(5,1,false),(6,1,false)]) [116,117]++(gr (.agg [.d (.str []),(0:Int)] [(0,1,false),(1,1,false)]) [133,134])))))))))
def tl3:List (Nat×Ty):=gr (.agg [.d (.str []),.full [],(0:Int)] [(0,1,false),(1,1,false),(2,1,false)]) [139,140]++(gr (.agg [.d (.str []),.d (.str [])] [(0,1,false),(1,1,false)]) [145,146]++(gr (.agg [.d (.str []),.full [],.d (.str [])] [(0,1,false),(1,1,false),(2,1,false)]) [147,148]++(gr (.arr 13 1 false (List.replicate 13 (.d (.str [])))) [150]++(gr (.slice 1 1 [.d (.int .u8 0)]) [152]++(gr (.agg [.d .nilp,.full []] [(0,1,false),(1,1,false)]) [153,154]++(gr (.agg [.d .nilf,.d (.str [])] [(0,1,false),(1,1,false)]) [168,169]++(gr (.agg [.d (.str []),.full []] [(0,1,false),(1,1,false)]) [199,200]++(gr (.arr 24 1 false (List.replicate 24 (.d (.int .u8 0)))) [223]++(gr (.arr 20 1 false (List.replicate 20 (.d (.int .u64 0)))) [252])))))))))
def tl4:List (Nat×Ty):=gr (.cell (.d (.int .u32 0))) [253]++(gr (.arr 65 1 false (List.replicate 65 (.d (.int .u8 0)))) [254]++(gr (.arr 42 1 false (List.replicate 42 (.d (.str [])))) [256]++(gr (.agg [.d (.str []),.d (.str []),.d .nilI] [(0,1,false),(1,1,false),(2,1,false)]) [260,261]++(gr (.agg [.d (.str [])] [(0,1,false)]) [275,276]++(gr (.arr 32 1 false (List.replicate 32 (.d (.int .u8 0)))) [283]++(gr (.arr 64 1 false (List.replicate 64 (.d (.int .u8 0)))) [284]++(gr (.arr 256 1 false (List.replicate 256 (.d (.int .u8 0)))) [295]++(gr (.agg [.d (.int .u8 0),.d (.int .u8 0)] [(0,1,false),(1,1,false)]) [296,297]++(gr (.arr 16 2 true (List.replicate 32 (.d (.int .u8 0)))) [298])))))))))
def tl5:List (Nat×Ty):=gr (.cell (.d (.int .u16 0))) [299]++(gr (.slice 1 2 [.d (.int .u16 0)]) [300]++(gr (.slice 1 4 [.d (.int .u32 0)]) [302]++(gr (.agg [.d .nilp,.d .nilp,.d .nilp,.d (.str [])] [(0,1,false),(1,1,false),(2,1,false),(3,1,false)]) [304,305]++(gr (.arr 0 1 false []) [306]++(gr (.agg [.d (.int .u64 0),.d (.int .u64 0),.d (.int .u32 0),.d (.int .u8 0),.d (.int .u8 0),.d (.int .u8 0),.d (.int .u8 0),.d .nilf,.d .nilp,.d (.int .i32 0),.d (.int .i32 0)] [(0,1,false),(1,1,false),(2,1,false),(3,1,false),(4,1,false),(5,1,false),(6,1,false),(7,1,false),(8,1,false),(9,1,false),(10,1,false)]) [315,316]++(gr (.cell (.d .nilf)) [1,26,27,29,30,31,32,34,40,41,44,45,46,51,52,53,55,56,58,59,64,65,66,69,71,74,78,80,81,82,84,85,86,87,88,89,90,91,92,93,94,95,96,98,99,100,101,102,104,105,106,107,113,114,118,119,120,121,122,123,124,126,128,129,130,131,132,135,136,137,138,141,142,143,144,149,155,159,160,161,162,163,165,166,167,170,171,173,174,175,176,177,178,179,180,181,182,183,184,185,188,189,190,191,192,194,195,197,198,202,203,205,206,207,209,211,212,213,214,215,216,217,218,219,220,221,222,225,226,228,230,231,232,233,234,235,236,237,241,243,244,245,247,248,249,250,255,257,259,262,263,266,267,268,269,270,271,272,273,278,279,280,282,285,286,287,289,291,292,293,294,301,303,309,312]++(gr (.cell (.d .nilp)) [15,16,17,108,115,151,193,229,242,274,281,288])))))))
def tl:List (Nat×Ty):=tl0++(tl1++(tl2++(tl3++(tl4++(tl5)))))
theorem tl_ok:chkTL Tryz.prog tl=true:=by kernel_rfl
theorem mixed:Tryz.prog.follows .mixedOrders=true:=by kernel_rfl
theorem ev{f fn fa G args r}(hf:Tryz.prog.funcs[f]? =some fn)(htr:trFn (getTy tl) fn=some fa)(h:Body ⟨G,Ev Tryz.prog G,ItOk Tryz.prog G⟩ fa args r):Ev Tryz.prog G f args r:=yZm hf htr (fun _ _ _ h=>h) (fun _ _ _ h=>h) rfl (fun _ _ ht=>zqM tl_ok ht) mixed h
theorem yJT:trFn (getTy tl) Tryz.f131=some zv1:=by kernel_rfl
theorem yJS:trFn (getTy tl) Tryz.f130=some zwY:=by kernel_rfl
theorem tr_22:trFn (getTy tl) Tryz.f22=some zkH:=by kernel_rfl
theorem ev2{f fa G args r}(h0:Tryz.prog.funcs[f]?.bind (trFn (getTy tl))=some fa)(h:Body ⟨G,Ev Tryz.prog G,ItOk Tryz.prog G⟩ fa args r):Ev Tryz.prog G f args r:=by obtain⟨fn,hf,htr⟩:=Option.bind_eq_some_iff.1 h0;exact ev hf htr h
theorem sys(G):Sys ⟨G,Ev Tryz.prog G,ItOk Tryz.prog G⟩:=by constructor<;>exact fun _ _=>ev2 (by kernel_rfl)
def X(G:Nat→Option (List D)):AEnv:=⟨G,Ev Tryz.prog G,ItOk Tryz.prog G⟩
end Go.Abs.Seat
end
section
namespace Go.Proofs
open Go.Shelf
def Tryz.yku:Go.Shelf.Ren:=⟨fun|171=>52|243=>111|246=>167|283=>212|284=>213|285=>214|286=>215|129=>245|317=>244|318=>246|319=>247|320=>248|337=>267|338=>268|n=>n,fun|3=>3|9=>9|2=>2|4=>4|171=>223|0=>0|53=>224|37=>152|5=>5|173=>227|212=>252|51=>253|20=>20|213=>254|46=>251|232=>283|233=>284|n=>n,fun|17=>0|18=>5|19=>6|n=>n⟩
theorem Tryz.laysM171:Go.Proofs.LaysM.n171 Tryz.prog Tryz.yku:=by repeat' first|kernel_rfl|decide|exact fun _=>rfl|constructor
open Go.RowKit Go.Sort Go.Lib in
theorem Tryz.strconv_Itoa(n:Int)(h0: -9223372036854775808≤n)(h1:n≤9223372036854775807)(w:World)(htab:Lib.TabIs Tryz.prog w "internal/strconv.uint64pow10" .u64 Lib.pow10Tab):
  Calls Tryz.prog 52 #[.int .i64 n] w fun e w'=>e=.returned (.string ⟨(Lib.itoa n).toArray⟩)∧∃k os,w'=grow (w.drewN k) os:=Any.strconv_Itoa Tryz.laysM171 n h0 h1 w htab
end Go.Proofs
end
section
namespace Go.Abs.Seat
open Go Go.Abs Go.Proofs
theorem yQo{G}(hg:Tryz.prog.globalNamed "internal/strconv.uint64pow10"=some 0)(hlt:0<Tryz.prog.globals.size)(hen:Enters Tryz.prog strconv_Itoa)(hG:G 0=some (Lib.pow10Tab.map (D.int .u64))):ItoaP (X G):=by
 intro n hn;refine⟨hen,fun w S cargs hl hgl ha=>?_⟩;have htab:Lib.TabIs Tryz.prog w "internal/strconv.uint64pow10" .u64 Lib.pow10Tab:=yzI hg (hgl.1 0 _ hG) (hgl.2.2 0 _ hlt hG (by decide));obtain⟨v,r,h1,h2,h3⟩:=ha;simp only[RepCL]at h3;subst h3;have h2:v=.int .i64 n:=h2;subst h2;obtain rfl:cargs=#[.int .i64 n]:=by cases cargs;simp_all
 have hlen:=Lib.itoa_length_le n hn.1 hn.2;refine(Tryz.strconv_Itoa n hn.1 hn.2 w htab).mono ?_
 rintro e w' ⟨rfl,k,os,rfl⟩
 have hb:=Lib.below_grow w.heap.size w (Nat.le_refl _) k os;refine⟨_,S,rfl,⟨_,rfl,rfl,by show(Lib.itoa n).toArray.size≤_;rw[List.size_toArray];omega⟩,hb,fun _ _ h=>h,fun _ _ h=>.inl h,fun b o hs=>?_⟩;obtain⟨v,hv⟩:=hl b o hs;exact⟨v,(hb.cell (p:=⟨b,o,none⟩) (zyu hv)).trans hv⟩
end Go.Abs.Seat
end
section
namespace Go.Proofs
open Go.Shelf
def Tryz.ykt:Go.Shelf.Ren:=⟨fun|172=>154|244=>198|245=>199|247=>232|279=>233|280=>234|281=>235|282=>236|287=>254|316=>255|171=>52|205=>256|321=>274|322=>275|243=>111|246=>167|283=>212|284=>213|285=>214|286=>215|129=>245|317=>244|318=>246|319=>247|320=>248|337=>267|338=>268|n=>n,fun|9=>9|3=>3|75=>157|76=>158|4=>4|5=>5|167=>239|37=>152|0=>0|85=>240|2=>2|168=>242|53=>224|175=>258|46=>251|210=>261|127=>193|145=>276|143=>274|21=>21|171=>223|173=>227|212=>252|51=>253|20=>20|213=>254|232=>283|233=>284|80=>160|n=>n,fun|15=>3|16=>4|17=>0|18=>5|19=>6|n=>n⟩
theorem Tryz.laysC172:Go.Proofs.LaysC.n172 Tryz.prog Tryz.ykt:=by repeat' first|kernel_rfl|decide|exact fun _=>rfl|constructor
open Go.RowKit in
theorem Tryz.strconv_Atoi_ok(s:ByteArray)(hmax:s.size≤9223372036854775806)(v:Int)(h:Lib.atoiAll s.data.toList=.ok v)(w:World):
  Calls Tryz.prog 154 #[.string s] w fun e w'=>e=.returned (.tuple #[.int .i64 v,.nilIface])∧(w'=w∨∃t,w'=Lib.bytesWorld w 5 t):=Any.strconv_Atoi_ok Tryz.laysC172 s hmax v h w
open Go.RowKit in
theorem Tryz.strconv_Atoi_syntax(s:ByteArray)(hlim:s.size≤281474976710656)(e0:Lib.NumEnd Int)(h:Lib.atoiAll s.data.toList=e0)(h1:∀v,e0≠.ok v)(h2:e0≠.range)(ev:Value)(w:World)(hv:w.cell? ⟨3,0,none⟩=some ev)(hev:ev=.nilIface∨∃te pe,ev=.iface te pe):
  Calls Tryz.prog 154 #[.string s] w fun e w'=>∃N,e=.returned (.tuple #[.int .i64 (0),.iface 242 (.pointer (some ⟨N,0,none⟩))])∧w.heap.size≤N∧w'.heap[N]? =some (.cells #[.string ⟨#[65,116,111,105]⟩,.string s,ev] 261 (0,0))∧Below w.heap.size w w':=by
 cases e0 with
 |ok v=>exact absurd rfl (h1 v)
 |range=>exact absurd rfl h2
 |_=>exact Any.strconv_Atoi_syntax Tryz.laysC172 s hlim h ev w hv hev
open Go.RowKit in
theorem Tryz.strconv_Atoi_range(s:ByteArray)(hlim:s.size≤281474976710656)(h:Lib.atoiAll s.data.toList=.range)(ev:Value)(w:World)(hv:w.cell? ⟨4,0,none⟩=some ev)(hev:ev=.nilIface∨∃te pe,ev=.iface te pe):
  Calls Tryz.prog 154 #[.string s] w fun e w'=>∃N,e=.returned (.tuple #[.int .i64 (Lib.atoiSat s.data.toList),.iface 242 (.pointer (some ⟨N,0,none⟩))])∧w.heap.size≤N∧w'.heap[N]? =some (.cells #[.string ⟨#[65,116,111,105]⟩,.string s,ev] 261 (0,0))∧Below w.heap.size w w':=Any.strconv_Atoi_range Tryz.laysC172 s hlim h ev w hv hev
end Go.Proofs
end
section
namespace Go.Abs.Seat
open Go Go.Abs Go.Proofs Go.RowKit
theorem ykK:∀(a b) (n),Lib.parseUint10 n (a++b)=match Lib.parseUint10 n a with|.ok u=>Lib.parseUint10 u b|e=>e
 |[],b,n=>rfl
 |c::a,b,n=>by
  simp only[List.cons_append,Lib.parseUint10];split
  ·split
   ·rfl
   ·split
    ·rfl
    ·exact ykK a b _
  ·rfl
theorem yWm:∀m:Nat,m≤9223372036854775807→Lib.parseUint10 0 (Lib.decDigits m)=.ok m:=by
 intro m;induction m using Nat.strongRecOn with|_ m ih=>
 intro hm;by_cases h:m<10
 ·rw[dig1 h];have e:(UInt8.ofNat (48+m)).toNat=48+m:=by rw[UInt8.toNat_ofNat'];omega
  simp only[Lib.parseUint10,e];rw[if_pos (by omega),if_neg (by omega),if_neg (by omega)];congr 1;omega
 ·rw[dig2 h,ykK,ih (m/10) (by omega) (by omega)];have e:(UInt8.ofNat (48+m%10)).toNat=48+m%10:=by rw[UInt8.toNat_ofNat'];omega
  simp only[Lib.parseUint10,e];rw[if_pos (by omega),if_neg (by omega),if_neg (by omega)];congr 1;omega
theorem zJ1(m:Nat)(hm:m≤9223372036854775807):Lib.atoiAll (Lib.itoa (m:Int))=.ok (m:Int):=by
 rw[yxU];have h:=yWm m hm;have hne:Lib.decDigits m≠[]:=by
  by_cases h:m<10
  ·rw[dig1 h];simp
  ·rw[dig2 h];simp
 generalize Lib.decDigits m=l at h hne;cases l with
 |nil=>exact absurd rfl hne
 |cons c r=>
  have hc:48≤c.toNat∧c.toNat≤57:=by
   simp only[Lib.parseUint10]at h;split at h
   ·assumption
   ·cases h
  rw[Lib.atoiAll_plain c r (by omega) (by omega)];unfold Lib.parseMag;rw[if_neg (by simp),h];simp only[Lib.signless];rw[if_neg (by omega)]
theorem yjV{w S g}(h:RepCs w S g 0 [.anyI]):∃ev,w.cell? ⟨g,0,none⟩=some ev∧(ev=.nilIface∨∃te pe,ev=.iface te pe):=by obtain⟨l,hl,hc⟩:=RepCs.values h;obtain⟨v,r,rfl,⟨t,u,rfl⟩,_⟩:=hl;exact⟨_,(hc 0 _ rfl).1,.inr ⟨t,u,rfl⟩⟩
theorem yJ3{G}(h0:G 3=some [.anyI])(h1:G 4=some [.anyI])(hen:Enters Tryz.prog strconv_Atoi):AtoiP (X G):=by
 intro s hs;have key:∀(e:Bool) (n:Int),(∀(w:World) (S:Safe) (b:ByteArray),GlobOk Tryz.prog G w S→b.data.toList=s→b.size≤281474976710656→Calls Tryz.prog strconv_Atoi #[.string b] w fun e' w'=>(∃v,e'=.returned (.tuple #[.int .i64 n,v])∧(e=true→v=.nilIface)∧(e=false→∃t u,v=.iface t u))∧Below w.heap.size w w')→
   (X G).C strconv_Atoi [.one (.str s)] (.tup [.one (.int .i64 n),.one (if e then .nilI else .anyI)]):=by
  intro e n hk;refine⟨hen,fun w S cargs hl hgl ha=>?_⟩;obtain⟨v,r,e1,e2,e3⟩:=ha;simp only[RepCL]at e3;subst e3;obtain⟨b,rfl,hb,_⟩:∃b:ByteArray,v=.string b∧b.data.toList=s∧b.size≤9223372036854775807:=e2;obtain rfl:cargs=#[.string b]:=by cases cargs;simp_all
  have hsz:b.size≤281474976710656:=by
   have:b.size=s.length:=by rw[←hb,Array.length_toList];rfl
   omega
  refine(hk w S b hgl hb hsz).mono ?_
  rintro e' w' ⟨⟨v,rfl,hv1,hv2⟩,hb⟩
  refine⟨_,S,rfl,⟨_,rfl,?_⟩,hb,fun _ _ h=>h,fun _ _ h=>.inl h,fun b o hs=>?_⟩
  ·refine⟨_,_,rfl,rfl,_,_,rfl,?_,rfl⟩;cases e with
   |true=>exact hv1 rfl
   |false=>exact hv2 rfl
  ·obtain⟨v,hv⟩:=hl b o hs;exact⟨v,(hb.cell (p:=⟨b,o,none⟩) (zyu hv)).trans hv⟩
 cases h:Lib.atoiAll s with
 |ok v=>
  refine⟨v,true,Lib.atoiAll_bounds h,key true v fun w S b hg hb hsz=>?_,fun m hm he=>?_⟩
  ·refine(Tryz.strconv_Atoi_ok b (by omega) v (by rw[hb];exact h) w).mono ?_
   rintro e' w' ⟨rfl,hw⟩
   refine⟨⟨_,rfl,fun _=>rfl,fun h=>by cases h⟩,?_⟩;rcases hw with rfl|⟨t,rfl⟩
   ·exact Below.refl _ _
   ·exact Lib.bytesWorld_below _ _ _
  ·rw[he,zJ1 m (by omega)]at h;cases h;exact⟨rfl,rfl⟩
 |range=>
  refine⟨Lib.atoiSat s,false,Lib.atoiSat_bounds s,key false _ fun w S b hg hb hsz=>?_,fun m hm he=>?_⟩
  ·obtain⟨ev,hc,hi⟩:=yjV (hg.1 4 _ h1);refine(Tryz.strconv_Atoi_range b hsz (by rw[hb];exact h) ev w hc hi).mono ?_
   rintro e' w' ⟨N,rfl,_,_,hb'⟩
   rw[hb];exact⟨⟨_,rfl,⟨(fun h=>by cases h),fun _=>⟨_,_,rfl⟩⟩⟩,hb'⟩
  ·rw[he,zJ1 m (by omega)]at h;cases h
 |_=>
  refine⟨0,false,⟨by omega,by omega⟩,key false 0 fun w S b hg hb hsz=>?_,fun m hm he=>?_⟩
  ·obtain⟨ev,hc,hi⟩:=yjV (hg.1 3 _ h0);refine(Tryz.strconv_Atoi_syntax b hsz (Lib.atoiAll s) (by rw[hb]) (fun v hv=>by rw[h]at hv;cases hv) (fun hv=>by rw[h]at hv;cases hv) ev w hc hi).mono ?_
   rintro e' w' ⟨N,rfl,_,_,hb⟩
   exact⟨⟨_,rfl,⟨(fun h=>by cases h),fun _=>⟨_,_,rfl⟩⟩⟩,hb⟩
  ·rw[he,zJ1 m (by omega)]at h;cases h
end Go.Abs.Seat
end
section
namespace Go.Proofs
open Go.Shelf
def Tryz.yv5:Go.Shelf.Ren:=⟨fun|190=>210|125=>243|258=>242|128=>266|129=>245|302=>257|303=>258|304=>259|305=>260|306=>261|307=>262|308=>263|309=>264|310=>265|333=>276|329=>277|330=>278|334=>279|335=>280|336=>281|344=>285|n=>n,fun|31=>97|9=>9|3=>3|46=>251|0=>0|51=>253|53=>224|4=>4|183=>265|182=>264|131=>70|5=>5|218=>277|222=>281|228=>288|229=>172|n=>n,fun|n=>n⟩
theorem Tryz.lays190:Go.Proofs.Lays.n190 Tryz.prog Tryz.yv5:=by repeat' first|kernel_rfl|decide|exact fun _=>rfl|constructor
open Go.Sort Go.RowKit in
theorem Tryz.slices_Sort_string(blk off cap:Nat)(ss:List (List UInt8))(w:World)(hH:Holds encStr w blk off ss.toArray)(hblk:blk<w.heap.size)(hsz:ss.length<4611686018427387904):
  Calls Tryz.prog 210 #[.slice (some ⟨blk,off,none⟩) ss.length cap] w fun e w'=>
   e=.returned (.tuple #[])∧∃n os,w'=grow (putRow encStr (Sort.ahead w n) blk off (ss.mergeSort fun x y=>decide (x≤y)).toArray) os:=Any.slices_Sort_string Tryz.lays190 blk off cap ss w hH hblk hsz
def Tryz.yv6:Go.Shelf.Ren:=⟨fun|194=>211|n=>n,fun|31=>97|9=>9|3=>3|4=>4|0=>0|n=>n,fun|n=>n⟩
theorem Tryz.lays194:Go.Proofs.Lays.n194 Tryz.prog Tryz.yv6:=by repeat' first|kernel_rfl|decide|exact fun _=>rfl|constructor
open Go.RowKit Go.Lib Go.Sort in
theorem Tryz.slices_Compact_string(blk off cap:Nat)(zs:List (List UInt8))(w:World)(hH:Holds encStr w blk off zs.toArray)(hsz:zs.length≤9223372036854775807)(hcap:zs.length≤cap):
  Calls Tryz.prog 211 #[.slice (some ⟨blk,off,none⟩) zs.length cap] w fun e w'=>e=.returned (.slice (some ⟨blk,off,none⟩) (Lib.compact zs).length cap)∧∃q,w'=putRow encStr (Sort.ahead w q) blk off (Lib.compact zs++List.replicate (zs.length-(Lib.compact zs).length) []).toArray:=Any.slices_Compact_string Tryz.lays194 blk off cap zs w hH hsz hcap
end Go.Proofs
end
section
namespace Go.Abs.Seat
open Go Go.Abs Go.Proofs
theorem yJg(G):UnionLaw (X G):=fun a b h=>
 (EvOwn.plain (yJf (P:=Tryz.prog) (T:=getTy tl) (eb:=16) (cd:=Tryz.f164.body.getD .ret) Tryz.func164 (by kernel_rfl) (by kernel_rfl)
  (show(segs (Tryz.f164.body.getD .ret)).map (fun l=>l.map fun p=>p.2.toList.map opc)=some (unionOps 97 210 211) by kernel_rfl) (by kernel_rfl) (by kernel_rfl) (fun _ _ ht=>zqM tl_ok ht) (zqM tl_ok (show getTy tl 97=some (.slice 1 16 [.d (.str [])]) by kernel_rfl)) (by decide)
  ⟨Tryz.f210,Tryz.func210,by kernel_rfl,by kernel_rfl⟩ ⟨Tryz.f211,Tryz.func211,by kernel_rfl,by kernel_rfl⟩
  (fun blk off cap ss w h1 h2 h3=>Tryz.slices_Sort_string blk off cap ss w h1 h2 h3) (fun blk off cap zs w h1 h2 h3=>Tryz.slices_Compact_string blk off cap zs w h1 h2 h3) a b h))
end Go.Abs.Seat
end
section
namespace Go.Proofs
open Go.Shelf
def Tryz.zQV:Go.Shelf.Ren:=⟨fun|156=>55|165=>113|166=>114|169=>115|240=>168|241=>169|276=>216|277=>217|n=>n,fun|31=>97|9=>9|3=>3|4=>4|0=>0|20=>20|72=>154|76=>158|70=>151|37=>152|75=>157|127=>193|164=>229|5=>5|80=>160|n=>n,fun|n=>n⟩
theorem Tryz.lays156:Go.Proofs.Lays.n156 Tryz.prog Tryz.zQV:=by repeat' first|kernel_rfl|decide|exact fun _=>rfl|constructor
theorem Tryz.zwk:Builder.Extra Tryz.prog Tryz.zQV:=by repeat' first|kernel_rfl|decide|exact fun _=>rfl|constructor
open Go.RowKit in
theorem Tryz.strings_Join_none(a:Option Addr)(c:Nat)(sep:ByteArray)(w:World):
  Calls Tryz.prog 55 #[.slice a 0 c,.string sep] w fun e w'=>e=.returned (.string ⟨#[]⟩)∧w'=w:=Any.strings_Join_none Tryz.lays156 Tryz.zwk a c sep w
open Go.RowKit in
theorem Tryz.strings_Join(bk o c:Nat)(xs:List ByteArray)(sep:ByteArray)(w:World)(hcells:∀(j:Nat) x,xs[j]? =some x→w.cell? ⟨bk,o+j,none⟩=some (.string x))(hbk:bk<w.heap.size)(hN:xs.length≤140737488355328)(hcap:xs.length≤c)(hlen:(Lib.join (xs.map (·.data.toList)) sep.data.toList).length≤140737488355328):
  Calls Tryz.prog 55 #[.slice (some ⟨bk,o,none⟩) xs.length c,.string sep] w fun e w'=>e=.returned (.string ⟨(Lib.join (xs.map (·.data.toList)) sep.data.toList).toArray⟩)∧Below w.heap.size w w':=Any.strings_Join Tryz.lays156 Tryz.zwk bk o c xs sep w hcells hbk hN hcap hlen
end Go.Proofs
end
section
namespace Go.Abs.Seat
open Go Go.Abs Go.Proofs Go.RowKit
theorem ba_eq{y:ByteArray}{s}(h:y.data.toList=s):y=⟨s.toArray⟩:=by subst h;cases y with|mk d=>simp
theorem yxc{w S}:∀{ss:List (List UInt8)} {b o},RepEs w S b o (ss.map fun s=>[D.str s])→∀(j) (x),(ss.map fun s=>(⟨s.toArray⟩:ByteArray))[j]? =some x→w.cell? ⟨b,o+j,none⟩=some (.string x)
 |[],_,_,_,j,x,h=>by simp at h
 |s::ss,b,o,h0,j,x,h=>by
  rw[mC,RepEs]at h0;obtain⟨h1,h2⟩:=h0;obtain⟨⟨_,v,hc,hv⟩,_⟩:=h1;cases j with
  |zero=>obtain⟨y,rfl,hy,_⟩:∃y:ByteArray,v=.string y∧y.data.toList=s∧y.size≤9223372036854775807:=hv;simp only[mC,List.getElem?_cons_zero,Option.some.injEq]at h;rw[Nat.add_zero,hc,ba_eq hy,h]
  |succ j=>have:=yxc (b:=b) (o:=o+1) h2 j x (by simpa using h);rw[show o+(j+1)=o+1+j by omega];exact this
theorem yQq{G}(hen:Enters Tryz.prog strings_Join):JoinP (X G):=by
 intro l sep hl hj;refine⟨hen,fun w S cargs hlive hgl ha=>?_⟩;obtain⟨va,r,e1,h1,vb,r2,rfl,h2,e3⟩:=ha;simp only[RepCL]at e3;subst e3;obtain rfl:cargs=#[va,vb]:=by cases cargs;simp_all
 obtain⟨sb,rfl,hsb,_⟩:∃b:ByteArray,vb=.string b∧b.data.toList=sep∧b.size≤9223372036854775807:=h2;obtain⟨base,cap,rfl,hcap,hmax,hnone,hcell⟩:∃(base:Option Addr) (cap:Nat),va=.slice base (l.map fun k=>[D.str k]).length cap∧(l.map fun k=>[D.str k]).length≤cap∧cap≤9223372036854775807∧(base=none→cap=0)∧∀a,base=some a→(cap≠0→a.spot=none)∧(∃sz,∀e∈(l.map fun k=>[D.str k]),e.length=sz)∧RepEs w S a.block a.off (l.map fun k=>[D.str k]):=h1;rw[lM]at hcap⊢;have fin:∀(e:Ending) (w':World),e=.returned (.string ⟨(Lib.join l sep).toArray⟩)∧Below w.heap.size w w'→∃v S',e=.returned v∧RepC w' S' (.one (.str (Lib.join l sep))) v∧Below w.heap.size w w'∧(∀b o,S b o→S' b o)∧(∀b o,S' b o→S b o∨w.heap.size≤b)∧Live w' S':=by
  rintro e w' ⟨rfl,hb⟩
  refine⟨_,S,rfl,⟨_,rfl,rfl,by show(Lib.join l sep).toArray.size≤_;rw[List.size_toArray];omega⟩,hb,fun _ _ h=>h,fun _ _ h=>.inl h,fun b o hs=>?_⟩;obtain⟨v,hv⟩:=hlive b o hs;exact⟨v,(hb.cell (p:=⟨b,o,none⟩) (zyu hv)).trans hv⟩
 cases l with
 |nil=>
  refine(Tryz.strings_Join_none base cap sb w).mono ?_
  rintro e w' ⟨rfl,rfl⟩
  exact fin _ _ ⟨rfl,Below.refl _ _⟩
 |cons s l=>
  have hc0:cap≠0:=by rw[lC]at hcap;omega
  cases base with
  |none=>exact absurd (hnone rfl) hc0
  |some a=>
   obtain⟨hsp,_,hes⟩:=hcell a rfl;obtain⟨bk,o,sp⟩:=a;obtain rfl:sp=none:=hsp hc0;have hcs:=yxc hes;have h0:=hcs 0 ⟨s.toArray⟩ (by simp);have hm:((s::l).map fun s=>(⟨s.toArray⟩:ByteArray)).map (·.data.toList)=s::l:=by
    rw[List.map_map];conv=>rhs;rw[←List.map_id (s::l)]
    exact List.map_congr_left fun x _=>by simp
   have key:=Tryz.strings_Join bk o cap ((s::l).map fun s=>(⟨s.toArray⟩:ByteArray)) sb w hcs (zyu h0) (by rw[lM];omega) (by rw[lM];exact hcap) (by rw[hm,hsb];exact hj);rw[hm,hsb,lM]at key;exact key.mono fin
end Go.Abs.Seat
end
section
namespace Go.Proofs
open Go.RowKit Go.Shelf
def coefZ(q:ByteArray→ByteArray)(x:ByteArray×Int):List UInt8:=Lib.itoa x.2++32::((q x.1).data.toList++[32])
theorem zjW{B b bs w w'}(h:Lib.IsBuilder 154 5 B b bs w)(hb:Below w.heap.size w w'):Lib.IsBuilder 154 5 B b bs w':=by
 have key:∀p,Lib.BuilderAt 154 5 B b p bs w→Lib.BuilderAt 154 5 B b p bs w':=fun p h=>by
  obtain⟨hB,v,h1,h2,h3⟩:=h;have hlt:b<w.heap.size:=by
   rcases Nat.lt_or_ge b w.heap.size with h|h
   ·exact h
   ·rw[Array.getElem?_eq_none h]at h1;cases h1
  refine⟨hB,v,by rw[hb.block b hlt];exact h1,?_,h3⟩;exact h2.kept (row:=none) ⟨hb.os,hb.tape,hb.output,hb.size,fun k hk _=>hb.block k hk⟩ (by cases v.ownBlock<;>simp)
 exact h.imp (key _) (key _)
set_option maxHeartbeats 4000000 in
theorem Tryz.yJb(a)(c)(xs:List (ByteArray×Int))(k0)(q)(w)(hn:xs.length≤24)(hI:∀n:Int,n=k0∨(∃x∈xs,n=x.2)→(Lib.itoa n).length≤24)(hQ:∀x∈xs,(q x.1).size≤5000)
  (hcells:∀(j) x,xs[j]? =some x→∃bk o,a=some ⟨bk,o,none⟩∧w.cell? ⟨bk,o+j*2,none⟩=some (.string x.1)∧w.cell? ⟨bk,o+j*2+1,none⟩=some (.int .i64 x.2))
  (CI:∀(n) (W),Below w.heap.size w W→(n=k0∨∃x∈xs,n=x.2)→Calls Tryz.prog 52 #[.int .i64 n] W fun e w'=>e=.returned (.string ⟨(Lib.itoa n).toArray⟩)∧Below W.heap.size W w')
  (CQ:∀(s) (W),Below w.heap.size w W→(∃x∈xs,s=x.1)→Calls Tryz.prog 253 #[.string s] W fun e w'=>e=.returned (.string (q s))∧Below W.heap.size W w'):
  Calls Tryz.prog 231 #[.agg #[.slice a xs.length c,.int .i64 k0]] w fun e w'=>e=.returned (.string ⟨(xs.flatMap (coefZ q)++Lib.itoa k0).toArray⟩)∧Below w.heap.size w w':=by
 have HE:∀ys:List (ByteArray×Int),(∀y∈ys,y∈xs)→(ys.flatMap (coefZ q)).length≤ys.length*5026:=by
  intro ys;induction ys with
  |nil=>intro _;simp
  |cons y ys ih=>intro hy;have h1:=hI y.2 (.inr ⟨y,hy y (by simp),rfl⟩);have h2:=hQ y (hy y (by simp));have h3:=ih fun z hz=>hy z (by simp[hz]);have h4:(q y.1).data.toList.length=(q y.1).size:=Array.length_toList;simp only[List.flatMap_cons,coefZ,List.length_append,List.length_cons,List.length_nil,h4];omega
 have HEH:=Any.hidU HE;clear HE;have HCL:=Any.hidU hcells;have HCI:=Any.hidU CI;have HCQ:=Any.hidU CQ;clear hcells CI CQ;have b0:Below (w.heap.size+1) (w.alloc (.cells #[.slice a xs.length c,.int .i64 k0] 62)) ((w.alloc (.cells #[.slice a xs.length c,.int .i64 k0] 62)).alloc (.cells #[.pointer none,.slice none 0 0] 154)):=(Below.refl _ _).alloc (by simp) _;have h0:Lib.IsBuilder 154 5 (w.heap.size+1) (w.heap.size+1) [] ((w.alloc (.cells #[.slice a xs.length c,.int .i64 k0] 62)).alloc (.cells #[.pointer none,.slice none 0 0] 154)):=by have:=Lib.fresh_isBuilder 154 5 (w.alloc (.cells #[.slice a xs.length c,.int .i64 k0] 62));simpa using this
 have HB0:=Any.hidU b0;have H0:=Any.hidU h0;clear b0 h0
 go_enter Tryz.func231,Tryz.ntmps231
 go_wp2_with fail
 go_loopw [9] (fun i wr=>∃k:Nat,k≤xs.length∧i=.int .i64 k∧Hid (Lib.IsBuilder 154 5 (w.heap.size+1) (w.heap.size+1) (Lib.byteCells ((xs.take k).flatMap (coefZ q))) wr)∧Hid (Below (w.heap.size+1) (w.alloc (.cells #[.slice a xs.length c,.int .i64 k0] 62)) wr)) (fun i _=>xs.length-(intOf i).toNat)
 case atStart=>exact⟨0,Nat.zero_le _,rfl,H0,HB0⟩
 case round=>
  obtain⟨k,hk,rfl,HB,HW⟩:=hrel;by_cases hkn:k<xs.length
  ·obtain⟨x,hx⟩:∃x,xs[k]? =some x:=⟨xs[k],List.getElem?_eq_getElem hkn⟩;obtain⟨bk,o,rfl,hc1,hc2⟩:=HCL.out k x hx;have hlt:=World.block_lt_of_cell? _ _ hc1;have hdown:∀i,wr.cell? ⟨bk,i,none⟩=w.cell? ⟨bk,i,none⟩:=fun i=>by rw[HW.out.cell (p:=⟨bk,i,none⟩) (show bk<w.heap.size+1 from Nat.lt_succ_of_lt hlt)];exact World.cell?_alloc_past (w:=w) (hn:=hlt) ..
   have hc1':wr.cell? ⟨bk,o+k*2,none⟩=some (.string x.1):=by rw[hdown];exact hc1
   have hc2':wr.cell? ⟨bk,o+k*2+1,none⟩=some (.int .i64 x.2):=by rw[hdown];exact hc2
   clear hdown;have hxm:x∈xs:=List.mem_of_getElem? hx;have hsI:(⟨(Lib.itoa x.2).toArray⟩:ByteArray).size≤24:=by have:=hI x.2 (.inr ⟨x,hxm,rfl⟩);show(Lib.itoa x.2).toArray.size≤24;simpa using this
   have hlI:(Lib.itoa x.2).length≤24:=hI x.2 (.inr ⟨x,hxm,rfl⟩);have hsQ:(q x.1).size≤5000:=hQ x hxm;have hBwr:w.heap.size+1≤wr.heap.size:=by have:=HW.out.size;simpa using this
   have hA2:Below w.heap.size w wr:=((Below.refl w.heap.size w).alloc (Nat.le_refl _) (.cells #[.slice (some ⟨bk,o,none⟩) xs.length c,.int .i64 k0] 62)).trans (HW.out.mono (Nat.le_succ _));have HWA:=Any.hidU ((hA2.alloc (Nat.le_of_succ_le hBwr) (.cells #[.string x.1,.int .i64 x.2] 134)).drew);have HZA:=Any.hidU ((HW.out.alloc hBwr (.cells #[.string x.1,.int .i64 x.2] 134)).drew);have HSA:=Any.hidU (zjW HB.out (((Below.refl wr.heap.size wr).alloc (Nat.le_refl _) (.cells #[.string x.1,.int .i64 x.2] 134)).drew));have HEk:=HEH.out (xs.take k) fun y hy=>List.mem_of_mem_take hy;have hlk:((xs.take k).flatMap (coefZ q)).length≤200000:=by
    have:(xs.take k).length≤24:=by rw[List.length_take];omega
    have:=Nat.mul_le_mul_right 5026 this;omega
   have Hlk:=Any.hidU hlk;have Hn:∀s:ByteArray,s.data.toList=coefZ q x→Lib.byteCells ((xs.take k).flatMap (coefZ q))++Lib.strCells s=Lib.byteCells ((xs.take (k+1)).flatMap (coefZ q)):=fun s hs=>by rw[List.take_add_one,hx,Lib.strCells_eq,hs,←Lib.byteCells_append];simp[List.flatMap_append]
   have HN:=Any.hidU Hn;have Hxm:=Any.hidU hxm;have HBwr:=Any.hidU hBwr;have hC4:∀W:World,Lib.IsBuilder 154 5 (w.heap.size+1) (w.heap.size+1) (Lib.byteCells ((xs.take k).flatMap (coefZ q))) W→w.heap.size+1≤W.heap.size→
     Calls Tryz.prog 114 #[.pointer (some ⟨w.heap.size+1,0,none⟩),.string (⟨(Lib.itoa x.2).toArray⟩++⟨#[32]⟩++q x.1++⟨#[32]⟩)] W fun e w'=>e=.returned (.tuple #[.int .i64 (⟨(Lib.itoa x.2).toArray⟩++⟨#[32]⟩++q x.1++⟨#[32]⟩:ByteArray).size,.nilIface])∧Lib.IsBuilder 154 5 (w.heap.size+1) (w.heap.size+1) (Lib.byteCells ((xs.take (k+1)).flatMap (coefZ q))) w'∧Below (w.heap.size+1) W w':=fun W h1 h2=>by
    refine(Any.Builder_WriteString {Tryz.lays156 with} Tryz.zwk (w.heap.size+1) (w.heap.size+1) _ _ W h1 ?_ h2).mono ?_
    ·rw[Lib.byteCells_length];have e1:(⟨#[32]⟩:ByteArray).size=1:=rfl;rw[ByteArray.size_append,ByteArray.size_append,ByteArray.size_append,e1];omega
    ·rintro e w' ⟨rfl,h3,h4⟩
     rw[Hn _ (by simp[coefZ])]at h3;exact⟨rfl,Or.inr h3,h4⟩
   have HC4:=Any.hidU hC4;clear hC4;clear hA2 HEk hlk Hn hxm hBwr
   go_wp2_with fail
   go_region_with (first
    |(go_at_call 52
      refine(HCI.out x.2 _ HWA.out (.inr ⟨x,Hxm.out,rfl⟩)).mono ?_
      rintro e W2 ⟨rfl,hb2⟩
      have hcN:W2.cell? ⟨wr.heap.size,0,none⟩=some (.string x.1):=(hb2.cell (p:=⟨wr.heap.size,0,none⟩) (by simp)).trans (by simp);have HW2:=Any.hidU (HWA.out.trans (hb2.mono (by have:=HBwr.out;simp;omega)));have HZ2:=Any.hidU (HZA.out.trans (hb2.mono (by have:=HBwr.out;simp;omega)));have HS2:=Any.hidU (zjW HSA.out hb2);clear hb2)
    |(go_at_call 253
      refine(HCQ.out x.1 _ HW2.out ⟨x,Hxm.out,rfl⟩).mono ?_
      rintro e W3 ⟨rfl,hb3⟩
      have HZ3:=Any.hidU (HZ2.out.trans (hb3.mono (by have:=HZ2.out.size;simpa using this)));have HS3:=Any.hidU (zjW HS2.out hb3);clear hb3)
    |(go_at_call 114
      refine(HC4.out W3 HS3.out (by have:=HZ3.out.size;simpa using this)).mono ?_
      rintro e W4 ⟨rfl,h4,hb4⟩
      have H4:=Any.hidU h4;have HZ4:=Any.hidU (HZ3.out.trans hb4);clear h4 hb4))
   all_goals (
    go_wp2;exact⟨⟨k+1,by omega,by go_num,H4,HZ4⟩,by simp[intOf];omega⟩)
  ·have hke:k=xs.length:=by omega
   subst hke;have hfull:xs.take xs.length=xs:=List.take_of_length_le (Nat.le_refl _);rw[hfull]at HB;have hBwr:w.heap.size+1≤wr.heap.size:=by have:=HW.out.size;simpa using this
   have hA2:Below w.heap.size w wr:=((Below.refl w.heap.size w).alloc (Nat.le_refl _) (.cells #[.slice a xs.length c,.int .i64 k0] 62)).trans (HW.out.mono (Nat.le_succ _));have hck:∀W,Below (w.heap.size+1) wr W→W.cell? ⟨w.heap.size,1,none⟩=some (.int .i64 k0):=fun W h=>by rw[h.cell (p:=⟨w.heap.size,1,none⟩) (Nat.lt_succ_self _),HW.out.cell (p:=⟨w.heap.size,1,none⟩) (Nat.lt_succ_self _)];simp
   have hc1:=hck wr.drew ((Below.refl _ wr).drew);have hlI:(Lib.itoa k0).length≤24:=hI k0 (.inl rfl);have hxl:(xs.flatMap (coefZ q)).length≤200000:=by have:=HEH.out xs fun y hy=>hy;have:=Nat.mul_le_mul_right 5026 hn;omega
   obtain⟨L,hL⟩:∃L,xs.flatMap (coefZ q)=L:=⟨_,rfl⟩;rw[hL]at HB hxl;have HL:=Any.hidU hL;clear hL;have Hck:=Any.hidU hck;have HA2:=Any.hidU hA2;have HBwr:=Any.hidU hBwr;clear hck hA2 hBwr hfull
   go_wp2_with fail
   go_region_with (first
    |(go_at_call 115
      refine(Any.Builder_String_any {Tryz.lays156 with} Tryz.zwk (w.heap.size+1) (w.heap.size+1) _ _ (zjW HB.out ((Below.refl _ wr).drew)) HBwr.out).mono ?_
      rintro e W2 ⟨rfl,hb2⟩
      have hc2:=Hck.out W2 (((Below.refl _ wr).drew).trans hb2);have HW2:=Any.hidU (HA2.out.drew.trans (hb2.mono (Nat.le_succ _)));clear hb2)
    |(go_at_call 52
      refine(HCI.out k0 _ HW2.out (.inl rfl)).mono ?_
      rintro e W3 ⟨rfl,hb3⟩
      have HW3:=Any.hidU (HW2.out.trans (hb3.mono HW2.out.size));clear hb3))
   all_goals (
    go_wp2
    go_ret
    refine⟨?_,HW3.out⟩;rw[HL.out];show Ending.returned (Value.string _)=Ending.returned (Value.string _);congr 2)
end Go.Proofs
end
section
namespace Go.Proofs
open Go.Shelf
def Tryz.yv4:Go.Shelf.Ren:=⟨fun|177=>253|250=>273|289=>284|197=>286|323=>287|260=>288|339=>289|340=>290|242=>291|119=>292|345=>293|346=>294|278=>295|n=>n,fun|9=>9|5=>5|4=>4|3=>3|37=>152|21=>21|105=>290|46=>251|119=>295|0=>0|139=>298|138=>297|49=>299|234=>300|131=>70|51=>253|236=>302|n=>n,fun|3=>7|4=>8|20=>9|21=>10|22=>11|23=>12|24=>13|n=>n⟩
theorem Tryz.lays177:Go.Proofs.Lays.n177 Tryz.prog Tryz.yv4:=by repeat' first|kernel_rfl|decide|exact fun _=>rfl|constructor
open Go.RowKit in
theorem Tryz.strconv_Quote(T:Lib.PrintTabs)(s:ByteArray)(w:World)(hlen:10*s.size+12≤140737488355328)(hT:Lib.PrintTabsAt 9 10 11 12 T w)(hU:Lib.Utf8Tabs 7 8 w):
  Calls Tryz.prog 253 #[.string s] w fun e w'=>e=.returned (.string (strOfNums (Lib.quoteZ T s)))∧Below w.heap.size w w':=Any.strconv_Quote Tryz.lays177 (by kernel_rfl) T s w hlen hT hU
end Go.Proofs
end
section
namespace Go.Abs.Seat
open Go Go.Abs Go.Proofs Go.RowKit
def quoB(s:ByteArray):ByteArray:=strOfNums (Lib.quoteZ Lib.goPrintTabs s)
def txtQ(a:Lin):Str:=(a.coefs.map fun c=>((⟨c.name.toArray⟩:ByteArray),c.n)).flatMap (coefZ quoB)++Lib.itoa a.c
structure TabsG(G:Nat→Option (List D)):Prop where
 g0:G 0=some (Lib.pow10Tab.map (D.int .u64))
 g7:G 7=some (Lib.firstTab.map (D.int .u8))
 g8:G 8=some (accTab.map (D.int .u8))
 g9:G 9=some [.lst (Lib.goPrintTabs.p16.map fun x=>[.int .u16 (x:Nat)])]
 g10:G 10=some [.lst (Lib.goPrintTabs.n16.map fun x=>[.int .u16 (x:Nat)])]
 g11:G 11=some [.lst (Lib.goPrintTabs.p32.map fun x=>[.int .u32 (x:Nat)])]
 g12:G 12=some [.lst (Lib.goPrintTabs.n32.map fun x=>[.int .u16 (x:Nat)])]
theorem zQc{w S b}:∀{l:List Coef} {o},RepEs w S b o (l.map Coef.cells)→∀(j) (x),(l.map fun c=>((⟨c.name.toArray⟩:ByteArray),c.n))[j]? =some x→w.cell? ⟨b,o+j*2,none⟩=some (.string x.1)∧w.cell? ⟨b,o+j*2+1,none⟩=some (.int .i64 x.2)
 |[],_,_,j,x,h=>by simp at h
 |c::l,o,h0,j,x,h=>by
  rw[mC,RepEs]at h0;obtain⟨⟨⟨_,v,hc,hv⟩,⟨_,v2,hc2,hv2⟩,_⟩,h2⟩:=h0;cases j with
  |zero=>obtain⟨y,rfl,hy,_⟩:∃y:ByteArray,v=.string y∧y.data.toList=c.name∧y.size≤9223372036854775807:=hv;have hv2:v2=.int .i64 c.n:=hv2;simp only[mC,List.getElem?_cons_zero,Option.some.injEq]at h;subst h;rw[Nat.zero_mul,Nat.add_zero,hc,hc2,hv2];refine⟨?_,rfl⟩;rw[←hy]
  |succ j=>have:=zQc (b:=b) (o:=o+2) h2 j x (by simpa using h);rw[show o+(j+1)*2=o+2+j*2 by omega];exact this
theorem yQV{G}(hT:TabsG G)(hen:Enters Tryz.prog zKV)(hlt:0<Tryz.prog.globals.size)(hg0:Tryz.prog.globalNamed "internal/strconv.uint64pow10"=some 0):TextP (X G) txtQ:=by
 intro a ha;refine⟨hen,fun w S cargs hlive hgl hargs=>?_⟩;obtain⟨v,r,e1,⟨vs,rfl,h1⟩,e3⟩:=hargs;simp only[RepCL]at e3;subst e3;obtain rfl:cargs=#[.agg vs]:=by cases cargs;simp_all
 obtain⟨va,r,hvs,hva,vb,r2,rfl,hvb,e4⟩:=h1;simp only[RepL]at e4;subst e4;obtain rfl:vs=#[va,vb]:=by cases vs;simp_all
 have hvb:vb=.int .i64 a.c:=hvb;subst hvb;obtain⟨base,cap,rfl,hcap,hmax,hnone,hcell⟩:∃(base:Option Addr) (cap:Nat),va=.slice base (a.coefs.map Coef.cells).length cap∧(a.coefs.map Coef.cells).length≤cap∧cap≤9223372036854775807∧(base=none→cap=0)∧∀b,base=some b→(cap≠0→b.spot=none)∧(∃sz,∀e∈(a.coefs.map Coef.cells),e.length=sz)∧RepEs w S b.block b.off (a.coefs.map Coef.cells):=hva;rw[lM]at hcap⊢;obtain⟨h24,hco,hc⟩:=ha;have htab:Lib.TabIs Tryz.prog w "internal/strconv.uint64pow10" .u64 Lib.pow10Tab:=yzI hg0 (hgl.1 0 _ hT.g0) (hgl.2.2 0 _ hlt hT.g0 (by decide));have htb:=Lib.tabBelow_of_tabIs htab;have hpt:Lib.PrintTabsAt 9 10 11 12 Lib.goPrintTabs w:=⟨zXH (by decide) (hgl.1 9 _ hT.g9),zXH (by decide) (hgl.1 10 _ hT.g10),zXH (by decide) (hgl.1 11 _ hT.g11),zXH (by decide) (hgl.1 12 _ hT.g12),by decide,by decide,by decide⟩;have hut:Lib.Utf8Tabs 7 8 w:=yW0 (hgl.1 7 _ hT.g7) (hgl.1 8 _ hT.g8);have hxs:(a.coefs.map fun c=>((⟨c.name.toArray⟩:ByteArray),c.n)).length=a.coefs.length:=by simp
 have hmem:∀x∈(a.coefs.map fun c=>((⟨c.name.toArray⟩:ByteArray),c.n)),I64 x.2∧x.1.size≤400:=fun x hx=>by obtain⟨c,hcm,rfl⟩:=List.mem_map.1 hx;refine⟨(hco c hcm).2,?_⟩;show c.name.toArray.size≤400;rw[List.size_toArray];exact(hco c hcm).1
 have hi64:∀n:Int,(n=a.c∨∃x∈(a.coefs.map fun c=>((⟨c.name.toArray⟩:ByteArray),c.n)),n=x.2)→I64 n:=fun n h=>by
  rcases h with rfl|⟨x,hx,rfl⟩
  ·exact hc
  ·exact(hmem x hx).1
 have key:=Tryz.yJb base cap (a.coefs.map fun c=>((⟨c.name.toArray⟩:ByteArray),c.n)) a.c quoB w (by rw[hxs];exact h24)
  (fun n hn=>by have:=hi64 n hn;have h2:=Lib.itoa_length_le n this.1 this.2;omega)
  (fun x hx=>by show(strOfNums _).size≤5000;rw[strOfNums_size];have:=Lib.quoteZ_length_le Lib.goPrintTabs x.1;have:=(hmem x hx).2;omega)
  (fun j x hx=>by
   have hj:j<a.coefs.length:=by
    have:=(List.getElem?_eq_some_iff.1 hx).1
    rwa [hxs]at this
   cases base with
   |none=>have:=hnone rfl;omega
   |some b=>obtain⟨hsp,_,hes⟩:=hcell b rfl;obtain⟨bk,o,sp⟩:=b;obtain rfl:sp=none:=hsp (by omega);exact⟨bk,o,rfl,zQc hes j x hx⟩)
  (fun n W hb hn=>by
   have:=hi64 n hn;refine(Tryz.strconv_Itoa n this.1 this.2 W (htb W hb)).mono ?_
   rintro e w' ⟨rfl,k,os,rfl⟩
   exact⟨rfl,Lib.below_grow W.heap.size W (Nat.le_refl _) k os⟩)
  (fun s W hb ⟨x,hx,hs⟩=>by subst hs;exact Tryz.strconv_Quote Lib.goPrintTabs x.1 W (by have:=(hmem x hx).2;omega) (printTabs_below hpt hb) (Utf8Tabs_below hut hb))
 rw[hxs]at key;refine key.mono ?_
 rintro e w' ⟨rfl,hb⟩
 have hlen:(txtQ a).length≤9223372036854775807:=by
  have h1:∀ys:List (ByteArray×Int),(∀y∈ys,I64 y.2∧y.1.size≤400)→(ys.flatMap (coefZ quoB)).length≤ys.length*5026:=by
   intro ys;induction ys with
   |nil=>intro _;simp
   |cons y ys ih=>
    intro hy;have h1:=(hy y (by simp)).1;have h1:=Lib.itoa_length_le y.2 h1.1 h1.2;have h2:(quoB y.1).size≤5000:=by show(strOfNums _).size≤5000;rw[strOfNums_size];have:=Lib.quoteZ_length_le Lib.goPrintTabs y.1;have:=(hy y (by simp)).2;omega
    have h3:=ih fun z hz=>hy z (by simp[hz]);have h4:(quoB y.1).data.toList.length=(quoB y.1).size:=Array.length_toList;simp only[List.flatMap_cons,coefZ,lA,lC,lN,h4];omega
  have h2:=h1 _ hmem;rw[hxs]at h2;have h3:=Lib.itoa_length_le a.c hc.1 hc.2;show((a.coefs.map fun c=>((⟨c.name.toArray⟩:ByteArray),c.n)).flatMap (coefZ quoB)++Lib.itoa a.c).length≤_;rw[lA];omega
 refine⟨_,S,rfl,⟨_,rfl,rfl,by show(txtQ a).toArray.size≤_;rw[List.size_toArray];exact hlen⟩,hb,fun _ _ h=>h,fun _ _ h=>.inl h,fun b o hs=>?_⟩;obtain⟨v,hv⟩:=hlive b o hs;exact⟨v,(hb.cell (p:=⟨b,o,none⟩) (zyu hv)).trans hv⟩
theorem yzk:∀(s:Str) (f),s.length≤f→s.all plc=true→Lib.quoteFrom Lib.goPrintTabs f ⟨s.toArray⟩=s.map fun c=>(c.toNat:Int)
 |[],f,_,_=>Lib.quoteFrom_end _ _ _ (by decide)
 |c::s,f,hf,h=>by
  rw[List.all_cons,Bool.and_eq_true]at h;obtain⟨hc,hs⟩:=h;have hc2:32≤c.toNat∧c.toNat≤126∧c≠34∧c≠92:=by simp only[plc,Bool.and_eq_true,decide_eq_true_eq,bne_iff_ne]at hc;exact⟨hc.1.1.1,hc.1.1.2,hc.1.2,hc.2⟩
  have hd:Utf8.decode ⟨(c::s).toArray⟩ 0=(c.toNat,1):=Lib.decodeL_ascii c s (by omega);have hsz:(⟨(c::s).toArray⟩:ByteArray).size=s.length+1:=by show(c::s).toArray.size=_;simp
  rw[Lib.quoteFrom_step _ _ _ (by rw[hsz];omega) (by rw[hsz];simpa using hf)];have h34:¬((c.toNat:Int)=34∨(c.toNat:Int)=92):=by
   rintro(h|h)
   ·exact hc2.2.2.1 (UInt8.toNat_inj.1 (by show c.toNat=34;omega))
   ·exact hc2.2.2.2 (UInt8.toNat_inj.1 (by show c.toNat=92;omega))
  have hst:Lib.quoteStep Lib.goPrintTabs ⟨(c::s).toArray⟩=[(c.toNat:Int)]:=by rw[Lib.quoteStep_good _ _ (by rw[hd];simp;omega),hd];unfold Lib.escRune;rw[if_neg h34,if_pos,Lib.encodeRuneZ,if_pos (by simp only;omega)];unfold Lib.isPrintR;rw[if_pos (by simp only;omega)];simp only[Lib.isPrintLatin,Bool.or_eq_true,Bool.and_eq_true,decide_eq_true_eq];exact .inl ⟨by omega,by omega⟩
  have hrest:(⟨(c::s).toArray⟩:ByteArray).extract (Utf8.decode ⟨(c::s).toArray⟩ 0).2 (⟨(c::s).toArray⟩:ByteArray).size=⟨s.toArray⟩:=by rw[hd,hsz];apply ByteArray.ext;simp
  rw[hst,hrest,yzk s (f-1) (by simp at hf;omega) hs];rfl
theorem yWs{s:Str}(h:s.all plc=true):(quoB ⟨s.toArray⟩).data.toList=34::(s++[34]):=by
 show((Lib.quoteZ Lib.goPrintTabs ⟨s.toArray⟩).map fun n=>UInt8.ofNat n.toNat)=_;unfold Lib.quoteZ;rw[yzk s _ (by show s.length≤s.toArray.size;simp) h];simp only[mC,mA,List.map_map,mN];have:s.map ((fun n:Int=>UInt8.ofNat n.toNat)∘fun c:UInt8=>(c.toNat:Int))=s:=by
  conv=>rhs;rw[←List.map_id s]
  exact List.map_congr_left fun c _=>by simp
 rw[this];rfl
theorem yW6(a)(h:PlainL a):txtQ a=txt0 a:=by
 unfold txtQ txt0;congr 1;have:∀l:List Coef,(∀c∈l,c.name.all plc=true)→(l.map fun c=>((⟨c.name.toArray⟩:ByteArray),c.n)).flatMap (coefZ quoB)=l.flatMap fun c=>Lib.itoa c.n++32::34::(c.name++34::[32]):=by
  intro l;induction l with
  |nil=>intro _;rfl
  |cons c l ih=>intro h;rw[mC,List.flatMap_cons,List.flatMap_cons,ih fun x hx=>h x (by simp[hx])];congr 1;show Lib.itoa c.n++32::((quoB ⟨c.name.toArray⟩).data.toList++[32])=_;rw[yWs (h c (by simp))];simp
 exact this a.coefs h
end Go.Abs.Seat
end
section
namespace Go.Abs.Seat
open Go Go.Abs Go.Proofs Go.Proofs.YtkaaomojgmbgdaaGreatDoor Go.RowKit Go.ChangeShapes
variable{H:Type}{enc:TypeId×Value→H}{w:World}
theorem bulkOk:BulkOk (Rows.uptoBulk (H:=H)) Rows.uptoBulkAll where
 one d:=by
  cases d with
  |lit l=>cases l<;>simp only[Rows.uptoBulk]<;>omega
  |_=>simp only[Rows.uptoBulk];omega
 str s:=by simp only[Rows.uptoBulk];omega
 slice a b:=by simp only[Rows.uptoBulk];omega
 agg a:=by simp only[Rows.uptoBulk];omega
 cons d r:=by simp only[Rows.uptoBulkAll];omega
theorem cs1:∀t∈[3,5,9,22,23,35,36,37,42,47,54,60,67,75,103],Tryz.prog.cellsOf t=1:=of_decide_eq_true (by kernel_rfl)
theorem c1{t:Nat}(h:t∈[3,5,9,22,23,35,36,37,42,47,54,60,67,75,103]:=by simp):Tryz.prog.cellsOf t=1:=cs1 t h
theorem c25:Tryz.prog.cellsOf 25=4:=by kernel_rfl
theorem c146:Tryz.prog.cellsOf 146=2:=by kernel_rfl
theorem c148:Tryz.prog.cellsOf 148=3:=by kernel_rfl
theorem c200:Tryz.prog.cellsOf 200=2:=by kernel_rfl
theorem c39:Tryz.prog.cellsOf 39=3:=by kernel_rfl
theorem c134:Tryz.prog.cellsOf 134=2:=by kernel_rfl
theorem c140:Tryz.prog.cellsOf 140=3:=by kernel_rfl
theorem c77:Tryz.prog.cellsOf 77=2:=by kernel_rfl
def sz1{α:Type}:α→Nat:=fun _=>1
theorem sum1{α}:∀l:List α,(l.map sz1).sum=l.length
 |[]=>rfl
 |_::l=>by rw[mC,List.sum_cons,sum1 l,lC,sz1,Nat.add_comm]
theorem yQQ(n):ReadsAt enc Tryz.prog w Rows.uptoBulk n 25 Pred.cells Pred.sz:=
 yZ3 bulkOk Tryz.underlying25 Tryz.underlying22 Tryz.underlying9 Tryz.underlying3 Tryz.underlying23 c25 c1 c1 c1 c1 n
theorem xzB:∀n,ReadsAt enc Tryz.prog w Rows.uptoBulk n 146 SVar.cells sz1
 |0=>zyB
 |n+1=>zwg (zZj bulkOk Tryz.underlying146 c146 c1 (fun _=>rfl) (zwV bulkOk Tryz.underlying9) c1 (fun _=>rfl) (zwV bulkOk Tryz.underlying42)) (fun x=>SVar.mk x.1 x.2.1) (fun x=>rfl) (fun x=>by simp only[sz1];omega)
theorem yWy(n):ReadsAt enc Tryz.prog w Rows.uptoBulk n 35 (fun l:List SVar=>[.lst (l.map SVar.cells)]) (fun l=>(l.map sz1).sum+1):=reads_slice' bulkOk Tryz.underlying35 (by rw[c146];decide) (fun x=>by rw[c146];exact rfl) xzB n
theorem yQR:∀n,ReadsAt enc Tryz.prog w Rows.uptoBulk n 42 scell sz1
 |0=>zyB
 |n+1=>zwg (zwV bulkOk Tryz.underlying42) (fun x=>x) (fun x=>rfl) (fun x=>by simp only[sz1];omega)
theorem yVR(n):ReadsAt enc Tryz.prog w Rows.uptoBulk n 103 (fun l:List (List UInt8)=>[.lst (l.map scell)]) (fun l=>(l.map sz1).sum+1):=reads_slice' bulkOk Tryz.underlying103 (by rw[c1];decide) (fun x=>by rw[c1];exact rfl) yQR n
def szY(s:SSym):Nat:=s.args.length
theorem xzA:∀n,ReadsAt enc Tryz.prog w Rows.uptoBulk n 148 SSym.cells szY
 |0=>zyB
 |n+1=>zwg (zVt bulkOk Tryz.underlying148 c148 c1 (fun _=>rfl) (zwV bulkOk Tryz.underlying9) c1 (fun _=>rfl) (yVR n) c1 (fun _=>rfl) (zwV bulkOk Tryz.underlying42)) (fun x=>SSym.mk x.1 x.2.1 x.2.2.1) (fun x=>rfl) (fun x=>by have:=sum1 x.2.1;simp only[szY];omega)
theorem yQS(n):ReadsAt enc Tryz.prog w Rows.uptoBulk n 36 (fun l:List SSym=>[.lst (l.map SSym.cells)]) (fun l=>(l.map szY).sum+1):=reads_slice' bulkOk Tryz.underlying36 (by rw[c148];decide) (fun x=>by rw[c148];exact rfl) xzA n
def szH(h:SHole):Nat:=h.params.length
theorem yQO:∀n,ReadsAt enc Tryz.prog w Rows.uptoBulk n 200 SHole.cells szH
 |0=>zyB
 |n+1=>zwg (zZj bulkOk Tryz.underlying200 c200 c1 (fun _=>rfl) (zwV bulkOk Tryz.underlying9) c1 (fun _=>rfl) (yWy n)) (fun x=>SHole.mk x.1 x.2.1) (fun x=>rfl) (fun x=>by have:=sum1 x.2.1;simp only[szH];omega)
theorem yVO(n):ReadsAt enc Tryz.prog w Rows.uptoBulk n 37 (fun l:List SHole=>[.lst (l.map SHole.cells)]) (fun l=>(l.map szH).sum+1):=reads_slice' bulkOk Tryz.underlying37 (by rw[c200];decide) (fun x=>by rw[c200];exact rfl) yQO n
def szE(v:SEnv):Nat:=(v.syms.map szY).sum+(v.holes.map szH).sum
theorem rd_env:∀n,ReadsAt enc Tryz.prog w Rows.uptoBulk n 39 SEnv.cells szE
 |0=>zyB
 |n+1=>zwg (zVt bulkOk Tryz.underlying39 c39 c1 (fun _=>rfl) (yWy n) c1 (fun _=>rfl) (yQS n) c1 (fun _=>rfl) (yVO n)) (fun x=>SEnv.mk x.1 x.2.1 x.2.2.1) (fun x=>rfl) (fun x=>by simp only[szE];omega)
theorem yWx:∀n,ReadsAt enc Tryz.prog w Rows.uptoBulk n 134 Coef.cells sz1
 |0=>zyB
 |n+1=>zwg (zZj bulkOk Tryz.underlying134 c134 c1 (fun _=>rfl) (zwV bulkOk Tryz.underlying9) c1 (fun _=>rfl) (zY9 bulkOk Tryz.underlying3)) (fun x=>Coef.mk x.1 x.2.1) (fun x=>rfl) (fun x=>by simp only[sz1];omega)
theorem yVQ(n):ReadsAt enc Tryz.prog w Rows.uptoBulk n 67 (fun l:List Coef=>[.lst (l.map Coef.cells)]) (fun l=>(l.map sz1).sum+1):=reads_slice' bulkOk Tryz.underlying67 (by rw[c134];decide) (fun x=>by rw[c134];exact rfl) yWx n
def icellW(x:{n:Int//I64 n}):List D:=[.int .i64 x.1]
theorem yQP(n):ReadsAt enc Tryz.prog w Rows.uptoBulk n 3 icellW sz1:=zKI bulkOk Tryz.underlying3
theorem yVP(n):ReadsAt enc Tryz.prog w Rows.uptoBulk n 54 (fun l:List {n:Int//I64 n}=>[.lst (l.map icellW)]) (fun l=>(l.map sz1).sum+1):=reads_slice' bulkOk Tryz.underlying54 (by rw[c1];decide) (fun x=>by rw[c1];exact rfl) yQP n
theorem yQN:∀n,ReadsAt enc Tryz.prog w Rows.uptoBulk n 140 (fun f:FactW=>f.1.cells) szF
 |0=>zyB
 |n+1=>zwg (zVt bulkOk Tryz.underlying140 c140 c1 (fun _=>rfl) (zwV bulkOk Tryz.underlying9) c1 (fun _=>rfl) (yVP n) c1 (fun _=>rfl) (zKI bulkOk Tryz.underlying3)) (fun x=>(⟨⟨x.1,x.2.1.map (·.1),x.2.2.1.1⟩,(fun m hm=>by obtain⟨y,_,rfl⟩:=List.mem_map.1 hm;exact y.2),x.2.2.1.2⟩:FactW)) (fun x=>by simp only[Fact.cells,List.map_map];rfl) (fun x=>by have:=sum1 x.2.1;simp only[szF,lM];omega)
theorem rd_facts(n):ReadsAt enc Tryz.prog w Rows.uptoBulk n 75 (fun l:List FactW=>[.lst (l.map (fun f=>f.1.cells))]) (fun l=>(l.map szF).sum+1):=reads_slice' bulkOk Tryz.underlying75 (by rw[c140];decide) (fun x=>by rw[c140];exact rfl) yQN n
structure WorldW where
 pt:List Coef
 apps:List FactW
def WorldW.cells(x:WorldW):List D:=[.lst (x.pt.map Coef.cells),.lst (x.apps.map fun f=>f.1.cells)]
def szW(x:WorldW):Nat:=(x.apps.map szF).sum
theorem rd_world:∀n,ReadsAt enc Tryz.prog w Rows.uptoBulk n 77 WorldW.cells szW
 |0=>zyB
 |n+1=>zwg (zZj bulkOk Tryz.underlying77 c77 c1 (fun _=>rfl) (yVQ n) c1 (fun _=>rfl) (rd_facts n)) (fun x=>WorldW.mk x.1 x.2.1) (fun x=>rfl) (fun x=>by simp only[szW];omega)
def G1:Nat→Option (List D):=fun g=>if g=0 then some (Lib.pow10Tab.map (D.int .u64))else if g=2 then some (kws.map .str)else if g=3 then some [.anyI]else if g=4 then some [.anyI]else if g=7 then some (Lib.firstTab.map (D.int .u8))else if g=8 then some (accTab.map (D.int .u8))else if g=9 then some [.lst (Lib.goPrintTabs.p16.map fun x=>[.int .u16 (x:Nat)])]else if g=10 then some [.lst (Lib.goPrintTabs.n16.map fun x=>[.int .u16 (x:Nat)])]else if g=11 then some [.lst (Lib.goPrintTabs.p32.map fun x=>[.int .u32 (x:Nat)])]else if g=12 then some [.lst (Lib.goPrintTabs.n32.map fun x=>[.int .u16 (x:Nat)])]else none
def LL:List (String×DataW Unit):=[("math/bits.deBruijn32tab",Rows.laid_math_bits_deBruijn32tab),("math/bits.deBruijn64tab",Rows.laid_math_bits_deBruijn64tab),("internal/strconv.uint64pow10",Rows.laid_internal_strconv_uint64pow10),("unicode/utf8.acceptRanges",Rows.laid_unicode_utf8_acceptRanges),("strconv.ErrRange",Rows.laid_strconv_ErrRange),("strconv.ErrSyntax",Rows.laid_strconv_ErrSyntax),("liquidcheck/names.keywords",Rows.laid_liquidcheck_names_keywords),("strconv.isGraphic",Rows.laid_strconv_isGraphic),("strconv.isNotPrint16",Rows.laid_strconv_isNotPrint16),("strconv.isNotPrint32",Rows.laid_strconv_isNotPrint32),("strconv.isPrint16",Rows.laid_strconv_isPrint16),("strconv.isPrint32",Rows.laid_strconv_isPrint32),("unicode/utf8.first",Rows.laid_unicode_utf8_first)]
theorem yq2:∀(i) (f:Field),(#[Field.mk "lo" 5 0 false "" "unicode/utf8" 0,Field.mk "hi" 5 1 false "" "unicode/utf8" 1]:Array Field)[i]? =some f→Tryz.prog.underlying f.type=some (.int .u8)∧f.offset=i∧Tryz.prog.cellsOf f.type=1
 |0,f,h=>by cases h;exact⟨Tryz.underlying5,rfl,c1⟩
 |1,f,h=>by cases h;exact⟨Tryz.underlying5,rfl,c1⟩
 |i+2,f,h=>by simp at h
theorem kg0(h:laidMet Tryz.prog LL w):RepCs w (liveS w) 0 0 (Lib.pow10Tab.map (D.int .u64))∧∃(vs:Array Value) (e:TypeId) (fr:Nat×Nat),w.heap[0]? =some (.cells vs e fr)∧vs.size=((Lib.pow10Tab.map (D.int .u64)):List D).length:=yvc (by kernel_rfl) (by kernel_rfl) Tryz.underlying252 Tryz.underlying224 (by kernel_rfl) (by kernel_rfl) (show Lib.VarReads Tryz.prog w "internal/strconv.uint64pow10" (Lib.tabData .u64 Lib.pow10Tab)from(show Rows.laid_internal_strconv_uint64pow10=Lib.tabData .u64 Lib.pow10Tab by kernel_rfl)▸Lib.laidMet.reads h (List.mem_of_getElem? (i:=2) rfl))
theorem kg2(h:laidMet Tryz.prog LL w):RepCs w (liveS w) 2 0 (kws.map .str)∧∃(vs:Array Value) (e:TypeId) (fr:Nat×Nat),w.heap[2]? =some (.cells vs e fr)∧vs.size=((kws.map .str):List D).length:=yYd (by kernel_rfl) (by kernel_rfl) Tryz.underlying256 Tryz.underlying9 (by kernel_rfl) (by kernel_rfl) (show Lib.VarReads Tryz.prog w "liquidcheck/names.keywords" (strsData kws)from(show Rows.laid_liquidcheck_names_keywords=strsData kws by kernel_rfl)▸Lib.laidMet.reads h (List.mem_of_getElem? (i:=6) rfl))
theorem kg3(h:laidMet Tryz.prog LL w):RepCs w (liveS w) 3 0 [.anyI]∧∃(vs:Array Value) (e:TypeId) (fr:Nat×Nat),w.heap[3]? =some (.cells vs e fr)∧vs.size=([.anyI]:List D).length:=zQR (t:=157) (by kernel_rfl) (by kernel_rfl) Tryz.underlying157 (Lib.laidMet.reads h (List.mem_of_getElem? (i:=5) rfl))
theorem kg4(h:laidMet Tryz.prog LL w):RepCs w (liveS w) 4 0 [.anyI]∧∃(vs:Array Value) (e:TypeId) (fr:Nat×Nat),w.heap[4]? =some (.cells vs e fr)∧vs.size=([.anyI]:List D).length:=zQR (t:=157) (by kernel_rfl) (by kernel_rfl) Tryz.underlying157 (Lib.laidMet.reads h (List.mem_of_getElem? (i:=4) rfl))
theorem kg7(h:laidMet Tryz.prog LL w):RepCs w (liveS w) 7 0 (Lib.firstTab.map (D.int .u8))∧∃(vs:Array Value) (e:TypeId) (fr:Nat×Nat),w.heap[7]? =some (.cells vs e fr)∧vs.size=((Lib.firstTab.map (D.int .u8)):List D).length:=yvc (by kernel_rfl) (by kernel_rfl) Tryz.underlying295 Tryz.underlying5 (by kernel_rfl) (by kernel_rfl) (show Lib.VarReads Tryz.prog w "unicode/utf8.first" (Lib.tabData .u8 Lib.firstTab)from(show Rows.laid_unicode_utf8_first=Lib.tabData .u8 Lib.firstTab by kernel_rfl)▸Lib.laidMet.reads h (List.mem_of_getElem? (i:=12) rfl))
theorem kg8(h:laidMet Tryz.prog LL w):RepCs w (liveS w) 8 0 (accTab.map (D.int .u8))∧∃(vs:Array Value) (e:TypeId) (fr:Nat×Nat),w.heap[8]? =some (.cells vs e fr)∧vs.size=((accTab.map (D.int .u8)):List D).length:=ywq (by kernel_rfl) (by kernel_rfl) Tryz.underlying298 Tryz.underlying297 yq2 (by kernel_rfl) (by kernel_rfl) (by kernel_rfl) (show Lib.VarReads Tryz.prog w "unicode/utf8.acceptRanges" (Lib.acceptData)from(show Rows.laid_unicode_utf8_acceptRanges=Lib.acceptData by kernel_rfl)▸Lib.laidMet.reads h (List.mem_of_getElem? (i:=3) rfl))
theorem kg9(h:laidMet Tryz.prog LL w):RepCs w (liveS w) 9 0 [.lst (Lib.goPrintTabs.p16.map fun x=>[.int .u16 (x:Nat)])]∧∃(vs:Array Value) (e:TypeId) (fr:Nat×Nat),w.heap[9]? =some (.cells vs e fr)∧vs.size=([.lst (Lib.goPrintTabs.p16.map fun x=>[.int .u16 (x:Nat)])]:List D).length:=zXI (by kernel_rfl) (by kernel_rfl) Tryz.underlying300 Tryz.underlying299 (by kernel_rfl) (by decide) (show Lib.VarReads Tryz.prog w "strconv.isPrint16" (Lib.sliceData .u16 Lib.goPrintTabs.p16)from(show Rows.laid_strconv_isPrint16=Lib.sliceData .u16 Lib.goPrintTabs.p16 by kernel_rfl)▸Lib.laidMet.reads h (List.mem_of_getElem? (i:=10) rfl))
theorem kg10(h:laidMet Tryz.prog LL w):RepCs w (liveS w) 10 0 [.lst (Lib.goPrintTabs.n16.map fun x=>[.int .u16 (x:Nat)])]∧∃(vs:Array Value) (e:TypeId) (fr:Nat×Nat),w.heap[10]? =some (.cells vs e fr)∧vs.size=([.lst (Lib.goPrintTabs.n16.map fun x=>[.int .u16 (x:Nat)])]:List D).length:=zXI (by kernel_rfl) (by kernel_rfl) Tryz.underlying300 Tryz.underlying299 (by kernel_rfl) (by decide) (show Lib.VarReads Tryz.prog w "strconv.isNotPrint16" (Lib.sliceData .u16 Lib.goPrintTabs.n16)from(show Rows.laid_strconv_isNotPrint16=Lib.sliceData .u16 Lib.goPrintTabs.n16 by kernel_rfl)▸Lib.laidMet.reads h (List.mem_of_getElem? (i:=8) rfl))
theorem kg11(h:laidMet Tryz.prog LL w):RepCs w (liveS w) 11 0 [.lst (Lib.goPrintTabs.p32.map fun x=>[.int .u32 (x:Nat)])]∧∃(vs:Array Value) (e:TypeId) (fr:Nat×Nat),w.heap[11]? =some (.cells vs e fr)∧vs.size=([.lst (Lib.goPrintTabs.p32.map fun x=>[.int .u32 (x:Nat)])]:List D).length:=zXI (by kernel_rfl) (by kernel_rfl) Tryz.underlying302 Tryz.underlying253 (by kernel_rfl) (by decide) (show Lib.VarReads Tryz.prog w "strconv.isPrint32" (Lib.sliceData .u32 Lib.goPrintTabs.p32)from(show Rows.laid_strconv_isPrint32=Lib.sliceData .u32 Lib.goPrintTabs.p32 by kernel_rfl)▸Lib.laidMet.reads h (List.mem_of_getElem? (i:=11) rfl))
theorem kg12(h:laidMet Tryz.prog LL w):RepCs w (liveS w) 12 0 [.lst (Lib.goPrintTabs.n32.map fun x=>[.int .u16 (x:Nat)])]∧∃(vs:Array Value) (e:TypeId) (fr:Nat×Nat),w.heap[12]? =some (.cells vs e fr)∧vs.size=([.lst (Lib.goPrintTabs.n32.map fun x=>[.int .u16 (x:Nat)])]:List D).length:=zXI (by kernel_rfl) (by kernel_rfl) Tryz.underlying300 Tryz.underlying299 (by kernel_rfl) (by decide) (show Lib.VarReads Tryz.prog w "strconv.isNotPrint32" (Lib.sliceData .u16 Lib.goPrintTabs.n32)from(show Rows.laid_strconv_isNotPrint32=Lib.sliceData .u16 Lib.goPrintTabs.n32 by kernel_rfl)▸Lib.laidMet.reads h (List.mem_of_getElem? (i:=9) rfl))
theorem glob1(hS:w.ShapedOpen Tryz.prog)(h:laidMetH Tryz.prog Rows.atomsNamesUptoRow.laid w):GlobOk Tryz.prog G1 w (liveS w):=by
 rw[MakeChecks.laidMetH_plain _ _ _ (by kernel_rfl)]at h;have h:laidMet Tryz.prog LL w:=h;have k0:=kg0 h;have k2:=kg2 h;have k3:=kg3 h;have k4:=kg4 h;have k7:=kg7 h;have k8:=kg8 h;have k9:=kg9 h;have k10:=kg10 h;have k11:=kg11 h;have k12:=kg12 h;have key:∀g cs,G1 g=some cs→RepCs w (liveS w) g 0 cs∧∃(vs:Array Value) (e:TypeId) (fr:Nat×Nat),w.heap[g]? =some (.cells vs e fr)∧vs.size=cs.length:=by
  intro g cs hg;by_cases h0:g=0
  ·subst h0;obtain rfl:=Option.some.inj ((show G1 0=some (Lib.pow10Tab.map (D.int .u64))from rfl).symm.trans hg);exact k0
  by_cases h2:g=2
  ·subst h2;obtain rfl:=Option.some.inj ((show G1 2=some (kws.map .str)from rfl).symm.trans hg);exact k2
  by_cases h3:g=3
  ·subst h3;obtain rfl:=Option.some.inj ((show G1 3=some [.anyI]from rfl).symm.trans hg);exact k3
  by_cases h4:g=4
  ·subst h4;obtain rfl:=Option.some.inj ((show G1 4=some [.anyI]from rfl).symm.trans hg);exact k4
  by_cases h7:g=7
  ·subst h7;obtain rfl:=Option.some.inj ((show G1 7=some (Lib.firstTab.map (D.int .u8))from rfl).symm.trans hg);exact k7
  by_cases h8:g=8
  ·subst h8;obtain rfl:=Option.some.inj ((show G1 8=some (accTab.map (D.int .u8))from rfl).symm.trans hg);exact k8
  by_cases h9:g=9
  ·subst h9;obtain rfl:=Option.some.inj ((show G1 9=some [.lst (Lib.goPrintTabs.p16.map fun x=>[.int .u16 (x:Nat)])]from rfl).symm.trans hg);exact k9
  by_cases h10:g=10
  ·subst h10;obtain rfl:=Option.some.inj ((show G1 10=some [.lst (Lib.goPrintTabs.n16.map fun x=>[.int .u16 (x:Nat)])]from rfl).symm.trans hg);exact k10
  by_cases h11:g=11
  ·subst h11;obtain rfl:=Option.some.inj ((show G1 11=some [.lst (Lib.goPrintTabs.p32.map fun x=>[.int .u32 (x:Nat)])]from rfl).symm.trans hg);exact k11
  by_cases h12:g=12
  ·subst h12;obtain rfl:=Option.some.inj ((show G1 12=some [.lst (Lib.goPrintTabs.n32.map fun x=>[.int .u16 (x:Nat)])]from rfl).symm.trans hg);exact k12
  unfold G1 at hg;rw[if_neg h0,if_neg h2,if_neg h3,if_neg h4,if_neg h7,if_neg h8,if_neg h9,if_neg h10,if_neg h11,if_neg h12]at hg;cases hg
 exact⟨fun g cs hg=>(key g cs hg).1,yZu hS,fun g cs _ hg _=>(key g cs hg).2⟩
theorem tabsG:TabsG G1:=⟨rfl,rfl,rfl,rfl,rfl,rfl,rfl⟩
theorem ykL:Tryz.prog.globalNamed "internal/strconv.uint64pow10"=some 0:=by kernel_rfl
theorem yJM:0<Tryz.prog.globals.size:=of_decide_eq_true (by kernel_rfl)
theorem ywy(G)(p):ItOk Tryz.prog G zz1 [.ref (Pred.cells p)] (yields p.pre):=yvt (P:=Tryz.prog) (T:=getTy tl) (fun _ _ ht=>zqM tl_ok ht) Tryz.func131 yJT Tryz.func130 yJS p
theorem fam:Fam X:=⟨fun G=>sys G,fun _=>rfl,ywy⟩
theorem yKH:∀G bs dep args r,BodyF X bs dep G zkH args r→(X G).C zzF args r:=
 fun _ _ _ _ _ h=>yvQ Tryz.func22 tr_22 (fun _ _ _ _ h=>h) (fun _ _ _ _ h=>h) (fun _=>rfl) (fun _ _ ht=>zqM tl_ok ht) mixed h
theorem law12G:Law12 (X G1) where
 sys:=sys G1
 of:=fun v p hv=>ywj fam yKH rfl v hv p
 chk:=zZJ (sys G1) rfl (ywy G1)
 itoa:=yQo ykL yJM ⟨Tryz.f52,Tryz.func52,by kernel_rfl,by kernel_rfl⟩ rfl
 atoi:=yJ3 rfl rfl ⟨Tryz.f154,Tryz.func154,by kernel_rfl,by kernel_rfl⟩
 join:=yQq ⟨Tryz.f55,Tryz.func55,by kernel_rfl,by kernel_rfl⟩
 text:=⟨txtQ,yQV tabsG ⟨Tryz.f231,Tryz.func231,by kernel_rfl,by kernel_rfl⟩ yJM ykL,yW6⟩
theorem law12mG:Law12m (X G1) where
 toLaw12:=law12G
 G0:=rfl
 it:=ywy G1
 un:=yJg G1
theorem zKQ:∀{ds} {d:DataW H},Rows.uptoBulkAll ds≤1048576→d∈ds→Rows.uptoBulk d≤1048576
 |[],_,_,h=>by cases h
 |x::ds,d,hs,h=>by
  rw[Rows.uptoBulkAll]at hs;rcases List.mem_cons.1 h with rfl|h
  ·omega
  ·exact zKQ (by omega) h
theorem yzH{α:Type}(f:α→Nat):∀{l:List α} {x},x∈l→f x≤(l.map f).sum
 |a::l,x,h=>by
  rw[mC,List.sum_cons];rcases List.mem_cons.1 h with rfl|h
  ·omega
  ·have:=yzH f h;omega
theorem env_ok{ds v d}(h:szE v≤Rows.uptoBulk d)(hs:Rows.uptoSmall H ds=true)(hd:d∈ds):v.Ok:=by
 have h2:=zKQ (of_decide_eq_true hs) hd;have h3:szE v=(v.syms.map szY).sum+(v.holes.map szH).sum:=rfl;refine⟨fun s hs=>?_,fun x hx=>?_⟩
 ·have h4:=yzH szY hs;have h5:szY s=s.args.length:=rfl;unfold Small;omega
 ·have h4:=yzH szH hx;have h5:szH x=x.params.length:=rfl;unfold Small;omega
theorem sz_small{ds}{p:Pred}{d}(h:p.sz≤Rows.uptoBulk d)(hs:Rows.uptoSmall H ds=true)(hd:d∈ds):p.sz≤1048576:=Nat.le_trans h (zKQ (of_decide_eq_true hs) hd)
theorem yQ0{ds x d}(h:szW x≤Rows.uptoBulk d)(hs:Rows.uptoSmall H ds=true)(hd:d∈ds):(∀f∈x.apps.map (·.1),Small f.args.length)∧∀f∈x.apps.map (·.1),f.Wf:=by
 refine⟨fun f hf=>?_,fun f hf=>?_⟩
 ·obtain⟨y,hy,rfl⟩:=List.mem_map.1 hf;have h2:=zKQ (of_decide_eq_true hs) hd;have h3:szW x=(x.apps.map szF).sum:=rfl;have h4:=yzH szF hy;have h5:szF y=y.1.args.length:=rfl;unfold Small;omega
 ·obtain⟨y,_,rfl⟩:=List.mem_map.1 hf;exact y.2
theorem means_of(v:SEnv)(hv:v.Ok)(p:Pred)(hz:p.sz≤1048576)(x:WorldW)(hx:(∀f∈x.apps.map (·.1),Small f.args.length)∧∀f∈x.apps.map (·.1),f.Wf)(L:Law12m (X G1)):(X G1).C zvo [.agg v.cells,.agg p.cells,.agg x.cells] (.one (.bool true)):=by have:=xzX L v hv p hz x.pt (x.apps.map (·.1)) hx.1 hx.2;rw[List.map_map]at this;exact this
theorem own:ownKnob Tryz.prog.godebug=none:=by kernel_rfl
theorem laidOut:laidOutB Tryz.prog=true:=by kernel_rfl
noncomputable def laidWorld(os:Os):World:=World.laidAll Tryz.prog os Rows.atomsNamesUptoRow.laid
end Go.Abs.Seat
end
