/-
  A LIBRARY OF THE PROOF: an abstract machine over the texts of the translated functions, whose values are plain data, proved sound with regard to the kit's law of calls (names shortened by program).
-/
import Derived.Test.YtkaaomojgmbgdaaGreatDoorAbs3
set_option linter.unusedSimpArgs false
set_option linter.unusedVariables false
set_option linter.unusedSectionVars false
set_option maxRecDepth 100000
section
namespace Go.Abs
open Go.RowKit
variable{c:Ctx}{st:St}{tmps:Array Value}{w:World}{S:Safe}{ρ:Rho}{E:AEnv}{T:Nat→Option Ty}{P:Program}{G:Nat→Option (List D)}{N:Nat}
theorem zYm{cd a b}(h:tr T N cd=some (.seq a b)):∃x y,cd=.seq x y∧tr T N x=some a∧tr T N y=some b:=by
 cases cd<;>simp only[tr,Option.bind_eq_bind,Option.pure_def,reduceCtorEq,Option.bind_eq_some_iff,Option.some.injEq]at h;case seq x y=>obtain⟨a1,e1,a2,e2,h⟩:=h;cases h;exact⟨x,y,rfl,e1,e2⟩
 case region=>
  exfalso;obtain⟨l,_,h⟩:=h
  repeat' split at h
  all_goals first
   |(rcases zwh h with⟨_,_,_,_,h',_⟩|⟨h',_⟩|⟨_,h',_⟩|⟨_,_,h',_⟩|⟨_,_,_,h',_⟩<;>cases h')
   |cases h
 all_goals (exfalso;revert h;(try (repeat' split))<;>intro h<;>simp at h)
theorem yjL{cd g a b}(h:tr T N cd=some (.cond g a b)):∃x y z,cd=.cond x y z∧trX x=some g∧tr T N y=some a∧tr T N z=some b:=by
 cases cd<;>simp only[tr,Option.bind_eq_bind,Option.pure_def,reduceCtorEq,Option.bind_eq_some_iff,Option.some.injEq]at h;case cond x y z=>obtain⟨x',e0,a1,e1,a2,e2,h⟩:=h;cases h;exact⟨x,y,z,rfl,e0,e1,e2⟩
 case region=>
  exfalso;obtain⟨l,_,h⟩:=h
  repeat' split at h
  all_goals first
   |(rcases zwh h with⟨_,_,_,_,h',_⟩|⟨h',_⟩|⟨_,h',_⟩|⟨_,_,h',_⟩|⟨_,_,_,h',_⟩<;>cases h')
   |cases h
 all_goals (exfalso;revert h;(try (repeat' split))<;>intro h<;>simp at h)
theorem yqU{cd i a}(h:tr T N cd=some (.block i a)):∃x,cd=.block i x∧tr T N x=some a:=by
 cases cd<;>simp only[tr,Option.bind_eq_bind,Option.pure_def,reduceCtorEq,Option.bind_eq_some_iff,Option.some.injEq]at h;case block j x=>obtain⟨a1,e1,h⟩:=h;cases h;exact⟨x,rfl,e1⟩
 case region=>
  exfalso;obtain⟨l,_,h⟩:=h
  repeat' split at h
  all_goals first
   |(rcases zwh h with⟨_,_,_,_,h',_⟩|⟨h',_⟩|⟨_,h',_⟩|⟨_,_,h',_⟩|⟨_,_,_,h',_⟩<;>cases h')
   |cases h
 all_goals (exfalso;revert h;(try (repeat' split))<;>intro h<;>simp at h)
theorem yQX{cd a}(h:tr T N cd=some (.loop a)):∃x,cd=.loop x∧tr T N x=some a:=by
 cases cd<;>simp only[tr,Option.bind_eq_bind,Option.pure_def,reduceCtorEq,Option.bind_eq_some_iff,Option.some.injEq]at h;case loop x=>obtain⟨a1,e1,h⟩:=h;cases h;exact⟨x,rfl,e1⟩
 case region=>
  exfalso;obtain⟨l,_,h⟩:=h
  repeat' split at h
  all_goals first
   |(rcases zwh h with⟨_,_,_,_,h',_⟩|⟨h',_⟩|⟨_,h',_⟩|⟨_,_,h',_⟩|⟨_,_,_,h',_⟩<;>cases h')
   |cases h
 all_goals (exfalso;revert h;(try (repeat' split))<;>intro h<;>simp at h)
theorem yJU{cd}(h:tr T N cd=some .ret):cd=.ret:=by
 cases cd<;>simp only[tr,Option.bind_eq_bind,Option.pure_def,reduceCtorEq,Option.bind_eq_some_iff,Option.some.injEq]at h;case region=>
  exfalso;obtain⟨l,_,h⟩:=h
  repeat' split at h
  all_goals first
   |(rcases zwh h with⟨_,_,_,_,h',_⟩|⟨h',_⟩|⟨_,h',_⟩|⟨_,_,h',_⟩|⟨_,_,_,h',_⟩<;>cases h')
   |cases h
 all_goals first|rfl|(exfalso;revert h;(try (repeat' split))<;>intro h<;>simp at h)
theorem yjM{cd}(h:tr T N cd=some .skip):cd=.skip:=by
 cases cd<;>simp only[tr,Option.bind_eq_bind,Option.pure_def,reduceCtorEq,Option.bind_eq_some_iff,Option.some.injEq]at h;case region=>
  exfalso;obtain⟨l,_,h⟩:=h
  repeat' split at h
  all_goals first
   |(rcases zwh h with⟨_,_,_,_,h',_⟩|⟨h',_⟩|⟨_,h',_⟩|⟨_,_,h',_⟩|⟨_,_,_,h',_⟩<;>cases h')
   |cases h
 all_goals first|rfl|(exfalso;revert h;(try (repeat' split))<;>intro h<;>simp at h)
theorem yQW{cd i}(h:tr T N cd=some (.exit i)):cd=.exit i:=by
 cases cd<;>simp only[tr,Option.bind_eq_bind,Option.pure_def,reduceCtorEq,Option.bind_eq_some_iff,Option.some.injEq]at h;case exit j=>cases h;rfl
 case region=>
  exfalso;obtain⟨l,_,h⟩:=h
  repeat' split at h
  all_goals first
   |(rcases zwh h with⟨_,_,_,_,h',_⟩|⟨h',_⟩|⟨_,h',_⟩|⟨_,_,h',_⟩|⟨_,_,_,h',_⟩<;>cases h')
   |cases h
 all_goals (exfalso;revert h;(try (repeat' split))<;>intro h<;>simp at h)
theorem yqV{cd l}(h:tr T N cd=some (.reg l)):∃id ops,cd=.region id ops false∧trOps T ops.toList=some l∧okDst N ops.toList=true:=by
 cases cd<;>simp only[tr,Option.bind_eq_bind,Option.pure_def,reduceCtorEq,Option.bind_eq_some_iff,Option.some.injEq]at h;case region id ops draw=>
  obtain⟨l',hl,h⟩:=h;split at h
  ·rename_i hok;split at h
   ·split at h
    ·split at h
     ·cases h
     ·split at h<;>cases h
    ·rcases zwh h with⟨_,_,_,_,h',_⟩|⟨h',_⟩|⟨_,h',_⟩|⟨_,_,h',_⟩|⟨_,_,_,h',_⟩<;>cases h'
   ·rename_i hd;split at h
    ·cases h
    cases h;have:draw=false:=by simpa using hd
    subst this;exact⟨id,ops,rfl,hl,hok⟩
  ·cases h
 all_goals (exfalso;revert h;(try (repeat' split))<;>intro h<;>simp at h)
theorem zY0{ops}(h:okDst N ops=true){o}(ho:o∈ops){d:Nat}(hd:o.dst=some d):d<N:=by simp only[okDst,List.all_eq_true]at h;have:=h o ho;simpa[hd]using this
theorem Sim.grows(h:Sim c st tmps w S ρ)(hX:c.X=[]:=by rfl):Grows c.w0 c.S0 w S:=⟨h.below.below hX,h.old,fun b o hs=>(h.new b o hs).imp id (Ctx.zVm hX),h.live⟩
theorem Grows.keeps{w w' S S'}(h:Grows w S w' S')(hl:Live w S):Keeps w S w' S':=fun b o hs=>by obtain⟨v,hv⟩:=hl b o hs;exact⟨h.2.1 b o hs,h.1.cell (p:=⟨b,o,none⟩) (zyu hv)⟩
theorem Sim.purify(h:Sim c st tmps w S ρ)(sl:List (Nat×D))(hp:∀p∈sl,AV.toD st.mem 4 (getS st.slots p.1)=some p.2)(hX:c.X=[]:=by rfl):
  ∃S',Grows c.w0 c.S0 w S'∧Keeps w S w S'∧(∀a v,RepA w S ρ a v→RepA w S' ρ a v)∧∀p∈sl,Rep w S' p.2 (tmps.getD p.1 undef):=by
 obtain⟨S',e1,e2,e3,e4,e5⟩:=h.close;refine⟨S',⟨h.below.below hX,fun b o hs=>e1 b o (h.old b o hs),fun b o hs=>?_,e3⟩,fun b o hs=>⟨e1 b o hs,rfl⟩,e4,fun p hpp=>zVC e5 4 _ _ _ (e4 _ _ (h.slots p.1)) (hp p hpp)⟩;rcases e2 b o hs with h1|h1
 ·exact(h.new b o h1).imp id (Ctx.zVm hX)
 ·exact .inr (Ctx.zVm hX h1)
def pureSt(sl:List (Nat×D)):St:=⟨sl.map fun p=>(p.1,.d p.2),[],[]⟩
theorem yXq(sl)(k):getS (pureSt sl).slots k=.undef∨∃p∈sl,p.1=k∧getS (pureSt sl).slots k=.d p.2:=by
 induction sl with
 |nil=>exact .inl rfl
 |cons p sl ih=>
  simp only[pureSt,List.map_cons,getS];by_cases hk:p.1=k
  ·right;exact⟨p,by simp,hk,by rw[if_pos hk]⟩
  ·rw[if_neg hk];rcases ih with h|⟨q,hq,e1,e2⟩
   ·exact .inl h
   ·exact .inr ⟨q,by simp[hq],e1,e2⟩
theorem Sim.fresh(hsz:tmps.size=N)(hl:Live w S)(hg:GlobOk P G w S)(sl)(hr:∀p∈sl,Rep w S p.2 (tmps.getD p.1 undef)):Sim (baseC P w S N G) (pureSt sl) tmps w S ⟨fun _=>none,fun _=>none,fun _=>none⟩:=by
 refine{size:=hsz,slots:=fun k=>?_,mem:=fun s cs hs=>(by simp[pureSt,getM]at hs),inj:=fun s s' b hs=>(by cases hs),boxNew:=fun _ _=>rfl,mps:={at':=fun s k e kvs hs=>(by simp[pureSt,getM]at hs),inj:=fun s s' b hs=>(by cases hs),new:=fun _ _=>rfl,lt:=fun s b hs=>(by cases hs),apart:=fun s b hs=>(by cases hs)},tok:=fun t ht=>(by simp[pureSt,getT]at ht),tokNew:=fun _ _=>rfl,
        below:=BelowO.refl _,old:=fun _ _ hs=>hs,new:=fun _ _ hs=>.inl hs,live:=hl,glob:=hg.1,ex:=hg.2,fx:=fun k hk=>(by cases hk),obs:=fun p hp=>(by cases hp),keeps:=fun p hp=>(by cases hp),pins:=Pins.nil rfl rfl}
 rcases yXq sl k with h|⟨p,hp,rfl,h⟩
 ·rw[h];trivial
 ·rw[h];exact hr p hp
structure YCtx(P:Program)(G:Nat→Option (List D))(l:Nat)(xs:List (List CV))(J:List (List CV)→World→Safe→Prop)(Jx:World→Safe→Prop):Prop where
 grow:∀pre W S1 W' S2,J pre W S1→Grows W S1 W' S2→J pre W' S2
 growx:∀W S1 W' S2,Jx W S1→Grows W S1 W' S2→Jx W' S2
 live:∀pre W S1,J pre W S1→Live W S1
 livex:∀W S1,Jx W S1→Live W S1∧P.globals.size≤W.heap.size
 glob:∀pre W S1,J pre W S1→GlobOk P G W S1
 yield:∀pre x rest W S1 vs,xs=pre++x::rest→J pre W S1→RepCL W S1 x vs→YieldAt Fence.wide 0 P l vs.toArray W fun e W'=>
   (e=.returned (.bool true)∧∃S2,J (pre++[x]) W' S2∧Keeps W S1 W' S2)∨(e=.returned (.bool false)∧∃S2,Jx W' S2)
variable{l:Nat}{xs:List (List CV)}{J:List (List CV)→World→Safe→Prop}{Jx:World→Safe→Prop}
def EvY(P:Program)(xs:List (List CV))(J:List (List CV)→World→Safe→Prop)(Jx:World→Safe→Prop)(f:FuncId)(args:List CV)(ys:List (List CV)):Prop:=
 Enters P f∧∀(a b:List (List CV)) (W:World) (S:Safe) (cargs:Array Value),xs=a++ys++b→J a W S→RepCL W S args cargs.toList→
  Calls P f cargs W fun e W'=>(e=.returned (.bool true)∧∃S2,J (a++ys) W' S2∧Keeps W S W' S2)∨(e=.returned (.bool false)∧∃S2,Jx W' S2)
theorem YCtx.of{base}{J:List (List CV)→World→Safe→(Nat→Prop)→Prop}{Jx:World→Safe→(Nat→Prop)→Prop}{S0 w}(hb:base=w.heap.size)(hgl:GlobOk P G w S0)
  (hgrow:∀pre W S1 Y W' S2,J pre W S1 Y→GrowsB base Y W S1 W' S2→J pre W' S2 Y) (hgrowx:∀W S1 Y W' S2,Jx W S1 Y→GrowsB base Y W S1 W' S2→Jx W' S2 Y)
  (hlk:∀pre W S1 Y,J pre W S1 Y→Live W S1∧Keeps w S0 W S1∧Exact P G W∧base≤W.heap.size∧∀k,Y k→k<W.heap.size)
  (hlx:∀W S1 Y,Jx W S1 Y→Live W S1∧Exact P G W∧base≤W.heap.size∧∀k,Y k→k<W.heap.size)
  (hy:∀pre x rest W S1 Y vs,xs=pre++x::rest→J pre W S1 Y→RepCL W S1 x vs→YieldAt Fence.wide 0 P l vs.toArray W fun e W'=>
   (e=.returned (.bool true)∧∃S2 Y2,J (pre++[x]) W' S2 Y2∧FrameY Y W S1 W' S2 Y2)∨(e=.returned (.bool false)∧∃S2 Y2,Jx W' S2 Y2∧FrameY Y W S1 W' S2 Y2)):
  YCtx P G l xs (fun pre W S1=>∃Y,J pre W S1 Y) (fun W S1=>∃Y,Jx W S1 Y):=by
 have toB:∀{W W':World} {S1 S2:Safe} {Y:Nat→Prop},Live W S1→base≤W.heap.size→(∀k,Y k→k<W.heap.size)→Grows W S1 W' S2→GrowsB base Y W S1 W' S2:=fun{W W' S1 S2 Y} hl hsz hY hg=>
  ⟨⟨hg.1.os,hg.1.tape,hg.1.output,hg.1.size,fun k hk=>by
   by_cases hlt:k<W.heap.size
   ·exact hg.1.block k hlt
   ·exact absurd ⟨by omega,fun e=>hlt (hY k e)⟩ hk⟩,Grows.keeps hg hl,fun b o hs=>(hg.2.2.1 b o hs).imp id fun e=>⟨by omega,fun e2=>by have:=hY b e2;omega⟩,hg.2.2.2⟩
 refine⟨?_,?_,?_,?_,?_,?_⟩
 ·rintro pre W S1 W' S2 ⟨Y,hJ⟩ hg
  obtain⟨k1,_,_,k4,k5⟩:=hlk _ _ _ _ hJ;exact⟨Y,hgrow _ _ _ _ _ _ hJ (toB k1 k4 k5 hg)⟩
 ·rintro W S1 W' S2 ⟨Y,hJ⟩ hg
  obtain⟨k1,_,k4,k5⟩:=hlx _ _ _ hJ;exact⟨Y,hgrowx _ _ _ _ _ hJ (toB k1 k4 k5 hg)⟩
 ·rintro pre W S1 ⟨Y,hJ⟩;exact(hlk _ _ _ _ hJ).1
 ·rintro W S1 ⟨Y,hJ⟩;exact⟨(hlx _ _ _ hJ).1,(hlx _ _ _ hJ).2.1.1⟩
 ·rintro pre W S1 ⟨Y,hJ⟩
  obtain⟨_,k2,k3,_⟩:=hlk _ _ _ _ hJ;exact⟨fun g c hg=>RepCs.keep k2 _ _ _ (hgl.1 g c hg),k3⟩
 ·rintro pre x rest W S1 vs hx ⟨Y,hJ⟩ hr
  obtain⟨fn,tm,as,bd,h1,h2⟩:=hy pre x rest W S1 Y vs hx hJ hr;refine⟨fn,tm,as,bd,h1,h2.mono ?_⟩
  rintro e W' (⟨rfl,S2,Y2,hJ2,hf⟩|⟨rfl,S2,Y2,hJ2,hf⟩)
  ·exact .inl ⟨rfl,S2,⟨Y2,hJ2⟩,hf.2.1⟩
  ·exact .inr ⟨rfl,S2,Y2,hJ2⟩
theorem yJK{o:Oper}{d f' args'}(h:trOp T o.dst o.op=some (.call d f' args')):∃f args argTypes,o.dst=d∧o.op=.call {callee:=.value f,args:=args,argTypes:=argTypes}∧trX f=some f'∧trXs args.toList=some args':=by
 have hd:=zJU h;simp only[DstIs]at hd;generalize o.op=op at h;cases op<;>simp only[trOp]at h;case call cl=>
  obtain⟨callee,args,argTypes⟩:=cl;cases callee<;>simp only[trCall,Option.bind_eq_bind,Option.pure_def,reduceCtorEq]at h;case value f=>
   split at h
   ·obtain⟨_,_,h⟩:=zzc h;obtain⟨_,_,h⟩:=zzc h;cases h
   obtain⟨f1,hf,h⟩:=zzc h;obtain⟨xs1,hxs,h⟩:=zzc h;cases h;exact⟨f,args,argTypes,hd,rfl,hf,hxs⟩
  case builtin b=>
   exfalso;by_cases hbc:b=.clear
   ·subst hbc;simp only at h;unfold trClear at h
    repeat' (first|(cases h;done)|(obtain⟨_,_,h⟩:=zzc h)|split at h)
   by_cases hbo:b=.copy
   ·subst hbo;simp only at h;unfold trCopy at h
    repeat' (first|(cases h;done)|(obtain⟨_,_,h⟩:=zzc h)|split at h)
   replace h:(o.dst>>=fun d=>trBuiltin T d b args.toList argTypes.toList)=some (.call d f' args'):=by cases b<;>first|exact h|exact absurd rfl hbc|exact absurd rfl hbo
   obtain⟨_,_,h⟩:=zzc h;unfold trBuiltin at h
   repeat' (first|(cases h;done)|(obtain⟨_,_,h⟩:=zzc h)|split at h)
 case binOp op t x y t'=>
  exfalso;unfold trBin at h
  repeat' (first|(cases h;done)|(obtain⟨_,_,h⟩:=zzc h)|split at h)
 case unOp u t x=>
  exfalso;unfold trUn at h
  repeat' (first|(cases h;done)|(obtain⟨_,_,h⟩:=zzc h)|split at h)
 case makeMap t rs=>
  exfalso;cases rs with
  |some _=>cases h
  |none=>repeat' (first|(cases h;done)|(obtain⟨_,_,h⟩:=zzc h)|split at h)
 case pick x y z=>
  exfalso;obtain⟨_,_,h⟩:=zzc h;unfold trPick at h
  repeat' (first|(cases h;done)|(obtain⟨_,_,h⟩:=zzc h)|split at h)
 case slice t x lo hi mx=>
  exfalso;cases mx with
  |some m=>
   cases hi with
   |none=>cases h
   |some hi=>
   obtain⟨_,_,h⟩:=zzc h;cases lo;all_goals
    repeat' (first|(cases h;done)|(obtain⟨_,_,h⟩:=zzc h)|split at h)
  |none=>
  obtain⟨_,_,h⟩:=zzc h;cases lo<;>cases hi;all_goals
   repeat' (first|(cases h;done)|(obtain⟨_,_,h⟩:=zzc h)|split at h)
 all_goals
  exfalso
  repeat' (first|(cases h;done)|(obtain⟨_,_,_,_,e⟩:=zVD h;cases e;done)|(obtain⟨_,_,h⟩:=zzc h)|split at h)
end Go.Abs
end
section
namespace Go.Abs
open Go.RowKit
variable{c:Ctx}{st:St}{tmps:Array Value}{w:World}{S:Safe}{ρ:Rho}{E:AEnv}{T:Nat→Option Ty}{P:Program}{G:Nat→Option (List D)}{N:Nat}
variable{l:Nat}{xs:List (List CV)}{J:List (List CV)→World→Safe→Prop}{Jx:World→Safe→Prop}
theorem zWA(hG:E.G=c.G)(hC:∀f args r,E.C f args r→Ev c.P c.G f args r)(hT:∀t ty,T t=some ty→chkTy c.P t ty=true){ops:Array Oper}{l}(htr:trOps T ops.toList=some l)
  (hdst:∀o∈ops.toList,∀d,o.dst=some d→c.D d) {F} (hF:FW F) (m) (Q) {K} (rest):
  ∀(n k) {st} {tmps} {w} {S} {ρ},k+n≤ops.size→(∀a w,Goes c K a w→wpOpsIn F m c.P ops Q rest a w)→Sim c st tmps w S ρ→aops E ((l.drop k).take n) K st→wpOpsIn F m c.P ops Q (List.range' k n++rest) ⟨tmps,c.ds⟩ w:=by
 obtain⟨hlen,hget⟩:=zyG htr;simp only[Array.length_toList]at hlen;intro n;induction n with
 |zero=>intro k st tmps w S ρ hk hQ h hK;simp only[List.take_zero,aops]at hK;exact hQ _ _ ⟨rfl,_,_,_,h,hK⟩
 |succ n ih=>
  intro k st tmps w S ρ hk hQ h hK;have hlt:k<ops.size:=by omega
  obtain⟨gi,i,hl,htg,hti⟩:=hget k ops[k] (by simp[hlt]);have hdrop:l.drop k=(gi,i)::l.drop (k+1):=by
   have hkl:k<l.length:=by omega
   rw[List.drop_eq_getElem_cons hkl];congr 1;have:=List.getElem?_eq_getElem hkl;rw[this]at hl;exact Option.some.inj hl
  rw[hdrop,List.take_succ_cons]at hK;simp only[aops]at hK;rw[List.range'_succ,List.cons_append,wpOpsIn_cons];refine zVG hG hC hT h (Array.getElem?_eq_getElem hlt) htg hti (hdst _ (by simp)) hK ?_ Q hF m
  rintro⟨tmps',ds'⟩ w' ⟨hds,st',S',ρ',h',hK'⟩
  simp only at hds;subst hds;exact ih (k+1) (by omega) hQ h' hK'
def quietE(G:Nat→Option (List D)):AEnv:=⟨G,fun _ _ _=>False,fun _ _ _=>False⟩
theorem zqe(hT:∀t ty,T t=some ty→chkTy P t ty=true){W1 S1 cd l}(h:tr T N cd=some (.reg l))(hs:Sim (baseC P W1 S1 N G) st tmps w S ρ){K}(hK:aops (quietE G) l K st)
  {Q} {m} (hQ:∀st' tmps' w' S' ρ',Sim (baseC P W1 S1 N G) st' tmps' w' S' ρ'→K st'→Q .normal ⟨tmps',[]⟩ w'):cd.wpIn (FR none) m P Q ⟨tmps,[]⟩ w:=by
 obtain⟨id,ops,rfl,hops,hok⟩:=yqV h;refine wpIn_region ?_;rw[List.range_eq_range'];refine yzg (c:=baseC P W1 S1 N G) (E:=quietE G) rfl (fun _ _ _ h=>h.elim) hT hops (fun o ho d hd=>⟨zY0 hok ho hd,rfl⟩) (FR.fw none) m Q (K:=K) ?_ ops.size 0 (by omega) hs hK
 rintro⟨tm,ds⟩ w' ⟨hd,st',S',ρ',h',hk'⟩
 simp only at hd;subst hd;exact hQ _ _ _ _ _ h' hk'
theorem zqO{W1 S1 x y z g}(hx:trX x=some g)(hs:Sim (baseC P W1 S1 N G) st tmps w S ρ){b}(hg:ev st g=.d (.bool b))(hgd:gd st g=true){Q m}
  (ht:b=true→y.wpIn (FR none) m P Q ⟨tmps,[]⟩ w) (hf:b=false→z.wpIn (FR none) m P Q ⟨tmps,[]⟩ w):(Code.cond x y z).wpIn (FR none) m P Q ⟨tmps,[]⟩ w:=by
 have hev:=hs.ev (ds:=[]) hx hgd;rw[hg]at hev;simp only[RepA,Rep]at hev;exact wpIn_cond_split hev ht hf
theorem zXe{ops k o}(ho:ops[k]? =some o)(hg:trGuard ops.toList o.guard=some none){F m K Q a}(h:o.wpIn F m P a w K Q):wpOpIn F m P ops Q k K a w:=by
 have hgn:o.guard=none:=by
  cases hgu:o.guard with
  |none=>rfl
  |some jw=>rw[hgu]at hg;simp only[trGuard,Option.bind_eq_bind,Option.pure_def,Option.bind_eq_some_iff,Option.some.injEq]at hg;obtain⟨_,_,_,_,hg⟩:=hg;cases hg
 unfold wpOpIn;simp only[ho];rw[if_pos (by unfold Region.wanted;rw[hgn])];exact h
theorem yWE{l f tm as bd R m}(h:RoundIn Fence.wide 0 P l f tm as bd w R):RoundIn (FR none) m P l f tm as bd w R:=
 ⟨trivial,fun c cs _=>h.2 c cs (room_wide _)⟩
theorem yJo(hY:YCtx P G l xs J Jx){W1 S1 a b x}(hxs:xs=a++x::b)(hJ:J a W1 S1)(h:Sim (baseC P W1 S1 N G) st tmps w S ρ){o:Oper}{d f' args'}(htr:trOp T o.dst o.op=some (.call (some d) f' args'))(hd:d<N)
  (hf:ev st f'=.d (.yl l)) (hgf:gd st f'=true) (hga:gds st args'=true) (hx:toCVs [] 1 (evs st args')=some x) (sl) (hsl:∀p∈sl,AV.toD st.mem 4 (getS st.slots p.1)=some p.2) {m} {K} {Q}
  (hT:∀W' S2 ρ',J (a++[x]) W' S2→Keeps w S W' S2→Sim (baseC P W' S2 N G) ((pureSt sl).put none d (.d (.bool true))) (tmps.setIfInBounds d (.bool true)) W' S2 ρ'→K ⟨tmps.setIfInBounds d (.bool true),[]⟩ W')
  (hF:∀W' S2 ρ',Jx W' S2→Sim (baseC P W' S2 N (fun _=>none)) ((pureSt []).put none d (.d (.bool false))) (tmps.setIfInBounds d (.bool false)) W' S2 ρ'→K ⟨tmps.setIfInBounds d (.bool false),[]⟩ W'):
  o.wpIn (FR none) m P ⟨tmps,[]⟩ w K Q:=by
 obtain⟨f,args,argTypes,hdst,hop,hfx,hax⟩:=yJK htr;have e1:=h.ev (ds:=[]) hfx hgf;rw[hf]at e1;simp only[RepA,Rep]at e1;obtain⟨S',hg,hk,hup,hreps⟩:=h.purify sl hsl;have hJw:=hY.grow _ _ _ _ _ hJ hg;have e2:=zjV (zyp (w:=w) (S:=S') (ρ:=ρ)) 1 (RepAs.keep hk ρ.le_refl _ _ (h.evs (ds:=[]) hax hga)) hx;obtain⟨fn,tm,as,bd,hrun,hR⟩:=hY.yield a x b w S' _ hxs hJw e2;have hrun':(execOp (Act.eval ⟨tmps,[]⟩) o).run P w=.ok (.round l fn tm as bd) w:=by
  unfold execOp;simp only[hop];have:(args.toList.map (Act.eval ⟨tmps,[]⟩)).toArray=args.map (Act.eval ⟨tmps,[]⟩):=by rw[←Array.toList_map]
  rw[this]at hrun;simp[resolve,Deferred.ofValue,e1,invoke,hrun]
 refine⟨fun _ _=>trivial,?_⟩;rw[Oper.semAt_eq _ _ _ (fun c hc=>by rw[hop]at hc;cases hc),hrun',Oper.uponIn_round];refine⟨(by intro hd;cases hd),(yWE hR).mono ?_⟩
 rintro e W' (⟨rfl,S2,hJ2,hk2⟩|⟨rfl,S2,hx2⟩)
 ·simp only[Act.put,hdst];have hs:=Sim.fresh (P:=P) (G:=G) (N:=N) h.size (hY.live _ _ _ hJ2) (hY.glob _ _ _ hJ2) sl (fun p hp=>Rep.keep hk2 _ _ (hreps p hp));exact hT W' S2 _ hJ2 (hk.trans hk2) (hs.put (d:=d) ⟨hd,rfl⟩ (a:=.d (.bool true)) (v:=.bool true) rfl none (fun b hb=>by cases hb))
 ·simp only[Act.put,hdst];have hs:=Sim.fresh (P:=P) (G:=fun _=>none) (N:=N) h.size (hY.livex _ _ hx2).1 ⟨fun g cs hg=>(by cases hg),(hY.livex _ _ hx2).2,fun g cs _ hg=>(by cases hg)⟩ [] (fun p hp=>by cases hp);exact hF W' S2 _ hx2 (hs.put (d:=d) ⟨hd,rfl⟩ (a:=.d (.bool false)) (v:=.bool false) rfl none (fun b hb=>by cases hb))
theorem yJz(hY:YCtx P G l xs J Jx){W1 S1 a b ys}(hxs:xs=a++ys++b)(hJ:J a W1 S1)(h:Sim (baseC P W1 S1 N G) st tmps w S ρ){o:Oper}{d f' args'}(htr:trOp T o.dst o.op=some (.call (some d) f' args'))(hd:d<N){fid cvs}
  (hf:ev st f'=.d (.clo fid [])) (hgf:gd st f'=true) (hga:gds st args'=true) (hx:toCVs [] 1 (evs st args')=some cvs) (hV:EvY P xs J Jx fid cvs ys) (sl) (hsl:∀p∈sl,AV.toD st.mem 4 (getS st.slots p.1)=some p.2) {m} {K} {Q}
  (hT:∀W' S2 ρ',J (a++ys) W' S2→Keeps w S W' S2→Sim (baseC P W' S2 N G) ((pureSt sl).put none d (.d (.bool true))) (tmps.setIfInBounds d (.bool true)) W' S2 ρ'→K ⟨tmps.setIfInBounds d (.bool true),[]⟩ W')
  (hF:∀W' S2 ρ',Jx W' S2→Sim (baseC P W' S2 N (fun _=>none)) ((pureSt []).put none d (.d (.bool false))) (tmps.setIfInBounds d (.bool false)) W' S2 ρ'→K ⟨tmps.setIfInBounds d (.bool false),[]⟩ W'):
  o.wpIn (FR none) m P ⟨tmps,[]⟩ w K Q:=by
 obtain⟨f,args,argTypes,hdst,hop,hfx,hax⟩:=yJK htr;have e1:=h.ev (ds:=[]) hfx hgf;rw[hf]at e1;obtain⟨cs,hv,hcaps⟩:=e1;simp only[RepL]at hcaps;have hcs:cs=#[]:=by cases cs;simp_all
 subst hcs;obtain⟨S',hg,hk,hup,hreps⟩:=h.purify sl hsl;have hJw:=hY.grow _ _ _ _ _ hJ hg;have e2:=zjV (zyp (w:=w) (S:=S') (ρ:=ρ)) 1 (RepAs.keep hk ρ.le_refl _ _ (h.evs (ds:=[]) hax hga)) hx;obtain⟨⟨fn,hfn,hname,hbody⟩,hcalls⟩:=hV;have hrun':(execOp (Act.eval ⟨tmps,[]⟩) o).run P w=.ok (.enter fid (args.map (Act.eval ⟨tmps,[]⟩))) w:=by
  unfold execOp;simp only[hop];have hname':¬fn.name= "runtime.NumGoroutine":=by simpa using hname
  have hbody':¬fn.body=none:=by intro e;simp[e]at hbody
  simp[resolve,invoke,callFunc,Deferred.ofValue,hv,hfn,hname',hbody']
 refine⟨fun _ _=>trivial,?_⟩;rw[Oper.semAt_eq _ _ _ (fun c hc=>by rw[hop]at hc;cases hc),hrun',Oper.uponIn_enter];refine⟨(by intro hd;cases hd),zK1 (FR.fw none) ((hcalls a b w S' _ hxs hJw (by simpa using e2)).mono ?_)⟩
 rintro e W' (⟨rfl,S2,hJ2,hk2⟩|⟨rfl,S2,hx2⟩)
 ·simp only[Act.put,hdst];have hs:=Sim.fresh (P:=P) (G:=G) (N:=N) h.size (hY.live _ _ _ hJ2) (hY.glob _ _ _ hJ2) sl (fun p hp=>Rep.keep hk2 _ _ (hreps p hp));exact hT W' S2 _ hJ2 (hk.trans hk2) (hs.put (d:=d) ⟨hd,rfl⟩ (a:=.d (.bool true)) (v:=.bool true) rfl none (fun b hb=>by cases hb))
 ·simp only[Act.put,hdst];have hs:=Sim.fresh (P:=P) (G:=fun _=>none) (N:=N) h.size (hY.livex _ _ hx2).1 ⟨fun g cs hg=>(by cases hg),(hY.livex _ _ hx2).2,fun g cs _ hg=>(by cases hg)⟩ [] (fun p hp=>by cases hp);exact hF W' S2 _ hx2 (hs.put (d:=d) ⟨hd,rfl⟩ (a:=.d (.bool false)) (v:=.bool false) rfl none (fun b hb=>by cases hb))
theorem yqO(hT:∀t ty,T t=some ty→chkTy P t ty=true){W1 S1 fn k}(hrs:fn.results.toList.mapM (trRes T)=some [.t k])(h:Sim (baseC P W1 S1 N G) st tmps w S ρ)(hm:st.mem=[]){b}(hk:getS st.slots k=.d (.bool b)):(results fn tmps).run P w=.ok (.bool b) w:=by obtain⟨vs,hrun,hrep⟩:=zZV (c:=baseC P W1 S1 N G) h hT (fun _ _ h=>h) (by rw[hm];exact zyp) hrs (l:=[.one (.bool b)]) (by simp[resCVs,resCV,resAV,hk,AV.toCV,AV.toD]);obtain⟨v,r',q1,q2,q3⟩:=hrep;simp only[RepCL]at q3;subst q3;subst q1;simp only[RepC,Rep]at q2;subst q2;rw[zvh,Array.mapM_eq_mapM_toList];have hrunP:(fn.results.toList.mapM (rvRun tmps)).run P w=.ok [.bool b] w:=hrun;simp only[Sem.run_bind,Sem.run_map,hrunP];simp
end Go.Abs
end
section
namespace Go.Abs
open Go.RowKit
variable{T:Nat→Option Ty}{P:Program}{G:Nat→Option (List D)}{N:Nat}{E:AEnv}{st:St}{tmps:Array Value}{w:World}{S:Safe}{ρ:Rho}
def cy(P:Program)(G:Nat→Option (List D))(N:Nat)(pn:List (Nat×Nat))(w:World)(S:Safe)(X:List Nat):Ctx:={P:=P,G:=G,w0:=w,S0:=S,N:=N,X:=X,kx:=some (w,S),pin:=pn}
variable{l base:Nat}{xs:List (List CV)}{J:Option (List (List CV))→World→Safe→(Nat→Prop)→Prop}{o:Option (List (List CV))}{pn:List (Nat×Nat)}{z:World×Safe}
def YSim(P:Program)(G:Nat→Option (List D))(N:Nat)(pn:List (Nat×Nat))(z:World×Safe)(base:Nat)(J:Option (List (List CV))→World→Safe→(Nat→Prop)→Prop)(o:Option (List (List CV)))(st:St)(tmps:Array Value)(w:World)(S:Safe)(ρ:Rho):Prop:=
 ∃X Y,Sim (cy P G N pn w S X) st tmps w S ρ∧J o w S Y∧(∀b∈X,base≤b∧b<w.heap.size∧¬Y b)∧Keeps z.1 z.2 w S
theorem YSim.put(h:YSim P G N pn z base J o st tmps w S ρ){d}(hd:d<N){a v}(hv:RepA w S ρ a v):YSim P G N pn z base J o (st.put none d a) (tmps.setIfInBounds d v) w S ρ:=by obtain⟨X,Y,hs,h1,h2⟩:=h;exact⟨X,Y,hs.put ⟨hd,rfl⟩ hv none (fun b hb=>by cases hb),h1,h2⟩
end Go.Abs
end
section
namespace Go.Abs
open Go.RowKit
variable{T:Nat→Option Ty}{P:Program}{G:Nat→Option (List D)}{N:Nat}{E:AEnv}{st:St}{tmps:Array Value}{w:World}{S:Safe}{ρ:Rho}
variable{l base:Nat}{xs:List (List CV)}{J:Option (List (List CV))→World→Safe→(Nat→Prop)→Prop}{o:Option (List (List CV))}{pn:List (Nat×Nat)}{z:World×Safe}
theorem YSim.eq(h:YSim P G N pn z base J o st tmps w S ρ){st1}(he:StEq st1 st):YSim P G N pn z base J o st1 tmps w S ρ:=by obtain⟨X,Y,hs,h1,h2⟩:=h;exact⟨X,Y,hs.eq he,h1,h2⟩
end Go.Abs
end
section
namespace Go.Abs
theorem yKD{E Q st}:awp E .skip Q st=Q .normal st:=rfl
theorem yJ5{E l Q st}:awp E (.reg l) Q st=aops E l (Q .normal) st:=rfl
theorem yYG{E p r a b Q st}:awp E (.regd2 p a b r) Q st=aopsN E p (fun s=>aopsN E (a::b::r) (Q .normal) s∧aopsN E (b::a::r) (Q .normal) s) st:=rfl
theorem yKy{E D l Q st}:awp E (.regk D l) Q st=regkW D E l (Q .normal) st:=rfl
theorem yq5{D F E K st}:aopsNK D F E [] K st=K st:=rfl
theorem yvp{D F E g o os K st}:aopsNK D F E ((g,o)::os) K st=(chkK D F st o∧aopN E g o st (fun s=>(modK o=true→keepsF F st s)∧aopsNK D F E os K s)):=rfl
theorem zWI{D E l K st}(F)(h:aopsNK D F E l K st):regkW D E l K st:=⟨F,h⟩
theorem yKz{E F l Q st}:awp E (.regn F l) Q st=aopsNF F E l (Q .normal) st:=rfl
theorem yq4{F E K st}:aopsNF F E [] K st=K st:=rfl
theorem yvo{F E g o os K st}:aopsNF F E ((g,o)::os) K st=(chkF F st o∧aopN E g o st (aopsNF F E os K)):=rfl
theorem yKx{E l Q st}:awp E (.regd l) Q st=aopsN E l (Q .normal) st:=rfl
theorem yKC{E l Q st}:awp E (.regz l) Q st=frzW E l (Q .normal) st:=rfl
theorem yKA{E l Q st}:awp E (.regq l) Q st=aopsN E l (fun s=>Q .normal (st.thaw (wrsOf l) s)) st.frzAll:=rfl
attribute [go_sem] yKC yKA St.frzAll St.thaw thawS wrsOf flatOf frzA Option.toList_some Option.toList_none
theorem yxw{E c a b Q st}:awp E (.cond c a b) Q st=match ev st c with
  |.d (.bool x)=>gd st c=true∧(if x=true then awp E a Q st else awp E b Q st)
  |_=>False:=by
 simp only[awp];generalize ev st c=v;cases v with
 |d x=>
  cases x with
  |bool x=>cases x<;>simp
  |_=>rfl
 |_=>rfl
theorem zyt{E id c Q st}:awp E (.block id c) Q st=awp E c (blockK id Q) st:=rfl
theorem yKw{E id Q st}:awp E (.exit id) Q st=Q (.exit id) st:=rfl
theorem yJ6{E Q st}:awp E .ret Q st=Q .ret st:=rfl
theorem yKt{E K st}:aops E [] K st=K st:=rfl
theorem yYz{E g o os K st}:aops E ((g,o)::os) K st=aop E g o st (aops E os K):=rfl
theorem yYy{E K st}:aopsN E [] K st=K st:=rfl
theorem yq6{E g o os K st}:aopsN E ((g,o)::os) K st=aopN E g o st (aopsN E os K):=rfl
theorem yjF{N Q s}:seqK N Q .normal s=N s:=rfl
theorem yWR{N Q s i}:seqK N Q (.exit i) s=Q (.exit i) s:=rfl
theorem yV4{N Q s}:seqK N Q .ret s=Q .ret s:=rfl
theorem yxx{id Q s}:blockK id Q .normal s=Q .normal s:=rfl
theorem yvw{id i Q s}:blockK id Q (.exit i) s=if i=id then Q .normal s else Q (.exit i) s:=rfl
theorem yZa{id Q s}:blockK id Q .ret s=Q .ret s:=rfl
theorem yjA{rs r st}:retK rs r .normal st=retOk st r rs:=rfl
theorem yVX{rs r st}:retK rs r .ret st=retOk st r rs:=rfl
theorem yZe(xs:List D):cells1 (xs.map AV.d)=true:=by
 induction xs with
 |nil=>rfl
 |cons x xs ih=>exact ih
theorem yJc(m)(n)(xs):toDs m n (xs.map AV.d)=some xs:=by
 induction xs with
 |nil=>rfl
 |cons x xs ih=>cases n<;>simp[toDs,AV.toD,ih]
theorem yYN{v g d K st as x}:callK v g (some d) K st as (.one x)=K (st.put g d (.d x)):=rfl
theorem yYM{v g d K st as x}:callK v g (some d) K st as (.agg x)=K (st.put g d (.agg (x.map .d))):=rfl
theorem yYP{v g d K st as x}:callK v g (some d) K st as (.tup x)=K (st.put g d (.tup (CV.toAV0s x))):=rfl
theorem yYO{v g d K st as a sz es}:callK v g (some d) K st as (.own a sz es)=((g=none∧getT st.tk d=none∧argOwn st.tk as sz a)∧K {(st.put none d (.own d sz es))with tk:=(d,true)::tkUse (ownTok as a) st.tk}):=rfl
theorem yvE{v g K st as x}:callK v g none K st as (.one x)=K st:=rfl
theorem yvF{v g K st as x}:callK v g none K st as (.agg x)=K st:=rfl
theorem yvG{v g K st as x}:callK v g none K st as (.tup x)=K st:=rfl
theorem yk3{rs sz es st}:retKO rs sz es .normal st=retOwn st sz es rs:=rfl
theorem yWA{rs sz es st}:retKO rs sz es .ret st=retOwn st sz es rs:=rfl
theorem yKK{v g d K st as sz es}:callK v g (some d) K st as (.vc sz es)=((v=true∧g=none∧getM st.mem d=none)∧(es=[]→K (st.put none d (.d (.lst []))))∧(es≠[]→∀cap,es.length≤cap→cap≤9223372036854775807→
  K {(st.put none d (.vec d sz 0 es.length cap))with mem:=(d,es.flatten.map .d++List.replicate (cap*sz-es.length*sz) .undef)::st.mem})):=rfl
theorem yKO(m:Mem)(x):AV.elemsM m (.d x)=AV.elems (.d x):=rfl
theorem yvO(m:Mem)(es):AV.elemsM m (.full es)=some es:=rfl
theorem yZl(m:Mem)(t sz)(es):AV.elemsM m (.own t sz es)=some es:=rfl
theorem yQm(x):AV.isVec (.d x)=false:=rfl
theorem yZx(es):AV.isVec (.full es)=false:=rfl
theorem yXG(t sz)(es):AV.isVec (.own t sz es)=false:=rfl
theorem yXH(s e o n c):AV.isVec (.vec s e o n c)=true:=rfl
attribute [go_sem] yKK yKO yvO yZl yQm yZx yXG yXH
theorem zza{v}{E:AEnv}{f args r g d K st as}(h:E.C f args r)(hk:callK v g d K st as r):∃r,E.C f args r∧callK v g d K st as r:=⟨r,h,hk⟩
theorem zJ4{E c Q st}:awp E (.scope c) Q st=awp E c Q st:=rfl
theorem yJ4{E Q st}:awp E .lab Q st=Q .normal st:=rfl
theorem yYE{E a b Q st}:awp E (.alt a b) Q st=(awp E a Q st∧awp E b Q st):=rfl
theorem yXb(t)(xs)(l:List D):AV.fills t xs (l.map .d)=l.map .d:=by
 induction l with
 |nil=>rfl
 |cons x l ih=>simp only[List.map_cons,AV.fills,AV.fill,ih]
theorem yQ8(t)(xs)(x):AV.fill t xs (.d x)=.d x:=by simp only[AV.fill]
theorem yY9(t)(xs)(x):AV.fill t xs (.full x)=.full x:=by simp only[AV.fill]
theorem yKX(t)(xs)(s o):AV.fill t xs (.ptr s o)=.ptr s o:=by simp only[AV.fill]
theorem yZo(t)(xs):AV.fill t xs .undef=.undef:=by simp only[AV.fill]
theorem yXa(t)(xs)(s):AV.fill t xs (.mref s)=.mref s:=by simp only[AV.fill]
theorem yKU(t)(xs)(k e)(l):AV.fill t xs (.mp k e l)=.mp k e l:=by simp only[AV.fill]
theorem yKZ(t)(xs)(s e o n c):AV.fill t xs (.vec s e o n c)=.vec s e o n c:=by simp only[AV.fill]
theorem yK0(t)(xs)(m s):AV.fill t xs (.zsl m s)=.zsl m s:=by simp only[AV.fill]
theorem yKV(t)(xs)(u sz)(es):AV.fill t xs (.own u sz es)=if u=t then .undef else .own u sz es:=by simp only[AV.fill]
theorem yKW(t)(xs)(m u sz)(es):AV.fill t xs (.pnd m u sz es)=if u=t then(if m=1 then .own u sz (es++[xs])else .pnd (m-1) u sz (es++[xs]))else .pnd m u sz es:=by simp only[AV.fill]
theorem yY8(t)(xs)(u sz):AV.fill t xs (.eptr u sz)=if u=t then .undef else .eptr u sz:=by simp only[AV.fill]
theorem yKS(t)(xs)(cs):AV.fill t xs (.agg cs)=.agg (AV.fills t xs cs):=by simp only[AV.fill]
theorem yKY(t)(xs)(cs):AV.fill t xs (.tup cs)=.tup (AV.fills t xs cs):=by simp only[AV.fill]
theorem yKT(t)(xs)(f)(cs):AV.fill t xs (.clo f cs)=.clo f (AV.fills t xs cs):=by simp only[AV.fill]
theorem yY7(t)(xs)(g)(a):AV.fill t xs (.cond g a)=.cond g (AV.fill t xs a):=by simp only[AV.fill]
attribute [go_sem] zJ4 yJ4 yYE yXb yQ8 yY9 yKX yZo yXa yKU yKZ yK0 yKV yKW yY8 yKS yKY yKT yY7 AV.fills fillSlots fillMem St.fill AV.isZsl AV.isEptr
theorem yj1{E f caps cvs r g d gs K st as sk}(hc:toCVs st.mem 3 as=some cvs)(hf:r.flat=true)(hg:onG g (gs=true))(h:E.C f (cvs++caps.map .one) r)(hk:callK false g d K st as r):callW E g d f caps gs as K st sk:=
 .inl (.inl (by rw[hc];exact .inl ⟨r,by cases g with|none=>exact⟨hg,hf,h⟩|some b=>exact fun hb=>⟨hg hb,hf,h⟩,hk⟩))
theorem yxz{E f caps d gs K st as sk}(x)(h:E.C f [] (.bx x.as0 x.m0 (tkOf x.τ) x.r x.m1 (tkOf x.τ1)))(hr:x.r.isOwn=false)(hg:gs=true)(ho:okB st (as++caps.map .d) x)(hk:K (afterB st d x)):callW E none d f caps gs as K st sk:=
 .inl (.inr (.inl ⟨x,⟨rfl,hg,hr,ho,h⟩,hk⟩))
theorem yj0{E f caps d gs K st as sk}(x)(h:E.C f [] (.bx x.as0 x.m0 (tkOf x.τ) x.r x.m1 (tkOf x.τ1)))(hr:x.r.isOwn=false)(hg:gs=true)(ho:okB st (as++caps) x)(hk:K (afterB st d x)):callC E none d f caps gs as K st sk:=
 .inl ⟨st,⟨[],rfl,rfl⟩,x,⟨rfl,hg,hr,ho,h⟩,hk⟩
theorem yz6{E f caps d gs K st as sk}(s)(hs:convS st s)(x)(h:E.C f [] (.bx x.as0 x.m0 (tkOf x.τ) x.r x.m1 (tkOf x.τ1)))(hr:x.r.isOwn=false)(hg:gs=true)(ho:okB s (as++caps) x)(hk:K (afterB s d x)):callC E none d f caps gs as K st sk:=
 .inl ⟨s,hs,x,⟨rfl,hg,hr,ho,h⟩,hk⟩
theorem yYK(l:List D):AV.boxeds (l.map .d)=false:=by
 induction l with
 |nil=>rfl
 |cons x l ih=>rw[List.map_cons,AV.boxeds,AV.boxed,ih];rfl
attribute [go_sem] mkC dsOf St.noBox dropB AV.boxed AV.boxeds yYK idxA lfromA ltoA lmaxA vecTo
theorem yvl(σ τ)(l:List D):Matches σ τ (l.map .d) (l.map .d)=True:=by
 induction l with
 |nil=>rfl
 |cons x l ih=>simp only[List.map_cons,Matches,Match1,Match0,AV.toD,true_and,ih]
theorem yVt(σ τ)(l:List D):(l.map AV.d).map (AV.ren1 σ τ)=l.map .d:=by rw[List.map_map];rfl
theorem yYu(l:List D):(l.map AV.d).all keep1=true:=by rw[List.all_map];exact List.all_eq_true.2 fun _ _=>rfl
attribute [go_sem] yvl yVt yYu
theorem yYA{a p}:appG none a p=p:=rfl
theorem yJ0{a p}:appG (some true) a p=p:=rfl
theorem yKu{a p}:appG (some false) a p=a:=rfl
theorem yVG:onB none=true:=rfl
theorem yVH{b}:onB (some b)=b:=by cases b<;>rfl
attribute [go_sem] yYA yJ0 yKu yVG yVH
theorem mapM_nil'{α β:Type}(f:α→Option β):[].mapM f=some []:=rfl
theorem mapM_cons'{α β:Type}(f:α→Option β)(a)(l):(a::l).mapM f=match f a with|some b=>(match l.mapM f with|some bs=>some (b::bs)|none=>none)|none=>none:=by
 simp only[List.mapM_cons,Option.bind_eq_bind,Option.pure_def];cases f a with
 |none=>rfl
 |some b=>cases l.mapM f<;>rfl
attribute [go_sem] mapM_nil' mapM_cons'
theorem zyl{v}{E:AEnv}{f args r b g d K st as}(h:E.C f args r)(hk:callK v g d K st as r):∃r,(b=true→b=true∧E.C f args r)∧callK v g d K st as r:=⟨r,fun hb=>⟨hb,h⟩,hk⟩
attribute [go_sem] yKy yq5 yvp chkK keepsF modK yKz yq4 yvo chkF yKD yJ5 yKx yYG yxw zyt yKw yJ6 yYN yYM yYP yYO yvE yvF yvG yk3 yWA ownTok tkUse argOwn retOwn initO
theorem yJ7{E g ps wl a b Q st}:awp E (.rng g ps wl a b) Q st=match ev st g with
  |.d (.clo f caps)=>gd st g=true∧∃xs,E.It f caps xs∧rngL (fun Q'=>awp E a (seqK (awp E b Q') noK)) ps wl xs Q st
  |_=>False:=rfl
theorem yjB{wl N Q s}:rngK wl N Q .normal s=N (s.dropW wl):=rfl
theorem yWC{wl N Q s i}:rngK wl N Q (.exit i) s=Q (.exit i) (s.dropW wl):=rfl
theorem yVY{wl N Q s}:rngK wl N Q .ret s=Q .ret (s.dropW wl):=rfl
theorem yJO{E:AEnv}{f caps xs B ps wl Q st}(h:E.It f caps xs)(Inv:List (List CV)→Prop)(Sx:List (List CV)→St)(h0:Ent st (Sx []))(hi:Inv [])
  (hr:∀pre x rest,xs=pre++x::rest→Inv pre→x.length=ps.length∧B (rngK wl (fun s=>Ent s (Sx (pre++[x]))∧Inv (pre++[x])) Q) {Sx pre with slots:=setPs ps x (Sx pre).slots}) (hq:Inv xs→Q .normal (Sx xs)):
  ∃xs,E.It f caps xs∧rngL B ps wl xs Q st:=⟨xs,h,Inv,Sx,h0,hi,hr,hq⟩
attribute [go_sem] yJ7 yjB yWC yVY setPs inN dropS St.dropW
theorem zJ5{E a b Q st}:awp E (.seq a b) Q st=awp E a (seqK (awp E b Q) Q) st:=rfl
theorem yXV(a b):likeD (.str a) (.str b)=true:=rfl
theorem yZF(a b):likeD (.bool a) (.bool b)=true:=rfl
theorem yXU(a b):likeD (.int .i64 a) (.int .i64 b)=true:=rfl
theorem ykq(a b):keyEq (.str a) (.str b)=(a==b):=rfl
theorem yZz(a b):keyEq (.bool a) (.bool b)=(a==b):=rfl
attribute [go_sem] eqDs likeDs ykq yZz
attribute [go_sem] yXV yZF yXU flatD plainD AV.isMp
attribute [go_sem] zJ5 guardOf onG getS getM getT ev ev0 gd AV.strip AV.grd gds evs evParts gdParts opv dstOf St.put AV.cells AV.elems rdMem asOne lenOf binA aopG aopW skipG skipK wrOf aop aopN yKt yYz yYy yq6
 yjF yWR yV4 yxx yvw yZa yjA yVX yZe yJc List.length_map fillA AV.solid cells1 toElems toDs AV.toD AV.toCV toCVs tkKill CV.toAV0 CV.toAV0s initSlots retOk resCV resCVs resAV
 EntSlots EntMem EntV EntC EntCs AV.plain AV.plains tkOf mpOk getTM convs conv1
 List.map_cons List.map_nil List.drop_zero List.drop_succ_cons List.drop_nil List.take_zero List.take_succ_cons List.take_nil List.length_cons List.length_nil List.headD_cons List.take_of_length_le Nat.le_refl List.cons_append List.nil_append List.append_nil
 List.getD_cons_zero List.getD_cons_succ List.set_cons_zero List.set_cons_succ List.getElem?_cons_zero List.getElem?_cons_succ
 reduceIte true_and and_true Bool.true_and Bool.and_true Bool.and_self Int.toNat_natCast Option.some.injEq forall_const true_implies
theorem yYn(m1)(mp)(l:List D):EntCs m1 mp (l.map .d) (l.map .d)=True:=by
 induction l with
 |nil=>rfl
 |cons x l ih=>simp[EntCs,EntC,ih]
attribute [go_sem] yYn
attribute [go_sem] Bool.or_self Bool.or_true Bool.true_or Bool.or_false Bool.false_or Bool.not_true Bool.not_false Bool.and_false Bool.false_and imp_self implies_true CV.one.injEq CV.tup.injEq CV.agg.injEq D.bool.injEq D.int.injEq D.str.injEq List.cons.injEq false_implies Int.natCast_nonneg Int.lt_irrefl Int.le_refl decide_true decide_false
theorem zze{st st1}(h:st1.tk=[]∧EntSlots st st1.mem [] st1.slots∧EntMem st st1.mem [] st1.mem):Ent st st1:=⟨[],[],_,rfl,h.1,trivial,h.2.1,h.2.2⟩
theorem zq7{E c Q}{α:Type}(S:α→St)(I:α→Prop)(μ:α→Nat)(a0){st}(h0:Ent st (S a0))(hi:I a0)
  (hstep:∀a,I a→awp E c (seqK (fun s=>∃a',Ent s (S a')∧I a'∧μ a'<μ a) Q) (S a)):awp E (.loop c) Q st:=by
 have key:∀(n:Nat) (a:α) {st:St},μ a<n→Ent st (S a)→I a→awp E (.loop c) Q st:=by
  intro n;induction n with
  |zero=>intro a st h;omega
  |succ n ih=>intro a st hn h0 hi;refine zJ3 h0 (zJC c (zjT (fun s h=>?_) fun _ _ h=>h) (hstep a hi));obtain⟨a',h1,h2,h3⟩:=h;exact ih a' (by omega) h1 h2
 exact key _ a0 (Nat.lt_succ_self _) h0 hi
theorem zzk{st st1}(mp)(h:st1.tk=tkOf mp∧mpOk st mp []∧EntSlots st st1.mem mp st1.slots∧EntMem st st1.mem mp st1.mem):Ent st st1:=⟨[],mp,st,rfl,h⟩
theorem zxV{st st1}(k t sz)(es)(mp)(h1:getS st.slots k=.full es)(h2:∀e∈es,e.length=sz)(h3:getT st.tk t=none)
  (h:Ent0 mp {st with slots:=(k,.own t sz es)::st.slots,tk:=(t,true)::st.tk} st1):Ent st st1:=⟨[(.s k,t,sz)],mp,_,⟨_,⟨es,h1,h2,h3,rfl⟩,rfl⟩,h⟩
attribute [go_sem_proc] Nat.reduceEqDiff reduceCtorEq Nat.reduceAdd Nat.reduceLeDiff Nat.reduceMul Nat.reduceLT
attribute [go_sem] Bool.false_eq_true Bool.true_eq_false
theorem oS{α:Type}{a:α}:(some a).isSome=true:=rfl
theorem lA{α:Type}{as bs:List α}:(as++bs).length=as.length+bs.length:=List.length_append
theorem lM{α β:Type}{as}(f:α→β):(List.map f as).length=as.length:=List.length_map f
theorem lC{α:Type}{a}{as:List α}:(a::as).length=as.length+1:=rfl
theorem lN{α:Type}:([]:List α).length=0:=rfl
theorem zA(n):0+n=n:=Nat.zero_add n
theorem mA{α β:Type}{f:α→β}{l m}:List.map f (l++m)=List.map f l++List.map f m:=List.map_append
theorem mC{α β:Type}{f:α→β}{a l}:List.map f (a::l)=f a::List.map f l:=rfl
theorem mN{α β:Type}{f:α→β}:List.map f []=[]:=rfl
theorem nZ:((0:Nat):Int)=0:=rfl
theorem cN{α:Type}{a}[BEq α]:([]:List α).contains a=false:=rfl
theorem b0l{n m:Nat}(h:n.ble m=true):n≤m:=Nat.le_of_ble_eq_true h
end Go.Abs
end
section
namespace Go.Abs
inductive Pred where
 |mk (op:Int) (name:List UInt8) (n:Int) (kids:List Pred)
namespace Pred
def op:Pred→Int|.mk o _ _ _=>o
def name:Pred→List UInt8|.mk _ s _ _=>s
def n:Pred→Int|.mk _ _ n _=>n
def kids:Pred→List Pred|.mk _ _ _ k=>k
mutual
def cells:Pred→List D
 |.mk o s n ks=>[.int .i64 o,.str s,.int .i64 n,.lst (cellss ks)]
def cellss:List Pred→List (List D)
 |[]=>[]
 |k::ks=>cells k::cellss ks
end
theorem yYR(ks):cellss ks=ks.map cells:=by
 induction ks with
 |nil=>simp[cellss]
 |cons k ks ih=>simp[cellss,ih]
theorem zzb(p):cells p=[.int .i64 p.op,.str p.name,.int .i64 p.n,.lst (p.kids.map cells)]:=by
 cases p;simp[cells,op,name,n,kids,yYR]
theorem zzh(p):(cells p).length=4:=by rw[zzb];rfl
theorem yZg(p):(cells p).take 4=cells p:=List.take_of_length_le (by rw[zzh];omega)
theorem ind{P:Pred→Prop}(h:∀o s n ks,(∀k∈ks,P k)→P (.mk o s n ks)):∀p,P p:=
 fun p=>Pred.rec (motive_1:=P) (motive_2:=fun ks=>∀k∈ks,P k) h (fun k hk=>by cases hk) (fun k ks hk hks x hx=>by
  rcases List.mem_cons.1 hx with rfl|hx
  ·exact hk
  ·exact hks x hx) p
attribute [go_sem] zzh
theorem lens(l:List Pred):∀e∈l.map cells,e.length=4:=by
 intro e he;obtain⟨p,_,rfl⟩:=List.mem_map.1 he;exact zzh p
theorem zyR(l:List Pred):(∀e∈l.map cells,e.length=4)=True:=eq_true (lens l)
attribute [go_sem] zyR yZg
end Pred
theorem zj4{α β:Type}(f)(a)(x)(b:List α)(d:β):((a++x::b).map f).getD a.length d=f x:=by simp
theorem i64_in(n)(h: -9223372036854775808≤n∧n≤9223372036854775807):IntKind.i64.wrap n=n:=by
 unfold IntKind.wrap;simp only[IntKind.signed,IntKind.bits,Bool.true_and,ge_iff_le,decide_eq_true_eq];by_cases h':(2:Int)^(64-1)≤n%2^64
 ·rw[if_pos h'];omega
 ·rw[if_neg h'];omega
theorem zzf{n:Nat}(h:(n:Int)+1≤9223372036854775807):IntKind.i64.wrap ((n:Int)+1)=((n+1:Nat):Int):=by
 rw[i64_in _ (by omega)];omega
theorem zzn{α:Type}{l a b}{x:α}(h:l=a++x::b):(a.length:Int)<l.length:=by rw[h];simp;omega
theorem zjC{α:Type}{l}(a)(x)(b)(d:α)(h:l=a++x::b):l.getD a.length d=x:=by subst h;simp
end Go.Abs
end
