/-
  A LIBRARY OF THE PROOF: an abstract machine over the texts of the translated functions, whose values are plain data, proved sound with regard to the kit's law of calls (names shortened by program).
-/
import Derived.Test.YtkaaomojgmbgdaaGreatDoorAbs3
set_option linter.unusedSimpArgs false
set_option linter.unusedVariables false
set_option linter.unusedSectionVars false
set_option maxRecDepth 100000
section
namespace Go.Abs
open Go.RowKit
variable{c:Ctx}{st:St}{tmps:Array Value}{w:World}{S:Safe}{ρ:bW}{E:ax}{T:Nat→Option Ty}{P:Program}{G:Nat→Option (List D)}{N:Nat}
theorem yp{cd a b}(h:tr T N cd=some (.seq a b)):∃x y,cd=.seq x y∧tr T N x=some a∧tr T N y=some b:=by
 cases cd<;>simp only[tr,Option.bind_eq_bind,Option.pure_def,reduceCtorEq,Option.bind_eq_some_iff,Option.some.injEq]at h;case seq x y=>obtain⟨a1,e1,a2,e2,h⟩:=h;cases h;exact⟨x,y,rfl,e1,e2⟩
 case region=>
  exfalso;obtain⟨l,_,h⟩:=h
  repeat' split at h
  all_goals first
   |(rcases AB h with⟨_,_,_,_,h',_⟩|⟨h',_⟩|⟨_,h',_⟩|⟨_,_,h',_⟩|⟨_,_,_,h',_⟩<;>cases h')
   |cases h
 all_goals (exfalso;revert h;(try (repeat' split))<;>intro h<;>simp at h)
theorem RY{cd g a b}(h:tr T N cd=some (.cond g a b)):∃x y z,cd=.cond x y z∧bQ x=some g∧tr T N y=some a∧tr T N z=some b:=by
 cases cd<;>simp only[tr,Option.bind_eq_bind,Option.pure_def,reduceCtorEq,Option.bind_eq_some_iff,Option.some.injEq]at h;case cond x y z=>obtain⟨x',e0,a1,e1,a2,e2,h⟩:=h;cases h;exact⟨x,y,z,rfl,e0,e1,e2⟩
 case region=>
  exfalso;obtain⟨l,_,h⟩:=h
  repeat' split at h
  all_goals first
   |(rcases AB h with⟨_,_,_,_,h',_⟩|⟨h',_⟩|⟨_,h',_⟩|⟨_,_,h',_⟩|⟨_,_,_,h',_⟩<;>cases h')
   |cases h
 all_goals (exfalso;revert h;(try (repeat' split))<;>intro h<;>simp at h)
theorem Zt{cd i a}(h:tr T N cd=some (.block i a)):∃x,cd=.block i x∧tr T N x=some a:=by
 cases cd<;>simp only[tr,Option.bind_eq_bind,Option.pure_def,reduceCtorEq,Option.bind_eq_some_iff,Option.some.injEq]at h;case block j x=>obtain⟨a1,e1,h⟩:=h;cases h;exact⟨x,rfl,e1⟩
 case region=>
  exfalso;obtain⟨l,_,h⟩:=h
  repeat' split at h
  all_goals first
   |(rcases AB h with⟨_,_,_,_,h',_⟩|⟨h',_⟩|⟨_,h',_⟩|⟨_,_,h',_⟩|⟨_,_,_,h',_⟩<;>cases h')
   |cases h
 all_goals (exfalso;revert h;(try (repeat' split))<;>intro h<;>simp at h)
theorem yQX{cd a}(h:tr T N cd=some (.loop a)):∃x,cd=.loop x∧tr T N x=some a:=by
 cases cd<;>simp only[tr,Option.bind_eq_bind,Option.pure_def,reduceCtorEq,Option.bind_eq_some_iff,Option.some.injEq]at h;case loop x=>obtain⟨a1,e1,h⟩:=h;cases h;exact⟨x,rfl,e1⟩
 case region=>
  exfalso;obtain⟨l,_,h⟩:=h
  repeat' split at h
  all_goals first
   |(rcases AB h with⟨_,_,_,_,h',_⟩|⟨h',_⟩|⟨_,h',_⟩|⟨_,_,h',_⟩|⟨_,_,_,h',_⟩<;>cases h')
   |cases h
 all_goals (exfalso;revert h;(try (repeat' split))<;>intro h<;>simp at h)
theorem Yi{cd}(h:tr T N cd=some .ret):cd=.ret:=by
 cases cd<;>simp only[tr,Option.bind_eq_bind,Option.pure_def,reduceCtorEq,Option.bind_eq_some_iff,Option.some.injEq]at h;case region=>
  exfalso;obtain⟨l,_,h⟩:=h
  repeat' split at h
  all_goals first
   |(rcases AB h with⟨_,_,_,_,h',_⟩|⟨h',_⟩|⟨_,h',_⟩|⟨_,_,h',_⟩|⟨_,_,_,h',_⟩<;>cases h')
   |cases h
 all_goals first|rfl|(exfalso;revert h;(try (repeat' split))<;>intro h<;>simp at h)
theorem RZ{cd}(h:tr T N cd=some .skip):cd=.skip:=by
 cases cd<;>simp only[tr,Option.bind_eq_bind,Option.pure_def,reduceCtorEq,Option.bind_eq_some_iff,Option.some.injEq]at h;case region=>
  exfalso;obtain⟨l,_,h⟩:=h
  repeat' split at h
  all_goals first
   |(rcases AB h with⟨_,_,_,_,h',_⟩|⟨h',_⟩|⟨_,h',_⟩|⟨_,_,h',_⟩|⟨_,_,_,h',_⟩<;>cases h')
   |cases h
 all_goals first|rfl|(exfalso;revert h;(try (repeat' split))<;>intro h<;>simp at h)
theorem yQW{cd i}(h:tr T N cd=some (.exit i)):cd=.exit i:=by
 cases cd<;>simp only[tr,Option.bind_eq_bind,Option.pure_def,reduceCtorEq,Option.bind_eq_some_iff,Option.some.injEq]at h;case exit j=>cases h;rfl
 case region=>
  exfalso;obtain⟨l,_,h⟩:=h
  repeat' split at h
  all_goals first
   |(rcases AB h with⟨_,_,_,_,h',_⟩|⟨h',_⟩|⟨_,h',_⟩|⟨_,_,h',_⟩|⟨_,_,_,h',_⟩<;>cases h')
   |cases h
 all_goals (exfalso;revert h;(try (repeat' split))<;>intro h<;>simp at h)
theorem MY{cd l}(h:tr T N cd=some (.cD l)):∃id ops,cd=.region id ops false∧gT T ops.toList=some l∧uL N ops.toList=true:=by
 cases cd<;>simp only[tr,Option.bind_eq_bind,Option.pure_def,reduceCtorEq,Option.bind_eq_some_iff,Option.some.injEq]at h;case region id ops draw=>
  obtain⟨l',hl,h⟩:=h;split at h
  ·rename_i kj;split at h
   ·split at h
    ·split at h
     ·cases h
     ·split at h<;>cases h
    ·rcases AB h with⟨_,_,_,_,h',_⟩|⟨h',_⟩|⟨_,h',_⟩|⟨_,_,h',_⟩|⟨_,_,_,h',_⟩<;>cases h'
   ·rename_i hd;split at h
    ·cases h
    cases h;have:draw=false:=by simpa using hd
    subst this;exact⟨id,ops,rfl,hl,kj⟩
  ·cases h
 all_goals (exfalso;revert h;(try (repeat' split))<;>intro h<;>simp at h)
theorem DQ{ops}(h:uL N ops=true){o}(ho:o∈ops){d:Nat}(hd:o.dst=some d):d<N:=by simp only[uL,List.all_eq_true]at h;have:=h o ho;simpa[hd]using this
theorem aN.uq(h:aN c st tmps w S ρ)(hX:c.X=[]:=by rfl):nR c.w0 c.S0 w S:=⟨h.below.below hX,h.fX,fun b o hs=>(h.new b o hs).imp id (Ctx.G3 hX),h.live⟩
theorem nR.keeps{w w' S S'}(h:nR w S w' S')(hl:Live w S):aY w S w' S':=fun b o hs=>by obtain⟨v,hv⟩:=hl b o hs;exact⟨h.2.1 b o hs,h.1.cell (p:=⟨b,o,none⟩) (qh hv)⟩
theorem aN.Ab(h:aN c st tmps w S ρ)(sl:List (Nat×D))(hp:∀p∈sl,AV.mH st.mem 4 (aC st.ae p.1)=some p.2)(hX:c.X=[]:=by rfl):
  ∃S',nR c.w0 c.S0 w S'∧aY w S w S'∧(∀a v,ay w S ρ a v→ay w S' ρ a v)∧∀p∈sl,dR w S' p.2 (tmps.getD p.1 undef):=by
 obtain⟨S',e1,e2,e3,e4,e5⟩:=h.close;refine⟨S',⟨h.below.below hX,fun b o hs=>e1 b o (h.fX b o hs),fun b o hs=>?_,e3⟩,fun b o hs=>⟨e1 b o hs,rfl⟩,e4,fun p A8=>G2 e5 4 _ _ _ (e4 _ _ (h.ae p.1)) (hp p A8)⟩;rcases e2 b o hs with h1|h1
 ·exact(h.new b o h1).imp id (Ctx.G3 hX)
 ·exact .inr (Ctx.G3 hX h1)
def dB(sl:List (Nat×D)):St:=⟨sl.map fun p=>(p.1,.d p.2),[],[]⟩
theorem yXq(sl)(k):aC (dB sl).ae k=.undef∨∃p∈sl,p.1=k∧aC (dB sl).ae k=.d p.2:=by
 induction sl with
 |nil=>exact .inl rfl
 |cons p sl ih=>
  simp only[dB,List.map_cons,aC];by_cases hk:p.1=k
  ·right;exact⟨p,by simp,hk,by rw[if_pos hk]⟩
  ·rw[if_neg hk];rcases ih with h|⟨q,hq,e1,e2⟩
   ·exact .inl h
   ·exact .inr ⟨q,by simp[hq],e1,e2⟩
theorem aN.fresh(cU:tmps.size=N)(hl:Live w S)(hg:fh P G w S)(sl)(hr:∀p∈sl,dR w S p.2 (tmps.getD p.1 undef)):aN (eA P w S N G) (dB sl) tmps w S ⟨fun _=>none,fun _=>none,fun _=>none⟩:=by
 refine{size:=cU,ae:=fun k=>?_,mem:=fun s cs hs=>(by simp[dB,getM]at hs),inj:=fun s s' b hs=>(by cases hs),aQ:=fun _ _=>rfl,cL:={at':=fun s k e cA hs=>(by simp[dB,getM]at hs),inj:=fun s s' b hs=>(by cases hs),new:=fun _ _=>rfl,lt:=fun s b hs=>(by cases hs),apart:=fun s b hs=>(by cases hs)},tok:=fun t ht=>(by simp[dB,aE]at ht),aV:=fun _ _=>rfl,
        below:=dK.refl _,fX:=fun _ _ hs=>hs,new:=fun _ _ hs=>.inl hs,live:=hl,b5:=hg.1,ex:=hg.2,fx:=fun k hk=>(by cases hk),eH:=fun p hp=>(by cases hp),keeps:=fun p hp=>(by cases hp),pins:=pb.nil rfl rfl}
 rcases yXq sl k with h|⟨p,hp,rfl,h⟩
 ·rw[h];trivial
 ·rw[h];exact hr p hp
structure uh(P:Program)(G:Nat→Option (List D))(l:Nat)(xs:List (List CV))(J:List (List CV)→World→Safe→Prop)(Jx:World→Safe→Prop):Prop where
 grow:∀pre W S1 W' S2,J pre W S1→nR W S1 W' S2→J pre W' S2
 C4:∀W S1 W' S2,Jx W S1→nR W S1 W' S2→Jx W' S2
 live:∀pre W S1,J pre W S1→Live W S1
 xb:∀W S1,Jx W S1→Live W S1∧P.globals.size≤W.heap.size
 b5:∀pre W S1,J pre W S1→fh P G W S1
 yield:∀pre x rest W S1 vs,xs=pre++x::rest→J pre W S1→bA W S1 x vs→YieldAt Fence.wide 0 P l vs.toArray W fun e W'=>
   (e=.returned (.bool true)∧∃S2,J (pre++[x]) W' S2∧aY W S1 W' S2)∨(e=.returned (.bool false)∧∃S2,Jx W' S2)
variable{l:Nat}{xs:List (List CV)}{J:List (List CV)→World→Safe→Prop}{Jx:World→Safe→Prop}
def Pp(P:Program)(xs:List (List CV))(J:List (List CV)→World→Safe→Prop)(Jx:World→Safe→Prop)(f:FuncId)(args:List CV)(ys:List (List CV)):Prop:=
 Enters P f∧∀(a b:List (List CV)) (W:World) (S:Safe) (aW:Array Value),xs=a++ys++b→J a W S→bA W S args aW.toList→
  Calls P f aW W fun e W'=>(e=.returned (.bool true)∧∃S2,J (a++ys) W' S2∧aY W S W' S2)∨(e=.returned (.bool false)∧∃S2,Jx W' S2)
theorem uh.of{base}{J:List (List CV)→World→Safe→(Nat→Prop)→Prop}{Jx:World→Safe→(Nat→Prop)→Prop}{S0 w}(hb:base=w.heap.size)(pj:fh P G w S0)
  (pJ:∀pre W S1 Y W' S2,J pre W S1 Y→mX base Y W S1 W' S2→J pre W' S2 Y) (vU:∀W S1 Y W' S2,Jx W S1 Y→mX base Y W S1 W' S2→Jx W' S2 Y)
  (vX:∀pre W S1 Y,J pre W S1 Y→Live W S1∧aY w S0 W S1∧Exact P G W∧base≤W.heap.size∧∀k,Y k→k<W.heap.size)
  (Eh:∀W S1 Y,Jx W S1 Y→Live W S1∧Exact P G W∧base≤W.heap.size∧∀k,Y k→k<W.heap.size)
  (hy:∀pre x rest W S1 Y vs,xs=pre++x::rest→J pre W S1 Y→bA W S1 x vs→YieldAt Fence.wide 0 P l vs.toArray W fun e W'=>
   (e=.returned (.bool true)∧∃S2 Y2,J (pre++[x]) W' S2 Y2∧qD Y W S1 W' S2 Y2)∨(e=.returned (.bool false)∧∃S2 Y2,Jx W' S2 Y2∧qD Y W S1 W' S2 Y2)):
  uh P G l xs (fun pre W S1=>∃Y,J pre W S1 Y) (fun W S1=>∃Y,Jx W S1 Y):=by
 have J9:∀{W W':World} {S1 S2:Safe} {Y:Nat→Prop},Live W S1→base≤W.heap.size→(∀k,Y k→k<W.heap.size)→nR W S1 W' S2→mX base Y W S1 W' S2:=fun{W W' S1 S2 Y} hl cU hY hg=>
  ⟨⟨hg.1.os,hg.1.tape,hg.1.output,hg.1.size,fun k hk=>by
   by_cases bf:k<W.heap.size
   ·exact hg.1.block k bf
   ·exact absurd ⟨by omega,fun e=>bf (hY k e)⟩ hk⟩,nR.keeps hg hl,fun b o hs=>(hg.2.2.1 b o hs).imp id fun e=>⟨by omega,fun e2=>by have:=hY b e2;omega⟩,hg.2.2.2⟩
 refine⟨?_,?_,?_,?_,?_,?_⟩
 ·rintro pre W S1 W' S2 ⟨Y,hJ⟩ hg
  obtain⟨k1,_,_,k4,k5⟩:=vX _ _ _ _ hJ;exact⟨Y,pJ _ _ _ _ _ _ hJ (J9 k1 k4 k5 hg)⟩
 ·rintro W S1 W' S2 ⟨Y,hJ⟩ hg
  obtain⟨k1,_,k4,k5⟩:=Eh _ _ _ hJ;exact⟨Y,vU _ _ _ _ _ hJ (J9 k1 k4 k5 hg)⟩
 ·rintro pre W S1 ⟨Y,hJ⟩;exact(vX _ _ _ _ hJ).1
 ·rintro W S1 ⟨Y,hJ⟩;exact⟨(Eh _ _ _ hJ).1,(Eh _ _ _ hJ).2.1.1⟩
 ·rintro pre W S1 ⟨Y,hJ⟩
  obtain⟨_,k2,k3,_⟩:=vX _ _ _ _ hJ;exact⟨fun g c hg=>aP.keep k2 _ _ _ (pj.1 g c hg),k3⟩
 ·rintro pre x rest W S1 vs hx ⟨Y,hJ⟩ hr
  obtain⟨fn,tm,as,bd,h1,h2⟩:=hy pre x rest W S1 Y vs hx hJ hr;refine⟨fn,tm,as,bd,h1,h2.mono ?_⟩
  rintro e W' (⟨rfl,S2,Y2,yW,hf⟩|⟨rfl,S2,Y2,yW,hf⟩)
  ·exact .inl ⟨rfl,S2,⟨Y2,yW⟩,hf.2.1⟩
  ·exact .inr ⟨rfl,S2,Y2,yW⟩
theorem Ye{o:Oper}{d f' lW}(h:nE T o.dst o.op=some (.call d f' lW)):∃f args argTypes,o.dst=d∧o.op=.call {callee:=.value f,args:=args,argTypes:=argTypes}∧bQ f=some f'∧mI args.toList=some lW:=by
 have hd:=Ns h;simp only[uf]at hd;generalize o.op=op at h;cases op<;>simp only[nE]at h;case call cl=>
  obtain⟨callee,args,argTypes⟩:=cl;cases callee<;>simp only[tz,Option.bind_eq_bind,Option.pure_def,reduceCtorEq]at h;case value f=>
   split at h
   ·obtain⟨_,_,h⟩:=bc h;obtain⟨_,_,h⟩:=bc h;cases h
   obtain⟨f1,hf,h⟩:=bc h;obtain⟨xs1,ef,h⟩:=bc h;cases h;exact⟨f,args,argTypes,hd,rfl,hf,ef⟩
  case builtin b=>
   exfalso;by_cases x9:b=.clear
   ·subst x9;simp only at h;unfold qy at h
    repeat' (first|(cases h;done)|(obtain⟨_,_,h⟩:=bc h)|split at h)
   by_cases C7:b=.copy
   ·subst C7;simp only at h;unfold tA at h
    repeat' (first|(cases h;done)|(obtain⟨_,_,h⟩:=bc h)|split at h)
   replace h:(o.dst>>=fun d=>iy T d b args.toList argTypes.toList)=some (.call d f' lW):=by cases b<;>first|exact h|exact absurd rfl x9|exact absurd rfl C7
   obtain⟨_,_,h⟩:=bc h;unfold iy at h
   repeat' (first|(cases h;done)|(obtain⟨_,_,h⟩:=bc h)|split at h)
 case binOp op t x y t'=>
  exfalso;unfold xo at h
  repeat' (first|(cases h;done)|(obtain⟨_,_,h⟩:=bc h)|split at h)
 case unOp u t x=>
  exfalso;unfold Cq at h
  repeat' (first|(cases h;done)|(obtain⟨_,_,h⟩:=bc h)|split at h)
 case makeMap t rs=>
  exfalso;cases rs with
  |some _=>cases h
  |none=>repeat' (first|(cases h;done)|(obtain⟨_,_,h⟩:=bc h)|split at h)
 case pick x y z=>
  exfalso;obtain⟨_,_,h⟩:=bc h;unfold tB at h
  repeat' (first|(cases h;done)|(obtain⟨_,_,h⟩:=bc h)|split at h)
 case slice t x lo hi mx=>
  exfalso;cases mx with
  |some m=>
   cases hi with
   |none=>cases h
   |some hi=>
   obtain⟨_,_,h⟩:=bc h;cases lo;all_goals
    repeat' (first|(cases h;done)|(obtain⟨_,_,h⟩:=bc h)|split at h)
  |none=>
  obtain⟨_,_,h⟩:=bc h;cases lo<;>cases hi;all_goals
   repeat' (first|(cases h;done)|(obtain⟨_,_,h⟩:=bc h)|split at h)
 all_goals
  exfalso
  repeat' (first|(cases h;done)|(obtain⟨_,_,_,_,e⟩:=Tf h;cases e;done)|(obtain⟨_,_,h⟩:=bc h)|split at h)
end Go.Abs
end
section
namespace Go.Abs
open Go.RowKit
variable{c:Ctx}{st:St}{tmps:Array Value}{w:World}{S:Safe}{ρ:bW}{E:ax}{T:Nat→Option Ty}{P:Program}{G:Nat→Option (List D)}{N:Nat}
variable{l:Nat}{xs:List (List CV)}{J:List (List CV)→World→Safe→Prop}{Jx:World→Safe→Prop}
theorem FN(hG:E.G=c.G)(hC:∀f args r,E.C f args r→Ev c.P c.G f args r)(hT:∀t ty,T t=some ty→aK c.P t ty=true){ops:Array Oper}{l}(aa:gT T ops.toList=some l)
  (aT:∀o∈ops.toList,∀d,o.dst=some d→c.D d) {F} (hF:FW F) (m) (Q) {K} (rest):
  ∀(n k) {st} {tmps} {w} {S} {ρ},k+n≤ops.size→(∀a w,jW c K a w→wpOpsIn F m c.P ops Q rest a w)→aN c st tmps w S ρ→mO E ((l.drop k).take n) K st→wpOpsIn F m c.P ops Q (List.range' k n++rest) ⟨tmps,c.ds⟩ w:=by
 obtain⟨hlen,lh⟩:=vt aa;simp only[Array.length_toList]at hlen;intro n;induction n with
 |zero=>intro k st tmps w S ρ hk hQ h hK;simp only[List.take_zero,mO]at hK;exact hQ _ _ ⟨rfl,_,_,_,h,hK⟩
 |succ n ih=>
  intro k st tmps w S ρ hk hQ h hK;have bf:k<ops.size:=by omega
  obtain⟨gi,i,hl,wc,xO⟩:=lh k ops[k] (by simp[bf]);have ux:l.drop k=(gi,i)::l.drop (k+1):=by
   have HS:k<l.length:=by omega
   rw[List.drop_eq_getElem_cons HS];congr 1;have:=List.getElem?_eq_getElem HS;rw[this]at hl;exact Option.some.inj hl
  rw[ux,List.take_succ_cons]at hK;simp only[mO]at hK;rw[List.range'_succ,List.cons_append,wpOpsIn_cons];refine Th hG hC hT h (Array.getElem?_eq_getElem bf) wc xO (aT _ (by simp)) hK ?_ Q hF m
  rintro⟨uT,ds'⟩ w' ⟨lU,cH,S',bu,h',PY⟩
  simp only at lU;subst lU;exact ih (k+1) (by omega) hQ h' PY
def lu(G:Nat→Option (List D)):ax:=⟨G,fun _ _ _=>False,fun _ _ _=>False⟩
theorem DV(hT:∀t ty,T t=some ty→aK P t ty=true){W1 S1 cd l}(h:tr T N cd=some (.cD l))(hs:aN (eA P W1 S1 N G) st tmps w S ρ){K}(hK:mO (lu G) l K st)
  {Q} {m} (hQ:∀cH uT w' S' bu,aN (eA P W1 S1 N G) cH uT w' S' bu→K cH→Q .normal ⟨uT,[]⟩ w'):cd.wpIn (FR none) m P Q ⟨tmps,[]⟩ w:=by
 obtain⟨id,ops,rfl,ot,kj⟩:=MY h;refine wpIn_region ?_;rw[List.range_eq_range'];refine Sy (c:=eA P W1 S1 N G) (E:=lu G) rfl (fun _ _ _ h=>h.elim) hT ot (fun o ho d hd=>⟨DQ kj ho hd,rfl⟩) (FR.fw none) m Q (K:=K) ?_ ops.size 0 (by omega) hs hK
 rintro⟨tm,ds⟩ w' ⟨hd,cH,S',bu,h',fR⟩
 simp only at hd;subst hd;exact hQ _ _ _ _ _ h' fR
theorem Hk{W1 S1 x y z g}(hx:bQ x=some g)(hs:aN (eA P W1 S1 N G) st tmps w S ρ){b}(hg:ev st g=.d (.bool b))(rB:gd st g=true){Q m}
  (ht:b=true→y.wpIn (FR none) m P Q ⟨tmps,[]⟩ w) (hf:b=false→z.wpIn (FR none) m P Q ⟨tmps,[]⟩ w):(Code.cond x y z).wpIn (FR none) m P Q ⟨tmps,[]⟩ w:=by
 have j6:=hs.ev (ds:=[]) hx rB;rw[hg]at j6;simp only[ay,dR]at j6;exact wpIn_cond_split j6 ht hf
theorem TN{ops k o}(ho:ops[k]? =some o)(hg:iE ops.toList o.guard=some none){F m K Q a}(h:o.wpIn F m P a w K Q):wpOpIn F m P ops Q k K a w:=by
 have Qt:o.guard=none:=by
  cases Mn:o.guard with
  |none=>rfl
  |some jw=>rw[Mn]at hg;simp only[iE,Option.bind_eq_bind,Option.pure_def,Option.bind_eq_some_iff,Option.some.injEq]at hg;obtain⟨_,_,_,_,hg⟩:=hg;cases hg
 unfold wpOpIn;simp only[ho];rw[if_pos (by unfold Region.wanted;rw[Qt])];exact h
theorem yWE{l f tm as bd R m}(h:RoundIn Fence.wide 0 P l f tm as bd w R):RoundIn (FR none) m P l f tm as bd w R:=
 ⟨trivial,fun c cs _=>h.2 c cs (room_wide _)⟩
theorem yJo(hY:uh P G l xs J Jx){W1 S1 a b x}(ef:xs=a++x::b)(hJ:J a W1 S1)(h:aN (eA P W1 S1 N G) st tmps w S ρ){o:Oper}{d f' lW}(aa:nE T o.dst o.op=some (.call (some d) f' lW))(hd:d<N)
  (hf:ev st f'=.d (.yl l)) (zh:gd st f'=true) (wQ:mG st lW=true) (hx:iP [] 1 (ju st lW)=some x) (sl) (kC:∀p∈sl,AV.mH st.mem 4 (aC st.ae p.1)=some p.2) {m} {K} {Q}
  (hT:∀W' S2 bu,J (a++[x]) W' S2→aY w S W' S2→aN (eA P W' S2 N G) ((dB sl).put none d (.d (.bool true))) (tmps.setIfInBounds d (.bool true)) W' S2 bu→K ⟨tmps.setIfInBounds d (.bool true),[]⟩ W')
  (hF:∀W' S2 bu,Jx W' S2→aN (eA P W' S2 N (fun _=>none)) ((dB []).put none d (.d (.bool false))) (tmps.setIfInBounds d (.bool false)) W' S2 bu→K ⟨tmps.setIfInBounds d (.bool false),[]⟩ W'):
  o.wpIn (FR none) m P ⟨tmps,[]⟩ w K Q:=by
 obtain⟨f,args,argTypes,aT,cV,AK,P9⟩:=Ye aa;have e1:=h.ev (ds:=[]) AK zh;rw[hf]at e1;simp only[ay,dR]at e1;obtain⟨S',hg,hk,hup,zE⟩:=h.Ab sl kC;have PX:=hY.grow _ _ _ _ _ hJ hg;have e2:=FT (xX (w:=w) (S:=S') (ρ:=ρ)) 1 (af.keep hk ρ.le_refl _ _ (h.ju (ds:=[]) P9 wQ)) hx;obtain⟨fn,tm,as,bd,aB,hR⟩:=hY.yield a x b w S' _ ef PX e2;have iN:(execOp (Act.eval ⟨tmps,[]⟩) o).run P w=.ok (.round l fn tm as bd) w:=by
  unfold execOp;simp only[cV];have:(args.toList.map (Act.eval ⟨tmps,[]⟩)).toArray=args.map (Act.eval ⟨tmps,[]⟩):=by rw[←Array.toList_map]
  rw[this]at aB;simp[resolve,Deferred.ofValue,e1,invoke,aB]
 refine⟨fun _ _=>trivial,?_⟩;rw[Oper.semAt_eq _ _ _ (fun c hc=>by rw[cV]at hc;cases hc),iN,Oper.uponIn_round];refine⟨(by intro hd;cases hd),(yWE hR).mono ?_⟩
 rintro e W' (⟨rfl,S2,yW,lO⟩|⟨rfl,S2,Fi⟩)
 ·simp only[Act.put,aT];have hs:=aN.fresh (P:=P) (G:=G) (N:=N) h.size (hY.live _ _ _ yW) (hY.b5 _ _ _ yW) sl (fun p hp=>dR.keep lO _ _ (zE p hp));exact hT W' S2 _ yW (hk.trans lO) (hs.put (d:=d) ⟨hd,rfl⟩ (a:=.d (.bool true)) (v:=.bool true) rfl none (fun b hb=>by cases hb))
 ·simp only[Act.put,aT];have hs:=aN.fresh (P:=P) (G:=fun _=>none) (N:=N) h.size (hY.xb _ _ Fi).1 ⟨fun g cs hg=>(by cases hg),(hY.xb _ _ Fi).2,fun g cs _ hg=>(by cases hg)⟩ [] (fun p hp=>by cases hp);exact hF W' S2 _ Fi (hs.put (d:=d) ⟨hd,rfl⟩ (a:=.d (.bool false)) (v:=.bool false) rfl none (fun b hb=>by cases hb))
theorem Yq(hY:uh P G l xs J Jx){W1 S1 a b ys}(ef:xs=a++ys++b)(hJ:J a W1 S1)(h:aN (eA P W1 S1 N G) st tmps w S ρ){o:Oper}{d f' lW}(aa:nE T o.dst o.op=some (.call (some d) f' lW))(hd:d<N){rQ cvs}
  (hf:ev st f'=.d (.clo rQ [])) (zh:gd st f'=true) (wQ:mG st lW=true) (hx:iP [] 1 (ju st lW)=some cvs) (hV:Pp P xs J Jx rQ cvs ys) (sl) (kC:∀p∈sl,AV.mH st.mem 4 (aC st.ae p.1)=some p.2) {m} {K} {Q}
  (hT:∀W' S2 bu,J (a++ys) W' S2→aY w S W' S2→aN (eA P W' S2 N G) ((dB sl).put none d (.d (.bool true))) (tmps.setIfInBounds d (.bool true)) W' S2 bu→K ⟨tmps.setIfInBounds d (.bool true),[]⟩ W')
  (hF:∀W' S2 bu,Jx W' S2→aN (eA P W' S2 N (fun _=>none)) ((dB []).put none d (.d (.bool false))) (tmps.setIfInBounds d (.bool false)) W' S2 bu→K ⟨tmps.setIfInBounds d (.bool false),[]⟩ W'):
  o.wpIn (FR none) m P ⟨tmps,[]⟩ w K Q:=by
 obtain⟨f,args,argTypes,aT,cV,AK,P9⟩:=Ye aa;have e1:=h.ev (ds:=[]) AK zh;rw[hf]at e1;obtain⟨cs,hv,fM⟩:=e1;simp only[aS]at fM;have dU:cs=#[]:=by cases cs;simp_all
 subst dU;obtain⟨S',hg,hk,hup,zE⟩:=h.Ab sl kC;have PX:=hY.grow _ _ _ _ _ hJ hg;have e2:=FT (xX (w:=w) (S:=S') (ρ:=ρ)) 1 (af.keep hk ρ.le_refl _ _ (h.ju (ds:=[]) P9 wQ)) hx;obtain⟨⟨fn,sX,ed,iL⟩,jH⟩:=hV;have iN:(execOp (Act.eval ⟨tmps,[]⟩) o).run P w=.ok (.enter rQ (args.map (Act.eval ⟨tmps,[]⟩))) w:=by
  unfold execOp;simp only[cV];have gK:¬fn.name= "runtime.NumGoroutine":=by simpa using ed
  have gJ:¬fn.body=none:=by intro e;simp[e]at iL
  simp[resolve,invoke,callFunc,Deferred.ofValue,hv,sX,gK,gJ]
 refine⟨fun _ _=>trivial,?_⟩;rw[Oper.semAt_eq _ _ _ (fun c hc=>by rw[cV]at hc;cases hc),iN,Oper.uponIn_enter];refine⟨(by intro hd;cases hd),SJ (FR.fw none) ((jH a b w S' _ ef PX (by simpa using e2)).mono ?_)⟩
 rintro e W' (⟨rfl,S2,yW,lO⟩|⟨rfl,S2,Fi⟩)
 ·simp only[Act.put,aT];have hs:=aN.fresh (P:=P) (G:=G) (N:=N) h.size (hY.live _ _ _ yW) (hY.b5 _ _ _ yW) sl (fun p hp=>dR.keep lO _ _ (zE p hp));exact hT W' S2 _ yW (hk.trans lO) (hs.put (d:=d) ⟨hd,rfl⟩ (a:=.d (.bool true)) (v:=.bool true) rfl none (fun b hb=>by cases hb))
 ·simp only[Act.put,aT];have hs:=aN.fresh (P:=P) (G:=fun _=>none) (N:=N) h.size (hY.xb _ _ Fi).1 ⟨fun g cs hg=>(by cases hg),(hY.xb _ _ Fi).2,fun g cs _ hg=>(by cases hg)⟩ [] (fun p hp=>by cases hp);exact hF W' S2 _ Fi (hs.put (d:=d) ⟨hd,rfl⟩ (a:=.d (.bool false)) (v:=.bool false) rfl none (fun b hb=>by cases hb))
theorem Zq(hT:∀t ty,T t=some ty→aK P t ty=true){W1 S1 fn k}(ic:fn.results.toList.mapM (iS T)=some [.t k])(h:aN (eA P W1 S1 N G) st tmps w S ρ)(hm:st.mem=[]){b}(hk:aC st.ae k=.d (.bool b)):(results fn tmps).run P w=.ok (.bool b) w:=by obtain⟨vs,aB,aM⟩:=T0 (c:=eA P W1 S1 N G) h hT (fun _ _ h=>h) (by rw[hm];exact xX) ic (l:=[.one (.bool b)]) (by simp[iu,sF,pP,hk,AV.rq,AV.mH]);obtain⟨v,r',q1,q2,q3⟩:=aM;simp only[bA]at q3;subst q3;subst q1;simp only[iT,dR]at q2;subst q2;rw[Gy,Array.mapM_eq_mapM_toList];have uE:(fn.results.toList.mapM (mD tmps)).run P w=.ok [.bool b] w:=aB;simp only[Sem.run_bind,Sem.run_map,uE];simp
end Go.Abs
end
section
namespace Go.Abs
open Go.RowKit
variable{T:Nat→Option Ty}{P:Program}{G:Nat→Option (List D)}{N:Nat}{E:ax}{st:St}{tmps:Array Value}{w:World}{S:Safe}{ρ:bW}
def cy(P:Program)(G:Nat→Option (List D))(N:Nat)(pn:List (Nat×Nat))(w:World)(S:Safe)(X:List Nat):Ctx:={P:=P,G:=G,w0:=w,S0:=S,N:=N,X:=X,kx:=some (w,S),mB:=pn}
variable{l base:Nat}{xs:List (List CV)}{J:Option (List (List CV))→World→Safe→(Nat→Prop)→Prop}{o:Option (List (List CV))}{pn:List (Nat×Nat)}{z:World×Safe}
def xA(P:Program)(G:Nat→Option (List D))(N:Nat)(pn:List (Nat×Nat))(z:World×Safe)(base:Nat)(J:Option (List (List CV))→World→Safe→(Nat→Prop)→Prop)(o:Option (List (List CV)))(st:St)(tmps:Array Value)(w:World)(S:Safe)(ρ:bW):Prop:=
 ∃X Y,aN (cy P G N pn w S X) st tmps w S ρ∧J o w S Y∧(∀b∈X,base≤b∧b<w.heap.size∧¬Y b)∧aY z.1 z.2 w S
theorem xA.put(h:xA P G N pn z base J o st tmps w S ρ){d}(hd:d<N){a v}(hv:ay w S ρ a v):xA P G N pn z base J o (st.put none d a) (tmps.setIfInBounds d v) w S ρ:=by obtain⟨X,Y,hs,h1,h2⟩:=h;exact⟨X,Y,hs.put ⟨hd,rfl⟩ hv none (fun b hb=>by cases hb),h1,h2⟩
end Go.Abs
end
section
namespace Go.Abs
open Go.RowKit
variable{T:Nat→Option Ty}{P:Program}{G:Nat→Option (List D)}{N:Nat}{E:ax}{st:St}{tmps:Array Value}{w:World}{S:Safe}{ρ:bW}
variable{l base:Nat}{xs:List (List CV)}{J:Option (List (List CV))→World→Safe→(Nat→Prop)→Prop}{o:Option (List (List CV))}{pn:List (Nat×Nat)}{z:World×Safe}
theorem xA.eq(h:xA P G N pn z base J o st tmps w S ρ){st1}(he:dz st1 st):xA P G N pn z base J o st1 tmps w S ρ:=by obtain⟨X,Y,hs,h1,h2⟩:=h;exact⟨X,Y,hs.eq he,h1,h2⟩
end Go.Abs
end
section
namespace Go.Abs
theorem yKD{E Q st}:cx E .skip Q st=Q .normal st:=rfl
theorem yJ5{E l Q st}:cx E (.cD l) Q st=mO E l (Q .normal) st:=rfl
theorem yYG{E p r a b Q st}:cx E (.lL p a b r) Q st=bS E p (fun s=>bS E (a::b::r) (Q .normal) s∧bS E (b::a::r) (Q .normal) s) st:=rfl
theorem yKy{E D l Q st}:cx E (.pw D l) Q st=Ad D E l (Q .normal) st:=rfl
theorem yq5{D F E K st}:dA D F E [] K st=K st:=rfl
theorem yvp{D F E g o os K st}:dA D F E ((g,o)::os) K st=(rO D F st o∧gh E g o st (fun s=>(ll o=true→im F st s)∧dA D F E os K s)):=rfl
theorem G4{D E l K st}(F)(h:dA D F E l K st):Ad D E l K st:=⟨F,h⟩
theorem yKz{E F l Q st}:cx E (.xd F l) Q st=eV F E l (Q .normal) st:=rfl
theorem yq4{F E K st}:eV F E [] K st=K st:=rfl
theorem yvo{F E g o os K st}:eV F E ((g,o)::os) K st=(kZ F st o∧gh E g o st (eV F E os K)):=rfl
theorem yKx{E l Q st}:cx E (.cm l) Q st=bS E l (Q .normal) st:=rfl
theorem yKB{E l Q st}:cx E (.Af l) Q st=∃s:St,vv st s∧mO E l (Q .normal) s:=rfl
theorem yKC{E l Q st}:cx E (.Ag l) Q st=Iu E l (Q .normal) st:=rfl
theorem yKA{E l Q st}:cx E (.Ae l) Q st=bS E l (fun s=>Q .normal (st.Ap (ke l) s)) st.l6:=rfl
attribute [go_sem] yKC yKA St.l6 St.Ap rp ke qQ uo Option.toList_some Option.toList_none
theorem yxw{E c a b Q st}:cx E (.cond c a b) Q st=match ev st c with
  |.d (.bool x)=>gd st c=true∧(if x=true then cx E a Q st else cx E b Q st)
  |_=>False:=by
 simp only[cx];generalize ev st c=v;cases v with
 |d x=>
  cases x with
  |bool x=>cases x<;>simp
  |_=>rfl
 |_=>rfl
theorem Br{E id c Q st}:cx E (.block id c) Q st=cx E c (je id Q) st:=rfl
theorem yKw{E id Q st}:cx E (.exit id) Q st=Q (.exit id) st:=rfl
theorem yJ6{E Q st}:cx E .ret Q st=Q .ret st:=rfl
theorem yKt{E K st}:mO E [] K st=K st:=rfl
theorem yYz{E g o os K st}:mO E ((g,o)::os) K st=vF E g o st (mO E os K):=rfl
theorem yYy{E K st}:bS E [] K st=K st:=rfl
theorem yq6{E g o os K st}:bS E ((g,o)::os) K st=gh E g o st (bS E os K):=rfl
theorem yjF{N Q s}:jl N Q .normal s=N s:=rfl
theorem yWR{N Q s i}:jl N Q (.exit i) s=Q (.exit i) s:=rfl
theorem yV4{N Q s}:jl N Q .ret s=Q .ret s:=rfl
theorem yxx{id Q s}:je id Q .normal s=Q .normal s:=rfl
theorem yvw{id i Q s}:je id Q (.exit i) s=if i=id then Q .normal s else Q (.exit i) s:=rfl
theorem yZa{id Q s}:je id Q .ret s=Q .ret s:=rfl
theorem yjA{rs r st}:wv rs r .normal st=rh st r rs:=rfl
theorem yVX{rs r st}:wv rs r .ret st=rh st r rs:=rfl
theorem yZe(xs:List D):dM (xs.map AV.d)=true:=by
 induction xs with
 |nil=>rfl
 |cons x xs ih=>exact ih
theorem yJc(m)(n)(xs):j0 m n (xs.map AV.d)=some xs:=by
 induction xs with
 |nil=>rfl
 |cons x xs ih=>cases n<;>simp[j0,AV.mH,ih]
theorem yYN{v g d K st as x}:dL v g (some d) K st as (.one x)=K (st.put g d (.d x)):=rfl
theorem yYM{v g d K st as x}:dL v g (some d) K st as (.agg x)=K (st.put g d (.agg (x.map .d))):=rfl
theorem yYP{v g d K st as x}:dL v g (some d) K st as (.tup x)=K (st.put g d (.tup (CV.nD x))):=rfl
theorem yYO{v g d K st as a sz es}:dL v g (some d) K st as (.own a sz es)=((g=none∧aE st.tk d=none∧kX st.tk as sz a)∧K {(st.put none d (.own d sz es))with tk:=(d,true)::pR (lr as a) st.tk}):=rfl
theorem yvE{v g K st as x}:dL v g none K st as (.one x)=K st:=rfl
theorem yvF{v g K st as x}:dL v g none K st as (.agg x)=K st:=rfl
theorem yvG{v g K st as x}:dL v g none K st as (.tup x)=K st:=rfl
theorem yk3{rs sz es st}:xe rs sz es .normal st=nB st sz es rs:=rfl
theorem yWA{rs sz es st}:xe rs sz es .ret st=nB st sz es rs:=rfl
theorem yKK{v g d K st as sz es}:dL v g (some d) K st as (.vc sz es)=((v=true∧g=none∧getM st.mem d=none)∧(es=[]→K (st.put none d (.d (.aw []))))∧(es≠[]→∀cap,es.length≤cap→cap≤9223372036854775807→
  K {(st.put none d (.vec d sz 0 es.length cap))with mem:=(d,es.flatten.map .d++List.replicate (cap*sz-es.length*sz) .undef)::st.mem})):=rfl
theorem yKO(m:Mem)(x):AV.nf m (.d x)=AV.elems (.d x):=rfl
theorem yvO(m:Mem)(es):AV.nf m (.full es)=some es:=rfl
theorem yZl(m:Mem)(t sz)(es):AV.nf m (.own t sz es)=some es:=rfl
theorem yQm(x):AV.mc (.d x)=false:=rfl
theorem yZx(es):AV.mc (.full es)=false:=rfl
theorem yXG(t sz)(es):AV.mc (.own t sz es)=false:=rfl
theorem yXH(s e o n c):AV.mc (.vec s e o n c)=true:=rfl
attribute [go_sem] yKK yKO yvO yZl yQm yZx yXG yXH
theorem aR{v}{E:ax}{f args r g d K st as}(h:E.C f args r)(hk:dL v g d K st as r):∃r,E.C f args r∧dL v g d K st as r:=⟨r,h,hk⟩
theorem Vz{E c Q st}:cx E (.scope c) Q st=cx E c Q st:=rfl
theorem yJ4{E Q st}:cx E .MN Q st=Q .normal st:=rfl
theorem YH{E a b Q st}:cx E (.alt a b) Q st=(cx E a Q st∧cx E b Q st):=rfl
theorem yXb(t)(xs)(l:List D):AV.iJ t xs (l.map .d)=l.map .d:=by
 induction l with
 |nil=>rfl
 |cons x l ih=>simp only[List.map_cons,AV.iJ,AV.fill,ih]
theorem yQ8(t)(xs)(x):AV.fill t xs (.d x)=.d x:=by simp only[AV.fill]
theorem yY9(t)(xs)(x):AV.fill t xs (.full x)=.full x:=by simp only[AV.fill]
theorem yKX(t)(xs)(s o):AV.fill t xs (.ptr s o)=.ptr s o:=by simp only[AV.fill]
theorem yZo(t)(xs):AV.fill t xs .undef=.undef:=by simp only[AV.fill]
theorem yXa(t)(xs)(s):AV.fill t xs (.mref s)=.mref s:=by simp only[AV.fill]
theorem yKU(t)(xs)(k e)(l):AV.fill t xs (.mp k e l)=.mp k e l:=by simp only[AV.fill]
theorem yKZ(t)(xs)(s e o n c):AV.fill t xs (.vec s e o n c)=.vec s e o n c:=by simp only[AV.fill]
theorem yK0(t)(xs)(m s):AV.fill t xs (.zsl m s)=.zsl m s:=by simp only[AV.fill]
theorem yKV(t)(xs)(u sz)(es):AV.fill t xs (.own u sz es)=if u=t then .undef else .own u sz es:=by simp only[AV.fill]
theorem yKW(t)(xs)(m u sz)(es):AV.fill t xs (.pnd m u sz es)=if u=t then(if m=1 then .own u sz (es++[xs])else .pnd (m-1) u sz (es++[xs]))else .pnd m u sz es:=by simp only[AV.fill]
theorem yY8(t)(xs)(u sz):AV.fill t xs (.eptr u sz)=if u=t then .undef else .eptr u sz:=by simp only[AV.fill]
theorem yKS(t)(xs)(cs):AV.fill t xs (.agg cs)=.agg (AV.iJ t xs cs):=by simp only[AV.fill]
theorem yKY(t)(xs)(cs):AV.fill t xs (.tup cs)=.tup (AV.iJ t xs cs):=by simp only[AV.fill]
theorem yKT(t)(xs)(f)(cs):AV.fill t xs (.clo f cs)=.clo f (AV.iJ t xs cs):=by simp only[AV.fill]
theorem yY7(t)(xs)(g)(a):AV.fill t xs (.cond g a)=.cond g (AV.fill t xs a):=by simp only[AV.fill]
attribute [go_sem] Vz yJ4 YH yXb yQ8 yY9 yKX yZo yXa yKU yKZ yK0 yKV yKW yY8 yKS yKY yKT yY7 AV.iJ jv jg St.fill AV.zV AV.zT
theorem yj1{E f caps cvs r g d gs K st as sk}(hc:iP st.mem 3 as=some cvs)(hf:r.flat=true)(hg:qY g (gs=true))(h:E.C f (cvs++caps.map .one) r)(hk:dL false g d K st as r):pD E g d f caps gs as K st sk:=
 .inl (.inl (by rw[hc];exact .inl ⟨r,by cases g with|none=>exact⟨hg,hf,h⟩|some b=>exact fun hb=>⟨hg hb,hf,h⟩,hk⟩))
theorem Ss{E f caps d gs K st as sk}(x)(h:E.C f [] (.bx x.pB x.m0 (lK x.τ) x.r x.m1 (lK x.iF)))(hr:x.r.fB=false)(hg:gs=true)(ho:okB st (as++caps.map .d) x)(hk:K (jB st d x)):pD E none d f caps gs as K st sk:=
 .inl (.inr (.inl ⟨x,⟨rfl,hg,hr,ho,h⟩,hk⟩))
theorem YK{E f caps d gs K st as sk}(x)(h:E.C f [] (.bx x.pB x.m0 (lK x.τ) x.r x.m1 (lK x.iF)))(hr:x.r.fB=false)(hg:gs=true)(ho:okB st (as++caps) x)(hk:K (jB st d x)):pC E none d f caps gs as K st sk:=
 .inl ⟨st,⟨[],rfl,rfl⟩,x,⟨rfl,hg,hr,ho,h⟩,hk⟩
theorem yz6{E f caps d gs K st as sk}(s)(hs:vv st s)(x)(h:E.C f [] (.bx x.pB x.m0 (lK x.τ) x.r x.m1 (lK x.iF)))(hr:x.r.fB=false)(hg:gs=true)(ho:okB s (as++caps) x)(hk:K (jB s d x)):pC E none d f caps gs as K st sk:=
 .inl ⟨s,hs,x,⟨rfl,hg,hr,ho,h⟩,hk⟩
theorem yYK(l:List D):AV.lX (l.map .d)=false:=by
 induction l with
 |nil=>rfl
 |cons x l ih=>rw[List.map_cons,AV.lX,AV.boxed,ih];rfl
attribute [go_sem] JI vG St.fC qO AV.boxed AV.lX yYK Fm wj Ck zZ uV
theorem yvl(σ τ)(l:List D):Matches σ τ (l.map .d) (l.map .d)=True:=by
 induction l with
 |nil=>rfl
 |cons x l ih=>simp only[List.map_cons,Matches,kr,gg,AV.mH,true_and,ih]
theorem yVt(σ τ)(l:List D):(l.map AV.d).map (AV.oT σ τ)=l.map .d:=by rw[List.map_map];rfl
theorem yYu(l:List D):(l.map AV.d).all sB=true:=by rw[List.all_map];exact List.all_eq_true.2 fun _ _=>rfl
attribute [go_sem] yvl yVt yYu
theorem yYA{a p}:xB none a p=p:=rfl
theorem yJ0{a p}:xB (some true) a p=p:=rfl
theorem yKu{a p}:xB (some false) a p=a:=rfl
theorem yVG:Fx none=true:=rfl
theorem yVH{b}:Fx (some b)=b:=by cases b<;>rfl
attribute [go_sem] yYA yJ0 yKu yVG yVH
theorem xQ{α β:Type}(f:α→Option β):[].mapM f=some []:=rfl
theorem wm{α β:Type}(f:α→Option β)(a)(l):(a::l).mapM f=match f a with|some b=>(match l.mapM f with|some bs=>some (b::bs)|none=>none)|none=>none:=by
 simp only[List.mapM_cons,Option.bind_eq_bind,Option.pure_def];cases f a with
 |none=>rfl
 |some b=>cases l.mapM f<;>rfl
attribute [go_sem] xQ wm
theorem yh{v}{E:ax}{f args r b g d K st as}(h:E.C f args r)(hk:dL v g d K st as r):∃r,(b=true→b=true∧E.C f args r)∧dL v g d K st as r:=⟨r,fun hb=>⟨hb,h⟩,hk⟩
attribute [go_sem] yKy yq5 yvp rO im ll yKz yq4 yvo kZ yKD yJ5 yKx yYG yxw Br yKw yJ6 yYN yYM yYP yYO yvE yvF yvG yk3 yWA lr pR kX nB uI
theorem yJ7{E g ps wl a b Q st}:cx E (.Ei g ps wl a b) Q st=match ev st g with
  |.d (.clo f caps)=>gd st g=true∧∃xs,E.It f caps xs∧Cn (fun Q'=>cx E a (jl (cx E b Q') Rr)) ps wl xs Q st
  |_=>False:=rfl
theorem yjB{wl N Q s}:Aj wl N Q .normal s=N (s.mP wl):=rfl
theorem yWC{wl N Q s i}:Aj wl N Q (.exit i) s=Q (.exit i) (s.mP wl):=rfl
theorem yVY{wl N Q s}:Aj wl N Q .ret s=Q .ret (s.mP wl):=rfl
theorem yJO{E:ax}{f caps xs B ps wl Q st}(h:E.It f caps xs)(Inv:List (List CV)→Prop)(Sx:List (List CV)→St)(h0:nF st (Sx []))(hi:Inv [])
  (hr:∀pre x rest,xs=pre++x::rest→Inv pre→x.length=ps.length∧B (Aj wl (fun s=>nF s (Sx (pre++[x]))∧Inv (pre++[x])) Q) {Sx pre with ae:=rj ps x (Sx pre).ae}) (hq:Inv xs→Q .normal (Sx xs)):
  ∃xs,E.It f caps xs∧Cn B ps wl xs Q st:=⟨xs,h,Inv,Sx,h0,hi,hr,hq⟩
attribute [go_sem] yJ7 yjB yWC yVY rj ua qP St.mP
theorem Nd{E a b Q st}:cx E (.seq a b) Q st=cx E a (jl (cx E b Q) Q) st:=rfl
theorem yXV(a b):j8 (.str a) (.str b)=true:=rfl
theorem yZF(a b):j8 (.bool a) (.bool b)=true:=rfl
theorem yXU(a b):j8 (.int .i64 a) (.int .i64 b)=true:=rfl
theorem Zf(a b):jq (.str a) (.str b)=(a==b):=rfl
theorem yZz(a b):jq (.bool a) (.bool b)=(a==b):=rfl
attribute [go_sem] nX gN Zf yZz
attribute [go_sem] yXV yZF yXU gI nz AV.cF
attribute [go_sem] Nd guardOf qY aC getM aE ev tR gd AV.strip AV.GK mG ju iB fV eW j5 St.put AV.cells AV.elems eO so lenOf xC bF sN pQ xf dP vF gh yKt yYz yYy yq6
 yjF yWR yV4 yxx yvw yZa yjA yVX yZe yJc List.length_map pF AV.mT dM dj j0 AV.mH AV.rq iP fl CV.jM CV.nD cK rh sF iu pP
 gE ko xv rK gu AV.plain AV.nA lK mS aZ sq yP
 List.map_cons List.map_nil List.drop_zero List.drop_succ_cons List.drop_nil List.take_zero List.take_succ_cons List.take_nil List.length_cons List.length_nil List.headD_cons List.take_of_length_le Nat.le_refl List.cons_append List.nil_append List.append_nil
 List.getD_cons_zero List.getD_cons_succ List.set_cons_zero List.set_cons_succ List.getElem?_cons_zero List.getElem?_cons_succ
 reduceIte true_and and_true Bool.true_and Bool.and_true Bool.and_self Int.toNat_natCast Option.some.injEq forall_const true_implies
theorem yYn(m1)(mp)(l:List D):gu m1 mp (l.map .d) (l.map .d)=True:=by
 induction l with
 |nil=>rfl
 |cons x l ih=>simp[gu,rK,ih]
attribute [go_sem] yYn
attribute [go_sem] Bool.or_self Bool.or_true Bool.true_or Bool.or_false Bool.false_or Bool.not_true Bool.not_false Bool.and_false Bool.false_and imp_self implies_true CV.one.injEq CV.tup.injEq CV.agg.injEq D.bool.injEq D.int.injEq D.str.injEq List.cons.injEq false_implies Int.natCast_nonneg Int.lt_irrefl Int.le_refl decide_true decide_false
theorem dG{st st1}(h:st1.tk=[]∧gE st st1.mem [] st1.ae∧ko st st1.mem [] st1.mem):nF st st1:=⟨[],[],_,rfl,h.1,trivial,h.2.1,h.2.2⟩
theorem LK{E c Q}{α:Type}(S:α→St)(I:α→Prop)(μ:α→Nat)(a0){st}(h0:nF st (S a0))(hi:I a0)
  (zJ:∀a,I a→cx E c (jl (fun s=>∃a',nF s (S a')∧I a'∧μ a'<μ a) Q) (S a)):cx E (.loop c) Q st:=by
 have key:∀(n:Nat) (a:α) {st:St},μ a<n→nF st (S a)→I a→cx E (.loop c) Q st:=by
  intro n;induction n with
  |zero=>intro a st h;omega
  |succ n ih=>intro a st hn h0 hi;refine SD h0 (Ng c (FQ (fun s h=>?_) fun _ _ h=>h) (zJ a hi));obtain⟨a',h1,h2,h3⟩:=h;exact ih a' (by omega) h1 h2
 exact key _ a0 (Nat.lt_succ_self _) h0 hi
theorem jP{st st1}(mp)(h:st1.tk=lK mp∧mS st mp []∧gE st st1.mem mp st1.ae∧ko st st1.mem mp st1.mem):nF st st1:=⟨[],mp,st,rfl,h⟩
theorem Bp{st st1}(k t sz)(es)(mp)(h1:aC st.ae k=.full es)(h2:∀e∈es,e.length=sz)(h3:aE st.tk t=none)
  (h:jz mp {st with ae:=(k,.own t sz es)::st.ae,tk:=(t,true)::st.tk} st1):nF st st1:=⟨[(.s k,t,sz)],mp,_,⟨_,⟨es,h1,h2,h3,rfl⟩,rfl⟩,h⟩
attribute [go_sem_proc] Nat.reduceEqDiff reduceCtorEq Nat.reduceAdd Nat.reduceLeDiff Nat.reduceMul Nat.reduceLT
attribute [go_sem] Bool.false_eq_true Bool.true_eq_false
theorem oS{α:Type}{a:α}:(some a).isSome=true:=rfl
theorem lA{α:Type}{as bs:List α}:(as++bs).length=as.length+bs.length:=List.length_append
theorem lM{α β:Type}{as}(f:α→β):(List.map f as).length=as.length:=List.length_map f
theorem lC{α:Type}{a}{as:List α}:(a::as).length=as.length+1:=rfl
theorem lN{α:Type}:([]:List α).length=0:=rfl
theorem zA(n):0+n=n:=Nat.zero_add n
theorem mA{α β:Type}{f:α→β}{l m}:List.map f (l++m)=List.map f l++List.map f m:=List.map_append
theorem mC{α β:Type}{f:α→β}{a l}:List.map f (a::l)=f a::List.map f l:=rfl
theorem mN{α β:Type}{f:α→β}:List.map f []=[]:=rfl
theorem nZ:((0:Nat):Int)=0:=rfl
theorem cN{α:Type}{a}[BEq α]:([]:List α).contains a=false:=rfl
theorem bn{n m:Nat}(h:n.ble m=true):n≤m:=Nat.le_of_ble_eq_true h
end Go.Abs
end
section
namespace Go.Abs
inductive Pred where
 |mk (op:Int) (name:List UInt8) (n:Int) (kids:List Pred)
namespace Pred
def op:Pred→Int|.mk o _ _ _=>o
def name:Pred→List UInt8|.mk _ s _ _=>s
def n:Pred→Int|.mk _ _ n _=>n
def kids:Pred→List Pred|.mk _ _ _ k=>k
mutual
def cells:Pred→List D
 |.mk o s n ks=>[.int .i64 o,.str s,.int .i64 n,.aw (qL ks)]
def qL:List Pred→List (List D)
 |[]=>[]
 |k::ks=>cells k::qL ks
end
theorem yYR(ks):qL ks=ks.map cells:=by
 induction ks with
 |nil=>simp[qL]
 |cons k ks ih=>simp[qL,ih]
theorem bm(p):cells p=[.int .i64 p.op,.str p.name,.int .i64 p.n,.aw (p.kids.map cells)]:=by
 cases p;simp[cells,op,name,n,kids,yYR]
theorem mV(p):(cells p).length=4:=by rw[bm];rfl
theorem yZg(p):(cells p).take 4=cells p:=List.take_of_length_le (by rw[mV];omega)
theorem ind{P:Pred→Prop}(h:∀o s n ks,(∀k∈ks,P k)→P (.mk o s n ks)):∀p,P p:=
 fun p=>Pred.rec (motive_1:=P) (motive_2:=fun ks=>∀k∈ks,P k) h (fun k hk=>by cases hk) (fun k ks hk mQ x hx=>by
  rcases List.mem_cons.1 hx with rfl|hx
  ·exact hk
  ·exact mQ x hx) p
attribute [go_sem] mV
theorem lens(l:List Pred):∀e∈l.map cells,e.length=4:=by
 intro e he;obtain⟨p,_,rfl⟩:=List.mem_map.1 he;exact mV p
theorem yt(l:List Pred):(∀e∈l.map cells,e.length=4)=True:=eq_true (lens l)
attribute [go_sem] yt yZg
end Pred
theorem Gt{α β:Type}(f)(a)(x)(b:List α)(d:β):((a++x::b).map f).getD a.length d=f x:=by simp
theorem i64_in(n)(h: -9223372036854775808≤n∧n≤9223372036854775807):IntKind.i64.wrap n=n:=by
 unfold IntKind.wrap;simp only[IntKind.signed,IntKind.bits,Bool.true_and,ge_iff_le,decide_eq_true_eq];by_cases h':(2:Int)^(64-1)≤n%2^64
 ·rw[if_pos h'];omega
 ·rw[if_neg h'];omega
theorem gn{n:Nat}(h:(n:Int)+1≤9223372036854775807):IntKind.i64.wrap ((n:Int)+1)=((n+1:Nat):Int):=by
 rw[i64_in _ (by omega)];omega
theorem gw{α:Type}{l a b}{x:α}(h:l=a++x::b):(a.length:Int)<l.length:=by rw[h];simp;omega
theorem KC{α:Type}{l}(a)(x)(b)(d:α)(h:l=a++x::b):l.getD a.length d=x:=by subst h;simp
end Go.Abs
end
