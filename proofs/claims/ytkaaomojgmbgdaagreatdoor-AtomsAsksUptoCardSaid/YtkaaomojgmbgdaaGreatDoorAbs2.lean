/-
  A LIBRARY OF THE PROOF: an abstract machine over the texts of the translated functions, whose values are plain data, proved sound with regard to the kit's law of calls (names shortened by program).
-/
import Derived.Laws.StructEq
import Derived.ChangeKeysEq
import Derived.Laws.MakeOwn
import Derived.Laws.IdiomCopy
import Derived.Test.YtkaaomojgmbgdaaGreatDoorAbs1
set_option linter.unusedSimpArgs false
set_option linter.unusedVariables false
set_option linter.unusedSectionVars false
set_option maxRecDepth 100000
section
namespace Go.Abs
open Go.RowKit
variable{c:Ctx}{st:St}{tmps:Array Value}{w:World}{S:Safe}{ρ:bW}
theorem Nn{st}:∀{mp} {us},mS st mp us→(∀t u,aZ mp t=some u→aE st.tk u=some true∧us.contains u=false)∧(∀t t' u,aZ mp t=some u→aZ mp t'=some u→t=t')
 |[],_,_=>⟨fun t u h=>by simp[aZ]at h,fun t t' u h=>by simp[aZ]at h⟩
 |(k,u0)::r,us,h=>by
  obtain⟨⟨h0,h1⟩,h2⟩:=h;obtain⟨i1,i2⟩:=Nn h2;have jR:∀t u,aZ r t=some u→u≠u0∧us.contains u=false:=by intro t u ht;have:=(i1 t u ht).2;simp only[List.contains_cons,Bool.or_eq_false_iff,beq_eq_false_iff_ne]at this;exact⟨this.1,this.2⟩
  refine⟨fun t u ht=>?_,fun t t' u ht iO=>?_⟩
  ·simp only[aZ]at ht;split at ht
   ·cases ht;exact⟨h1,h0⟩
   ·exact⟨(i1 t u ht).1,(jR t u ht).2⟩
  ·simp only[aZ]at ht iO;split at ht<;>split at iO
   ·simp_all
   ·cases ht;exact absurd rfl (jR t' _ iO).1
   ·cases iO;exact absurd rfl (jR t _ ht).1
   ·exact i2 t t' u ht iO
theorem Bm:∀(mp) (t),aE (lK mp) t=(aZ mp t).map fun _=>true
 |[],t=>rfl
 |(k,u)::r,t=>by
  simp only[lK,aE,aZ];split
  ·rfl
  ·exact Bm r t
theorem xq:∀{σ} {s u},aZ σ s=some u→(s,u)∈σ
 |(k,v)::l,s,u,h=>by
  simp only[aZ]at h;split at h
  ·rename_i hk;subst hk;cases h;exact List.mem_cons_self
  ·exact List.mem_cons_of_mem _ (xq h)
theorem TK:∀{l} {a},bP (a::l)=true→a∉l∧bP l=true
 |l,a,h=>by simp only[bP,Bool.and_eq_true,Bool.not_eq_true',List.contains_eq_mem,decide_eq_false_iff_not]at h;exact h
theorem Cs:∀{σ} {s u},bP (σ.map (·.1))=true→(s,u)∈σ→aZ σ s=some u
 |(k,v)::l,s,u,hn,h=>by
  obtain⟨h1,h2⟩:=TK (by simpa using hn);simp only[aZ];rcases List.mem_cons.1 h with e|h
  ·cases e;rw[if_pos rfl]
  ·rw[if_neg]
   ·exact Cs h2 h
   ·rintro rfl;exact h1 (List.mem_map.2 ⟨_,h,rfl⟩)
theorem Nr:∀{σ:bJ} {s s' u},bP (σ.map (·.2))=true→(s,u)∈σ→(s',u)∈σ→s=s'
 |(k,v)::l,s,s',u,hn,h,h'=>by
  obtain⟨h1,h2⟩:=TK (by simpa using hn);rcases List.mem_cons.1 h with e|h<;>rcases List.mem_cons.1 h' with e'|h'
  ·cases e;cases e';rfl
  ·cases e;exact absurd (List.mem_map.2 ⟨_,h',rfl⟩) h1
  ·cases e';exact absurd (List.mem_map.2 ⟨_,h,rfl⟩) h1
  ·exact Nr h2 h h'
def iv(ρ:bW)(σ τ:bJ):bW:={box:=fun s=>(aZ σ s).bind ρ.box,cO:=fun s=>(aZ σ s).bind ρ.cO,tok:=fun t=>(aZ τ t).bind ρ.tok}
theorem gg.sound{σ τ a a0 v}(h:ay w S ρ a v)(hm:gg σ τ a a0):ay w S (iv ρ σ τ) a0 v:=by
 cases a0 with
 |d x=>exact G2 (m:=[]) xX 1 a v x h hm
 |own t sz es=>
  simp only[gg]at hm;split at hm
  ·rename_i u hu;subst hm;obtain⟨h1,h2,base,n,cap,h3,h4⟩:=h;exact⟨h1,h2,base,n,cap,by simp only[iv,hu,Option.bind_some];exact h3,h4⟩
  ·exact hm.elim
 |ptr s off=>
  simp only[gg]at hm;split at hm
  ·rename_i u hu;subst hm;obtain⟨b,h1,h2⟩:=h;exact⟨b,by simp only[iv,hu,Option.bind_some];exact h1,h2⟩
  ·exact hm.elim
 |mref s=>
  simp only[gg]at hm;split at hm
  ·rename_i u hu;subst hm;obtain⟨b,h1,h2⟩:=h;exact⟨b,by simp only[iv,hu,Option.bind_some];exact h1,h2⟩
  ·exact hm.elim
 |vec s esz off n cap=>
  simp only[gg]at hm;split at hm
  ·rename_i u hu;subst hm;obtain⟨k1,k2,b,h1,h2⟩:=h;exact⟨k1,k2,b,by simp only[iv,hu,Option.bind_some];exact h1,h2⟩
  ·exact hm.elim
 |undef=>trivial
 |_=>exact hm.elim
theorem j3.sound{σ τ}:∀{as bs} {vs},af w S ρ as vs→j3 σ τ as bs→af w S (iv ρ σ τ) bs vs
 |[],[],_,h,_=>h
 |_::_,_::_,_,⟨v,r,e,h1,h2⟩,hm=>⟨v,r,e,gg.sound h1 hm.1,j3.sound h2 hm.2⟩
 |[],_::_,_,_,hm=>hm.elim
 |_::_,[],_,_,hm=>hm.elim
theorem kr.sound{σ τ a a0 v}(h:ay w S ρ a v)(hm:kr σ τ a a0):ay w S (iv ρ σ τ) a0 v:=by
 cases a0 with
 |clo f0 kJ=>
  cases a with
  |clo f cs=>obtain⟨rfl,hm⟩:=hm;obtain⟨vs,h1,h2⟩:=h;exact⟨vs,h1,j3.sound h2 hm⟩
  |_=>exact hm.elim
 |_=>exact gg.sound h hm
theorem Matches.sound{σ τ}:∀{as bs} {vs},af w S ρ as vs→Matches σ τ as bs→af w S (iv ρ σ τ) bs vs
 |[],[],_,h,_=>h
 |a::as,b::bs,_,⟨v,r,e,h1,h2⟩,hm=>⟨v,r,e,kr.sound h1 hm.1,Matches.sound h2 hm.2⟩
 |[],_::_,_,_,hm=>hm.elim
 |_::_,[],_,_,hm=>hm.elim
theorem oZ.sound{σ τ a a0 v}(h:ay w S ρ a v)(hm:oZ σ τ a a0):ay w S (iv ρ σ τ) a0 v:=by
 cases a0 with
 |agg kJ=>
  cases a with
  |agg cs=>obtain⟨vs,h1,h2⟩:=h;exact⟨vs,h1,Matches.sound h2 hm⟩
  |_=>exact hm.elim
 |_=>exact kr.sound h hm
theorem fT.sound{σ τ}:∀{as bs} {vs},af w S ρ as vs→fT σ τ as bs→af w S (iv ρ σ τ) bs vs
 |[],[],_,h,_=>h
 |a::as,b::bs,_,⟨v,r,e,h1,h2⟩,hm=>⟨v,r,e,oZ.sound h1 hm.1,fT.sound h2 hm.2⟩
 |[],_::_,_,_,hm=>hm.elim
 |_::_,[],_,_,hm=>hm.elim
theorem Matches.iW{σ τ cs kJ}(h:Matches σ τ cs kJ):cF cs=false:=by
 cases hm:cF cs with
 |false=>rfl
 |true=>
  obtain⟨k,e,cA,rfl⟩:=xr.1 hm;cases kJ with
  |nil=>exact h.elim
  |cons a0 r=>have h1:=h.1;cases a0<;>simp only[kr,gg,AV.mH,AV.cF,Bool.true_eq_false,reduceCtorEq]at h1;all_goals (split at h1<;>first|exact h1.elim|cases h1)
theorem de.get{st τ AG}:∀{σ} {m},de st τ AG σ m→(∀s kJ,getM m s=some kJ→∃s' cs,aZ σ s=some s'∧getM st.mem s'=some cs∧((cF kJ=true∧cs=kJ)∨(cF kJ=false∧cF cs=false∧Matches AG τ cs kJ)))∧
  (∀s,getM m s=none→aZ σ s=none)∧(∀p∈σ,1000≤p.1∧(getM st.mem p.2).isSome=true)
 |[],[],_=>⟨fun s kJ h=>by simp[getM]at h,fun s _=>rfl,fun p hp=>by cases hp⟩
 |(s,s')::σ,(s0,kJ)::m,h=>by
  obtain⟨⟨rfl,qt,hm⟩,hr⟩:=h;obtain⟨i1,i2,i3⟩:=de.get hr;refine⟨fun k ck hk=>?_,fun k hk=>?_,fun p hp=>?_⟩
  ·simp only[getM]at hk;simp only[aZ];by_cases mQ:s0=k
   ·subst mQ;rw[if_pos rfl]at hk⊢;cases hk;split at hm
    ·rename_i cs dU;refine⟨s',cs,rfl,dU,?_⟩;split at hm
     ·exact .inl ⟨rfl,hm⟩
     ·rename_i b6;have h0:cF kJ=false:=by
       cases sZ:cF kJ with
       |false=>rfl
       |true=>obtain⟨k,e,cA,rfl⟩:=xr.1 sZ;exact absurd rfl (b6 k e cA)
      exact .inr ⟨h0,hm.iW,hm⟩
    ·exact hm.elim
   ·rw[if_neg mQ]at hk⊢;exact i1 k ck hk
  ·simp only[getM]at hk;simp only[aZ];by_cases mQ:s0=k
   ·rw[if_pos mQ]at hk;cases hk
   ·rw[if_neg mQ]at hk⊢;exact i2 k hk
  ·rcases List.mem_cons.1 hp with rfl|hp
   ·refine⟨qt,?_⟩;split at hm
    ·rename_i cs dU;simp[dU]
    ·exact hm.elim
   ·exact i3 p hp
 |[],_::_,h=>h.elim
 |_::_,[],h=>h.elim
def dY(ρ:bW)(σ τ:bJ):List Nat:=σ.filterMap (fun p=>ρ.box p.2)++σ.filterMap (fun p=>ρ.cO p.2)++τ.filterMap fun p=>match ρ.tok p.2 with
 |some (some a,n,cap,_)=>if n=cap then none else some a.block
 |_=>none
theorem yZb{σ τ s s' b}(h:aZ σ s=some s')(hb:ρ.box s'=some b):b∈dY ρ σ τ:=
 List.mem_append_left _ (List.mem_append_left _ (List.mem_filterMap.2 ⟨(s,s'),xq h,hb⟩))
theorem yvy{σ τ s s' b}(h:aZ σ s=some s')(hb:ρ.cO s'=some b):b∈dY ρ σ τ:=
 List.mem_append_left _ (List.mem_append_right _ (List.mem_filterMap.2 ⟨(s,s'),xq h,hb⟩))
theorem yZc{σ τ t u b y}(h:aZ τ t=some u)(hb:ρ.tok u=some (some ⟨b,0,none⟩,y))(hy:y.1≠y.2.1):b∈dY ρ σ τ:=by refine List.mem_append_right _ (List.mem_filterMap.2 ⟨(t,u),xq h,?_⟩);obtain⟨n,cap,sz⟩:=y;simp only[hb];rw[if_neg hy]
theorem K8{σ τ b}(hn:bP (τ.map (·.1))=true)(h:b∈dY ρ σ τ):(∃s s',(s,s')∈σ∧ρ.box s'=some b)∨(∃s s',(s,s')∈σ∧ρ.cO s'=some b)∨∃t u a n cap sz,aZ τ t=some u∧ρ.tok u=some (some a,n,cap,sz)∧n≠cap∧a.block=b:=by
 rcases List.mem_append.1 h with h|h
 ·rcases List.mem_append.1 h with h|h
  ·obtain⟨p,hp,hb⟩:=List.mem_filterMap.1 h;exact .inl ⟨p.1,p.2,hp,hb⟩
  ·obtain⟨p,hp,hb⟩:=List.mem_filterMap.1 h;exact .inr (.inl ⟨p.1,p.2,hp,hb⟩)
 ·obtain⟨p,hp,hb⟩:=List.mem_filterMap.1 h;split at hb
  ·rename_i a n cap sz ht;split at hb
   ·cases hb
   ·rename_i b6;cases hb;exact .inr (.inr ⟨p.1,p.2,a,n,cap,sz,Cs hn hp,ht,b6,rfl⟩)
  ·cases hb
theorem aN.IE(h:aN c st tmps w S ρ){σ τ m0}(hm:de st τ σ σ m0)(ht:mS st τ [])(gL:bP (σ.map (·.1))=true)(jS:bP (σ.map (·.2))=true):
  aN (sQ c.P c.G w S (dY ρ σ τ) (σ.filterMap fun p=>(ρ.box p.2).map fun b=>(p.1,b)) (σ.filterMap fun p=>(ρ.cO p.2).map fun b=>(p.1,b)) none) ⟨[],m0,lK τ⟩ #[] w S (iv ρ σ τ):=by
 obtain⟨g1,g2,g3⟩:=hm.get;obtain⟨t1,t2⟩:=Nn ht;have qt:∀b,c.Own b→c.P.globals.size≤b:=fun b hb=>by
  rcases hb with hb|⟨_,hb⟩
  ·exact Nat.le_trans h.ex.1 hb
  ·exact hb
 refine{size:=rfl,ae:=fun k=>trivial,mem:=?_,inj:=?_,aQ:=?_,cL:=?_,tok:=?_,aV:=?_,below:=dK.refl _,fX:=fun _ _ hs=>hs,new:=fun _ _ hs=>.inl hs,live:=h.live,b5:=h.b5,ex:=h.exact,
        fx:=fun k hk=>(by cases hk),eH:=fun p hp=>(by cases hp),keeps:=fun p hp=>(by cases hp),pins:=⟨fun p hp=>⟨Nat.zero_le _,fun b hb=>?_⟩,fun p hp=>⟨Nat.zero_le _,fun b hb=>?_⟩⟩}
 ·intro s kJ hs fG;obtain⟨s',cs,e1,e2,⟨e3,_⟩|⟨_,e4,e5⟩⟩:=g1 s kJ hs
  ·rw[fG]at e3;cases e3
  ·obtain⟨b,vs,e,k1,k2,k3,k4,k6⟩:=h.mem s' cs e2 e4;exact⟨b,vs,e,by simp only[iv,e1,Option.bind_some];exact k1,.inr ⟨yZb e1 k1,qt b k2⟩,k3,Matches.sound k4 e5,k6⟩
 ·intro s s' b hb nL;simp only[iv,Option.bind_eq_some_iff]at hb nL;obtain⟨u,e1,e2⟩:=hb;obtain⟨u',tQ,C0⟩:=nL;obtain rfl:=h.inj u u' b e2 C0;exact Nr jS (xq e1) (xq tQ)
 ·intro s hs;simp only[iv,g2 s hs,Option.bind_none]
 ·refine{at':=?_,inj:=?_,new:=?_,lt:=?_,apart:=?_}
  ·intro s k e cA hs;obtain⟨s',cs,e1,e2,⟨_,rfl⟩|⟨e3,_⟩⟩:=g1 s _ hs
   ·obtain⟨b,k1,k2,k3,k4⟩:=h.cL.at' s' k e cA e2;exact⟨b,by simp only[iv,e1,Option.bind_some];exact k1,by simp only[iv,e1,Option.bind_some];exact k2,.inr ⟨yvy e1 k1,qt b k3⟩,k4⟩
   ·cases e3
  ·intro s s' b hb nL;simp only[iv,Option.bind_eq_some_iff]at hb nL;obtain⟨u,e1,e2⟩:=hb;obtain⟨u',tQ,C0⟩:=nL;obtain rfl:=h.cL.inj u u' b e2 C0;exact Nr jS (xq e1) (xq tQ)
  ·intro s hs;simp only[iv,g2 s hs,Option.bind_none]
  ·intro s b hb;simp only[iv,Option.bind_eq_some_iff]at hb;obtain⟨u,_,e2⟩:=hb;exact h.cL.lt u b e2
  ·intro s b hb;simp only[iv,Option.bind_eq_some_iff]at hb;obtain⟨u,e1,e2⟩:=hb;simp only[iv,e1,Option.bind_some];exact h.cL.apart u b e2
 ·intro t dy;simp only at dy;rw[Bm]at dy;cases Dq:aZ τ t with
  |none=>rw[Dq]at dy;cases dy
  |some u=>
   obtain⟨x,k1,k2⟩:=h.tok u (t1 t u Dq).1;refine⟨x,by simp only[iv,Dq,Option.bind_some];exact k1,?_⟩;by_cases eN:x.2.1=x.2.2.1
   ·exact .inl eN
   rcases k2 with k2|⟨b,q0,q1,q2,q3,q4,q5,q6,q7⟩
   ·exact .inl k2
   ·refine .inr ⟨b,q0,.inr ⟨yZc Dq (by rw[k1,←q0]) eN,qt b q1⟩,q2,q3,q4,q5,fun s lP=>?_,fun t' b' y b6 iO eE hy=>?_⟩
    ·simp only[iv,Option.bind_eq_some_iff]at lP;obtain⟨s',_,e2⟩:=lP;exact q6 s' e2
    ·simp only[iv,Option.bind_eq_some_iff]at eE;obtain⟨u',e1,e2⟩:=eE;refine q7 u' b' y (fun e=>b6 ?_) (t1 t' u' e1).1 e2 hy;subst e;exact t2 t' t u' e1 Dq
 ·intro t hn;simp only at hn;rw[Bm]at hn;cases Dq:aZ τ t with
  |none=>simp only[iv,Dq,Option.bind_none]
  |some u=>rw[Dq]at hn;cases hn
 ·obtain⟨q,hq,e⟩:=List.mem_filterMap.1 hp;rw[Option.map_eq_some_iff]at e;obtain⟨b0,e1,rfl⟩:=e;simp only[iv,Cs gL (show(q.1,q.2)∈σ from hq),Option.bind_some]at hb;exact Option.some.inj (hb.symm.trans e1)
 ·obtain⟨q,hq,e⟩:=List.mem_filterMap.1 hp;rw[Option.map_eq_some_iff]at e;obtain⟨b0,e1,rfl⟩:=e;simp only[iv,Cs gL (show(q.1,q.2)∈σ from hq),Option.bind_some]at hb;exact Option.some.inj (hb.symm.trans e1)
end Go.Abs
end
section
namespace Go.Abs
open Go.RowKit
variable{c:Ctx}{st:St}{tmps:Array Value}{w:World}{S:Safe}{ρ:bW}
def eg:bJ→Nat→Option Nat
 |[],_=>none
 |(t,u)::l,i=>if u=i then some t else eg l i
theorem Km:∀{σ} {s u},eg σ u=some s→(s,u)∈σ
 |(k,v)::l,s,u,h=>by
  simp only[eg]at h;split at h
  ·rename_i hk;subst hk;cases h;exact List.mem_cons_self
  ·exact List.mem_cons_of_mem _ (Km h)
theorem Ze:∀{σ} {s u},bP (σ.map (·.2))=true→(s,u)∈σ→eg σ u=some s
 |(k,v)::l,s,u,hn,h=>by
  obtain⟨h1,h2⟩:=TK (by simpa using hn);simp only[eg];rcases List.mem_cons.1 h with e|h
  ·cases e;rw[if_pos rfl]
  ·rw[if_neg]
   ·exact Ze h2 h
   ·rintro rfl;exact h1 (List.mem_map.2 ⟨_,h,rfl⟩)
theorem yyG{σ u}(h:eg σ u=none):∀s,(s,u)∉σ:=by
 induction σ with
 |nil=>intro s hs;cases hs
 |cons p l ih=>
  obtain⟨k,v⟩:=p;simp only[eg]at h;split at h
  ·cases h
  ·rename_i hk;intro s hs;rcases List.mem_cons.1 hs with e|hs
   ·cases e;exact hk rfl
   ·exact ih h s hs
theorem Zz:∀{τ} {tk} {t u},ng tk τ→(t,u)∈τ→aE tk u=none
 |(k,v)::l,tk,t,u,h,hm=>by
  rcases List.mem_cons.1 hm with e|hm
  ·cases e;exact h.1
  ·exact Zz h.2 hm
theorem KD:∀(τ) (l) (u),aE (lp τ++l) u=if(eg τ u).isSome then some true else aE l u
 |[],l,u=>rfl
 |(k,v)::r,l,u=>by
  by_cases h:v=u
  ·simp[lp,aE,eg,h]
  ·simp[lp,aE,eg,h,KD r l u]
theorem K9:∀(τ) (l) (u),aE (jk τ++l) u=if(eg τ u).isSome then some false else aE l u
 |[],l,u=>rfl
 |(k,v)::r,l,u=>by
  by_cases h:v=u
  ·simp[jk,aE,eg,h]
  ·simp[jk,aE,eg,h,K9 r l u]
theorem ZL:∀{m1 m0} (s),m1.map (·.1)=m0.map (·.1)→m1.map (fun p=>cF p.2)=m0.map (fun p=>cF p.2)→(getM m1 s).map cF=(getM m0 s).map cF
 |[],[],s,_,_=>rfl
 |(k,a)::m1,(k',b)::m0,s,h,h'=>by
  simp only[List.map_cons,List.cons.injEq]at h h';obtain⟨rfl,h⟩:=h;obtain⟨e,h'⟩:=h';simp only[getM];by_cases hk:k=s
  ·rw[if_pos hk,if_pos hk];simp[e]
  ·rw[if_neg hk,if_neg hk];exact ZL s h h'
 |[],_::_,_,h,_=>by simp at h
 |_::_,[],_,h,_=>by simp at h
theorem R3{σ τ m s' cs}:∀{m1},(∀p∈m1,∃u,aZ σ p.1=some u)→getM (dC σ τ m1++m) s'=some cs→
  (∃s0 jX,aZ σ s0=some s'∧getM m1 s0=some jX∧cs=jX.map (AV.oT σ τ))∨((∀s0,aZ σ s0=some s'→getM m1 s0=none)∧getM m s'=some cs)
 |[],_,h=>.inr ⟨fun _ _=>rfl,h⟩
 |(k,ck)::r,hn,h=>by
  obtain⟨u,hu⟩:=hn (k,ck) (by simp);simp only[dC,List.cons_append,getM]at h;rw[hu,Option.getD_some]at h;by_cases he:u=s'
  ·rw[if_pos he]at h;cases h;exact .inl ⟨k,ck,he▸hu,by simp[getM],rfl⟩
  ·rw[if_neg he]at h;rcases R3 (fun p hp=>hn p (by simp[hp])) h with⟨s0,jX,e1,e2,e3⟩|⟨e1,e2⟩
   ·refine .inl ⟨s0,jX,e1,?_,e3⟩;simp only[getM];rw[if_neg]
    ·exact e2
    ·intro hk;rw[hk,e1]at hu;exact he (Option.some.inj hu).symm
   ·refine .inr ⟨fun s0 oQ=>?_,e2⟩;simp only[getM];rw[if_neg]
    ·exact e1 s0 oQ
    ·intro hk;rw[hk,oQ]at hu;exact he (Option.some.inj hu).symm
theorem Sf{σ τ m s'}:∀{m1},getM (dC σ τ m1++m) s'=none→getM m s'=none
 |[],h=>h
 |(k,ck)::r,h=>by
  simp only[dC,List.cons_append,getM]at h;split at h
  ·cases h
  ·exact Sf h
theorem ay.gW{gq jO σ iF}(hb:∀s b,gq.box s=some b→∃s',aZ σ s=some s'∧jO.box s'=some b)(hm:∀s b,gq.cO s=some b→∃s',aZ σ s=some s'∧jO.cO s'=some b)
  (ht:∀t x,gq.tok t=some x→∃u,aZ iF t=some u∧jO.tok u=some x) {a} {v} (hk:uJ a=true) (h:ay w S gq a v):ay w S jO (a.gW σ iF) v:=by
 cases a with
 |d x=>exact h
 |full es=>exact h
 |own t sz es=>obtain⟨h1,h2,base,n,cap,h3,h4⟩:=h;obtain⟨u,e1,e2⟩:=ht t _ h3;simp only[AV.gW,e1,Option.getD_some];exact⟨h1,h2,base,n,cap,e2,h4⟩
 |ptr s off=>obtain⟨b,h1,h2⟩:=h;obtain⟨u,e1,e2⟩:=hb s _ h1;simp only[AV.gW,e1,Option.getD_some];exact⟨b,e2,h2⟩
 |mref s=>obtain⟨b,h1,h2⟩:=h;obtain⟨u,e1,e2⟩:=hm s _ h1;simp only[AV.gW,e1,Option.getD_some];exact⟨b,e2,h2⟩
 |vec s esz off n cap=>obtain⟨k1,k2,b,h1,h2⟩:=h;obtain⟨u,e1,e2⟩:=hb s _ h1;simp only[AV.gW,e1,Option.getD_some];exact⟨k1,k2,b,e2,h2⟩
 |mp k e cA=>exact h.elim
 |undef=>trivial
 |_=>cases hk
theorem af.gW{gq jO σ iF}(hb:∀s b,gq.box s=some b→∃s',aZ σ s=some s'∧jO.box s'=some b)(hm:∀s b,gq.cO s=some b→∃s',aZ σ s=some s'∧jO.cO s'=some b)
  (ht:∀t x,gq.tok t=some x→∃u,aZ iF t=some u∧jO.tok u=some x):∀{as} {vs},as.all uJ=true→af w S gq as vs→af w S jO (as.map (AV.gW σ iF)) vs
 |[],_,_,h=>h
 |_::_,_,hk,⟨v,r,e,h1,h2⟩=>by simp only[List.all_cons,Bool.and_eq_true]at hk;exact⟨v,r,e,ay.gW hb hm ht hk.1 h1,af.gW hb hm ht hk.2 h2⟩
theorem ay.GX{gq jO σ iF}(hb:∀s b,gq.box s=some b→∃s',aZ σ s=some s'∧jO.box s'=some b)(hm:∀s b,gq.cO s=some b→∃s',aZ σ s=some s'∧jO.cO s'=some b)
  (ht:∀t x,gq.tok t=some x→∃u,aZ iF t=some u∧jO.tok u=some x) {a} {v} (hk:sB a=true) (h:ay w S gq a v):ay w S jO (a.oT σ iF) v:=by
 cases a with
 |clo f cs=>obtain⟨vs,h1,h2⟩:=h;exact⟨vs,h1,af.gW hb hm ht hk h2⟩
 |_=>exact(ay.gW hb hm ht (by exact hk) h:ay w S jO (AV.gW σ iF _) v)
theorem af.GX{gq jO σ iF}(hb:∀s b,gq.box s=some b→∃s',aZ σ s=some s'∧jO.box s'=some b)(hm:∀s b,gq.cO s=some b→∃s',aZ σ s=some s'∧jO.cO s'=some b)
  (ht:∀t x,gq.tok t=some x→∃u,aZ iF t=some u∧jO.tok u=some x):∀{as} {vs},as.all sB=true→af w S gq as vs→af w S jO (as.map (AV.oT σ iF)) vs
 |[],_,_,h=>h
 |a::as,_,hk,⟨v,r,e,h1,h2⟩=>by simp only[List.all_cons,Bool.and_eq_true]at hk;exact⟨v,r,e,ay.GX hb hm ht hk.1 h1,af.GX hb hm ht hk.2 h2⟩
theorem YC:∀{m} {s} {cs},getM m s=some cs→(s,cs)∈m
 |(k,v)::l,s,cs,h=>by
  simp only[getM]at h;split at h
  ·rename_i hk;subst hk;cases h;exact List.mem_cons_self
  ·exact List.mem_cons_of_mem _ (YC h)
theorem getM_some{m p}(h:p∈m):∃cs,getM m p.1=some cs:=by
 induction m with
 |nil=>cases h
 |cons q m ih=>
  obtain⟨k,v⟩:=q;simp only[getM];by_cases hk:k=p.1
  ·exact⟨v,by rw[if_pos hk]⟩
  ·rw[if_neg hk];rcases List.mem_cons.1 h with e|h
   ·subst e;exact absurd rfl hk
   ·exact ih h
theorem aN.PT(h:aN c st tmps w S ρ){σ τ iF m0 m1}(hm:de st τ σ σ m0)(ht:mS st τ [])(gL:bP (σ.map (·.1))=true)(jS:bP (σ.map (·.2))=true)(JC:bP (τ.map (·.1))=true)
  (hn:m1.map (·.1)=m0.map (·.1)) (I6:m1.map (fun p=>cF p.2)=m0.map (fun p=>cF p.2)) (Mp:∀p∈m1,p.2.all sB=true) (wO:ng st.tk iF) (Fl:bP (iF.map (·.1))=true) (Rg:bP (iF.map (·.2))=true)
  {w'} {S'} {gq} (h1:aN (sQ c.P c.G w S (dY ρ σ τ) (σ.filterMap fun p=>(ρ.box p.2).map fun b=>(p.1,b)) (σ.filterMap fun p=>(ρ.cO p.2).map fun b=>(p.1,b)) (some (w,S))) ⟨[],m1,lK iF⟩ #[] w' S' gq):
  ∃jO,(ρ.le jO∧∀s b,gq.box s=some b→∃s',aZ σ s=some s'∧jO.box s'=some b)∧aN c {st with mem:=dC σ iF m1++st.mem,tk:=lp iF++(jk τ++st.tk)} tmps w' S' jO:=by
 obtain⟨g1,g2,g3⟩:=hm.get
 obtain⟨t1,t2⟩:=Nn ht
 have fN:aY w S w' S':=h1.keeps (w,S) rfl
 have cellsOf:∀s' b,ρ.box s'=some b→∃cs vs e,getM st.mem s'=some cs∧cF cs=false∧c.Own b∧w.heap[b]? =some (.cells vs e (0,0))∧(∀o,¬S b o):=fun s' b hb=>by
  cases hs:getM st.mem s' with
  |none=>rw[h.aQ s' hs]at hb;cases hb
  |some cs=>
   obtain⟨b',vs,e,k1,k2,k3,_,k6⟩:=h.mem s' cs hs (h.iW hb hs)
   rw[hb]at k1;cases k1
   exact⟨cs,vs,e,rfl,h.iW hb hs,k2,k3,k6⟩
 have mapOf:∀s' b,ρ.cO s'=some b→c.Own b∧∃es clock,w.heap[b]? =some (.map es clock):=fun s' b hb=>by
  cases hs:getM st.mem s' with
  |none=>rw[h.cL.new s' hs]at hb;cases hb
  |some cs=>
   cases sZ:cF cs with
   |false=>
    obtain⟨b',vs,e,k1,_⟩:=h.mem s' cs hs sZ
    rw[h.cL.apart s' b' k1]at hb;cases hb
   |true=>
    obtain⟨k,e,cA,rfl⟩:=xr.1 sZ
    obtain⟨b',k1,_,k3,k4⟩:=h.cL.at' s' k e cA hs
    rw[hb]at k1;cases k1
    exact⟨k3,k4.obj⟩
 have sG:∀u a n cap sz,aE st.tk u=some true→ρ.tok u=some (some a,n,cap,sz)→n≠cap→a=⟨a.block,0,none⟩∧c.Own a.block∧(∃cur e,w.heap[a.block]? =some (.cells cur e (0,0)))∧(∀s,ρ.box s≠some a.block)∧
   ∀t' b' y,t'≠u→aE st.tk t'=some true→ρ.tok t'=some (some ⟨b',0,none⟩,y)→y.1≠y.2.1→b'≠a.block:=fun u a n cap sz hu hx b6=>by
  obtain⟨x,k1,k2⟩:=h.tok u hu
  rw[hx]at k1;cases k1
  rcases k2 with k2|⟨b,q0,q1,⟨cur,e,q2,_⟩,_,_,_,q6,q7⟩
  ·exact absurd k2 b6
  ·cases q0
   exact⟨rfl,q1,⟨cur,e,q2⟩,q6,q7⟩
 have hX:∀b∈dY ρ σ τ,c.Own b∧b<w.heap.size:=fun b hb=>by
  rcases K8 JC hb with⟨s,s',_,e⟩|⟨s,s',_,e⟩|⟨t,u,a,n,cap,sz,e1,e2,e3,rfl⟩
  ·obtain⟨cs,vs,_,_,_,k2,k3,_⟩:=cellsOf s' b e
   exact⟨k2,(Array.getElem?_eq_some_iff.1 k3).1⟩
  ·obtain⟨k1,es,clock,k3⟩:=mapOf s' b e
   exact⟨k1,(Array.getElem?_eq_some_iff.1 k3).1⟩
  ·obtain⟨_,k1,⟨cur,e,k3⟩,_⟩:=sG u a n cap sz (t1 t u e1).1 e2 e3
   exact⟨k1,(Array.getElem?_eq_some_iff.1 k3).1⟩
 have qw:∀b,(sQ c.P c.G w S (dY ρ σ τ) (σ.filterMap fun p=>(ρ.box p.2).map fun b=>(p.1,b)) (σ.filterMap fun p=>(ρ.cO p.2).map fun b=>(p.1,b)) (some (w,S))).Own b→c.Own b∧(w.heap.size≤b∨b∈dY ρ σ τ):=fun b hb=>by
  rcases hb with hb|⟨hb,_⟩
  ·exact⟨.inl (Nat.le_trans h.below.size hb),.inl hb⟩
  ·exact⟨(hX b hb).1,.inr hb⟩
 have JJ:∀s' b,ρ.box s'=some b→(∀s,(s,s')∉σ)→b∉dY ρ σ τ:=fun s' b hb jR hm=>by
  obtain⟨cs,vs,e,_,_,_,k3,_⟩:=cellsOf s' b hb
  rcases K8 JC hm with⟨s,s2,hs,e2⟩|⟨s,s2,hs,e2⟩|⟨t,u,a,n,cap,sz,e1,e2,e3,rfl⟩
  ·obtain rfl:=h.inj s' s2 b hb e2
   exact jR s hs
  ·obtain⟨_,es,clock,k4⟩:=mapOf s2 b e2
   rw[k3]at k4;cases k4
  ·obtain⟨_,_,_,k4,_⟩:=sG u a n cap sz (t1 t u e1).1 e2 e3
   exact k4 s' hb
 have Rp:∀s' b,ρ.cO s'=some b→(∀s,(s,s')∉σ)→b∉dY ρ σ τ:=fun s' b hb jR hm=>by
  obtain⟨_,es,clock,k3⟩:=mapOf s' b hb
  rcases K8 JC hm with⟨s,s2,hs,e2⟩|⟨s,s2,hs,e2⟩|⟨t,u,a,n,cap,sz,e1,e2,e3,rfl⟩
  ·obtain⟨cs,vs,e,_,_,_,k4,_⟩:=cellsOf s2 b e2
   rw[k3]at k4;cases k4
  ·obtain rfl:=h.cL.inj s' s2 b hb e2
   exact jR s hs
  ·obtain⟨_,_,⟨cur,e,k4⟩,_⟩:=sG u a n cap sz (t1 t u e1).1 e2 e3
   rw[k3]at k4;cases k4
 have JK:∀u a n cap sz,aE st.tk u=some true→ρ.tok u=some (some a,n,cap,sz)→n≠cap→(∀t,(t,u)∉τ)→a.block∉dY ρ σ τ:=fun u a n cap sz hu hx b6 jR hm=>by
  obtain⟨ea,_,⟨cur,e,k3⟩,k4,k5⟩:=sG u a n cap sz hu hx b6
  rcases K8 JC hm with⟨s,s2,hs,e2⟩|⟨s,s2,hs,e2⟩|⟨t,u2,a2,n2,fK,XY,e1,e2,e3,e4⟩
  ·exact k4 s2 e2
  ·obtain⟨_,es,clock,k6⟩:=mapOf s2 _ e2
   rw[k3]at k6;cases k6
  ·obtain⟨CH,_⟩:=sG u2 a2 n2 fK XY (t1 t u2 e1).1 e2 e3
   refine k5 u2 a2.block (n2,fK,XY) (fun e=>jR t ?_) (t1 t u2 e1).1 (by rw[e2,←CH]) e3 e4
   rw[←e];exact xq e1
 have kv:∀b x,w.heap[b]? =some x→b∉dY ρ σ τ→w'.heap[b]? =some x:=fun b x hx jR=>by
  rw[h1.below.block b (fun ho=>?_)]
  ·exact hx
  ·rcases(qw b ho).2 with h2|h2
   ·have:=(Array.getElem?_eq_some_iff.1 hx).1;omega
   ·exact jR h2
 have Dg:∀b x o,w.heap[b]? =some x→b∉dY ρ σ τ→¬S b o→¬S' b o:=fun b x o hx jR Lx hs=>by
  rcases h1.new b o hs with h2|h2
  ·exact Lx h2
  ·rcases(qw b h2).2 with h3|h3
   ·have:=(Array.getElem?_eq_some_iff.1 hx).1;omega
   ·exact jR h3
 have zn:=fun s=>ZL (m1:=m1) (m0:=m0) s hn I6
 have BZ:∀s jX,getM m1 s=some jX→∃s' cs,aZ σ s=some s'∧getM st.mem s'=some cs∧cF cs=cF jX∧(cF jX=true→∃k e cA,getM st.mem s'=some [.mp k e cA]):=fun s jX hs=>by
  have hk:=zn s
  rw[hs]at hk
  cases h0:getM m0 s with
  |none=>rw[h0]at hk;simp at hk
  |some kJ=>
   rw[h0]at hk
   simp only[Option.map_some,Option.some.injEq]at hk
   obtain⟨s',cs,e1,e2,⟨e3,rfl⟩|⟨e3,e4,_⟩⟩:=g1 s kJ h0
   ·refine⟨s',cs,e1,e2,hk.symm,fun _=>?_⟩
    obtain⟨k,e,cA,rfl⟩:=xr.1 e3
    exact⟨k,e,cA,e2⟩
   ·refine⟨s',cs,e1,e2,by rw[e4,hk,e3],fun hh=>?_⟩
    rw[hk,e3]at hh;cases hh
 have wV:∀s b,gq.box s=some b→∃s',aZ σ s=some s'∧ρ.box s'=some b:=fun s b hb=>by
  cases hs:getM m1 s with
  |none=>rw[h1.aQ s hs]at hb;cases hb
  |some jX=>
   have fG:cF jX=false:=h1.iW hb hs
   obtain⟨s',cs,e1,e2,e3,_⟩:=BZ s jX hs
   rw[fG]at e3
   obtain⟨b0,vs,e,k1,_⟩:=h.mem s' cs e2 e3
   have hp:(s,b0)∈σ.filterMap fun p=>(ρ.box p.2).map fun b=>(p.1,b):=List.mem_filterMap.2 ⟨(s,s'),xq e1,by simp only[k1,Option.map_some]⟩
   have:=(h1.pins.1 (s,b0) hp).2 b hb
   exact⟨s',e1,by rw[k1,this]⟩
 have Dj:∀s b,gq.cO s=some b→∃s',aZ σ s=some s'∧ρ.cO s'=some b:=fun s b hb=>by
  cases hs:getM m1 s with
  |none=>rw[h1.cL.new s hs]at hb;cases hb
  |some jX=>
   have fG:cF jX=true:=by
    cases sZ:cF jX with
    |true=>rfl
    |false=>
     obtain⟨b',vs,e,k1,_⟩:=h1.mem s jX hs sZ
     rw[h1.cL.apart s b' k1]at hb;cases hb
   obtain⟨s',cs,e1,e2,e3,e4⟩:=BZ s jX hs
   obtain⟨k,e,cA,e5⟩:=e4 fG
   obtain⟨b0,k1,_⟩:=h.cL.at' s' k e cA e5
   have hp:(s,b0)∈σ.filterMap fun p=>(ρ.cO p.2).map fun b=>(p.1,b):=List.mem_filterMap.2 ⟨(s,s'),xq e1,by simp only[k1,Option.map_some]⟩
   have:=(h1.pins.2 (s,b0) hp).2 b hb
   exact⟨s',e1,by rw[k1,this]⟩
 have EY:∀t u,(t,u)∈iF→ρ.tok u=none:=fun t u hu=>h.aV u (Zz wO hu)
 let jO:bW:={ρ with tok:=fun u=>match eg iF u with|some t=>gq.tok t|none=>ρ.tok u}
 have hle:ρ.le jO:=by
  refine⟨fun _ _ h=>h,fun u x hx=>?_,fun _ _ h=>h⟩
  show(match eg iF u with|some t=>gq.tok t|none=>ρ.tok u)=some x
  cases hi:eg iF u with
  |none=>exact hx
  |some t=>rw[EY t u (Km hi)]at hx;cases hx
 have B6:∀t x,gq.tok t=some x→∃u,aZ iF t=some u∧jO.tok u=some x:=fun t x hx=>by
  cases hg:aZ iF t with
  |none=>
   have:=h1.aV t (by simp only;rw[Bm,hg];rfl)
   rw[this]at hx;cases hx
  |some u=>
   refine⟨u,rfl,?_⟩
   show(match eg iF u with|some t=>gq.tok t|none=>ρ.tok u)=some x
   rw[Ze Rg (xq hg)]
   exact hx
 have tu:∀u,eg iF u=none→jO.tok u=ρ.tok u:=fun u hu=>by
  show(match eg iF u with|some t=>gq.tok t|none=>ρ.tok u)=ρ.tok u
  rw[hu]
 have tq:∀u t,eg iF u=some t→jO.tok u=gq.tok t:=fun u t hu=>by
  show(match eg iF u with|some t=>gq.tok t|none=>ρ.tok u)=gq.tok t
  rw[hu]
 have zu:∀p∈m1,∃u,aZ σ p.1=some u:=fun p hp=>by
  obtain⟨cs,dU⟩:=getM_some hp
  obtain⟨s',_,e1,_⟩:=BZ p.1 cs dU
  exact⟨s',e1⟩
 have td:∀s',(∀s0,aZ σ s0=some s'→getM m1 s0=none)→∀s,(s,s')∉σ:=fun s' hs s oo=>by
  have e1:=Cs gL oo
  have e2:=hs s e1
  have hk:=zn s
  rw[e2]at hk
  cases h0:getM m0 s with
  |none=>rw[g2 s h0]at e1;cases e1
  |some kJ=>rw[h0]at hk;simp at hk
 refine⟨jO,⟨hle,wV⟩,?_⟩
 refine{size:=h.size,ae:=fun k=>(h.ae k).keep fN hle,mem:=?_,inj:=h.inj,aQ:=fun s hs=>h.aQ s (Sf hs),cL:=?_,tok:=?_,aV:=?_,below:=?_,fX:=fun b o hs=>(fN b o (h.fX b o hs)).1,new:=?_,live:=h1.live,b5:=fun g cs hg=>aP.keep fN g 0 cs (h.b5 g cs hg),
        fx:=h.fx,ex:=h.ex,eH:=fun p hp=>⟨?_,(h.eH p hp).2⟩,keeps:=fun p hp=>(h.keeps p hp).trans fN,pins:=h.pins}
 ·intro s' cs hs fG
  rcases R3 zu hs with⟨s0,jX,e1,e2,rfl⟩|⟨e1,e2⟩
  ·have QI:cF jX=false:=by
     cases sZ:cF jX with
     |false=>rfl
     |true=>obtain⟨k,e,cA,rfl⟩:=xr.1 sZ;cases fG
   obtain⟨b,vs,e,k1,k2,k3,k4,k6⟩:=h1.mem s0 jX e2 QI
   obtain⟨s2,q1,q2⟩:=wV s0 b k1
   rw[e1]at q1;cases q1
   exact⟨b,vs,e,q2,(qw b k2).1,k3,af.GX (jO:=jO) wV Dj B6 (Mp _ (YC e2)) k4,k6⟩
  ·obtain⟨b,vs,e,k1,k2,k3,k4,k6⟩:=h.mem s' cs e2 fG
   have jR:=JJ s' b k1 (td s' e1)
   exact⟨b,vs,e,k1,k2,kv _ _ k3 jR,af.keep fN hle cs _ k4,fun o=>Dg b _ o k3 jR (k6 o)⟩
 ·refine{at':=?_,inj:=h.cL.inj,new:=fun s hs=>h.cL.new s (Sf hs),lt:=fun s b hb=>Nat.lt_of_lt_of_le (h.cL.lt s b hb) h1.below.size,apart:=h.cL.apart}
  intro s' k e cA hs
  rcases R3 zu hs with⟨s0,jX,e1,e2,e3⟩|⟨e1,e2⟩
  ·have oO:jX=[.mp k e cA]:=by
     cases jX with
     |nil=>cases e3
     |cons a r=>
      cases r with
      |cons b r=>simp at e3
      |nil=>
       simp only[List.map_cons,List.map_nil,List.cons.injEq,and_true]at e3
       cases a<;>simp only[AV.oT,AV.gW,reduceCtorEq]at e3
       rw[e3]
   subst oO
   obtain⟨b,k1,k2,k3,k4⟩:=h1.cL.at' s0 k e cA e2
   obtain⟨s2,q1,q2⟩:=Dj s0 b k1
   rw[e1]at q1;cases q1
   refine⟨b,q2,?_,(qw b k3).1,k4⟩
   show ρ.box s'=none
   cases oe:ρ.box s' with
   |none=>rfl
   |some b'=>rw[h.cL.apart s' b' oe]at q2;cases q2
  ·obtain⟨b,k1,k2,k3,k4⟩:=h.cL.at' s' k e cA e2
   have jR:=Rp s' b k1 (td s' e1)
   obtain⟨es,clock,k5⟩:=k4.obj
   exact⟨b,k1,k2,k3,k4.to fN ((kv b _ k5 jR).trans k5.symm)⟩
 ·intro u hu
  simp only at hu
  rw[KD]at hu
  cases hi:eg iF u with
  |some t=>
   have tL:=Cs Fl (Km hi)
   obtain⟨x,k1,k2⟩:=h1.tok t (by simp only;rw[Bm,tL];rfl)
   refine⟨x,by rw[tq u t hi];exact k1,?_⟩
   by_cases eN:x.2.1=x.2.2.1
   ·exact .inl eN
   rcases k2 with k2|⟨b,q0,q1,q2,q3,q4,q5,q6,q7⟩
   ·exact .inl k2
   ·refine .inr ⟨b,q0,(qw b q1).1,q2,q3,q4,q5,fun s lP=>?_,fun u' b' y b6 lQ eE hy=>?_⟩
    ·by_cases hp:∃s0,(s0,s)∈σ
     ·obtain⟨s0,oQ⟩:=hp
      obtain⟨cs,vs,e,w1,w2,w3,w4,w5⟩:=cellsOf s b lP
      have e1:=Cs gL oQ
      cases uD:getM m1 s0 with
      |none=>exact td s (fun s2 QR=>by
        have:s2=s0:=Nr jS (xq QR) oQ
        rw[this];exact uD) s0 oQ
      |some jX=>
       obtain⟨s2,cs2,f1,f2,f3,_⟩:=BZ s0 jX uD
       rw[e1]at f1;cases f1
       rw[w1]at f2;cases f2
       rw[w2]at f3
       obtain⟨b2,vs2,C0,z1,_⟩:=h1.mem s0 jX uD f3.symm
       obtain⟨s3,z2,z3⟩:=wV s0 b2 z1
       rw[e1]at z2;cases z2
       rw[lP]at z3;cases z3
       exact q6 s0 z1
     ·have jR:=JJ s b lP (fun s0 oQ=>hp ⟨s0,oQ⟩)
      have bf:=h.Yo lP
      rcases(qw b q1).2 with h2|h2
      ·omega
      ·exact jR h2
    ·simp only at lQ
     rw[KD]at lQ
     cases vf:eg iF u' with
     |some t'=>
      rw[tq u' t' vf]at eE
      have uH:=Cs Fl (Km vf)
      refine q7 t' b' y (fun e=>b6 ?_) (by simp only;rw[Bm,uH];rfl) eE hy
      rw[e,tL]at uH
      exact(Option.some.inj uH).symm
     |none=>
      rw[vf]at lQ
      simp only[Option.isSome_none,Bool.false_eq_true,if_false]at lQ
      rw[K9]at lQ
      cases hk:eg τ u' with
      |some t'=>rw[hk]at lQ;simp at lQ
      |none=>
       rw[hk]at lQ
       simp only[Option.isSome_none,Bool.false_eq_true,if_false]at lQ
       rw[tu u' vf]at eE
       obtain⟨n,cap,sz⟩:=y
       have jR:=JK u' ⟨b',0,none⟩ n cap sz lQ eE hy (yyG hk)
       have bf:=h.Yh lQ eE hy
       intro e
       subst e
       rcases(qw _ q1).2 with h2|h2
       ·omega
       ·exact jR h2
  |none=>
   rw[hi]at hu
   simp only[Option.isSome_none,Bool.false_eq_true,if_false]at hu
   rw[K9]at hu
   cases hk:eg τ u with
   |some t=>rw[hk]at hu;simp at hu
   |none=>
    rw[hk]at hu
    simp only[Option.isSome_none,Bool.false_eq_true,if_false]at hu
    obtain⟨x,k1,k2⟩:=h.tok u hu
    refine⟨x,by rw[tu u hi];exact k1,?_⟩
    by_cases eN:x.2.1=x.2.2.1
    ·exact .inl eN
    rcases k2 with k2|⟨b,q0,q1,⟨cur,e,q2,q2'⟩,q3,q4,q5,q6,q7⟩
    ·exact .inl k2
    ·obtain⟨base,n,cap,sz⟩:=x
     simp only at q0
     subst q0
     have jR:=JK u ⟨b,0,none⟩ n cap sz hu k1 eN (yyG hk)
     have bf:=(Array.getElem?_eq_some_iff.1 q2).1
     refine .inr ⟨b,rfl,q1,⟨cur,e,kv _ _ q2 jR,q2'⟩,q3,q4,fun o ho=>Dg b _ o q2 jR (q5 o ho),q6,fun u' b' y b6 lQ eE hy=>?_⟩
     simp only at lQ
     rw[KD]at lQ
     cases vf:eg iF u' with
     |some t'=>
      rw[tq u' t' vf]at eE
      have uH:=Cs Fl (Km vf)
      obtain⟨x',j1,j2⟩:=h1.tok t' (by simp only;rw[Bm,uH];rfl)
      rw[eE]at j1
      cases j1
      rcases j2 with j2|⟨b2,p0,p1,_⟩
      ·exact absurd j2 hy
      ·cases p0
       intro e
       subst e
       rcases(qw _ p1).2 with h2|h2
       ·omega
       ·exact jR h2
     |none=>
      rw[vf]at lQ
      simp only[Option.isSome_none,Bool.false_eq_true,if_false]at lQ
      rw[K9]at lQ
      cases fR:eg τ u' with
      |some t'=>rw[fR]at lQ;simp at lQ
      |none=>
       rw[fR]at lQ
       simp only[Option.isSome_none,Bool.false_eq_true,if_false]at lQ
       rw[tu u' vf]at eE
       exact q7 u' b' y b6 lQ eE hy
 ·intro u hu
  simp only at hu
  rw[KD]at hu
  cases hi:eg iF u with
  |some t=>rw[hi]at hu;simp at hu
  |none=>
   rw[hi]at hu
   simp only[Option.isSome_none,Bool.false_eq_true,if_false]at hu
   rw[K9]at hu
   rw[tu u hi]
   cases hk:eg τ u with
   |some t=>rw[hk]at hu;simp at hu
   |none=>
    rw[hk]at hu
    simp only[Option.isSome_none,Bool.false_eq_true,if_false]at hu
    exact h.aV u hu
 ·refine⟨h1.below.os.trans h.below.os,h1.below.tape.trans h.below.tape,h1.below.output.trans h.below.output,Nat.le_trans h.below.size h1.below.size,fun k jR=>?_⟩
  exact(h1.below.block k fun ho=>jR (qw k ho).1).trans (h.below.block k jR)
 ·intro b o hs
  rcases h1.new b o hs with h2|h2
  ·exact h.new b o h2
  ·exact .inr (qw b h2).1
 ·refine kv _ _ (h.eH p hp).1 fun hm=>?_
  have h3:=h.eH p hp
  rcases K8 JC hm with⟨s,s',_,e⟩|⟨s,s',_,e⟩|⟨t,u,a,n,cap,sz,e1,e2,e3,e4⟩
  ·obtain⟨cs,vs,_,_,_,_,k3,_⟩:=cellsOf s' _ e
   rw[k3]at h3
   have h5:=h3.2
   rw[←Option.some.inj h3.1]at h5;cases h5
  ·obtain⟨_,es,clock,k3⟩:=mapOf s' _ e
   rw[k3]at h3
   have h5:=h3.2
   rw[←Option.some.inj h3.1]at h5;cases h5
  ·obtain⟨_,_,⟨cur,e,k3⟩,_⟩:=sG u a n cap sz (t1 t u e1).1 e2 e3
   rw[e4]at k3
   rw[k3]at h3
   have h5:=h3.2
   rw[←Option.some.inj h3.1]at h5;cases h5
end Go.Abs
end
section
namespace Go.Abs
open Go.RowKit
variable{c:Ctx}{st:St}{tmps:Array Value}{w:World}{S:Safe}{ρ:bW}
theorem yZ5{as l}(h:af w S ρ as l)(b6:as≠[]):∃v,l[0]? =some v∧ay w S ρ (as.headD .undef) v:=by
 cases as with
 |nil=>exact absurd rfl b6
 |cons a as=>obtain⟨v,r,rfl,h1,_⟩:=h;exact⟨v,rfl,h1⟩
theorem xzj(h:aN c st tmps w S ρ){o t zs fs}(ht:aK c.P t (.agg zs fs)=true){x x' i fd ds}
  (ho:o.op=.field t x i) (hx:bQ x=some x') (EV:fs[i]? =some fd) (hg:gd st x'=true) {cs} (hs:ev st x'=.agg cs) (cZ:fd.1+fd.2.1≤cs.length):
  ∃cv,(execOp (Act.eval ⟨tmps,ds⟩) o).run c.P w=.ok (.value cv) w∧ay w S ρ (so fd.2.2 ((cs.drop fd.1).take fd.2.1)) cv:=by
 have e1:=h.ev hx hg (ds:=ds);rw[hs]at e1;obtain⟨vs,hv,hr⟩:=e1;obtain⟨fields,hu,wN⟩:=SG ht;obtain⟨f,ti,hf,Ca,xO,cU,Mv,B5,Q6⟩:=TZ wN EV;have A3:fields[i]? =some f:=by simpa using hf
 have pg:=Ny (P:=c.P) w B5 Q6;have My:=(hr.drop fd.1).take fd.2.1;have hlen:=af.length hr;have hlv:vs.size=cs.length:=by simpa using hlen
 cases hb:fd.2.2 with
 |true=>
  rw[hb]at pg;refine⟨.agg (vs.extract fd.1 (fd.1+fd.2.1)),?_,⟨_,rfl,?_⟩⟩
  ·unfold execOp;simp only[ho,hv];simp[Instr.field,run_underlying hu,A3,part,asAgg,pg,run_sizeOf xO,cU,Ca]
  ·have:(vs.extract fd.1 (fd.1+fd.2.1)).toList=(vs.toList.drop fd.1).take fd.2.1:=by rw[Array.toList_extract];simp[List.extract]
   rw[this];exact My
 |false=>
  rw[hb]at pg;have b6:(cs.drop fd.1).take fd.2.1≠[]:=by intro e;have:=congrArg List.length e;rw[List.length_take,List.length_drop,List.length_nil]at this;rw[cU]at Mv;omega
  obtain⟨v,h1,h2⟩:=yZ5 My b6;have lh:vs[fd.1]? =some v:=by
   have:((vs.toList.drop fd.1).take fd.2.1)[0]? =vs.toList[fd.1]? :=by rw[List.getElem?_take,if_pos (by rw[cU]at Mv;omega),List.getElem?_drop];simp
   rw[this]at h1;simpa using h1
  refine⟨v,?_,h2⟩;unfold execOp;simp only[ho,hv];simp[Instr.field,run_underlying hu,A3,part,asAgg,pg,Ca,lh]
theorem SA{P t n esz lF zs}(ht:aK P t (.arr n esz lF zs)=true):∃e ie,P.underlying t=some (.array n e)∧P.info? e=some ie∧ie.size=esz:=by
 simp only[aK,Bool.and_eq_true]at ht;obtain⟨_,ht⟩:=ht;split at ht
 ·rename_i m e i hu hi;simp only[Bool.and_eq_true,beq_iff_eq]at ht;obtain⟨⟨⟨⟨⟨h0,h1⟩,h2⟩,h3⟩,h4⟩,h5⟩:=ht;cases fp:P.info? e with
  |none=>simp[fp]at h3
  |some ie=>simp only[fp,beq_iff_eq]at h3;exact⟨e,ie,by rw[hu,h0],fp,h3⟩
 ·cases ht
theorem uU{esz}(h:aN c st tmps w S ρ){ds}:∀{ps:List (Nat×Operand)} {xs},
  (ps.mapM fun p=>do pure (p.1*esz,esz,←bQ p.2))=some xs→fV st xs=true→
  nT w S ρ (fun i=>some (i*esz,esz)) (iB st xs) (ps.map fun p=>(p.1,Act.eval ⟨tmps,ds⟩ p.2))
 |[],xs,hx,_=>by simp at hx;subst hx;rfl
 |(i,x)::ps,xs,hx,hg=>by simp only[List.mapM_cons,Option.bind_eq_bind,Option.bind_eq_some_iff,Option.pure_def,Option.some.injEq]at hx;obtain⟨a,⟨x',Fh,rfl⟩,as,has,rfl⟩:=hx;simp only[fV,Bool.and_eq_true]at hg;exact⟨i,_,_,rfl,rfl,h.ev Fh hg.1,uU h has hg.2⟩
theorem yWe(h:aN c st tmps w S ρ){o t n esz lF zs}(ht:aK c.P t (.arr n esz lF zs)=true){parts xs ds}
  (ho:o.op=.build t parts) (hx:(parts.toList.mapM fun p=>do pure (p.1*esz,esz,←bQ p.2))=some xs) (hg:fV st xs=true) {cs} (hr:pF zs (iB st xs)=some cs):
  ∃cv,(execOp (Act.eval ⟨tmps,ds⟩) o).run c.P w=.ok (.value cv) w∧ay w S ρ (.agg cs) cv:=by
 obtain⟨e,ie,hu,fp,fW⟩:=SA ht;obtain⟨i,z,hi,hz,cU,_,_,JA⟩:=FP ht;obtain⟨cS,h1,h2⟩:=Sk (uU h (ds:=ds) hx hg) (G6 w S ρ JA) hr;refine⟨.agg cS,?_,⟨_,rfl,h2⟩⟩;unfold execOp;simp only[ho];simp only[Instr.build,Sem.run_bind,Ki hi hz,run_underlying hu,Result.andThen_ok,run_sizeOf fp,fW];have uz:Instr.fill (fun i=>some (i*esz,esz)) z.cells (parts.map fun x=>(x.1,Act.eval ⟨tmps,ds⟩ x.2)).toList=some cS:=by rw[←h1];congr 1;exact Array.toList_map
 simp only[uz];simp
theorem Tf{n esz d x y i}(h:As n esz d x y=some i):∃kk k,y=.const (.int kk k)∧(0≤k∧k<(n:Int))∧i=.fa d (k.toNat*esz) x:=by
 unfold As at h;split at h
 ·split at h
  ·rename_i hk;cases h;exact⟨_,_,rfl,hk,rfl⟩
  ·cases h
 ·cases h
theorem JO(h:aN c st tmps w S ρ){o t n esz lF zs}(ht:aK c.P t (.arr n esz lF zs)=true){x x' kk}{k:Int}{ds}
  (ho:o.op=.indexAddr t x (.const (.int kk k))) (hx:bQ x=some x') (hk:0≤k∧k<n) (hg:gd st x'=true) {r} (hr:eW c.G st (.fa 0 (k.toNat*esz) x')=some r) (cZ:r.2.1):
  ∃cv,(execOp (Act.eval ⟨tmps,ds⟩) o).run c.P w=.ok (.value cv) w∧ay w S ρ r.1 cv:=by
 have e1:=h.ev hx hg (ds:=ds);obtain⟨e,ie,hu,fp,fW⟩:=SA ht;have run:∀b off,(Act.eval ⟨tmps,ds⟩ x)=.pointer (some ⟨b,off,none⟩)→(execOp (Act.eval ⟨tmps,ds⟩) o).run c.P w=.ok (.value (.pointer (some ⟨b,off+k.toNat*esz,none⟩))) w:=by intro b off hv;unfold execOp;simp only[ho,hv];simp[Instr.indexAt,Act.eval,asIntOf,run_underlying hu,Instr.sureAddr,run_sizeOf fp,fW,addr_add,hk.1,hk.2]
 simp only[eW]at hr;split at hr
 ·rename_i s off j6;cases hr;rw[j6]at e1;obtain⟨b,hb,hv⟩:=e1;exact⟨_,run b off hv,b,hb,rfl⟩
 ·rename_i cs j6;cases hr;rw[j6]at e1;obtain⟨b,off,hv,dU⟩:=e1;exact⟨_,run b off hv,b,_,rfl,aP.drop _ dU⟩
 ·rename_i g off j6;cases hr;rw[j6]at e1;exact⟨_,run g off e1,rfl⟩
 ·cases hr
theorem JP(h:aN c st tmps w S ρ){o t n esz lF zs}(ht:aK c.P t (.arr n esz lF zs)=true){x y x' y' ds}
  (ho:o.op=.indexAddr t x y) (hx:bQ x=some x') (hy:bQ y=some y') (hg:gd st x'=true) (jx:gd st y'=true) {s off} {kk} {k} (hv:ev st x'=.ptr s off) (hn:ev st y'=.d (.int kk k)) (hk:0≤k∧k<n):
  ∃cv,(execOp (Act.eval ⟨tmps,ds⟩) o).run c.P w=.ok (.value cv) w∧ay w S ρ (.ptr s (off+k.toNat*esz)) cv:=by
 have e1:=h.ev hx hg (ds:=ds);rw[hv]at e1;obtain⟨b,hb,Jy⟩:=e1;have e2:=h.ev hy jx (ds:=ds);rw[hn]at e2;simp only[ay,dR]at e2;obtain⟨e,ie,hu,fp,fW⟩:=SA ht;refine⟨.pointer (some ⟨b,off+k.toNat*esz,none⟩),?_,b,hb,rfl⟩;unfold execOp;simp only[ho,Jy,e2];simp[Instr.indexAt,asIntOf,run_underlying hu,Instr.sureAddr,run_sizeOf fp,fW,addr_add,hk.1,hk.2]
theorem YB{P t z x y a b}(d)(hf:jF P t z=true)(hx:j8 z x=true)(hy:j8 z y=true)(ha:dR w S x a)(hb:dR w S y b):(Op.equalIn (d+1) t a b).run P w=.ok (jq x y) w:=by
 cases z<;>cases x<;>simp only[j8,Bool.false_eq_true]at hx<;>cases y<;>simp only[j8,Bool.false_eq_true]at hy
 ·
  simp only[jF]at hf;split at hf
  ·rename_i hu;simp only[dR]at ha hb;subst ha hb;exact run_equalIn_bool w d t _ _ hu
  ·cases hf
 ·simp only[jF]at hf;split at hf
  ·rename_i k' hu;simp only[dR]at ha hb;subst ha hb;have hx:=eq_of_beq hx;have hy:=eq_of_beq hy;subst hx hy;rw[run_equalIn_int w d t _ k' _ _ hu];simp[jq]
  ·cases hf
 ·simp only[jF]at hf;split at hf
  ·rename_i hu;obtain⟨p,rfl,rfl,_⟩:=ha;obtain⟨q,rfl,rfl,_⟩:=hb;rw[run_equalIn_string w d t p q hu,ByteArray.toList_eq,ByteArray.toList_eq];rfl
  ·cases hf
theorem yvS{P t z}(hf:jF P t z=true):gQ P t=true∧(P.underlying t).isSome=true:=by
 cases z<;>simp only[jF,Bool.false_eq_true]at hf<;>(split at hf<;>simp_all[gQ])
theorem Nw{P t z}(hf:jF P t z=true){vs k v}(hv:vs[k]? =some v):(part t vs k).run P w=.ok v w:=by obtain⟨h1,h2⟩:=yvS hf;have:=Ny (P:=P) w (ag:=false) (by simpa using h1) h2;simp[part,this,hv]
theorem TI:∀{zs} {xs},gN zs xs=true→xs.length=zs.length
 |[],[],_=>rfl
 |[],_::_,h=>by cases h
 |.d z::zs,[],h=>by cases h
 |.d z::zs,x::xs,h=>by simp only[gN,Bool.and_eq_true]at h;rw[List.length_cons,List.length_cons,TI h.2]
theorem Z7{P}(d)(va vb):∀(fs) (zs) (xs ys) (k),BO P k fs zs=true→gN zs xs=true→gN zs ys=true→aS w S xs (va.toList.drop k)→aS w S ys (vb.toList.drop k)→
  (Op.eqFields (d+1) va vb fs).run P w=.ok (nX xs ys) w
 |[],[],[],[],k,_,_,_,_,_=>by simp[Op.eqFields,nX]
 |f::fs,.d z::zs,x::xs,y::ys,k,hf,hx,hy,ha,hb=>by
  simp only[BO,Bool.and_eq_true,bne_iff_ne,ne_eq,beq_iff_eq]at hf;obtain⟨⟨⟨f1,f2⟩,f3⟩,f4⟩:=hf;simp only[gN,Bool.and_eq_true]at hx hy;obtain⟨v,r,e1,a1,a2⟩:=ha;obtain⟨u,q,e2,b1,b2⟩:=hb;have g1:va[k]? =some v:=by have:=congrArg (fun l:List Value=>l[0]?) e1;simpa[List.getElem?_drop]using this
  have g2:vb[k]? =some u:=by have:=congrArg (fun l:List Value=>l[0]?) e2;simpa[List.getElem?_drop]using this
  have t1:va.toList.drop (k+1)=r:=by rw[←List.drop_drop,e1];rfl
  have t2:vb.toList.drop (k+1)=q:=by rw[←List.drop_drop,e2];rfl
  have ih:=Z7 d va vb fs zs xs ys (k+1) f4 hx.2 hy.2 (by rw[t1];exact a2) (by rw[t2];exact b2);simp only[Op.eqFields,f1,ne_eq,not_false_eq_true,if_true,Sem.run_bind,f2,Nw f3 g1,Nw f3 g2,Result.andThen_ok,YB d f3 hx.1 hy.1 a1 b1,nX];cases jq x y
  ·simp
  ·simpa using ih
 |[],[],_::_,_,_,_,h,_,_,_=>by cases h
 |[],[],[],_::_,_,_,_,h,_,_=>by cases h
 |[],_::_,_,_,_,h,_,_,_,_=>by cases h
 |_::_,[],_,_,_,h,_,_,_,_=>by cases h
 |f::fs,z::zs,[],ys,k,hf,hx,_,_,_=>by cases z<;>cases hx
 |f::fs,z::zs,x::xs,[],k,hf,hx,hy,_,_=>by cases z<;>cases hy
theorem ZJ{P}(d){e}(he:P.cellsOf e=1)(va vb):∀(zs) (xs ys) (k),zs.all (sR P e)=true→gN zs xs=true→gN zs ys=true→aS w S xs (va.toList.drop k)→aS w S ys (vb.toList.drop k)→
  (Op.eqItems (d+1) e (P.cellsOf e) va vb (List.range' k zs.length)).run P w=.ok (nX xs ys) w
 |[],[],[],k,_,_,_,_,_=>by simp[Op.eqItems,nX]
 |.d z::zs,x::xs,y::ys,k,hf,hx,hy,ha,hb=>by
  simp only[List.all_cons,Bool.and_eq_true,sR]at hf;obtain⟨f3,f4⟩:=hf;simp only[gN,Bool.and_eq_true]at hx hy;obtain⟨v,r,e1,a1,a2⟩:=ha;obtain⟨u,q,e2,b1,b2⟩:=hb;have g1:va[k]? =some v:=by have:=congrArg (fun l:List Value=>l[0]?) e1;simpa[List.getElem?_drop]using this
  have g2:vb[k]? =some u:=by have:=congrArg (fun l:List Value=>l[0]?) e2;simpa[List.getElem?_drop]using this
  have t1:va.toList.drop (k+1)=r:=by rw[←List.drop_drop,e1];rfl
  have t2:vb.toList.drop (k+1)=q:=by rw[←List.drop_drop,e2];rfl
  have ih:=ZJ d he va vb zs xs ys (k+1) (by simpa[sR]using f4) hx.2 hy.2 (by rw[t1];exact a2) (by rw[t2];exact b2);rw[he]at ih⊢;simp only[List.length_cons,List.range'_succ,Op.eqItems,Sem.run_bind,Nat.mul_one,Nw f3 g1,Nw f3 g2,Result.andThen_ok,YB d f3 hx.1 hy.1 a1 b1,nX];cases jq x y
  ·simp
  ·simpa using ih
 |[],_::_,_,_,_,h,_,_,_=>by cases h
 |[],[],_::_,_,_,_,h,_,_=>by cases h
 |z::zs,[],ys,k,hf,hx,_,_,_=>by cases z<;>cases hx
 |z::zs,x::xs,[],k,hf,hx,hy,_,_=>by cases z<;>cases hy
theorem yKP{P}{T:Nat→Option Ty}(hT:∀t ty,T t=some ty→aK P t ty=true){t:TypeId}(hf:lj (T t)=true):yS P t (Oq (T t))=true:=by
 unfold lj at hf;split at hf
 ·rename_i zs fs dW;have h:=hT _ _ dW;simp only[aK,Bool.and_eq_true]at h;have h1:=h.1;rw[show lj (some (.agg zs fs))=true from hf,dW]at*
  simpa[Oq]using h1
 ·rename_i n esz lF zs dW;have h:=hT _ _ dW;simp only[aK,Bool.and_eq_true]at h;have h1:=h.1;rw[show lj (some (.arr n esz lF zs))=true from hf,dW]at*
  simpa[Oq]using h1
 ·cases hf
theorem xza(h:aN c st tmps w S ρ){o op t t' zs}(hq:yS c.P t zs=true){x y x' y' ds}(ho:o.op=.binOp op t x y t')(he:isEq op=true)(hx:bQ x=some x')(hy:bQ y=some y')
  (hg:gd st x'=true) (jx:gd st y'=true) {a b} {xs ys} (hp:ev st x'=.agg a) (Ly:ev st y'=.agg b) (ha:j0 [] 1 a=some xs) (hb:j0 [] 1 b=some ys) (hl:gN zs xs=true∧gN zs ys=true):
  ∃cv,(execOp (Act.eval ⟨tmps,ds⟩) o).run c.P w=.ok (.value cv) w∧ay w S ρ (.d (.bool (if op==.neq then !nX xs ys else nX xs ys))) cv:=by
 have e1:=h.ev hx hg (ds:=ds);have e2:=h.ev hy jx (ds:=ds);rw[hp]at e1;rw[Ly]at e2;obtain⟨va,Q8,ra⟩:=e1;obtain⟨vb,Gm,rb⟩:=e2;have la:aS w S xs va.toList:=Cx xX 1 ra ha;have lb:aS w S ys vb.toList:=Cx xX 1 rb hb;simp only[yS,Bool.and_eq_true]at hq;obtain⟨vV,hq⟩:=hq;have vV:c.P.eqGuardType c.P.depth t=false:=by simpa using vV
 have heq:(Op.equalIn 10000 t (.agg va) (.agg vb)).run c.P w=.ok (nX xs ys) w:=by
  split at hq
  ·rename_i fields hu;simp only[Bool.and_eq_true]at hq;have wN:c.P.fieldsOf t=fields:=by unfold Program.fieldsOf;rw[hu]
   rw[show(10000:Nat)=9999+1 from rfl,run_equalIn_struct w 9999 t va vb (by rw[wN];exact hu) (by simpa using hq.1),wN];exact Z7 9998 va vb _ _ _ _ 0 hq.2 hl.1 hl.2 (by simpa using la) (by simpa using lb)
  ·rename_i m e hu;simp only[Bool.and_eq_true]at hq;obtain⟨⟨⟨q1,q2⟩,q3⟩,q4⟩:=hq;obtain⟨ie,fp⟩:=Option.isSome_iff_exists.1 q3;have hm:zs.length=m:=by simpa using q1
   rw[show(10000:Nat)=9999+1 from rfl,run_equalIn_array w 9999 va vb hu fp,←hm,List.range_eq_range'];cases zs with
   |nil=>have h1:=TI hl.1;have h2:=TI hl.2;have:xs=[]:=List.eq_nil_of_length_eq_zero h1;subst this;have:ys=[]:=List.eq_nil_of_length_eq_zero h2;subst this;simp[Op.eqItems,nX]
   |cons z zs=>
    have IU:c.P.cellsOf e=1:=by simpa using q4
    exact ZJ 9998 IU va vb _ _ _ 0 q2 hl.1 hl.2 (by simpa using la) (by simpa using lb)
  ·cases hq
 refine⟨_,?_,rfl⟩;unfold execOp;simp only[ho];refine mn (v:=_) (w':=w) ?_;rw[Q8,Gm];have yd:=run_eqGuard_agg w op t x y va vb vV;cases op<;>simp[isEq]at he<;>simp[yd,run_eql_struct,run_neq_struct,heq]
theorem aN.yN(h:aN c st tmps w S ρ):∃S',(∀b o,S b o→S' b o)∧(∀b o,S' b o→S b o∨(c.Own b∧∃s,ρ.box s=some b))∧Live w S'∧(∀(a) (v),ay w S ρ a v→ay w S' ρ a v)∧Through w S' ρ st.mem:=by
 have hk:aY w S w (fun b o=>S b o∨∃s cs vs e,getM st.mem s=some cs∧ρ.box s=some b∧w.heap[b]? =some (.cells vs e (0,0))∧c.Own b∧o<vs.size):=fun b o hs=>⟨.inl hs,rfl⟩;refine⟨fun b o=>S b o∨∃s cs vs e,getM st.mem s=some cs∧ρ.box s=some b∧w.heap[b]? =some (.cells vs e (0,0))∧c.Own b∧o<vs.size,fun b o hs=>.inl hs,?_,?_,fun a v hr=>ay.keep hk ρ.le_refl a v hr,?_⟩
 ·rintro b o (hs|⟨s,cs,vs,e,_,h2,_,hb,_⟩)
  ·exact .inl hs
  ·exact .inr ⟨hb,s,h2⟩
 ·rintro b o (hs|⟨s,cs,vs,e,_,_,hh,_,ho⟩)
  ·exact h.live b o hs
  ·exact⟨vs[o],by rw[oX hh];simp[ho]⟩
 ·intro s cs hs fG;obtain⟨b,vs,e,g1,g2,g3,g4,g6⟩:=h.mem s cs hs fG;refine⟨b,vs.toList,g1,af.keep hk ρ.le_refl cs _ g4,fun j v hj=>?_⟩;have tW:vs[j]? =some v:=by simpa using hj
  refine⟨by rw[oX g3];exact tW,.inr ⟨s,cs,vs,e,hs,g1,g3,g2,(Array.getElem?_eq_some_iff.1 tW).1⟩⟩
theorem aN.close(h:aN c st tmps w S ρ):∃S',(∀b o,S b o→S' b o)∧(∀b o,S' b o→S b o∨c.Own b)∧Live w S'∧(∀(a) (v),ay w S ρ a v→ay w S' ρ a v)∧Through w S' ρ st.mem:=by obtain⟨S',h1,h2,h3,h4,h5⟩:=h.yN;exact⟨S',h1,fun b o hs=>(h2 b o hs).imp id fun e=>e.1,h3,h4,h5⟩
def bW.fC(ρ:bW):bW:={box:=fun _=>none,cO:=fun _=>none,tok:=ρ.tok}
mutual
theorem ay.fC:∀(a:AV) (v:Value),a.boxed=false→ay w S ρ a v→ay w S ρ.fC a v
 |.undef,_,_,_=>trivial
 |.d _,_,_,h=>h
 |.full _,_,_,h=>h
 |.own _ _ _,_,_,h=>h
 |.agg cs,_,hb,⟨vs,h1,h2⟩=>⟨vs,h1,af.fC cs _ (by simpa only[AV.boxed]using hb) h2⟩
 |.tup cs,_,hb,⟨vs,h1,h2⟩=>⟨vs,h1,af.fC cs _ (by simpa only[AV.boxed]using hb) h2⟩
 |.cond _ a,_,hb,⟨h1,h2⟩=>⟨fun hg=>ay.fC a _ (by simpa only[AV.boxed]using hb) (h1 hg),h2⟩
 |.ptr _ _,_,hb,_=>by simp[AV.boxed]at hb
 |.vec _ _ _ _ _,_,hb,_=>by simp[AV.boxed]at hb
 |.zsl _ _,_,hb,_=>by simp[AV.boxed]at hb
 |.pnd _ _ _ _,_,hb,_=>by simp[AV.boxed]at hb
 |.eptr _ _,_,hb,_=>by simp[AV.boxed]at hb
 |.clo _ _,_,hb,_=>by simp[AV.boxed]at hb
 |.mref _,_,hb,_=>by simp[AV.boxed]at hb
 |.mp _ _ _,_,_,h=>h.elim
theorem af.fC:∀(as:List AV) (vs:List Value),AV.lX as=false→af w S ρ as vs→af w S ρ.fC as vs
 |[],_,_,h=>h
 |a::as,_,hb,⟨v,r,h,h1,h2⟩=>by simp only[AV.lX,Bool.or_eq_false_iff]at hb;exact⟨v,r,h,ay.fC a v hb.1 h1,af.fC as r hb.2 h2⟩
end
theorem yyB(k):∀l:List (Nat×AV),aC (qO l) k=if(aC l k).boxed=true then .undef else aC l k
 |[]=>by simp[qO,aC,AV.boxed]
 |(j,v)::l=>by
  simp only[qO,aC];by_cases hj:j=k
  ·simp only[hj,if_true]
  ·simp only[if_neg hj];exact yyB k l
theorem aN.fC(h:aN c st tmps w S ρ){S'}(h1:∀b o,S b o→S' b o)(h2:∀b o,S' b o→S b o∨(c.Own b∧∃s,ρ.box s=some b))(h3:Live w S'):aN c st.fC tmps w S' ρ.fC:=by
 have hk:aY w S w S':=fun b o hs=>⟨h1 b o hs,rfl⟩
 refine{size:=h.size,ae:=fun k=>?_,mem:=fun s cs hs=>(by simp[St.fC,getM]at hs),inj:=fun s s' b hs=>(by cases hs),aQ:=fun _ _=>rfl,cL:={at':=fun s k e cA hs=>(by simp[St.fC,getM]at hs),inj:=fun s s' b hs=>(by cases hs),new:=fun _ _=>rfl,lt:=fun s b hs=>(by cases hs),apart:=fun s b hs=>(by cases hs)},
        tok:=fun t ht=>?_,aV:=h.aV,below:=h.below,fX:=fun b o hs=>h1 b o (h.fX b o hs),new:=fun b o hs=>(h2 b o hs).elim (h.new b o) fun e=>.inr e.1,live:=h3,b5:=fun g cs hg=>aP.keep hk g 0 cs (h.b5 g cs hg),fx:=h.fx,ex:=h.ex,eH:=h.eH,keeps:=fun p hp=>(h.keeps p hp).trans hk,
        pins:=h.pins.sub (fun s b e=>by cases e) (fun s b e=>by cases e)}
 ·show ay w S' ρ.fC (aC (qO st.ae) k) _
  rw[yyB]
  split
  ·trivial
  ·rename_i hb
   exact ay.fC _ _ (by simpa using hb) ((h.ae k).keep hk ρ.le_refl)
 ·obtain⟨x,g1,g2⟩:=h.tok t ht
  refine⟨x,g1,?_⟩
  rcases g2 with g2|⟨b,k0,k1,k2,k3,k4,k5,k6,k7⟩
  ·exact .inl g2
  ·refine .inr ⟨b,k0,k1,k2,k3,k4,fun o ho hs=>?_,fun s e=>(by cases e),k7⟩
   rcases h2 b o hs with e|⟨_,s,e⟩
   ·exact k5 o ho e
   ·exact k6 s e
theorem Hh(B)(s):∀m:Mem,getM (gl B m) s=if B.contains s=true then none else getM m s
 |[]=>by simp[gl,getM]
 |(k,cs)::m=>by
  rw[gl];by_cases hk:B.contains k=true
  ·rw[if_pos hk,Hh B s m];by_cases hs:k=s
   ·subst hs;rw[if_pos hk,if_pos hk]
   ·simp only[getM,if_neg hs]
  ·rw[if_neg hk];simp only[getM];by_cases hs:k=s
   ·subst hs;rw[if_pos rfl,if_neg hk,if_pos rfl]
   ·rw[if_neg hs,if_neg hs,Hh B s m]
theorem Sm(B)(s):∀m:Mem,getM (oz B m) s=if B.contains s=true then getM m s else none
 |[]=>by simp[oz,getM]
 |(k,cs)::m=>by
  rw[oz];by_cases hk:B.contains k=true
  ·rw[if_pos hk];simp only[getM];by_cases hs:k=s
   ·subst hs;rw[if_pos rfl,if_pos hk,if_pos rfl]
   ·rw[if_neg hs,if_neg hs,Sm B s m]
  ·rw[if_neg hk,Sm B s m];by_cases hs:k=s
   ·subst hs;rw[if_neg hk,if_neg hk]
   ·simp only[getM,if_neg hs]
theorem yyZ{B s cs}:∀{m},ny B m=true→getM m s=some cs→AV.mh B cs=false
 |[],_,h=>by simp[getM]at h
 |(k,x)::m,h1,h=>by
  simp only[ny,Bool.and_eq_true,Bool.not_eq_true']at h1;simp only[getM]at h;split at h
  ·cases h;exact h1.1
  ·exact yyZ h1.2 h
def bW.out(B:List Nat)(ρ:bW):bW:={box:=fun s=>if B.contains s=true then none else ρ.box s,cO:=fun s=>if B.contains s=true then none else ρ.cO s,tok:=ρ.tok}
theorem bW.Kh{B}{ρ:bW}{s b}(h:(ρ.out B).box s=some b):ρ.box s=some b∧B.contains s=false:=by
 unfold bW.out at h;simp only at h;split at h
 ·cases h
 ·rename_i hb;exact⟨h,by simpa using hb⟩
theorem bW.Nq{B}{ρ:bW}{s b}(h:(ρ.out B).cO s=some b):ρ.cO s=some b∧B.contains s=false:=by
 unfold bW.out at h;simp only at h;split at h
 ·cases h
 ·rename_i hb;exact⟨h,by simpa using hb⟩
theorem bW.Kf{B}{ρ:bW}{s}(h:B.contains s=false):(ρ.out B).box s=ρ.box s:=by simp only[bW.out,h];rfl
theorem bW.M7{B}{ρ:bW}{s}(h:B.contains s=false):(ρ.out B).cO s=ρ.cO s:=by simp only[bW.out,h];rfl
mutual
theorem ay.out{B:List Nat}:∀(a:AV) (v:Value),a.ep B=false→ay w S ρ a v→ay w S (ρ.out B) a v
 |.undef,_,_,_=>trivial
 |.d _,_,_,h=>h
 |.full _,_,_,h=>h
 |.own _ _ _,_,_,h=>h
 |.agg cs,_,hb,⟨vs,h1,h2⟩=>⟨vs,h1,af.out cs _ (by simpa only[AV.ep]using hb) h2⟩
 |.tup cs,_,hb,⟨vs,h1,h2⟩=>⟨vs,h1,af.out cs _ (by simpa only[AV.ep]using hb) h2⟩
 |.cond _ a,_,hb,⟨h1,h2⟩=>⟨fun hg=>ay.out a _ (by simpa only[AV.ep]using hb) (h1 hg),h2⟩
 |.clo _ cs,_,hb,⟨vs,h1,h2⟩=>⟨vs,h1,af.out cs _ (by simpa only[AV.ep]using hb) h2⟩
 |.ptr s _,_,hb,⟨b,h1,h2⟩=>⟨b,by rw[bW.Kf (by simpa only[AV.ep]using hb)];exact h1,h2⟩
 |.vec s _ _ _ _,_,hb,⟨g1,g2,b,h1,h2⟩=>⟨g1,g2,b,by rw[bW.Kf (by simpa only[AV.ep]using hb)];exact h1,h2⟩
 |.mref s,_,hb,⟨b,h1,h2⟩=>⟨b,by rw[bW.M7 (by simpa only[AV.ep]using hb)];exact h1,h2⟩
 |.zsl _ _,_,_,h=>h
 |.pnd _ _ _ _,_,_,h=>h
 |.eptr _ _,_,_,h=>h
 |.mp _ _ _,_,_,h=>h.elim
theorem af.out{B:List Nat}:∀(as:List AV) (vs:List Value),AV.mh B as=false→af w S ρ as vs→af w S (ρ.out B) as vs
 |[],_,_,h=>h
 |a::as,_,hb,⟨v,r,h,h1,h2⟩=>by simp only[AV.mh,Bool.or_eq_false_iff]at hb;exact⟨v,r,h,ay.out a v hb.1 h1,af.out as r hb.2 h2⟩
end
theorem TG(B)(k):∀l:List (Nat×AV),aC (nd B l) k=if(aC l k).ep B=true then .undef else aC l k
 |[]=>by simp[nd,aC,AV.ep]
 |(j,v)::l=>by
  simp only[nd,aC];by_cases hj:j=k
  ·simp only[hj,if_true]
  ·simp only[if_neg hj];exact TG B k l
theorem aN.wH(h:aN c st tmps w S ρ)(B):∃S',(∀b o,S b o→S' b o)∧(∀b o,S' b o→S b o∨(c.Own b∧∃s,B.contains s=true∧ρ.box s=some b))∧Live w S'∧(∀(a) (v),ay w S ρ a v→ay w S' ρ a v)∧Through w S' ρ (oz B st.mem):=by
 have hk:aY w S w (fun b o=>S b o∨∃s cs vs e,B.contains s=true∧getM st.mem s=some cs∧ρ.box s=some b∧w.heap[b]? =some (.cells vs e (0,0))∧c.Own b∧o<vs.size):=fun b o hs=>⟨.inl hs,rfl⟩;refine⟨fun b o=>S b o∨∃s cs vs e,B.contains s=true∧getM st.mem s=some cs∧ρ.box s=some b∧w.heap[b]? =some (.cells vs e (0,0))∧c.Own b∧o<vs.size,fun b o hs=>.inl hs,?_,?_,fun a v hr=>ay.keep hk ρ.le_refl a v hr,?_⟩
 ·rintro b o (hs|⟨s,cs,vs,e,h0,_,h2,_,hb,_⟩)
  ·exact .inl hs
  ·exact .inr ⟨hb,s,h0,h2⟩
 ·rintro b o (hs|⟨s,cs,vs,e,_,_,_,hh,_,ho⟩)
  ·exact h.live b o hs
  ·exact⟨vs[o],by rw[oX hh];simp[ho]⟩
 ·intro s cs hs fG;rw[Sm]at hs;split at hs
  ·rename_i hB;obtain⟨b,vs,e,g1,g2,g3,g4,g6⟩:=h.mem s cs hs fG;refine⟨b,vs.toList,g1,af.keep hk ρ.le_refl cs _ g4,fun j v hj=>?_⟩;have tW:vs[j]? =some v:=by simpa using hj
   refine⟨by rw[oX g3];exact tW,.inr ⟨s,cs,vs,e,hB,hs,g1,g3,g2,(Array.getElem?_eq_some_iff.1 tW).1⟩⟩
  ·cases hs
theorem aN.ly(h:aN c st tmps w S ρ){B}(hd:ny B (gl B st.mem)=true){S'}(h1:∀b o,S b o→S' b o)(h2:∀b o,S' b o→S b o∨(c.Own b∧∃s,B.contains s=true∧ρ.box s=some b))(h3:Live w S'):aN c (st.ly B) tmps w S' (ρ.out B):=by
 have hk:aY w S w S':=fun b o hs=>⟨h1 b o hs,rfl⟩;have nj:∀s,B.contains s=true→(ρ.out B).box s=none∧(ρ.out B).cO s=none:=fun s hs=>by simp only[bW.out,hs,if_true,and_self]
 refine{size:=h.size,ae:=fun k=>?_,mem:=fun s cs hs fG=>?_,inj:=fun s s' b hs b9=>h.inj s s' b (bW.Kh hs).1 (bW.Kh b9).1,aQ:=fun s hs=>?_,
        cL:={at':=fun s k e cA hs=>?_,inj:=fun s s' b hs b9=>h.cL.inj s s' b (bW.Nq hs).1 (bW.Nq b9).1,new:=fun s hs=>?_,lt:=fun s b hs=>h.cL.lt s b (bW.Nq hs).1,apart:=fun s b hs=>?_},
        tok:=fun t ht=>?_,aV:=h.aV,below:=h.below,fX:=fun b o hs=>h1 b o (h.fX b o hs),new:=fun b o hs=>(h2 b o hs).elim (h.new b o) fun e=>.inr e.1,live:=h3,b5:=fun g cs hg=>aP.keep hk g 0 cs (h.b5 g cs hg),fx:=h.fx,ex:=h.ex,eH:=h.eH,keeps:=fun p hp=>(h.keeps p hp).trans hk,
        pins:=h.pins.sub (fun s b e=>.inr (bW.Kh e).1) (fun s b e=>.inr (bW.Nq e).1)}
 ·show ay w S' (ρ.out B) (aC (nd B st.ae) k) _;rw[TG];split
  ·trivial
  ·rename_i hb;exact ay.out _ _ (by simpa using hb) ((h.ae k).keep hk ρ.le_refl)
 ·have b9:getM (gl B st.mem) s=some cs:=hs;have Gk:=yyZ hd b9;rw[Hh]at b9;split at b9
  ·cases b9
  ·rename_i hB;have hB:B.contains s=false:=by simpa using hB
   obtain⟨b,vs,e,g1,g2,g3,g4,g6⟩:=h.mem s cs b9 fG;refine⟨b,vs,e,by rw[bW.Kf hB];exact g1,g2,g3,af.out _ _ Gk (af.keep hk ρ.le_refl cs _ g4),fun o ho=>?_⟩;rcases h2 b o ho with jS|⟨_,s2,oM,My⟩
   ·exact g6 o jS
   ·have:=h.inj s2 s b My g1;subst this;rw[hB]at oM;cases oM
 ·have b9:getM (gl B st.mem) s=none:=hs;rw[Hh]at b9;split at b9
  ·rename_i hB;exact(nj s hB).1
  ·rename_i hB;rw[bW.Kf (by simpa using hB)];exact h.aQ s b9
 ·have b9:getM (gl B st.mem) s=some [.mp k e cA]:=hs;rw[Hh]at b9;split at b9
  ·cases b9
  ·rename_i hB;have hB:B.contains s=false:=by simpa using hB
   obtain⟨b,g1,g2,g3,g4⟩:=h.cL.at' s k e cA b9;have MC:gF w w:=⟨Nat.le_refl _,fun _ _ _ h=>rfl⟩;obtain⟨b',C3,_,_,g4'⟩:=(h.cL.to hk MC).at' s k e cA b9;rw[g1]at C3;cases C3;exact⟨b,by rw[bW.M7 hB];exact g1,by rw[bW.Kf hB];exact g2,g3,g4'⟩
 ·have b9:getM (gl B st.mem) s=none:=hs;rw[Hh]at b9;split at b9
  ·rename_i hB;exact(nj s hB).2
  ·rename_i hB;rw[bW.M7 (by simpa using hB)];exact h.cL.new s b9
 ·obtain⟨e1,e2⟩:=bW.Kh hs;rw[bW.M7 e2];exact h.cL.apart s b e1
 ·obtain⟨x,g1,g2⟩:=h.tok t ht;refine⟨x,g1,?_⟩;rcases g2 with g2|⟨b,k0,k1,k2,k3,k4,k5,k6,k7⟩
  ·exact .inl g2
  ·refine .inr ⟨b,k0,k1,k2,k3,k4,fun o ho hs=>?_,fun s e=>k6 s (bW.Kh e).1,k7⟩;rcases h2 b o hs with e|⟨_,s,_,e⟩
   ·exact k5 o ho e
   ·exact k6 s e
theorem yyD(m)(B)(k):∀l:List (Nat×AV),aC (sv m B l) k=if(aC l k).ep B=true then(match AV.mH m 3 (aC l k)with|some x=>.d x|none=>.undef)else aC l k
 |[]=>by simp[sv,aC,AV.ep]
 |(j,v)::l=>by
  simp only[sv,aC];by_cases hj:j=k
  ·simp only[hj,if_true];rfl
  ·simp only[if_neg hj];exact yyD m B k l
theorem aN.sS(h:aN c st tmps w S ρ){B}(hd:ny B (gl B st.mem)=true):∃S' bu,aN c (st.sS B) tmps w S' bu:=by
 obtain⟨S',h1,h2,h3,h4,h5⟩:=h.wH B;have h0:=h.ly hd h1 h2 h3;refine⟨S',ρ.out B,{h0 with ae:=fun k=>?_}⟩;show ay w S' (ρ.out B) (aC (sv (oz B st.mem) B st.ae) k) _;rw[yyD];have hk:=h0.ae k;have hk:ay w S' (ρ.out B) (aC (nd B st.ae) k) _:=hk;rw[TG]at hk;split
 ·split
  ·rename_i x hx;exact G2 h5 3 _ _ x (h4 _ _ (h.ae k)) hx
  ·trivial
 ·rename_i hn;rw[if_neg hn]at hk;exact hk
theorem ZR{w w' S S' x v}(hf:gI x=true)(h:dR w S x v):dR w' S' x v:=by
 cases x<;>simp only[gI,Bool.false_eq_true]at hf<;>exact h
theorem ZS{w w' S S'}:∀{xs} {vs},xs.all gI=true→aS w S xs vs→aS w' S' xs vs
 |[],_,_,h=>h
 |x::xs,_,hf,⟨v,r,e,h1,h2⟩=>by simp only[List.all_cons,Bool.and_eq_true]at hf;exact⟨v,r,e,ZR hf.1 h1,ZS hf.2 h2⟩
mutual
theorem Zv{w w':World}{S S':Safe}:∀{r:CV} {v:Value},r.flat=true→iT w S r v→iT w' S' r v
 |.one x,_,hf,h=>ZR (x:=x) hf h
 |.agg xs,_,hf,⟨vs,e,h⟩=>⟨vs,e,ZS (by simpa only[CV.flat]using hf) h⟩
 |.tup cs,_,hf,⟨vs,e,h⟩=>⟨vs,e,ZT (by simpa only[CV.flat]using hf) h⟩
 |.own _ _ _,_,hf,_=>by simp[CV.flat]at hf
 |.bx _ _ _ _ _ _,_,hf,_=>by simp[CV.flat]at hf
theorem ZT{w w':World}{S S':Safe}:∀{rs:List CV} {vs:List Value},CV.nY rs=true→bA w S rs vs→bA w' S' rs vs
 |[],_,_,h=>h
 |r::rs,_,hf,⟨v,q,e,h1,h2⟩=>by simp only[CV.nY,Bool.and_eq_true]at hf;exact⟨v,q,e,Zv hf.1 h1,ZT hf.2 h2⟩
end
theorem yK3{r:CV}(h:r.flat=true):r.fB=false:=by
 cases r<;>first|rfl|simp[CV.flat]at h
end Go.Abs
end
section
namespace Go.Abs
open Go.RowKit
variable{c:Ctx}{st:St}{tmps:Array Value}{w:World}{S:Safe}{ρ:bW}
theorem yQD(h:aN c st tmps w S ρ){o t esz eb zs}(ht:aK c.P t (.slice esz eb zs)=true){x y x' y' ds}
  (ho:o.op=.indexAddr t x y) (hx:bQ x=some x') (hy:bQ y=some y') (hg:gd st x'=true) (jx:gd st y'=true) {s off m cap} {k} {n}
  (he:ev st x'=.vec s esz off m cap) (hn:ev st y'=.d (.int k n)) (cZ:0≤n∧n<m):
  ∃cv,(execOp (Act.eval ⟨tmps,ds⟩) o).run c.P w=.ok (.value cv) w∧ay w S ρ (.ptr s (off+n.toNat*esz)) cv:=by
 have e1:=h.ev hx hg (ds:=ds);rw[he]at e1;obtain⟨_,_,b,hb,hv⟩:=e1;have e2:=h.ev hy jx (ds:=ds);rw[hn]at e2;simp only[ay,dR]at e2;obtain⟨e,ie,z,hu,fp,h1,_,h3,_⟩:=tO ht;refine⟨.pointer (some ⟨b,off+n.toNat*esz,none⟩),?_,⟨b,hb,rfl⟩⟩;unfold execOp;simp only[ho,hv,e2];simp[Instr.indexAt,asIntOf,run_underlying hu,run_sizeOf fp,h1,addr_add,cZ.1,cZ.2]
theorem yWL{P t e ie esz}(hu:P.underlying t=some (.slice e))(fp:P.info? e=some ie)(h1:ie.size=esz){b off n cap lo hi mx l h m}
  (hb:(Instr.sliceBounds true n cap lo hi mx).run P w=.ok (l,h,m) w):
  (Instr.slice t (.slice (some ⟨b,off,none⟩) n cap) lo hi mx).run P w=.ok (.slice (some ⟨b,if m=l then off else off+l*esz,none⟩) (h-l) (m-l)) w:=by
 simp only[Instr.slice,Sem.run_bind,run_underlying hu,Result.andThen_ok,hb,run_sizeOf fp,h1];split<;>simp[addr_add]
theorem Nv(h:aN c st tmps w S ρ){o t esz eb zs}(ht:aK c.P t (.slice esz eb zs)=true){x lo hi mx x' ds}
  (ho:o.op=.slice t x lo hi mx) (hx:bQ x=some x') (hg:gd st x'=true) {s off n cap} (he:ev st x'=.vec s esz off n cap) {l hh m} (hlm:hh≤m) (hl:l≤hh) (I9:m≤cap)
  (hb:∀nn cc,nn=n→cc=cap→(Instr.sliceBounds true nn cc (lo.map (Act.eval ⟨tmps,ds⟩)) (hi.map (Act.eval ⟨tmps,ds⟩)) (mx.map (Act.eval ⟨tmps,ds⟩))).run c.P w=.ok (l,hh,m) w):
  ∃cv,(execOp (Act.eval ⟨tmps,ds⟩) o).run c.P w=.ok (.value cv) w∧ay w S ρ (uV s esz off l hh m) cv:=by
 have e1:=h.ev hx hg (ds:=ds);rw[he]at e1;obtain⟨k1,k2,b,nL,hv⟩:=e1;obtain⟨e,ie,z,hu,fp,h1,_,h3,_⟩:=tO ht;have aB:=yWL (P:=c.P) (w:=w) hu fp h1 (b:=b) (off:=off) (hb n cap rfl rfl);refine⟨_,?_,(by omega:hh-l≤m-l),(by omega:m-l≤9223372036854775807),b,nL,rfl⟩;unfold execOp;simp only[ho,hv];simp[Instr.sliceAt,run_underlying hu,aB]
theorem yZ7{P w}{n cap:Nat}{kl kh km l hh m}(lo:Option Value)(QA:lo=some (.int kl l)∨(lo=none∧l=0))(h0:0≤l)(h1:l≤hh)(h2:hh≤m)(h3:m≤cap):
  (Instr.sliceBounds true n cap lo (some (.int kh hh)) (some (.int km m))).run P w=.ok (l.toNat,hh.toNat,m.toNat) w:=by
 have uC:0≤m:=by omega
 have E1:0≤hh:=by omega
 rcases QA with rfl|⟨rfl,rfl⟩
 ·simp[Instr.sliceBounds,run_sliceBound,uC,h3,E1,Int.toNat_of_nonneg uC,h2,h0,Int.toNat_of_nonneg E1,h1]
 ·simp[Instr.sliceBounds,run_sliceBound,uC,h3,E1,Int.toNat_of_nonneg uC,h2]
theorem yzB{P w}{n cap:Nat}{kl kh l hh}(lo:Option Value)(QA:lo=some (.int kl l)∨(lo=none∧l=0))(h0:0≤l)(h1:l≤hh)(h2:hh≤cap):
  (Instr.sliceBounds true n cap lo (some (.int kh hh)) none).run P w=.ok (l.toNat,hh.toNat,cap) w:=by
 have E1:0≤hh:=by omega
 rcases QA with rfl|⟨rfl,rfl⟩
 ·simp[Instr.sliceBounds,run_sliceBound,E1,h2,h0,Int.toNat_of_nonneg E1,h1]
 ·simp[Instr.sliceBounds,run_sliceBound,E1,h2]
theorem yjD{P w}{n cap:Nat}{kl}{l:Int}(h0:0≤l)(h1:l≤n):
  (Instr.sliceBounds true n cap (some (.int kl l)) none none).run P w=.ok (l.toNat,n,cap) w:=by
 simp[Instr.sliceBounds,run_sliceBound,h0,h1]
theorem yQE(h:aN c st tmps w S ρ){o t esz eb zs}(ht:aK c.P t (.slice esz eb zs)=true){x lo hi mx x' ds}
  (ho:o.op=.slice t x lo hi mx) (hx:bQ x=some x') (hg:gd st x'=true) {es} (hs:(ev st x').elems=some es) (hl:∀e∈es,e.length=esz) {l hh m} (hlh:l≤hh) (Xp:hh≤m) (QE:m≤es.length)
  (hb:∀nn cc,es.length=nn→nn≤cc→(Instr.sliceBounds true nn cc (lo.map (Act.eval ⟨tmps,ds⟩)) (hi.map (Act.eval ⟨tmps,ds⟩)) (mx.map (Act.eval ⟨tmps,ds⟩))).run c.P w=.ok (l,hh,m) w):
  ∃cv,(execOp (Act.eval ⟨tmps,ds⟩) o).run c.P w=.ok (.value cv) w∧ay w S ρ (.d (.aw ((es.take hh).drop l))) cv:=by
 have e1:=FU (h.ev hx hg (ds:=ds)) hs;obtain⟨e,ie,z,hu,fp,h1,_,h3,_⟩:=tO ht;obtain⟨base,cap,hv,oO,mu,IJ,IK⟩:=e1;refine⟨.slice (if m=l then base else base.map (·.add (l*esz))) (hh-l) (m-l),?_,?_⟩
 ·unfold execOp;simp only[ho,hv];simp[Instr.sliceAt,Instr.slice,run_underlying hu,hb _ cap rfl oO,run_sizeOf fp,h1]
 ·refine⟨(if m=l then base else base.map (·.add (l*esz))),m-l,?_,?_,?_,?_,?_⟩
  ·simp only[List.length_drop,List.length_take,Nat.min_eq_left (Nat.le_trans Xp QE)]
  ·simp only[List.length_drop,List.length_take,Nat.min_eq_left (Nat.le_trans Xp QE)];omega
  ·omega
  ·intro hn;split at hn
   ·omega
   ·have:base=none:=by simpa using hn
    have:=IJ this;omega
  ·intro a ha;have cU:∃sz,∀e∈(es.take hh).drop l,e.length=sz:=⟨esz,fun e he=>hl e (List.mem_of_mem_take (List.mem_of_mem_drop he))⟩;split at ha
   ·rename_i jn;have il:(es.take hh).drop l=[]:=by apply List.drop_of_length_le;simp;omega
    exact⟨fun h=>by omega,cU,by rw[il];trivial⟩
   ·cases base with
    |none=>cases ha
    |some a0=>obtain⟨gy,_,fW⟩:=IK a0 rfl;have gy:=gy (by omega);obtain⟨b,off,sp⟩:=a0;simp only at gy fW;subst gy;simp only[Option.map_some,addr_add,Option.some.injEq]at ha;subst ha;exact⟨fun _=>rfl,cU,bY.drop l (fun e he=>hl e (List.mem_of_mem_take he)) (bY.take hh fW)⟩
theorem xzh(h:aN c st tmps w S ρ){o t' t k}(ht:aK c.P t (.cell (.d (.int k 0)))=true){x x' ds}(ho:o.op=.convert t' t x)(hx:bQ x=some x')(hg:gd st x'=true)(hs:(c.P.underlying t').isSome=true){q n}(hn:ev st x'=.d (.int q n)):
  ∃cv,(execOp (Act.eval ⟨tmps,ds⟩) o).run c.P w=.ok (.value cv) w∧ay w S ρ (.d (.int k (k.wrap n))) cv:=by
 have e1:=h.ev hx hg (ds:=ds);rw[hn]at e1;have e1:Act.eval ⟨tmps,ds⟩ x=.int q n:=e1;have hu:c.P.underlying t=some (.int k):=by
  simp only[aK,Bool.and_eq_true,sI]at ht;have:=ht.1.1;split at this
  ·rename_i k' hk;rw[hk,eq_of_beq this]
  ·cases this
 obtain⟨u,lQ⟩:=Option.isSome_iff_exists.1 hs;refine⟨.int k (k.wrap n),?_,rfl⟩;unfold execOp;simp[ho,e1,convert,run_underlying hu,run_underlying lQ,Conv.intToInt]
theorem xzg(h:aN c st tmps w S ρ){o t' t}(ht:aK c.P t (.cell (.d (.str [])))=true){x x' ds}(ho:o.op=.convert t' t x)(hx:bQ x=some x')(hg:gd st x'=true)(hs:(c.P.underlying t').isSome=true){s}(hn:ev st x'=.d (.str s)):
  ∃cv,(execOp (Act.eval ⟨tmps,ds⟩) o).run c.P w=.ok (.value cv) w∧ay w S ρ (.d (.str s)) cv:=by
 have e1:=h.ev hx hg (ds:=ds);rw[hn]at e1;obtain⟨y,e1,e2,e3⟩:=e1;have hu:=Ks ht;obtain⟨u,lQ⟩:=Option.isSome_iff_exists.1 hs;refine⟨.string y,?_,y,rfl,e2,e3⟩;unfold execOp;simp[ho,e1,convert,run_underlying hu,run_underlying lQ]
theorem af.get:∀{as} {l} {i:Nat} {a},af w S ρ as l→as[i]? =some a→∃v,l[i]? =some v∧ay w S ρ a v
 |[],_,i,a,_,h=>by simp at h
 |b::as,_,0,a,⟨v,r,h,h1,h2⟩,hi=>by subst h;simp at hi;subst hi;exact⟨v,rfl,h1⟩
 |b::as,_,i+1,a,⟨v,r,h,h1,h2⟩,hi=>by subst h;simpa using af.get h2 (by simpa using hi)
theorem af.X9:∀{as} {l},as.length=l.length→(∀(i:Nat) (a) (v),as[i]? =some a→l[i]? =some v→ay w S ρ a v)→af w S ρ as l
 |[],l,h,_=>by cases l with|nil=>rfl|cons=>cases h
 |a::as,[],h,_=>by cases h
 |a::as,v::l,h,hi=>⟨v,l,rfl,hi 0 a v rfl rfl,af.X9 (by simpa using h) fun i x y hx hy=>hi (i+1) x y (by simpa using hx) (by simpa using hy)⟩
theorem ZC(zs:List AV):∀n i,i<n*zs.length→(List.replicate n zs).flatten[i]? =zs[i%zs.length]?
 |0,i,h=>by omega
 |n+1,i,h=>by
  rw[List.replicate_succ,List.flatten_cons];by_cases hi:i<zs.length
  ·rw[List.getElem?_append_left hi,Nat.mod_eq_of_lt hi]
  ·rw[List.getElem?_append_right (by omega),ZC zs n _ (by rw[Nat.succ_mul]at h;omega),←Nat.mod_eq_sub_mod (by omega)]
theorem Nk(zs:List AV)(n):(List.replicate n zs).flatten.length=n*zs.length:=by simp
theorem Zl{zs z}(hz:af w S ρ zs z.toList)(n):af w S ρ (List.replicate n zs).flatten (madeCells z (n*zs.length)).toList:=by
 have hl:z.size=zs.length:=by simpa using af.length hz
 refine af.X9 (by rw[Nk];simp[madeCells]) fun i a v ha hv=>?_;have hi:i<n*zs.length:=by
  have:=(List.getElem?_eq_some_iff.1 ha).1
  rwa [Nk]at this
 rw[ZC zs n i hi]at ha;simp only[madeCells,Array.toList_map,Array.toList_range,List.getElem?_map,List.getElem?_range hi,Option.map_some,Option.some.injEq]at hv;have ow:0<zs.length:=by
  rcases Nat.eq_zero_or_pos zs.length with e|e
  ·rw[e]at hi;omega
  ·exact e
 have hm:i%zs.length<z.size:=by rw[hl];exact Nat.mod_lt _ ow
 obtain⟨v',e1,e2⟩:=af.get hz ha;have tg:v=v':=by
  rw[←hv,hl];have:z.toList[i%zs.length]? =some z[i%zs.length]:=by simp[hm]
  rw[this]at e1;rw[←Option.some.inj e1];exact getElem!_pos z _ hm
 rw[tg];exact e2
theorem xzp(h:aN c st tmps w S ρ){o t esz eb zs}(ht:aK c.P t (.slice esz eb zs)=true){x y x' ds}(ho:o.op=.makeSlice t x y)
  (lz:tv x y=true) (hx:bQ x=some x') (hg:gd st x'=true) {n} (hn:ev st x'=.d (.int .i64 n)) {d} (hm:getM st.mem d=none) (hN:d<c.N) (h0:0≤n) (hb:n*eb≤2^46) (xE:n≤9223372036854775807) (hz:zs.length=esz):
  ∃cv w' bu,(execOp (Act.eval ⟨tmps,ds⟩) o).run c.P w=.ok (.value cv) w'∧aN c {st with mem:=(d,(List.replicate n.toNat zs).flatten)::st.mem} tmps w' S bu∧ay w' S bu (.vec d esz 0 n.toNat n.toNat) cv:=by
 have e1:=h.ev hx hg (ds:=ds);rw[hn]at e1;have e1:Act.eval ⟨tmps,ds⟩ x=.int .i64 n:=e1;have e2:Act.eval ⟨tmps,ds⟩ y=.int .i64 n:=by
  unfold tv at lz;split at lz
  ·rw[←eq_of_beq lz];exact e1
  ·simp only[Bool.and_eq_true,beq_iff_eq]at lz;rw[←lz.1,←lz.2];exact e1
  ·cases lz
 obtain⟨e,ie,z,hu,fp,h1,h2,h3,wg,hz2⟩:=tO ht;have b6:zs≠[]:=by intro e;rw[e]at hz;simp at hz;omega
 have GV:=G6 w S ρ (yzE ht hu fp wg b6);obtain⟨bu,hle,oe,hs⟩:=h.pv hm hN (Zl GV n.toNat) e;have aB:=run_make (P:=c.P) w t e ie z hu fp wg .i64 .i64 n n h0 (Int.le_refl _) (by rw[h2,Int.mul_comm];omega) xE;rw[h1,←hz]at aB;refine⟨_,_,bu,?_,hs,Nat.le_refl _,by omega,_,oe,rfl⟩;unfold execOp;simp[ho,e1,e2,aB]
theorem yQA(h:aN c st tmps w S ρ){o t esz eb n zs}(ht:aK c.P t (.slice esz eb zs)=true){parts xs ds}
  (ho:o.op=.buildSlice t n parts) (hp:parts.toList.map (·.1)=List.range n) (hx:mI (parts.toList.map (·.2))=some xs) (hg:mG st xs=true) {es} (hr:dj esz (ju st xs)=some es) (pk:n*esz≤2^24)
  {d} (hm:getM st.mem d=none) (hN:d<c.N) (xE:es.length≤9223372036854775807):
  ∃cv w' bu,(execOp (Act.eval ⟨tmps,ds⟩) o).run c.P w=.ok (.value cv) w'∧aN c {st with mem:=(d,es.flatten.map .d)::st.mem} tmps w' S bu∧ay w' S bu (.vec d esz 0 es.length es.length) cv:=by
 obtain⟨cS,e,aB,g3,dU,uy,cT,q3⟩:=Yv h ht ho hp hx hg hr pk (ds:=ds);obtain⟨bu,hle,oe,b9⟩:=h.pv hm hN (aS.r9 (ρ:=ρ) g3) e;exact⟨.slice (some ⟨w.heap.size,0,none⟩) n n,_,bu,aB,b9,Nat.le_refl _,xE,_,oe,by rw[uy]⟩
theorem yQI(h:aN c st tmps w S ρ){s off cs xs l}(hm:getM st.mem s=some cs){b}(hb:ρ.box s=some b)(hl:af w S ρ xs l)(h1:∀u∈l,u.oneCell'=true)(lH:off+xs.length≤cs.length):
  ∃w',(storeCells ⟨b,off,none⟩ l 0).run c.P w=.ok () w'∧aN c {st with mem:=(s,cs.take off++xs++cs.drop (off+xs.length))::st.mem} tmps w' S ρ:=by
 obtain⟨b',vs,e,g1,g2,g3,g4,g6⟩:=h.mem s cs hm (h.iW hb hm);obtain rfl:=Option.some.inj (hb.symm.trans g1);have l2:=af.length hl;have l4:=af.length g4;simp only[Array.length_toList]at l4;have w6:=run_storeCells_at c.P b off e l 0 vs w g3 (by simp;omega) h1;simp only[Nat.add_zero]at w6;refine⟨_,w6,h.ri hb g2 g3 g6 (cells:=(vs.toList.take off++l++vs.toList.drop (off+l.length)).toArray) ?_ (by simp[hm])⟩;simp only[List.toList_toArray];rw[l2];exact af.append (af.append (af.take _ g4) hl) (af.drop _ g4)
theorem aN.again(h:aN c st tmps w S ρ){s b cs}(hm:getM st.mem s=some cs)(hb:ρ.box s=some b):aN c {st with mem:=(s,cs)::st.mem} tmps w S ρ:=by
 obtain⟨b',vs,e,g1,g2,g3,g4,g6⟩:=h.mem s cs hm (h.iW hb hm);obtain rfl:=Option.some.inj (hb.symm.trans g1);have:=h.ri hb g2 g3 g6 (cells:=vs) g4 (by simp[hm])
 rwa [setRow_self w b vs e (0,0) g3]at this
theorem um:∀{es:List (List D)},(∀e∈es,e.length=1)→es.flatten.length=es.length
 |[],_=>rfl
 |e::es,h=>by rw[List.flatten_cons,List.length_append,um fun x hx=>h x (by simp[hx]),h e (by simp),List.length_cons,Nat.add_comm]
theorem xzf(h:aN c st tmps w S ρ){o t t' eb zs}(ht:aK c.P t (.slice 1 eb zs)=true){x y x' y' ds}
  (ho:o.op=.call {callee:=.builtin .copy,args:=#[x,y],argTypes:=#[t,t']}) (hx:bQ x=some x') (hy:bQ y=some y') (hg:gd st x'=true) (jx:gd st y'=true) {s off n cap} {cs} {es}
  (he:ev st x'=.vec s 1 off n cap) (fW:(ev st y').elems=some es) (hm:getM st.mem s=some cs) (hl:∀e∈es,e.length=1) (lH:off+n*1≤cs.length):
  ∃w',(execOp (Act.eval ⟨tmps,ds⟩) o).run c.P w=.ok (.value (.int .i64 (Nat.min es.length n:Nat))) w'∧
   aN c {st with mem:=(s,cs.take off++(es.take n).flatten.map .d++cs.drop (off+(es.take n).length*1))::st.mem} tmps w' S ρ:=by
 have e1:=h.ev hx hg (ds:=ds);rw[he]at e1;obtain⟨_,_,b,hb,hv⟩:=e1;have e2:=FU (h.ev hy jx (ds:=ds)) fW;obtain⟨base,fK,lD,c1,c2,c3,c4⟩:=e2;obtain⟨e,ie,z,hu,fp,h1,_,h3,_⟩:=tO ht;have cU:(c.P.info? e).map (·.size)=some 1:=by rw[fp,Option.map_some,h1]
 by_cases h0:Nat.min es.length n=0
 ·have aB:=run_copy_none (P:=c.P) w t t' o.type e (some ⟨b,off,none⟩) base n cap es.length fK hu cU h0;refine⟨w,?_,?_⟩
  ·unfold execOp;simp[ho,resolve,invoke,builtin,hv,lD,aB,goInt,h0]
  ·have il:es.take n=[]:=by apply List.eq_nil_of_length_eq_zero;rw[List.length_take,Nat.min_comm];exact h0
   rw[il];simp only[List.flatten_nil,List.map_nil,List.append_nil,List.length_nil,Nat.zero_mul,Nat.add_zero,List.take_append_drop];exact h.again hm hb
 ·have ow:0<Nat.min es.length n:=Nat.pos_of_ne_zero h0;have xai:0<es.length:=Nat.lt_of_lt_of_le ow (Nat.min_le_left _ _);cases base with
  |none=>have:=c3 rfl;omega
  |some a=>
  obtain⟨d1,_,d3⟩:=c4 a rfl;have d1:=d1 (by omega);obtain⟨ab,ao,asp⟩:=a;simp only at d1 d3;subst d1;have d4:=bY.flat.1 (bY.take n d3);obtain⟨l,q1,q2⟩:=aP.values d4;have Ef:∀e∈es.take n,e.length=1:=fun e he=>hl e (List.mem_of_mem_take he);have sY:l.length=Nat.min es.length n:=by rw[aS.length q1,um Ef,List.length_take,Nat.min_comm]
  obtain⟨b',vs,ev,g1,g2,g3,g4,g6⟩:=h.mem s cs hm (h.iW hb hm);obtain rfl:=Option.some.inj (hb.symm.trans g1);have l4:=af.length g4;simp only[Array.length_toList]at l4;have QE:Nat.min es.length n≤n:=Nat.min_le_right _ _;have aB:=run_copy_row (P:=c.P) w t t' o.type e b off n cap ⟨ab,ao,none⟩ es.length fK vs ev l hu cU g3 sY (fun j v hj=>by rw[addr_add];exact(q2 j v hj).1) (by omega) (aS.xc q1);refine⟨_,?_,h.ri hb g2 g3 g6 (cells:=(vs.toList.take off++l++vs.toList.drop (off+l.length)).toArray) ?_ (by simp[hm])⟩
  ·unfold execOp;simp[ho,resolve,invoke,builtin,hv,lD,aB,goInt,sY]
  ·simp only[List.toList_toArray];rw[show(es.take n).length*1=l.length by rw[sY,List.length_take,Nat.min_comm,Nat.mul_one]];exact af.append (af.append (af.take _ g4) (aS.r9 q1)) (af.drop _ g4)
theorem xze(h:aN c st tmps w S ρ){o t tys esz eb zs}(ht:aK c.P t (.slice esz eb zs)=true){x x' ds}
  (ho:o.op=.call {callee:=.builtin .clear,args:=#[x],argTypes:=(t::tys).toArray}) (hd:o.dst=none) (hx:bQ x=some x') (hg:gd st x'=true) {s off n cap} {cs}
  (he:ev st x'=.vec s esz off n cap) (hm:getM st.mem s=some cs) (hz:zs.length=esz) (hc:dM zs=true) (lH:off+n*esz≤cs.length):
  ∃w',(execOp (Act.eval ⟨tmps,ds⟩) o).run c.P w=.ok (.value (.tuple #[])) w'∧aN c {st with mem:=(s,cs.take off++(List.replicate n zs).flatten++cs.drop (off+n*esz))::st.mem} tmps w' S ρ:=by
 have e1:=h.ev hx hg (ds:=ds);rw[he]at e1;obtain⟨_,_,b,hb,hv⟩:=e1;obtain⟨e,ie,z,hu,fp,h1,_,h3,wg,hz2⟩:=tO ht;have b6:zs≠[]:=by intro e;rw[e]at hz;simp at hz;omega
 have GV:=G6 w S ρ (yzE ht hu fp wg b6);have zt:=Zl GV n;by_cases h0:n=0
 ·subst h0;refine⟨w,?_,?_⟩
  ·unfold execOp;simp[ho,resolve,invoke,builtin,hv,Builtin.clear_,run_underlying hu]
  ·simp only[List.replicate_zero,List.flatten_nil,List.append_nil,Nat.zero_mul,Nat.add_zero,List.take_append_drop];exact h.again hm hb
 ·have ML:(Builtin.zeroCells z.cells n)=madeCells z.cells (n*zs.length):=by
    have:z.cells.size=zs.length:=by simpa using af.length GV
    simp only[Builtin.zeroCells,madeCells,this]
  have vh:∀u∈(madeCells z.cells (n*zs.length)).toList,u.oneCell'=true:=SK zt (by
   clear zt ML;induction n with
   |zero=>rfl
   |succ n ih=>
    rw[List.replicate_succ,List.flatten_cons];have:∀(a b:List AV),dM a=true→dM b=true→dM (a++b)=true:=by
     intro a;induction a with
     |nil=>intro b _ hb;exact hb
     |cons y a my=>intro b ha hb;cases y<;>simp only[dM,Bool.false_eq_true,List.cons_append]at ha⊢<;>exact my b ha hb
    refine this _ _ hc ?_;have:∀n,dM (List.replicate n zs).flatten=true:=by
     intro n;induction n with
     |zero=>rfl
     |succ n ih=>rw[List.replicate_succ,List.flatten_cons];exact this _ _ hc ih
    exact this n)
  obtain⟨w',aB,hs⟩:=yQI h hm hb zt vh (off:=off) (by rw[Nk,hz];exact lH);refine⟨w',?_,?_⟩
  ·unfold execOp;obtain⟨m,rfl⟩:=Nat.exists_eq_succ_of_ne_zero h0;simp[ho,resolve,invoke,builtin,hv,Builtin.clear_,run_underlying hu,Ki fp wg,ML,aB]
  ·rw[Nk,hz]at hs;exact hs
end Go.Abs
end
section
namespace Go.Abs
open Go.RowKit
variable{c:Ctx}{st:St}{tmps:Array Value}{w:World}{S:Safe}{ρ:bW}
theorem yYB(h:aN c st tmps w S ρ){t ty esz eb zs}(ht:aK c.P t (.slice esz eb zs)=true){d}(hd:aE st.tk d=none){es ys mm}(XP:ys.length=mm)(uD:1≤mm){base gZ n cap m fK}
  (hv:dR w S (.aw es) (.slice base n cap)) (hy:dR w S (.aw ys) (.slice gZ m fK)) (fW:∀e∈es,e.length=esz) (jT:∀e∈ys,e.length=esz) (sW:(es.length+ys.length)*eb≤2^46) (xE:es.length+ys.length≤9223372036854775807)
  (gy:n=cap∨∃b,base=some ⟨b,0,none⟩∧c.Own b∧(∃cur e,w.heap[b]? =some (.cells cur e (0,0))∧cur.size=cap*esz)∧
   (∀o,n*esz≤o→¬S b o)∧(∀s,ρ.box s≠some b)∧∀t' b' y,aE st.tk t'=some true→ρ.tok t'=some (some ⟨b',0,none⟩,y)→y.1≠y.2.1→b'≠b):
  ∃v' w' S' bu,(Builtin.append_ #[t,t] ty #[.slice base n cap,.slice gZ m fK]).run c.P w=.ok v' w'∧aN c {st with tk:=(d,true)::st.tk} tmps w' S' bu∧ay w' S' bu (.pnd mm d esz es) v':=by
 obtain⟨e,ie,z,hu,fp,q1,q2,q3,q4,q5⟩:=tO ht;obtain⟨rfl,hn,ik,il,l1,l9,vW⟩:=Gv hv;obtain⟨rfl,hm,ya,pK,l2,fE,uA⟩:=Gv hy;have pL:∀t',aE ((d,true)::st.tk) t'=if t'=d then some true else if some t'=(none:Option Nat)then(aE st.tk t').map (fun _=>false)else aE st.tk t':=by
  intro t';simp only[aE];by_cases hh:d=t'
  ·subst hh;simp
  ·have:¬t'=d:=fun e=>hh e.symm;simp[hh,this]
 have cT:∀e∈es++ys,e.length=esz:=fun e he=>(List.mem_append.1 he).elim (fW e) (jT e);have th:l1.length=es.length*esz:=(aS.length l9).trans (GD fW);have j7:l2.length=ys.length*esz:=(aS.length fE).trans (GD jT);have uC:ys.length≠0:=by omega
 cases gZ with
 |none=>have:=pK rfl;omega
 |some a2=>
  obtain⟨RE,mu⟩:=uA a2 rfl;by_cases fO:es.length+ys.length≤cap
  ·
   rcases gy with gy|⟨b,k0,k1,⟨cur,e',k2,rX⟩,k3,k4,k5⟩
   ·omega
   ·subst k0;obtain⟨_,oO⟩:=vW _ rfl;have lH:es.length*ie.size+l2.length≤cur.size:=by rw[j7,rX,q1,←Nat.add_mul];exact Nat.mul_le_mul_right _ fO
    have hr:=iw (P:=c.P) w t ty e e' ie hu fp b es.length cap cur k2 a2 ys.length fK l2 (by rw[j7,q1]) (fun j v hj=>(mu j v hj).1) (aS.xc fE) fO lH;rw[q1]at hr lH;have kB:(cur.toList.take (es.length*esz)++l2++cur.toList.drop (es.length*esz+l2.length)).toArray.size=cur.size:=by simp;omega
    have kA:∀o,o<es.length*esz→(cur.toList.take (es.length*esz)++l2++cur.toList.drop (es.length*esz+l2.length)).toArray[o]? =cur[o]? :=by
     intro o ho;have:o<(cur.toList.take (es.length*esz)).length:=by simp;omega
     simp[List.getElem?_append_left this,List.getElem?_take,ho]
    have hs:=h.sJ (n':=es.length*esz) k1 k2 kB k3 kA (by rw[kB,rX];exact Nat.mul_le_mul_right _ (by omega)) k4 k5;have jj:=setRow_heap w b cur (cur.toList.take (es.length*esz)++l2++cur.toList.drop (es.length*esz+l2.length)).toArray e' _ k2;obtain⟨bu,hle,lI,b9⟩:=hs.lq hd none pL (some ⟨b,0,none⟩,es.length,cap,esz) (by
     refine .inr ⟨b,rfl,k1,⟨_,e',jj,kB.trans rX⟩,hn,ik,fun o ho fg=>?_,k4,fun t' b' y _ a1 a2 a3=>k5 t' b' y a1 a2 a3⟩;simp only at ho;rcases fg with fg|⟨_,fg⟩
     ·exact k3 o ho fg
     ·omega)
    refine⟨_,_,_,bu,hr,b9,⟨uD,fW⟩,_,_,_,lI,?_,by omega,by rw[XP]⟩;have hk:aY w S (w.setRow b (cur.toList.take (es.length*esz)++l2++cur.toList.drop (es.length*esz+l2.length)).toArray) (fun b' o=>S b' o∨(b'=b∧o<es.length*esz)):=by
     intro b' o fg;refine⟨.inl fg,?_⟩;by_cases mW:b'=b
     ·subst mW;have ho:o<es.length*esz:=by
       rcases Nat.lt_or_ge o (es.length*esz)with h1|h1
       ·exact h1
       ·exact absurd fg (k3 o h1)
      rw[oX jj,oX k2,kA o ho]
     ·exact cell_setRow_other mW
    exact dR.keep hk _ _ hv
  ·
   have pJ:∃v',(Builtin.append_ #[t,t] ty #[.slice base es.length cap,.slice (some a2) ys.length fK]).run c.P w=
     .ok (.slice (some ⟨w.heap.size,0,none⟩) (es.length+ys.length) v') (w.drew.alloc (.cells (l1.toArray++l2.toArray++Builtin.zeroCells z.cells (v'-(es.length+ys.length))) e))∧es.length+ys.length≤v'∧v'≤9223372036854775807:=by
    have sU:(es.length+ys.length)*ie.bytes≤140737488355328:=by rw[q2];omega
    have vm:=grownCap_le_maxLen w (es.length+ys.length) cap e (by unfold maxLen;omega);unfold maxLen at vm;cases base with
    |none=>
     have yj:=il rfl;have h0:es.length=0:=by omega
     have sK:l1=[]:=List.eq_nil_of_length_eq_zero (by rw[th,h0];simp);subst sK;subst yj;have hr:=run_append_nil (P:=c.P) w t ty e ie z hu fp q4 a2 ys.length fK l2 (by rw[j7,q1]) (fun j v hj=>(mu j v hj).1) (by omega) (by omega) (by have:=sU;rw[h0,Nat.zero_add]at this;omega);simp only[h0,Nat.zero_add]at vm⊢;refine⟨_,by simpa using hr,grownCap_ge _ _ _ _,vm⟩
    |some a1=>obtain⟨sp1,oO⟩:=vW a1 rfl;have hr:=run_append_grow (P:=c.P) w t ty e ie z hu fp q4 a1 es.length cap l1 (by rw[th,q1]) (fun j v hj=>(oO j v hj).1) a2 ys.length fK l2 (by rw[j7,q1]) (fun j v hj=>(mu j v hj).1) (by omega) (by omega) (growslice_fits (by omega) sU);exact⟨_,hr,grownCap_ge _ _ _ _,vm⟩
   obtain⟨cu,hr,qt,uB⟩:=pJ;generalize hO:(Obj.cells (l1.toArray++l2.toArray++Builtin.zeroCells z.cells (cu-(es.length+ys.length))) e)=O at hr;have uG:(l1.toArray++l2.toArray++Builtin.zeroCells z.cells (cu-(es.length+ys.length))).size=cu*esz:=by simp only[Array.size_append,List.size_toArray,size_zeroCells,q5,th,j7,←Nat.add_mul];congr 1;omega
   have jj:(w.drew.alloc O).heap[w.heap.size]? =some (.cells (l1.toArray++l2.toArray++Builtin.zeroCells z.cells (cu-(es.length+ys.length))) e (0,0)):=by rw[←hO];exact heap_alloc_new w.drew _
   have iK:Below w.heap.size w (w.drew.alloc O):=((Below.refl _ _).drew).alloc (by simp) _;have hs:=h.grow (w':=w.drew.alloc O) (S':=fun b o=>S b o∨(b=w.heap.size∧o<es.length*esz)) iK (fun b o hs=>.inl hs) (fun b o hs=>by
     rcases hs with hs|⟨rfl,_⟩
     ·exact .inl hs
     ·exact .inr (Nat.le_refl _)) (fun b o hs=>by
     rcases hs with hs|⟨rfl,ho⟩
     ·obtain⟨v,hv⟩:=h.live b o hs;exact⟨v,(iK.cell (p:=⟨b,o,none⟩) (qh hv)).trans hv⟩
     ·rw[oX jj];have:o<(l1.toArray++l2.toArray++Builtin.zeroCells z.cells (cu-(es.length+ys.length))).size:=by rw[uG];exact Nat.lt_of_lt_of_le ho (Nat.mul_le_mul_right _ (by omega))
      exact⟨_,Array.getElem?_eq_getElem this⟩)
   have IB:∀o,¬S w.heap.size o:=fun o fg=>by obtain⟨v,hv⟩:=h.live _ o fg;have:=qh hv;omega
   obtain⟨bu,hle,lI,b9⟩:=hs.lq hd none pL (some ⟨w.heap.size,0,none⟩,es.length,cu,esz) (by
    refine .inr ⟨w.heap.size,rfl,.inl h.below.size,⟨_,e,jj,uG⟩,(by show es.length≤cu;omega),uB,fun o ho fg=>?_,fun s lP=>?_,fun t' b' y _ a1 a2 a3=>?_⟩
    ·simp only at ho;rcases fg with fg|⟨_,fg⟩
     ·exact IB o fg
     ·omega
    ·cases xJ:getM st.mem s with
     |none=>rw[h.aQ s xJ]at lP;cases lP
     |some kt=>obtain⟨b',vs,e',g1,_,g3,_⟩:=h.mem s kt xJ (h.iW lP xJ);obtain rfl:=Option.some.inj (lP.symm.trans g1);have:=(Array.getElem?_eq_some_iff.1 g3).1;omega
    ·obtain⟨x,m1,m2⟩:=h.tok t' a1;obtain rfl:=Option.some.inj (a2.symm.trans m1);rcases m2 with m2|⟨b2,m0,_,⟨_,_,m3,_⟩,_⟩
     ·exact absurd m2 a3
     ·cases m0;have:=(Array.getElem?_eq_some_iff.1 m3).1;omega)
   refine⟨_,_,_,bu,hr,b9,⟨uD,fW⟩,_,_,_,lI,?_,by omega,by rw[XP]⟩;have hk:aY w S (w.drew.alloc O) (fun b o=>S b o∨(b=w.heap.size∧o<es.length*esz)):=fun b o fg=>by obtain⟨v,hv⟩:=h.live b o fg;exact⟨.inl fg,iK.cell (p:=⟨b,o,none⟩) (qh hv)⟩
   have E4:=aS.keep hk _ _ l9;have:=H6 (cap:=cu) fW E4 (b:=w.heap.size) (fun j v hj=>?_) (by omega) uB
   ·exact this
   ·rw[oX jj];have bf:j<l1.length:=(List.getElem?_eq_some_iff.1 hj).1;refine⟨?_,.inr ⟨rfl,by omega⟩⟩;rw[Array.getElem?_append_left (by simp;omega),Array.getElem?_append_left (by simpa using bf)];simpa using hj
theorem yQC(h:aN c st tmps w S ρ){o t esz eb zs}(ht:aK c.P t (.slice esz eb zs)=true){x y x' y' ds}
  (ho:o.op=.indexAddr t x y) (hx:bQ x=some x') (hy:bQ y=some y') (hg:gd st x'=true) (jx:gd st y'=true) {mm tk} {es} {k} {n}
  (he:ev st x'=.pnd mm tk esz es) (hn:ev st y'=.d (.int k n)) (cZ:n=es.length):
  ∃cv,(execOp (Act.eval ⟨tmps,ds⟩) o).run c.P w=.ok (.value cv) w∧ay w S ρ (.eptr tk esz) cv:=by
 have e1:=h.ev hx hg (ds:=ds);rw[he]at e1;obtain⟨⟨A5,hlen⟩,base,m,cap,lI,aM,ik,hv⟩:=e1;have e2:=h.ev hy jx (ds:=ds);rw[hn]at e2;simp only[ay,dR]at e2;obtain⟨e,ie,z,hu,fp,h1,_,h3,_⟩:=tO ht;cases base with
 |none=>obtain⟨CU,cu,tg,_,_,h0,_⟩:=aM;cases tg;have:=h0 rfl;omega
 |some a=>
 have hm:m=es.length:=by obtain⟨_,_,tg,_⟩:=aM;cases tg;rfl
 subst hm;refine⟨.pointer (some (a.add (es.length*esz))),?_,⟨a,es.length,cap,lI,by omega,rfl⟩⟩;unfold execOp;simp only[ho,hv,e2,cZ];have bf:(es.length:Int)<((es.length+mm:Nat):Int):=by omega
 simp[Instr.indexAt,asIntOf,run_underlying hu,run_sizeOf fp,h1,bf,show mm≠0 by omega]
theorem yzJ{esz}:∀{as} {es},dj esz as=some es→∀e∈es,e.length=esz
 |[],es,h=>by simp only[dj,Option.some.injEq]at h;subst h;exact fun e he=>by cases he
 |a::as,es,h=>by
  simp only[dj]at h;split at h
  ·split at h
   ·rename_i e GJ he fW hl;cases h;intro x hx;rcases List.mem_cons.1 hx with rfl|hx
    ·exact hl
    ·exact yzJ fW x hx
   ·cases h
  ·cases h
theorem yQB(h:aN c st tmps w S ρ){o t esz eb n zs}(ht:aK c.P t (.slice esz eb zs)=true){parts xs ds}
  (ho:o.op=.buildSlice t n parts) (hp:parts.toList.map (·.1)=List.range n) (hx:mI (parts.toList.map (·.2))=some xs) (hg:mG st xs=true) {es} (hr:dj esz (ju st xs)=some es) (pk:n*esz≤2^24):
  ∃cv w' S',(execOp (Act.eval ⟨tmps,ds⟩) o).run c.P w=.ok (.value cv) w'∧aN c st tmps w' S' ρ∧ay w' S' ρ (.zsl es.length esz) cv:=by
 obtain⟨cv,w',S',h1,h2,h3,_⟩:=Ya h ht ho hp hx hg hr pk (ds:=ds);exact⟨cv,w',S',h1,h2,es,⟨rfl,yzJ hr⟩,h3⟩
mutual
theorem ay.fill{w':World}{S':Safe}{bu:bW}{t:Nat}{xs:List D}(hk:aY w S w' S')(hb:bu.box=ρ.box)(hm:bu.cO=ρ.cO)(ht:∀t',t'≠t→bu.tok t'=ρ.tok t')
  (hp:∀m sz es v,ay w S ρ (.pnd m t sz es) v→ay w' S' bu (if m=1 then .own t sz (es++[xs])else .pnd (m-1) t sz (es++[xs])) v):∀(a:AV) (v:Value),ay w S ρ a v→ay w' S' bu (a.fill t xs) v
 |.undef,_,_=>trivial
 |.d x,_,h=>dR.keep hk x _ h
 |.full _,_,⟨h1,h2⟩=>⟨dR.keep hk _ _ h1,h2⟩
 |.agg cs,_,⟨vs,h1,h2⟩=>⟨vs,h1,af.fill hk hb hm ht hp cs _ h2⟩
 |.tup cs,_,⟨vs,h1,h2⟩=>⟨vs,h1,af.fill hk hb hm ht hp cs _ h2⟩
 |.clo _ cs,_,⟨vs,h1,h2⟩=>⟨vs,h1,af.fill hk hb hm ht hp cs _ h2⟩
 |.cond _ a,_,⟨h1,h2⟩=>⟨fun hg=>ay.fill hk hb hm ht hp a _ (h1 hg),h2⟩
 |.ptr _ _,_,⟨b,h1,h2⟩=>⟨b,by rw[hb];exact h1,h2⟩
 |.mref _,_,⟨b,h1,h2⟩=>⟨b,by rw[hm];exact h1,h2⟩
 |.vec _ _ _ _ _,_,⟨k1,k2,b,h1,h2⟩=>⟨k1,k2,b,by rw[hb];exact h1,h2⟩
 |.zsl _ _,_,⟨e,h1,h2⟩=>⟨e,h1,dR.keep hk _ _ h2⟩
 |.mp _ _ _,_,h=>h.elim
 |.own t' sz es,v,h=>by
  simp only[AV.fill];by_cases he:t'=t
  ·rw[if_pos he];trivial
  ·rw[if_neg he];obtain⟨h1,h2,base,n,cap,h3,h4⟩:=h;exact⟨dR.keep hk _ _ h1,h2,base,n,cap,by rw[ht t' he];exact h3,h4⟩
 |.pnd m t' sz es,v,h=>by
  simp only[AV.fill];by_cases he:t'=t
  ·rw[if_pos he];subst he;exact hp m sz es v h
  ·rw[if_neg he];obtain⟨h1,base,n,cap,h2,h3,h4⟩:=h;exact⟨h1,base,n,cap,by rw[ht t' he];exact h2,dR.keep hk _ _ h3,h4⟩
 |.eptr t' sz,v,h=>by
  simp only[AV.fill];by_cases he:t'=t
  ·rw[if_pos he];trivial
  ·rw[if_neg he];obtain⟨b,n,cap,h2,h3⟩:=h;exact⟨b,n,cap,by rw[ht t' he];exact h2,h3⟩
theorem af.fill{w':World}{S':Safe}{bu:bW}{t:Nat}{xs:List D}(hk:aY w S w' S')(hb:bu.box=ρ.box)(hm:bu.cO=ρ.cO)(ht:∀t',t'≠t→bu.tok t'=ρ.tok t')
  (hp:∀m sz es v,ay w S ρ (.pnd m t sz es) v→ay w' S' bu (if m=1 then .own t sz (es++[xs])else .pnd (m-1) t sz (es++[xs])) v):∀(as:List AV) (vs:List Value),af w S ρ as vs→af w' S' bu (AV.iJ t xs as) vs
 |[],_,h=>h
 |a::as,_,⟨v,r,h,h1,h2⟩=>⟨v,r,h,ay.fill hk hb hm ht hp a v h1,af.fill hk hb hm ht hp as r h2⟩
end
theorem Y7(t)(xs)(k):∀l:List (Nat×AV),aC (jv t xs l) k=(aC l k).fill t xs
 |[]=>rfl
 |(j,v)::l=>by
  simp only[jv,aC];by_cases hj:j=k
  ·simp only[hj,if_true]
  ·simp only[if_neg hj];exact Y7 t xs k l
theorem Kw(t)(xs)(k):∀l:Mem,getM (jg t xs l) k=(getM l k).map (AV.iJ t xs)
 |[]=>rfl
 |(j,v)::l=>by
  simp only[jg,getM];by_cases hj:j=k
  ·simp only[hj,if_true,Option.map_some]
  ·simp only[if_neg hj];exact Kw t xs k l
theorem yQh{t xs}(a:AV):(a.fill t xs).cF=a.cF:=by
 cases a with
 |own t' sz es=>simp only[AV.fill];by_cases he:t'=t<;>simp[he,AV.cF]
 |pnd m t' sz es=>simp only[AV.fill];by_cases he:t'=t<;>by_cases hm:m=1<;>simp[he,hm,AV.cF]
 |eptr t' sz=>simp only[AV.fill];by_cases he:t'=t<;>simp[he,AV.cF]
 |_=>simp only[AV.fill,AV.cF]
theorem Zu{t xs cs}:cF (AV.iJ t xs cs)=cF cs:=by
 cases cs with
 |nil=>rfl
 |cons a r=>
  cases r with
  |cons b r=>rfl
  |nil=>exact yQh a
theorem yK1{t xs cs k e cA}(h:AV.iJ t xs cs=[.mp k e cA]):cs=[.mp k e cA]:=by
 have h1:cF cs=true:=by rw[←Zu (t:=t) (xs:=xs),h];rfl
 obtain⟨k',e',Fu,rfl⟩:=xr.1 h1;simpa only[AV.iJ,AV.fill]using h
theorem xzu(h:aN c st tmps w S ρ){o ty t}(ht:aK c.P t ty=true){x y x' y' ds}(ho:o.op=.store t x y)(hx:bQ x=some x')(hy:bQ y=some y')
  {tk sz} {xs} (hp:ev st x'=.eptr tk sz) (hg:gd st x'=true) (jx:gd st y'=true) (v7:(ev st y').mT=true) (ef:j0 [] 1 (ev st y').cells=some xs) (hn:dd ty=sz) (hl:xs.length=sz) (pL:aE st.tk tk=some true):
  ∃w' S' bu,(execOp (Act.eval ⟨tmps,ds⟩) o).run c.P w=.ok .skip w'∧aN c (st.fill tk xs) tmps w' S' bu:=by
 have e1:=h.ev hx hg (ds:=ds);rw[hp]at e1;obtain⟨a,n,cap,lI,ik,hv⟩:=e1;have e2:=Cx (m:=[]) xX 1 (Oa (h.ev hy jx (ds:=ds)) v7) ef;obtain⟨i,z,hi,_,cU,_,_,_⟩:=FP ht;obtain⟨x0,q1,q2⟩:=h.tok tk pL;rw[lI]at q1;cases q1;rcases q2 with q2|⟨b,k0,k1,⟨cur,e,k2,rX⟩,k3,k4,k5,k6,k7⟩
 ·simp only at q2;omega
 cases k0;rw[addr_add,Nat.zero_add]at hv;simp only at rX k3 k4 k5;have lx:=aS.length e2;simp only[Array.length_toList]at lx;have hmul:n*sz+sz≤cap*sz:=by rw[←Nat.succ_mul];exact Nat.mul_le_mul_right _ ik
 have w6:=run_storeCells_at c.P b (n*sz) e (Act.eval ⟨tmps,ds⟩ y).cells.toList 0 cur w k2 (by simp;omega) (aS.xc e2);simp only[Nat.add_zero,Array.length_toList]at w6;generalize zv:(cur.toList.take (n*sz)++(Act.eval ⟨tmps,ds⟩ y).cells.toList++cur.toList.drop (n*sz+(Act.eval ⟨tmps,ds⟩ y).cells.size)).toArray=new at w6;have kB:new.size=cur.size:=by rw[←zv];simp;omega
 have kA:∀o,o<n*sz→new[o]? =cur[o]? :=by
  intro o ho;have:o<(cur.toList.take (n*sz)).length:=by simp;omega
  rw[←zv];simp[List.getElem?_append_left this,List.getElem?_take,ho]
 have QD:∀j v,(Act.eval ⟨tmps,ds⟩ y).cells.toList[j]? =some v→new[n*sz+j]? =some v:=by
  intro j v hj;have bf:j<(Act.eval ⟨tmps,ds⟩ y).cells.toList.length:=(List.getElem?_eq_some_iff.1 hj).1;have t1:(cur.toList.take (n*sz)).length=n*sz:=by simp;omega
  rw[←zv];simp only[List.getElem?_toArray,List.append_assoc];rw[List.getElem?_append_right (by rw[t1];omega),List.getElem?_append_left (by rw[t1];omega),t1,show n*sz+j-n*sz=j by omega];exact hj
 have hk:aY w S (w.setRow b new) (fun b' o=>S b' o∨(b'=b∧o<(n+1)*sz)):=by
  intro b' o fg;refine⟨.inl fg,?_⟩;by_cases mW:b'=b
  ·subst mW;have ho:o<n*sz:=by
    rcases Nat.lt_or_ge o (n*sz)with h1|h1
    ·exact h1
    ·exact absurd fg (k5 o h1)
   rw[oX (setRow_heap w b' cur new e _ k2),oX k2,kA o ho]
  ·exact cell_setRow_other mW
 have jj:=setRow_heap w b cur new e _ k2;let bu:bW:={ρ with tok:=fun t=>if t=tk then some (some ⟨b,0,none⟩,n+1,cap,sz)else ρ.tok t};have Jl:∀m rn es v,ay w S ρ (.pnd m tk rn es) v→ay (w.setRow b new) (fun b' o=>S b' o∨(b'=b∧o<(n+1)*sz)) bu (if m=1 then .own tk rn (es++[xs])else .pnd (m-1) tk rn (es++[xs])) v:=by
  rintro m rn es v ⟨⟨uD,h1⟩,base,n',cu,h2,h3,h4,rfl⟩
  rw[lI]at h2;cases h2;have hlen:es.length=n:=by obtain⟨_,_,tg,_⟩:=h3;cases tg;rfl
  have cT:∀e∈es++[xs],e.length=sz:=fun e he=>by
   rcases List.mem_append.1 he with he|he
   ·exact h1 e he
   ·rw[List.mem_singleton.1 he];exact hl
  obtain⟨_,_,_,_,l1,l9,vW⟩:=Gv h3;obtain⟨_,oO⟩:=vW _ rfl;have th:l1.length=n*sz:=by rw[aS.length l9,GD h1,hlen]
  have E4:aS (w.setRow b new) (fun b' o=>S b' o∨(b'=b∧o<(n+1)*sz)) (es++[xs]).flatten (l1++(Act.eval ⟨tmps,ds⟩ y).cells.toList):=by rw[List.flatten_append];simp only[List.flatten_cons,List.flatten_nil,List.append_nil];exact aS.append (aS.keep hk _ _ l9) (aS.keep hk _ _ e2)
  have:=H6 (cap:=cap) cT E4 (b:=b) (fun j v hj=>?_) (by simp;omega) k4
  ·have e:(es++[xs]).length=n+1:=by simp[hlen]
   rw[e]at this;by_cases hm:m=1
   ·rw[if_pos hm];subst hm;exact⟨this,cT,some ⟨b,0,none⟩,n+1,cap,by simp[bu],rfl⟩
   ·rw[if_neg hm];exact⟨⟨by omega,cT⟩,some ⟨b,0,none⟩,n+1,cap,by simp[bu],this,by omega,by rw[show n+1+(m-1)=n+m by omega]⟩
  ·rw[oX jj];rcases Nat.lt_or_ge j l1.length with E2|E2
   ·rw[List.getElem?_append_left E2]at hj;have IM:=(oO j v hj).1;rw[addr_add,Nat.zero_add,oX k2]at IM;refine⟨by rw[kA j (by omega)];exact IM,.inr ⟨rfl,?_⟩⟩;rw[Nat.succ_mul];omega
   ·rw[List.getElem?_append_right E2]at hj;have bf:j-l1.length<(Act.eval ⟨tmps,ds⟩ y).cells.toList.length:=(List.getElem?_eq_some_iff.1 hj).1;simp only[Array.length_toList]at bf;have:=QD _ _ hj;rw[show n*sz+(j-l1.length)=j by omega]at this;exact⟨this,.inr ⟨rfl,by rw[Nat.succ_mul];omega⟩⟩
 have uz:∀a v,ay w S ρ a v→ay (w.setRow b new) (fun b' o=>S b' o∨(b'=b∧o<(n+1)*sz)) bu (a.fill tk xs) v:=ay.fill hk rfl rfl (fun t' iO=>by simp[bu,iO]) Jl;have EW:∀as vs,af w S ρ as vs→af (w.setRow b new) (fun b' o=>S b' o∨(b'=b∧o<(n+1)*sz)) bu (AV.iJ tk xs as) vs:=af.fill hk rfl rfl (fun t' iO=>by simp[bu,iO]) Jl;refine⟨_,_,bu,?_,{size:=h.size,ae:=fun k=>?_,mem:=fun s cs hs fG=>?_,inj:=h.inj,aQ:=fun s hs=>?_,cL:={at':=fun s k e' cA hs=>?_,inj:=h.cL.inj,new:=fun s hs=>?_,lt:=fun s b' hs=>?_,apart:=h.cL.apart},tok:=fun t' iO=>?_,aV:=fun t' iO=>?_,below:=h.below.setRow k1 _,fX:=fun b' o hs=>.inl (h.fX b' o hs),new:=?_,live:=?_,b5:=fun g cs hg=>aP.keep hk g 0 cs (h.b5 g cs hg),fx:=h.fx,ex:=h.ex,eH:=fun p hp=>⟨by rw[setRow_other w b p.1 new (RP k2 (h.eH p hp))];exact(h.eH p hp).1,(h.eH p hp).2⟩,keeps:=fun p hp=>(h.keeps p hp).trans hk,pins:=h.pins}⟩
 ·unfold execOp;simp only[ho,hv];simp only[Instr.storeAt,Instr.sureAddr,storeVar,Sem.run_bind,Sem.run_pure,Result.andThen_ok,run_sizeOf hi,cU];rw[if_neg (by rw[lx,hl,hn];simp)];simp only[w6,Sem.run_pure,Sem.run_bind,Result.andThen_ok]
 ·show ay _ _ _ (aC (jv tk xs st.ae) k) _;rw[Y7];exact uz _ _ (h.ae k)
 ·have hs:getM (jg tk xs st.mem) s=some cs:=hs;rw[Kw]at hs;rw[Option.map_eq_some_iff]at hs;obtain⟨kJ,oQ,rfl⟩:=hs;rw[Zu]at fG;obtain⟨b',vs,e',g1,g2,g3,g4,g6⟩:=h.mem s kJ oQ fG;have b6:b'≠b:=fun mW=>k6 s (mW▸g1);exact⟨b',vs,e',g1,g2,by rw[setRow_other w b b' new b6];exact g3,EW kJ _ g4,fun o ho=>by
   rcases ho with ho|⟨hb,_⟩
   ·exact g6 o ho
   ·exact b6 hb⟩
 ·have hs:getM (jg tk xs st.mem) s=none:=hs;rw[Kw,Option.map_eq_none_iff]at hs;exact h.aQ s hs
 ·have hs:getM (jg tk xs st.mem) s=some [.mp k e' cA]:=hs;rw[Kw,Option.map_eq_some_iff]at hs;obtain⟨kJ,oQ,gL⟩:=hs;have:=yK1 gL;subst this;obtain⟨b',g1,g2,g3,g4⟩:=h.cL.at' s k e' cA oQ;obtain⟨es,clock,g5⟩:=g4.obj;exact⟨b',g1,g2,g3,g4.to hk (setRow_other w b b' new fun mW=>by subst mW;rw[k2]at g5;cases g5)⟩
 ·have hs:getM (jg tk xs st.mem) s=none:=hs;rw[Kw,Option.map_eq_none_iff]at hs;exact h.cL.new s hs
 ·have:=h.cL.lt s b' hs;simpa[World.setRow]using this
 ·by_cases he:t'=tk
  ·subst he;refine⟨(some ⟨b,0,none⟩,n+1,cap,sz),by simp[bu],?_⟩;refine .inr ⟨b,rfl,k1,⟨new,e,jj,kB.trans rX⟩,ik,k4,fun o ho fg=>?_,k6,fun t2 b2 y2 b6 mw Jt hy2=>?_⟩
   ·simp only at ho;rcases fg with fg|⟨_,fg⟩
    ·exact k5 o (Nat.le_trans (Nat.mul_le_mul_right _ (Nat.le_succ _)) ho) fg
    ·omega
   ·have:ρ.tok t2=some (some ⟨b2,0,none⟩,y2):=by simpa[bu,b6]using Jt
    exact k7 t2 b2 y2 b6 mw this hy2
  ·obtain⟨y0,g1,g2⟩:=h.tok t' iO;refine⟨y0,by simp[bu,he,g1],?_⟩;by_cases eN:y0.2.1=y0.2.2.1
   ·exact .inl eN
   rcases g2 with g2|⟨b2,m0,m1,⟨PB,C0,m2,m2'⟩,m3,m4,m5,m6,m7⟩
   ·exact .inl g2
   ·have b6:b2≠b:=k7 t' b2 y0.2 he iO (by rw[g1,←m0]) eN;refine .inr ⟨b2,m0,m1,⟨PB,C0,by rw[setRow_other w b b2 new b6];exact m2,m2'⟩,m3,m4,fun o ho hs=>?_,m6,fun t2 b3 y3 QF ht3 Dp hy3=>?_⟩
    ·rcases hs with hs|⟨hb,_⟩
     ·exact m5 o ho hs
     ·exact b6 hb
    ·by_cases mw:t2=tk
     ·subst mw;have:some (some (⟨b,0,none⟩:Addr),n+1,cap,sz)=some (some ⟨b3,0,none⟩,y3):=by simpa[bu]using Dp
      cases this;exact fun e=>b6 e.symm
     ·have:ρ.tok t2=some (some ⟨b3,0,none⟩,y3):=by simpa[bu,mw]using Dp
      exact m7 t2 b3 y3 QF ht3 this hy3
 ·by_cases he:t'=tk
  ·subst he;have iO:aE st.tk t'=none:=iO;rw[pL]at iO;cases iO
  ·simp only[bu,if_neg he];exact h.aV t' iO
 ·intro b' o hs;rcases hs with hs|⟨rfl,_⟩
  ·exact h.new b' o hs
  ·exact .inr k1
 ·intro b' o hs;rcases hs with hs|⟨rfl,ho⟩
  ·obtain⟨v,tg⟩:=h.live b' o hs;exact⟨v,((hk b' o hs).2).trans tg⟩
  ·rw[oX jj];have:o<new.size:=by rw[kB,rX];exact Nat.lt_of_lt_of_le ho (Nat.mul_le_mul_right _ ik)
   exact⟨new[o],by simp[this]⟩
end Go.Abs
end
section
namespace Go.Abs
open Go.RowKit
variable{c:Ctx}{st:St}{tmps:Array Value}{w:World}{S:Safe}{ρ:bW}
theorem aN.Ew(h:aN c st tmps w S ρ){w' S'}(hg:aN c st tmps w' S' ρ){b}(hb:w.heap.size≤b){s}(hs:getM st.mem s=none)(hN:s<c.N){cs vs e}
  (hh:w'.heap[b]? =some (.cells vs e (0,0))) (hc:af w' S' ρ cs vs.toList) (hS:∀o,¬S' b o):
  ∃bu,ρ.le bu∧bu.box s=some b∧aN c {st with mem:=(s,cs)::st.mem} tmps w' S' bu:=by
 have hle:ρ.le {ρ with box:=fun k=>if k=s then some b else ρ.box k}:=by
  refine⟨fun k b hk=>?_,fun _ _ h=>h,fun _ _ h=>h⟩
  by_cases mQ:k=s
  ·subst mQ;rw[h.aQ k hs]at hk;cases hk
  ·simp[mQ,hk]
 have hold:∀k b',ρ.box k=some b'→b'<w.heap.size:=by
  intro k b' hk
  cases hm:getM st.mem k with
  |none=>rw[h.aQ k hm]at hk;cases hk
  |some kt=>
   obtain⟨Ws,vs,e',g1,_,g3,_⟩:=h.mem k kt hm (h.iW hk hm)
   obtain rfl:=Option.some.inj (hk.symm.trans g1)
   exact(Array.getElem?_eq_some_iff.1 g3).1
 have hk:aY w' S' w' S':=aY.refl _ _
 refine⟨{ρ with box:=fun k=>if k=s then some b else ρ.box k},hle,by simp,?_⟩
 refine{size:=hg.size,ae:=fun k=>(hg.ae k).keep hk hle,mem:=?_,inj:=?_,aQ:=?_,cL:=?_,tok:=?_,aV:=hg.aV,below:=hg.below,fX:=hg.fX,new:=hg.new,live:=hg.live,b5:=hg.b5,fx:=hg.fx,ex:=hg.ex,eH:=hg.eH,keeps:=hg.keeps,pins:=h.pins.sub (fun s' b e=>by
  simp only at e
  by_cases b9:s'=s
  ·exact .inl (b9▸hN)
  ·rw[if_neg b9]at e;exact .inr e) fun _ _ e=>.inr e}
 ·intro k kt dQ fG
  simp only[getM]at dQ
  split at dQ
  ·rename_i mQ
   subst mQ
   cases dQ
   exact⟨b,vs,e,by simp,.inl (Nat.le_trans h.below.size hb),hh,af.keep hk hle cs _ hc,hS⟩
  ·obtain⟨b',vs,e',g1,g2,g3,g4,g6⟩:=hg.mem k kt dQ fG
   exact⟨b',vs,e',hle.1 _ _ g1,g2,g3,af.keep hk hle kt _ g4,g6⟩
 ·intro k k' b' rT lO
  simp only at rT lO
  split at rT<;>split at lO
  ·simp_all
  ·have:=hold k' b' lO;cases rT;omega
  ·have:=hold k b' rT;cases lO;omega
  ·exact h.inj k k' b' rT lO
 ·intro k dQ
  simp only[getM]at dQ
  split at dQ
  ·cases dQ
  ·rename_i mQ
   have:¬k=s:=fun e=>mQ e.symm
   simp[this,h.aQ k dQ]
 ·refine jA.cons ?_ (af.iW hc)
  refine hg.cL.RD rfl fun k b hk=>?_
  simp only at hk
  split at hk
  ·rename_i e;subst e;exact h.cL.new k hs
  ·exact h.cL.apart k b hk
 ·intro t ht
  obtain⟨x,g1,g2⟩:=hg.tok t ht
  refine⟨x,g1,?_⟩
  by_cases eN:x.2.1=x.2.2.1
  ·exact .inl eN
  obtain⟨x',C3,PI⟩:=h.tok t ht
  obtain rfl:=Option.some.inj (g1.symm.trans C3)
  rcases g2 with g2|⟨b',g0,k1,k2,k3,k4,k5,k6,k7⟩
  ·exact .inl g2
  ·rcases PI with PI|⟨b2,m0,_,⟨_,_,m3,_⟩,_⟩
   ·exact absurd PI eN
   rw[g0]at m0;cases m0
   have bf:=(Array.getElem?_eq_some_iff.1 m3).1
   refine .inr ⟨b',g0,k1,k2,k3,k4,k5,fun k=>?_,k7⟩
   simp only
   split
   ·intro hb
    cases hb
    omega
   ·exact k6 k
theorem af.Av:∀l,af w S ρ (List.replicate l.length .undef) l
 |[]=>rfl
 |v::l=>⟨v,l,rfl,trivial,af.Av l⟩
theorem af.qA{l n}(h:l.length=n):af w S ρ (List.replicate n .undef) l:=by subst h;exact af.Av l
theorem yQy(h:aN c st tmps w S ρ){t ty esz eb zs}(ht:aK c.P t (.slice esz eb zs)=true){e0}(ph:e0.length=esz){s n cap cs b}(hb:ρ.box s=some b)(hm:getM st.mem s=some cs){b2 c2}
  (hy:dR w S (.aw [e0]) (.slice b2 1 c2)) (dU:cap*esz≤cs.length) (hn:n≤cap) (ik:cap≤9223372036854775807) (sW:(n+1)*eb≤2^46) (xE:n+1≤9223372036854775807):
  (n+1≤cap→∃w' bu,(Builtin.append_ #[t,t] ty #[.slice (some ⟨b,0,none⟩) n cap,.slice b2 1 c2]).run c.P w=.ok (.slice (some ⟨b,0,none⟩) (n+1) cap) w'∧
   aN c {st with mem:=(s,cs.take (n*esz)++List.replicate esz .undef++cs.drop (n*esz+esz))::st.mem} tmps w' S bu∧bu=ρ)∧
  (cap<n+1→∀s',getM st.mem s'=none→s'<c.N→∃w' bu cu,n+1≤cu∧cu≤9223372036854775807∧∃b',(Builtin.append_ #[t,t] ty #[.slice (some ⟨b,0,none⟩) n cap,.slice b2 1 c2]).run c.P w=.ok (.slice (some ⟨b',0,none⟩) (n+1) cu) w'∧
   ρ.le bu∧bu.box s'=some b'∧aN c {st with mem:=(s',cs.take (n*esz)++List.replicate (cu*esz-n*esz) .undef)::st.mem} tmps w' S bu):=by
 obtain⟨e,ie,z,hu,fp,q1,q2,q3,q4,q5⟩:=tO ht;obtain⟨_,A4,ya,pK,l2,fE,uA⟩:=Gv hy;have j7:l2.length=1*esz:=by rw[aS.length fE];simp[ph]
 obtain⟨b',vs,ev,g1,g2,g3,g4,g6⟩:=h.mem s cs hm (h.iW hb hm);obtain rfl:=Option.some.inj (hb.symm.trans g1);have l4:=af.length g4;simp only[Array.length_toList]at l4;have Xz:n*esz≤cap*esz:=Nat.mul_le_mul_right _ hn;cases b2 with
 |none=>have:=pK rfl;omega
 |some a2=>
 obtain⟨RE,mu⟩:=uA a2 rfl;refine⟨fun fO=>?_,fun pJ s' b9 hN=>?_⟩
 ·have lH:n*esz+esz≤cap*esz:=by rw[←Nat.succ_mul];exact Nat.mul_le_mul_right _ fO
  have hr:=iw (P:=c.P) w t ty e ev ie hu fp b n cap vs g3 a2 1 c2 l2 (by rw[j7,q1]) (fun j v hj=>(mu j v hj).1) (aS.xc fE) fO (by rw[j7,q1];omega);rw[q1]at hr;refine⟨_,ρ,hr,h.ri hb g2 g3 g6 ?_ (by simp[hm]),rfl⟩;simp only[List.toList_toArray];rw[j7,Nat.one_mul];exact af.append (af.append (af.take _ g4) (af.qA (by rw[j7,Nat.one_mul]))) (af.drop _ g4)
 ·have sU:(n+1)*ie.bytes≤140737488355328:=by rw[q2];omega
  have vm:=grownCap_le_maxLen w (n+1) cap e (by unfold maxLen;omega);unfold maxLen at vm;have hold:∀j v,(vs.toList.take (n*esz))[j]? =some v→w.cell? ((⟨b,0,none⟩:Addr).add j)=some v:=fun j v hj=>by
   rw[addr_add,Nat.zero_add,oX g3];simp only[List.getElem?_take,Array.getElem?_toList]at hj;split at hj
   ·exact hj
   ·cases hj
  have QK:(vs.toList.take (n*esz)).length=n*esz:=by simp;omega
  have hr:=run_append_grow (P:=c.P) w t ty e ie z hu fp q4 ⟨b,0,none⟩ n cap (vs.toList.take (n*esz)) (by rw[QK,q1]) hold a2 1 c2 l2 (by rw[j7,q1]) (fun j v hj=>(mu j v hj).1) (by omega) (by omega) (growslice_fits (by omega) sU);have qt:=grownCap_ge w (n+1) cap e;generalize grownCap w (n+1) cap e=cu at hr qt vm;generalize hO:(vs.toList.take (n*esz)).toArray++l2.toArray++Builtin.zeroCells z.cells (cu-(n+1))=O at hr;have oQ:=h.grow (w':=w.drew) (S':=S) ((Below.refl _ _).drew) (fun _ _ hs=>hs) (fun _ _ hs=>.inl hs) (fun b o hs=>h.live b o hs);have I6:aY w S w.drew S:=fun b o hs=>⟨hs,rfl⟩;have cU:O.toList.length=cu*esz:=by
   rw[←hO];simp only[Array.toList_append,List.length_append,QK,j7,Array.length_toList,size_zeroCells,q5];have:cu*esz=n*esz+1*esz+(cu-(n+1))*esz:=by rw[←Nat.add_mul,←Nat.add_mul];congr 1;omega
   omega
  obtain⟨bu,hle,oe,gL⟩:=oQ.pv (s:=s') b9 hN (cs:=cs.take (n*esz)++List.replicate (cu*esz-n*esz) .undef) (cells:=O) (by
   have e1:O.toList=vs.toList.take (n*esz)++(l2++(Builtin.zeroCells z.cells (cu-(n+1))).toList):=by rw[←hO];simp
   have e2:(l2++(Builtin.zeroCells z.cells (cu-(n+1))).toList).length=cu*esz-n*esz:=by have:=cU;rw[e1,List.length_append,QK]at this;omega
   rw[e1];exact af.append (af.keep I6 ρ.le_refl _ _ (af.take _ g4)) (af.qA e2)) e
  exact⟨_,bu,cu,qt,vm,_,hr,hle,oe,gL⟩
theorem yQz(h:aN c st tmps w S ρ){t ty esz eb zs}(ht:aK c.P t (.slice esz eb zs)=true){ys}(jT:∀e∈ys,e.length=esz){s cs b}(hb:ρ.box s=some b)(hm:getM st.mem s=some cs){b2 m2 c2}
  (hy:xx w S ys b2 m2 c2) (ow:0<ys.length) (sW:ys.length*eb≤2^46) (xE:ys.length≤9223372036854775807) {s'} (b9:getM st.mem s'=none) (hN:s'<c.N):
  ∃w' bu cu,ys.length≤cu∧cu≤9223372036854775807∧∃b',(Builtin.append_ #[t,t] ty #[.slice (some ⟨b,0,none⟩) 0 0,.slice b2 m2 c2]).run c.P w=.ok (.slice (some ⟨b',0,none⟩) ys.length cu) w'∧
   ρ.le bu∧bu.box s'=some b'∧aN c {st with mem:=(s',ys.flatten.map .d++List.replicate (cu*esz-ys.length*esz) .undef)::st.mem} tmps w' S bu:=by
 obtain⟨e,ie,z,hu,fp,q1,q2,q3,q4,q5⟩:=tO ht;obtain⟨rfl,A4,ya,pK,l2,fE,uA⟩:=hy;have j7:l2.length=ys.length*esz:=by
  rw[aS.length fE];clear fE ow sW xE A4;induction ys with
  |nil=>simp
  |cons y ys ih=>rw[List.flatten_cons,List.length_append,ih fun e he=>jT e (by simp[he]),jT y (by simp),List.length_cons,Nat.succ_mul];omega
 cases b2 with
 |none=>have:=pK rfl;omega
 |some a2=>
 obtain⟨RE,mu⟩:=uA a2 rfl;have sU:(0+ys.length)*ie.bytes≤140737488355328:=by rw[q2,Nat.zero_add];omega
 have vm:=grownCap_le_maxLen w (0+ys.length) 0 e (by unfold maxLen;omega);unfold maxLen at vm;have hr:=run_append_grow (P:=c.P) w t ty e ie z hu fp q4 ⟨b,0,none⟩ 0 0 [] (by simp) (fun j v hj=>by simp at hj) a2 ys.length c2 l2 (by rw[j7,q1]) (fun j v hj=>(mu j v hj).1) (by omega) (by omega) (growslice_fits (by omega) sU);have qt:=grownCap_ge w (0+ys.length) 0 e;generalize grownCap w (0+ys.length) 0 e=cu at hr qt vm;rw[Nat.zero_add]at hr qt;generalize hO:([]:List Value).toArray++l2.toArray++Builtin.zeroCells z.cells (cu-ys.length)=O at hr;have oQ:=h.grow (w':=w.drew) (S':=S) ((Below.refl _ _).drew) (fun _ _ hs=>hs) (fun _ _ hs=>.inl hs) (fun b o hs=>h.live b o hs);have I6:aY w S w.drew S:=fun b o hs=>⟨hs,rfl⟩;have e1:O.toList=l2++(Builtin.zeroCells z.cells (cu-ys.length)).toList:=by rw[←hO];simp
 have e2:(Builtin.zeroCells z.cells (cu-ys.length)).toList.length=cu*esz-ys.length*esz:=by rw[Array.length_toList,size_zeroCells,q5,Nat.sub_mul]
 obtain⟨bu,hle,oe,gL⟩:=oQ.pv (s:=s') b9 hN (cs:=ys.flatten.map .d++List.replicate (cu*esz-ys.length*esz) .undef) (cells:=O) (by rw[e1];exact af.append (aS.r9 (aS.keep I6 _ _ fE)) (af.qA e2)) e;exact⟨_,bu,cu,qt,by omega,_,hr,hle,oe,gL⟩
theorem yy6{e}:∀{n} {cs} {l} {ys},af w S ρ cs l→rowsOf e n cs=some ys→n*e≤cs.length→ys.length=n∧(∀y∈ys,y.length=e)∧aS w S ys.flatten (l.take (n*e))
 |0,_,_,_,_,hr,_=>by simp only[rowsOf,Option.some.injEq]at hr;subst hr;exact⟨rfl,fun y hy=>(by cases hy),by simp[aS]⟩
 |n+1,cs,l,ys,h,hr,hn=>by
  rw[Nat.succ_mul]at hn;simp only[rowsOf]at hr;split at hr
  ·rename_i x xs hx ef;split at hr
   ·rename_i hl;cases hr;obtain⟨i1,i2,i3⟩:=yy6 (n:=n) (af.drop e h) ef (by rw[List.length_drop];omega);have h1:=Cx xX 1 (af.take e h) hx;refine⟨by simp[i1],fun y hy=>?_,?_⟩
    ·rcases List.mem_cons.1 hy with rfl|hy
     ·exact hl
     ·exact i2 y hy
    ·rw[List.flatten_cons,Nat.succ_mul,Nat.add_comm,List.take_add];exact aS.append h1 i3
   ·cases hr
  ·cases hr
theorem yyc(h:aN c st tmps w S ρ){a v ys}(ha:ay w S ρ a v)(he:a.nf st.mem=some ys):∃b2 m2 c2,v=.slice b2 m2 c2∧xx w S ys b2 m2 c2:=by
 have gen:a.elems=some ys→∃b2 m2 c2,v=.slice b2 m2 c2∧xx w S ys b2 m2 c2:=fun he=>by
  have e2:=FU ha he;have zR:∃b2 m2 c2,v=.slice b2 m2 c2:=by obtain⟨b2,c2,lD,_⟩:=e2;exact⟨b2,_,c2,lD⟩
  obtain⟨b2,m2,c2,rfl⟩:=zR;exact⟨b2,m2,c2,rfl,.of e2⟩
 cases a with
 |vec s e off n cap=>
  simp only[AV.nf]at he;split at he
  ·rename_i cs dU;split at he
   ·rename_i hlen;obtain⟨k1,k2,b,hb,rfl⟩:=ha;obtain⟨b',vs,ev,g1,g2,g3,g4,g6⟩:=h.mem s cs dU (h.iW hb dU);obtain rfl:=Option.some.inj (hb.symm.trans g1);obtain⟨i1,i2,i3⟩:=yy6 (af.drop off g4) he (by rw[List.length_drop];omega);refine⟨_,_,_,rfl,i1.symm,k1,k2,fun e=>(by cases e),_,i3,fun a ha=>?_⟩;cases ha;refine⟨fun _=>rfl,fun j v hj=>⟨?_,trivial⟩⟩;rw[addr_add,oX g3];simp only[List.getElem?_take,List.getElem?_drop,Array.getElem?_toList]at hj;split at hj
    ·exact hj
    ·cases hj
   ·cases he
  ·cases he
 |_=>exact gen he
theorem yWf(h:aN c st tmps w S ρ){o t t' esz eb zs}(ht:aK c.P t (.slice esz eb zs)=true){x x' ds}
  (ho:o.op=.binOp .eql t x (.const (.slice none 0 0)) t') (hx:bQ x=some x') (hg:gd st x'=true) (he:(ev st x').mc=true):
  (execOp (Act.eval ⟨tmps,ds⟩) o).run c.P w=.ok (.value (.bool false)) w:=by
 have e1:=h.ev hx hg (ds:=ds);obtain⟨e,ie,z,hu,_⟩:=tO ht;cases hv:ev st x' with
 |vec s e off n cap=>
  rw[hv]at e1;obtain⟨_,_,b,_,hv⟩:=e1;unfold execOp;simp only[ho];refine mn (v:=_) (w':=w) ?_;rw[hv];have j6:Act.eval ⟨tmps,ds⟩ (.const (.slice none 0 0))=.slice none 0 0:=rfl;rw[j6];have:(Op.equal t (.slice (some ⟨b,off,none⟩) n cap) (.slice none 0 0)).run c.P w=.ok false w:=by
   unfold Op.equal;have:Op.maxDepth=(Op.maxDepth-1)+1:=by decide
   rw[this];unfold Op.equalIn;simp[run_underlying hu]
  simp[eqGuard_at_slice,binOp,this]
 |_=>rw[hv]at he;cases he
end Go.Abs
end
section
namespace Go.Abs
open Go.RowKit
variable{c:Ctx}{st:St}{tmps:Array Value}{w:World}{S:Safe}{ρ:bW}
theorem Y9(t)(b)(tk)(t'):aE ((t,b)::tk) t'=if t'=t then some b else aE tk t':=by
 simp only[aE];by_cases h:t=t'
 ·subst h;simp
 ·have:¬t'=t:=fun e=>h e.symm;simp[h,this]
theorem af.set:∀{as} {l} {i} {a} {v},af w S ρ as l→l[i]? =some v→ay w S ρ a v→af w S ρ (as.set i a) l
 |[],_,i,a,v,h,_,_=>by simpa using h
 |b::as,_,0,a,v,⟨v',r,h,h1,h2⟩,hi,hv=>by subst h;simp at hi;subst hi;exact⟨_,_,rfl,hv,h2⟩
 |b::as,_,i+1,a,v,⟨v',r,h,h1,h2⟩,hi,hv=>by subst h;exact⟨_,_,rfl,h1,af.set h2 (by simpa using hi) hv⟩
theorem yvL(h:aN c st tmps w S ρ){p cH}(hc:yP st p cH):∃bu,aN c cH tmps w S bu:=by
 obtain⟨pl,t,sz⟩:=p;have pL:∀t',aE ((t,true)::st.tk) t'=if t'=t then some true else if some t'=(none:Option Nat)then(aE st.tk t').map (fun _=>false)else aE st.tk t':=by intro t';rw[Y9];simp
 cases pl with
 |s k=>
  obtain⟨es,h1,h2,h3,rfl⟩:=hc;have hs:=h.ae k;rw[h1]at hs;obtain⟨aM,base,n,hv⟩:=hs;obtain⟨bu,hle,lI,hs⟩:=h.lq h3 none pL (base,n,n,sz) (.inl rfl);refine⟨bu,{hs with ae:=fun k'=>?_}⟩;simp only[aC];by_cases hk:k=k'
  ·subst hk;rw[if_pos rfl];exact⟨aM,h2,base,n,n,lI,hv⟩
  ·rw[if_neg hk];exact hs.ae k'
 |m s i=>
  obtain⟨cs,es,h0,h1,h2,h3,rfl⟩:=hc;have fG:cF cs=false:=by
   cases hm:cF cs with
   |false=>rfl
   |true=>obtain⟨k,e,cA,rfl⟩:=xr.1 hm;cases i<;>simp at h1
  obtain⟨b,vs,e,g1,g2,g3,g4,g6⟩:=h.mem s cs h0 fG;obtain⟨v,XL,aM,base,n,hv⟩:=af.get g4 h1;obtain⟨bu,hle,lI,hs⟩:=h.lq h3 none pL (base,n,n,sz) (.inl rfl);refine⟨bu,{hs with mem:=fun s' kt b9 QG=>?_,aQ:=fun s' b9=>?_,cL:=hs.cL.cons (af.iW (af.set (af.keep (aY.refl w S) hle cs _ g4) XL ⟨aM,h2,base,n,n,lI,hv⟩))}⟩
  ·simp only[getM]at b9;split at b9
   ·rename_i A9;subst A9;cases b9;refine⟨b,vs,e,hle.1 _ _ g1,g2,g3,af.set (af.keep (aY.refl w S) hle cs _ g4) XL ⟨aM,h2,base,n,n,lI,hv⟩,g6⟩
   ·exact hs.mem s' kt b9 QG
  ·simp only[getM]at b9;split at b9
   ·cases b9
   ·exact hs.aQ s' b9
theorem Oe:∀{ps} {st cH} {ρ},aN c st tmps w S ρ→sq ps st cH→∃bu,aN c cH tmps w S bu
 |[],st,cH,ρ,h,hc=>by simp only[sq]at hc;subst hc;exact⟨ρ,h⟩
 |p::ps,st,cH,ρ,h,⟨s1,h1,h2⟩=>by obtain⟨gq,hs⟩:=yvL h h1;exact Oe hs h2
end Go.Abs
end
section
namespace Go.Abs
open Go.RowKit
variable{c:Ctx}{st:St}{tmps:Array Value}{w:World}{S:Safe}{ρ:bW}
theorem ykI(h:aN c st tmps w S ρ){o t esz eb zs}(ht:aK c.P t (.slice esz eb zs)=true){x x' tys ds}
  (ho:o.op=.call {callee:=.builtin .len,args:=#[x],argTypes:=(t::tys).toArray}) (hx:bQ x=some x') (hg:gd st x'=true) {n} (hn:lenOf false (ev st x')=some n):
  (execOp (Act.eval ⟨tmps,ds⟩) o).run c.P w=.ok (.value (.int .i64 n)) w∧(n:Int)≤9223372036854775807:=by
 have e1:=h.ev hx hg (ds:=ds);obtain⟨e,ie,z,hu,_⟩:=tO ht;refine⟨?_,Zh e1 hn⟩;have:∃base cap,Act.eval ⟨tmps,ds⟩ x=.slice base n cap:=by
  unfold lenOf at hn;split at hn<;>first|(cases hn;done)|skip
  ·rename_i h1 h2;cases h1
  ·rename_i h1 h2;cases hn;rw[h2]at e1;obtain⟨b,cp,hv,_⟩:=e1;exact⟨b,cp,hv⟩
  ·rename_i h1 h2;cases hn;rw[h2]at e1;obtain⟨⟨b,cp,hv,_⟩,_⟩:=e1;exact⟨b,cp,hv⟩
  ·rename_i h1 h2;cases hn;rw[h2]at e1;obtain⟨⟨b,cp,hv,_⟩,_⟩:=e1;exact⟨b,cp,hv⟩
  ·rename_i h1 h2;cases hn;rw[h2]at e1;obtain⟨_,_,b,_,hv⟩:=e1;exact⟨_,_,hv⟩
 obtain⟨base,cap,hv⟩:=this;unfold execOp;simp[ho,resolve,invoke,builtin,Builtin.len_,hv,run_underlying hu,goInt]
theorem yZQ(h:aN c st tmps w S ρ){o t}(ht:aK c.P t (.cell (.d (.str [])))=true){x x' tys ds}
  (ho:o.op=.call {callee:=.builtin .len,args:=#[x],argTypes:=(t::tys).toArray}) (hx:bQ x=some x') (hg:gd st x'=true) {n} (hn:lenOf true (ev st x')=some n):
  (execOp (Act.eval ⟨tmps,ds⟩) o).run c.P w=.ok (.value (.int .i64 n)) w∧(n:Int)≤9223372036854775807:=by
 have e1:=h.ev hx hg (ds:=ds);have hu:c.P.underlying t=some .string:=by simp only[aK,Bool.and_eq_true,sI]at ht;have:=ht.1.1;split at this<;>simp_all
 refine⟨?_,Zh e1 hn⟩;have:∃s:ByteArray,Act.eval ⟨tmps,ds⟩ x=.string s∧s.size=n:=by
  unfold lenOf at hn;split at hn<;>first|(cases hn;done)|skip
  ·rename_i h1 h2;cases hn;rw[h2]at e1;obtain⟨s,hv,rfl,_⟩:=e1;exact⟨s,hv,by simp⟩
  ·rename_i h1 h2;cases h1
  ·rename_i h1 h2;cases h1
  ·rename_i h1 h2;cases h1
  ·rename_i h1 h2;cases h1
 obtain⟨s,hv,hs⟩:=this;unfold execOp;simp[ho,resolve,invoke,builtin,Builtin.len_,hv,run_underlying hu,goInt,hs]
theorem yVC(h:aN c st tmps w S ρ){o t t' esz eb zs}(ht:aK c.P t (.slice esz eb zs)=true){x x' ds}
  (ho:o.op=.binOp .eql t x (.const (.slice none 0 0)) t') (hx:bQ x=some x') (hg:gd st x'=true) {es} (he:(ev st x').elems=some es):
  ∃b:Bool,(execOp (Act.eval ⟨tmps,ds⟩) o).run c.P w=.ok (.value (.bool b)) w∧(b=true→es=[]):=by
 have e1:=FU (h.ev hx hg (ds:=ds)) he;obtain⟨e,ie,z,hu,_⟩:=tO ht;obtain⟨base,cap,hv,h1,h2,h3,_⟩:=e1;refine⟨base.isNone,?_,fun hb=>?_⟩
 ·unfold execOp;simp only[ho];refine mn (v:=_) (w':=w) ?_;rw[hv];have j6:Act.eval ⟨tmps,ds⟩ (.const (.slice none 0 0))=.slice none 0 0:=rfl;rw[j6];have:(Op.equal t (.slice base es.length cap) (.slice none 0 0)).run c.P w=.ok base.isNone w:=by
   unfold Op.equal;have:Op.maxDepth=(Op.maxDepth-1)+1:=by decide
   rw[this];unfold Op.equalIn;cases base<;>simp[run_underlying hu]
  simp[eqGuard_at_slice,binOp,this]
 ·have:base=none:=by cases base<;>simp_all
  have:=h3 this;exact List.eq_nil_of_length_eq_zero (by omega)
def jW(c:Ctx)(K:St→Prop):Act→World→Prop:=fun a w=>a.defers=c.ds∧∃st S ρ,aN c st a.tmps w S ρ∧K st
theorem gB{o cv w' S' bu}(aB:(execOp (Act.eval ⟨tmps,c.ds⟩) o).run c.P w=.ok (.value cv) w')(hs:aN c st tmps w' S' bu){v}(hv:ay w' S' bu v cv){d:Nat}(hd:o.dst=some d)(hN:c.D d)
  {g} (hg:g=none∨g=some true) {K} (hK:K (st.put g d v)) (Q):o.wp c.P ⟨tmps,c.ds⟩ w (jW c K) Q:=by
 unfold Oper.wp;rw[aB];simp only[Oper.upon_value,Act.put,hd];refine⟨rfl,_,_,_,hs.put hN hv g ?_,hK⟩
 rintro b hb rfl
 rcases hg with hg|hg<;>rw[hg]at hb<;>cases hb
theorem jU{g}(hg:g=none∨g=some true){p}(h:qY g p):p:=by
 rcases hg with rfl|rfl
 ·exact h
 ·exact h rfl
theorem bc{α x}{f:α→Option I}{i}(h:(x>>=f)=some i):∃a,x=some a∧f a=some i:=by
 cases x with
 |none=>cases h
 |some a=>exact⟨a,rfl,h⟩
variable{E:ax}{T:Nat→Option Ty}
theorem xy.GX{gq jO σ iF}(oe:∀s b,gq.box s=some b→∃s',aZ σ s=some s'∧jO.box s'=some b){r v}(h:xy w S gq r v):ay w S jO (r.jM.gW σ iF) v:=by
 cases r with
 |vr s e o n cap=>obtain⟨k1,k2,b,h1,h2⟩:=h;obtain⟨s',e1,e2⟩:=oe s b h1;simp only[CV.jM,AV.gW,e1,Option.getD_some];exact⟨k1,k2,b,e2,h2⟩
 |one x=>exact h
 |agg xs=>exact iT.r8 (r:=.agg xs) h
 |tup vs=>exact iT.r8 (r:=.tup vs) h
 |own a sz es=>exact iT.r8 (r:=.own a sz es) h
 |bx=>exact h.elim
 |vc=>exact h.elim
theorem NU(hC:∀f args r,E.C f args r→Ev c.P c.G f args r)(h:aN c st tmps w S ρ){o:Oper}{f args argTypes}(cV:o.op=.call {callee:=.value f,args:=args,argTypes:=argTypes})
  {xs} (ef:mI args.toList=some xs) (aT:∀d,o.dst=some d→c.D d) {rQ} {cs} (hv:Act.eval ⟨tmps,c.ds⟩ f=.func (.func rQ) #[] cs) {caps} (fM:af w S ρ caps cs.toList) {g} {gs} (bV:gs=true→mG st xs=true)
  {x} (hb:jE E g rQ gs (ju st xs++caps) st x) {K} (hK:K (jB st o.dst x)) (Q):o.wp c.P ⟨tmps,c.ds⟩ w (jW c K) Q:=by
 obtain⟨_,Qu,_,⟨o1,o2,o3,o4,o5,o6,o7,o8,o9,o10,o11,o12⟩,BQ⟩:=hb;have bV:=bV Qu;have ue:Po c.P c.G rQ x.pB x.m0 (lK x.τ) x.r x.m1 (lK x.iF):=hC _ _ _ BQ;obtain⟨fn,sX,ed,iL⟩:=ue.1;obtain⟨_,_,g3⟩:=o2.get;have aB:(execOp (Act.eval ⟨tmps,c.ds⟩) o).run c.P w=.ok (.enter rQ (args.map (Act.eval ⟨tmps,c.ds⟩)++cs)) w:=by
  unfold execOp;simp only[cV];have gK:¬fn.name= "runtime.NumGoroutine":=by simpa using ed
  have gJ:¬fn.body=none:=by intro e;simp[e]at iL
  simp[resolve,invoke,callFunc,Deferred.ofValue,hv,sX,gK,gJ]
 unfold Oper.wp;rw[aB,Oper.upon_enter];have wW:∀(r:Nat→Option Nat) (p:Nat×Nat),p∈x.σ.filterMap (fun q=>(r q.2).map fun b=>(q.1,b))→1000≤p.1:=fun r p hp=>by obtain⟨q,hq,e⟩:=List.mem_filterMap.1 hp;rw[Option.map_eq_some_iff]at e;obtain⟨b0,_,rfl⟩:=e;exact(g3 q hq).1
 have wS:∀(r:Nat→Option Nat) (s b:Nat),(aZ x.σ s).bind r=some b→(s,b)∈x.σ.filterMap (fun q=>(r q.2).map fun b=>(q.1,b)):=fun r s b hb=>by rw[Option.bind_eq_some_iff]at hb;obtain⟨u,e1,e2⟩:=hb;exact List.mem_filterMap.2 ⟨(s,u),xq e1,by simp only[e2,Option.map_some]⟩
 refine(ue.2 w S (args.map (Act.eval ⟨tmps,c.ds⟩)++cs) _ _ _ _ (h.IE o2 o3 o4 o5) (wW ρ.box) (wW ρ.cO) (wS ρ.box) (wS ρ.cO) (by have:=fT.sound (af.append (h.ju (ds:=c.ds) ef bV) fM) o1;simpa using this)).mono ?_
 rintro e w' ⟨v,S',bu,rfl,hr,h1⟩
 obtain⟨jO,⟨hle,oe⟩,hs⟩:=h.PT o2 o3 o4 o5 o6 o7 o8 o9 o10 o11 o12 h1;simp only[Act.put];cases hd:o.dst with
 |none=>rw[hd]at hK;exact⟨rfl,_,_,_,hs,hK⟩
 |some d=>rw[hd]at hK;refine⟨rfl,_,_,_,hs.put (aT d hd) (xy.GX oe hr) none (fun b hb=>by cases hb),hK⟩
theorem yVI(hG:E.G=c.G)(hC:∀f args r,E.C f args r→Ev c.P c.G f args r)(hT:∀t ty,T t=some ty→aK c.P t ty=true)(h:aN c st tmps w S ρ){o:Oper}{i}
  (aa:nE T o.dst o.op=some i) (aT:∀d,o.dst=some d→c.D d) {g} (hg:g=none∨g=some true) {K} (hK:bF E g i st K) (Q):o.wp c.P ⟨tmps,c.ds⟩ w (jW c K) Q:=by
 cases cV:o.op<;>rw[cV]at aa<;>simp only[nE,Option.bind_eq_bind,Option.pure_def,reduceCtorEq]at aa;case move x=>obtain⟨d,hd,aa⟩:=bc aa;obtain⟨x',hx,aa⟩:=bc aa;cases aa;simp only[bF,eW]at hK;obtain⟨bV,_⟩:=jU hg hK.1;obtain⟨cv,aB,aM⟩:=Yw h (.inl cV) hx bV;exact gB aB h aM hd (aT d hd) hg hK.2 Q
 case assign x=>obtain⟨d,hd,aa⟩:=bc aa;obtain⟨x',hx,aa⟩:=bc aa;cases aa;simp only[bF,eW]at hK;obtain⟨bV,_⟩:=jU hg hK.1;obtain⟨cv,aB,aM⟩:=Yw h (.inr cV) hx bV;exact gB aB h aM hd (aT d hd) hg hK.2 Q
 case pick x y z=>
  obtain⟨d,hd,aa⟩:=bc aa;unfold tB at aa;split at aa
  ·obtain⟨x',hx,aa⟩:=bc aa;obtain⟨y',hy,aa⟩:=bc aa;cases aa;simp only[bF,eW]at hK;split at hK
   ·rename_i v ob gs hr;split at hr
    ·rename_i p q hp hq;cases hr;obtain⟨bV,cZ⟩:=jU hg hK.1;obtain⟨cv,aB,aM⟩:=xzb h cV hx hy hp hq bV cZ;exact gB aB h aM hd (aT d hd) hg hK.2 Q
    ·rename_i p hp _;cases hr;obtain⟨bV,cZ⟩:=jU hg hK.1;obtain⟨cv,aB,aM⟩:=yQx h cV hx hp bV cZ;exact gB aB h aM hd (aT d hd) hg hK.2 Q
    ·cases hr
   ·exact hK.elim
  ·obtain⟨x',hx,aa⟩:=bc aa;obtain⟨y',hy,aa⟩:=bc aa;cases aa;simp only[bF,eW]at hK;split at hK
   ·rename_i v ob gs hr;split at hr
    ·rename_i p q hp hq;cases hr;obtain⟨bV,cZ⟩:=jU hg hK.1;obtain⟨cv,aB,aM⟩:=JR h cV hx hy hp hq bV cZ;exact gB aB h aM hd (aT d hd) hg hK.2 Q
    ·rename_i p hp _;cases hr;obtain⟨bV,cZ⟩:=jU hg hK.1;obtain⟨cv,aB,aM⟩:=xzt h cV hx hp bV cZ;exact gB aB h aM hd (aT d hd) hg hK.2 Q
    ·cases hr
   ·exact hK.elim
  ·cases aa
 case binOp op t x y t'=>
  unfold xo at aa;split at aa
  ·obtain⟨ty,dW,aa⟩:=bc aa;split at aa
   ·rename_i esz eb zs;obtain⟨d,hd,aa⟩:=bc aa;obtain⟨x',hx,aa⟩:=bc aa;cases aa;simp only[bF]at hK;split at hK
    ·rename_i es fW;have u9:=jU hg hK.1;obtain⟨b,aB,hb⟩:=yVC h (hT _ _ dW) cV hx u9 fW (ds:=c.ds);exact gB (v:=.d (.bool b)) aB h rfl hd (aT d hd) hg (hK.2 b hb) Q
    ·have u9:=jU hg hK.2.1;exact gB (v:=.d (.bool false)) (yWf h (hT _ _ dW) cV hx u9 hK.1 (ds:=c.ds)) h rfl hd (aT d hd) hg hK.2.2 Q
   ·cases aa
  rename_i op y _;split at aa
  ·rename_i mW;simp only[Bool.and_eq_true]at mW;obtain⟨d,hd,aa⟩:=bc aa;obtain⟨x',hx,aa⟩:=bc aa;obtain⟨y',hy,aa⟩:=bc aa;cases aa;have hu:c.P.underlying t=some .bool:=by
    have h2:=mW.2;unfold w9 at h2;split at h2
    ·rename_i b dW;have:=hT _ _ dW;simp only[aK,Bool.and_eq_true,sI]at this;have:=this.1.1;split at this<;>simp_all
    ·cases h2
   simp only[bF,eW]at hK;split at hK
   ·rename_i v ob gs hr;split at hr
    ·rename_i p q hp hq;cases hr;obtain⟨bV,_⟩:=jU hg hK.1;simp only[Bool.and_eq_true]at bV;obtain⟨cv,aB,aM⟩:=xzc h hu cV mW.1 hx hy bV.1 bV.2 hp hq;exact gB aB h aM hd (aT d hd) hg hK.2 Q
    ·cases hr
   ·exact hK.elim
  split at aa
  ·rename_i _ Ql;simp only[Bool.and_eq_true]at Ql;obtain⟨d,hd,aa⟩:=bc aa;obtain⟨x',hx,aa⟩:=bc aa;obtain⟨y',hy,aa⟩:=bc aa;cases aa;simp only[bF,eW]at hK;split at hK
   ·rename_i v ob gs hr;split at hr
    ·rename_i a b hp hq;split at hr
     ·rename_i xs ys ha hb;cases hr;obtain⟨bV,cZ⟩:=jU hg hK.1;simp only[Bool.and_eq_true]at bV;obtain⟨cv,aB,aM⟩:=xza h (yKP hT Ql.2) cV Ql.1 hx hy bV.1 bV.2 hp hq ha hb cZ;exact gB aB h aM hd (aT d hd) hg hK.2 Q
     ·cases hr
    ·cases hr
   ·exact hK.elim
  split at aa
  ·rename_i _ _ I1;simp only[Bool.and_eq_true]at I1;obtain⟨d,hd,aa⟩:=bc aa;obtain⟨x',hx,aa⟩:=bc aa;cases aa;obtain⟨ms,hu⟩:∃ms,c.P.underlying t=some (.interface ms):=by
    have h2:=I1.1.2;unfold zU at h2;split at h2
    ·rename_i dW;have:=hT _ _ dW;simp only[aK,Bool.and_eq_true,sI]at this;have:=this.1.1;split at this<;>simp_all
    ·cases h2
   have hyn:=yXE I1.2;subst hyn;simp only[bF,eW]at hK;split at hK
   ·rename_i v ob gs hr;split at hr
    ·rename_i hp;cases hr;obtain⟨bV,_⟩:=jU hg hK.1;obtain⟨cv,aB,aM⟩:=Yb h hu cV I1.1.1 hx bV (p:=true) hp;exact gB aB h aM hd (aT d hd) hg hK.2 Q
    ·rename_i hp;cases hr;obtain⟨bV,_⟩:=jU hg hK.1;obtain⟨cv,aB,aM⟩:=Yb h hu cV I1.1.1 hx bV (p:=false) hp;exact gB aB h aM hd (aT d hd) hg hK.2 Q
    ·cases hr
   ·exact hK.elim
  obtain⟨d,hd,aa⟩:=bc aa;obtain⟨x',hx,aa⟩:=bc aa;obtain⟨y',hy,aa⟩:=bc aa;cases aa;simp only[bF,eW]at hK;split at hK
  ·rename_i v ob gs hr;split at hr
   ·rename_i r QP;cases hr;obtain⟨bV,cZ⟩:=jU hg hK.1;simp only[Bool.and_eq_true]at bV;obtain⟨cv,aB,aM⟩:=xzd h cV hx hy bV.1 bV.2 QP cZ;exact gB aB h aM hd (aT d hd) hg hK.2 Q
   ·cases hr
  ·exact hK.elim
 case nilCheck x=>
  obtain⟨d,hd,aa⟩:=bc aa;obtain⟨x',hx,aa⟩:=bc aa;cases aa;simp only[bF,eW]at hK;split at hK
  ·rename_i v ob gs hr;split at hr
   ·rename_i s off hb;cases hr;obtain⟨bV,_⟩:=jU hg hK.1;obtain⟨cv,aB,aM⟩:=xzq h cV hx bV hb;exact gB aB h aM hd (aT d hd) hg hK.2 Q
   ·cases hr
  ·exact hK.elim
 case unOp u t x=>
  unfold Cq at aa;cases u;case neg=>
   obtain⟨ty,dW,aa⟩:=bc aa;split at aa
   ·rename_i k;obtain⟨d,hd,aa⟩:=bc aa;obtain⟨x',hx,aa⟩:=bc aa;cases aa;have j6:ev st (.c (.d (.int k 0)))=.d (.int k 0):=rfl;simp only[bF,eW,j6]at hK;split at hK
    ·rename_i v ob gs hr;split at hr
     ·rename_i r QP;cases hr;obtain⟨bV,cZ⟩:=jU hg hK.1;simp only[Bool.and_eq_true]at bV;obtain⟨cv,aB,aM⟩:=xzr h cV hx bV.2 QP cZ;exact gB aB h aM hd (aT d hd) hg hK.2 Q
     ·cases hr
    ·exact hK.elim
   ·cases aa
  case not=>
   obtain⟨d,hd,aa⟩:=bc aa;obtain⟨x',hx,aa⟩:=bc aa;cases aa;simp only[bF,eW]at hK;split at hK
   ·rename_i v ob gs hr;split at hr
    ·rename_i b hb;cases hr;obtain⟨bV,_⟩:=jU hg hK.1;obtain⟨cv,aB,aM⟩:=xzs h cV hx bV hb;exact gB aB h aM hd (aT d hd) hg hK.2 Q
    ·cases hr
   ·exact hK.elim
  all_goals cases aa
 case build t parts=>
  obtain⟨ty,dW,aa⟩:=bc aa;split at aa
  ·rename_i zs fs;obtain⟨d,hd,aa⟩:=bc aa;obtain⟨xs,ef,aa⟩:=bc aa;cases aa;simp only[bF,eW]at hK;split at hK
   ·rename_i v ob gs hr;split at hr
    ·rename_i cs dU;cases hr;obtain⟨bV,_⟩:=jU hg hK.1;obtain⟨cv,aB,aM⟩:=yVB h (hT _ _ dW) cV ef bV dU;exact gB aB h aM hd (aT d hd) hg hK.2 Q
    ·cases hr
   ·exact hK.elim
  ·rename_i n esz lF zs;obtain⟨d,hd,aa⟩:=bc aa;obtain⟨xs,ef,aa⟩:=bc aa;cases aa;simp only[bF,eW]at hK;split at hK
   ·rename_i v ob gs hr;split at hr
    ·rename_i cs dU;cases hr;obtain⟨bV,_⟩:=jU hg hK.1;obtain⟨cv,aB,aM⟩:=yWe h (hT _ _ dW) cV ef bV dU;exact gB aB h aM hd (aT d hd) hg hK.2 Q
    ·cases hr
   ·exact hK.elim
  ·cases aa
 case field t x i=>
  obtain⟨ty,dW,aa⟩:=bc aa;split at aa
  ·rename_i zs fs;obtain⟨fd,EV,aa⟩:=bc aa;obtain⟨d,hd,aa⟩:=bc aa;obtain⟨x',hx,aa⟩:=bc aa;cases aa;simp only[bF,eW]at hK;split at hK
   ·rename_i v ob gs hr;split at hr
    ·rename_i cs hs;cases hr;obtain⟨bV,cZ⟩:=jU hg hK.1;obtain⟨cv,aB,aM⟩:=xzj h (hT _ _ dW) cV hx EV bV hs cZ;exact gB aB h aM hd (aT d hd) hg hK.2 Q
    ·cases hr
   ·exact hK.elim
  ·cases aa
 case buildSlice t n parts=>
  obtain⟨ty,dW,aa⟩:=bc aa;split at aa
  ·rename_i esz eb zs;split at aa
   ·rename_i pG;split at aa
    ·rename_i xap;obtain⟨d,hd,aa⟩:=bc aa;obtain⟨xs,ef,aa⟩:=bc aa;cases aa;simp only[bF,eW]at hK;split at hK
     ·rename_i v ob gs hr;split at hr
      ·rename_i es fW;cases hr;obtain⟨bV,_⟩:=jU hg hK.1;obtain⟨cv,w',S',aB,b9,aM⟩:=yQB h (hT _ _ dW) cV pG.1 ef bV fW pG.2 (ds:=c.ds);exact gB aB b9 aM hd (aT d hd) hg hK.2 Q
      ·cases hr
     ·exact hK.elim
    split at aa
    ·obtain⟨d,hd,aa⟩:=bc aa;obtain⟨xs,ef,aa⟩:=bc aa;cases aa;simp only[bF]at hK;split at hK
     ·rename_i es fW;obtain⟨⟨rfl,g1,g2,g3⟩,hK⟩:=hK;obtain⟨cv,w',bu,aB,hs,aM⟩:=yQA h (hT _ _ dW) cV pG.1 ef g1 fW pG.2 g2 (aT d hd).1 g3 (ds:=c.ds);exact gB aB hs aM hd (aT d hd) (.inl rfl) hK Q
     ·exact hK.elim
    obtain⟨d,hd,aa⟩:=bc aa;obtain⟨xs,ef,aa⟩:=bc aa;cases aa;simp only[bF,eW]at hK;split at hK
    ·rename_i v ob gs hr;split at hr
     ·rename_i es fW;cases hr;obtain⟨bV,_⟩:=jU hg hK.1;obtain⟨cv,w',S',aB,b9,aM⟩:=Ya h (hT _ _ dW) cV pG.1 ef bV fW pG.2;exact gB aB b9 aM hd (aT d hd) hg hK.2 Q
     ·cases hr
    ·exact hK.elim
   ·cases aa
  ·cases aa
 case fieldAddr t x i=>
  obtain⟨ty,dW,aa⟩:=bc aa;split at aa
  ·rename_i zs fs;obtain⟨fd,EV,aa⟩:=bc aa;obtain⟨d,hd,aa⟩:=bc aa;obtain⟨x',hx,aa⟩:=bc aa;cases aa;simp only[bF]at hK;split at hK
   ·rename_i v ob gs hr;obtain⟨bV,cZ⟩:=jU hg hK.1;have rB:gd st x'=true:=by simp only[eW]at hr;split at hr<;>first|(cases hr;done)|(cases hr;exact bV)
    have iD:eW c.G st (.fa 0 fd.1 x')=some (v,ob,gs):=by rw[←hG,←hr];simp only[eW]
    obtain⟨cv,aB,aM⟩:=JN h (hT _ _ dW) cV hx EV rB iD cZ;exact gB aB h aM hd (aT d hd) hg hK.2 Q
   ·exact hK.elim
  ·cases aa
 case load t x=>
  obtain⟨ty,dW,aa⟩:=bc aa;obtain⟨d,hd,aa⟩:=bc aa;obtain⟨x',hx,aa⟩:=bc aa;cases aa;simp only[bF]at hK;split at hK
  ·rename_i v ob gs hr;obtain⟨bV,cZ⟩:=jU hg hK.1;have rB:gd st x'=true:=by
    simp only[eW]at hr
    repeat' split at hr
    all_goals first|(cases hr;done)|(cases hr;exact bV)
   have iD:eW c.G st (.ld 0 (gv ty) (dd ty) x')=some (v,ob,gs):=by rw[←hG,←hr];simp only[eW]
   obtain⟨cv,aB,aM⟩:=JQ h (hT _ _ dW) cV hx rB iD cZ;exact gB aB h aM hd (aT d hd) hg hK.2 Q
  ·exact hK.elim
 case indexAddr t x y=>
  obtain⟨ty,dW,aa⟩:=bc aa;split at aa
  ·rename_i esz eb zs;obtain⟨d,hd,aa⟩:=bc aa;obtain⟨x',hx,aa⟩:=bc aa;obtain⟨y',hy,aa⟩:=bc aa;cases aa;simp only[bF,eW]at hK;split at hK
   ·rename_i v ob gs hr;split at hr
    ·rename_i r iD;cases hr;obtain⟨bV,cZ⟩:=jU hg hK.1;simp only[Bool.and_eq_true]at bV;unfold Fm at iD;split at iD
     ·rename_i s e off m cap k n he hn;cases iD;obtain⟨E8,rfl⟩:=cZ;obtain⟨cv,aB,aM⟩:=yQD h (hT _ _ dW) cV hx hy bV.1 bV.2 he hn E8;exact gB aB h aM hd (aT d hd) hg hK.2 Q
     ·rename_i tk sz es k n he hn;cases iD;obtain⟨E8,rfl⟩:=cZ;obtain⟨cv,aB,aM⟩:=yQC h (hT _ _ dW) cV hx hy bV.1 bV.2 he hn E8;exact gB aB h aM hd (aT d hd) hg hK.2 Q
     ·split at iD
      ·rename_i k n hn _ _ _ es fW;cases iD;obtain⟨cv,aB,aM⟩:=xzk h (hT _ _ dW) cV hx hy bV.1 bV.2 fW hn cZ;exact gB aB h aM hd (aT d hd) hg hK.2 Q
      ·cases iD
     ·cases iD
    ·cases hr
   ·exact hK.elim
  ·rename_i n esz lF zs;split at aa
   ·obtain⟨d,hd,aa⟩:=bc aa;obtain⟨x',hx,aa⟩:=bc aa;obtain⟨kk,k,he,hk,rfl⟩:=Tf aa;cases he;simp only[bF]at hK;split at hK
    ·rename_i v ob gs hr;obtain⟨bV,cZ⟩:=jU hg hK.1;have rB:gd st x'=true:=by simp only[eW]at hr;split at hr<;>first|(cases hr;done)|(cases hr;exact bV)
     have iD:eW c.G st (.fa 0 (k.toNat*esz) x')=some (v,ob,gs):=by rw[←hG,←hr];simp only[eW]
     obtain⟨cv,aB,aM⟩:=JO h (hT _ _ dW) cV hx hk rB iD cZ;exact gB aB h aM hd (aT d hd) hg hK.2 Q
    ·exact hK.elim
   ·obtain⟨d,hd,aa⟩:=bc aa;obtain⟨x',hx,aa⟩:=bc aa;obtain⟨y',hy,aa⟩:=bc aa;cases aa;simp only[bF,eW]at hK;split at hK
    ·rename_i v ob gs hr;split at hr
     ·rename_i s off kk k hv hn;cases hr;obtain⟨bV,cZ⟩:=jU hg hK.1;rw[Bool.and_eq_true]at bV;obtain⟨cv,aB,aM⟩:=JP h (hT _ _ dW) cV hx hy bV.1 bV.2 hv hn cZ;exact gB aB h aM hd (aT d hd) hg hK.2 Q
     ·cases hr
    ·exact hK.elim
  ·cases aa
 case index t x y=>
  obtain⟨ty,dW,aa⟩:=bc aa;split at aa
  ·obtain⟨d,hd,aa⟩:=bc aa;obtain⟨x',hx,aa⟩:=bc aa;obtain⟨y',hy,aa⟩:=bc aa;cases aa;simp only[bF,eW]at hK;split at hK
   ·rename_i v ob gs hr;split at hr
    ·rename_i s k n hs hn;cases hr;obtain⟨bV,cZ⟩:=jU hg hK.1;simp only[Bool.and_eq_true]at bV;obtain⟨cv,aB,aM⟩:=yQJ h (hT _ _ dW) cV hx hy bV.1 bV.2 hs hn cZ;exact gB aB h aM hd (aT d hd) hg hK.2 Q
    ·cases hr
   ·exact hK.elim
  ·rename_i m zs;obtain⟨d,hd,aa⟩:=bc aa;obtain⟨x',hx,aa⟩:=bc aa;obtain⟨y',hy,aa⟩:=bc aa;cases aa;simp only[bF,eW]at hK;split at hK
   ·rename_i v ob gs hr;split at hr
    ·rename_i s k n hs hn;cases hr;obtain⟨bV,cZ⟩:=jU hg hK.1;simp only[Bool.and_eq_true]at bV;obtain⟨cv,aB,aM⟩:=yQw h (hT _ _ dW) cV hx hy bV.1 bV.2 hs hn cZ;exact gB aB h aM hd (aT d hd) hg hK.2 Q
    ·cases hr
   ·exact hK.elim
  ·cases aa
 case slice t x lo hi mx=>
  cases mx with
  |some mx=>
   cases hi with
   |none=>cases aa
   |some hi=>
   obtain⟨ty,dW,aa⟩:=bc aa;split at aa
   ·rename_i esz eb zs;have fin:∀(y':X) (z' m':X) (hy:(∃y0,lo=some y0∧bQ y0=some y')∨(lo=none∧y'=.c (.d (.int .i64 0)))) (hx:∃x',bQ x=some x'∧i=.lmax (o.dst.getD 0) esz x' y' z' m') (hz:bQ hi=some z') (hm:bQ mx=some m') (d:Nat) (hd:o.dst=some d),o.wp c.P ⟨tmps,c.ds⟩ w (jW c K) Q:=by
     rintro y' z' m' hy ⟨x',hx,rfl⟩ hz hm d hd
     rw[hd]at hK;simp only[Option.getD_some,bF,eW]at hK;split at hK
     ·rename_i v ob gs hr;split at hr
      ·rename_i r iD;cases hr;obtain⟨bV,cZ⟩:=jU hg hK.1;simp only[Bool.and_eq_true]at bV;obtain⟨g1,g2,g3,g4⟩:=bV;have key:∀{kl kh km:IntKind} {l hh m:Int},ev st y'=.d (.int kl l)→ev st z'=.d (.int kh hh)→ev st m'=.d (.int km m)→0≤l→l≤hh→hh≤m→∀(nn cc:Nat),m≤cc→
         (Instr.sliceBounds true nn cc (lo.map (Act.eval ⟨tmps,c.ds⟩)) ((some hi).map (Act.eval ⟨tmps,c.ds⟩)) ((some mx).map (Act.eval ⟨tmps,c.ds⟩))).run c.P w=.ok (l.toNat,hh.toNat,m.toNat) w:=by
        intro kl kh km l hh m e1 e2 e3 h0 h1 h2 nn cc h3;have f2:=h.ev hz g3 (ds:=c.ds);rw[e2]at f2;have f2:Act.eval ⟨tmps,c.ds⟩ hi=.int kh hh:=f2;have f3:=h.ev hm g4 (ds:=c.ds);rw[e3]at f3;have f3:Act.eval ⟨tmps,c.ds⟩ mx=.int km m:=f3;simp only[Option.map_some,f2,f3];refine yZ7 (kl:=kl) _ ?_ h0 h1 h2 h3;rcases hy with⟨y0,rfl,hy⟩|⟨rfl,rfl⟩
        ·have f1:=h.ev hy g2 (ds:=c.ds);rw[e1]at f1;have f1:Act.eval ⟨tmps,c.ds⟩ y0=.int kl l:=f1;left;simp only[Option.map_some,f1]
        ·simp only[ev,tR,AV.strip,AV.d.injEq,D.int.injEq]at e1;right;exact⟨rfl,e1.2.symm⟩
       unfold zZ at iD;split at iD
       ·rename_i s e off n cap kl l kh hh km m he hl E0 xJ;cases iD;obtain⟨⟨h0,h1,h2,h3⟩,rfl⟩:=cZ;have ik:n≤cap:=by have f:=h.ev hx g1 (ds:=c.ds);rw[he]at f;exact f.1
        obtain⟨cv,aB,aM⟩:=Nv (ds:=c.ds) h (hT _ _ dW) cV hx g1 he (l:=l.toNat) (hh:=hh.toNat) (m:=m.toNat) (by omega) (by omega) (by omega) (fun nn cc e1 e2=>key hl E0 xJ h0 h1 h2 nn cc (by omega));exact gB aB h aM hd (aT d hd) hg hK.2 Q
       ·split at iD
        ·rename_i kl l kh hh km m hl E0 xJ _ _ es fW;cases iD;obtain⟨⟨h0,h1,h2,h3⟩,hlen⟩:=cZ;obtain⟨cv,aB,aM⟩:=yQE (ds:=c.ds) h (hT _ _ dW) cV hx g1 fW hlen (l:=l.toNat) (hh:=hh.toNat) (m:=m.toNat) (by omega) (by omega) (by omega) (fun nn cc e1 e2=>key hl E0 xJ h0 h1 h2 nn cc (by omega));exact gB aB h aM hd (aT d hd) hg hK.2 Q
        ·cases iD
       ·cases iD
      ·cases hr
     ·exact hK.elim
    cases lo with
    |none=>obtain⟨d,hd,aa⟩:=bc aa;obtain⟨x',hx,aa⟩:=bc aa;obtain⟨z',hz,aa⟩:=bc aa;obtain⟨m',hm,aa⟩:=bc aa;cases aa;exact fin _ z' m' (.inr ⟨rfl,rfl⟩) ⟨x',hx,by rw[hd];rfl⟩ hz hm d hd
    |some y=>obtain⟨d,hd,aa⟩:=bc aa;obtain⟨x',hx,aa⟩:=bc aa;obtain⟨y',hy,aa⟩:=bc aa;obtain⟨z',hz,aa⟩:=bc aa;obtain⟨m',hm,aa⟩:=bc aa;cases aa;exact fin y' z' m' (.inl ⟨y,rfl,hy⟩) ⟨x',hx,by rw[hd];rfl⟩ hz hm d hd
   ·cases aa
  |none=>
  obtain⟨ty,dW,aa⟩:=bc aa;split at aa
  ·cases lo with
   |none=>
    cases hi with
    |none=>cases aa
    |some z=>
     obtain⟨d,hd,aa⟩:=bc aa;obtain⟨x',hx,aa⟩:=bc aa;obtain⟨z',hz,aa⟩:=bc aa;cases aa;simp only[bF,eW]at hK;split at hK
     ·rename_i v ob gs hr;split at hr
      ·rename_i s k l k' m hs hl hm;cases hr;obtain⟨bV,cZ⟩:=jU hg hK.1;simp only[Bool.and_eq_true]at bV;obtain⟨cv,aB,aM⟩:=Yd h (hT _ _ dW) cV hx (.inr ⟨rfl,rfl⟩) hz bV.1 bV.2.1 bV.2.2 hs hl hm cZ;exact gB aB h aM hd (aT d hd) hg hK.2 Q
      ·cases hr
     ·exact hK.elim
   |some y=>
    cases hi with
    |none=>
     obtain⟨d,hd,aa⟩:=bc aa;obtain⟨x',hx,aa⟩:=bc aa;obtain⟨y',hy,aa⟩:=bc aa;cases aa;simp only[bF,eW]at hK;split at hK
     ·rename_i v ob gs hr;split at hr
      ·rename_i s k n hs hn;cases hr;obtain⟨bV,cZ⟩:=jU hg hK.1;simp only[Bool.and_eq_true]at bV;obtain⟨cv,aB,aM⟩:=yVE h (hT _ _ dW) cV hx hy bV.1 bV.2 hs hn cZ;exact gB aB h aM hd (aT d hd) hg hK.2 Q
      ·cases hr
     ·exact hK.elim
    |some z=>
     obtain⟨d,hd,aa⟩:=bc aa;obtain⟨x',hx,aa⟩:=bc aa;obtain⟨y',hy,aa⟩:=bc aa;obtain⟨z',hz,aa⟩:=bc aa;cases aa;simp only[bF,eW]at hK;split at hK
     ·rename_i v ob gs hr;split at hr
      ·rename_i s k l k' m hs hl hm;cases hr;obtain⟨bV,cZ⟩:=jU hg hK.1;simp only[Bool.and_eq_true]at bV;obtain⟨cv,aB,aM⟩:=Yd h (hT _ _ dW) cV hx (.inl ⟨y,rfl,hy⟩) hz bV.1 bV.2.1 bV.2.2 hs hl hm cZ;exact gB aB h aM hd (aT d hd) hg hK.2 Q
      ·cases hr
     ·exact hK.elim
  ·cases lo with
   |none=>
    cases hi with
    |none=>cases aa
    |some z=>
     obtain⟨d,hd,aa⟩:=bc aa;obtain⟨x',hx,aa⟩:=bc aa;obtain⟨z',hz,aa⟩:=bc aa;cases aa;simp only[bF,eW]at hK;split at hK
     ·rename_i v ob gs hr;split at hr
      ·rename_i r iD;cases hr;obtain⟨bV,cZ⟩:=jU hg hK.1;simp only[Bool.and_eq_true]at bV;unfold Ck at iD;split at iD
       ·rename_i sb e off n cap k l k' m he hl hm;cases iD;obtain⟨⟨h0,h1,h2⟩,rfl⟩:=cZ;have ik:n≤cap:=by have f:=h.ev hx bV.1 (ds:=c.ds);rw[he]at f;exact f.1
        have f2:=h.ev hz bV.2.2 (ds:=c.ds);rw[hm]at f2;have f2:Act.eval ⟨tmps,c.ds⟩ z=.int k' m:=f2;obtain⟨cv,aB,aM⟩:=Nv (ds:=c.ds) h (hT _ _ dW) cV hx bV.1 he (l:=l.toNat) (hh:=m.toNat) (m:=cap) (by omega) (by omega) (by omega) (fun nn cc e1 e2=>by subst e2;simp only[Option.map_some,f2];refine yzB (kl:=k) _ ?_ h0 h1 (by omega);simp only[ev,tR,AV.strip,AV.d.injEq,D.int.injEq]at hl;right;exact⟨rfl,hl.2.symm⟩);exact gB aB h aM hd (aT d hd) hg hK.2 Q
       ·split at iD
        ·rename_i k l k' m hl hm _ _ s hs;cases iD;obtain⟨cv,aB,aM⟩:=Yc h (hT _ _ dW) cV hx (.inr ⟨rfl,rfl⟩) hz bV.1 bV.2.1 bV.2.2 hs hl hm cZ;exact gB aB h aM hd (aT d hd) hg hK.2 Q
        ·cases iD
       ·cases iD
      ·cases hr
     ·exact hK.elim
   |some y=>
    cases hi with
    |none=>
     obtain⟨d,hd,aa⟩:=bc aa;obtain⟨x',hx,aa⟩:=bc aa;obtain⟨y',hy,aa⟩:=bc aa;cases aa;simp only[bF,eW]at hK;split at hK
     ·rename_i v ob gs hr;split at hr
      ·rename_i r iD;cases hr;obtain⟨bV,cZ⟩:=jU hg hK.1;simp only[Bool.and_eq_true]at bV;unfold wj at iD;split at iD
       ·rename_i sb e off n cap k l he hl;cases iD;obtain⟨⟨h0,h1⟩,rfl⟩:=cZ;have ik:n≤cap:=by have f:=h.ev hx bV.1 (ds:=c.ds);rw[he]at f;exact f.1
        have f2:=h.ev hy bV.2 (ds:=c.ds);rw[hl]at f2;have f2:Act.eval ⟨tmps,c.ds⟩ y=.int k l:=f2;obtain⟨cv,aB,aM⟩:=Nv (ds:=c.ds) h (hT _ _ dW) cV hx bV.1 he (l:=l.toNat) (hh:=n) (m:=cap) (by omega) (by omega) (by omega) (fun nn cc e1 e2=>by subst e1 e2;simp only[Option.map_some,Option.map_none,f2];exact yjD h0 h1);exact gB aB h aM hd (aT d hd) hg hK.2 Q
       ·split at iD
        ·rename_i k n hn _ _ s hs;cases iD;obtain⟨cv,aB,aM⟩:=yVD h (hT _ _ dW) cV hx hy bV.1 bV.2 hs hn cZ;exact gB aB h aM hd (aT d hd) hg hK.2 Q
        ·cases iD
       ·cases iD
      ·cases hr
     ·exact hK.elim
    |some z=>
     obtain⟨d,hd,aa⟩:=bc aa;obtain⟨x',hx,aa⟩:=bc aa;obtain⟨y',hy,aa⟩:=bc aa;obtain⟨z',hz,aa⟩:=bc aa;cases aa;simp only[bF,eW]at hK;split at hK
     ·rename_i v ob gs hr;split at hr
      ·rename_i r iD;cases hr;obtain⟨bV,cZ⟩:=jU hg hK.1;simp only[Bool.and_eq_true]at bV;unfold Ck at iD;split at iD
       ·rename_i sb e off n cap k l k' m he hl hm;cases iD;obtain⟨⟨h0,h1,h2⟩,rfl⟩:=cZ;have ik:n≤cap:=by have f:=h.ev hx bV.1 (ds:=c.ds);rw[he]at f;exact f.1
        have f2:=h.ev hz bV.2.2 (ds:=c.ds);rw[hm]at f2;have f2:Act.eval ⟨tmps,c.ds⟩ z=.int k' m:=f2;obtain⟨cv,aB,aM⟩:=Nv (ds:=c.ds) h (hT _ _ dW) cV hx bV.1 he (l:=l.toNat) (hh:=m.toNat) (m:=cap) (by omega) (by omega) (by omega) (fun nn cc e1 e2=>by subst e2;simp only[Option.map_some,f2];refine yzB (kl:=k) _ ?_ h0 h1 (by omega);have f1:=h.ev hy bV.2.1 (ds:=c.ds);rw[hl]at f1;have f1:Act.eval ⟨tmps,c.ds⟩ y=.int k l:=f1;left;simp only[f1]);exact gB aB h aM hd (aT d hd) hg hK.2 Q
       ·split at iD
        ·rename_i k l k' m hl hm _ _ s hs;cases iD;obtain⟨cv,aB,aM⟩:=Yc h (hT _ _ dW) cV hx (.inl ⟨y,rfl,hy⟩) hz bV.1 bV.2.1 bV.2.2 hs hl hm cZ;exact gB aB h aM hd (aT d hd) hg hK.2 Q
        ·cases iD
       ·cases iD
      ·cases hr
     ·exact hK.elim
  ·cases aa
 case convert t' t x=>
  obtain⟨sty,Q1,aa⟩:=bc aa;have Jp:(c.P.underlying t').isSome=true:=by obtain⟨_,_,_,_,_,_,hu,_⟩:=FP (hT _ _ Q1);exact hu
  obtain⟨ty,dW,aa⟩:=bc aa;split at aa
  ·rename_i k;obtain⟨d,hd,aa⟩:=bc aa;obtain⟨x',hx,aa⟩:=bc aa;cases aa;simp only[bF,eW]at hK;split at hK
   ·rename_i v ob gs hr;split at hr
    ·rename_i q n hn;cases hr;obtain⟨bV,_⟩:=jU hg hK.1;obtain⟨cv,aB,aM⟩:=xzh h (hT _ _ dW) cV hx bV Jp hn;exact gB aB h aM hd (aT d hd) hg hK.2 Q
    ·cases hr
   ·exact hK.elim
  ·obtain⟨d,hd,aa⟩:=bc aa;obtain⟨x',hx,aa⟩:=bc aa;cases aa;simp only[bF,eW]at hK;split at hK
   ·rename_i v ob gs hr;split at hr
    ·rename_i s hn;cases hr;obtain⟨bV,_⟩:=jU hg hK.1;obtain⟨cv,aB,aM⟩:=xzg h (hT _ _ dW) cV hx bV Jp hn;exact gB aB h aM hd (aT d hd) hg hK.2 Q
    ·cases hr
   ·exact hK.elim
  ·cases aa
 case makeSlice t x y=>
  obtain⟨ty,dW,aa⟩:=bc aa;split at aa
  ·rename_i esz eb zs;split at aa
   ·rename_i lz;obtain⟨d,hd,aa⟩:=bc aa;obtain⟨x',hx,aa⟩:=bc aa;cases aa;simp only[bF]at hK;split at hK
    ·rename_i k n hn;obtain⟨⟨rfl,g1,g2,rfl,g4,g5,g6,g7⟩,hK⟩:=hK;obtain⟨cv,w',bu,aB,hs,aM⟩:=xzp h (hT _ _ dW) (ds:=c.ds) cV lz hx g1 hn g2 (aT d hd).1 g4 g5 g6 g7;exact gB aB hs aM hd (aT d hd) (.inl rfl) hK Q
    ·exact hK.elim
   ·cases aa
  ·cases aa
 case extract x i=>
  obtain⟨d,hd,aa⟩:=bc aa;obtain⟨x',hx,aa⟩:=bc aa;cases aa;simp only[bF,eW]at hK;split at hK
  ·rename_i v ob gs hr;split at hr
   ·rename_i vs Jv;cases hr;obtain⟨bV,cZ⟩:=jU hg hK.1;obtain⟨cv,aB,aM⟩:=xzi h cV hx bV Jv cZ;exact gB aB h aM hd (aT d hd) hg hK.2 Q
   ·cases hr
  ·exact hK.elim
 case makeFunc fn first caps=>
  split at aa
  ·rename_i f;split at aa
   ·rename_i EX;obtain⟨d,hd,aa⟩:=bc aa;obtain⟨xs,ef,aa⟩:=bc aa;cases aa;simp only[bF,eW]at hK;obtain⟨bV,_⟩:=jU hg hK.1;have hf:first=#[]:=by simpa using EX
    subst hf;obtain⟨cv,aB,aM⟩:=xzn h cV ef bV;exact gB aB h aM hd (aT d hd) hg hK.2 Q
   ·cases aa
  ·cases aa
 case alloc t=>
  obtain⟨d,hd,aa⟩:=bc aa;obtain⟨ty,dW,aa⟩:=bc aa;cases aa;simp only[bF]at hK;obtain⟨⟨rfl,hm⟩,hK⟩:=hK;obtain⟨ti,z,hi,hz,_,_,_,JA⟩:=FP (hT _ _ dW);obtain⟨bu,hle,hb,hs⟩:=h.pv hm (aT d hd).1 (G6 w S ρ JA) t;have aB:(execOp (Act.eval ⟨tmps,c.ds⟩) o).run c.P w=.ok (.value (.pointer (some ⟨w.heap.size,0,none⟩))) (w.alloc (.cells z.cells t)):=by unfold execOp;simp[cV,Instr.alloc,Ki hi hz,newVar,newRow]
  exact gB (v:=.ptr d 0) aB hs ⟨_,hb,rfl⟩ hd (aT d hd) (.inl rfl) hK Q
 case box t x=>
  obtain⟨d,hd,aa⟩:=bc aa;obtain⟨x',hx,aa⟩:=bc aa;cases aa;simp only[bF]at hK;obtain⟨⟨rfl,u9,v7,hm⟩,hK⟩:=hK;have aM:=Oa (h.ev (ds:=c.ds) hx u9) v7;obtain⟨bu,hle,hb,hs⟩:=h.pv hm (aT d hd).1 aM t;have aB:(execOp (Act.eval ⟨tmps,c.ds⟩) o).run c.P w=.ok (.value (.pointer (some ⟨w.heap.size,0,none⟩))) (w.alloc (.cells (Act.eval ⟨tmps,c.ds⟩ x).cells t)):=by unfold execOp;simp[cV,Instr.box,newVar,newRow]
  exact gB (v:=.ptr d 0) aB hs ⟨_,hb,rfl⟩ hd (aT d hd) (.inl rfl) hK Q
 case store t x y=>
  split at aa
  ·rename_i tU;obtain⟨ty,dW,aa⟩:=bc aa;obtain⟨x',hx,aa⟩:=bc aa;obtain⟨y',hy,aa⟩:=bc aa;cases aa;simp only[bF]at hK;split at hK
   ·rename_i s off hp;split at hK
    ·rename_i cs dU;obtain⟨⟨rfl,g1,g2,g3,g4,g5,g6⟩,hK⟩:=hK;obtain⟨w',aB,hs⟩:=JS h (hT _ _ dW) cV hx hy hp dU g1 g2 g3 g4 g5 g6;unfold Oper.wp;rw[aB];simp only[Oper.upon_skip,Act.put,tU];exact⟨rfl,_,_,_,hs,hK⟩
    ·exact hK.elim
   ·rename_i tk sz hp;split at hK
    ·rename_i xs ef;obtain⟨⟨rfl,g1,g2,g3,g4,g5,g6⟩,hK⟩:=hK;obtain⟨w',S',bu,aB,hs⟩:=xzu h (hT _ _ dW) cV hx hy hp g1 g2 g3 ef g4 g5 g6 (ds:=c.ds);unfold Oper.wp;rw[aB];simp only[Oper.upon_skip,Act.put,tU];exact⟨rfl,_,_,_,hs,hK⟩
    ·exact hK.elim
   ·exact hK.elim
  ·cases aa
 case makeMap t rs=>
  cases rs with
  |some _=>cases aa
  |none=>
  obtain⟨ty,dW,aa⟩:=bc aa;split at aa
  ·rename_i k e kz ez;obtain⟨d,hd,aa⟩:=bc aa;cases aa;simp only[bF]at hK;obtain⟨⟨rfl,hm⟩,hK⟩:=hK;obtain⟨bu,aB,hb,hs⟩:=xzo (ds:=c.ds) (k:=k) (e:=e) h cV hm (aT _ hd).1;exact gB (v:=.mref d) aB hs ⟨_,hb,rfl⟩ hd (aT d hd) (.inl rfl) hK Q
  ·cases aa
 case mapUpdate t x y z=>
  split at aa
  ·rename_i tU;obtain⟨ty,dW,aa⟩:=bc aa;split at aa
   ·obtain⟨x',hx,aa⟩:=bc aa;obtain⟨y',hy,aa⟩:=bc aa;obtain⟨z',hz,aa⟩:=bc aa;cases aa;simp only[bF]at hK;split at hK
    ·rename_i s kd vd ex ey PG;split at hK
     ·rename_i k' e' cA hm;obtain⟨⟨rfl,g1,g2,g3,rfl,rfl,g6,g7,g9⟩,hK⟩:=hK;obtain⟨w',aB,hs⟩:=yQH h (hT _ _ dW) cV hx hy hz ex ey PG hm g1 g2 g3 g6 g7 g9;unfold Oper.wp;rw[aB];simp only[Oper.upon_skip,Act.put,tU];exact⟨rfl,_,_,_,hs,hK⟩
     ·exact hK.elim
    ·exact hK.elim
   ·cases aa
  ·cases aa
 case lookup t x y ok=>
  obtain⟨ty,dW,aa⟩:=bc aa;split at aa
  ·rename_i k e kz ez;obtain⟨d,hd,aa⟩:=bc aa;obtain⟨x',hx,aa⟩:=bc aa;obtain⟨y',hy,aa⟩:=bc aa;cases aa;simp only[bF]at hK;split at hK
   ·rename_i v ob gs hr;obtain⟨bV,cZ⟩:=jU hg hK.1;obtain⟨cv,aB,aM⟩:=yQG h (hT _ _ dW) cV hx hy (r:=(v,ob,gs)) (by rw[hG]at hr;simpa only[eW]using hr) cZ bV;exact gB aB h aM hd (aT d hd) hg hK.2 Q
   ·exact hK.elim
  ·cases aa
 case call cl=>
  obtain⟨callee,args,argTypes⟩:=cl;cases callee<;>simp only[tz,Option.bind_eq_bind,Option.pure_def,reduceCtorEq]at aa;case value f=>
   split at aa
   ·obtain⟨f',hf,aa⟩:=bc aa;obtain⟨xs,ef,aa⟩:=bc aa;cases aa;simp only[bF]at hK;split at hK
    ·rename_i rQ caps wP;obtain⟨x,hb,hK⟩:=hK;have jx:=hb.2.1;simp only[Bool.and_eq_true]at jx;have e1:=h.ev (ds:=c.ds) hf jx.1;rw[wP]at e1;obtain⟨cs,hv,fM⟩:=e1;exact NU hC h cV ef aT hv (aS.r9 fM) (fun _=>jx.2) hb hK Q
    ·rename_i rQ caps wP;obtain⟨x,hb,hK⟩:=hK;have jx:=hb.2.1;simp only[Bool.and_eq_true]at jx;have e1:=h.ev (ds:=c.ds) hf jx.1;rw[wP]at e1;obtain⟨cs,hv,fM⟩:=e1;exact NU hC h cV ef aT hv fM (fun _=>jx.2) hb hK Q
    ·exact hK.elim
   obtain⟨f',hf,aa⟩:=bc aa;obtain⟨xs,ef,aa⟩:=bc aa;cases aa;simp only[bF]at hK;split at hK
   ·rename_i rQ caps wP;split at hK
    ·rename_i cvs vS;obtain⟨r,nq,hK⟩:=hK;obtain⟨zh,bV,BQ⟩:=jU hg nq;have ue:=hC _ _ _ BQ;obtain⟨fn,sX,ed,iL⟩:=ue.enters;have e1:=h.ev (ds:=c.ds) hf zh;rw[wP]at e1;obtain⟨cs,hv,fM⟩:=e1;have e2:=FT (xX (w:=w) (S:=S) (ρ:=ρ)) 1 (h.ju (ds:=c.ds) ef bV) vS;have aB:(execOp (Act.eval ⟨tmps,c.ds⟩) o).run c.P w=.ok (.enter rQ (args.map (Act.eval ⟨tmps,c.ds⟩)++cs)) w:=by
      unfold execOp;simp only[cV];have gK:¬fn.name= "runtime.NumGoroutine":=by simpa using ed
      have gJ:¬fn.body=none:=by intro e;simp[e]at iL
      simp[resolve,invoke,callFunc,Deferred.ofValue,hv,sX,gK,gJ]
     unfold Oper.wp;rw[aB,Oper.upon_enter];have bU:bA w S (cvs++caps.map .one) (args.map (Act.eval ⟨tmps,c.ds⟩)++cs).toList:=by simp only[Array.toList_append,Array.toList_map];exact bA.append e2 (aS.Aq fM)
     cases kP:r.fB with
     |true=>
      cases r<;>simp only[CV.fB,Bool.false_eq_true]at kP;case bx=>exact hK.elim
      case vc=>
       rename_i sz es;cases hd:o.dst with
       |none=>rw[hd]at hK;exact hK.elim
       |some d=>
       rw[hd]at hK;obtain⟨⟨_,rfl,tU⟩,hK0,IA⟩:=hK;refine((ue:Wd _ _ _ _ _ _).2 w S (args.map (Act.eval ⟨tmps,c.ds⟩)++cs) h.live ⟨h.b5,h.exact⟩ bU).mono ?_
       rintro e w' ⟨v,S',rfl,jj,iK,hS,uv,dy⟩
       have hs:=h.grow iK hS uv dy;simp only[Act.put,hd];rcases jj with⟨rfl,hr⟩|⟨b6,hlen,b,cap,vs,ev,rfl,g1,g2,g3,g4,g5,g6,g7⟩
       ·refine⟨rfl,_,_,_,hs.put (v:=v) (aT d hd) (a:=.d (.aw [])) hr none (fun b hb=>by cases hb),hK0 rfl⟩
       ·have MG:=aS.length g6;obtain⟨bu,hle,oe,b9⟩:=h.Ew hs g1 tU (aT d hd).1 (cs:=es.flatten.map .d++List.replicate (cap*sz-es.length*sz) .undef) g4 (by
         have e1:=af.append (ρ:=ρ) (aS.r9 g6) (af.qA (l:=vs.toList.drop (es.length*sz)) (n:=cap*sz-es.length*sz) (by simp[g5]))
         rwa [List.take_append_drop]at e1) g7
        exact⟨rfl,_,_,_,b9.put (v:=.slice (some ⟨b,0,none⟩) es.length cap) (aT d hd) (a:=.vec d sz 0 es.length cap) ⟨g2,g3,b,oe,rfl⟩ none (fun b hb=>by cases hb),IA b6 cap g2 g3⟩
      rename_i a sz es;cases hd:o.dst with
      |none=>rw[hd]at hK;exact hK.elim
      |some d=>
      rw[hd]at hK;obtain⟨⟨rfl,tU,hao⟩,hK⟩:=hK;obtain⟨X,g1,g2,g3⟩:=h.takes (cl:=cs.toList) (caps:=caps.map .one) (h.ju (ds:=c.ds) ef bV) vS hao;refine((ue:tF _ _ _ _ _ _ _).2 w S (args.map (Act.eval ⟨tmps,c.ds⟩)++cs) X h.live ⟨h.b5,h.exact⟩ bU (by simp only[Array.toList_append,Array.toList_map];exact g1)).mono ?_
      rintro e w' ⟨v,S',rfl,hv,hlen,fO,iK,fN,uv,dy⟩
      obtain⟨bu,hs,aM⟩:=g2.EG g3 iK fN uv dy hv hlen fO (d:=d) (yVh tU);simp only[Act.put,hd];exact⟨rfl,_,_,_,hs.put (aT d hd) aM none (fun b hb=>by cases hb),hK⟩
     |false=>
     have jH:=(ue.data kP).2;have hK:K (match o.dst with|some d=>st.put g d r.jM|none=>st):=by cases r<;>simp only[CV.fB,Bool.true_eq_false]at kP<;>first|exact hK|exact hK.elim
     refine(jH w S (args.map (Act.eval ⟨tmps,c.ds⟩)++cs) h.live ⟨h.b5,h.exact⟩ bU).mono ?_
     rintro e w' ⟨v,S',rfl,hr,iK,hS,uv,dy⟩
     have hs:=h.grow iK hS uv dy;simp only[Act.put];cases hd:o.dst with
     |none=>rw[hd]at hK;exact⟨rfl,_,_,_,hs,hK⟩
     |some d=>
      rw[hd]at hK;refine⟨rfl,_,_,_,hs.put (aT d hd) (iT.r8 hr) g ?_,hK⟩
      rintro b hb rfl
      rcases hg with hg|hg<;>rw[hg]at hb<;>cases hb
    ·rcases hK with hK|hK
     rotate_left
     ·exact hK.elim
     unfold qK at hK;rcases hK with hK|⟨x,hb,hK⟩|⟨B,cvs,r,⟨rfl,Dd,kP,ux,vS,BQ⟩,hK⟩
     ·split at hK
      ·rename_i cvs vS;rcases hK with hK|hK
       ·obtain⟨r,nq,hK⟩:=hK;obtain⟨Dd,Dc,BQ⟩:=jU hg nq;simp only[Bool.and_eq_true]at Dd;obtain⟨zh,bV⟩:=Dd;have ue:=hC _ _ _ BQ;obtain⟨fn,sX,ed,iL⟩:=ue.enters;obtain⟨S2,EL,_,ni,_,zM⟩:=h.close;have fN:aY w S w S2:=fun b o hs=>⟨EL b o hs,rfl⟩;have e1:=h.ev (ds:=c.ds) hf zh;rw[wP]at e1;obtain⟨cs,hv,fM⟩:=e1;have e2:=FT zM 3 (af.keep fN ρ.le_refl _ _ (h.ju (ds:=c.ds) ef bV)) vS;have aB:(execOp (Act.eval ⟨tmps,c.ds⟩) o).run c.P w=.ok (.enter rQ (args.map (Act.eval ⟨tmps,c.ds⟩)++cs)) w:=by
         unfold execOp;simp only[cV];have gK:¬fn.name= "runtime.NumGoroutine":=by simpa using ed
         have gJ:¬fn.body=none:=by intro e;simp[e]at iL
         simp[resolve,invoke,callFunc,Deferred.ofValue,hv,sX,gK,gJ]
        unfold Oper.wp;rw[aB,Oper.upon_enter];have bU:bA w S2 (cvs++caps.map .one) (args.map (Act.eval ⟨tmps,c.ds⟩)++cs).toList:=by simp only[Array.toList_append,Array.toList_map];exact bA.append e2 (aS.Aq (aS.keep fN _ _ fM))
        have kP:=yK3 Dc;have jH:=(ue.data kP).2;have hK:K (match o.dst with|some d=>st.put g d r.jM|none=>st):=by cases r<;>simp only[CV.fB,Bool.true_eq_false]at kP<;>first|exact hK|exact hK.elim
        refine(jH w S2 (args.map (Act.eval ⟨tmps,c.ds⟩)++cs) ni ⟨fun g cs hg=>aP.keep fN g 0 cs (h.b5 g cs hg),h.exact⟩ bU).mono ?_
        rintro e w' ⟨v,S',rfl,hr,iK,_,_,_⟩
        have hs:=h.grow (S':=S) iK (fun _ _ h=>h) (fun _ _ h=>.inl h) (fun b o fg=>by obtain⟨u,hu⟩:=h.live b o fg;exact⟨u,(iK.cell (p:=⟨b,o,none⟩) (qh hu)).trans hu⟩);have hr:iT w' S r v:=Zv Dc hr;simp only[Act.put];cases hd:o.dst with
        |none=>rw[hd]at hK;exact⟨rfl,_,_,_,hs,hK⟩
        |some d=>
         rw[hd]at hK;refine⟨rfl,_,_,_,hs.put (aT d hd) (iT.r8 hr) g ?_,hK⟩
         rintro b hb rfl
         rcases hg with hg|hg<;>rw[hg]at hb<;>cases hb
       ·obtain⟨r,⟨rfl,Dd,kP,BQ⟩,hK⟩:=hK;simp only[Bool.and_eq_true]at Dd;obtain⟨zh,bV⟩:=Dd;have ue:=hC _ _ _ BQ;obtain⟨fn,sX,ed,iL⟩:=ue.enters;obtain⟨S2,EL,P7,ni,_,zM⟩:=h.yN;have fN:aY w S w S2:=fun b o hs=>⟨EL b o hs,rfl⟩;have e1:=h.ev (ds:=c.ds) hf zh;rw[wP]at e1;obtain⟨cs,hv,fM⟩:=e1;have e2:=FT zM 3 (af.keep fN ρ.le_refl _ _ (h.ju (ds:=c.ds) ef bV)) vS;have aB:(execOp (Act.eval ⟨tmps,c.ds⟩) o).run c.P w=.ok (.enter rQ (args.map (Act.eval ⟨tmps,c.ds⟩)++cs)) w:=by
         unfold execOp;simp only[cV];have gK:¬fn.name= "runtime.NumGoroutine":=by simpa using ed
         have gJ:¬fn.body=none:=by intro e;simp[e]at iL
         simp[resolve,invoke,callFunc,Deferred.ofValue,hv,sX,gK,gJ]
        unfold Oper.wp;rw[aB,Oper.upon_enter];have bU:bA w S2 (cvs++caps.map .one) (args.map (Act.eval ⟨tmps,c.ds⟩)++cs).toList:=by simp only[Array.toList_append,Array.toList_map];exact bA.append e2 (aS.Aq (aS.keep fN _ _ fM))
        have jH:=(ue.data kP).2;have hK:K (match o.dst with|some d=>st.fC.put none d r.jM|none=>st.fC):=by cases r<;>simp only[CV.fB,Bool.true_eq_false]at kP<;>first|exact hK|exact hK.elim
        have h0:=h.fC EL P7 ni;refine(jH w S2 (args.map (Act.eval ⟨tmps,c.ds⟩)++cs) ni ⟨h0.b5,h.exact⟩ bU).mono ?_
        rintro e w' ⟨v,S',rfl,hr,iK,hS,uv,dy⟩
        have hs:=h0.grow iK hS uv dy;simp only[Act.put];cases hd:o.dst with
        |none=>rw[hd]at hK;exact⟨rfl,_,_,_,hs,hK⟩
        |some d=>rw[hd]at hK;exact⟨rfl,_,_,_,hs.put (aT d hd) (iT.r8 hr) none (fun b hb=>by cases hb),hK⟩
      ·exact hK.elim
     ·have jx:=hb.2.1;simp only[Bool.and_eq_true]at jx;have e1:=h.ev (ds:=c.ds) hf jx.1;rw[wP]at e1;obtain⟨cs,hv,fM⟩:=e1;exact NU hC h cV ef aT hv (aS.r9 fM) (fun _=>jx.2) hb hK Q
     ·simp only[Bool.and_eq_true]at Dd;obtain⟨zh,bV⟩:=Dd;have ue:=hC _ _ _ BQ;obtain⟨fn,sX,ed,iL⟩:=ue.enters;obtain⟨S2,EL,P7,ni,_,zM⟩:=h.wH B;have fN:aY w S w S2:=fun b o hs=>⟨EL b o hs,rfl⟩;have e1:=h.ev (ds:=c.ds) hf zh;rw[wP]at e1;obtain⟨cs,hv,fM⟩:=e1;have e2:=FT zM 3 (af.keep fN ρ.le_refl _ _ (h.ju (ds:=c.ds) ef bV)) vS;have aB:(execOp (Act.eval ⟨tmps,c.ds⟩) o).run c.P w=.ok (.enter rQ (args.map (Act.eval ⟨tmps,c.ds⟩)++cs)) w:=by
       unfold execOp;simp only[cV];have gK:¬fn.name= "runtime.NumGoroutine":=by simpa using ed
       have gJ:¬fn.body=none:=by intro e;simp[e]at iL
       simp[resolve,invoke,callFunc,Deferred.ofValue,hv,sX,gK,gJ]
      unfold Oper.wp;rw[aB,Oper.upon_enter];have bU:bA w S2 (cvs++caps.map .one) (args.map (Act.eval ⟨tmps,c.ds⟩)++cs).toList:=by simp only[Array.toList_append,Array.toList_map];exact bA.append e2 (aS.Aq (aS.keep fN _ _ fM))
      have jH:=(ue.data kP).2;have hK:K (match o.dst with|some d=>(st.ly B).put none d r.jM|none=>st.ly B):=by cases r<;>simp only[CV.fB,Bool.true_eq_false]at kP<;>first|exact hK|exact hK.elim
      have h0:=h.ly ux EL P7 ni;refine(jH w S2 (args.map (Act.eval ⟨tmps,c.ds⟩)++cs) ni ⟨h0.b5,h.exact⟩ bU).mono ?_
      rintro e w' ⟨v,S',rfl,hr,iK,hS,uv,dy⟩
      have hs:=h0.grow iK hS uv dy;simp only[Act.put];cases hd:o.dst with
      |none=>rw[hd]at hK;exact⟨rfl,_,_,_,hs,hK⟩
      |some d=>rw[hd]at hK;exact⟨rfl,_,_,_,hs.put (aT d hd) (iT.r8 hr) none (fun b hb=>by cases hb),hK⟩
   ·rename_i rQ caps wP;rcases hK with⟨s,⟨ps,xM,kC⟩,x,hb,hK⟩|hK
    ·obtain⟨gq,h1⟩:=Oe h xM;have j6:∀y,tR s y=tR st y:=fun y=>by cases y<;>simp only[tR,kC]
     have IW:∀y,ev s y=ev st y:=fun y=>by simp only[ev,j6]
     have rB:∀y,gd s y=gd st y:=fun y=>by simp only[gd,j6]
     have Qk:∀l,ju s l=ju st l:=fun l=>by
      induction l with
      |nil=>rfl
      |cons y l ih=>simp only[ju,IW,ih]
     have Qp:∀l,mG s l=mG st l:=fun l=>by
      induction l with
      |nil=>rfl
      |cons y l ih=>simp only[mG,rB,ih]
     have jx:=hb.2.1;simp only[Bool.and_eq_true]at jx;have e1:=h1.ev (ds:=c.ds) hf (by rw[rB];exact jx.1);rw[IW,wP]at e1;obtain⟨cs,hv,fM⟩:=e1;rw[←Qk]at hb;exact NU hC h1 cV ef aT hv fM (fun _=>by rw[Qp];exact jx.2) hb hK Q
    ·exact hK.elim
   ·exact hK.elim
  case builtin b=>
   by_cases x9:b=.clear
   ·subst x9;simp only at aa;unfold qy at aa;split at aa
    ·rename_i x t tys tU h1 h2;have bU:args=#[x]:=Array.toList_inj.1 (by simpa using h1);have we:argTypes=(t::tys).toArray:=Array.toList_inj.1 (by simpa using h2);subst bU we;obtain⟨ty,dW,aa⟩:=bc aa;split at aa
     ·obtain⟨x',hx,aa⟩:=bc aa;cases aa;simp only[bF]at hK;split at hK
      ·rename_i s ex;split at hK
       ·rename_i k e cA hm;obtain⟨⟨rfl,g1⟩,hK⟩:=hK;obtain⟨w',aB,hs⟩:=yQF h (hT _ _ dW) (tys:=tys) (ds:=c.ds) cV tU hx ex hm g1;unfold Oper.wp;rw[aB];simp only[Oper.upon_value,Act.put,tU];exact⟨rfl,_,_,_,hs,hK⟩
       ·exact hK.elim
      ·exact hK.elim
     ·obtain⟨x',hx,aa⟩:=bc aa;cases aa;simp only[bF]at hK;split at hK
      ·rename_i s e off n cap ex;split at hK
       ·rename_i cs hm;obtain⟨⟨rfl,g1,rfl,g3,g4,g5⟩,hK⟩:=hK;obtain⟨w',aB,hs⟩:=xze h (hT _ _ dW) (tys:=tys) (ds:=c.ds) cV tU hx g1 ex hm g3 g4 g5;unfold Oper.wp;rw[aB];simp only[Oper.upon_value,Act.put,tU];exact⟨rfl,_,_,_,hs,hK⟩
       ·exact hK.elim
      ·exact hK.elim
     ·cases aa
    ·cases aa
   by_cases C7:b=.copy
   ·subst C7;simp only at aa;unfold tA at aa;split at aa
    ·rename_i x y t t' h1 h2;have bU:args=#[x,y]:=Array.toList_inj.1 (by simpa using h1);have we:argTypes=#[t,t']:=Array.toList_inj.1 (by simpa using h2);subst bU we;obtain⟨ty,dW,aa⟩:=bc aa;split at aa
     ·rename_i esz eb zs;split at aa
      ·rename_i h1;subst h1;obtain⟨x',hx,aa⟩:=bc aa;obtain⟨y',hy,aa⟩:=bc aa;cases aa;simp only[bF]at hK;split at hK
       ·rename_i s e off n cap es ex ey;split at hK
        ·rename_i cs hm;obtain⟨⟨rfl,g1,g2,rfl,_,g5,g6⟩,hK⟩:=hK;obtain⟨w',aB,hs⟩:=xzf h (hT _ _ dW) (ds:=c.ds) cV hx hy g1 g2 ex ey hm g5 g6;unfold Oper.wp;rw[aB];simp only[Oper.upon_value,Act.put];cases hd:o.dst with
         |none=>rw[hd]at hK;exact⟨rfl,_,_,_,hs,hK⟩
         |some d=>rw[hd]at hK;exact⟨rfl,_,_,_,hs.put (aT d hd) (a:=.d (.int .i64 (Nat.min es.length n:Nat))) rfl none (fun b hb=>by cases hb),hK⟩
        ·exact hK.elim
       ·exact hK.elim
      ·cases aa
     ·cases aa
    ·cases aa
   replace aa:(o.dst>>=fun d=>iy T d b args.toList argTypes.toList)=some i:=by cases b<;>first|exact aa|exact absurd rfl x9|exact absurd rfl C7
   obtain⟨d,hd,Ju⟩:=bc aa;clear aa;have aa:=Ju;clear Ju;unfold iy at aa;split at aa
   ·rename_i x t tys h1 h2;have bU:args=#[x]:=Array.toList_inj.1 (by simpa using h1);have we:argTypes=(t::tys).toArray:=Array.toList_inj.1 (by simpa using h2);subst bU we;obtain⟨ty,dW,aa⟩:=bc aa;split at aa
    ·obtain⟨x',hx,aa⟩:=bc aa;cases aa;simp only[bF]at hK;split at hK
     ·rename_i n hn;have u9:=jU hg hK.1;obtain⟨aB,hle⟩:=ykI h (hT _ _ dW) (tys:=tys) cV hx u9 hn;refine gB (v:=.d (.int .i64 n)) aB h rfl hd (aT d hd) hg (hK.2 ?_) Q;rcases hg with rfl|rfl
      ·exact hle
      ·exact fun _=>hle
     ·exact hK.elim
    ·obtain⟨x',hx,aa⟩:=bc aa;cases aa;simp only[bF]at hK;split at hK
     ·rename_i n hn;have u9:=jU hg hK.1;obtain⟨aB,hle⟩:=yZQ h (hT _ _ dW) (tys:=tys) cV hx u9 hn;refine gB (v:=.d (.int .i64 n)) aB h rfl hd (aT d hd) hg (hK.2 ?_) Q;rcases hg with rfl|rfl
      ·exact hle
      ·exact fun _=>hle
     ·exact hK.elim
    ·cases aa
   ·rename_i x y h1;have bU:args=#[x,y]:=Array.toList_inj.1 (by simpa using h1);subst bU;obtain⟨x',hx,aa⟩:=bc aa;obtain⟨y',hy,aa⟩:=bc aa;cases aa;simp only[bF,eW]at hK;split at hK
    ·rename_i v ob gs hr;split at hr
     ·rename_i k p k' q hp hq;cases hr;obtain⟨bV,_⟩:=jU hg hK.1;simp only[Bool.and_eq_true]at bV;obtain⟨cv,aB,aM⟩:=xzl h cV hx hy bV.1 bV.2 hp hq;exact gB aB h aM hd (aT d hd) hg hK.2 Q
     ·cases hr
    ·exact hK.elim
   ·rename_i x y h1;have bU:args=#[x,y]:=Array.toList_inj.1 (by simpa using h1);subst bU;obtain⟨x',hx,aa⟩:=bc aa;obtain⟨y',hy,aa⟩:=bc aa;cases aa;simp only[bF,eW]at hK;split at hK
    ·rename_i v ob gs hr;split at hr
     ·rename_i k p k' q hp hq;cases hr;obtain⟨bV,_⟩:=jU hg hK.1;simp only[Bool.and_eq_true]at bV;obtain⟨cv,aB,aM⟩:=xzm h cV hx hy bV.1 bV.2 hp hq;exact gB aB h aM hd (aT d hd) hg hK.2 Q
     ·cases hr
    ·exact hK.elim
   ·rename_i x y t t' h1 h2;have bU:args=#[x,y]:=Array.toList_inj.1 (by simpa using h1);have we:argTypes=#[t,t']:=Array.toList_inj.1 (by simpa using h2);subst bU we;obtain⟨ty,dW,aa⟩:=bc aa;split at aa
    ·rename_i esz eb zs;split at aa
     ·rename_i htt;obtain⟨x',hx,aa⟩:=bc aa;obtain⟨y',hy,aa⟩:=bc aa;cases aa;subst htt;simp only[bF]at hK;split at hK
      ·rename_i mm sz XQ;have Ir:∀(es:List (List D)) (wy:St) (h':aN c wy tmps w S ρ) (nr:wy.ae=st.ae) (base:Option Addr) (n cap:Nat),
         1≤mm→aE wy.tk d=none→gd st y'=true→sz=esz→Act.eval ⟨tmps,c.ds⟩ x=.slice base n cap→dR w S (.aw es) (.slice base n cap)→(∀e∈es,e.length=esz)→(es.length+mm)*eb≤2^46→es.length+mm≤9223372036854775807→
         (n=cap∨∃b,base=some ⟨b,0,none⟩∧c.Own b∧(∃cur e,w.heap[b]? =some (.cells cur e (0,0))∧cur.size=cap*esz)∧
          (∀o,n*esz≤o→¬S b o)∧(∀s,ρ.box s≠some b)∧∀t' b' y,aE wy.tk t'=some true→ρ.tok t'=some (some ⟨b',0,none⟩,y)→y.1≠y.2.1→b'≠b)→
         K {(wy.put none d (.pnd mm d esz es))with tk:=(d,true)::wy.tk}→o.wp c.P ⟨tmps,c.ds⟩ w (jW c K) Q:=by
        intro es wy h' nr base n cap A5 tU Qv cU Jy aM fW Mh xE gy P0;have e2:=h.ev (ds:=c.ds) hy Qv;rw[XQ]at e2;obtain⟨ys,⟨Du,Rf⟩,b2,c2,zR,ma⟩:=e2;have wX:dR w S (.aw ys) (.slice b2 ys.length c2):=⟨b2,c2,rfl,ma⟩;obtain⟨v',w',S',bu,aB,hs,hr⟩:=yYB (ty:=o.type) h' (hT _ _ dW) tU Du A5 aM wX fW (fun e he=>(Rf e he).trans cU) (by rw[Du];exact Mh) (by rw[Du];exact xE) gy;have iN:(execOp (Act.eval ⟨tmps,c.ds⟩) o).run c.P w=.ok (.value v') w':=by unfold execOp;simp[cV,resolve,invoke,builtin,Jy,zR,aB]
        exact gB iN hs hr hd (aT d hd) (.inl rfl) P0 Q
       split at hK
       ·rename_i es fW;obtain⟨⟨rfl,g0,g1,g2,g3,g4,g5,g6,g7⟩,hK⟩:=hK;have e1:=h.ev (ds:=c.ds) hx g2;rw[fW]at e1;obtain⟨aM,base,n,hv⟩:=e1;rw[hv]at aM;exact Ir es st h rfl base n n g0 g1 g3 g4 hv aM g5 g6 g7 (.inl rfl) hK
       ·rename_i u rn es fW;obtain⟨⟨rfl,g0,g1,C3,rfl,g2,g3,g4,g6,g7⟩,hK⟩:=hK;have e1:=h.ev (ds:=c.ds) hx g2;rw[fW]at e1;obtain⟨aM,hlen,base,n,cap,lI,hv⟩:=e1;rw[hv]at aM;refine Ir es {st with tk:=fl u st.tk} (h.kill u) rfl base n cap g0 (Ow.2 g1) g3 g4 hv aM hlen g6 g7 ?_ hK;obtain⟨x,m1,m2⟩:=h.tok u C3;obtain rfl:=Option.some.inj (lI.symm.trans m1);rcases m2 with m2|⟨b,k0,k1,k2,k3,k4,k5,k6,k7⟩
        ·exact .inl m2
        ·exact .inr ⟨b,k0,k1,k2,k5,k6,fun t' b' y a1 a2 a3=>k7 t' b' y (F7 a1).2 (F7 a1).1 a2 a3⟩
       ·rename_i s ee off n cap fW;split at hK
        ·rename_i cs dU;obtain⟨⟨rfl,rfl,g2,g3,rfl,rfl,rfl,g4,g6,g7⟩,IA,BR⟩:=hK;have e1:=h.ev (ds:=c.ds) hx g2;rw[fW]at e1;obtain⟨k1,k2,b,hb,hv⟩:=e1;have e2:=h.ev (ds:=c.ds) hy g3;rw[XQ]at e2;obtain⟨ys,⟨Du,Rf⟩,b2,c2,zR,ma⟩:=e2;obtain⟨e0,rfl⟩:∃e0,ys=[e0]:=by
          match ys,Du with
          |[e0],_=>exact⟨e0,rfl⟩
         have ph:=Rf e0 (by simp);have wX:dR w S (.aw [e0]) (.slice b2 [e0].length c2):=⟨b2,c2,rfl,ma⟩;simp only[List.length_singleton,List.length_cons,List.length_nil,Nat.zero_add]at zR wX;obtain⟨q1,q2⟩:=yQy (ty:=o.type) h (hT _ _ dW) ph hb dU wX g4 k1 k2 g6 g7;by_cases fO:n+1≤cap
         ·obtain⟨w',bu,aB,hs,rfl⟩:=q1 fO;have iN:(execOp (Act.eval ⟨tmps,c.ds⟩) o).run c.P w=.ok (.value (.slice (some ⟨b,0,none⟩) (n+1) cap)) w':=by unfold execOp;simp[cV,resolve,invoke,builtin,hv,zR,aB]
          exact gB (v:=.vec s ee 0 (n+1) cap) iN hs ⟨fO,k2,b,hb,rfl⟩ hd (aT d hd) (.inl rfl) (IA fO) Q
         ·obtain⟨s',Fc,Fe,PZ⟩:=BR (by omega);obtain⟨w',bu,cu,c1,c3,b',aB,hle,oe,hs⟩:=q2 (by omega) s' Fe (Nat.lt_of_le_of_lt Fc (aT d hd).1);have iN:(execOp (Act.eval ⟨tmps,c.ds⟩) o).run c.P w=.ok (.value (.slice (some ⟨b',0,none⟩) (n+1) cu)) w':=by unfold execOp;simp[cV,resolve,invoke,builtin,hv,zR,aB]
          exact gB (v:=.vec s' ee 0 (n+1) cu) iN hs ⟨c1,c3,b',oe,rfl⟩ hd (aT d hd) (.inl rfl) (PZ cu c1 c3) Q
        ·exact hK.elim
       ·exact hK.elim
      rw[Na (by rcases hg with rfl|rfl<;>simp)]at hK;split at hK
      ·exact hK.elim
      ·rename_i ys jT;have fin:∀(es:List (List D)) (wy:St) (h':aN c wy tmps w S ρ) (nr:wy.ae=st.ae) (base:Option Addr) (n cap:Nat),
         aE wy.tk d=none→gd st y'=true→Act.eval ⟨tmps,c.ds⟩ x=.slice base n cap→dR w S (.aw es) (.slice base n cap)→(∀e∈es,e.length=esz)→(∀e∈ys,e.length=esz)→(es.length+ys.length)*eb≤2^46→es.length+ys.length≤9223372036854775807→
         (n=cap∨∃b,base=some ⟨b,0,none⟩∧c.Own b∧(∃cur e,w.heap[b]? =some (.cells cur e (0,0))∧cur.size=cap*esz)∧
          (∀o,n*esz≤o→¬S b o)∧(∀s,ρ.box s≠some b)∧∀t' b' y,aE wy.tk t'=some true→ρ.tok t'=some (some ⟨b',0,none⟩,y)→y.1≠y.2.1→b'≠b)→
         K {(wy.put none d (.own d esz (es++ys)))with tk:=(d,true)::wy.tk}→o.wp c.P ⟨tmps,c.ds⟩ w (jW c K) Q:=by
        intro es wy h' nr base n cap tU Qv Jy aM fW zQ Mh xE gy P0;obtain⟨b2,m2,c2,zR,e2⟩:=yyc h (h.ev (ds:=c.ds) hy Qv) jT;obtain⟨v',w',S',bu,aB,hs,hr⟩:=yKv (ty:=o.type) h' (hT _ _ dW) tU aM e2 fW zQ Mh xE gy;have iN:(execOp (Act.eval ⟨tmps,c.ds⟩) o).run c.P w=.ok (.value v') w':=by unfold execOp;simp[cV,resolve,invoke,builtin,Jy,zR,aB]
        exact gB iN hs hr hd (aT d hd) (.inl rfl) P0 Q
       split at hK
       ·rename_i es fW;obtain⟨⟨tV,g1,g2,g3,g4,g5,g6,g7⟩,hK⟩:=hK;have e1:=h.ev (ds:=c.ds) hx g2;rw[fW]at e1;obtain⟨aM,base,n,hv⟩:=e1;rw[hv]at aM;exact fin es st h rfl base n n g1 g3 hv aM g4 g5 g6 g7 (.inl rfl) hK
       ·rename_i u sz es fW;obtain⟨⟨tV,g1,C3,rfl,g2,g3,g5,g6,g7⟩,hK⟩:=hK;have e1:=h.ev (ds:=c.ds) hx g2;rw[fW]at e1;obtain⟨aM,hlen,base,n,cap,lI,hv⟩:=e1;rw[hv]at aM;refine fin es {st with tk:=fl u st.tk} (h.kill u) rfl base n cap (Ow.2 g1) g3 hv aM hlen g5 g6 g7 ?_ hK;obtain⟨x,m1,m2⟩:=h.tok u C3;obtain rfl:=Option.some.inj (lI.symm.trans m1);rcases m2 with m2|⟨b,k0,k1,k2,k3,k4,k5,k6,k7⟩
        ·exact .inl m2
        ·exact .inr ⟨b,k0,k1,k2,k5,k6,fun t' b' y a1 a2 a3=>k7 t' b' y (F7 a1).2 (F7 a1).1 a2 a3⟩
       ·rename_i s ee off n cap fW;split at hK
        ·rename_i cs dU;obtain⟨⟨tV,g2,g3,rfl,rfl,rfl,rfl,g4,g5,g6,g7⟩,s',⟨Fc,Fe⟩,PZ⟩:=hK;have e1:=h.ev (ds:=c.ds) hx g2;rw[fW]at e1;obtain⟨k1,k2,b,hb,hv⟩:=e1;obtain⟨b2,m2,c2,zR,e2⟩:=yyc h (h.ev (ds:=c.ds) hy g3) jT;obtain⟨w',bu,cu,c1,c3,b',aB,hle,oe,hs⟩:=yQz (ty:=o.type) h (hT _ _ dW) g5 hb dU e2 g4 g6 g7 Fe (Nat.lt_of_le_of_lt Fc (aT d hd).1);have iN:(execOp (Act.eval ⟨tmps,c.ds⟩) o).run c.P w=.ok (.value (.slice (some ⟨b',0,none⟩) ys.length cu)) w':=by unfold execOp;simp[cV,resolve,invoke,builtin,hv,zR,aB]
         exact gB (v:=.vec s' ee 0 ys.length cu) iN hs ⟨c1,c3,b',oe,rfl⟩ hd (aT d hd) (.inl rfl) (PZ cu c1 c3) Q
        ·exact hK.elim
       ·exact hK.elim
     ·cases aa
    ·cases aa
   ·cases aa
end Go.Abs
end
section
namespace Go.Abs
open Go.RowKit
variable{c:Ctx}{st:St}{tmps:Array Value}{w:World}{S:Safe}{ρ:bW}{E:ax}{T:Nat→Option Ty}
def uf(dst:Option Nat):I→Prop
 |.call d _ _=>dst=d
 |.callB d _ _=>dst=d
 |.st _ _ _=>dst=none
 |.mput _ _ _ _ _ _=>dst=none
 |.mclr _=>dst=none
 |.clr _ _ _=>dst=none
 |.cpy d _ _ _=>dst=d
 |i=>dst=some (j5 i)
theorem Ns{dst op i}(aa:nE T dst op=some i):uf dst i:=by
 cases op<;>simp only[nE,Option.bind_eq_bind,Option.pure_def,reduceCtorEq]at aa;case call cl=>
  obtain⟨callee,args,argTypes⟩:=cl;cases callee<;>simp only[tz,Option.bind_eq_bind,Option.pure_def,reduceCtorEq]at aa;case value f=>
   split at aa
   ·obtain⟨f',hf,aa⟩:=bc aa;obtain⟨xs,ef,aa⟩:=bc aa;cases aa;rfl
   obtain⟨f',hf,aa⟩:=bc aa;obtain⟨xs,ef,aa⟩:=bc aa;cases aa;rfl
  case builtin b=>
   by_cases x9:b=.clear
   ·subst x9;simp only at aa;unfold qy at aa;split at aa
    ·obtain⟨ty,dW,aa⟩:=bc aa;split at aa
     ·obtain⟨x',hx,aa⟩:=bc aa;cases aa;rfl
     ·obtain⟨x',hx,aa⟩:=bc aa;cases aa;rfl
     ·cases aa
    ·cases aa
   by_cases C7:b=.copy
   ·subst C7;simp only at aa;unfold tA at aa
    repeat' (first|(cases aa;rfl)|(cases aa;done)|(obtain⟨_,_,aa⟩:=bc aa)|split at aa)
   replace aa:(dst>>=fun d=>iy T d b args.toList argTypes.toList)=some i:=by cases b<;>first|exact aa|exact absurd rfl x9|exact absurd rfl C7
   obtain⟨d,hd,aa⟩:=bc aa;unfold iy at aa
   repeat' (first|(cases aa;exact hd)|(obtain⟨_,_,aa⟩:=bc aa)|split at aa)
   all_goals cases aa
 case binOp op t x y t'=>
  unfold xo at aa;split at aa
  ·obtain⟨ty,dW,aa⟩:=bc aa;split at aa
   ·obtain⟨d,hd,aa⟩:=bc aa;obtain⟨x',hx,aa⟩:=bc aa;cases aa;exact hd
   ·cases aa
  ·split at aa
   ·obtain⟨d,hd,aa⟩:=bc aa;obtain⟨x',hx,aa⟩:=bc aa;obtain⟨y',hy,aa⟩:=bc aa;cases aa;exact hd
   ·split at aa
    ·obtain⟨d,hd,aa⟩:=bc aa;obtain⟨x',hx,aa⟩:=bc aa;obtain⟨y',hy,aa⟩:=bc aa;cases aa;exact hd
    ·split at aa
     ·obtain⟨d,hd,aa⟩:=bc aa;obtain⟨x',hx,aa⟩:=bc aa;cases aa;exact hd
     ·obtain⟨d,hd,aa⟩:=bc aa;obtain⟨x',hx,aa⟩:=bc aa;obtain⟨y',hy,aa⟩:=bc aa;cases aa;exact hd
 case indexAddr t x y=>
  obtain⟨_,_,aa⟩:=bc aa;split at aa
  ·obtain⟨_,hd,aa⟩:=bc aa;obtain⟨_,_,aa⟩:=bc aa;obtain⟨_,_,aa⟩:=bc aa;cases aa;exact hd
  ·split at aa
   ·obtain⟨_,hd,aa⟩:=bc aa;obtain⟨_,_,aa⟩:=bc aa;obtain⟨_,_,_,_,rfl⟩:=Tf aa;exact hd
   ·obtain⟨_,hd,aa⟩:=bc aa;obtain⟨_,_,aa⟩:=bc aa;obtain⟨_,_,aa⟩:=bc aa;cases aa;exact hd
  ·cases aa
 case unOp u t x=>
  unfold Cq at aa;cases u;case neg=>
   obtain⟨ty,dW,aa⟩:=bc aa;split at aa
   ·obtain⟨d,hd,aa⟩:=bc aa;obtain⟨x',hx,aa⟩:=bc aa;cases aa;exact hd
   ·cases aa
  case not=>obtain⟨d,hd,aa⟩:=bc aa;obtain⟨x',hx,aa⟩:=bc aa;cases aa;exact hd
  all_goals cases aa
 case pick x y z=>
  obtain⟨d,hd,aa⟩:=bc aa;unfold tB at aa
  repeat' (first|(cases aa;exact hd)|(obtain⟨_,_,aa⟩:=bc aa)|split at aa)
  all_goals cases aa
 case makeMap t rs=>
  cases rs with
  |some _=>cases aa
  |none=>
  obtain⟨_,_,aa⟩:=bc aa;split at aa
  ·obtain⟨_,_,aa⟩:=bc aa;cases aa;assumption
  ·cases aa
 case mapUpdate=>
  split at aa
  ·obtain⟨_,_,aa⟩:=bc aa;split at aa
   ·obtain⟨_,_,aa⟩:=bc aa;obtain⟨_,_,aa⟩:=bc aa;obtain⟨_,_,aa⟩:=bc aa;cases aa;rfl
   ·cases aa
  ·cases aa
 case store=>
  split at aa
  ·rename_i hd;obtain⟨_,_,aa⟩:=bc aa;obtain⟨_,_,aa⟩:=bc aa;obtain⟨_,_,aa⟩:=bc aa;cases aa;rfl
  ·cases aa
 case slice t x lo hi mx=>
  cases mx with
  |some m=>
   cases hi with
   |none=>cases aa
   |some hi=>
   obtain⟨_,_,aa⟩:=bc aa;split at aa
   ·cases lo;all_goals
     repeat' (first|(cases aa;assumption)|(obtain⟨_,_,aa⟩:=bc aa))
   ·cases aa
  |none=>
  obtain⟨_,_,aa⟩:=bc aa;cases lo<;>cases hi;all_goals
   repeat' (first|(cases aa;rfl)|(cases aa;assumption)|(obtain⟨_,_,aa⟩:=bc aa)|split at aa)
  all_goals cases aa
 all_goals
  repeat' (first|(cases aa;rfl)|(cases aa;assumption)|(obtain⟨_,_,aa⟩:=bc aa)|split at aa)
 all_goals cases aa
theorem YV{v dst d K as r}(hd:dst=d)(hK:dL v (some false) d K st as r):(∃d v,dst=some d∧K (st.put (some false) d v))∨(dst=none∧K st):=by
 cases d with
 |none=>
  cases r with
  |own a sz es=>exact hK.elim
  |one x=>exact .inr ⟨hd,hK⟩
  |agg x=>exact .inr ⟨hd,hK⟩
  |tup x=>exact .inr ⟨hd,hK⟩
  |bx=>exact hK.elim
  |vr=>exact hK.elim
  |vc=>exact hK.elim
 |some d=>
  cases r with
  |own a sz es=>exact absurd hK.1.1 (by simp)
  |one x=>exact .inl ⟨d,_,hd,hK⟩
  |agg x=>exact .inl ⟨d,_,hd,hK⟩
  |tup x=>exact .inl ⟨d,_,hd,hK⟩
  |bx=>exact hK.elim
  |vr=>exact hK.elim
  |vc=>exact absurd hK.1.2.1 (by simp)
theorem yYc{o:Oper}{i}(aa:nE T o.dst o.op=some i){K}(hK:bF E (some false) i st K):(∃d v,o.dst=some d∧K (st.put (some false) d v))∨(o.dst=none∧K st):=by
 have hd:=Ns aa;cases i<;>simp only[bF,uf,j5]at hK hd;case alloc=>exact absurd hK.1.1 (by simp)
 case box=>exact absurd hK.1.1 (by simp)
 case st=>
  split at hK
  ·split at hK
   ·exact absurd hK.1.1 (by simp)
   ·exact hK.elim
  ·split at hK
   ·exact absurd hK.1.1 (by simp)
   ·exact hK.elim
  ·exact hK.elim
 case app=>
  split at hK
  ·split at hK
   ·exact absurd hK.1.1 (by simp)
   ·exact absurd hK.1.1 (by simp)
   ·split at hK
    ·exact absurd hK.1.1 (by simp)
    ·exact hK.elim
   ·exact hK.elim
  ·exact .inl ⟨_,_,hd,hK⟩
 case len d str x=>
  split at hK
  ·exact .inl ⟨_,_,hd,hK.2 (fun h=>by cases h)⟩
  ·exact hK.elim
 case call d f args=>
  split at hK
  ·split at hK
   ·obtain⟨r,_,hK⟩:=hK;exact YV hd hK
   ·rcases hK with(hK|⟨x,⟨hg,_⟩,_⟩|⟨_,_,_,⟨hg,_⟩,_⟩)|hK
    ·split at hK
     ·rcases hK with⟨r,_,hK⟩|⟨r,⟨hg,_⟩,_⟩
      ·exact YV hd hK
      ·cases hg
     ·exact hK.elim
    ·cases hg
    ·cases hg
    ·exact hK.elim
  ·rcases hK with⟨_,_,x,⟨hg,_⟩,_⟩|hK
   ·cases hg
   ·exact hK.elim
  ·exact hK.elim
 case callB d f args=>
  split at hK
  ·obtain⟨x,⟨hg,_⟩,_⟩:=hK;cases hg
  ·obtain⟨x,⟨hg,_⟩,_⟩:=hK;cases hg
  ·exact hK.elim
 case mkv=>
  split at hK
  ·exact absurd hK.1.1 (by simp)
  ·exact hK.elim
 case bslv=>
  split at hK
  ·exact absurd hK.1.1 (by simp)
  ·exact hK.elim
 case cpy=>
  split at hK
  ·split at hK
   ·exact absurd hK.1.1 (by simp)
   ·exact hK.elim
  ·exact hK.elim
 case clr=>
  split at hK
  ·split at hK
   ·exact absurd hK.1.1 (by simp)
   ·exact hK.elim
  ·exact hK.elim
 case isnil d x=>
  split at hK
  ·exact .inl ⟨_,_,hd,hK.2 false (fun h=>by cases h)⟩
  ·exact .inl ⟨_,_,hd,hK.2.2⟩
 case mkm=>exact absurd hK.1.1 (by simp)
 case mput=>
  split at hK
  ·split at hK
   ·exact absurd hK.1.1 (by simp)
   ·exact hK.elim
  ·exact hK.elim
 case mclr=>
  split at hK
  ·split at hK
   ·exact absurd hK.1.1 (by simp)
   ·exact hK.elim
  ·exact hK.elim
 case mv=>exact .inl ⟨_,_,hd,hK.2⟩
 case mkf=>exact .inl ⟨_,_,hd,hK.2⟩
 all_goals
  split at hK
  ·exact .inl ⟨_,_,hd,hK.2⟩
  ·exact hK.elim
theorem yjH{o:Oper}{i}(aa:nE T o.dst o.op=some i){K:St→Prop}(hK:K (xf i st)):(∃d v,o.dst=some d∧K (st.put (some false) d v))∨(o.dst=none∧K st):=by
 have hd:=Ns aa;cases i<;>simp only[xf,dP,uf,j5]at hK hd;case st=>exact .inr ⟨hd,hK⟩
 case mput=>exact .inr ⟨hd,hK⟩
 case mclr=>exact .inr ⟨hd,hK⟩
 case clr=>exact .inr ⟨hd,hK⟩
 case cpy d _ _ _=>
  cases d with
  |none=>exact .inr ⟨hd,hK⟩
  |some d=>exact .inl ⟨d,_,hd,hK⟩
 case call d f args=>
  cases d with
  |none=>exact .inr ⟨hd,hK⟩
  |some d=>exact .inl ⟨d,_,hd,hK⟩
 case callB d f args=>
  cases d with
  |none=>exact .inr ⟨hd,hK⟩
  |some d=>exact .inl ⟨d,_,hd,hK⟩
 all_goals exact .inl ⟨_,_,hd,hK⟩
theorem yv1(h:aN c st tmps w S ρ){ops o gi}(wc:iE ops.toList o.guard=some gi){g}(hg:guardOf st gi=some g):
  (Region.wanted o (yielded ops tmps)=true∧(g=none∨g=some true))∨(Region.wanted o (yielded ops tmps)=false∧g=some false):=by
 unfold Region.wanted;cases Mn:o.guard with
 |none=>rw[Mn]at wc;simp only[iE,Option.some.injEq]at wc;subst wc;simp only[guardOf,Option.some.injEq]at hg;exact .inl ⟨rfl,.inl hg.symm⟩
 |some jw=>
  obtain⟨j,want⟩:=jw;rw[Mn]at wc;simp only[iE,Option.bind_eq_bind,Option.pure_def,Option.bind_eq_some_iff,Option.some.injEq]at wc;obtain⟨oj,hoj,s,hs,rfl⟩:=wc;have hy:yielded ops tmps j=match tmps[s]? with|some (.bool b)=>some b|_=>none:=by
   unfold yielded;have:ops[j]? =some oj:=by simpa using hoj
   simp[this,hs];rfl
  have kC:=h.ae s;simp only[guardOf]at hg;simp only
  rw[hy];split at hg
  ·rename_i b hb;cases hg;rw[hb]at kC;have ht:tmps[s]? =some (.bool b):=by
    simp only[ay,dR]at kC;cases hh:tmps[s]? with
    |none=>rw[Array.getD_eq_getD_getElem?,hh]at kC;cases kC
    |some v=>rw[Array.getD_eq_getD_getElem?,hh]at kC;simp at kC;rw[kC]
   simp only[ht];cases b<;>cases want<;>simp
  ·rename_i g0 b hb;cases hg;rw[hb]at kC;obtain⟨h1,h2⟩:=kC;cases g0 with
   |true=>
    have kC:=h1 rfl;have ht:tmps[s]? =some (.bool b):=by
     simp only[ay,dR]at kC;cases hh:tmps[s]? with
     |none=>rw[Array.getD_eq_getD_getElem?,hh]at kC;cases kC
     |some v=>rw[Array.getD_eq_getD_getElem?,hh]at kC;simp at kC;rw[kC]
    simp only[ht];cases b<;>cases want<;>simp
   |false=>
    have kC:=h2 rfl;have ht:(match tmps[s]? with|some (.bool b)=>some b|_=>none:Option Bool)=none:=by
     cases hh:tmps[s]? with
     |none=>rfl
     |some v=>rw[Array.getD_eq_getD_getElem?,hh]at kC;simp at kC;rw[kC];rfl
    rw[ht];simp
  ·cases hg
structure FW(F:Fence):Prop where
 fn:∀f,F.fn f
 depth:F.depth=none
 alive:F.alive=false
theorem FW.wide:FW Fence.wide:=⟨fun _=>trivial,rfl,rfl⟩
theorem yY6{F}(hF:FW F)(P)(m:Machine):m.fenced P F:=by
 intro g _;refine⟨fun h=>?_,Or.inl (hF.fn _),fun _ _=>hF.fn _,fun _ h=>?_⟩
 ·rw[hF.alive]at h;cases h
 ·rw[hF.depth]at h;cases h
theorem Te{F}(hF:FW F){P m m'}(h:Steps P m m'):StepsIn (Machine.fenced P F) P m m':=(StepsIn.of_steps h).mono fun m _=>yY6 hF P m
theorem yZi{F}(hF:FW F){P m m' e}(h:Comes P m m' e):ComesIn (Machine.fenced P F) P m m' e:=by
 cases e with
 |returned v=>exact Te hF h
 |panicked chain=>exact Te hF h
 |outgrown=>exact h
theorem SJ{F}(hF:FW F){n P f args w R}(h:Calls P f args w R):CallsIn F n P f args w R:=
 ⟨hF.fn f,fun cs _=>let ⟨e,w',fr,r,s,x⟩:=h cs;⟨e,w',fr,r,yZi hF s,x⟩⟩
theorem yWG{F}(hF:FW F){n P row args w R}(h:Rows P row args w R):RowsIn F n P row args w R:=
 fun c cs _=>let ⟨v,w',r,s⟩:=h c cs;⟨v,w',r,Te hF s⟩
theorem YQ{F}(hF:FW F){n P}{o:Oper}(xL:∀c,o.op≠.defer c){a w N Q}(h:o.wp P a w N Q):o.wpIn F n P a w N Q:=by
 have hd:F.depth.isSome=true→1≤n:=fun h=>by rw[hF.depth]at h;cases h
 unfold Oper.wp at h;refine⟨fun f _=>hF.fn f,?_⟩;rw[Oper.semAt_eq _ _ _ xL];generalize (execOp a.eval o).run P w=r at*
 cases r with
 |ok x w'=>cases x<;>first|exact h|exact⟨hd,SJ hF h⟩|exact⟨hd,yWG hF h⟩|exact h.elim
 |halt x w'=>cases x<;>first|exact h|exact h.elim
theorem Th(hG:E.G=c.G)(hC:∀f args r,E.C f args r→Ev c.P c.G f args r)(hT:∀t ty,T t=some ty→aK c.P t ty=true)(h:aN c st tmps w S ρ){ops k}{o:Oper}(ho:ops[k]? =some o){i gi}
  (wc:iE ops.toList o.guard=some gi) (aa:nE T o.dst o.op=some i) (aT:∀d,o.dst=some d→c.D d) {K} (hK:vF E gi i st K) {N} (hN:∀a w,jW c K a w→N a w) (Q) {F} (hF:FW F) (n):
  wpOpIn F n c.P ops Q k N ⟨tmps,c.ds⟩ w:=by
 have xL:∀c,o.op≠.defer c:=by intro c hc;rw[hc]at aa;cases aa
 unfold vF at hK;split at hK
 ·exact hK.elim
 ·rename_i g hg;unfold wpOpIn;simp only[ho];rcases yv1 h wc hg with⟨hw,u7⟩|⟨hw,rfl⟩
  ·rw[if_pos hw];have hK:=(YU hK).resolve_right fun hs=>by have:=hs.1;rcases u7 with rfl|rfl<;>cases this
   exact YQ hF xL (Oper.wp_mono hN (yVI hG hC hT h aa aT u7 hK Q))
  ·rw[if_neg (by rw[hw];simp)];refine⟨fun f _=>hF.fn f,hN _ _ ?_⟩;have hK:(∃d v,o.dst=some d∧K (st.put (some false) d v))∨(o.dst=none∧K st):=by
    rcases YU hK with hK|hK
    ·exact yYc aa hK
    ·exact yjH aa hK.2
   rcases hK with⟨d,v,hd,hK⟩|⟨hd,hK⟩
   ·simp only[Act.put,hd];exact⟨rfl,_,_,_,h.Cm (aT d hd) v,hK⟩
   ·simp only[Act.put,hd];exact⟨rfl,_,_,_,h,hK⟩
theorem vt{ops l}(h:gT T ops=some l):l.length=ops.length∧∀(k:Nat) (o),ops[k]? =some o→∃gi i,l[k]? =some (gi,i)∧iE ops o.guard=some gi∧nE T o.dst o.op=some i:=by
 have key:∀(all os:List Oper) (l:List (Option (Nat×Bool)×I)),(os.mapM fun(o:Oper)=>do pure (←iE all o.guard,←nE T o.dst o.op))=some l→l.length=os.length∧∀(k:Nat) (o:Oper),os[k]? =some o→∃gi i,l[k]? =some (gi,i)∧iE all o.guard=some gi∧nE T o.dst o.op=some i:=by
  intro all os;induction os with
  |nil=>intro l hl;simp at hl;subst hl;simp
  |cons o os ih=>
   intro l hl;simp only[List.mapM_cons,Option.bind_eq_bind,Option.pure_def,Option.bind_eq_some_iff,Option.some.injEq]at hl;obtain⟨p,⟨gi,Qq,i,hi,rfl⟩,l',gC,rfl⟩:=hl;obtain⟨h1,h2⟩:=ih l' gC;refine⟨by simp[h1],fun k o' hk=>?_⟩;cases k with
   |zero=>simp at hk;subst hk;exact⟨gi,i,rfl,Qq,hi⟩
   |succ k=>simpa using h2 k o' (by simpa using hk)
 exact key ops ops l h
theorem Sy(hG:E.G=c.G)(hC:∀f args r,E.C f args r→Ev c.P c.G f args r)(hT:∀t ty,T t=some ty→aK c.P t ty=true){ops:Array Oper}{l}(aa:gT T ops.toList=some l)
  (aT:∀o∈ops.toList,∀d,o.dst=some d→c.D d) {F} (hF:FW F) (m) (Q) {K} (hQ:∀a w,jW c K a w→Q .normal a w):
  ∀(n k) {st} {tmps} {w} {S} {ρ},k+n=ops.size→aN c st tmps w S ρ→mO E (l.drop k) K st→wpOpsIn F m c.P ops Q (List.range' k n) ⟨tmps,c.ds⟩ w:=by
 obtain⟨hlen,lh⟩:=vt aa;simp only[Array.length_toList]at hlen;intro n;induction n with
 |zero=>intro k st tmps w S ρ hk h hK;rw[List.drop_of_length_le (by omega)]at hK;exact hQ _ _ ⟨rfl,_,_,_,h,hK⟩
 |succ n ih=>
  intro k st tmps w S ρ hk h hK;have bf:k<ops.size:=by omega
  obtain⟨gi,i,hl,wc,xO⟩:=lh k ops[k] (by simp[bf]);have ux:l.drop k=(gi,i)::l.drop (k+1):=by
   have HS:k<l.length:=by omega
   rw[List.drop_eq_getElem_cons HS];congr 1;have:=List.getElem?_eq_getElem HS;rw[this]at hl;exact Option.some.inj hl
  rw[ux]at hK;simp only[mO]at hK;rw[List.range'_succ,wpOpsIn_cons];refine Th hG hC hT h (Array.getElem?_eq_getElem bf) wc xO (aT _ (by simp)) hK ?_ Q hF m
  rintro⟨uT,ds'⟩ w' ⟨lU,cH,S',bu,h',PY⟩
  simp only at lU;subst lU;exact ih (k+1) (by omega) h' PY
end Go.Abs
end
section
namespace Go.Abs
open Go.RowKit
variable{c:Ctx}{st:St}{tmps:Array Value}{w:World}{S:Safe}{ρ:bW}{E:ax}{T:Nat→Option Ty}
def eI(ρ:bW)(m1:Mem)(mp:bJ):bW:={box:=fun s=>if(getM m1 s).isSome then ρ.box s else none,cO:=fun s=>if(getM m1 s).isSome then ρ.cO s else none,tok:=fun t=>(aZ mp t).bind ρ.tok}
mutual
theorem ay.plain{m1:Mem}{mp:bJ}:∀(a:AV) (v:Value),a.plain m1=true→ay w S ρ a v→ay w S (eI ρ m1 mp) a v
 |.undef,_,_,_=>trivial
 |.d x,_,_,h=>h
 |.agg cs,_,hp,⟨vs,h1,h2⟩=>⟨vs,h1,af.plain cs _ (by simpa[AV.plain]using hp) h2⟩
 |.tup cs,_,hp,⟨vs,h1,h2⟩=>⟨vs,h1,af.plain cs _ (by simpa[AV.plain]using hp) h2⟩
 |.ptr s _,_,hp,⟨b,h1,h2⟩=>⟨b,by simp only[AV.plain]at hp;simp[eI,hp,h1],h2⟩
 |.full _,_,_,h=>h
 |.own _ _ _,_,hp,_=>by simp[AV.plain]at hp
 |.mref s,_,hp,⟨b,h1,h2⟩=>⟨b,by simp only[AV.plain]at hp;simp[eI,hp,h1],h2⟩
 |.zsl _ _,_,_,h=>h
 |.pnd _ _ _ _,_,hp,_=>by simp[AV.plain]at hp
 |.eptr _ _,_,hp,_=>by simp[AV.plain]at hp
 |.vec s _ _ _ _,_,hp,⟨k1,k2,b,h1,h2⟩=>⟨k1,k2,b,by simp only[AV.plain]at hp;simp[eI,hp,h1],h2⟩
 |.clo _ caps,_,hp,⟨cs,h1,h2⟩=>⟨cs,h1,af.plain caps _ (by simpa[AV.plain]using hp) h2⟩
 |.cond _ a,_,hp,⟨h1,h2⟩=>⟨fun hg=>ay.plain a _ (by simpa[AV.plain]using hp) (h1 hg),h2⟩
theorem af.plain{m1:Mem}{mp:bJ}:∀(as:List AV) (vs:List Value),AV.nA m1 as=true→af w S ρ as vs→af w S (eI ρ m1 mp) as vs
 |[],_,_,h=>h
 |a::as,_,hp,⟨v,r,h,h1,h2⟩=>by simp only[AV.nA,Bool.and_eq_true]at hp;exact⟨v,r,h,ay.plain a v hp.1 h1,af.plain as r hp.2 h2⟩
end
theorem rK.sound{m1 mp a a1 v}(h:ay w S ρ a v)(he:rK m1 mp a a1):ay w S (eI ρ m1 mp) a1 v:=by
 cases a1<;>simp only[rK]at he;case undef=>trivial
 case d x=>
  split at he
  ·subst he;exact h.1
  ·subst he;exact h.1
  ·subst he;exact h
 case own t sz es=>
  split at he
  ·rename_i u hu;subst he;obtain⟨h1,h2,base,n,cap,h3,h4⟩:=h;exact⟨h1,h2,base,n,cap,by simp[eI,hu,h3],h4⟩
  ·exact he.elim
 all_goals (obtain⟨rfl,hp⟩:=he;exact ay.plain _ _ hp h)
theorem gu.sound{m1 mp}:∀{as bs} {l},af w S ρ as l→gu m1 mp as bs→af w S (eI ρ m1 mp) bs l
 |[],[],_,h,_=>h
 |a::as,b::bs,_,⟨v,r,h,h1,h2⟩,he=>⟨v,r,h,rK.sound h1 he.1,gu.sound h2 he.2⟩
 |[],_::_,_,_,he=>by simp[gu]at he
 |_::_,[],_,_,he=>by simp[gu]at he
theorem xv.sound{m1 mp a a1 v}(h:ay w S ρ a v)(he:xv m1 mp a a1):ay w S (eI ρ m1 mp) a1 v:=by
 unfold xv at he;split at he
 ·split at he
  ·obtain⟨vs,h1,h2⟩:=h;exact⟨vs,h1,gu.sound h2 he⟩
  ·exact he.elim
 ·exact rK.sound h he
theorem gE.sound{st m1 mp}(h:∀k,ay w S ρ (aC st.ae k) (tmps.getD k undef)):∀{l},gE st m1 mp l→∀k,ay w S (eI ρ m1 mp) (aC l k) (tmps.getD k undef)
 |[],_,k=>trivial
 |(k',v)::r,he,k=>by
  simp only[aC];by_cases hk:k'=k
  ·subst hk;rw[if_pos rfl];exact xv.sound (h k') he.1
  ·rw[if_neg hk];exact gE.sound h he.2 k
theorem ko.get{st m1 mp}:∀{l},ko st m1 mp l→∀s jX,getM l s=some jX→∃cs,getM st.mem s=some cs∧gu m1 mp cs jX
 |[],_,s,jX,h=>by simp[getM]at h
 |(k,kt)::r,he,s,jX,h=>by
  simp only[getM]at h;by_cases hk:k=s
  ·subst hk;rw[if_pos rfl]at h;cases h;have:=he.1;split at this
   ·rename_i cs dU;exact⟨cs,dU,this⟩
   ·exact this.elim
  ·rw[if_neg hk]at h;exact ko.get he.2 s jX h
theorem gu.mp{m1 tm cs k e cA}(h:gu m1 tm cs [.mp k e cA]):cs=[.mp k e cA]:=by
 cases cs with
 |nil=>exact h.elim
 |cons a as=>
  cases as with
  |nil=>rw[h.1.1]
  |cons _ _=>exact h.2.elim
theorem gu.iW{m1 tm cs jX}(h:gu m1 tm cs jX)(h1:cF jX=false):cF cs=false:=by
 cases hm:cF cs with
 |false=>rfl
 |true=>
  obtain⟨k,e,cA,rfl⟩:=xr.1 hm;cases jX with
  |nil=>exact h.elim
  |cons b bs=>
   cases bs with
   |cons _ _=>exact h.2.elim
   |nil=>
    have h0:=h.1;cases b<;>simp[rK,AV.cF]at h0
    ·split at h0<;>cases h0
    ·simp[cF,AV.cF]at h1
theorem jz.sound{mp st1}(h:aN c st tmps w S ρ)(he:jz mp st st1):aN c st1 tmps w S (eI ρ st1.mem mp):=by
 obtain⟨h1,h2,h3,h4⟩:=he
 obtain⟨m1,m2⟩:=Nn h2
 refine{size:=h.size,ae:=gE.sound h.ae h3,mem:=?_,inj:=?_,aQ:=?_,cL:=?_,tok:=?_,aV:=?_,below:=h.below,fX:=h.fX,new:=h.new,live:=h.live,b5:=h.b5,fx:=h.fx,ex:=h.ex,eH:=h.eH,keeps:=h.keeps,pins:=h.pins.sub (fun s b e=>by
  simp only[eI]at e
  split at e
  ·exact .inr e
  ·cases e) (fun s b e=>by
  simp only[eI]at e
  split at e
  ·exact .inr e
  ·cases e)}
 ·intro s jX hs fG
  obtain⟨cs,dU,Bx⟩:=ko.get h4 s jX hs
  obtain⟨b,vs,e,g1,g2,g3,g4,g6⟩:=h.mem s cs dU (gu.iW Bx fG)
  exact⟨b,vs,e,by simp[eI,hs,g1],g2,g3,gu.sound g4 Bx,g6⟩
 ·intro s s' b hs b9
  simp only[eI]at hs b9
  split at hs
  ·split at b9
   ·exact h.inj s s' b hs b9
   ·cases b9
  ·cases hs
 ·intro s hs
  simp[eI,hs]
 ·refine{at':=fun s k e cA hs=>?_,inj:=fun s s' b hs b9=>?_,new:=fun s hs=>by simp[eI,hs],lt:=fun s b hs=>?_,apart:=fun s b hs=>?_}
  ·obtain⟨cs,dU,Bx⟩:=ko.get h4 s _ hs
   have:=gu.mp Bx
   subst this
   obtain⟨b,g1,g2,g3⟩:=h.cL.at' s k e cA dU
   exact⟨b,by simp[eI,hs,g1],by simp[eI,hs,g2],g3⟩
  ·simp only[eI]at hs b9
   split at hs
   ·split at b9
    ·exact h.cL.inj s s' b hs b9
    ·cases b9
   ·cases hs
  ·simp only[eI]at hs
   split at hs
   ·exact h.cL.lt s b hs
   ·cases hs
  ·simp only[eI]at hs⊢
   split at hs
   ·rename_i hi;rw[if_pos hi];exact h.cL.apart s b hs
   ·cases hs
 ·intro t ht
  rw[h1,Bm]at ht
  cases hu:aZ mp t with
  |none=>simp[hu]at ht
  |some u=>
   obtain⟨x,g1,g2⟩:=h.tok u (m1 t u hu).1
   refine⟨x,by simp[eI,hu,g1],?_⟩
   rcases g2 with g2|⟨b,k0,k1,k2,k3,k4,k5,k6,k7⟩
   ·exact .inl g2
   ·refine .inr ⟨b,k0,k1,k2,k3,k4,k5,fun s hs=>?_,fun t' b' y b6 iO eE hy=>?_⟩
    ·simp only[eI]at hs
     split at hs
     ·exact k6 s hs
     ·cases hs
    ·rw[h1,Bm]at iO
     cases lQ:aZ mp t' with
     |none=>simp[lQ]at iO
     |some u'=>
      simp only[eI,lQ,Option.bind_some]at eE
      exact k7 u' b' y (fun e=>b6 (m2 t' t u' lQ (e▸hu))) (m1 t' u' lQ).1 eE hy
 ·intro t ht
  rw[h1,Bm]at ht
  cases hu:aZ mp t with
  |none=>simp[eI,hu]
  |some u=>simp[hu]at ht
theorem nF.sound{st1}(h:aN c st tmps w S ρ)(he:nF st st1):∃gq,aN c st1 tmps w S gq:=by obtain⟨ps,mp,cH,h1,h2⟩:=he;obtain⟨gq,hs⟩:=Oe h h1;exact⟨_,jz.sound hs h2⟩
end Go.Abs
end
