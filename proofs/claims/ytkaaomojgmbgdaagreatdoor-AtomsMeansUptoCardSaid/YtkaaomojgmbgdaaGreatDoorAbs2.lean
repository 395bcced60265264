/-
  A LIBRARY OF THE PROOF: an abstract machine over the texts of the translated functions, whose values are plain data, proved sound with regard to the kit's law of calls (names shortened by program).
-/
import Derived.Laws.StructEq
import Derived.ChangeKeysEq
import Derived.Laws.MakeOwn
import Derived.Laws.IdiomCopy
import Derived.Test.YtkaaomojgmbgdaaGreatDoorAbs1
set_option linter.unusedSimpArgs false
set_option linter.unusedVariables false
set_option linter.unusedSectionVars false
set_option maxRecDepth 100000
section
namespace Go.Abs
open Go.RowKit
variable{c:Ctx}{st:St}{tmps:Array Value}{w:World}{S:Safe}{ρ:Rho}
theorem zJP{st}:∀{mp} {us},mpOk st mp us→(∀t u,getTM mp t=some u→getT st.tk u=some true∧us.contains u=false)∧(∀t t' u,getTM mp t=some u→getTM mp t'=some u→t=t')
 |[],_,_=>⟨fun t u h=>by simp[getTM]at h,fun t t' u h=>by simp[getTM]at h⟩
 |(k,u0)::r,us,h=>by
  obtain⟨⟨h0,h1⟩,h2⟩:=h;obtain⟨i1,i2⟩:=zJP h2;have hno:∀t u,getTM r t=some u→u≠u0∧us.contains u=false:=by intro t u ht;have:=(i1 t u ht).2;simp only[List.contains_cons,Bool.or_eq_false_iff,beq_eq_false_iff_ne]at this;exact⟨this.1,this.2⟩
  refine⟨fun t u ht=>?_,fun t t' u ht ht'=>?_⟩
  ·simp only[getTM]at ht;split at ht
   ·cases ht;exact⟨h1,h0⟩
   ·exact⟨(i1 t u ht).1,(hno t u ht).2⟩
  ·simp only[getTM]at ht ht';split at ht<;>split at ht'
   ·simp_all
   ·cases ht;exact absurd rfl (hno t' _ ht').1
   ·cases ht';exact absurd rfl (hno t _ ht).1
   ·exact i2 t t' u ht ht'
theorem zwO:∀(mp) (t),getT (tkOf mp) t=(getTM mp t).map fun _=>true
 |[],t=>rfl
 |(k,u)::r,t=>by
  simp only[tkOf,getT,getTM];split
  ·rfl
  ·exact zwO r t
theorem zxW:∀{σ} {s u},getTM σ s=some u→(s,u)∈σ
 |(k,v)::l,s,u,h=>by
  simp only[getTM]at h;split at h
  ·rename_i hk;subst hk;cases h;exact List.mem_cons_self
  ·exact List.mem_cons_of_mem _ (zxW h)
theorem zWx:∀{l} {a},noTwice (a::l)=true→a∉l∧noTwice l=true
 |l,a,h=>by simp only[noTwice,Bool.and_eq_true,Bool.not_eq_true',List.contains_eq_mem,decide_eq_false_iff_not]at h;exact h
theorem zkK:∀{σ} {s u},noTwice (σ.map (·.1))=true→(s,u)∈σ→getTM σ s=some u
 |(k,v)::l,s,u,hn,h=>by
  obtain⟨h1,h2⟩:=zWx (by simpa using hn);simp only[getTM];rcases List.mem_cons.1 h with e|h
  ·cases e;rw[if_pos rfl]
  ·rw[if_neg]
   ·exact zkK h2 h
   ·rintro rfl;exact h1 (List.mem_map.2 ⟨_,h,rfl⟩)
theorem zJS:∀{σ:TMap} {s s' u},noTwice (σ.map (·.2))=true→(s,u)∈σ→(s',u)∈σ→s=s'
 |(k,v)::l,s,s',u,hn,h,h'=>by
  obtain⟨h1,h2⟩:=zWx (by simpa using hn);rcases List.mem_cons.1 h with e|h<;>rcases List.mem_cons.1 h' with e'|h'
  ·cases e;cases e';rfl
  ·cases e;exact absurd (List.mem_map.2 ⟨_,h',rfl⟩) h1
  ·cases e';exact absurd (List.mem_map.2 ⟨_,h,rfl⟩) h1
  ·exact zJS h2 h h'
def rho0(ρ:Rho)(σ τ:TMap):Rho:={box:=fun s=>(getTM σ s).bind ρ.box,mbox:=fun s=>(getTM σ s).bind ρ.mbox,tok:=fun t=>(getTM τ t).bind ρ.tok}
theorem Match0.sound{σ τ a a0 v}(h:RepA w S ρ a v)(hm:Match0 σ τ a a0):RepA w S (rho0 ρ σ τ) a0 v:=by
 cases a0 with
 |d x=>exact zVC (m:=[]) zyp 1 a v x h hm
 |own t sz es=>
  simp only[Match0]at hm;split at hm
  ·rename_i u hu;subst hm;obtain⟨h1,h2,base,n,cap,h3,h4⟩:=h;exact⟨h1,h2,base,n,cap,by simp only[rho0,hu,Option.bind_some];exact h3,h4⟩
  ·exact hm.elim
 |ptr s off=>
  simp only[Match0]at hm;split at hm
  ·rename_i u hu;subst hm;obtain⟨b,h1,h2⟩:=h;exact⟨b,by simp only[rho0,hu,Option.bind_some];exact h1,h2⟩
  ·exact hm.elim
 |mref s=>
  simp only[Match0]at hm;split at hm
  ·rename_i u hu;subst hm;obtain⟨b,h1,h2⟩:=h;exact⟨b,by simp only[rho0,hu,Option.bind_some];exact h1,h2⟩
  ·exact hm.elim
 |vec s esz off n cap=>
  simp only[Match0]at hm;split at hm
  ·rename_i u hu;subst hm;obtain⟨k1,k2,b,h1,h2⟩:=h;exact⟨k1,k2,b,by simp only[rho0,hu,Option.bind_some];exact h1,h2⟩
  ·exact hm.elim
 |undef=>trivial
 |_=>exact hm.elim
theorem Match0s.sound{σ τ}:∀{as bs} {vs},RepAs w S ρ as vs→Match0s σ τ as bs→RepAs w S (rho0 ρ σ τ) bs vs
 |[],[],_,h,_=>h
 |_::_,_::_,_,⟨v,r,e,h1,h2⟩,hm=>⟨v,r,e,Match0.sound h1 hm.1,Match0s.sound h2 hm.2⟩
 |[],_::_,_,_,hm=>hm.elim
 |_::_,[],_,_,hm=>hm.elim
theorem Match1.sound{σ τ a a0 v}(h:RepA w S ρ a v)(hm:Match1 σ τ a a0):RepA w S (rho0 ρ σ τ) a0 v:=by
 cases a0 with
 |clo f0 cs0=>
  cases a with
  |clo f cs=>obtain⟨rfl,hm⟩:=hm;obtain⟨vs,h1,h2⟩:=h;exact⟨vs,h1,Match0s.sound h2 hm⟩
  |_=>exact hm.elim
 |_=>exact Match0.sound h hm
theorem Matches.sound{σ τ}:∀{as bs} {vs},RepAs w S ρ as vs→Matches σ τ as bs→RepAs w S (rho0 ρ σ τ) bs vs
 |[],[],_,h,_=>h
 |a::as,b::bs,_,⟨v,r,e,h1,h2⟩,hm=>⟨v,r,e,Match1.sound h1 hm.1,Matches.sound h2 hm.2⟩
 |[],_::_,_,_,hm=>hm.elim
 |_::_,[],_,_,hm=>hm.elim
theorem MatchV.sound{σ τ a a0 v}(h:RepA w S ρ a v)(hm:MatchV σ τ a a0):RepA w S (rho0 ρ σ τ) a0 v:=by
 cases a0 with
 |agg cs0=>
  cases a with
  |agg cs=>obtain⟨vs,h1,h2⟩:=h;exact⟨vs,h1,Matches.sound h2 hm⟩
  |_=>exact hm.elim
 |_=>exact Match1.sound h hm
theorem MatchVs.sound{σ τ}:∀{as bs} {vs},RepAs w S ρ as vs→MatchVs σ τ as bs→RepAs w S (rho0 ρ σ τ) bs vs
 |[],[],_,h,_=>h
 |a::as,b::bs,_,⟨v,r,e,h1,h2⟩,hm=>⟨v,r,e,MatchV.sound h1 hm.1,MatchVs.sound h2 hm.2⟩
 |[],_::_,_,_,hm=>hm.elim
 |_::_,[],_,_,hm=>hm.elim
theorem Matches.noMp{σ τ cs cs0}(h:Matches σ τ cs cs0):isMp cs=false:=by
 cases hm:isMp cs with
 |false=>rfl
 |true=>
  obtain⟨k,e,kvs,rfl⟩:=zxX.1 hm;cases cs0 with
  |nil=>exact h.elim
  |cons a0 r=>have h1:=h.1;cases a0<;>simp only[Match1,Match0,AV.toD,AV.isMp,Bool.true_eq_false,reduceCtorEq]at h1;all_goals (split at h1<;>first|exact h1.elim|cases h1)
theorem MatchMem.get{st τ σ0}:∀{σ} {m},MatchMem st τ σ0 σ m→(∀s cs0,getM m s=some cs0→∃s' cs,getTM σ s=some s'∧getM st.mem s'=some cs∧((isMp cs0=true∧cs=cs0)∨(isMp cs0=false∧isMp cs=false∧Matches σ0 τ cs cs0)))∧
  (∀s,getM m s=none→getTM σ s=none)∧(∀p∈σ,1000≤p.1∧(getM st.mem p.2).isSome=true)
 |[],[],_=>⟨fun s cs0 h=>by simp[getM]at h,fun s _=>rfl,fun p hp=>by cases hp⟩
 |(s,s')::σ,(s0,cs0)::m,h=>by
  obtain⟨⟨rfl,hge,hm⟩,hr⟩:=h;obtain⟨i1,i2,i3⟩:=MatchMem.get hr;refine⟨fun k ck hk=>?_,fun k hk=>?_,fun p hp=>?_⟩
  ·simp only[getM]at hk;simp only[getTM];by_cases hks:s0=k
   ·subst hks;rw[if_pos rfl]at hk⊢;cases hk;split at hm
    ·rename_i cs hcs;refine⟨s',cs,rfl,hcs,?_⟩;split at hm
     ·exact .inl ⟨rfl,hm⟩
     ·rename_i hne;have h0:isMp cs0=false:=by
       cases hmp:isMp cs0 with
       |false=>rfl
       |true=>obtain⟨k,e,kvs,rfl⟩:=zxX.1 hmp;exact absurd rfl (hne k e kvs)
      exact .inr ⟨h0,hm.noMp,hm⟩
    ·exact hm.elim
   ·rw[if_neg hks]at hk⊢;exact i1 k ck hk
  ·simp only[getM]at hk;simp only[getTM];by_cases hks:s0=k
   ·rw[if_pos hks]at hk;cases hk
   ·rw[if_neg hks]at hk⊢;exact i2 k hk
  ·rcases List.mem_cons.1 hp with rfl|hp
   ·refine⟨hge,?_⟩;split at hm
    ·rename_i cs hcs;simp[hcs]
    ·exact hm.elim
   ·exact i3 p hp
 |[],_::_,h=>h.elim
 |_::_,[],h=>h.elim
def blocksOf(ρ:Rho)(σ τ:TMap):List Nat:=σ.filterMap (fun p=>ρ.box p.2)++σ.filterMap (fun p=>ρ.mbox p.2)++τ.filterMap fun p=>match ρ.tok p.2 with
 |some (some a,n,cap,_)=>if n=cap then none else some a.block
 |_=>none
theorem yZb{σ τ s s' b}(h:getTM σ s=some s')(hb:ρ.box s'=some b):b∈blocksOf ρ σ τ:=
 List.mem_append_left _ (List.mem_append_left _ (List.mem_filterMap.2 ⟨(s,s'),zxW h,hb⟩))
theorem yvy{σ τ s s' b}(h:getTM σ s=some s')(hb:ρ.mbox s'=some b):b∈blocksOf ρ σ τ:=
 List.mem_append_left _ (List.mem_append_right _ (List.mem_filterMap.2 ⟨(s,s'),zxW h,hb⟩))
theorem yZc{σ τ t u b y}(h:getTM τ t=some u)(hb:ρ.tok u=some (some ⟨b,0,none⟩,y))(hy:y.1≠y.2.1):b∈blocksOf ρ σ τ:=by refine List.mem_append_right _ (List.mem_filterMap.2 ⟨(t,u),zxW h,?_⟩);obtain⟨n,cap,sz⟩:=y;simp only[hb];rw[if_neg hy]
theorem zvv{σ τ b}(hn:noTwice (τ.map (·.1))=true)(h:b∈blocksOf ρ σ τ):(∃s s',(s,s')∈σ∧ρ.box s'=some b)∨(∃s s',(s,s')∈σ∧ρ.mbox s'=some b)∨∃t u a n cap sz,getTM τ t=some u∧ρ.tok u=some (some a,n,cap,sz)∧n≠cap∧a.block=b:=by
 rcases List.mem_append.1 h with h|h
 ·rcases List.mem_append.1 h with h|h
  ·obtain⟨p,hp,hb⟩:=List.mem_filterMap.1 h;exact .inl ⟨p.1,p.2,hp,hb⟩
  ·obtain⟨p,hp,hb⟩:=List.mem_filterMap.1 h;exact .inr (.inl ⟨p.1,p.2,hp,hb⟩)
 ·obtain⟨p,hp,hb⟩:=List.mem_filterMap.1 h;split at hb
  ·rename_i a n cap sz ht;split at hb
   ·cases hb
   ·rename_i hne;cases hb;exact .inr (.inr ⟨p.1,p.2,a,n,cap,sz,zkK hn hp,ht,hne,rfl⟩)
  ·cases hb
theorem Sim.handB(h:Sim c st tmps w S ρ){σ τ m0}(hm:MatchMem st τ σ σ m0)(ht:mpOk st τ [])(hs1:noTwice (σ.map (·.1))=true)(hs2:noTwice (σ.map (·.2))=true):
  Sim (ctxB c.P c.G w S (blocksOf ρ σ τ) (σ.filterMap fun p=>(ρ.box p.2).map fun b=>(p.1,b)) (σ.filterMap fun p=>(ρ.mbox p.2).map fun b=>(p.1,b)) none) ⟨[],m0,tkOf τ⟩ #[] w S (rho0 ρ σ τ):=by
 obtain⟨g1,g2,g3⟩:=hm.get;obtain⟨t1,t2⟩:=zJP ht;have hge:∀b,c.Own b→c.P.globals.size≤b:=fun b hb=>by
  rcases hb with hb|⟨_,hb⟩
  ·exact Nat.le_trans h.ex.1 hb
  ·exact hb
 refine{size:=rfl,slots:=fun k=>trivial,mem:=?_,inj:=?_,boxNew:=?_,mps:=?_,tok:=?_,tokNew:=?_,below:=BelowO.refl _,old:=fun _ _ hs=>hs,new:=fun _ _ hs=>.inl hs,live:=h.live,glob:=h.glob,ex:=h.exact,
        fx:=fun k hk=>(by cases hk),obs:=fun p hp=>(by cases hp),keeps:=fun p hp=>(by cases hp),pins:=⟨fun p hp=>⟨Nat.zero_le _,fun b hb=>?_⟩,fun p hp=>⟨Nat.zero_le _,fun b hb=>?_⟩⟩}
 ·intro s cs0 hs hnm;obtain⟨s',cs,e1,e2,⟨e3,_⟩|⟨_,e4,e5⟩⟩:=g1 s cs0 hs
  ·rw[hnm]at e3;cases e3
  ·obtain⟨b,vs,e,k1,k2,k3,k4,k6⟩:=h.mem s' cs e2 e4;exact⟨b,vs,e,by simp only[rho0,e1,Option.bind_some];exact k1,.inr ⟨yZb e1 k1,hge b k2⟩,k3,Matches.sound k4 e5,k6⟩
 ·intro s s' b hb hb';simp only[rho0,Option.bind_eq_some_iff]at hb hb';obtain⟨u,e1,e2⟩:=hb;obtain⟨u',e1',e2'⟩:=hb';obtain rfl:=h.inj u u' b e2 e2';exact zJS hs2 (zxW e1) (zxW e1')
 ·intro s hs;simp only[rho0,g2 s hs,Option.bind_none]
 ·refine{at':=?_,inj:=?_,new:=?_,lt:=?_,apart:=?_}
  ·intro s k e kvs hs;obtain⟨s',cs,e1,e2,⟨_,rfl⟩|⟨e3,_⟩⟩:=g1 s _ hs
   ·obtain⟨b,k1,k2,k3,k4⟩:=h.mps.at' s' k e kvs e2;exact⟨b,by simp only[rho0,e1,Option.bind_some];exact k1,by simp only[rho0,e1,Option.bind_some];exact k2,.inr ⟨yvy e1 k1,hge b k3⟩,k4⟩
   ·cases e3
  ·intro s s' b hb hb';simp only[rho0,Option.bind_eq_some_iff]at hb hb';obtain⟨u,e1,e2⟩:=hb;obtain⟨u',e1',e2'⟩:=hb';obtain rfl:=h.mps.inj u u' b e2 e2';exact zJS hs2 (zxW e1) (zxW e1')
  ·intro s hs;simp only[rho0,g2 s hs,Option.bind_none]
  ·intro s b hb;simp only[rho0,Option.bind_eq_some_iff]at hb;obtain⟨u,_,e2⟩:=hb;exact h.mps.lt u b e2
  ·intro s b hb;simp only[rho0,Option.bind_eq_some_iff]at hb;obtain⟨u,e1,e2⟩:=hb;simp only[rho0,e1,Option.bind_some];exact h.mps.apart u b e2
 ·intro t hlive;simp only at hlive;rw[zwO]at hlive;cases htu:getTM τ t with
  |none=>rw[htu]at hlive;cases hlive
  |some u=>
   obtain⟨x,k1,k2⟩:=h.tok u (t1 t u htu).1;refine⟨x,by simp only[rho0,htu,Option.bind_some];exact k1,?_⟩;by_cases hfull:x.2.1=x.2.2.1
   ·exact .inl hfull
   rcases k2 with k2|⟨b,q0,q1,q2,q3,q4,q5,q6,q7⟩
   ·exact .inl k2
   ·refine .inr ⟨b,q0,.inr ⟨yZc htu (by rw[k1,←q0]) hfull,hge b q1⟩,q2,q3,q4,q5,fun s hsb=>?_,fun t' b' y hne ht' htok hy=>?_⟩
    ·simp only[rho0,Option.bind_eq_some_iff]at hsb;obtain⟨s',_,e2⟩:=hsb;exact q6 s' e2
    ·simp only[rho0,Option.bind_eq_some_iff]at htok;obtain⟨u',e1,e2⟩:=htok;refine q7 u' b' y (fun e=>hne ?_) (t1 t' u' e1).1 e2 hy;subst e;exact t2 t' t u' e1 htu
 ·intro t hn;simp only at hn;rw[zwO]at hn;cases htu:getTM τ t with
  |none=>simp only[rho0,htu,Option.bind_none]
  |some u=>rw[htu]at hn;cases hn
 ·obtain⟨q,hq,e⟩:=List.mem_filterMap.1 hp;rw[Option.map_eq_some_iff]at e;obtain⟨b0,e1,rfl⟩:=e;simp only[rho0,zkK hs1 (show(q.1,q.2)∈σ from hq),Option.bind_some]at hb;exact Option.some.inj (hb.symm.trans e1)
 ·obtain⟨q,hq,e⟩:=List.mem_filterMap.1 hp;rw[Option.map_eq_some_iff]at e;obtain⟨b0,e1,rfl⟩:=e;simp only[rho0,zkK hs1 (show(q.1,q.2)∈σ from hq),Option.bind_some]at hb;exact Option.some.inj (hb.symm.trans e1)
end Go.Abs
end
section
namespace Go.Abs
open Go.RowKit
variable{c:Ctx}{st:St}{tmps:Array Value}{w:World}{S:Safe}{ρ:Rho}
def invTM:TMap→Nat→Option Nat
 |[],_=>none
 |(t,u)::l,i=>if u=i then some t else invTM l i
theorem zKr:∀{σ} {s u},invTM σ u=some s→(s,u)∈σ
 |(k,v)::l,s,u,h=>by
  simp only[invTM]at h;split at h
  ·rename_i hk;subst hk;cases h;exact List.mem_cons_self
  ·exact List.mem_cons_of_mem _ (zKr h)
theorem ykp:∀{σ} {s u},noTwice (σ.map (·.2))=true→(s,u)∈σ→invTM σ u=some s
 |(k,v)::l,s,u,hn,h=>by
  obtain⟨h1,h2⟩:=zWx (by simpa using hn);simp only[invTM];rcases List.mem_cons.1 h with e|h
  ·cases e;rw[if_pos rfl]
  ·rw[if_neg]
   ·exact ykp h2 h
   ·rintro rfl;exact h1 (List.mem_map.2 ⟨_,h,rfl⟩)
theorem yyG{σ u}(h:invTM σ u=none):∀s,(s,u)∉σ:=by
 induction σ with
 |nil=>intro s hs;cases hs
 |cons p l ih=>
  obtain⟨k,v⟩:=p;simp only[invTM]at h;split at h
  ·cases h
  ·rename_i hk;intro s hs;rcases List.mem_cons.1 hs with e|hs
   ·cases e;exact hk rfl
   ·exact ih h s hs
theorem yqf:∀{τ} {tk} {t u},fresh1 tk τ→(t,u)∈τ→getT tk u=none
 |(k,v)::l,tk,t,u,h,hm=>by
  rcases List.mem_cons.1 hm with e|hm
  ·cases e;exact h.1
  ·exact yqf h.2 hm
theorem zjD:∀(τ) (l) (u),getT (newAll τ++l) u=if(invTM τ u).isSome then some true else getT l u
 |[],l,u=>rfl
 |(k,v)::r,l,u=>by
  by_cases h:v=u
  ·simp[newAll,getT,invTM,h]
  ·simp[newAll,getT,invTM,h,zjD r l u]
theorem zvz:∀(τ) (l) (u),getT (killAll τ++l) u=if(invTM τ u).isSome then some false else getT l u
 |[],l,u=>rfl
 |(k,v)::r,l,u=>by
  by_cases h:v=u
  ·simp[killAll,getT,invTM,h]
  ·simp[killAll,getT,invTM,h,zvz r l u]
theorem yqz:∀{m1 m0} (s),m1.map (·.1)=m0.map (·.1)→m1.map (fun p=>isMp p.2)=m0.map (fun p=>isMp p.2)→(getM m1 s).map isMp=(getM m0 s).map isMp
 |[],[],s,_,_=>rfl
 |(k,a)::m1,(k',b)::m0,s,h,h'=>by
  simp only[List.map_cons,List.cons.injEq]at h h';obtain⟨rfl,h⟩:=h;obtain⟨e,h'⟩:=h';simp only[getM];by_cases hk:k=s
  ·rw[if_pos hk,if_pos hk];simp[e]
  ·rw[if_neg hk,if_neg hk];exact yqz s h h'
 |[],_::_,_,h,_=>by simp at h
 |_::_,[],_,h,_=>by simp at h
theorem yjy{σ τ m s' cs}:∀{m1},(∀p∈m1,∃u,getTM σ p.1=some u)→getM (renMem σ τ m1++m) s'=some cs→
  (∃s0 cs1,getTM σ s0=some s'∧getM m1 s0=some cs1∧cs=cs1.map (AV.ren1 σ τ))∨((∀s0,getTM σ s0=some s'→getM m1 s0=none)∧getM m s'=some cs)
 |[],_,h=>.inr ⟨fun _ _=>rfl,h⟩
 |(k,ck)::r,hn,h=>by
  obtain⟨u,hu⟩:=hn (k,ck) (by simp);simp only[renMem,List.cons_append,getM]at h;rw[hu,Option.getD_some]at h;by_cases he:u=s'
  ·rw[if_pos he]at h;cases h;exact .inl ⟨k,ck,he▸hu,by simp[getM],rfl⟩
  ·rw[if_neg he]at h;rcases yjy (fun p hp=>hn p (by simp[hp])) h with⟨s0,cs1,e1,e2,e3⟩|⟨e1,e2⟩
   ·refine .inl ⟨s0,cs1,e1,?_,e3⟩;simp only[getM];rw[if_neg]
    ·exact e2
    ·intro hk;rw[hk,e1]at hu;exact he (Option.some.inj hu).symm
   ·refine .inr ⟨fun s0 hs0=>?_,e2⟩;simp only[getM];rw[if_neg]
    ·exact e1 s0 hs0
    ·intro hk;rw[hk,hs0]at hu;exact he (Option.some.inj hu).symm
theorem ywh{σ τ m s'}:∀{m1},getM (renMem σ τ m1++m) s'=none→getM m s'=none
 |[],h=>h
 |(k,ck)::r,h=>by
  simp only[renMem,List.cons_append,getM]at h;split at h
  ·cases h
  ·exact ywh h
theorem RepA.ren0{ρ1 ρ2 σ τ1}(hb:∀s b,ρ1.box s=some b→∃s',getTM σ s=some s'∧ρ2.box s'=some b)(hm:∀s b,ρ1.mbox s=some b→∃s',getTM σ s=some s'∧ρ2.mbox s'=some b)
  (ht:∀t x,ρ1.tok t=some x→∃u,getTM τ1 t=some u∧ρ2.tok u=some x) {a} {v} (hk:keep0 a=true) (h:RepA w S ρ1 a v):RepA w S ρ2 (a.ren0 σ τ1) v:=by
 cases a with
 |d x=>exact h
 |full es=>exact h
 |own t sz es=>obtain⟨h1,h2,base,n,cap,h3,h4⟩:=h;obtain⟨u,e1,e2⟩:=ht t _ h3;simp only[AV.ren0,e1,Option.getD_some];exact⟨h1,h2,base,n,cap,e2,h4⟩
 |ptr s off=>obtain⟨b,h1,h2⟩:=h;obtain⟨u,e1,e2⟩:=hb s _ h1;simp only[AV.ren0,e1,Option.getD_some];exact⟨b,e2,h2⟩
 |mref s=>obtain⟨b,h1,h2⟩:=h;obtain⟨u,e1,e2⟩:=hm s _ h1;simp only[AV.ren0,e1,Option.getD_some];exact⟨b,e2,h2⟩
 |vec s esz off n cap=>obtain⟨k1,k2,b,h1,h2⟩:=h;obtain⟨u,e1,e2⟩:=hb s _ h1;simp only[AV.ren0,e1,Option.getD_some];exact⟨k1,k2,b,e2,h2⟩
 |mp k e kvs=>exact h.elim
 |undef=>trivial
 |_=>cases hk
theorem RepAs.ren0{ρ1 ρ2 σ τ1}(hb:∀s b,ρ1.box s=some b→∃s',getTM σ s=some s'∧ρ2.box s'=some b)(hm:∀s b,ρ1.mbox s=some b→∃s',getTM σ s=some s'∧ρ2.mbox s'=some b)
  (ht:∀t x,ρ1.tok t=some x→∃u,getTM τ1 t=some u∧ρ2.tok u=some x):∀{as} {vs},as.all keep0=true→RepAs w S ρ1 as vs→RepAs w S ρ2 (as.map (AV.ren0 σ τ1)) vs
 |[],_,_,h=>h
 |_::_,_,hk,⟨v,r,e,h1,h2⟩=>by simp only[List.all_cons,Bool.and_eq_true]at hk;exact⟨v,r,e,RepA.ren0 hb hm ht hk.1 h1,RepAs.ren0 hb hm ht hk.2 h2⟩
theorem RepA.ren{ρ1 ρ2 σ τ1}(hb:∀s b,ρ1.box s=some b→∃s',getTM σ s=some s'∧ρ2.box s'=some b)(hm:∀s b,ρ1.mbox s=some b→∃s',getTM σ s=some s'∧ρ2.mbox s'=some b)
  (ht:∀t x,ρ1.tok t=some x→∃u,getTM τ1 t=some u∧ρ2.tok u=some x) {a} {v} (hk:keep1 a=true) (h:RepA w S ρ1 a v):RepA w S ρ2 (a.ren1 σ τ1) v:=by
 cases a with
 |clo f cs=>obtain⟨vs,h1,h2⟩:=h;exact⟨vs,h1,RepAs.ren0 hb hm ht hk h2⟩
 |_=>exact(RepA.ren0 hb hm ht (by exact hk) h:RepA w S ρ2 (AV.ren0 σ τ1 _) v)
theorem RepAs.ren{ρ1 ρ2 σ τ1}(hb:∀s b,ρ1.box s=some b→∃s',getTM σ s=some s'∧ρ2.box s'=some b)(hm:∀s b,ρ1.mbox s=some b→∃s',getTM σ s=some s'∧ρ2.mbox s'=some b)
  (ht:∀t x,ρ1.tok t=some x→∃u,getTM τ1 t=some u∧ρ2.tok u=some x):∀{as} {vs},as.all keep1=true→RepAs w S ρ1 as vs→RepAs w S ρ2 (as.map (AV.ren1 σ τ1)) vs
 |[],_,_,h=>h
 |a::as,_,hk,⟨v,r,e,h1,h2⟩=>by simp only[List.all_cons,Bool.and_eq_true]at hk;exact⟨v,r,e,RepA.ren hb hm ht hk.1 h1,RepAs.ren hb hm ht hk.2 h2⟩
theorem yXo:∀{m} {s} {cs},getM m s=some cs→(s,cs)∈m
 |(k,v)::l,s,cs,h=>by
  simp only[getM]at h;split at h
  ·rename_i hk;subst hk;cases h;exact List.mem_cons_self
  ·exact List.mem_cons_of_mem _ (yXo h)
theorem getM_some{m p}(h:p∈m):∃cs,getM m p.1=some cs:=by
 induction m with
 |nil=>cases h
 |cons q m ih=>
  obtain⟨k,v⟩:=q;simp only[getM];by_cases hk:k=p.1
  ·exact⟨v,by rw[if_pos hk]⟩
  ·rw[if_neg hk];rcases List.mem_cons.1 h with e|h
   ·subst e;exact absurd rfl hk
   ·exact ih h
theorem Sim.gotB(h:Sim c st tmps w S ρ){σ τ τ1 m0 m1}(hm:MatchMem st τ σ σ m0)(ht:mpOk st τ [])(hs1:noTwice (σ.map (·.1))=true)(hs2:noTwice (σ.map (·.2))=true)(hτ:noTwice (τ.map (·.1))=true)
  (hn:m1.map (·.1)=m0.map (·.1)) (hkd:m1.map (fun p=>isMp p.2)=m0.map (fun p=>isMp p.2)) (hkp:∀p∈m1,p.2.all keep1=true) (hfr:fresh1 st.tk τ1) (hτ1:noTwice (τ1.map (·.1))=true) (hτ2:noTwice (τ1.map (·.2))=true)
  {w'} {S'} {ρ1} (h1:Sim (ctxB c.P c.G w S (blocksOf ρ σ τ) (σ.filterMap fun p=>(ρ.box p.2).map fun b=>(p.1,b)) (σ.filterMap fun p=>(ρ.mbox p.2).map fun b=>(p.1,b)) (some (w,S))) ⟨[],m1,tkOf τ1⟩ #[] w' S' ρ1):
  ∃ρ2,(ρ.le ρ2∧∀s b,ρ1.box s=some b→∃s',getTM σ s=some s'∧ρ2.box s'=some b)∧Sim c {st with mem:=renMem σ τ1 m1++st.mem,tk:=newAll τ1++(killAll τ++st.tk)} tmps w' S' ρ2:=by
 obtain⟨g1,g2,g3⟩:=hm.get
 obtain⟨t1,t2⟩:=zJP ht
 have hkeep:Keeps w S w' S':=h1.keeps (w,S) rfl
 have cellsOf:∀s' b,ρ.box s'=some b→∃cs vs e,getM st.mem s'=some cs∧isMp cs=false∧c.Own b∧w.heap[b]? =some (.cells vs e (0,0))∧(∀o,¬S b o):=fun s' b hb=>by
  cases hs:getM st.mem s' with
  |none=>rw[h.boxNew s' hs]at hb;cases hb
  |some cs=>
   obtain⟨b',vs,e,k1,k2,k3,_,k6⟩:=h.mem s' cs hs (h.noMp hb hs)
   rw[hb]at k1;cases k1
   exact⟨cs,vs,e,rfl,h.noMp hb hs,k2,k3,k6⟩
 have mapOf:∀s' b,ρ.mbox s'=some b→c.Own b∧∃es clock,w.heap[b]? =some (.map es clock):=fun s' b hb=>by
  cases hs:getM st.mem s' with
  |none=>rw[h.mps.new s' hs]at hb;cases hb
  |some cs=>
   cases hmp:isMp cs with
   |false=>
    obtain⟨b',vs,e,k1,_⟩:=h.mem s' cs hs hmp
    rw[h.mps.apart s' b' k1]at hb;cases hb
   |true=>
    obtain⟨k,e,kvs,rfl⟩:=zxX.1 hmp
    obtain⟨b',k1,_,k3,k4⟩:=h.mps.at' s' k e kvs hs
    rw[hb]at k1;cases k1
    exact⟨k3,k4.obj⟩
 have tokOf:∀u a n cap sz,getT st.tk u=some true→ρ.tok u=some (some a,n,cap,sz)→n≠cap→a=⟨a.block,0,none⟩∧c.Own a.block∧(∃cur e,w.heap[a.block]? =some (.cells cur e (0,0)))∧(∀s,ρ.box s≠some a.block)∧
   ∀t' b' y,t'≠u→getT st.tk t'=some true→ρ.tok t'=some (some ⟨b',0,none⟩,y)→y.1≠y.2.1→b'≠a.block:=fun u a n cap sz hu hx hne=>by
  obtain⟨x,k1,k2⟩:=h.tok u hu
  rw[hx]at k1;cases k1
  rcases k2 with k2|⟨b,q0,q1,⟨cur,e,q2,_⟩,_,_,_,q6,q7⟩
  ·exact absurd k2 hne
  ·cases q0
   exact⟨rfl,q1,⟨cur,e,q2⟩,q6,q7⟩
 have hX:∀b∈blocksOf ρ σ τ,c.Own b∧b<w.heap.size:=fun b hb=>by
  rcases zvv hτ hb with⟨s,s',_,e⟩|⟨s,s',_,e⟩|⟨t,u,a,n,cap,sz,e1,e2,e3,rfl⟩
  ·obtain⟨cs,vs,_,_,_,k2,k3,_⟩:=cellsOf s' b e
   exact⟨k2,(Array.getElem?_eq_some_iff.1 k3).1⟩
  ·obtain⟨k1,es,clock,k3⟩:=mapOf s' b e
   exact⟨k1,(Array.getElem?_eq_some_iff.1 k3).1⟩
  ·obtain⟨_,k1,⟨cur,e,k3⟩,_⟩:=tokOf u a n cap sz (t1 t u e1).1 e2 e3
   exact⟨k1,(Array.getElem?_eq_some_iff.1 k3).1⟩
 have own1:∀b,(ctxB c.P c.G w S (blocksOf ρ σ τ) (σ.filterMap fun p=>(ρ.box p.2).map fun b=>(p.1,b)) (σ.filterMap fun p=>(ρ.mbox p.2).map fun b=>(p.1,b)) (some (w,S))).Own b→c.Own b∧(w.heap.size≤b∨b∈blocksOf ρ σ τ):=fun b hb=>by
  rcases hb with hb|⟨hb,_⟩
  ·exact⟨.inl (Nat.le_trans h.below.size hb),.inl hb⟩
  ·exact⟨(hX b hb).1,.inr hb⟩
 have nbox:∀s' b,ρ.box s'=some b→(∀s,(s,s')∉σ)→b∉blocksOf ρ σ τ:=fun s' b hb hno hm=>by
  obtain⟨cs,vs,e,_,_,_,k3,_⟩:=cellsOf s' b hb
  rcases zvv hτ hm with⟨s,s2,hs,e2⟩|⟨s,s2,hs,e2⟩|⟨t,u,a,n,cap,sz,e1,e2,e3,rfl⟩
  ·obtain rfl:=h.inj s' s2 b hb e2
   exact hno s hs
  ·obtain⟨_,es,clock,k4⟩:=mapOf s2 b e2
   rw[k3]at k4;cases k4
  ·obtain⟨_,_,_,k4,_⟩:=tokOf u a n cap sz (t1 t u e1).1 e2 e3
   exact k4 s' hb
 have nmap:∀s' b,ρ.mbox s'=some b→(∀s,(s,s')∉σ)→b∉blocksOf ρ σ τ:=fun s' b hb hno hm=>by
  obtain⟨_,es,clock,k3⟩:=mapOf s' b hb
  rcases zvv hτ hm with⟨s,s2,hs,e2⟩|⟨s,s2,hs,e2⟩|⟨t,u,a,n,cap,sz,e1,e2,e3,rfl⟩
  ·obtain⟨cs,vs,e,_,_,_,k4,_⟩:=cellsOf s2 b e2
   rw[k3]at k4;cases k4
  ·obtain rfl:=h.mps.inj s' s2 b hb e2
   exact hno s hs
  ·obtain⟨_,_,⟨cur,e,k4⟩,_⟩:=tokOf u a n cap sz (t1 t u e1).1 e2 e3
   rw[k3]at k4;cases k4
 have ntok:∀u a n cap sz,getT st.tk u=some true→ρ.tok u=some (some a,n,cap,sz)→n≠cap→(∀t,(t,u)∉τ)→a.block∉blocksOf ρ σ τ:=fun u a n cap sz hu hx hne hno hm=>by
  obtain⟨ea,_,⟨cur,e,k3⟩,k4,k5⟩:=tokOf u a n cap sz hu hx hne
  rcases zvv hτ hm with⟨s,s2,hs,e2⟩|⟨s,s2,hs,e2⟩|⟨t,u2,a2,n2,cap2,sz2,e1,e2,e3,e4⟩
  ·exact k4 s2 e2
  ·obtain⟨_,es,clock,k6⟩:=mapOf s2 _ e2
   rw[k3]at k6;cases k6
  ·obtain⟨ea2,_⟩:=tokOf u2 a2 n2 cap2 sz2 (t1 t u2 e1).1 e2 e3
   refine k5 u2 a2.block (n2,cap2,sz2) (fun e=>hno t ?_) (t1 t u2 e1).1 (by rw[e2,←ea2]) e3 e4
   rw[←e];exact zxW e1
 have hblk:∀b x,w.heap[b]? =some x→b∉blocksOf ρ σ τ→w'.heap[b]? =some x:=fun b x hx hno=>by
  rw[h1.below.block b (fun ho=>?_)]
  ·exact hx
  ·rcases(own1 b ho).2 with h2|h2
   ·have:=(Array.getElem?_eq_some_iff.1 hx).1;omega
   ·exact hno h2
 have hnotS:∀b x o,w.heap[b]? =some x→b∉blocksOf ρ σ τ→¬S b o→¬S' b o:=fun b x o hx hno hns hs=>by
  rcases h1.new b o hs with h2|h2
  ·exact hns h2
  ·rcases(own1 b h2).2 with h3|h3
   ·have:=(Array.getElem?_eq_some_iff.1 hx).1;omega
   ·exact hno h3
 have hkinds:=fun s=>yqz (m1:=m1) (m0:=m0) s hn hkd
 have hdom:∀s cs1,getM m1 s=some cs1→∃s' cs,getTM σ s=some s'∧getM st.mem s'=some cs∧isMp cs=isMp cs1∧(isMp cs1=true→∃k e kvs,getM st.mem s'=some [.mp k e kvs]):=fun s cs1 hs=>by
  have hk:=hkinds s
  rw[hs]at hk
  cases h0:getM m0 s with
  |none=>rw[h0]at hk;simp at hk
  |some cs0=>
   rw[h0]at hk
   simp only[Option.map_some,Option.some.injEq]at hk
   obtain⟨s',cs,e1,e2,⟨e3,rfl⟩|⟨e3,e4,_⟩⟩:=g1 s cs0 h0
   ·refine⟨s',cs,e1,e2,hk.symm,fun _=>?_⟩
    obtain⟨k,e,kvs,rfl⟩:=zxX.1 e3
    exact⟨k,e,kvs,e2⟩
   ·refine⟨s',cs,e1,e2,by rw[e4,hk,e3],fun hh=>?_⟩
    rw[hk,e3]at hh;cases hh
 have hpinB:∀s b,ρ1.box s=some b→∃s',getTM σ s=some s'∧ρ.box s'=some b:=fun s b hb=>by
  cases hs:getM m1 s with
  |none=>rw[h1.boxNew s hs]at hb;cases hb
  |some cs1=>
   have hnm:isMp cs1=false:=h1.noMp hb hs
   obtain⟨s',cs,e1,e2,e3,_⟩:=hdom s cs1 hs
   rw[hnm]at e3
   obtain⟨b0,vs,e,k1,_⟩:=h.mem s' cs e2 e3
   have hp:(s,b0)∈σ.filterMap fun p=>(ρ.box p.2).map fun b=>(p.1,b):=List.mem_filterMap.2 ⟨(s,s'),zxW e1,by simp only[k1,Option.map_some]⟩
   have:=(h1.pins.1 (s,b0) hp).2 b hb
   exact⟨s',e1,by rw[k1,this]⟩
 have hpinM:∀s b,ρ1.mbox s=some b→∃s',getTM σ s=some s'∧ρ.mbox s'=some b:=fun s b hb=>by
  cases hs:getM m1 s with
  |none=>rw[h1.mps.new s hs]at hb;cases hb
  |some cs1=>
   have hnm:isMp cs1=true:=by
    cases hmp:isMp cs1 with
    |true=>rfl
    |false=>
     obtain⟨b',vs,e,k1,_⟩:=h1.mem s cs1 hs hmp
     rw[h1.mps.apart s b' k1]at hb;cases hb
   obtain⟨s',cs,e1,e2,e3,e4⟩:=hdom s cs1 hs
   obtain⟨k,e,kvs,e5⟩:=e4 hnm
   obtain⟨b0,k1,_⟩:=h.mps.at' s' k e kvs e5
   have hp:(s,b0)∈σ.filterMap fun p=>(ρ.mbox p.2).map fun b=>(p.1,b):=List.mem_filterMap.2 ⟨(s,s'),zxW e1,by simp only[k1,Option.map_some]⟩
   have:=(h1.pins.2 (s,b0) hp).2 b hb
   exact⟨s',e1,by rw[k1,this]⟩
 have hfresh:∀t u,(t,u)∈τ1→ρ.tok u=none:=fun t u hu=>h.tokNew u (yqf hfr hu)
 let ρ2:Rho:={ρ with tok:=fun u=>match invTM τ1 u with|some t=>ρ1.tok t|none=>ρ.tok u}
 have hle:ρ.le ρ2:=by
  refine⟨fun _ _ h=>h,fun u x hx=>?_,fun _ _ h=>h⟩
  show(match invTM τ1 u with|some t=>ρ1.tok t|none=>ρ.tok u)=some x
  cases hi:invTM τ1 u with
  |none=>exact hx
  |some t=>rw[hfresh t u (zKr hi)]at hx;cases hx
 have hnewTok:∀t x,ρ1.tok t=some x→∃u,getTM τ1 t=some u∧ρ2.tok u=some x:=fun t x hx=>by
  cases hg:getTM τ1 t with
  |none=>
   have:=h1.tokNew t (by simp only;rw[zwO,hg];rfl)
   rw[this]at hx;cases hx
  |some u=>
   refine⟨u,rfl,?_⟩
   show(match invTM τ1 u with|some t=>ρ1.tok t|none=>ρ.tok u)=some x
   rw[ykp hτ2 (zxW hg)]
   exact hx
 have oldTok:∀u,invTM τ1 u=none→ρ2.tok u=ρ.tok u:=fun u hu=>by
  show(match invTM τ1 u with|some t=>ρ1.tok t|none=>ρ.tok u)=ρ.tok u
  rw[hu]
 have newTok':∀u t,invTM τ1 u=some t→ρ2.tok u=ρ1.tok t:=fun u t hu=>by
  show(match invTM τ1 u with|some t=>ρ1.tok t|none=>ρ.tok u)=ρ1.tok t
  rw[hu]
 have hnames:∀p∈m1,∃u,getTM σ p.1=some u:=fun p hp=>by
  obtain⟨cs,hcs⟩:=getM_some hp
  obtain⟨s',_,e1,_⟩:=hdom p.1 cs hcs
  exact⟨s',e1⟩
 have hpassed:∀s',(∀s0,getTM σ s0=some s'→getM m1 s0=none)→∀s,(s,s')∉σ:=fun s' hs s hmem=>by
  have e1:=zkK hs1 hmem
  have e2:=hs s e1
  have hk:=hkinds s
  rw[e2]at hk
  cases h0:getM m0 s with
  |none=>rw[g2 s h0]at e1;cases e1
  |some cs0=>rw[h0]at hk;simp at hk
 refine⟨ρ2,⟨hle,hpinB⟩,?_⟩
 refine{size:=h.size,slots:=fun k=>(h.slots k).keep hkeep hle,mem:=?_,inj:=h.inj,boxNew:=fun s hs=>h.boxNew s (ywh hs),mps:=?_,tok:=?_,tokNew:=?_,below:=?_,old:=fun b o hs=>(hkeep b o (h.old b o hs)).1,new:=?_,live:=h1.live,glob:=fun g cs hg=>RepCs.keep hkeep g 0 cs (h.glob g cs hg),
        fx:=h.fx,ex:=h.ex,obs:=fun p hp=>⟨?_,(h.obs p hp).2⟩,keeps:=fun p hp=>(h.keeps p hp).trans hkeep,pins:=h.pins}
 ·intro s' cs hs hnm
  rcases yjy hnames hs with⟨s0,cs1,e1,e2,rfl⟩|⟨e1,e2⟩
  ·have hnm1:isMp cs1=false:=by
     cases hmp:isMp cs1 with
     |false=>rfl
     |true=>obtain⟨k,e,kvs,rfl⟩:=zxX.1 hmp;cases hnm
   obtain⟨b,vs,e,k1,k2,k3,k4,k6⟩:=h1.mem s0 cs1 e2 hnm1
   obtain⟨s2,q1,q2⟩:=hpinB s0 b k1
   rw[e1]at q1;cases q1
   exact⟨b,vs,e,q2,(own1 b k2).1,k3,RepAs.ren (ρ2:=ρ2) hpinB hpinM hnewTok (hkp _ (yXo e2)) k4,k6⟩
  ·obtain⟨b,vs,e,k1,k2,k3,k4,k6⟩:=h.mem s' cs e2 hnm
   have hno:=nbox s' b k1 (hpassed s' e1)
   exact⟨b,vs,e,k1,k2,hblk _ _ k3 hno,RepAs.keep hkeep hle cs _ k4,fun o=>hnotS b _ o k3 hno (k6 o)⟩
 ·refine{at':=?_,inj:=h.mps.inj,new:=fun s hs=>h.mps.new s (ywh hs),lt:=fun s b hb=>Nat.lt_of_lt_of_le (h.mps.lt s b hb) h1.below.size,apart:=h.mps.apart}
  intro s' k e kvs hs
  rcases yjy hnames hs with⟨s0,cs1,e1,e2,e3⟩|⟨e1,e2⟩
  ·have hc1:cs1=[.mp k e kvs]:=by
     cases cs1 with
     |nil=>cases e3
     |cons a r=>
      cases r with
      |cons b r=>simp at e3
      |nil=>
       simp only[List.map_cons,List.map_nil,List.cons.injEq,and_true]at e3
       cases a<;>simp only[AV.ren1,AV.ren0,reduceCtorEq]at e3
       rw[e3]
   subst hc1
   obtain⟨b,k1,k2,k3,k4⟩:=h1.mps.at' s0 k e kvs e2
   obtain⟨s2,q1,q2⟩:=hpinM s0 b k1
   rw[e1]at q1;cases q1
   refine⟨b,q2,?_,(own1 b k3).1,k4⟩
   show ρ.box s'=none
   cases hbx:ρ.box s' with
   |none=>rfl
   |some b'=>rw[h.mps.apart s' b' hbx]at q2;cases q2
  ·obtain⟨b,k1,k2,k3,k4⟩:=h.mps.at' s' k e kvs e2
   have hno:=nmap s' b k1 (hpassed s' e1)
   obtain⟨es,clock,k5⟩:=k4.obj
   exact⟨b,k1,k2,k3,k4.to hkeep ((hblk b _ k5 hno).trans k5.symm)⟩
 ·intro u hu
  simp only at hu
  rw[zjD]at hu
  cases hi:invTM τ1 u with
  |some t=>
   have htm:=zkK hτ1 (zKr hi)
   obtain⟨x,k1,k2⟩:=h1.tok t (by simp only;rw[zwO,htm];rfl)
   refine⟨x,by rw[newTok' u t hi];exact k1,?_⟩
   by_cases hfull:x.2.1=x.2.2.1
   ·exact .inl hfull
   rcases k2 with k2|⟨b,q0,q1,q2,q3,q4,q5,q6,q7⟩
   ·exact .inl k2
   ·refine .inr ⟨b,q0,(own1 b q1).1,q2,q3,q4,q5,fun s hsb=>?_,fun u' b' y hne hu' htok hy=>?_⟩
    ·by_cases hp:∃s0,(s0,s)∈σ
     ·obtain⟨s0,hs0⟩:=hp
      obtain⟨cs,vs,e,w1,w2,w3,w4,w5⟩:=cellsOf s b hsb
      have e1:=zkK hs1 hs0
      cases hm1:getM m1 s0 with
      |none=>exact hpassed s (fun s2 hs2'=>by
        have:s2=s0:=zJS hs2 (zxW hs2') hs0
        rw[this];exact hm1) s0 hs0
      |some cs1=>
       obtain⟨s2,cs2,f1,f2,f3,_⟩:=hdom s0 cs1 hm1
       rw[e1]at f1;cases f1
       rw[w1]at f2;cases f2
       rw[w2]at f3
       obtain⟨b2,vs2,e2',z1,_⟩:=h1.mem s0 cs1 hm1 f3.symm
       obtain⟨s3,z2,z3⟩:=hpinB s0 b2 z1
       rw[e1]at z2;cases z2
       rw[hsb]at z3;cases z3
       exact q6 s0 z1
     ·have hno:=nbox s b hsb (fun s0 hs0=>hp ⟨s0,hs0⟩)
      have hlt:=h.yJw hsb
      rcases(own1 b q1).2 with h2|h2
      ·omega
      ·exact hno h2
    ·simp only at hu'
     rw[zjD]at hu'
     cases hi':invTM τ1 u' with
     |some t'=>
      rw[newTok' u' t' hi']at htok
      have htm':=zkK hτ1 (zKr hi')
      refine q7 t' b' y (fun e=>hne ?_) (by simp only;rw[zwO,htm'];rfl) htok hy
      rw[e,htm]at htm'
      exact(Option.some.inj htm').symm
     |none=>
      rw[hi']at hu'
      simp only[Option.isSome_none,Bool.false_eq_true,if_false]at hu'
      rw[zvz]at hu'
      cases hk:invTM τ u' with
      |some t'=>rw[hk]at hu';simp at hu'
      |none=>
       rw[hk]at hu'
       simp only[Option.isSome_none,Bool.false_eq_true,if_false]at hu'
       rw[oldTok u' hi']at htok
       obtain⟨n,cap,sz⟩:=y
       have hno:=ntok u' ⟨b',0,none⟩ n cap sz hu' htok hy (yyG hk)
       have hlt:=h.yJR hu' htok hy
       intro e
       subst e
       rcases(own1 _ q1).2 with h2|h2
       ·omega
       ·exact hno h2
  |none=>
   rw[hi]at hu
   simp only[Option.isSome_none,Bool.false_eq_true,if_false]at hu
   rw[zvz]at hu
   cases hk:invTM τ u with
   |some t=>rw[hk]at hu;simp at hu
   |none=>
    rw[hk]at hu
    simp only[Option.isSome_none,Bool.false_eq_true,if_false]at hu
    obtain⟨x,k1,k2⟩:=h.tok u hu
    refine⟨x,by rw[oldTok u hi];exact k1,?_⟩
    by_cases hfull:x.2.1=x.2.2.1
    ·exact .inl hfull
    rcases k2 with k2|⟨b,q0,q1,⟨cur,e,q2,q2'⟩,q3,q4,q5,q6,q7⟩
    ·exact .inl k2
    ·obtain⟨base,n,cap,sz⟩:=x
     simp only at q0
     subst q0
     have hno:=ntok u ⟨b,0,none⟩ n cap sz hu k1 hfull (yyG hk)
     have hlt:=(Array.getElem?_eq_some_iff.1 q2).1
     refine .inr ⟨b,rfl,q1,⟨cur,e,hblk _ _ q2 hno,q2'⟩,q3,q4,fun o ho=>hnotS b _ o q2 hno (q5 o ho),q6,fun u' b' y hne hu' htok hy=>?_⟩
     simp only at hu'
     rw[zjD]at hu'
     cases hi':invTM τ1 u' with
     |some t'=>
      rw[newTok' u' t' hi']at htok
      have htm':=zkK hτ1 (zKr hi')
      obtain⟨x',j1,j2⟩:=h1.tok t' (by simp only;rw[zwO,htm'];rfl)
      rw[htok]at j1
      cases j1
      rcases j2 with j2|⟨b2,p0,p1,_⟩
      ·exact absurd j2 hy
      ·cases p0
       intro e
       subst e
       rcases(own1 _ p1).2 with h2|h2
       ·omega
       ·exact hno h2
     |none=>
      rw[hi']at hu'
      simp only[Option.isSome_none,Bool.false_eq_true,if_false]at hu'
      rw[zvz]at hu'
      cases hk':invTM τ u' with
      |some t'=>rw[hk']at hu';simp at hu'
      |none=>
       rw[hk']at hu'
       simp only[Option.isSome_none,Bool.false_eq_true,if_false]at hu'
       rw[oldTok u' hi']at htok
       exact q7 u' b' y hne hu' htok hy
 ·intro u hu
  simp only at hu
  rw[zjD]at hu
  cases hi:invTM τ1 u with
  |some t=>rw[hi]at hu;simp at hu
  |none=>
   rw[hi]at hu
   simp only[Option.isSome_none,Bool.false_eq_true,if_false]at hu
   rw[zvz]at hu
   rw[oldTok u hi]
   cases hk:invTM τ u with
   |some t=>rw[hk]at hu;simp at hu
   |none=>
    rw[hk]at hu
    simp only[Option.isSome_none,Bool.false_eq_true,if_false]at hu
    exact h.tokNew u hu
 ·refine⟨h1.below.os.trans h.below.os,h1.below.tape.trans h.below.tape,h1.below.output.trans h.below.output,Nat.le_trans h.below.size h1.below.size,fun k hno=>?_⟩
  exact(h1.below.block k fun ho=>hno (own1 k ho).1).trans (h.below.block k hno)
 ·intro b o hs
  rcases h1.new b o hs with h2|h2
  ·exact h.new b o h2
  ·exact .inr (own1 b h2).1
 ·refine hblk _ _ (h.obs p hp).1 fun hm=>?_
  have h3:=h.obs p hp
  rcases zvv hτ hm with⟨s,s',_,e⟩|⟨s,s',_,e⟩|⟨t,u,a,n,cap,sz,e1,e2,e3,e4⟩
  ·obtain⟨cs,vs,_,_,_,_,k3,_⟩:=cellsOf s' _ e
   rw[k3]at h3
   have h5:=h3.2
   rw[←Option.some.inj h3.1]at h5;cases h5
  ·obtain⟨_,es,clock,k3⟩:=mapOf s' _ e
   rw[k3]at h3
   have h5:=h3.2
   rw[←Option.some.inj h3.1]at h5;cases h5
  ·obtain⟨_,_,⟨cur,e,k3⟩,_⟩:=tokOf u a n cap sz (t1 t u e1).1 e2 e3
   rw[e4]at k3
   rw[k3]at h3
   have h5:=h3.2
   rw[←Option.some.inj h3.1]at h5;cases h5
end Go.Abs
end
section
namespace Go.Abs
open Go.RowKit
variable{c:Ctx}{st:St}{tmps:Array Value}{w:World}{S:Safe}{ρ:Rho}
theorem yZ5{as l}(h:RepAs w S ρ as l)(hne:as≠[]):∃v,l[0]? =some v∧RepA w S ρ (as.headD .undef) v:=by
 cases as with
 |nil=>exact absurd rfl hne
 |cons a as=>obtain⟨v,r,rfl,h1,_⟩:=h;exact⟨v,rfl,h1⟩
theorem xzj(h:Sim c st tmps w S ρ){o t zs fs}(ht:chkTy c.P t (.agg zs fs)=true){x x' i fd ds}
  (ho:o.op=.field t x i) (hx:trX x=some x') (hfd:fs[i]? =some fd) (hg:gd st x'=true) {cs} (hs:ev st x'=.agg cs) (hob:fd.1+fd.2.1≤cs.length):
  ∃cv,(execOp (Act.eval ⟨tmps,ds⟩) o).run c.P w=.ok (.value cv) w∧RepA w S ρ (asOne fd.2.2 ((cs.drop fd.1).take fd.2.1)) cv:=by
 have e1:=h.ev hx hg (ds:=ds);rw[hs]at e1;obtain⟨vs,hv,hr⟩:=e1;obtain⟨fields,hu,hfo⟩:=zJX ht;obtain⟨f,ti,hf,hoff,hti,hsz,hnz,hna,hund⟩:=zYu hfo hfd;have hf':fields[i]? =some f:=by simpa using hf
 have hag:=zKL (P:=c.P) w hna hund;have hr2:=(hr.drop fd.1).take fd.2.1;have hlen:=RepAs.length hr;have hlv:vs.size=cs.length:=by simpa using hlen
 cases hb:fd.2.2 with
 |true=>
  rw[hb]at hag;refine⟨.agg (vs.extract fd.1 (fd.1+fd.2.1)),?_,⟨_,rfl,?_⟩⟩
  ·unfold execOp;simp only[ho,hv];simp[Instr.field,run_underlying hu,hf',part,asAgg,hag,run_sizeOf hti,hsz,hoff]
  ·have:(vs.extract fd.1 (fd.1+fd.2.1)).toList=(vs.toList.drop fd.1).take fd.2.1:=by rw[Array.toList_extract];simp[List.extract]
   rw[this];exact hr2
 |false=>
  rw[hb]at hag;have hne:(cs.drop fd.1).take fd.2.1≠[]:=by intro e;have:=congrArg List.length e;rw[List.length_take,List.length_drop,List.length_nil]at this;rw[hsz]at hnz;omega
  obtain⟨v,h1,h2⟩:=yZ5 hr2 hne;have hget:vs[fd.1]? =some v:=by
   have:((vs.toList.drop fd.1).take fd.2.1)[0]? =vs.toList[fd.1]? :=by rw[List.getElem?_take,if_pos (by rw[hsz]at hnz;omega),List.getElem?_drop];simp
   rw[this]at h1;simpa using h1
  refine⟨v,?_,h2⟩;unfold execOp;simp only[ho,hv];simp[Instr.field,run_underlying hu,hf',part,asAgg,hag,hoff,hget]
theorem zJ0{P t n esz eagg zs}(ht:chkTy P t (.arr n esz eagg zs)=true):∃e ie,P.underlying t=some (.array n e)∧P.info? e=some ie∧ie.size=esz:=by
 simp only[chkTy,Bool.and_eq_true]at ht;obtain⟨_,ht⟩:=ht;split at ht
 ·rename_i m e i hu hi;simp only[Bool.and_eq_true,beq_iff_eq]at ht;obtain⟨⟨⟨⟨⟨h0,h1⟩,h2⟩,h3⟩,h4⟩,h5⟩:=ht;cases hie:P.info? e with
  |none=>simp[hie]at h3
  |some ie=>simp only[hie,beq_iff_eq]at h3;exact⟨e,ie,by rw[hu,h0],hie,h3⟩
 ·cases ht
theorem trPartsA{esz}(h:Sim c st tmps w S ρ){ds}:∀{ps:List (Nat×Operand)} {xs},
  (ps.mapM fun p=>do pure (p.1*esz,esz,←trX p.2))=some xs→gdParts st xs=true→
  PartsOk w S ρ (fun i=>some (i*esz,esz)) (evParts st xs) (ps.map fun p=>(p.1,Act.eval ⟨tmps,ds⟩ p.2))
 |[],xs,hx,_=>by simp at hx;subst hx;rfl
 |(i,x)::ps,xs,hx,hg=>by simp only[List.mapM_cons,Option.bind_eq_bind,Option.bind_eq_some_iff,Option.pure_def,Option.some.injEq]at hx;obtain⟨a,⟨x',hx',rfl⟩,as,has,rfl⟩:=hx;simp only[gdParts,Bool.and_eq_true]at hg;exact⟨i,_,_,rfl,rfl,h.ev hx' hg.1,trPartsA h has hg.2⟩
theorem yWe(h:Sim c st tmps w S ρ){o t n esz eagg zs}(ht:chkTy c.P t (.arr n esz eagg zs)=true){parts xs ds}
  (ho:o.op=.build t parts) (hx:(parts.toList.mapM fun p=>do pure (p.1*esz,esz,←trX p.2))=some xs) (hg:gdParts st xs=true) {cs} (hr:fillA zs (evParts st xs)=some cs):
  ∃cv,(execOp (Act.eval ⟨tmps,ds⟩) o).run c.P w=.ok (.value cv) w∧RepA w S ρ (.agg cs) cv:=by
 obtain⟨e,ie,hu,hie,hes⟩:=zJ0 ht;obtain⟨i,z,hi,hz,hsz,_,_,hzs⟩:=zZZ ht;obtain⟨cells',h1,h2⟩:=yxH (trPartsA h (ds:=ds) hx hg) (zXM w S ρ hzs) hr;refine⟨.agg cells',?_,⟨_,rfl,h2⟩⟩;unfold execOp;simp only[ho];simp only[Instr.build,Sem.run_bind,zKM hi hz,run_underlying hu,Result.andThen_ok,run_sizeOf hie,hes];have hfill:Instr.fill (fun i=>some (i*esz,esz)) z.cells (parts.map fun x=>(x.1,Act.eval ⟨tmps,ds⟩ x.2)).toList=some cells':=by rw[←h1];congr 1;exact Array.toList_map
 simp only[hfill];simp
theorem zVD{n esz d x y i}(h:trArr n esz d x y=some i):∃kk k,y=.const (.int kk k)∧(0≤k∧k<(n:Int))∧i=.fa d (k.toNat*esz) x:=by
 unfold trArr at h;split at h
 ·split at h
  ·rename_i hk;cases h;exact⟨_,_,rfl,hk,rfl⟩
  ·cases h
 ·cases h
theorem ok_ia(h:Sim c st tmps w S ρ){o t n esz eagg zs}(ht:chkTy c.P t (.arr n esz eagg zs)=true){x x' kk}{k:Int}{ds}
  (ho:o.op=.indexAddr t x (.const (.int kk k))) (hx:trX x=some x') (hk:0≤k∧k<n) (hg:gd st x'=true) {r} (hr:opv c.G st (.fa 0 (k.toNat*esz) x')=some r) (hob:r.2.1):
  ∃cv,(execOp (Act.eval ⟨tmps,ds⟩) o).run c.P w=.ok (.value cv) w∧RepA w S ρ r.1 cv:=by
 have e1:=h.ev hx hg (ds:=ds);obtain⟨e,ie,hu,hie,hes⟩:=zJ0 ht;have run:∀b off,(Act.eval ⟨tmps,ds⟩ x)=.pointer (some ⟨b,off,none⟩)→(execOp (Act.eval ⟨tmps,ds⟩) o).run c.P w=.ok (.value (.pointer (some ⟨b,off+k.toNat*esz,none⟩))) w:=by intro b off hv;unfold execOp;simp only[ho,hv];simp[Instr.indexAt,Act.eval,asIntOf,run_underlying hu,Instr.sureAddr,run_sizeOf hie,hes,addr_add,hk.1,hk.2]
 simp only[opv]at hr;split at hr
 ·rename_i s off hev;cases hr;rw[hev]at e1;obtain⟨b,hb,hv⟩:=e1;exact⟨_,run b off hv,b,hb,rfl⟩
 ·rename_i cs hev;cases hr;rw[hev]at e1;obtain⟨b,off,hv,hcs⟩:=e1;exact⟨_,run b off hv,b,_,rfl,RepCs.drop _ hcs⟩
 ·rename_i g off hev;cases hr;rw[hev]at e1;exact⟨_,run g off e1,rfl⟩
 ·cases hr
theorem ok_iv(h:Sim c st tmps w S ρ){o t n esz eagg zs}(ht:chkTy c.P t (.arr n esz eagg zs)=true){x y x' y' ds}
  (ho:o.op=.indexAddr t x y) (hx:trX x=some x') (hy:trX y=some y') (hg:gd st x'=true) (hg2:gd st y'=true) {s off} {kk} {k} (hv:ev st x'=.ptr s off) (hn:ev st y'=.d (.int kk k)) (hk:0≤k∧k<n):
  ∃cv,(execOp (Act.eval ⟨tmps,ds⟩) o).run c.P w=.ok (.value cv) w∧RepA w S ρ (.ptr s (off+k.toNat*esz)) cv:=by
 have e1:=h.ev hx hg (ds:=ds);rw[hv]at e1;obtain⟨b,hb,hxv⟩:=e1;have e2:=h.ev hy hg2 (ds:=ds);rw[hn]at e2;simp only[RepA,Rep]at e2;obtain⟨e,ie,hu,hie,hes⟩:=zJ0 ht;refine⟨.pointer (some ⟨b,off+k.toNat*esz,none⟩),?_,b,hb,rfl⟩;unfold execOp;simp only[ho,hxv,e2];simp[Instr.indexAt,asIntOf,run_underlying hu,Instr.sureAddr,run_sizeOf hie,hes,addr_add,hk.1,hk.2]
theorem yXh{P t z x y a b}(d)(hf:flatU P t z=true)(hx:likeD z x=true)(hy:likeD z y=true)(ha:Rep w S x a)(hb:Rep w S y b):(Op.equalIn (d+1) t a b).run P w=.ok (keyEq x y) w:=by
 cases z<;>cases x<;>simp only[likeD,Bool.false_eq_true]at hx<;>cases y<;>simp only[likeD,Bool.false_eq_true]at hy
 ·
  simp only[flatU]at hf;split at hf
  ·rename_i hu;simp only[Rep]at ha hb;subst ha hb;exact run_equalIn_bool w d t _ _ hu
  ·cases hf
 ·simp only[flatU]at hf;split at hf
  ·rename_i k' hu;simp only[Rep]at ha hb;subst ha hb;have hx:=eq_of_beq hx;have hy:=eq_of_beq hy;subst hx hy;rw[run_equalIn_int w d t _ k' _ _ hu];simp[keyEq]
  ·cases hf
 ·simp only[flatU]at hf;split at hf
  ·rename_i hu;obtain⟨p,rfl,rfl,_⟩:=ha;obtain⟨q,rfl,rfl,_⟩:=hb;rw[run_equalIn_string w d t p q hu,ByteArray.toList_eq,ByteArray.toList_eq];rfl
  ·cases hf
theorem yvS{P t z}(hf:flatU P t z=true):notAgg P t=true∧(P.underlying t).isSome=true:=by
 cases z<;>simp only[flatU,Bool.false_eq_true]at hf<;>(split at hf<;>simp_all[notAgg])
theorem zKC{P t z}(hf:flatU P t z=true){vs k v}(hv:vs[k]? =some v):(part t vs k).run P w=.ok v w:=by obtain⟨h1,h2⟩:=yvS hf;have:=zKL (P:=P) w (ag:=false) (by simpa using h1) h2;simp[part,this,hv]
theorem zWs:∀{zs} {xs},likeDs zs xs=true→xs.length=zs.length
 |[],[],_=>rfl
 |[],_::_,h=>by cases h
 |.d z::zs,[],h=>by cases h
 |.d z::zs,x::xs,h=>by simp only[likeDs,Bool.and_eq_true]at h;rw[List.length_cons,List.length_cons,zWs h.2]
theorem ywX{P}(d)(va vb):∀(fs) (zs) (xs ys) (k),eqFs P k fs zs=true→likeDs zs xs=true→likeDs zs ys=true→RepL w S xs (va.toList.drop k)→RepL w S ys (vb.toList.drop k)→
  (Op.eqFields (d+1) va vb fs).run P w=.ok (eqDs xs ys) w
 |[],[],[],[],k,_,_,_,_,_=>by simp[Op.eqFields,eqDs]
 |f::fs,.d z::zs,x::xs,y::ys,k,hf,hx,hy,ha,hb=>by
  simp only[eqFs,Bool.and_eq_true,bne_iff_ne,ne_eq,beq_iff_eq]at hf;obtain⟨⟨⟨f1,f2⟩,f3⟩,f4⟩:=hf;simp only[likeDs,Bool.and_eq_true]at hx hy;obtain⟨v,r,e1,a1,a2⟩:=ha;obtain⟨u,q,e2,b1,b2⟩:=hb;have g1:va[k]? =some v:=by have:=congrArg (fun l:List Value=>l[0]?) e1;simpa[List.getElem?_drop]using this
  have g2:vb[k]? =some u:=by have:=congrArg (fun l:List Value=>l[0]?) e2;simpa[List.getElem?_drop]using this
  have t1:va.toList.drop (k+1)=r:=by rw[←List.drop_drop,e1];rfl
  have t2:vb.toList.drop (k+1)=q:=by rw[←List.drop_drop,e2];rfl
  have ih:=ywX d va vb fs zs xs ys (k+1) f4 hx.2 hy.2 (by rw[t1];exact a2) (by rw[t2];exact b2);simp only[Op.eqFields,f1,ne_eq,not_false_eq_true,if_true,Sem.run_bind,f2,zKC f3 g1,zKC f3 g2,Result.andThen_ok,yXh d f3 hx.1 hy.1 a1 b1,eqDs];cases keyEq x y
  ·simp
  ·simpa using ih
 |[],[],_::_,_,_,_,h,_,_,_=>by cases h
 |[],[],[],_::_,_,_,_,h,_,_=>by cases h
 |[],_::_,_,_,_,h,_,_,_,_=>by cases h
 |_::_,[],_,_,_,h,_,_,_,_=>by cases h
 |f::fs,z::zs,[],ys,k,hf,hx,_,_,_=>by cases z<;>cases hx
 |f::fs,z::zs,x::xs,[],k,hf,hx,hy,_,_=>by cases z<;>cases hy
theorem yqt{P}(d){e}(he:P.cellsOf e=1)(va vb):∀(zs) (xs ys) (k),zs.all (flatUA P e)=true→likeDs zs xs=true→likeDs zs ys=true→RepL w S xs (va.toList.drop k)→RepL w S ys (vb.toList.drop k)→
  (Op.eqItems (d+1) e (P.cellsOf e) va vb (List.range' k zs.length)).run P w=.ok (eqDs xs ys) w
 |[],[],[],k,_,_,_,_,_=>by simp[Op.eqItems,eqDs]
 |.d z::zs,x::xs,y::ys,k,hf,hx,hy,ha,hb=>by
  simp only[List.all_cons,Bool.and_eq_true,flatUA]at hf;obtain⟨f3,f4⟩:=hf;simp only[likeDs,Bool.and_eq_true]at hx hy;obtain⟨v,r,e1,a1,a2⟩:=ha;obtain⟨u,q,e2,b1,b2⟩:=hb;have g1:va[k]? =some v:=by have:=congrArg (fun l:List Value=>l[0]?) e1;simpa[List.getElem?_drop]using this
  have g2:vb[k]? =some u:=by have:=congrArg (fun l:List Value=>l[0]?) e2;simpa[List.getElem?_drop]using this
  have t1:va.toList.drop (k+1)=r:=by rw[←List.drop_drop,e1];rfl
  have t2:vb.toList.drop (k+1)=q:=by rw[←List.drop_drop,e2];rfl
  have ih:=yqt d he va vb zs xs ys (k+1) (by simpa[flatUA]using f4) hx.2 hy.2 (by rw[t1];exact a2) (by rw[t2];exact b2);rw[he]at ih⊢;simp only[List.length_cons,List.range'_succ,Op.eqItems,Sem.run_bind,Nat.mul_one,zKC f3 g1,zKC f3 g2,Result.andThen_ok,yXh d f3 hx.1 hy.1 a1 b1,eqDs];cases keyEq x y
  ·simp
  ·simpa using ih
 |[],_::_,_,_,_,h,_,_,_=>by cases h
 |[],[],_::_,_,_,_,h,_,_=>by cases h
 |z::zs,[],ys,k,hf,hx,_,_,_=>by cases z<;>cases hx
 |z::zs,x::xs,[],k,hf,hx,hy,_,_=>by cases z<;>cases hy
theorem yKP{P}{T:Nat→Option Ty}(hT:∀t ty,T t=some ty→chkTy P t ty=true){t:TypeId}(hf:isFlatT (T t)=true):eqOk P t (zsT (T t))=true:=by
 unfold isFlatT at hf;split at hf
 ·rename_i zs fs hty;have h:=hT _ _ hty;simp only[chkTy,Bool.and_eq_true]at h;have h1:=h.1;rw[show isFlatT (some (.agg zs fs))=true from hf,hty]at*
  simpa[zsT]using h1
 ·rename_i n esz eagg zs hty;have h:=hT _ _ hty;simp only[chkTy,Bool.and_eq_true]at h;have h1:=h.1;rw[show isFlatT (some (.arr n esz eagg zs))=true from hf,hty]at*
  simpa[zsT]using h1
 ·cases hf
theorem xza(h:Sim c st tmps w S ρ){o op t t' zs}(hq:eqOk c.P t zs=true){x y x' y' ds}(ho:o.op=.binOp op t x y t')(he:isEq op=true)(hx:trX x=some x')(hy:trX y=some y')
  (hg:gd st x'=true) (hg2:gd st y'=true) {a b} {xs ys} (hp:ev st x'=.agg a) (hp2:ev st y'=.agg b) (ha:toDs [] 1 a=some xs) (hb:toDs [] 1 b=some ys) (hl:likeDs zs xs=true∧likeDs zs ys=true):
  ∃cv,(execOp (Act.eval ⟨tmps,ds⟩) o).run c.P w=.ok (.value cv) w∧RepA w S ρ (.d (.bool (if op==.neq then !eqDs xs ys else eqDs xs ys))) cv:=by
 have e1:=h.ev hx hg (ds:=ds);have e2:=h.ev hy hg2 (ds:=ds);rw[hp]at e1;rw[hp2]at e2;obtain⟨va,hva,ra⟩:=e1;obtain⟨vb,hvb,rb⟩:=e2;have la:RepL w S xs va.toList:=zv6 zyp 1 ra ha;have lb:RepL w S ys vb.toList:=zv6 zyp 1 rb hb;simp only[eqOk,Bool.and_eq_true]at hq;obtain⟨hguard,hq⟩:=hq;have hguard:c.P.eqGuardType c.P.depth t=false:=by simpa using hguard
 have heq:(Op.equalIn 10000 t (.agg va) (.agg vb)).run c.P w=.ok (eqDs xs ys) w:=by
  split at hq
  ·rename_i fields hu;simp only[Bool.and_eq_true]at hq;have hfo:c.P.fieldsOf t=fields:=by unfold Program.fieldsOf;rw[hu]
   rw[show(10000:Nat)=9999+1 from rfl,run_equalIn_struct w 9999 t va vb (by rw[hfo];exact hu) (by simpa using hq.1),hfo];exact ywX 9998 va vb _ _ _ _ 0 hq.2 hl.1 hl.2 (by simpa using la) (by simpa using lb)
  ·rename_i m e hu;simp only[Bool.and_eq_true]at hq;obtain⟨⟨⟨q1,q2⟩,q3⟩,q4⟩:=hq;obtain⟨ie,hie⟩:=Option.isSome_iff_exists.1 q3;have hm:zs.length=m:=by simpa using q1
   rw[show(10000:Nat)=9999+1 from rfl,run_equalIn_array w 9999 va vb hu hie,←hm,List.range_eq_range'];cases zs with
   |nil=>have h1:=zWs hl.1;have h2:=zWs hl.2;have:xs=[]:=List.eq_nil_of_length_eq_zero h1;subst this;have:ys=[]:=List.eq_nil_of_length_eq_zero h2;subst this;simp[Op.eqItems,eqDs]
   |cons z zs=>
    have he1:c.P.cellsOf e=1:=by simpa using q4
    exact yqt 9998 he1 va vb _ _ _ 0 q2 hl.1 hl.2 (by simpa using la) (by simpa using lb)
  ·cases hq
 refine⟨_,?_,rfl⟩;unfold execOp;simp only[ho];refine run_v (v:=_) (w':=w) ?_;rw[hva,hvb];have hgr:=run_eqGuard_agg w op t x y va vb hguard;cases op<;>simp[isEq]at he<;>simp[hgr,run_eql_struct,run_neq_struct,heq]
theorem Sim.closeB(h:Sim c st tmps w S ρ):∃S',(∀b o,S b o→S' b o)∧(∀b o,S' b o→S b o∨(c.Own b∧∃s,ρ.box s=some b))∧Live w S'∧(∀(a) (v),RepA w S ρ a v→RepA w S' ρ a v)∧Through w S' ρ st.mem:=by
 have hk:Keeps w S w (fun b o=>S b o∨∃s cs vs e,getM st.mem s=some cs∧ρ.box s=some b∧w.heap[b]? =some (.cells vs e (0,0))∧c.Own b∧o<vs.size):=fun b o hs=>⟨.inl hs,rfl⟩;refine⟨fun b o=>S b o∨∃s cs vs e,getM st.mem s=some cs∧ρ.box s=some b∧w.heap[b]? =some (.cells vs e (0,0))∧c.Own b∧o<vs.size,fun b o hs=>.inl hs,?_,?_,fun a v hr=>RepA.keep hk ρ.le_refl a v hr,?_⟩
 ·rintro b o (hs|⟨s,cs,vs,e,_,h2,_,hb,_⟩)
  ·exact .inl hs
  ·exact .inr ⟨hb,s,h2⟩
 ·rintro b o (hs|⟨s,cs,vs,e,_,_,hh,_,ho⟩)
  ·exact h.live b o hs
  ·exact⟨vs[o],by rw[zzm hh];simp[ho]⟩
 ·intro s cs hs hnm;obtain⟨b,vs,e,g1,g2,g3,g4,g6⟩:=h.mem s cs hs hnm;refine⟨b,vs.toList,g1,RepAs.keep hk ρ.le_refl cs _ g4,fun j v hj=>?_⟩;have hj':vs[j]? =some v:=by simpa using hj
  refine⟨by rw[zzm g3];exact hj',.inr ⟨s,cs,vs,e,hs,g1,g3,g2,(Array.getElem?_eq_some_iff.1 hj').1⟩⟩
theorem Sim.close(h:Sim c st tmps w S ρ):∃S',(∀b o,S b o→S' b o)∧(∀b o,S' b o→S b o∨c.Own b)∧Live w S'∧(∀(a) (v),RepA w S ρ a v→RepA w S' ρ a v)∧Through w S' ρ st.mem:=by obtain⟨S',h1,h2,h3,h4,h5⟩:=h.closeB;exact⟨S',h1,fun b o hs=>(h2 b o hs).imp id fun e=>e.1,h3,h4,h5⟩
def Rho.noBox(ρ:Rho):Rho:={box:=fun _=>none,mbox:=fun _=>none,tok:=ρ.tok}
mutual
theorem RepA.noBox:∀(a:AV) (v:Value),a.boxed=false→RepA w S ρ a v→RepA w S ρ.noBox a v
 |.undef,_,_,_=>trivial
 |.d _,_,_,h=>h
 |.full _,_,_,h=>h
 |.own _ _ _,_,_,h=>h
 |.agg cs,_,hb,⟨vs,h1,h2⟩=>⟨vs,h1,RepAs.noBox cs _ (by simpa only[AV.boxed]using hb) h2⟩
 |.tup cs,_,hb,⟨vs,h1,h2⟩=>⟨vs,h1,RepAs.noBox cs _ (by simpa only[AV.boxed]using hb) h2⟩
 |.cond _ a,_,hb,⟨h1,h2⟩=>⟨fun hg=>RepA.noBox a _ (by simpa only[AV.boxed]using hb) (h1 hg),h2⟩
 |.ptr _ _,_,hb,_=>by simp[AV.boxed]at hb
 |.vec _ _ _ _ _,_,hb,_=>by simp[AV.boxed]at hb
 |.zsl _ _,_,hb,_=>by simp[AV.boxed]at hb
 |.pnd _ _ _ _,_,hb,_=>by simp[AV.boxed]at hb
 |.eptr _ _,_,hb,_=>by simp[AV.boxed]at hb
 |.clo _ _,_,hb,_=>by simp[AV.boxed]at hb
 |.mref _,_,hb,_=>by simp[AV.boxed]at hb
 |.mp _ _ _,_,_,h=>h.elim
theorem RepAs.noBox:∀(as:List AV) (vs:List Value),AV.boxeds as=false→RepAs w S ρ as vs→RepAs w S ρ.noBox as vs
 |[],_,_,h=>h
 |a::as,_,hb,⟨v,r,h,h1,h2⟩=>by simp only[AV.boxeds,Bool.or_eq_false_iff]at hb;exact⟨v,r,h,RepA.noBox a v hb.1 h1,RepAs.noBox as r hb.2 h2⟩
end
theorem yyB(k):∀l:List (Nat×AV),getS (dropB l) k=if(getS l k).boxed=true then .undef else getS l k
 |[]=>by simp[dropB,getS,AV.boxed]
 |(j,v)::l=>by
  simp only[dropB,getS];by_cases hj:j=k
  ·simp only[hj,if_true]
  ·simp only[if_neg hj];exact yyB k l
theorem Sim.noBox(h:Sim c st tmps w S ρ){S'}(h1:∀b o,S b o→S' b o)(h2:∀b o,S' b o→S b o∨(c.Own b∧∃s,ρ.box s=some b))(h3:Live w S'):Sim c st.noBox tmps w S' ρ.noBox:=by
 have hk:Keeps w S w S':=fun b o hs=>⟨h1 b o hs,rfl⟩
 refine{size:=h.size,slots:=fun k=>?_,mem:=fun s cs hs=>(by simp[St.noBox,getM]at hs),inj:=fun s s' b hs=>(by cases hs),boxNew:=fun _ _=>rfl,mps:={at':=fun s k e kvs hs=>(by simp[St.noBox,getM]at hs),inj:=fun s s' b hs=>(by cases hs),new:=fun _ _=>rfl,lt:=fun s b hs=>(by cases hs),apart:=fun s b hs=>(by cases hs)},
        tok:=fun t ht=>?_,tokNew:=h.tokNew,below:=h.below,old:=fun b o hs=>h1 b o (h.old b o hs),new:=fun b o hs=>(h2 b o hs).elim (h.new b o) fun e=>.inr e.1,live:=h3,glob:=fun g cs hg=>RepCs.keep hk g 0 cs (h.glob g cs hg),fx:=h.fx,ex:=h.ex,obs:=h.obs,keeps:=fun p hp=>(h.keeps p hp).trans hk,
        pins:=h.pins.sub (fun s b e=>by cases e) (fun s b e=>by cases e)}
 ·show RepA w S' ρ.noBox (getS (dropB st.slots) k) _
  rw[yyB]
  split
  ·trivial
  ·rename_i hb
   exact RepA.noBox _ _ (by simpa using hb) ((h.slots k).keep hk ρ.le_refl)
 ·obtain⟨x,g1,g2⟩:=h.tok t ht
  refine⟨x,g1,?_⟩
  rcases g2 with g2|⟨b,k0,k1,k2,k3,k4,k5,k6,k7⟩
  ·exact .inl g2
  ·refine .inr ⟨b,k0,k1,k2,k3,k4,fun o ho hs=>?_,fun s e=>(by cases e),k7⟩
   rcases h2 b o hs with e|⟨_,s,e⟩
   ·exact k5 o ho e
   ·exact k6 s e
theorem zq3(B)(s):∀m:Mem,getM (memOut B m) s=if B.contains s=true then none else getM m s
 |[]=>by simp[memOut,getM]
 |(k,cs)::m=>by
  rw[memOut];by_cases hk:B.contains k=true
  ·rw[if_pos hk,zq3 B s m];by_cases hs:k=s
   ·subst hs;rw[if_pos hk,if_pos hk]
   ·simp only[getM,if_neg hs]
  ·rw[if_neg hk];simp only[getM];by_cases hs:k=s
   ·subst hs;rw[if_pos rfl,if_neg hk,if_pos rfl]
   ·rw[if_neg hs,if_neg hs,zq3 B s m]
theorem yxM(B)(s):∀m:Mem,getM (memIn B m) s=if B.contains s=true then getM m s else none
 |[]=>by simp[memIn,getM]
 |(k,cs)::m=>by
  rw[memIn];by_cases hk:B.contains k=true
  ·rw[if_pos hk];simp only[getM];by_cases hs:k=s
   ·subst hs;rw[if_pos rfl,if_pos hk,if_pos rfl]
   ·rw[if_neg hs,if_neg hs,yxM B s m]
  ·rw[if_neg hk,yxM B s m];by_cases hs:k=s
   ·subst hs;rw[if_neg hk,if_neg hk]
   ·simp only[getM,if_neg hs]
theorem yyZ{B s cs}:∀{m},okDrop B m=true→getM m s=some cs→AV.namesL B cs=false
 |[],_,h=>by simp[getM]at h
 |(k,x)::m,h1,h=>by
  simp only[okDrop,Bool.and_eq_true,Bool.not_eq_true']at h1;simp only[getM]at h;split at h
  ·cases h;exact h1.1
  ·exact yyZ h1.2 h
def Rho.out(B:List Nat)(ρ:Rho):Rho:={box:=fun s=>if B.contains s=true then none else ρ.box s,mbox:=fun s=>if B.contains s=true then none else ρ.mbox s,tok:=ρ.tok}
theorem Rho.yzh{B}{ρ:Rho}{s b}(h:(ρ.out B).box s=some b):ρ.box s=some b∧B.contains s=false:=by
 unfold Rho.out at h;simp only at h;split at h
 ·cases h
 ·rename_i hb;exact⟨h,by simpa using hb⟩
theorem Rho.zJR{B}{ρ:Rho}{s b}(h:(ρ.out B).mbox s=some b):ρ.mbox s=some b∧B.contains s=false:=by
 unfold Rho.out at h;simp only at h;split at h
 ·cases h
 ·rename_i hb;exact⟨h,by simpa using hb⟩
theorem Rho.ykn{B}{ρ:Rho}{s}(h:B.contains s=false):(ρ.out B).box s=ρ.box s:=by simp only[Rho.out,h];rfl
theorem Rho.yxT{B}{ρ:Rho}{s}(h:B.contains s=false):(ρ.out B).mbox s=ρ.mbox s:=by simp only[Rho.out,h];rfl
mutual
theorem RepA.out{B:List Nat}:∀(a:AV) (v:Value),a.namesIn B=false→RepA w S ρ a v→RepA w S (ρ.out B) a v
 |.undef,_,_,_=>trivial
 |.d _,_,_,h=>h
 |.full _,_,_,h=>h
 |.own _ _ _,_,_,h=>h
 |.agg cs,_,hb,⟨vs,h1,h2⟩=>⟨vs,h1,RepAs.out cs _ (by simpa only[AV.namesIn]using hb) h2⟩
 |.tup cs,_,hb,⟨vs,h1,h2⟩=>⟨vs,h1,RepAs.out cs _ (by simpa only[AV.namesIn]using hb) h2⟩
 |.cond _ a,_,hb,⟨h1,h2⟩=>⟨fun hg=>RepA.out a _ (by simpa only[AV.namesIn]using hb) (h1 hg),h2⟩
 |.clo _ cs,_,hb,⟨vs,h1,h2⟩=>⟨vs,h1,RepAs.out cs _ (by simpa only[AV.namesIn]using hb) h2⟩
 |.ptr s _,_,hb,⟨b,h1,h2⟩=>⟨b,by rw[Rho.ykn (by simpa only[AV.namesIn]using hb)];exact h1,h2⟩
 |.vec s _ _ _ _,_,hb,⟨g1,g2,b,h1,h2⟩=>⟨g1,g2,b,by rw[Rho.ykn (by simpa only[AV.namesIn]using hb)];exact h1,h2⟩
 |.mref s,_,hb,⟨b,h1,h2⟩=>⟨b,by rw[Rho.yxT (by simpa only[AV.namesIn]using hb)];exact h1,h2⟩
 |.zsl _ _,_,_,h=>h
 |.pnd _ _ _ _,_,_,h=>h
 |.eptr _ _,_,_,h=>h
 |.mp _ _ _,_,_,h=>h.elim
theorem RepAs.out{B:List Nat}:∀(as:List AV) (vs:List Value),AV.namesL B as=false→RepAs w S ρ as vs→RepAs w S (ρ.out B) as vs
 |[],_,_,h=>h
 |a::as,_,hb,⟨v,r,h,h1,h2⟩=>by simp only[AV.namesL,Bool.or_eq_false_iff]at hb;exact⟨v,r,h,RepA.out a v hb.1 h1,RepAs.out as r hb.2 h2⟩
end
theorem zWp(B)(k):∀l:List (Nat×AV),getS (dropIn B l) k=if(getS l k).namesIn B=true then .undef else getS l k
 |[]=>by simp[dropIn,getS,AV.namesIn]
 |(j,v)::l=>by
  simp only[dropIn,getS];by_cases hj:j=k
  ·simp only[hj,if_true]
  ·simp only[if_neg hj];exact zWp B k l
theorem Sim.closeIn(h:Sim c st tmps w S ρ)(B):∃S',(∀b o,S b o→S' b o)∧(∀b o,S' b o→S b o∨(c.Own b∧∃s,B.contains s=true∧ρ.box s=some b))∧Live w S'∧(∀(a) (v),RepA w S ρ a v→RepA w S' ρ a v)∧Through w S' ρ (memIn B st.mem):=by
 have hk:Keeps w S w (fun b o=>S b o∨∃s cs vs e,B.contains s=true∧getM st.mem s=some cs∧ρ.box s=some b∧w.heap[b]? =some (.cells vs e (0,0))∧c.Own b∧o<vs.size):=fun b o hs=>⟨.inl hs,rfl⟩;refine⟨fun b o=>S b o∨∃s cs vs e,B.contains s=true∧getM st.mem s=some cs∧ρ.box s=some b∧w.heap[b]? =some (.cells vs e (0,0))∧c.Own b∧o<vs.size,fun b o hs=>.inl hs,?_,?_,fun a v hr=>RepA.keep hk ρ.le_refl a v hr,?_⟩
 ·rintro b o (hs|⟨s,cs,vs,e,h0,_,h2,_,hb,_⟩)
  ·exact .inl hs
  ·exact .inr ⟨hb,s,h0,h2⟩
 ·rintro b o (hs|⟨s,cs,vs,e,_,_,_,hh,_,ho⟩)
  ·exact h.live b o hs
  ·exact⟨vs[o],by rw[zzm hh];simp[ho]⟩
 ·intro s cs hs hnm;rw[yxM]at hs;split at hs
  ·rename_i hB;obtain⟨b,vs,e,g1,g2,g3,g4,g6⟩:=h.mem s cs hs hnm;refine⟨b,vs.toList,g1,RepAs.keep hk ρ.le_refl cs _ g4,fun j v hj=>?_⟩;have hj':vs[j]? =some v:=by simpa using hj
   refine⟨by rw[zzm g3];exact hj',.inr ⟨s,cs,vs,e,hB,hs,g1,g3,g2,(Array.getElem?_eq_some_iff.1 hj').1⟩⟩
  ·cases hs
theorem Sim.someBox(h:Sim c st tmps w S ρ){B}(hd:okDrop B (memOut B st.mem)=true){S'}(h1:∀b o,S b o→S' b o)(h2:∀b o,S' b o→S b o∨(c.Own b∧∃s,B.contains s=true∧ρ.box s=some b))(h3:Live w S'):Sim c (st.someBox B) tmps w S' (ρ.out B):=by
 have hk:Keeps w S w S':=fun b o hs=>⟨h1 b o hs,rfl⟩;have hout:∀s,B.contains s=true→(ρ.out B).box s=none∧(ρ.out B).mbox s=none:=fun s hs=>by simp only[Rho.out,hs,if_true,and_self]
 refine{size:=h.size,slots:=fun k=>?_,mem:=fun s cs hs hnm=>?_,inj:=fun s s' b hs hs'=>h.inj s s' b (Rho.yzh hs).1 (Rho.yzh hs').1,boxNew:=fun s hs=>?_,
        mps:={at':=fun s k e kvs hs=>?_,inj:=fun s s' b hs hs'=>h.mps.inj s s' b (Rho.zJR hs).1 (Rho.zJR hs').1,new:=fun s hs=>?_,lt:=fun s b hs=>h.mps.lt s b (Rho.zJR hs).1,apart:=fun s b hs=>?_},
        tok:=fun t ht=>?_,tokNew:=h.tokNew,below:=h.below,old:=fun b o hs=>h1 b o (h.old b o hs),new:=fun b o hs=>(h2 b o hs).elim (h.new b o) fun e=>.inr e.1,live:=h3,glob:=fun g cs hg=>RepCs.keep hk g 0 cs (h.glob g cs hg),fx:=h.fx,ex:=h.ex,obs:=h.obs,keeps:=fun p hp=>(h.keeps p hp).trans hk,
        pins:=h.pins.sub (fun s b e=>.inr (Rho.yzh e).1) (fun s b e=>.inr (Rho.zJR e).1)}
 ·show RepA w S' (ρ.out B) (getS (dropIn B st.slots) k) _;rw[zWp];split
  ·trivial
  ·rename_i hb;exact RepA.out _ _ (by simpa using hb) ((h.slots k).keep hk ρ.le_refl)
 ·have hs':getM (memOut B st.mem) s=some cs:=hs;have hnn:=yyZ hd hs';rw[zq3]at hs';split at hs'
  ·cases hs'
  ·rename_i hB;have hB:B.contains s=false:=by simpa using hB
   obtain⟨b,vs,e,g1,g2,g3,g4,g6⟩:=h.mem s cs hs' hnm;refine⟨b,vs,e,by rw[Rho.ykn hB];exact g1,g2,g3,RepAs.out _ _ hnn (RepAs.keep hk ρ.le_refl cs _ g4),fun o ho=>?_⟩;rcases h2 b o ho with hs2|⟨_,s2,hb2,hr2⟩
   ·exact g6 o hs2
   ·have:=h.inj s2 s b hr2 g1;subst this;rw[hB]at hb2;cases hb2
 ·have hs':getM (memOut B st.mem) s=none:=hs;rw[zq3]at hs';split at hs'
  ·rename_i hB;exact(hout s hB).1
  ·rename_i hB;rw[Rho.ykn (by simpa using hB)];exact h.boxNew s hs'
 ·have hs':getM (memOut B st.mem) s=some [.mp k e kvs]:=hs;rw[zq3]at hs';split at hs'
  ·cases hs'
  ·rename_i hB;have hB:B.contains s=false:=by simpa using hB
   obtain⟨b,g1,g2,g3,g4⟩:=h.mps.at' s k e kvs hs';have hsm:SameMaps w w:=⟨Nat.le_refl _,fun _ _ _ h=>rfl⟩;obtain⟨b',g1',_,_,g4'⟩:=(h.mps.to hk hsm).at' s k e kvs hs';rw[g1]at g1';cases g1';exact⟨b,by rw[Rho.yxT hB];exact g1,by rw[Rho.ykn hB];exact g2,g3,g4'⟩
 ·have hs':getM (memOut B st.mem) s=none:=hs;rw[zq3]at hs';split at hs'
  ·rename_i hB;exact(hout s hB).2
  ·rename_i hB;rw[Rho.yxT (by simpa using hB)];exact h.mps.new s hs'
 ·obtain⟨e1,e2⟩:=Rho.yzh hs;rw[Rho.yxT e2];exact h.mps.apart s b e1
 ·obtain⟨x,g1,g2⟩:=h.tok t ht;refine⟨x,g1,?_⟩;rcases g2 with g2|⟨b,k0,k1,k2,k3,k4,k5,k6,k7⟩
  ·exact .inl g2
  ·refine .inr ⟨b,k0,k1,k2,k3,k4,fun o ho hs=>?_,fun s e=>k6 s (Rho.yzh e).1,k7⟩;rcases h2 b o hs with e|⟨_,s,_,e⟩
   ·exact k5 o ho e
   ·exact k6 s e
theorem yyD(m)(B)(k):∀l:List (Nat×AV),getS (frzIn m B l) k=if(getS l k).namesIn B=true then(match AV.toD m 3 (getS l k)with|some x=>.d x|none=>.undef)else getS l k
 |[]=>by simp[frzIn,getS,AV.namesIn]
 |(j,v)::l=>by
  simp only[frzIn,getS];by_cases hj:j=k
  ·simp only[hj,if_true];rfl
  ·simp only[if_neg hj];exact yyD m B k l
theorem Sim.frzBox(h:Sim c st tmps w S ρ){B}(hd:okDrop B (memOut B st.mem)=true):∃S' ρ',Sim c (st.frzBox B) tmps w S' ρ':=by
 obtain⟨S',h1,h2,h3,h4,h5⟩:=h.closeIn B;have h0:=h.someBox hd h1 h2 h3;refine⟨S',ρ.out B,{h0 with slots:=fun k=>?_}⟩;show RepA w S' (ρ.out B) (getS (frzIn (memIn B st.mem) B st.slots) k) _;rw[yyD];have hk:=h0.slots k;have hk:RepA w S' (ρ.out B) (getS (dropIn B st.slots) k) _:=hk;rw[zWp]at hk;split
 ·split
  ·rename_i x hx;exact zVC h5 3 _ _ x (h4 _ _ (h.slots k)) hx
  ·trivial
 ·rename_i hn;rw[if_neg hn]at hk;exact hk
theorem yw0{w w' S S' x v}(hf:flatD x=true)(h:Rep w S x v):Rep w' S' x v:=by
 cases x<;>simp only[flatD,Bool.false_eq_true]at hf<;>exact h
theorem yw1{w w' S S'}:∀{xs} {vs},xs.all flatD=true→RepL w S xs vs→RepL w' S' xs vs
 |[],_,_,h=>h
 |x::xs,_,hf,⟨v,r,e,h1,h2⟩=>by simp only[List.all_cons,Bool.and_eq_true]at hf;exact⟨v,r,e,yw0 hf.1 h1,yw1 hf.2 h2⟩
mutual
theorem yqb{w w':World}{S S':Safe}:∀{r:CV} {v:Value},r.flat=true→RepC w S r v→RepC w' S' r v
 |.one x,_,hf,h=>yw0 (x:=x) hf h
 |.agg xs,_,hf,⟨vs,e,h⟩=>⟨vs,e,yw1 (by simpa only[CV.flat]using hf) h⟩
 |.tup cs,_,hf,⟨vs,e,h⟩=>⟨vs,e,yw2 (by simpa only[CV.flat]using hf) h⟩
 |.own _ _ _,_,hf,_=>by simp[CV.flat]at hf
 |.bx _ _ _ _ _ _,_,hf,_=>by simp[CV.flat]at hf
theorem yw2{w w':World}{S S':Safe}:∀{rs:List CV} {vs:List Value},CV.flats rs=true→RepCL w S rs vs→RepCL w' S' rs vs
 |[],_,_,h=>h
 |r::rs,_,hf,⟨v,q,e,h1,h2⟩=>by simp only[CV.flats,Bool.and_eq_true]at hf;exact⟨v,q,e,yqb hf.1 h1,yw2 hf.2 h2⟩
end
theorem yK3{r:CV}(h:r.flat=true):r.isOwn=false:=by
 cases r<;>first|rfl|simp[CV.flat]at h
end Go.Abs
end
section
namespace Go.Abs
open Go.RowKit
variable{c:Ctx}{st:St}{tmps:Array Value}{w:World}{S:Safe}{ρ:Rho}
theorem yQD(h:Sim c st tmps w S ρ){o t esz eb zs}(ht:chkTy c.P t (.slice esz eb zs)=true){x y x' y' ds}
  (ho:o.op=.indexAddr t x y) (hx:trX x=some x') (hy:trX y=some y') (hg:gd st x'=true) (hg2:gd st y'=true) {s off m cap} {k} {n}
  (he:ev st x'=.vec s esz off m cap) (hn:ev st y'=.d (.int k n)) (hob:0≤n∧n<m):
  ∃cv,(execOp (Act.eval ⟨tmps,ds⟩) o).run c.P w=.ok (.value cv) w∧RepA w S ρ (.ptr s (off+n.toNat*esz)) cv:=by
 have e1:=h.ev hx hg (ds:=ds);rw[he]at e1;obtain⟨_,_,b,hb,hv⟩:=e1;have e2:=h.ev hy hg2 (ds:=ds);rw[hn]at e2;simp only[RepA,Rep]at e2;obtain⟨e,ie,z,hu,hie,h1,_,h3,_⟩:=zzL ht;refine⟨.pointer (some ⟨b,off+n.toNat*esz,none⟩),?_,⟨b,hb,rfl⟩⟩;unfold execOp;simp only[ho,hv,e2];simp[Instr.indexAt,asIntOf,run_underlying hu,run_sizeOf hie,h1,addr_add,hob.1,hob.2]
theorem yWL{P t e ie esz}(hu:P.underlying t=some (.slice e))(hie:P.info? e=some ie)(h1:ie.size=esz){b off n cap lo hi mx l h m}
  (hb:(Instr.sliceBounds true n cap lo hi mx).run P w=.ok (l,h,m) w):
  (Instr.slice t (.slice (some ⟨b,off,none⟩) n cap) lo hi mx).run P w=.ok (.slice (some ⟨b,if m=l then off else off+l*esz,none⟩) (h-l) (m-l)) w:=by
 simp only[Instr.slice,Sem.run_bind,run_underlying hu,Result.andThen_ok,hb,run_sizeOf hie,h1];split<;>simp[addr_add]
theorem zKB(h:Sim c st tmps w S ρ){o t esz eb zs}(ht:chkTy c.P t (.slice esz eb zs)=true){x lo hi mx x' ds}
  (ho:o.op=.slice t x lo hi mx) (hx:trX x=some x') (hg:gd st x'=true) {s off n cap} (he:ev st x'=.vec s esz off n cap) {l hh m} (hlm:hh≤m) (hl:l≤hh) (hmc:m≤cap)
  (hb:∀nn cc,nn=n→cc=cap→(Instr.sliceBounds true nn cc (lo.map (Act.eval ⟨tmps,ds⟩)) (hi.map (Act.eval ⟨tmps,ds⟩)) (mx.map (Act.eval ⟨tmps,ds⟩))).run c.P w=.ok (l,hh,m) w):
  ∃cv,(execOp (Act.eval ⟨tmps,ds⟩) o).run c.P w=.ok (.value cv) w∧RepA w S ρ (vecTo s esz off l hh m) cv:=by
 have e1:=h.ev hx hg (ds:=ds);rw[he]at e1;obtain⟨k1,k2,b,hb',hv⟩:=e1;obtain⟨e,ie,z,hu,hie,h1,_,h3,_⟩:=zzL ht;have hrun:=yWL (P:=c.P) (w:=w) hu hie h1 (b:=b) (off:=off) (hb n cap rfl rfl);refine⟨_,?_,(by omega:hh-l≤m-l),(by omega:m-l≤9223372036854775807),b,hb',rfl⟩;unfold execOp;simp only[ho,hv];simp[Instr.sliceAt,run_underlying hu,hrun]
theorem yZ7{P w}{n cap:Nat}{kl kh km l hh m}(lo:Option Value)(hlo:lo=some (.int kl l)∨(lo=none∧l=0))(h0:0≤l)(h1:l≤hh)(h2:hh≤m)(h3:m≤cap):
  (Instr.sliceBounds true n cap lo (some (.int kh hh)) (some (.int km m))).run P w=.ok (l.toNat,hh.toNat,m.toNat) w:=by
 have hm0:0≤m:=by omega
 have hh0:0≤hh:=by omega
 rcases hlo with rfl|⟨rfl,rfl⟩
 ·simp[Instr.sliceBounds,run_sliceBound,hm0,h3,hh0,Int.toNat_of_nonneg hm0,h2,h0,Int.toNat_of_nonneg hh0,h1]
 ·simp[Instr.sliceBounds,run_sliceBound,hm0,h3,hh0,Int.toNat_of_nonneg hm0,h2]
theorem yzB{P w}{n cap:Nat}{kl kh l hh}(lo:Option Value)(hlo:lo=some (.int kl l)∨(lo=none∧l=0))(h0:0≤l)(h1:l≤hh)(h2:hh≤cap):
  (Instr.sliceBounds true n cap lo (some (.int kh hh)) none).run P w=.ok (l.toNat,hh.toNat,cap) w:=by
 have hh0:0≤hh:=by omega
 rcases hlo with rfl|⟨rfl,rfl⟩
 ·simp[Instr.sliceBounds,run_sliceBound,hh0,h2,h0,Int.toNat_of_nonneg hh0,h1]
 ·simp[Instr.sliceBounds,run_sliceBound,hh0,h2]
theorem yjD{P w}{n cap:Nat}{kl}{l:Int}(h0:0≤l)(h1:l≤n):
  (Instr.sliceBounds true n cap (some (.int kl l)) none none).run P w=.ok (l.toNat,n,cap) w:=by
 simp[Instr.sliceBounds,run_sliceBound,h0,h1]
theorem yQE(h:Sim c st tmps w S ρ){o t esz eb zs}(ht:chkTy c.P t (.slice esz eb zs)=true){x lo hi mx x' ds}
  (ho:o.op=.slice t x lo hi mx) (hx:trX x=some x') (hg:gd st x'=true) {es} (hs:(ev st x').elems=some es) (hl:∀e∈es,e.length=esz) {l hh m} (hlh:l≤hh) (hhm:hh≤m) (hmn:m≤es.length)
  (hb:∀nn cc,es.length=nn→nn≤cc→(Instr.sliceBounds true nn cc (lo.map (Act.eval ⟨tmps,ds⟩)) (hi.map (Act.eval ⟨tmps,ds⟩)) (mx.map (Act.eval ⟨tmps,ds⟩))).run c.P w=.ok (l,hh,m) w):
  ∃cv,(execOp (Act.eval ⟨tmps,ds⟩) o).run c.P w=.ok (.value cv) w∧RepA w S ρ (.d (.lst ((es.take hh).drop l))) cv:=by
 have e1:=zjl (h.ev hx hg (ds:=ds)) hs;obtain⟨e,ie,z,hu,hie,h1,_,h3,_⟩:=zzL ht;obtain⟨base,cap,hv,hc1,hc2,hc3,hc4⟩:=e1;refine⟨.slice (if m=l then base else base.map (·.add (l*esz))) (hh-l) (m-l),?_,?_⟩
 ·unfold execOp;simp only[ho,hv];simp[Instr.sliceAt,Instr.slice,run_underlying hu,hb _ cap rfl hc1,run_sizeOf hie,h1]
 ·refine⟨(if m=l then base else base.map (·.add (l*esz))),m-l,?_,?_,?_,?_,?_⟩
  ·simp only[List.length_drop,List.length_take,Nat.min_eq_left (Nat.le_trans hhm hmn)]
  ·simp only[List.length_drop,List.length_take,Nat.min_eq_left (Nat.le_trans hhm hmn)];omega
  ·omega
  ·intro hn;split at hn
   ·omega
   ·have:base=none:=by simpa using hn
    have:=hc3 this;omega
  ·intro a ha;have hsz:∃sz,∀e∈(es.take hh).drop l,e.length=sz:=⟨esz,fun e he=>hl e (List.mem_of_mem_take (List.mem_of_mem_drop he))⟩;split at ha
   ·rename_i hcl;have hnil:(es.take hh).drop l=[]:=by apply List.drop_of_length_le;simp;omega
    exact⟨fun h=>by omega,hsz,by rw[hnil];trivial⟩
   ·cases base with
    |none=>cases ha
    |some a0=>obtain⟨hsp,_,hes⟩:=hc4 a0 rfl;have hsp:=hsp (by omega);obtain⟨b,off,sp⟩:=a0;simp only at hsp hes;subst hsp;simp only[Option.map_some,addr_add,Option.some.injEq]at ha;subst ha;exact⟨fun _=>rfl,hsz,RepEs.drop l (fun e he=>hl e (List.mem_of_mem_take he)) (RepEs.take hh hes)⟩
theorem xzh(h:Sim c st tmps w S ρ){o t' t k}(ht:chkTy c.P t (.cell (.d (.int k 0)))=true){x x' ds}(ho:o.op=.convert t' t x)(hx:trX x=some x')(hg:gd st x'=true)(hs:(c.P.underlying t').isSome=true){q n}(hn:ev st x'=.d (.int q n)):
  ∃cv,(execOp (Act.eval ⟨tmps,ds⟩) o).run c.P w=.ok (.value cv) w∧RepA w S ρ (.d (.int k (k.wrap n))) cv:=by
 have e1:=h.ev hx hg (ds:=ds);rw[hn]at e1;have e1:Act.eval ⟨tmps,ds⟩ x=.int q n:=e1;have hu:c.P.underlying t=some (.int k):=by
  simp only[chkTy,Bool.and_eq_true,undOk]at ht;have:=ht.1.1;split at this
  ·rename_i k' hk;rw[hk,eq_of_beq this]
  ·cases this
 obtain⟨u,hu'⟩:=Option.isSome_iff_exists.1 hs;refine⟨.int k (k.wrap n),?_,rfl⟩;unfold execOp;simp[ho,e1,convert,run_underlying hu,run_underlying hu',Conv.intToInt]
theorem xzg(h:Sim c st tmps w S ρ){o t' t}(ht:chkTy c.P t (.cell (.d (.str [])))=true){x x' ds}(ho:o.op=.convert t' t x)(hx:trX x=some x')(hg:gd st x'=true)(hs:(c.P.underlying t').isSome=true){s}(hn:ev st x'=.d (.str s)):
  ∃cv,(execOp (Act.eval ⟨tmps,ds⟩) o).run c.P w=.ok (.value cv) w∧RepA w S ρ (.d (.str s)) cv:=by
 have e1:=h.ev hx hg (ds:=ds);rw[hn]at e1;obtain⟨y,e1,e2,e3⟩:=e1;have hu:=zXb ht;obtain⟨u,hu'⟩:=Option.isSome_iff_exists.1 hs;refine⟨.string y,?_,y,rfl,e2,e3⟩;unfold execOp;simp[ho,e1,convert,run_underlying hu,run_underlying hu']
theorem RepAs.get:∀{as} {l} {i:Nat} {a},RepAs w S ρ as l→as[i]? =some a→∃v,l[i]? =some v∧RepA w S ρ a v
 |[],_,i,a,_,h=>by simp at h
 |b::as,_,0,a,⟨v,r,h,h1,h2⟩,hi=>by subst h;simp at hi;subst hi;exact⟨v,rfl,h1⟩
 |b::as,_,i+1,a,⟨v,r,h,h1,h2⟩,hi=>by subst h;simpa using RepAs.get h2 (by simpa using hi)
theorem RepAs.yJF:∀{as} {l},as.length=l.length→(∀(i:Nat) (a) (v),as[i]? =some a→l[i]? =some v→RepA w S ρ a v)→RepAs w S ρ as l
 |[],l,h,_=>by cases l with|nil=>rfl|cons=>cases h
 |a::as,[],h,_=>by cases h
 |a::as,v::l,h,hi=>⟨v,l,rfl,hi 0 a v rfl rfl,RepAs.yJF (by simpa using h) fun i x y hx hy=>hi (i+1) x y (by simpa using hx) (by simpa using hy)⟩
theorem yqk(zs:List AV):∀n i,i<n*zs.length→(List.replicate n zs).flatten[i]? =zs[i%zs.length]?
 |0,i,h=>by omega
 |n+1,i,h=>by
  rw[List.replicate_succ,List.flatten_cons];by_cases hi:i<zs.length
  ·rw[List.getElem?_append_left hi,Nat.mod_eq_of_lt hi]
  ·rw[List.getElem?_append_right (by omega),yqk zs n _ (by rw[Nat.succ_mul]at h;omega),←Nat.mod_eq_sub_mod (by omega)]
theorem zJN(zs:List AV)(n):(List.replicate n zs).flatten.length=n*zs.length:=by simp
theorem yqF{zs z}(hz:RepAs w S ρ zs z.toList)(n):RepAs w S ρ (List.replicate n zs).flatten (madeCells z (n*zs.length)).toList:=by
 have hl:z.size=zs.length:=by simpa using RepAs.length hz
 refine RepAs.yJF (by rw[zJN];simp[madeCells]) fun i a v ha hv=>?_;have hi:i<n*zs.length:=by
  have:=(List.getElem?_eq_some_iff.1 ha).1
  rwa [zJN]at this
 rw[yqk zs n i hi]at ha;simp only[madeCells,Array.toList_map,Array.toList_range,List.getElem?_map,List.getElem?_range hi,Option.map_some,Option.some.injEq]at hv;have hpos:0<zs.length:=by
  rcases Nat.eq_zero_or_pos zs.length with e|e
  ·rw[e]at hi;omega
  ·exact e
 have hm:i%zs.length<z.size:=by rw[hl];exact Nat.mod_lt _ hpos
 obtain⟨v',e1,e2⟩:=RepAs.get hz ha;have hv':v=v':=by
  rw[←hv,hl];have:z.toList[i%zs.length]? =some z[i%zs.length]:=by simp[hm]
  rw[this]at e1;rw[←Option.some.inj e1];exact getElem!_pos z _ hm
 rw[hv'];exact e2
theorem xzp(h:Sim c st tmps w S ρ){o t esz eb zs}(ht:chkTy c.P t (.slice esz eb zs)=true){x y x' ds}(ho:o.op=.makeSlice t x y)
  (hxy:sameOpd x y=true) (hx:trX x=some x') (hg:gd st x'=true) {n} (hn:ev st x'=.d (.int .i64 n)) {d} (hm:getM st.mem d=none) (hN:d<c.N) (h0:0≤n) (hb:n*eb≤2^46) (h63:n≤9223372036854775807) (hz:zs.length=esz):
  ∃cv w' ρ',(execOp (Act.eval ⟨tmps,ds⟩) o).run c.P w=.ok (.value cv) w'∧Sim c {st with mem:=(d,(List.replicate n.toNat zs).flatten)::st.mem} tmps w' S ρ'∧RepA w' S ρ' (.vec d esz 0 n.toNat n.toNat) cv:=by
 have e1:=h.ev hx hg (ds:=ds);rw[hn]at e1;have e1:Act.eval ⟨tmps,ds⟩ x=.int .i64 n:=e1;have e2:Act.eval ⟨tmps,ds⟩ y=.int .i64 n:=by
  unfold sameOpd at hxy;split at hxy
  ·rw[←eq_of_beq hxy];exact e1
  ·simp only[Bool.and_eq_true,beq_iff_eq]at hxy;rw[←hxy.1,←hxy.2];exact e1
  ·cases hxy
 obtain⟨e,ie,z,hu,hie,h1,h2,h3,hz1,hz2⟩:=zzL ht;have hne:zs≠[]:=by intro e;rw[e]at hz;simp at hz;omega
 have hzr:=zXM w S ρ (yzE ht hu hie hz1 hne);obtain⟨ρ',hle,hbx,hs⟩:=h.newBox hm hN (yqF hzr n.toNat) e;have hrun:=run_make (P:=c.P) w t e ie z hu hie hz1 .i64 .i64 n n h0 (Int.le_refl _) (by rw[h2,Int.mul_comm];omega) h63;rw[h1,←hz]at hrun;refine⟨_,_,ρ',?_,hs,Nat.le_refl _,by omega,_,hbx,rfl⟩;unfold execOp;simp[ho,e1,e2,hrun]
theorem yQA(h:Sim c st tmps w S ρ){o t esz eb n zs}(ht:chkTy c.P t (.slice esz eb zs)=true){parts xs ds}
  (ho:o.op=.buildSlice t n parts) (hp:parts.toList.map (·.1)=List.range n) (hx:trXs (parts.toList.map (·.2))=some xs) (hg:gds st xs=true) {es} (hr:toElems esz (evs st xs)=some es) (hsmall:n*esz≤2^24)
  {d} (hm:getM st.mem d=none) (hN:d<c.N) (h63:es.length≤9223372036854775807):
  ∃cv w' ρ',(execOp (Act.eval ⟨tmps,ds⟩) o).run c.P w=.ok (.value cv) w'∧Sim c {st with mem:=(d,es.flatten.map .d)::st.mem} tmps w' S ρ'∧RepA w' S ρ' (.vec d esz 0 es.length es.length) cv:=by
 obtain⟨cells',e,hrun,g3,hcs,helen,hall,q3⟩:=yWK h ht ho hp hx hg hr hsmall (ds:=ds);obtain⟨ρ',hle,hbx,hs'⟩:=h.newBox hm hN (RepL.toAs (ρ:=ρ) g3) e;exact⟨.slice (some ⟨w.heap.size,0,none⟩) n n,_,ρ',hrun,hs',Nat.le_refl _,h63,_,hbx,by rw[helen]⟩
theorem yQI(h:Sim c st tmps w S ρ){s off cs xs l}(hm:getM st.mem s=some cs){b}(hb:ρ.box s=some b)(hl:RepAs w S ρ xs l)(h1:∀u∈l,u.oneCell'=true)(hfit:off+xs.length≤cs.length):
  ∃w',(storeCells ⟨b,off,none⟩ l 0).run c.P w=.ok () w'∧Sim c {st with mem:=(s,cs.take off++xs++cs.drop (off+xs.length))::st.mem} tmps w' S ρ:=by
 obtain⟨b',vs,e,g1,g2,g3,g4,g6⟩:=h.mem s cs hm (h.noMp hb hm);obtain rfl:=Option.some.inj (hb.symm.trans g1);have l2:=RepAs.length hl;have l4:=RepAs.length g4;simp only[Array.length_toList]at l4;have hst:=run_storeCells_at c.P b off e l 0 vs w g3 (by simp;omega) h1;simp only[Nat.add_zero]at hst;refine⟨_,hst,h.setBox hb g2 g3 g6 (cells:=(vs.toList.take off++l++vs.toList.drop (off+l.length)).toArray) ?_ (by simp[hm])⟩;simp only[List.toList_toArray];rw[l2];exact RepAs.append (RepAs.append (RepAs.take _ g4) hl) (RepAs.drop _ g4)
theorem Sim.again(h:Sim c st tmps w S ρ){s b cs}(hm:getM st.mem s=some cs)(hb:ρ.box s=some b):Sim c {st with mem:=(s,cs)::st.mem} tmps w S ρ:=by
 obtain⟨b',vs,e,g1,g2,g3,g4,g6⟩:=h.mem s cs hm (h.noMp hb hm);obtain rfl:=Option.some.inj (hb.symm.trans g1);have:=h.setBox hb g2 g3 g6 (cells:=vs) g4 (by simp[hm])
 rwa [setRow_self w b vs e (0,0) g3]at this
theorem flatten1:∀{es:List (List D)},(∀e∈es,e.length=1)→es.flatten.length=es.length
 |[],_=>rfl
 |e::es,h=>by rw[List.flatten_cons,List.length_append,flatten1 fun x hx=>h x (by simp[hx]),h e (by simp),List.length_cons,Nat.add_comm]
theorem xzf(h:Sim c st tmps w S ρ){o t t' eb zs}(ht:chkTy c.P t (.slice 1 eb zs)=true){x y x' y' ds}
  (ho:o.op=.call {callee:=.builtin .copy,args:=#[x,y],argTypes:=#[t,t']}) (hx:trX x=some x') (hy:trX y=some y') (hg:gd st x'=true) (hg2:gd st y'=true) {s off n cap} {cs} {es}
  (he:ev st x'=.vec s 1 off n cap) (hes:(ev st y').elems=some es) (hm:getM st.mem s=some cs) (hl:∀e∈es,e.length=1) (hfit:off+n*1≤cs.length):
  ∃w',(execOp (Act.eval ⟨tmps,ds⟩) o).run c.P w=.ok (.value (.int .i64 (Nat.min es.length n:Nat))) w'∧
   Sim c {st with mem:=(s,cs.take off++(es.take n).flatten.map .d++cs.drop (off+(es.take n).length*1))::st.mem} tmps w' S ρ:=by
 have e1:=h.ev hx hg (ds:=ds);rw[he]at e1;obtain⟨_,_,b,hb,hv⟩:=e1;have e2:=zjl (h.ev hy hg2 (ds:=ds)) hes;obtain⟨base,cap2,hv2,c1,c2,c3,c4⟩:=e2;obtain⟨e,ie,z,hu,hie,h1,_,h3,_⟩:=zzL ht;have hsz:(c.P.info? e).map (·.size)=some 1:=by rw[hie,Option.map_some,h1]
 by_cases h0:Nat.min es.length n=0
 ·have hrun:=run_copy_none (P:=c.P) w t t' o.type e (some ⟨b,off,none⟩) base n cap es.length cap2 hu hsz h0;refine⟨w,?_,?_⟩
  ·unfold execOp;simp[ho,resolve,invoke,builtin,hv,hv2,hrun,goInt,h0]
  ·have hnil:es.take n=[]:=by apply List.eq_nil_of_length_eq_zero;rw[List.length_take,Nat.min_comm];exact h0
   rw[hnil];simp only[List.flatten_nil,List.map_nil,List.append_nil,List.length_nil,Nat.zero_mul,Nat.add_zero,List.take_append_drop];exact h.again hm hb
 ·have hpos:0<Nat.min es.length n:=Nat.pos_of_ne_zero h0;have hesl:0<es.length:=Nat.lt_of_lt_of_le hpos (Nat.min_le_left _ _);cases base with
  |none=>have:=c3 rfl;omega
  |some a=>
  obtain⟨d1,_,d3⟩:=c4 a rfl;have d1:=d1 (by omega);obtain⟨ab,ao,asp⟩:=a;simp only at d1 d3;subst d1;have d4:=RepEs.flat.1 (RepEs.take n d3);obtain⟨l,q1,q2⟩:=RepCs.values d4;have hfl:∀e∈es.take n,e.length=1:=fun e he=>hl e (List.mem_of_mem_take he);have hll:l.length=Nat.min es.length n:=by rw[RepL.length q1,flatten1 hfl,List.length_take,Nat.min_comm]
  obtain⟨b',vs,ev,g1,g2,g3,g4,g6⟩:=h.mem s cs hm (h.noMp hb hm);obtain rfl:=Option.some.inj (hb.symm.trans g1);have l4:=RepAs.length g4;simp only[Array.length_toList]at l4;have hmn:Nat.min es.length n≤n:=Nat.min_le_right _ _;have hrun:=run_copy_row (P:=c.P) w t t' o.type e b off n cap ⟨ab,ao,none⟩ es.length cap2 vs ev l hu hsz g3 hll (fun j v hj=>by rw[addr_add];exact(q2 j v hj).1) (by omega) (RepL.ones q1);refine⟨_,?_,h.setBox hb g2 g3 g6 (cells:=(vs.toList.take off++l++vs.toList.drop (off+l.length)).toArray) ?_ (by simp[hm])⟩
  ·unfold execOp;simp[ho,resolve,invoke,builtin,hv,hv2,hrun,goInt,hll]
  ·simp only[List.toList_toArray];rw[show(es.take n).length*1=l.length by rw[hll,List.length_take,Nat.min_comm,Nat.mul_one]];exact RepAs.append (RepAs.append (RepAs.take _ g4) (RepL.toAs q1)) (RepAs.drop _ g4)
theorem xze(h:Sim c st tmps w S ρ){o t tys esz eb zs}(ht:chkTy c.P t (.slice esz eb zs)=true){x x' ds}
  (ho:o.op=.call {callee:=.builtin .clear,args:=#[x],argTypes:=(t::tys).toArray}) (hd:o.dst=none) (hx:trX x=some x') (hg:gd st x'=true) {s off n cap} {cs}
  (he:ev st x'=.vec s esz off n cap) (hm:getM st.mem s=some cs) (hz:zs.length=esz) (hc:cells1 zs=true) (hfit:off+n*esz≤cs.length):
  ∃w',(execOp (Act.eval ⟨tmps,ds⟩) o).run c.P w=.ok (.value (.tuple #[])) w'∧Sim c {st with mem:=(s,cs.take off++(List.replicate n zs).flatten++cs.drop (off+n*esz))::st.mem} tmps w' S ρ:=by
 have e1:=h.ev hx hg (ds:=ds);rw[he]at e1;obtain⟨_,_,b,hb,hv⟩:=e1;obtain⟨e,ie,z,hu,hie,h1,_,h3,hz1,hz2⟩:=zzL ht;have hne:zs≠[]:=by intro e;rw[e]at hz;simp at hz;omega
 have hzr:=zXM w S ρ (yzE ht hu hie hz1 hne);have hmade:=yqF hzr n;by_cases h0:n=0
 ·subst h0;refine⟨w,?_,?_⟩
  ·unfold execOp;simp[ho,resolve,invoke,builtin,hv,Builtin.clear_,run_underlying hu]
  ·simp only[List.replicate_zero,List.flatten_nil,List.append_nil,Nat.zero_mul,Nat.add_zero,List.take_append_drop];exact h.again hm hb
 ·have hzc:(Builtin.zeroCells z.cells n)=madeCells z.cells (n*zs.length):=by
    have:z.cells.size=zs.length:=by simpa using RepAs.length hzr
    simp only[Builtin.zeroCells,madeCells,this]
  have hone:∀u∈(madeCells z.cells (n*zs.length)).toList,u.oneCell'=true:=zK2 hmade (by
   clear hmade hzc;induction n with
   |zero=>rfl
   |succ n ih=>
    rw[List.replicate_succ,List.flatten_cons];have:∀(a b:List AV),cells1 a=true→cells1 b=true→cells1 (a++b)=true:=by
     intro a;induction a with
     |nil=>intro b _ hb;exact hb
     |cons y a iha=>intro b ha hb;cases y<;>simp only[cells1,Bool.false_eq_true,List.cons_append]at ha⊢<;>exact iha b ha hb
    refine this _ _ hc ?_;have:∀n,cells1 (List.replicate n zs).flatten=true:=by
     intro n;induction n with
     |zero=>rfl
     |succ n ih=>rw[List.replicate_succ,List.flatten_cons];exact this _ _ hc ih
    exact this n)
  obtain⟨w',hrun,hs⟩:=yQI h hm hb hmade hone (off:=off) (by rw[zJN,hz];exact hfit);refine⟨w',?_,?_⟩
  ·unfold execOp;obtain⟨m,rfl⟩:=Nat.exists_eq_succ_of_ne_zero h0;simp[ho,resolve,invoke,builtin,hv,Builtin.clear_,run_underlying hu,zKM hie hz1,hzc,hrun]
  ·rw[zJN,hz]at hs;exact hs
end Go.Abs
end
section
namespace Go.Abs
open Go.RowKit
variable{c:Ctx}{st:St}{tmps:Array Value}{w:World}{S:Safe}{ρ:Rho}
theorem yYB(h:Sim c st tmps w S ρ){t ty esz eb zs}(ht:chkTy c.P t (.slice esz eb zs)=true){d}(hd:getT st.tk d=none){es ys mm}(hy1:ys.length=mm)(hm1:1≤mm){base base2 n cap m cap2}
  (hv:Rep w S (.lst es) (.slice base n cap)) (hy:Rep w S (.lst ys) (.slice base2 m cap2)) (hes:∀e∈es,e.length=esz) (hys:∀e∈ys,e.length=esz) (hbytes:(es.length+ys.length)*eb≤2^46) (h63:es.length+ys.length≤9223372036854775807)
  (hsp:n=cap∨∃b,base=some ⟨b,0,none⟩∧c.Own b∧(∃cur e,w.heap[b]? =some (.cells cur e (0,0))∧cur.size=cap*esz)∧
   (∀o,n*esz≤o→¬S b o)∧(∀s,ρ.box s≠some b)∧∀t' b' y,getT st.tk t'=some true→ρ.tok t'=some (some ⟨b',0,none⟩,y)→y.1≠y.2.1→b'≠b):
  ∃v' w' S' ρ',(Builtin.append_ #[t,t] ty #[.slice base n cap,.slice base2 m cap2]).run c.P w=.ok v' w'∧Sim c {st with tk:=(d,true)::st.tk} tmps w' S' ρ'∧RepA w' S' ρ' (.pnd mm d esz es) v':=by
 obtain⟨e,ie,z,hu,hie,q1,q2,q3,q4,q5⟩:=zzL ht;obtain⟨rfl,hn,hcap,hnil,l1,hl1,hl1c⟩:=zk8 hv;obtain⟨rfl,hm,hcap2,hnil2,l2,hl2,hl2c⟩:=zk8 hy;have htk:∀t',getT ((d,true)::st.tk) t'=if t'=d then some true else if some t'=(none:Option Nat)then(getT st.tk t').map (fun _=>false)else getT st.tk t':=by
  intro t';simp only[getT];by_cases hh:d=t'
  ·subst hh;simp
  ·have:¬t'=d:=fun e=>hh e.symm;simp[hh,this]
 have hall:∀e∈es++ys,e.length=esz:=fun e he=>(List.mem_append.1 he).elim (hes e) (hys e);have len1:l1.length=es.length*esz:=(RepL.length hl1).trans (zxb hes);have len2:l2.length=ys.length*esz:=(RepL.length hl2).trans (zxb hys);have hm0:ys.length≠0:=by omega
 cases base2 with
 |none=>have:=hnil2 rfl;omega
 |some a2=>
  obtain⟨sp2,hc2⟩:=hl2c a2 rfl;by_cases hroom:es.length+ys.length≤cap
  ·
   rcases hsp with hsp|⟨b,k0,k1,⟨cur,e',k2,k2'⟩,k3,k4,k5⟩
   ·omega
   ·subst k0;obtain⟨_,hc1⟩:=hl1c _ rfl;have hfit:es.length*ie.size+l2.length≤cur.size:=by rw[len2,k2',q1,←Nat.add_mul];exact Nat.mul_le_mul_right _ hroom
    have hr:=run_append_room' (P:=c.P) w t ty e e' ie hu hie b es.length cap cur k2 a2 ys.length cap2 l2 (by rw[len2,q1]) (fun j v hj=>(hc2 j v hj).1) (RepL.ones hl2) hroom hfit;rw[q1]at hr hfit;have hnewsz:(cur.toList.take (es.length*esz)++l2++cur.toList.drop (es.length*esz+l2.length)).toArray.size=cur.size:=by simp;omega
    have hcut:∀o,o<es.length*esz→(cur.toList.take (es.length*esz)++l2++cur.toList.drop (es.length*esz+l2.length)).toArray[o]? =cur[o]? :=by
     intro o ho;have:o<(cur.toList.take (es.length*esz)).length:=by simp;omega
     simp[List.getElem?_append_left this,List.getElem?_take,ho]
    have hs:=h.writeFree (n':=es.length*esz) k1 k2 hnewsz k3 hcut (by rw[hnewsz,k2'];exact Nat.mul_le_mul_right _ (by omega)) k4 k5;have hnew:=setRow_heap w b cur (cur.toList.take (es.length*esz)++l2++cur.toList.drop (es.length*esz+l2.length)).toArray e' _ k2;obtain⟨ρ',hle,hρ,hs'⟩:=hs.newTok hd none htk (some ⟨b,0,none⟩,es.length,cap,esz) (by
     refine .inr ⟨b,rfl,k1,⟨_,e',hnew,hnewsz.trans k2'⟩,hn,hcap,fun o ho hso=>?_,k4,fun t' b' y _ a1 a2 a3=>k5 t' b' y a1 a2 a3⟩;simp only at ho;rcases hso with hso|⟨_,hso⟩
     ·exact k3 o ho hso
     ·omega)
    refine⟨_,_,_,ρ',hr,hs',⟨hm1,hes⟩,_,_,_,hρ,?_,by omega,by rw[hy1]⟩;have hk:Keeps w S (w.setRow b (cur.toList.take (es.length*esz)++l2++cur.toList.drop (es.length*esz+l2.length)).toArray) (fun b' o=>S b' o∨(b'=b∧o<es.length*esz)):=by
     intro b' o hso;refine⟨.inl hso,?_⟩;by_cases hbb:b'=b
     ·subst hbb;have ho:o<es.length*esz:=by
       rcases Nat.lt_or_ge o (es.length*esz)with h1|h1
       ·exact h1
       ·exact absurd hso (k3 o h1)
      rw[zzm hnew,zzm k2,hcut o ho]
     ·exact cell_setRow_other hbb
    exact Rep.keep hk _ _ hv
  ·
   have hgrow:∃v',(Builtin.append_ #[t,t] ty #[.slice base es.length cap,.slice (some a2) ys.length cap2]).run c.P w=
     .ok (.slice (some ⟨w.heap.size,0,none⟩) (es.length+ys.length) v') (w.drew.alloc (.cells (l1.toArray++l2.toArray++Builtin.zeroCells z.cells (v'-(es.length+ys.length))) e))∧es.length+ys.length≤v'∧v'≤9223372036854775807:=by
    have hb48:(es.length+ys.length)*ie.bytes≤140737488355328:=by rw[q2];omega
    have hz':=grownCap_le_maxLen w (es.length+ys.length) cap e (by unfold maxLen;omega);unfold maxLen at hz';cases base with
    |none=>
     have hc0:=hnil rfl;have h0:es.length=0:=by omega
     have hl0:l1=[]:=List.eq_nil_of_length_eq_zero (by rw[len1,h0];simp);subst hl0;subst hc0;have hr:=run_append_nil (P:=c.P) w t ty e ie z hu hie q4 a2 ys.length cap2 l2 (by rw[len2,q1]) (fun j v hj=>(hc2 j v hj).1) (by omega) (by omega) (by have:=hb48;rw[h0,Nat.zero_add]at this;omega);simp only[h0,Nat.zero_add]at hz'⊢;refine⟨_,by simpa using hr,grownCap_ge _ _ _ _,hz'⟩
    |some a1=>obtain⟨sp1,hc1⟩:=hl1c a1 rfl;have hr:=run_append_grow (P:=c.P) w t ty e ie z hu hie q4 a1 es.length cap l1 (by rw[len1,q1]) (fun j v hj=>(hc1 j v hj).1) a2 ys.length cap2 l2 (by rw[len2,q1]) (fun j v hj=>(hc2 j v hj).1) (by omega) (by omega) (growslice_fits (by omega) hb48);exact⟨_,hr,grownCap_ge _ _ _ _,hz'⟩
   obtain⟨cap',hr,hge,hle63⟩:=hgrow;generalize hO:(Obj.cells (l1.toArray++l2.toArray++Builtin.zeroCells z.cells (cap'-(es.length+ys.length))) e)=O at hr;have hsize:(l1.toArray++l2.toArray++Builtin.zeroCells z.cells (cap'-(es.length+ys.length))).size=cap'*esz:=by simp only[Array.size_append,List.size_toArray,size_zeroCells,q5,len1,len2,←Nat.add_mul];congr 1;omega
   have hnew:(w.drew.alloc O).heap[w.heap.size]? =some (.cells (l1.toArray++l2.toArray++Builtin.zeroCells z.cells (cap'-(es.length+ys.length))) e (0,0)):=by rw[←hO];exact heap_alloc_new w.drew _
   have hbel:Below w.heap.size w (w.drew.alloc O):=((Below.refl _ _).drew).alloc (by simp) _;have hs:=h.grow (w':=w.drew.alloc O) (S':=fun b o=>S b o∨(b=w.heap.size∧o<es.length*esz)) hbel (fun b o hs=>.inl hs) (fun b o hs=>by
     rcases hs with hs|⟨rfl,_⟩
     ·exact .inl hs
     ·exact .inr (Nat.le_refl _)) (fun b o hs=>by
     rcases hs with hs|⟨rfl,ho⟩
     ·obtain⟨v,hv⟩:=h.live b o hs;exact⟨v,(hbel.cell (p:=⟨b,o,none⟩) (zyu hv)).trans hv⟩
     ·rw[zzm hnew];have:o<(l1.toArray++l2.toArray++Builtin.zeroCells z.cells (cap'-(es.length+ys.length))).size:=by rw[hsize];exact Nat.lt_of_lt_of_le ho (Nat.mul_le_mul_right _ (by omega))
      exact⟨_,Array.getElem?_eq_getElem this⟩)
   have hSn:∀o,¬S w.heap.size o:=fun o hso=>by obtain⟨v,hv⟩:=h.live _ o hso;have:=zyu hv;omega
   obtain⟨ρ',hle,hρ,hs'⟩:=hs.newTok hd none htk (some ⟨w.heap.size,0,none⟩,es.length,cap',esz) (by
    refine .inr ⟨w.heap.size,rfl,.inl h.below.size,⟨_,e,hnew,hsize⟩,(by show es.length≤cap';omega),hle63,fun o ho hso=>?_,fun s hsb=>?_,fun t' b' y _ a1 a2 a3=>?_⟩
    ·simp only at ho;rcases hso with hso|⟨_,hso⟩
     ·exact hSn o hso
     ·omega
    ·cases hm':getM st.mem s with
     |none=>rw[h.boxNew s hm']at hsb;cases hsb
     |some cs'=>obtain⟨b',vs,e',g1,_,g3,_⟩:=h.mem s cs' hm' (h.noMp hsb hm');obtain rfl:=Option.some.inj (hsb.symm.trans g1);have:=(Array.getElem?_eq_some_iff.1 g3).1;omega
    ·obtain⟨x,m1,m2⟩:=h.tok t' a1;obtain rfl:=Option.some.inj (a2.symm.trans m1);rcases m2 with m2|⟨b2,m0,_,⟨_,_,m3,_⟩,_⟩
     ·exact absurd m2 a3
     ·cases m0;have:=(Array.getElem?_eq_some_iff.1 m3).1;omega)
   refine⟨_,_,_,ρ',hr,hs',⟨hm1,hes⟩,_,_,_,hρ,?_,by omega,by rw[hy1]⟩;have hk:Keeps w S (w.drew.alloc O) (fun b o=>S b o∨(b=w.heap.size∧o<es.length*esz)):=fun b o hso=>by obtain⟨v,hv⟩:=h.live b o hso;exact⟨.inl hso,hbel.cell (p:=⟨b,o,none⟩) (zyu hv)⟩
   have hlA:=RepL.keep hk _ _ hl1;have:=zvg (cap:=cap') hes hlA (b:=w.heap.size) (fun j v hj=>?_) (by omega) hle63
   ·exact this
   ·rw[zzm hnew];have hlt:j<l1.length:=(List.getElem?_eq_some_iff.1 hj).1;refine⟨?_,.inr ⟨rfl,by omega⟩⟩;rw[Array.getElem?_append_left (by simp;omega),Array.getElem?_append_left (by simpa using hlt)];simpa using hj
theorem yQC(h:Sim c st tmps w S ρ){o t esz eb zs}(ht:chkTy c.P t (.slice esz eb zs)=true){x y x' y' ds}
  (ho:o.op=.indexAddr t x y) (hx:trX x=some x') (hy:trX y=some y') (hg:gd st x'=true) (hg2:gd st y'=true) {mm tk} {es} {k} {n}
  (he:ev st x'=.pnd mm tk esz es) (hn:ev st y'=.d (.int k n)) (hob:n=es.length):
  ∃cv,(execOp (Act.eval ⟨tmps,ds⟩) o).run c.P w=.ok (.value cv) w∧RepA w S ρ (.eptr tk esz) cv:=by
 have e1:=h.ev hx hg (ds:=ds);rw[he]at e1;obtain⟨⟨hmm,hlen⟩,base,m,cap,hρ,hrep,hcap,hv⟩:=e1;have e2:=h.ev hy hg2 (ds:=ds);rw[hn]at e2;simp only[RepA,Rep]at e2;obtain⟨e,ie,z,hu,hie,h1,_,h3,_⟩:=zzL ht;cases base with
 |none=>obtain⟨base',cap',hv',_,_,h0,_⟩:=hrep;cases hv';have:=h0 rfl;omega
 |some a=>
 have hm:m=es.length:=by obtain⟨_,_,hv',_⟩:=hrep;cases hv';rfl
 subst hm;refine⟨.pointer (some (a.add (es.length*esz))),?_,⟨a,es.length,cap,hρ,by omega,rfl⟩⟩;unfold execOp;simp only[ho,hv,e2,hob];have hlt:(es.length:Int)<((es.length+mm:Nat):Int):=by omega
 simp[Instr.indexAt,asIntOf,run_underlying hu,run_sizeOf hie,h1,hlt,show mm≠0 by omega]
theorem yzJ{esz}:∀{as} {es},toElems esz as=some es→∀e∈es,e.length=esz
 |[],es,h=>by simp only[toElems,Option.some.injEq]at h;subst h;exact fun e he=>by cases he
 |a::as,es,h=>by
  simp only[toElems]at h;split at h
  ·split at h
   ·rename_i e es' he hes hl;cases h;intro x hx;rcases List.mem_cons.1 hx with rfl|hx
    ·exact hl
    ·exact yzJ hes x hx
   ·cases h
  ·cases h
theorem yQB(h:Sim c st tmps w S ρ){o t esz eb n zs}(ht:chkTy c.P t (.slice esz eb zs)=true){parts xs ds}
  (ho:o.op=.buildSlice t n parts) (hp:parts.toList.map (·.1)=List.range n) (hx:trXs (parts.toList.map (·.2))=some xs) (hg:gds st xs=true) {es} (hr:toElems esz (evs st xs)=some es) (hsmall:n*esz≤2^24):
  ∃cv w' S',(execOp (Act.eval ⟨tmps,ds⟩) o).run c.P w=.ok (.value cv) w'∧Sim c st tmps w' S' ρ∧RepA w' S' ρ (.zsl es.length esz) cv:=by
 obtain⟨cv,w',S',h1,h2,h3,_⟩:=yJG h ht ho hp hx hg hr hsmall (ds:=ds);exact⟨cv,w',S',h1,h2,es,⟨rfl,yzJ hr⟩,h3⟩
mutual
theorem RepA.fill{w':World}{S':Safe}{ρ':Rho}{t:Nat}{xs:List D}(hk:Keeps w S w' S')(hb:ρ'.box=ρ.box)(hm:ρ'.mbox=ρ.mbox)(ht:∀t',t'≠t→ρ'.tok t'=ρ.tok t')
  (hp:∀m sz es v,RepA w S ρ (.pnd m t sz es) v→RepA w' S' ρ' (if m=1 then .own t sz (es++[xs])else .pnd (m-1) t sz (es++[xs])) v):∀(a:AV) (v:Value),RepA w S ρ a v→RepA w' S' ρ' (a.fill t xs) v
 |.undef,_,_=>trivial
 |.d x,_,h=>Rep.keep hk x _ h
 |.full _,_,⟨h1,h2⟩=>⟨Rep.keep hk _ _ h1,h2⟩
 |.agg cs,_,⟨vs,h1,h2⟩=>⟨vs,h1,RepAs.fill hk hb hm ht hp cs _ h2⟩
 |.tup cs,_,⟨vs,h1,h2⟩=>⟨vs,h1,RepAs.fill hk hb hm ht hp cs _ h2⟩
 |.clo _ cs,_,⟨vs,h1,h2⟩=>⟨vs,h1,RepAs.fill hk hb hm ht hp cs _ h2⟩
 |.cond _ a,_,⟨h1,h2⟩=>⟨fun hg=>RepA.fill hk hb hm ht hp a _ (h1 hg),h2⟩
 |.ptr _ _,_,⟨b,h1,h2⟩=>⟨b,by rw[hb];exact h1,h2⟩
 |.mref _,_,⟨b,h1,h2⟩=>⟨b,by rw[hm];exact h1,h2⟩
 |.vec _ _ _ _ _,_,⟨k1,k2,b,h1,h2⟩=>⟨k1,k2,b,by rw[hb];exact h1,h2⟩
 |.zsl _ _,_,⟨e,h1,h2⟩=>⟨e,h1,Rep.keep hk _ _ h2⟩
 |.mp _ _ _,_,h=>h.elim
 |.own t' sz es,v,h=>by
  simp only[AV.fill];by_cases he:t'=t
  ·rw[if_pos he];trivial
  ·rw[if_neg he];obtain⟨h1,h2,base,n,cap,h3,h4⟩:=h;exact⟨Rep.keep hk _ _ h1,h2,base,n,cap,by rw[ht t' he];exact h3,h4⟩
 |.pnd m t' sz es,v,h=>by
  simp only[AV.fill];by_cases he:t'=t
  ·rw[if_pos he];subst he;exact hp m sz es v h
  ·rw[if_neg he];obtain⟨h1,base,n,cap,h2,h3,h4⟩:=h;exact⟨h1,base,n,cap,by rw[ht t' he];exact h2,Rep.keep hk _ _ h3,h4⟩
 |.eptr t' sz,v,h=>by
  simp only[AV.fill];by_cases he:t'=t
  ·rw[if_pos he];trivial
  ·rw[if_neg he];obtain⟨b,n,cap,h2,h3⟩:=h;exact⟨b,n,cap,by rw[ht t' he];exact h2,h3⟩
theorem RepAs.fill{w':World}{S':Safe}{ρ':Rho}{t:Nat}{xs:List D}(hk:Keeps w S w' S')(hb:ρ'.box=ρ.box)(hm:ρ'.mbox=ρ.mbox)(ht:∀t',t'≠t→ρ'.tok t'=ρ.tok t')
  (hp:∀m sz es v,RepA w S ρ (.pnd m t sz es) v→RepA w' S' ρ' (if m=1 then .own t sz (es++[xs])else .pnd (m-1) t sz (es++[xs])) v):∀(as:List AV) (vs:List Value),RepAs w S ρ as vs→RepAs w' S' ρ' (AV.fills t xs as) vs
 |[],_,h=>h
 |a::as,_,⟨v,r,h,h1,h2⟩=>⟨v,r,h,RepA.fill hk hb hm ht hp a v h1,RepAs.fill hk hb hm ht hp as r h2⟩
end
theorem ykg(t)(xs)(k):∀l:List (Nat×AV),getS (fillSlots t xs l) k=(getS l k).fill t xs
 |[]=>rfl
 |(j,v)::l=>by
  simp only[fillSlots,getS];by_cases hj:j=k
  ·simp only[hj,if_true]
  ·simp only[if_neg hj];exact ykg t xs k l
theorem zYP(t)(xs)(k):∀l:Mem,getM (fillMem t xs l) k=(getM l k).map (AV.fills t xs)
 |[]=>rfl
 |(j,v)::l=>by
  simp only[fillMem,getM];by_cases hj:j=k
  ·simp only[hj,if_true,Option.map_some]
  ·simp only[if_neg hj];exact zYP t xs k l
theorem yQh{t xs}(a:AV):(a.fill t xs).isMp=a.isMp:=by
 cases a with
 |own t' sz es=>simp only[AV.fill];by_cases he:t'=t<;>simp[he,AV.isMp]
 |pnd m t' sz es=>simp only[AV.fill];by_cases he:t'=t<;>by_cases hm:m=1<;>simp[he,hm,AV.isMp]
 |eptr t' sz=>simp only[AV.fill];by_cases he:t'=t<;>simp[he,AV.isMp]
 |_=>simp only[AV.fill,AV.isMp]
theorem yqa{t xs cs}:isMp (AV.fills t xs cs)=isMp cs:=by
 cases cs with
 |nil=>rfl
 |cons a r=>
  cases r with
  |cons b r=>rfl
  |nil=>exact yQh a
theorem yK1{t xs cs k e kvs}(h:AV.fills t xs cs=[.mp k e kvs]):cs=[.mp k e kvs]:=by
 have h1:isMp cs=true:=by rw[←yqa (t:=t) (xs:=xs),h];rfl
 obtain⟨k',e',kvs',rfl⟩:=zxX.1 h1;simpa only[AV.fills,AV.fill]using h
theorem xzu(h:Sim c st tmps w S ρ){o ty t}(ht:chkTy c.P t ty=true){x y x' y' ds}(ho:o.op=.store t x y)(hx:trX x=some x')(hy:trX y=some y')
  {tk sz} {xs} (hp:ev st x'=.eptr tk sz) (hg:gd st x'=true) (hg2:gd st y'=true) (hsol:(ev st y').solid=true) (hxs:toDs [] 1 (ev st y').cells=some xs) (hn:tySize ty=sz) (hl:xs.length=sz) (htk:getT st.tk tk=some true):
  ∃w' S' ρ',(execOp (Act.eval ⟨tmps,ds⟩) o).run c.P w=.ok .skip w'∧Sim c (st.fill tk xs) tmps w' S' ρ':=by
 have e1:=h.ev hx hg (ds:=ds);rw[hp]at e1;obtain⟨a,n,cap,hρ,hcap,hv⟩:=e1;have e2:=zv6 (m:=[]) zyp 1 (zZX (h.ev hy hg2 (ds:=ds)) hsol) hxs;obtain⟨i,z,hi,_,hsz,_,_,_⟩:=zZZ ht;obtain⟨x0,q1,q2⟩:=h.tok tk htk;rw[hρ]at q1;cases q1;rcases q2 with q2|⟨b,k0,k1,⟨cur,e,k2,k2'⟩,k3,k4,k5,k6,k7⟩
 ·simp only at q2;omega
 cases k0;rw[addr_add,Nat.zero_add]at hv;simp only at k2' k3 k4 k5;have lx:=RepL.length e2;simp only[Array.length_toList]at lx;have hmul:n*sz+sz≤cap*sz:=by rw[←Nat.succ_mul];exact Nat.mul_le_mul_right _ hcap
 have hst:=run_storeCells_at c.P b (n*sz) e (Act.eval ⟨tmps,ds⟩ y).cells.toList 0 cur w k2 (by simp;omega) (RepL.ones e2);simp only[Nat.add_zero,Array.length_toList]at hst;generalize hnewd:(cur.toList.take (n*sz)++(Act.eval ⟨tmps,ds⟩ y).cells.toList++cur.toList.drop (n*sz+(Act.eval ⟨tmps,ds⟩ y).cells.size)).toArray=new at hst;have hnewsz:new.size=cur.size:=by rw[←hnewd];simp;omega
 have hcut:∀o,o<n*sz→new[o]? =cur[o]? :=by
  intro o ho;have:o<(cur.toList.take (n*sz)).length:=by simp;omega
  rw[←hnewd];simp[List.getElem?_append_left this,List.getElem?_take,ho]
 have hmid:∀j v,(Act.eval ⟨tmps,ds⟩ y).cells.toList[j]? =some v→new[n*sz+j]? =some v:=by
  intro j v hj;have hlt:j<(Act.eval ⟨tmps,ds⟩ y).cells.toList.length:=(List.getElem?_eq_some_iff.1 hj).1;have t1:(cur.toList.take (n*sz)).length=n*sz:=by simp;omega
  rw[←hnewd];simp only[List.getElem?_toArray,List.append_assoc];rw[List.getElem?_append_right (by rw[t1];omega),List.getElem?_append_left (by rw[t1];omega),t1,show n*sz+j-n*sz=j by omega];exact hj
 have hk:Keeps w S (w.setRow b new) (fun b' o=>S b' o∨(b'=b∧o<(n+1)*sz)):=by
  intro b' o hso;refine⟨.inl hso,?_⟩;by_cases hbb:b'=b
  ·subst hbb;have ho:o<n*sz:=by
    rcases Nat.lt_or_ge o (n*sz)with h1|h1
    ·exact h1
    ·exact absurd hso (k5 o h1)
   rw[zzm (setRow_heap w b' cur new e _ k2),zzm k2,hcut o ho]
  ·exact cell_setRow_other hbb
 have hnew:=setRow_heap w b cur new e _ k2;let ρ':Rho:={ρ with tok:=fun t=>if t=tk then some (some ⟨b,0,none⟩,n+1,cap,sz)else ρ.tok t};have hpnd:∀m sz' es v,RepA w S ρ (.pnd m tk sz' es) v→RepA (w.setRow b new) (fun b' o=>S b' o∨(b'=b∧o<(n+1)*sz)) ρ' (if m=1 then .own tk sz' (es++[xs])else .pnd (m-1) tk sz' (es++[xs])) v:=by
  rintro m sz' es v ⟨⟨hm1,h1⟩,base,n',cap',h2,h3,h4,rfl⟩
  rw[hρ]at h2;cases h2;have hlen:es.length=n:=by obtain⟨_,_,hv',_⟩:=h3;cases hv';rfl
  have hall:∀e∈es++[xs],e.length=sz:=fun e he=>by
   rcases List.mem_append.1 he with he|he
   ·exact h1 e he
   ·rw[List.mem_singleton.1 he];exact hl
  obtain⟨_,_,_,_,l1,hl1,hl1c⟩:=zk8 h3;obtain⟨_,hc1⟩:=hl1c _ rfl;have len1:l1.length=n*sz:=by rw[RepL.length hl1,zxb h1,hlen]
  have hlA:RepL (w.setRow b new) (fun b' o=>S b' o∨(b'=b∧o<(n+1)*sz)) (es++[xs]).flatten (l1++(Act.eval ⟨tmps,ds⟩ y).cells.toList):=by rw[List.flatten_append];simp only[List.flatten_cons,List.flatten_nil,List.append_nil];exact RepL.append (RepL.keep hk _ _ hl1) (RepL.keep hk _ _ e2)
  have:=zvg (cap:=cap) hall hlA (b:=b) (fun j v hj=>?_) (by simp;omega) k4
  ·have e:(es++[xs]).length=n+1:=by simp[hlen]
   rw[e]at this;by_cases hm:m=1
   ·rw[if_pos hm];subst hm;exact⟨this,hall,some ⟨b,0,none⟩,n+1,cap,by simp[ρ'],rfl⟩
   ·rw[if_neg hm];exact⟨⟨by omega,hall⟩,some ⟨b,0,none⟩,n+1,cap,by simp[ρ'],this,by omega,by rw[show n+1+(m-1)=n+m by omega]⟩
  ·rw[zzm hnew];rcases Nat.lt_or_ge j l1.length with hj1|hj1
   ·rw[List.getElem?_append_left hj1]at hj;have hcj:=(hc1 j v hj).1;rw[addr_add,Nat.zero_add,zzm k2]at hcj;refine⟨by rw[hcut j (by omega)];exact hcj,.inr ⟨rfl,?_⟩⟩;rw[Nat.succ_mul];omega
   ·rw[List.getElem?_append_right hj1]at hj;have hlt:j-l1.length<(Act.eval ⟨tmps,ds⟩ y).cells.toList.length:=(List.getElem?_eq_some_iff.1 hj).1;simp only[Array.length_toList]at hlt;have:=hmid _ _ hj;rw[show n*sz+(j-l1.length)=j by omega]at this;exact⟨this,.inr ⟨rfl,by rw[Nat.succ_mul];omega⟩⟩
 have hfill:∀a v,RepA w S ρ a v→RepA (w.setRow b new) (fun b' o=>S b' o∨(b'=b∧o<(n+1)*sz)) ρ' (a.fill tk xs) v:=RepA.fill hk rfl rfl (fun t' ht'=>by simp[ρ',ht']) hpnd;have hfills:∀as vs,RepAs w S ρ as vs→RepAs (w.setRow b new) (fun b' o=>S b' o∨(b'=b∧o<(n+1)*sz)) ρ' (AV.fills tk xs as) vs:=RepAs.fill hk rfl rfl (fun t' ht'=>by simp[ρ',ht']) hpnd;refine⟨_,_,ρ',?_,{size:=h.size,slots:=fun k=>?_,mem:=fun s cs hs hnm=>?_,inj:=h.inj,boxNew:=fun s hs=>?_,mps:={at':=fun s k e' kvs hs=>?_,inj:=h.mps.inj,new:=fun s hs=>?_,lt:=fun s b' hs=>?_,apart:=h.mps.apart},tok:=fun t' ht'=>?_,tokNew:=fun t' ht'=>?_,below:=h.below.setRow k1 _,old:=fun b' o hs=>.inl (h.old b' o hs),new:=?_,live:=?_,glob:=fun g cs hg=>RepCs.keep hk g 0 cs (h.glob g cs hg),fx:=h.fx,ex:=h.ex,obs:=fun p hp=>⟨by rw[setRow_other w b p.1 new (yWc k2 (h.obs p hp))];exact(h.obs p hp).1,(h.obs p hp).2⟩,keeps:=fun p hp=>(h.keeps p hp).trans hk,pins:=h.pins}⟩
 ·unfold execOp;simp only[ho,hv];simp only[Instr.storeAt,Instr.sureAddr,storeVar,Sem.run_bind,Sem.run_pure,Result.andThen_ok,run_sizeOf hi,hsz];rw[if_neg (by rw[lx,hl,hn];simp)];simp only[hst,Sem.run_pure,Sem.run_bind,Result.andThen_ok]
 ·show RepA _ _ _ (getS (fillSlots tk xs st.slots) k) _;rw[ykg];exact hfill _ _ (h.slots k)
 ·have hs:getM (fillMem tk xs st.mem) s=some cs:=hs;rw[zYP]at hs;rw[Option.map_eq_some_iff]at hs;obtain⟨cs0,hs0,rfl⟩:=hs;rw[yqa]at hnm;obtain⟨b',vs,e',g1,g2,g3,g4,g6⟩:=h.mem s cs0 hs0 hnm;have hne:b'≠b:=fun hbb=>k6 s (hbb▸g1);exact⟨b',vs,e',g1,g2,by rw[setRow_other w b b' new hne];exact g3,hfills cs0 _ g4,fun o ho=>by
   rcases ho with ho|⟨hb,_⟩
   ·exact g6 o ho
   ·exact hne hb⟩
 ·have hs:getM (fillMem tk xs st.mem) s=none:=hs;rw[zYP,Option.map_eq_none_iff]at hs;exact h.boxNew s hs
 ·have hs:getM (fillMem tk xs st.mem) s=some [.mp k e' kvs]:=hs;rw[zYP,Option.map_eq_some_iff]at hs;obtain⟨cs0,hs0,hs1⟩:=hs;have:=yK1 hs1;subst this;obtain⟨b',g1,g2,g3,g4⟩:=h.mps.at' s k e' kvs hs0;obtain⟨es,clock,g5⟩:=g4.obj;exact⟨b',g1,g2,g3,g4.to hk (setRow_other w b b' new fun hbb=>by subst hbb;rw[k2]at g5;cases g5)⟩
 ·have hs:getM (fillMem tk xs st.mem) s=none:=hs;rw[zYP,Option.map_eq_none_iff]at hs;exact h.mps.new s hs
 ·have:=h.mps.lt s b' hs;simpa[World.setRow]using this
 ·by_cases he:t'=tk
  ·subst he;refine⟨(some ⟨b,0,none⟩,n+1,cap,sz),by simp[ρ'],?_⟩;refine .inr ⟨b,rfl,k1,⟨new,e,hnew,hnewsz.trans k2'⟩,hcap,k4,fun o ho hso=>?_,k6,fun t2 b2 y2 hne ht2 htok2 hy2=>?_⟩
   ·simp only at ho;rcases hso with hso|⟨_,hso⟩
    ·exact k5 o (Nat.le_trans (Nat.mul_le_mul_right _ (Nat.le_succ _)) ho) hso
    ·omega
   ·have:ρ.tok t2=some (some ⟨b2,0,none⟩,y2):=by simpa[ρ',hne]using htok2
    exact k7 t2 b2 y2 hne ht2 this hy2
  ·obtain⟨y0,g1,g2⟩:=h.tok t' ht';refine⟨y0,by simp[ρ',he,g1],?_⟩;by_cases hfull:y0.2.1=y0.2.2.1
   ·exact .inl hfull
   rcases g2 with g2|⟨b2,m0,m1,⟨cur2,e2',m2,m2'⟩,m3,m4,m5,m6,m7⟩
   ·exact .inl g2
   ·have hne:b2≠b:=k7 t' b2 y0.2 he ht' (by rw[g1,←m0]) hfull;refine .inr ⟨b2,m0,m1,⟨cur2,e2',by rw[setRow_other w b b2 new hne];exact m2,m2'⟩,m3,m4,fun o ho hs=>?_,m6,fun t2 b3 y3 hne3 ht3 htok3 hy3=>?_⟩
    ·rcases hs with hs|⟨hb,_⟩
     ·exact m5 o ho hs
     ·exact hne hb
    ·by_cases ht2:t2=tk
     ·subst ht2;have:some (some (⟨b,0,none⟩:Addr),n+1,cap,sz)=some (some ⟨b3,0,none⟩,y3):=by simpa[ρ']using htok3
      cases this;exact fun e=>hne e.symm
     ·have:ρ.tok t2=some (some ⟨b3,0,none⟩,y3):=by simpa[ρ',ht2]using htok3
      exact m7 t2 b3 y3 hne3 ht3 this hy3
 ·by_cases he:t'=tk
  ·subst he;have ht':getT st.tk t'=none:=ht';rw[htk]at ht';cases ht'
  ·simp only[ρ',if_neg he];exact h.tokNew t' ht'
 ·intro b' o hs;rcases hs with hs|⟨rfl,_⟩
  ·exact h.new b' o hs
  ·exact .inr k1
 ·intro b' o hs;rcases hs with hs|⟨rfl,ho⟩
  ·obtain⟨v,hv'⟩:=h.live b' o hs;exact⟨v,((hk b' o hs).2).trans hv'⟩
  ·rw[zzm hnew];have:o<new.size:=by rw[hnewsz,k2'];exact Nat.lt_of_lt_of_le ho (Nat.mul_le_mul_right _ hcap)
   exact⟨new[o],by simp[this]⟩
end Go.Abs
end
section
namespace Go.Abs
open Go.RowKit
variable{c:Ctx}{st:St}{tmps:Array Value}{w:World}{S:Safe}{ρ:Rho}
theorem Sim.addBox(h:Sim c st tmps w S ρ){w' S'}(hg:Sim c st tmps w' S' ρ){b}(hb:w.heap.size≤b){s}(hs:getM st.mem s=none)(hN:s<c.N){cs vs e}
  (hh:w'.heap[b]? =some (.cells vs e (0,0))) (hc:RepAs w' S' ρ cs vs.toList) (hS:∀o,¬S' b o):
  ∃ρ',ρ.le ρ'∧ρ'.box s=some b∧Sim c {st with mem:=(s,cs)::st.mem} tmps w' S' ρ':=by
 have hle:ρ.le {ρ with box:=fun k=>if k=s then some b else ρ.box k}:=by
  refine⟨fun k b hk=>?_,fun _ _ h=>h,fun _ _ h=>h⟩
  by_cases hks:k=s
  ·subst hks;rw[h.boxNew k hs]at hk;cases hk
  ·simp[hks,hk]
 have hold:∀k b',ρ.box k=some b'→b'<w.heap.size:=by
  intro k b' hk
  cases hm:getM st.mem k with
  |none=>rw[h.boxNew k hm]at hk;cases hk
  |some cs'=>
   obtain⟨b'',vs,e',g1,_,g3,_⟩:=h.mem k cs' hm (h.noMp hk hm)
   obtain rfl:=Option.some.inj (hk.symm.trans g1)
   exact(Array.getElem?_eq_some_iff.1 g3).1
 have hk:Keeps w' S' w' S':=Keeps.refl _ _
 refine⟨{ρ with box:=fun k=>if k=s then some b else ρ.box k},hle,by simp,?_⟩
 refine{size:=hg.size,slots:=fun k=>(hg.slots k).keep hk hle,mem:=?_,inj:=?_,boxNew:=?_,mps:=?_,tok:=?_,tokNew:=hg.tokNew,below:=hg.below,old:=hg.old,new:=hg.new,live:=hg.live,glob:=hg.glob,fx:=hg.fx,ex:=hg.ex,obs:=hg.obs,keeps:=hg.keeps,pins:=h.pins.sub (fun s' b e=>by
  simp only at e
  by_cases hs':s'=s
  ·exact .inl (hs'▸hN)
  ·rw[if_neg hs']at e;exact .inr e) fun _ _ e=>.inr e}
 ·intro k cs' hkm hnm
  simp only[getM]at hkm
  split at hkm
  ·rename_i hks
   subst hks
   cases hkm
   exact⟨b,vs,e,by simp,.inl (Nat.le_trans h.below.size hb),hh,RepAs.keep hk hle cs _ hc,hS⟩
  ·obtain⟨b',vs,e',g1,g2,g3,g4,g6⟩:=hg.mem k cs' hkm hnm
   exact⟨b',vs,e',hle.1 _ _ g1,g2,g3,RepAs.keep hk hle cs' _ g4,g6⟩
 ·intro k k' b' hk1 hk2
  simp only at hk1 hk2
  split at hk1<;>split at hk2
  ·simp_all
  ·have:=hold k' b' hk2;cases hk1;omega
  ·have:=hold k b' hk1;cases hk2;omega
  ·exact h.inj k k' b' hk1 hk2
 ·intro k hkm
  simp only[getM]at hkm
  split at hkm
  ·cases hkm
  ·rename_i hks
   have:¬k=s:=fun e=>hks e.symm
   simp[this,h.boxNew k hkm]
 ·refine MpsOk.cons ?_ (RepAs.noMp hc)
  refine hg.mps.rho rfl fun k b hk=>?_
  simp only at hk
  split at hk
  ·rename_i e;subst e;exact h.mps.new k hs
  ·exact h.mps.apart k b hk
 ·intro t ht
  obtain⟨x,g1,g2⟩:=hg.tok t ht
  refine⟨x,g1,?_⟩
  by_cases hfull:x.2.1=x.2.2.1
  ·exact .inl hfull
  obtain⟨x',g1',g2'⟩:=h.tok t ht
  obtain rfl:=Option.some.inj (g1.symm.trans g1')
  rcases g2 with g2|⟨b',g0,k1,k2,k3,k4,k5,k6,k7⟩
  ·exact .inl g2
  ·rcases g2' with g2'|⟨b2,m0,_,⟨_,_,m3,_⟩,_⟩
   ·exact absurd g2' hfull
   rw[g0]at m0;cases m0
   have hlt:=(Array.getElem?_eq_some_iff.1 m3).1
   refine .inr ⟨b',g0,k1,k2,k3,k4,k5,fun k=>?_,k7⟩
   simp only
   split
   ·intro hb
    cases hb
    omega
   ·exact k6 k
theorem RepAs.undefs:∀l,RepAs w S ρ (List.replicate l.length .undef) l
 |[]=>rfl
 |v::l=>⟨v,l,rfl,trivial,RepAs.undefs l⟩
theorem RepAs.undefs'{l n}(h:l.length=n):RepAs w S ρ (List.replicate n .undef) l:=by subst h;exact RepAs.undefs l
theorem yQy(h:Sim c st tmps w S ρ){t ty esz eb zs}(ht:chkTy c.P t (.slice esz eb zs)=true){e0}(he0:e0.length=esz){s n cap cs b}(hb:ρ.box s=some b)(hm:getM st.mem s=some cs){b2 c2}
  (hy:Rep w S (.lst [e0]) (.slice b2 1 c2)) (hcs:cap*esz≤cs.length) (hn:n≤cap) (hcap:cap≤9223372036854775807) (hbytes:(n+1)*eb≤2^46) (h63:n+1≤9223372036854775807):
  (n+1≤cap→∃w' ρ',(Builtin.append_ #[t,t] ty #[.slice (some ⟨b,0,none⟩) n cap,.slice b2 1 c2]).run c.P w=.ok (.slice (some ⟨b,0,none⟩) (n+1) cap) w'∧
   Sim c {st with mem:=(s,cs.take (n*esz)++List.replicate esz .undef++cs.drop (n*esz+esz))::st.mem} tmps w' S ρ'∧ρ'=ρ)∧
  (cap<n+1→∀s',getM st.mem s'=none→s'<c.N→∃w' ρ' cap',n+1≤cap'∧cap'≤9223372036854775807∧∃b',(Builtin.append_ #[t,t] ty #[.slice (some ⟨b,0,none⟩) n cap,.slice b2 1 c2]).run c.P w=.ok (.slice (some ⟨b',0,none⟩) (n+1) cap') w'∧
   ρ.le ρ'∧ρ'.box s'=some b'∧Sim c {st with mem:=(s',cs.take (n*esz)++List.replicate (cap'*esz-n*esz) .undef)::st.mem} tmps w' S ρ'):=by
 obtain⟨e,ie,z,hu,hie,q1,q2,q3,q4,q5⟩:=zzL ht;obtain⟨_,hm2,hcap2,hnil2,l2,hl2,hl2c⟩:=zk8 hy;have len2:l2.length=1*esz:=by rw[RepL.length hl2];simp[he0]
 obtain⟨b',vs,ev,g1,g2,g3,g4,g6⟩:=h.mem s cs hm (h.noMp hb hm);obtain rfl:=Option.some.inj (hb.symm.trans g1);have l4:=RepAs.length g4;simp only[Array.length_toList]at l4;have hnc:n*esz≤cap*esz:=Nat.mul_le_mul_right _ hn;cases b2 with
 |none=>have:=hnil2 rfl;omega
 |some a2=>
 obtain⟨sp2,hc2⟩:=hl2c a2 rfl;refine⟨fun hroom=>?_,fun hgrow s' hs' hN=>?_⟩
 ·have hfit:n*esz+esz≤cap*esz:=by rw[←Nat.succ_mul];exact Nat.mul_le_mul_right _ hroom
  have hr:=run_append_room' (P:=c.P) w t ty e ev ie hu hie b n cap vs g3 a2 1 c2 l2 (by rw[len2,q1]) (fun j v hj=>(hc2 j v hj).1) (RepL.ones hl2) hroom (by rw[len2,q1];omega);rw[q1]at hr;refine⟨_,ρ,hr,h.setBox hb g2 g3 g6 ?_ (by simp[hm]),rfl⟩;simp only[List.toList_toArray];rw[len2,Nat.one_mul];exact RepAs.append (RepAs.append (RepAs.take _ g4) (RepAs.undefs' (by rw[len2,Nat.one_mul]))) (RepAs.drop _ g4)
 ·have hb48:(n+1)*ie.bytes≤140737488355328:=by rw[q2];omega
  have hz':=grownCap_le_maxLen w (n+1) cap e (by unfold maxLen;omega);unfold maxLen at hz';have hold:∀j v,(vs.toList.take (n*esz))[j]? =some v→w.cell? ((⟨b,0,none⟩:Addr).add j)=some v:=fun j v hj=>by
   rw[addr_add,Nat.zero_add,zzm g3];simp only[List.getElem?_take,Array.getElem?_toList]at hj;split at hj
   ·exact hj
   ·cases hj
  have hol:(vs.toList.take (n*esz)).length=n*esz:=by simp;omega
  have hr:=run_append_grow (P:=c.P) w t ty e ie z hu hie q4 ⟨b,0,none⟩ n cap (vs.toList.take (n*esz)) (by rw[hol,q1]) hold a2 1 c2 l2 (by rw[len2,q1]) (fun j v hj=>(hc2 j v hj).1) (by omega) (by omega) (growslice_fits (by omega) hb48);have hge:=grownCap_ge w (n+1) cap e;generalize grownCap w (n+1) cap e=cap' at hr hge hz';generalize hO:(vs.toList.take (n*esz)).toArray++l2.toArray++Builtin.zeroCells z.cells (cap'-(n+1))=O at hr;have hs0:=h.grow (w':=w.drew) (S':=S) ((Below.refl _ _).drew) (fun _ _ hs=>hs) (fun _ _ hs=>.inl hs) (fun b o hs=>h.live b o hs);have hkd:Keeps w S w.drew S:=fun b o hs=>⟨hs,rfl⟩;have hsz:O.toList.length=cap'*esz:=by
   rw[←hO];simp only[Array.toList_append,List.length_append,hol,len2,Array.length_toList,size_zeroCells,q5];have:cap'*esz=n*esz+1*esz+(cap'-(n+1))*esz:=by rw[←Nat.add_mul,←Nat.add_mul];congr 1;omega
   omega
  obtain⟨ρ',hle,hbx,hs1⟩:=hs0.newBox (s:=s') hs' hN (cs:=cs.take (n*esz)++List.replicate (cap'*esz-n*esz) .undef) (cells:=O) (by
   have e1:O.toList=vs.toList.take (n*esz)++(l2++(Builtin.zeroCells z.cells (cap'-(n+1))).toList):=by rw[←hO];simp
   have e2:(l2++(Builtin.zeroCells z.cells (cap'-(n+1))).toList).length=cap'*esz-n*esz:=by have:=hsz;rw[e1,List.length_append,hol]at this;omega
   rw[e1];exact RepAs.append (RepAs.keep hkd ρ.le_refl _ _ (RepAs.take _ g4)) (RepAs.undefs' e2)) e
  exact⟨_,ρ',cap',hge,hz',_,hr,hle,hbx,hs1⟩
theorem yQz(h:Sim c st tmps w S ρ){t ty esz eb zs}(ht:chkTy c.P t (.slice esz eb zs)=true){ys}(hys:∀e∈ys,e.length=esz){s cs b}(hb:ρ.box s=some b)(hm:getM st.mem s=some cs){b2 m2 c2}
  (hy:RdsL w S ys b2 m2 c2) (hpos:0<ys.length) (hbytes:ys.length*eb≤2^46) (h63:ys.length≤9223372036854775807) {s'} (hs':getM st.mem s'=none) (hN:s'<c.N):
  ∃w' ρ' cap',ys.length≤cap'∧cap'≤9223372036854775807∧∃b',(Builtin.append_ #[t,t] ty #[.slice (some ⟨b,0,none⟩) 0 0,.slice b2 m2 c2]).run c.P w=.ok (.slice (some ⟨b',0,none⟩) ys.length cap') w'∧
   ρ.le ρ'∧ρ'.box s'=some b'∧Sim c {st with mem:=(s',ys.flatten.map .d++List.replicate (cap'*esz-ys.length*esz) .undef)::st.mem} tmps w' S ρ':=by
 obtain⟨e,ie,z,hu,hie,q1,q2,q3,q4,q5⟩:=zzL ht;obtain⟨rfl,hm2,hcap2,hnil2,l2,hl2,hl2c⟩:=hy;have len2:l2.length=ys.length*esz:=by
  rw[RepL.length hl2];clear hl2 hpos hbytes h63 hm2;induction ys with
  |nil=>simp
  |cons y ys ih=>rw[List.flatten_cons,List.length_append,ih fun e he=>hys e (by simp[he]),hys y (by simp),List.length_cons,Nat.succ_mul];omega
 cases b2 with
 |none=>have:=hnil2 rfl;omega
 |some a2=>
 obtain⟨sp2,hc2⟩:=hl2c a2 rfl;have hb48:(0+ys.length)*ie.bytes≤140737488355328:=by rw[q2,Nat.zero_add];omega
 have hz':=grownCap_le_maxLen w (0+ys.length) 0 e (by unfold maxLen;omega);unfold maxLen at hz';have hr:=run_append_grow (P:=c.P) w t ty e ie z hu hie q4 ⟨b,0,none⟩ 0 0 [] (by simp) (fun j v hj=>by simp at hj) a2 ys.length c2 l2 (by rw[len2,q1]) (fun j v hj=>(hc2 j v hj).1) (by omega) (by omega) (growslice_fits (by omega) hb48);have hge:=grownCap_ge w (0+ys.length) 0 e;generalize grownCap w (0+ys.length) 0 e=cap' at hr hge hz';rw[Nat.zero_add]at hr hge;generalize hO:([]:List Value).toArray++l2.toArray++Builtin.zeroCells z.cells (cap'-ys.length)=O at hr;have hs0:=h.grow (w':=w.drew) (S':=S) ((Below.refl _ _).drew) (fun _ _ hs=>hs) (fun _ _ hs=>.inl hs) (fun b o hs=>h.live b o hs);have hkd:Keeps w S w.drew S:=fun b o hs=>⟨hs,rfl⟩;have e1:O.toList=l2++(Builtin.zeroCells z.cells (cap'-ys.length)).toList:=by rw[←hO];simp
 have e2:(Builtin.zeroCells z.cells (cap'-ys.length)).toList.length=cap'*esz-ys.length*esz:=by rw[Array.length_toList,size_zeroCells,q5,Nat.sub_mul]
 obtain⟨ρ',hle,hbx,hs1⟩:=hs0.newBox (s:=s') hs' hN (cs:=ys.flatten.map .d++List.replicate (cap'*esz-ys.length*esz) .undef) (cells:=O) (by rw[e1];exact RepAs.append (RepL.toAs (RepL.keep hkd _ _ hl2)) (RepAs.undefs' e2)) e;exact⟨_,ρ',cap',hge,by omega,_,hr,hle,hbx,hs1⟩
theorem yy6{e}:∀{n} {cs} {l} {ys},RepAs w S ρ cs l→rowsOf e n cs=some ys→n*e≤cs.length→ys.length=n∧(∀y∈ys,y.length=e)∧RepL w S ys.flatten (l.take (n*e))
 |0,_,_,_,_,hr,_=>by simp only[rowsOf,Option.some.injEq]at hr;subst hr;exact⟨rfl,fun y hy=>(by cases hy),by simp[RepL]⟩
 |n+1,cs,l,ys,h,hr,hn=>by
  rw[Nat.succ_mul]at hn;simp only[rowsOf]at hr;split at hr
  ·rename_i x xs hx hxs;split at hr
   ·rename_i hl;cases hr;obtain⟨i1,i2,i3⟩:=yy6 (n:=n) (RepAs.drop e h) hxs (by rw[List.length_drop];omega);have h1:=zv6 zyp 1 (RepAs.take e h) hx;refine⟨by simp[i1],fun y hy=>?_,?_⟩
    ·rcases List.mem_cons.1 hy with rfl|hy
     ·exact hl
     ·exact i2 y hy
    ·rw[List.flatten_cons,Nat.succ_mul,Nat.add_comm,List.take_add];exact RepL.append h1 i3
   ·cases hr
  ·cases hr
theorem yyc(h:Sim c st tmps w S ρ){a v ys}(ha:RepA w S ρ a v)(he:a.elemsM st.mem=some ys):∃b2 m2 c2,v=.slice b2 m2 c2∧RdsL w S ys b2 m2 c2:=by
 have gen:a.elems=some ys→∃b2 m2 c2,v=.slice b2 m2 c2∧RdsL w S ys b2 m2 c2:=fun he=>by
  have e2:=zjl ha he;have hyv:∃b2 m2 c2,v=.slice b2 m2 c2:=by obtain⟨b2,c2,hv2,_⟩:=e2;exact⟨b2,_,c2,hv2⟩
  obtain⟨b2,m2,c2,rfl⟩:=hyv;exact⟨b2,m2,c2,rfl,.of e2⟩
 cases a with
 |vec s e off n cap=>
  simp only[AV.elemsM]at he;split at he
  ·rename_i cs hcs;split at he
   ·rename_i hlen;obtain⟨k1,k2,b,hb,rfl⟩:=ha;obtain⟨b',vs,ev,g1,g2,g3,g4,g6⟩:=h.mem s cs hcs (h.noMp hb hcs);obtain rfl:=Option.some.inj (hb.symm.trans g1);obtain⟨i1,i2,i3⟩:=yy6 (RepAs.drop off g4) he (by rw[List.length_drop];omega);refine⟨_,_,_,rfl,i1.symm,k1,k2,fun e=>(by cases e),_,i3,fun a ha=>?_⟩;cases ha;refine⟨fun _=>rfl,fun j v hj=>⟨?_,trivial⟩⟩;rw[addr_add,zzm g3];simp only[List.getElem?_take,List.getElem?_drop,Array.getElem?_toList]at hj;split at hj
    ·exact hj
    ·cases hj
   ·cases he
  ·cases he
 |_=>exact gen he
theorem yWf(h:Sim c st tmps w S ρ){o t t' esz eb zs}(ht:chkTy c.P t (.slice esz eb zs)=true){x x' ds}
  (ho:o.op=.binOp .eql t x (.const (.slice none 0 0)) t') (hx:trX x=some x') (hg:gd st x'=true) (he:(ev st x').isVec=true):
  (execOp (Act.eval ⟨tmps,ds⟩) o).run c.P w=.ok (.value (.bool false)) w:=by
 have e1:=h.ev hx hg (ds:=ds);obtain⟨e,ie,z,hu,_⟩:=zzL ht;cases hv:ev st x' with
 |vec s e off n cap=>
  rw[hv]at e1;obtain⟨_,_,b,_,hv⟩:=e1;unfold execOp;simp only[ho];refine run_v (v:=_) (w':=w) ?_;rw[hv];have hev:Act.eval ⟨tmps,ds⟩ (.const (.slice none 0 0))=.slice none 0 0:=rfl;rw[hev];have:(Op.equal t (.slice (some ⟨b,off,none⟩) n cap) (.slice none 0 0)).run c.P w=.ok false w:=by
   unfold Op.equal;have:Op.maxDepth=(Op.maxDepth-1)+1:=by decide
   rw[this];unfold Op.equalIn;simp[run_underlying hu]
  simp[eqGuard_at_slice,binOp,this]
 |_=>rw[hv]at he;cases he
end Go.Abs
end
section
namespace Go.Abs
open Go.RowKit
variable{c:Ctx}{st:St}{tmps:Array Value}{w:World}{S:Safe}{ρ:Rho}
theorem yki(t)(b)(tk)(t'):getT ((t,b)::tk) t'=if t'=t then some b else getT tk t':=by
 simp only[getT];by_cases h:t=t'
 ·subst h;simp
 ·have:¬t'=t:=fun e=>h e.symm;simp[h,this]
theorem RepAs.set:∀{as} {l} {i} {a} {v},RepAs w S ρ as l→l[i]? =some v→RepA w S ρ a v→RepAs w S ρ (as.set i a) l
 |[],_,i,a,v,h,_,_=>by simpa using h
 |b::as,_,0,a,v,⟨v',r,h,h1,h2⟩,hi,hv=>by subst h;simp at hi;subst hi;exact⟨_,_,rfl,hv,h2⟩
 |b::as,_,i+1,a,v,⟨v',r,h,h1,h2⟩,hi,hv=>by subst h;exact⟨_,_,rfl,h1,RepAs.set h2 (by simpa using hi) hv⟩
theorem yvL(h:Sim c st tmps w S ρ){p st'}(hc:conv1 st p st'):∃ρ',Sim c st' tmps w S ρ':=by
 obtain⟨pl,t,sz⟩:=p;have htk:∀t',getT ((t,true)::st.tk) t'=if t'=t then some true else if some t'=(none:Option Nat)then(getT st.tk t').map (fun _=>false)else getT st.tk t':=by intro t';rw[yki];simp
 cases pl with
 |s k=>
  obtain⟨es,h1,h2,h3,rfl⟩:=hc;have hs:=h.slots k;rw[h1]at hs;obtain⟨hrep,base,n,hv⟩:=hs;obtain⟨ρ',hle,hρ,hs⟩:=h.newTok h3 none htk (base,n,n,sz) (.inl rfl);refine⟨ρ',{hs with slots:=fun k'=>?_}⟩;simp only[getS];by_cases hk:k=k'
  ·subst hk;rw[if_pos rfl];exact⟨hrep,h2,base,n,n,hρ,hv⟩
  ·rw[if_neg hk];exact hs.slots k'
 |m s i=>
  obtain⟨cs,es,h0,h1,h2,h3,rfl⟩:=hc;have hnm:isMp cs=false:=by
   cases hm:isMp cs with
   |false=>rfl
   |true=>obtain⟨k,e,kvs,rfl⟩:=zxX.1 hm;cases i<;>simp at h1
  obtain⟨b,vs,e,g1,g2,g3,g4,g6⟩:=h.mem s cs h0 hnm;obtain⟨v,hvi,hrep,base,n,hv⟩:=RepAs.get g4 h1;obtain⟨ρ',hle,hρ,hs⟩:=h.newTok h3 none htk (base,n,n,sz) (.inl rfl);refine⟨ρ',{hs with mem:=fun s' cs' hs' hnm'=>?_,boxNew:=fun s' hs'=>?_,mps:=hs.mps.cons (RepAs.noMp (RepAs.set (RepAs.keep (Keeps.refl w S) hle cs _ g4) hvi ⟨hrep,h2,base,n,n,hρ,hv⟩))}⟩
  ·simp only[getM]at hs';split at hs'
   ·rename_i hss;subst hss;cases hs';refine⟨b,vs,e,hle.1 _ _ g1,g2,g3,RepAs.set (RepAs.keep (Keeps.refl w S) hle cs _ g4) hvi ⟨hrep,h2,base,n,n,hρ,hv⟩,g6⟩
   ·exact hs.mem s' cs' hs' hnm'
  ·simp only[getM]at hs';split at hs'
   ·cases hs'
   ·exact hs.boxNew s' hs'
theorem zZr:∀{ps} {st st'} {ρ},Sim c st tmps w S ρ→convs ps st st'→∃ρ',Sim c st' tmps w S ρ'
 |[],st,st',ρ,h,hc=>by simp only[convs]at hc;subst hc;exact⟨ρ,h⟩
 |p::ps,st,st',ρ,h,⟨s1,h1,h2⟩=>by obtain⟨ρ1,hs⟩:=yvL h h1;exact zZr hs h2
end Go.Abs
end
section
namespace Go.Abs
open Go.RowKit
variable{c:Ctx}{st:St}{tmps:Array Value}{w:World}{S:Safe}{ρ:Rho}
theorem ykI(h:Sim c st tmps w S ρ){o t esz eb zs}(ht:chkTy c.P t (.slice esz eb zs)=true){x x' tys ds}
  (ho:o.op=.call {callee:=.builtin .len,args:=#[x],argTypes:=(t::tys).toArray}) (hx:trX x=some x') (hg:gd st x'=true) {n} (hn:lenOf false (ev st x')=some n):
  (execOp (Act.eval ⟨tmps,ds⟩) o).run c.P w=.ok (.value (.int .i64 n)) w∧(n:Int)≤9223372036854775807:=by
 have e1:=h.ev hx hg (ds:=ds);obtain⟨e,ie,z,hu,_⟩:=zzL ht;refine⟨?_,yqB e1 hn⟩;have:∃base cap,Act.eval ⟨tmps,ds⟩ x=.slice base n cap:=by
  unfold lenOf at hn;split at hn<;>first|(cases hn;done)|skip
  ·rename_i h1 h2;cases h1
  ·rename_i h1 h2;cases hn;rw[h2]at e1;obtain⟨b,cp,hv,_⟩:=e1;exact⟨b,cp,hv⟩
  ·rename_i h1 h2;cases hn;rw[h2]at e1;obtain⟨⟨b,cp,hv,_⟩,_⟩:=e1;exact⟨b,cp,hv⟩
  ·rename_i h1 h2;cases hn;rw[h2]at e1;obtain⟨⟨b,cp,hv,_⟩,_⟩:=e1;exact⟨b,cp,hv⟩
  ·rename_i h1 h2;cases hn;rw[h2]at e1;obtain⟨_,_,b,_,hv⟩:=e1;exact⟨_,_,hv⟩
 obtain⟨base,cap,hv⟩:=this;unfold execOp;simp[ho,resolve,invoke,builtin,Builtin.len_,hv,run_underlying hu,goInt]
theorem yZQ(h:Sim c st tmps w S ρ){o t}(ht:chkTy c.P t (.cell (.d (.str [])))=true){x x' tys ds}
  (ho:o.op=.call {callee:=.builtin .len,args:=#[x],argTypes:=(t::tys).toArray}) (hx:trX x=some x') (hg:gd st x'=true) {n} (hn:lenOf true (ev st x')=some n):
  (execOp (Act.eval ⟨tmps,ds⟩) o).run c.P w=.ok (.value (.int .i64 n)) w∧(n:Int)≤9223372036854775807:=by
 have e1:=h.ev hx hg (ds:=ds);have hu:c.P.underlying t=some .string:=by simp only[chkTy,Bool.and_eq_true,undOk]at ht;have:=ht.1.1;split at this<;>simp_all
 refine⟨?_,yqB e1 hn⟩;have:∃s:ByteArray,Act.eval ⟨tmps,ds⟩ x=.string s∧s.size=n:=by
  unfold lenOf at hn;split at hn<;>first|(cases hn;done)|skip
  ·rename_i h1 h2;cases hn;rw[h2]at e1;obtain⟨s,hv,rfl,_⟩:=e1;exact⟨s,hv,by simp⟩
  ·rename_i h1 h2;cases h1
  ·rename_i h1 h2;cases h1
  ·rename_i h1 h2;cases h1
  ·rename_i h1 h2;cases h1
 obtain⟨s,hv,hs⟩:=this;unfold execOp;simp[ho,resolve,invoke,builtin,Builtin.len_,hv,run_underlying hu,goInt,hs]
theorem yVC(h:Sim c st tmps w S ρ){o t t' esz eb zs}(ht:chkTy c.P t (.slice esz eb zs)=true){x x' ds}
  (ho:o.op=.binOp .eql t x (.const (.slice none 0 0)) t') (hx:trX x=some x') (hg:gd st x'=true) {es} (he:(ev st x').elems=some es):
  ∃b:Bool,(execOp (Act.eval ⟨tmps,ds⟩) o).run c.P w=.ok (.value (.bool b)) w∧(b=true→es=[]):=by
 have e1:=zjl (h.ev hx hg (ds:=ds)) he;obtain⟨e,ie,z,hu,_⟩:=zzL ht;obtain⟨base,cap,hv,h1,h2,h3,_⟩:=e1;refine⟨base.isNone,?_,fun hb=>?_⟩
 ·unfold execOp;simp only[ho];refine run_v (v:=_) (w':=w) ?_;rw[hv];have hev:Act.eval ⟨tmps,ds⟩ (.const (.slice none 0 0))=.slice none 0 0:=rfl;rw[hev];have:(Op.equal t (.slice base es.length cap) (.slice none 0 0)).run c.P w=.ok base.isNone w:=by
   unfold Op.equal;have:Op.maxDepth=(Op.maxDepth-1)+1:=by decide
   rw[this];unfold Op.equalIn;cases base<;>simp[run_underlying hu]
  simp[eqGuard_at_slice,binOp,this]
 ·have:base=none:=by cases base<;>simp_all
  have:=h3 this;exact List.eq_nil_of_length_eq_zero (by omega)
def Goes(c:Ctx)(K:St→Prop):Act→World→Prop:=fun a w=>a.defers=c.ds∧∃st S ρ,Sim c st a.tmps w S ρ∧K st
theorem zzl{o cv w' S' ρ'}(hrun:(execOp (Act.eval ⟨tmps,c.ds⟩) o).run c.P w=.ok (.value cv) w')(hs:Sim c st tmps w' S' ρ'){v}(hv:RepA w' S' ρ' v cv){d:Nat}(hd:o.dst=some d)(hN:c.D d)
  {g} (hg:g=none∨g=some true) {K} (hK:K (st.put g d v)) (Q):o.wp c.P ⟨tmps,c.ds⟩ w (Goes c K) Q:=by
 unfold Oper.wp;rw[hrun];simp only[Oper.upon_value,Act.put,hd];refine⟨rfl,_,_,_,hs.put hN hv g ?_,hK⟩
 rintro b hb rfl
 rcases hg with hg|hg<;>rw[hg]at hb<;>cases hb
theorem zzt{g}(hg:g=none∨g=some true){p}(h:onG g p):p:=by
 rcases hg with rfl|rfl
 ·exact h
 ·exact h rfl
theorem zzc{α x}{f:α→Option I}{i}(h:(x>>=f)=some i):∃a,x=some a∧f a=some i:=by
 cases x with
 |none=>cases h
 |some a=>exact⟨a,rfl,h⟩
variable{E:AEnv}{T:Nat→Option Ty}
theorem RepR.ren{ρ1 ρ2 σ τ1}(hbx:∀s b,ρ1.box s=some b→∃s',getTM σ s=some s'∧ρ2.box s'=some b){r v}(h:RepR w S ρ1 r v):RepA w S ρ2 (r.toAV0.ren0 σ τ1) v:=by
 cases r with
 |vr s e o n cap=>obtain⟨k1,k2,b,h1,h2⟩:=h;obtain⟨s',e1,e2⟩:=hbx s b h1;simp only[CV.toAV0,AV.ren0,e1,Option.getD_some];exact⟨k1,k2,b,e2,h2⟩
 |one x=>exact h
 |agg xs=>exact RepC.toAV (r:=.agg xs) h
 |tup vs=>exact RepC.toAV (r:=.tup vs) h
 |own a sz es=>exact RepC.toAV (r:=.own a sz es) h
 |bx=>exact h.elim
 |vc=>exact h.elim
theorem zXi(hC:∀f args r,E.C f args r→Ev c.P c.G f args r)(h:Sim c st tmps w S ρ){o:Oper}{f args argTypes}(hop:o.op=.call {callee:=.value f,args:=args,argTypes:=argTypes})
  {xs} (hxs:trXs args.toList=some xs) (hdst:∀d,o.dst=some d→c.D d) {fid} {cs} (hv:Act.eval ⟨tmps,c.ds⟩ f=.func (.func fid) #[] cs) {caps} (hcaps:RepAs w S ρ caps cs.toList) {g} {gs} (hgs:gs=true→gds st xs=true)
  {x} (hb:callB1 E g fid gs (evs st xs++caps) st x) {K} (hK:K (afterB st o.dst x)) (Q):o.wp c.P ⟨tmps,c.ds⟩ w (Goes c K) Q:=by
 obtain⟨_,hgs1,_,⟨o1,o2,o3,o4,o5,o6,o7,o8,o9,o10,o11,o12⟩,hCr⟩:=hb;have hgs:=hgs hgs1;have hEv:EvB c.P c.G fid x.as0 x.m0 (tkOf x.τ) x.r x.m1 (tkOf x.τ1):=hC _ _ _ hCr;obtain⟨fn,hfn,hname,hbody⟩:=hEv.1;obtain⟨_,_,g3⟩:=o2.get;have hrun:(execOp (Act.eval ⟨tmps,c.ds⟩) o).run c.P w=.ok (.enter fid (args.map (Act.eval ⟨tmps,c.ds⟩)++cs)) w:=by
  unfold execOp;simp only[hop];have hname':¬fn.name= "runtime.NumGoroutine":=by simpa using hname
  have hbody':¬fn.body=none:=by intro e;simp[e]at hbody
  simp[resolve,invoke,callFunc,Deferred.ofValue,hv,hfn,hname',hbody']
 unfold Oper.wp;rw[hrun,Oper.upon_enter];have hpinned:∀(r:Nat→Option Nat) (p:Nat×Nat),p∈x.σ.filterMap (fun q=>(r q.2).map fun b=>(q.1,b))→1000≤p.1:=fun r p hp=>by obtain⟨q,hq,e⟩:=List.mem_filterMap.1 hp;rw[Option.map_eq_some_iff]at e;obtain⟨b0,_,rfl⟩:=e;exact(g3 q hq).1
 have hlisted:∀(r:Nat→Option Nat) (s b:Nat),(getTM x.σ s).bind r=some b→(s,b)∈x.σ.filterMap (fun q=>(r q.2).map fun b=>(q.1,b)):=fun r s b hb=>by rw[Option.bind_eq_some_iff]at hb;obtain⟨u,e1,e2⟩:=hb;exact List.mem_filterMap.2 ⟨(s,u),zxW e1,by simp only[e2,Option.map_some]⟩
 refine(hEv.2 w S (args.map (Act.eval ⟨tmps,c.ds⟩)++cs) _ _ _ _ (h.handB o2 o3 o4 o5) (hpinned ρ.box) (hpinned ρ.mbox) (hlisted ρ.box) (hlisted ρ.mbox) (by have:=MatchVs.sound (RepAs.append (h.evs (ds:=c.ds) hxs hgs) hcaps) o1;simpa using this)).mono ?_
 rintro e w' ⟨v,S',ρ',rfl,hr,h1⟩
 obtain⟨ρ2,⟨hle,hbx⟩,hs⟩:=h.gotB o2 o3 o4 o5 o6 o7 o8 o9 o10 o11 o12 h1;simp only[Act.put];cases hd:o.dst with
 |none=>rw[hd]at hK;exact⟨rfl,_,_,_,hs,hK⟩
 |some d=>rw[hd]at hK;refine⟨rfl,_,_,_,hs.put (hdst d hd) (RepR.ren hbx hr) none (fun b hb=>by cases hb),hK⟩
theorem yVI(hG:E.G=c.G)(hC:∀f args r,E.C f args r→Ev c.P c.G f args r)(hT:∀t ty,T t=some ty→chkTy c.P t ty=true)(h:Sim c st tmps w S ρ){o:Oper}{i}
  (htr:trOp T o.dst o.op=some i) (hdst:∀d,o.dst=some d→c.D d) {g} (hg:g=none∨g=some true) {K} (hK:aopG E g i st K) (Q):o.wp c.P ⟨tmps,c.ds⟩ w (Goes c K) Q:=by
 cases hop:o.op<;>rw[hop]at htr<;>simp only[trOp,Option.bind_eq_bind,Option.pure_def,reduceCtorEq]at htr;case move x=>obtain⟨d,hd,htr⟩:=zzc htr;obtain⟨x',hx,htr⟩:=zzc htr;cases htr;simp only[aopG,opv]at hK;obtain⟨hgs,_⟩:=zzt hg hK.1;obtain⟨cv,hrun,hrep⟩:=yWg h (.inl hop) hx hgs;exact zzl hrun h hrep hd (hdst d hd) hg hK.2 Q
 case assign x=>obtain⟨d,hd,htr⟩:=zzc htr;obtain⟨x',hx,htr⟩:=zzc htr;cases htr;simp only[aopG,opv]at hK;obtain⟨hgs,_⟩:=zzt hg hK.1;obtain⟨cv,hrun,hrep⟩:=yWg h (.inr hop) hx hgs;exact zzl hrun h hrep hd (hdst d hd) hg hK.2 Q
 case pick x y z=>
  obtain⟨d,hd,htr⟩:=zzc htr;unfold trPick at htr;split at htr
  ·obtain⟨x',hx,htr⟩:=zzc htr;obtain⟨y',hy,htr⟩:=zzc htr;cases htr;simp only[aopG,opv]at hK;split at hK
   ·rename_i v ob gs hr;split at hr
    ·rename_i p q hp hq;cases hr;obtain⟨hgs,hob⟩:=zzt hg hK.1;obtain⟨cv,hrun,hrep⟩:=xzb h hop hx hy hp hq hgs hob;exact zzl hrun h hrep hd (hdst d hd) hg hK.2 Q
    ·rename_i p hp _;cases hr;obtain⟨hgs,hob⟩:=zzt hg hK.1;obtain⟨cv,hrun,hrep⟩:=yQx h hop hx hp hgs hob;exact zzl hrun h hrep hd (hdst d hd) hg hK.2 Q
    ·cases hr
   ·exact hK.elim
  ·obtain⟨x',hx,htr⟩:=zzc htr;obtain⟨y',hy,htr⟩:=zzc htr;cases htr;simp only[aopG,opv]at hK;split at hK
   ·rename_i v ob gs hr;split at hr
    ·rename_i p q hp hq;cases hr;obtain⟨hgs,hob⟩:=zzt hg hK.1;obtain⟨cv,hrun,hrep⟩:=ok_or h hop hx hy hp hq hgs hob;exact zzl hrun h hrep hd (hdst d hd) hg hK.2 Q
    ·rename_i p hp _;cases hr;obtain⟨hgs,hob⟩:=zzt hg hK.1;obtain⟨cv,hrun,hrep⟩:=xzt h hop hx hp hgs hob;exact zzl hrun h hrep hd (hdst d hd) hg hK.2 Q
    ·cases hr
   ·exact hK.elim
  ·cases htr
 case binOp op t x y t'=>
  unfold trBin at htr;split at htr
  ·obtain⟨ty,hty,htr⟩:=zzc htr;split at htr
   ·rename_i esz eb zs;obtain⟨d,hd,htr⟩:=zzc htr;obtain⟨x',hx,htr⟩:=zzc htr;cases htr;simp only[aopG]at hK;split at hK
    ·rename_i es hes;have hgx:=zzt hg hK.1;obtain⟨b,hrun,hb⟩:=yVC h (hT _ _ hty) hop hx hgx hes (ds:=c.ds);exact zzl (v:=.d (.bool b)) hrun h rfl hd (hdst d hd) hg (hK.2 b hb) Q
    ·have hgx:=zzt hg hK.2.1;exact zzl (v:=.d (.bool false)) (yWf h (hT _ _ hty) hop hx hgx hK.1 (ds:=c.ds)) h rfl hd (hdst d hd) hg hK.2.2 Q
   ·cases htr
  rename_i op y _;split at htr
  ·rename_i hbb;simp only[Bool.and_eq_true]at hbb;obtain⟨d,hd,htr⟩:=zzc htr;obtain⟨x',hx,htr⟩:=zzc htr;obtain⟨y',hy,htr⟩:=zzc htr;cases htr;have hu:c.P.underlying t=some .bool:=by
    have h2:=hbb.2;unfold isBoolT at h2;split at h2
    ·rename_i b hty;have:=hT _ _ hty;simp only[chkTy,Bool.and_eq_true,undOk]at this;have:=this.1.1;split at this<;>simp_all
    ·cases h2
   simp only[aopG,opv]at hK;split at hK
   ·rename_i v ob gs hr;split at hr
    ·rename_i p q hp hq;cases hr;obtain⟨hgs,_⟩:=zzt hg hK.1;simp only[Bool.and_eq_true]at hgs;obtain⟨cv,hrun,hrep⟩:=xzc h hu hop hbb.1 hx hy hgs.1 hgs.2 hp hq;exact zzl hrun h hrep hd (hdst d hd) hg hK.2 Q
    ·cases hr
   ·exact hK.elim
  split at htr
  ·rename_i _ hff;simp only[Bool.and_eq_true]at hff;obtain⟨d,hd,htr⟩:=zzc htr;obtain⟨x',hx,htr⟩:=zzc htr;obtain⟨y',hy,htr⟩:=zzc htr;cases htr;simp only[aopG,opv]at hK;split at hK
   ·rename_i v ob gs hr;split at hr
    ·rename_i a b hp hq;split at hr
     ·rename_i xs ys ha hb;cases hr;obtain⟨hgs,hob⟩:=zzt hg hK.1;simp only[Bool.and_eq_true]at hgs;obtain⟨cv,hrun,hrep⟩:=xza h (yKP hT hff.2) hop hff.1 hx hy hgs.1 hgs.2 hp hq ha hb hob;exact zzl hrun h hrep hd (hdst d hd) hg hK.2 Q
     ·cases hr
    ·cases hr
   ·exact hK.elim
  split at htr
  ·rename_i _ _ hii;simp only[Bool.and_eq_true]at hii;obtain⟨d,hd,htr⟩:=zzc htr;obtain⟨x',hx,htr⟩:=zzc htr;cases htr;obtain⟨ms,hu⟩:∃ms,c.P.underlying t=some (.interface ms):=by
    have h2:=hii.1.2;unfold isIfcT at h2;split at h2
    ·rename_i hty;have:=hT _ _ hty;simp only[chkTy,Bool.and_eq_true,undOk]at this;have:=this.1.1;split at this<;>simp_all
    ·cases h2
   have hyn:=yXE hii.2;subst hyn;simp only[aopG,opv]at hK;split at hK
   ·rename_i v ob gs hr;split at hr
    ·rename_i hp;cases hr;obtain⟨hgs,_⟩:=zzt hg hK.1;obtain⟨cv,hrun,hrep⟩:=yJH h hu hop hii.1.1 hx hgs (p:=true) hp;exact zzl hrun h hrep hd (hdst d hd) hg hK.2 Q
    ·rename_i hp;cases hr;obtain⟨hgs,_⟩:=zzt hg hK.1;obtain⟨cv,hrun,hrep⟩:=yJH h hu hop hii.1.1 hx hgs (p:=false) hp;exact zzl hrun h hrep hd (hdst d hd) hg hK.2 Q
    ·cases hr
   ·exact hK.elim
  obtain⟨d,hd,htr⟩:=zzc htr;obtain⟨x',hx,htr⟩:=zzc htr;obtain⟨y',hy,htr⟩:=zzc htr;cases htr;simp only[aopG,opv]at hK;split at hK
  ·rename_i v ob gs hr;split at hr
   ·rename_i r hrr;cases hr;obtain⟨hgs,hob⟩:=zzt hg hK.1;simp only[Bool.and_eq_true]at hgs;obtain⟨cv,hrun,hrep⟩:=xzd h hop hx hy hgs.1 hgs.2 hrr hob;exact zzl hrun h hrep hd (hdst d hd) hg hK.2 Q
   ·cases hr
  ·exact hK.elim
 case nilCheck x=>
  obtain⟨d,hd,htr⟩:=zzc htr;obtain⟨x',hx,htr⟩:=zzc htr;cases htr;simp only[aopG,opv]at hK;split at hK
  ·rename_i v ob gs hr;split at hr
   ·rename_i s off hb;cases hr;obtain⟨hgs,_⟩:=zzt hg hK.1;obtain⟨cv,hrun,hrep⟩:=xzq h hop hx hgs hb;exact zzl hrun h hrep hd (hdst d hd) hg hK.2 Q
   ·cases hr
  ·exact hK.elim
 case unOp u t x=>
  unfold trUn at htr;cases u;case neg=>
   obtain⟨ty,hty,htr⟩:=zzc htr;split at htr
   ·rename_i k;obtain⟨d,hd,htr⟩:=zzc htr;obtain⟨x',hx,htr⟩:=zzc htr;cases htr;have hev:ev st (.c (.d (.int k 0)))=.d (.int k 0):=rfl;simp only[aopG,opv,hev]at hK;split at hK
    ·rename_i v ob gs hr;split at hr
     ·rename_i r hrr;cases hr;obtain⟨hgs,hob⟩:=zzt hg hK.1;simp only[Bool.and_eq_true]at hgs;obtain⟨cv,hrun,hrep⟩:=xzr h hop hx hgs.2 hrr hob;exact zzl hrun h hrep hd (hdst d hd) hg hK.2 Q
     ·cases hr
    ·exact hK.elim
   ·cases htr
  case not=>
   obtain⟨d,hd,htr⟩:=zzc htr;obtain⟨x',hx,htr⟩:=zzc htr;cases htr;simp only[aopG,opv]at hK;split at hK
   ·rename_i v ob gs hr;split at hr
    ·rename_i b hb;cases hr;obtain⟨hgs,_⟩:=zzt hg hK.1;obtain⟨cv,hrun,hrep⟩:=xzs h hop hx hgs hb;exact zzl hrun h hrep hd (hdst d hd) hg hK.2 Q
    ·cases hr
   ·exact hK.elim
  all_goals cases htr
 case build t parts=>
  obtain⟨ty,hty,htr⟩:=zzc htr;split at htr
  ·rename_i zs fs;obtain⟨d,hd,htr⟩:=zzc htr;obtain⟨xs,hxs,htr⟩:=zzc htr;cases htr;simp only[aopG,opv]at hK;split at hK
   ·rename_i v ob gs hr;split at hr
    ·rename_i cs hcs;cases hr;obtain⟨hgs,_⟩:=zzt hg hK.1;obtain⟨cv,hrun,hrep⟩:=yVB h (hT _ _ hty) hop hxs hgs hcs;exact zzl hrun h hrep hd (hdst d hd) hg hK.2 Q
    ·cases hr
   ·exact hK.elim
  ·rename_i n esz eagg zs;obtain⟨d,hd,htr⟩:=zzc htr;obtain⟨xs,hxs,htr⟩:=zzc htr;cases htr;simp only[aopG,opv]at hK;split at hK
   ·rename_i v ob gs hr;split at hr
    ·rename_i cs hcs;cases hr;obtain⟨hgs,_⟩:=zzt hg hK.1;obtain⟨cv,hrun,hrep⟩:=yWe h (hT _ _ hty) hop hxs hgs hcs;exact zzl hrun h hrep hd (hdst d hd) hg hK.2 Q
    ·cases hr
   ·exact hK.elim
  ·cases htr
 case field t x i=>
  obtain⟨ty,hty,htr⟩:=zzc htr;split at htr
  ·rename_i zs fs;obtain⟨fd,hfd,htr⟩:=zzc htr;obtain⟨d,hd,htr⟩:=zzc htr;obtain⟨x',hx,htr⟩:=zzc htr;cases htr;simp only[aopG,opv]at hK;split at hK
   ·rename_i v ob gs hr;split at hr
    ·rename_i cs hs;cases hr;obtain⟨hgs,hob⟩:=zzt hg hK.1;obtain⟨cv,hrun,hrep⟩:=xzj h (hT _ _ hty) hop hx hfd hgs hs hob;exact zzl hrun h hrep hd (hdst d hd) hg hK.2 Q
    ·cases hr
   ·exact hK.elim
  ·cases htr
 case buildSlice t n parts=>
  obtain⟨ty,hty,htr⟩:=zzc htr;split at htr
  ·rename_i esz eb zs;split at htr
   ·rename_i hcond;split at htr
    ·rename_i hzel;obtain⟨d,hd,htr⟩:=zzc htr;obtain⟨xs,hxs,htr⟩:=zzc htr;cases htr;simp only[aopG,opv]at hK;split at hK
     ·rename_i v ob gs hr;split at hr
      ·rename_i es hes;cases hr;obtain⟨hgs,_⟩:=zzt hg hK.1;obtain⟨cv,w',S',hrun,hs',hrep⟩:=yQB h (hT _ _ hty) hop hcond.1 hxs hgs hes hcond.2 (ds:=c.ds);exact zzl hrun hs' hrep hd (hdst d hd) hg hK.2 Q
      ·cases hr
     ·exact hK.elim
    split at htr
    ·obtain⟨d,hd,htr⟩:=zzc htr;obtain⟨xs,hxs,htr⟩:=zzc htr;cases htr;simp only[aopG]at hK;split at hK
     ·rename_i es hes;obtain⟨⟨rfl,g1,g2,g3⟩,hK⟩:=hK;obtain⟨cv,w',ρ',hrun,hs,hrep⟩:=yQA h (hT _ _ hty) hop hcond.1 hxs g1 hes hcond.2 g2 (hdst d hd).1 g3 (ds:=c.ds);exact zzl hrun hs hrep hd (hdst d hd) (.inl rfl) hK Q
     ·exact hK.elim
    obtain⟨d,hd,htr⟩:=zzc htr;obtain⟨xs,hxs,htr⟩:=zzc htr;cases htr;simp only[aopG,opv]at hK;split at hK
    ·rename_i v ob gs hr;split at hr
     ·rename_i es hes;cases hr;obtain⟨hgs,_⟩:=zzt hg hK.1;obtain⟨cv,w',S',hrun,hs',hrep⟩:=yJG h (hT _ _ hty) hop hcond.1 hxs hgs hes hcond.2;exact zzl hrun hs' hrep hd (hdst d hd) hg hK.2 Q
     ·cases hr
    ·exact hK.elim
   ·cases htr
  ·cases htr
 case fieldAddr t x i=>
  obtain⟨ty,hty,htr⟩:=zzc htr;split at htr
  ·rename_i zs fs;obtain⟨fd,hfd,htr⟩:=zzc htr;obtain⟨d,hd,htr⟩:=zzc htr;obtain⟨x',hx,htr⟩:=zzc htr;cases htr;simp only[aopG]at hK;split at hK
   ·rename_i v ob gs hr;obtain⟨hgs,hob⟩:=zzt hg hK.1;have hgd:gd st x'=true:=by simp only[opv]at hr;split at hr<;>first|(cases hr;done)|(cases hr;exact hgs)
    have hr':opv c.G st (.fa 0 fd.1 x')=some (v,ob,gs):=by rw[←hG,←hr];simp only[opv]
    obtain⟨cv,hrun,hrep⟩:=ok_fa h (hT _ _ hty) hop hx hfd hgd hr' hob;exact zzl hrun h hrep hd (hdst d hd) hg hK.2 Q
   ·exact hK.elim
  ·cases htr
 case load t x=>
  obtain⟨ty,hty,htr⟩:=zzc htr;obtain⟨d,hd,htr⟩:=zzc htr;obtain⟨x',hx,htr⟩:=zzc htr;cases htr;simp only[aopG]at hK;split at hK
  ·rename_i v ob gs hr;obtain⟨hgs,hob⟩:=zzt hg hK.1;have hgd:gd st x'=true:=by
    simp only[opv]at hr
    repeat' split at hr
    all_goals first|(cases hr;done)|(cases hr;exact hgs)
   have hr':opv c.G st (.ld 0 (tyAgg ty) (tySize ty) x')=some (v,ob,gs):=by rw[←hG,←hr];simp only[opv]
   obtain⟨cv,hrun,hrep⟩:=ok_ld h (hT _ _ hty) hop hx hgd hr' hob;exact zzl hrun h hrep hd (hdst d hd) hg hK.2 Q
  ·exact hK.elim
 case indexAddr t x y=>
  obtain⟨ty,hty,htr⟩:=zzc htr;split at htr
  ·rename_i esz eb zs;obtain⟨d,hd,htr⟩:=zzc htr;obtain⟨x',hx,htr⟩:=zzc htr;obtain⟨y',hy,htr⟩:=zzc htr;cases htr;simp only[aopG,opv]at hK;split at hK
   ·rename_i v ob gs hr;split at hr
    ·rename_i r hr';cases hr;obtain⟨hgs,hob⟩:=zzt hg hK.1;simp only[Bool.and_eq_true]at hgs;unfold idxA at hr';split at hr'
     ·rename_i s e off m cap k n he hn;cases hr';obtain⟨hob1,rfl⟩:=hob;obtain⟨cv,hrun,hrep⟩:=yQD h (hT _ _ hty) hop hx hy hgs.1 hgs.2 he hn hob1;exact zzl hrun h hrep hd (hdst d hd) hg hK.2 Q
     ·rename_i tk sz es k n he hn;cases hr';obtain⟨hob1,rfl⟩:=hob;obtain⟨cv,hrun,hrep⟩:=yQC h (hT _ _ hty) hop hx hy hgs.1 hgs.2 he hn hob1;exact zzl hrun h hrep hd (hdst d hd) hg hK.2 Q
     ·split at hr'
      ·rename_i k n hn _ _ _ es hes;cases hr';obtain⟨cv,hrun,hrep⟩:=xzk h (hT _ _ hty) hop hx hy hgs.1 hgs.2 hes hn hob;exact zzl hrun h hrep hd (hdst d hd) hg hK.2 Q
      ·cases hr'
     ·cases hr'
    ·cases hr
   ·exact hK.elim
  ·rename_i n esz eagg zs;split at htr
   ·obtain⟨d,hd,htr⟩:=zzc htr;obtain⟨x',hx,htr⟩:=zzc htr;obtain⟨kk,k,he,hk,rfl⟩:=zVD htr;cases he;simp only[aopG]at hK;split at hK
    ·rename_i v ob gs hr;obtain⟨hgs,hob⟩:=zzt hg hK.1;have hgd:gd st x'=true:=by simp only[opv]at hr;split at hr<;>first|(cases hr;done)|(cases hr;exact hgs)
     have hr':opv c.G st (.fa 0 (k.toNat*esz) x')=some (v,ob,gs):=by rw[←hG,←hr];simp only[opv]
     obtain⟨cv,hrun,hrep⟩:=ok_ia h (hT _ _ hty) hop hx hk hgd hr' hob;exact zzl hrun h hrep hd (hdst d hd) hg hK.2 Q
    ·exact hK.elim
   ·obtain⟨d,hd,htr⟩:=zzc htr;obtain⟨x',hx,htr⟩:=zzc htr;obtain⟨y',hy,htr⟩:=zzc htr;cases htr;simp only[aopG,opv]at hK;split at hK
    ·rename_i v ob gs hr;split at hr
     ·rename_i s off kk k hv hn;cases hr;obtain⟨hgs,hob⟩:=zzt hg hK.1;rw[Bool.and_eq_true]at hgs;obtain⟨cv,hrun,hrep⟩:=ok_iv h (hT _ _ hty) hop hx hy hgs.1 hgs.2 hv hn hob;exact zzl hrun h hrep hd (hdst d hd) hg hK.2 Q
     ·cases hr
    ·exact hK.elim
  ·cases htr
 case index t x y=>
  obtain⟨ty,hty,htr⟩:=zzc htr;split at htr
  ·obtain⟨d,hd,htr⟩:=zzc htr;obtain⟨x',hx,htr⟩:=zzc htr;obtain⟨y',hy,htr⟩:=zzc htr;cases htr;simp only[aopG,opv]at hK;split at hK
   ·rename_i v ob gs hr;split at hr
    ·rename_i s k n hs hn;cases hr;obtain⟨hgs,hob⟩:=zzt hg hK.1;simp only[Bool.and_eq_true]at hgs;obtain⟨cv,hrun,hrep⟩:=yQJ h (hT _ _ hty) hop hx hy hgs.1 hgs.2 hs hn hob;exact zzl hrun h hrep hd (hdst d hd) hg hK.2 Q
    ·cases hr
   ·exact hK.elim
  ·rename_i m zs;obtain⟨d,hd,htr⟩:=zzc htr;obtain⟨x',hx,htr⟩:=zzc htr;obtain⟨y',hy,htr⟩:=zzc htr;cases htr;simp only[aopG,opv]at hK;split at hK
   ·rename_i v ob gs hr;split at hr
    ·rename_i s k n hs hn;cases hr;obtain⟨hgs,hob⟩:=zzt hg hK.1;simp only[Bool.and_eq_true]at hgs;obtain⟨cv,hrun,hrep⟩:=yQw h (hT _ _ hty) hop hx hy hgs.1 hgs.2 hs hn hob;exact zzl hrun h hrep hd (hdst d hd) hg hK.2 Q
    ·cases hr
   ·exact hK.elim
  ·cases htr
 case slice t x lo hi mx=>
  cases mx with
  |some mx=>
   cases hi with
   |none=>cases htr
   |some hi=>
   obtain⟨ty,hty,htr⟩:=zzc htr;split at htr
   ·rename_i esz eb zs;have fin:∀(y':X) (z' m':X) (hy:(∃y0,lo=some y0∧trX y0=some y')∨(lo=none∧y'=.c (.d (.int .i64 0)))) (hx:∃x',trX x=some x'∧i=.lmax (o.dst.getD 0) esz x' y' z' m') (hz:trX hi=some z') (hm:trX mx=some m') (d:Nat) (hd:o.dst=some d),o.wp c.P ⟨tmps,c.ds⟩ w (Goes c K) Q:=by
     rintro y' z' m' hy ⟨x',hx,rfl⟩ hz hm d hd
     rw[hd]at hK;simp only[Option.getD_some,aopG,opv]at hK;split at hK
     ·rename_i v ob gs hr;split at hr
      ·rename_i r hr';cases hr;obtain⟨hgs,hob⟩:=zzt hg hK.1;simp only[Bool.and_eq_true]at hgs;obtain⟨g1,g2,g3,g4⟩:=hgs;have key:∀{kl kh km:IntKind} {l hh m:Int},ev st y'=.d (.int kl l)→ev st z'=.d (.int kh hh)→ev st m'=.d (.int km m)→0≤l→l≤hh→hh≤m→∀(nn cc:Nat),m≤cc→
         (Instr.sliceBounds true nn cc (lo.map (Act.eval ⟨tmps,c.ds⟩)) ((some hi).map (Act.eval ⟨tmps,c.ds⟩)) ((some mx).map (Act.eval ⟨tmps,c.ds⟩))).run c.P w=.ok (l.toNat,hh.toNat,m.toNat) w:=by
        intro kl kh km l hh m e1 e2 e3 h0 h1 h2 nn cc h3;have f2:=h.ev hz g3 (ds:=c.ds);rw[e2]at f2;have f2:Act.eval ⟨tmps,c.ds⟩ hi=.int kh hh:=f2;have f3:=h.ev hm g4 (ds:=c.ds);rw[e3]at f3;have f3:Act.eval ⟨tmps,c.ds⟩ mx=.int km m:=f3;simp only[Option.map_some,f2,f3];refine yZ7 (kl:=kl) _ ?_ h0 h1 h2 h3;rcases hy with⟨y0,rfl,hy⟩|⟨rfl,rfl⟩
        ·have f1:=h.ev hy g2 (ds:=c.ds);rw[e1]at f1;have f1:Act.eval ⟨tmps,c.ds⟩ y0=.int kl l:=f1;left;simp only[Option.map_some,f1]
        ·simp only[ev,ev0,AV.strip,AV.d.injEq,D.int.injEq]at e1;right;exact⟨rfl,e1.2.symm⟩
       unfold lmaxA at hr';split at hr'
       ·rename_i s e off n cap kl l kh hh km m he hl hh' hm';cases hr';obtain⟨⟨h0,h1,h2,h3⟩,rfl⟩:=hob;have hcap:n≤cap:=by have f:=h.ev hx g1 (ds:=c.ds);rw[he]at f;exact f.1
        obtain⟨cv,hrun,hrep⟩:=zKB (ds:=c.ds) h (hT _ _ hty) hop hx g1 he (l:=l.toNat) (hh:=hh.toNat) (m:=m.toNat) (by omega) (by omega) (by omega) (fun nn cc e1 e2=>key hl hh' hm' h0 h1 h2 nn cc (by omega));exact zzl hrun h hrep hd (hdst d hd) hg hK.2 Q
       ·split at hr'
        ·rename_i kl l kh hh km m hl hh' hm' _ _ es hes;cases hr';obtain⟨⟨h0,h1,h2,h3⟩,hlen⟩:=hob;obtain⟨cv,hrun,hrep⟩:=yQE (ds:=c.ds) h (hT _ _ hty) hop hx g1 hes hlen (l:=l.toNat) (hh:=hh.toNat) (m:=m.toNat) (by omega) (by omega) (by omega) (fun nn cc e1 e2=>key hl hh' hm' h0 h1 h2 nn cc (by omega));exact zzl hrun h hrep hd (hdst d hd) hg hK.2 Q
        ·cases hr'
       ·cases hr'
      ·cases hr
     ·exact hK.elim
    cases lo with
    |none=>obtain⟨d,hd,htr⟩:=zzc htr;obtain⟨x',hx,htr⟩:=zzc htr;obtain⟨z',hz,htr⟩:=zzc htr;obtain⟨m',hm,htr⟩:=zzc htr;cases htr;exact fin _ z' m' (.inr ⟨rfl,rfl⟩) ⟨x',hx,by rw[hd];rfl⟩ hz hm d hd
    |some y=>obtain⟨d,hd,htr⟩:=zzc htr;obtain⟨x',hx,htr⟩:=zzc htr;obtain⟨y',hy,htr⟩:=zzc htr;obtain⟨z',hz,htr⟩:=zzc htr;obtain⟨m',hm,htr⟩:=zzc htr;cases htr;exact fin y' z' m' (.inl ⟨y,rfl,hy⟩) ⟨x',hx,by rw[hd];rfl⟩ hz hm d hd
   ·cases htr
  |none=>
  obtain⟨ty,hty,htr⟩:=zzc htr;split at htr
  ·cases lo with
   |none=>
    cases hi with
    |none=>cases htr
    |some z=>
     obtain⟨d,hd,htr⟩:=zzc htr;obtain⟨x',hx,htr⟩:=zzc htr;obtain⟨z',hz,htr⟩:=zzc htr;cases htr;simp only[aopG,opv]at hK;split at hK
     ·rename_i v ob gs hr;split at hr
      ·rename_i s k l k' m hs hl hm;cases hr;obtain⟨hgs,hob⟩:=zzt hg hK.1;simp only[Bool.and_eq_true]at hgs;obtain⟨cv,hrun,hrep⟩:=yJJ h (hT _ _ hty) hop hx (.inr ⟨rfl,rfl⟩) hz hgs.1 hgs.2.1 hgs.2.2 hs hl hm hob;exact zzl hrun h hrep hd (hdst d hd) hg hK.2 Q
      ·cases hr
     ·exact hK.elim
   |some y=>
    cases hi with
    |none=>
     obtain⟨d,hd,htr⟩:=zzc htr;obtain⟨x',hx,htr⟩:=zzc htr;obtain⟨y',hy,htr⟩:=zzc htr;cases htr;simp only[aopG,opv]at hK;split at hK
     ·rename_i v ob gs hr;split at hr
      ·rename_i s k n hs hn;cases hr;obtain⟨hgs,hob⟩:=zzt hg hK.1;simp only[Bool.and_eq_true]at hgs;obtain⟨cv,hrun,hrep⟩:=yVE h (hT _ _ hty) hop hx hy hgs.1 hgs.2 hs hn hob;exact zzl hrun h hrep hd (hdst d hd) hg hK.2 Q
      ·cases hr
     ·exact hK.elim
    |some z=>
     obtain⟨d,hd,htr⟩:=zzc htr;obtain⟨x',hx,htr⟩:=zzc htr;obtain⟨y',hy,htr⟩:=zzc htr;obtain⟨z',hz,htr⟩:=zzc htr;cases htr;simp only[aopG,opv]at hK;split at hK
     ·rename_i v ob gs hr;split at hr
      ·rename_i s k l k' m hs hl hm;cases hr;obtain⟨hgs,hob⟩:=zzt hg hK.1;simp only[Bool.and_eq_true]at hgs;obtain⟨cv,hrun,hrep⟩:=yJJ h (hT _ _ hty) hop hx (.inl ⟨y,rfl,hy⟩) hz hgs.1 hgs.2.1 hgs.2.2 hs hl hm hob;exact zzl hrun h hrep hd (hdst d hd) hg hK.2 Q
      ·cases hr
     ·exact hK.elim
  ·cases lo with
   |none=>
    cases hi with
    |none=>cases htr
    |some z=>
     obtain⟨d,hd,htr⟩:=zzc htr;obtain⟨x',hx,htr⟩:=zzc htr;obtain⟨z',hz,htr⟩:=zzc htr;cases htr;simp only[aopG,opv]at hK;split at hK
     ·rename_i v ob gs hr;split at hr
      ·rename_i r hr';cases hr;obtain⟨hgs,hob⟩:=zzt hg hK.1;simp only[Bool.and_eq_true]at hgs;unfold ltoA at hr';split at hr'
       ·rename_i sb e off n cap k l k' m he hl hm;cases hr';obtain⟨⟨h0,h1,h2⟩,rfl⟩:=hob;have hcap:n≤cap:=by have f:=h.ev hx hgs.1 (ds:=c.ds);rw[he]at f;exact f.1
        have f2:=h.ev hz hgs.2.2 (ds:=c.ds);rw[hm]at f2;have f2:Act.eval ⟨tmps,c.ds⟩ z=.int k' m:=f2;obtain⟨cv,hrun,hrep⟩:=zKB (ds:=c.ds) h (hT _ _ hty) hop hx hgs.1 he (l:=l.toNat) (hh:=m.toNat) (m:=cap) (by omega) (by omega) (by omega) (fun nn cc e1 e2=>by subst e2;simp only[Option.map_some,f2];refine yzB (kl:=k) _ ?_ h0 h1 (by omega);simp only[ev,ev0,AV.strip,AV.d.injEq,D.int.injEq]at hl;right;exact⟨rfl,hl.2.symm⟩);exact zzl hrun h hrep hd (hdst d hd) hg hK.2 Q
       ·split at hr'
        ·rename_i k l k' m hl hm _ _ s hs;cases hr';obtain⟨cv,hrun,hrep⟩:=yJI h (hT _ _ hty) hop hx (.inr ⟨rfl,rfl⟩) hz hgs.1 hgs.2.1 hgs.2.2 hs hl hm hob;exact zzl hrun h hrep hd (hdst d hd) hg hK.2 Q
        ·cases hr'
       ·cases hr'
      ·cases hr
     ·exact hK.elim
   |some y=>
    cases hi with
    |none=>
     obtain⟨d,hd,htr⟩:=zzc htr;obtain⟨x',hx,htr⟩:=zzc htr;obtain⟨y',hy,htr⟩:=zzc htr;cases htr;simp only[aopG,opv]at hK;split at hK
     ·rename_i v ob gs hr;split at hr
      ·rename_i r hr';cases hr;obtain⟨hgs,hob⟩:=zzt hg hK.1;simp only[Bool.and_eq_true]at hgs;unfold lfromA at hr';split at hr'
       ·rename_i sb e off n cap k l he hl;cases hr';obtain⟨⟨h0,h1⟩,rfl⟩:=hob;have hcap:n≤cap:=by have f:=h.ev hx hgs.1 (ds:=c.ds);rw[he]at f;exact f.1
        have f2:=h.ev hy hgs.2 (ds:=c.ds);rw[hl]at f2;have f2:Act.eval ⟨tmps,c.ds⟩ y=.int k l:=f2;obtain⟨cv,hrun,hrep⟩:=zKB (ds:=c.ds) h (hT _ _ hty) hop hx hgs.1 he (l:=l.toNat) (hh:=n) (m:=cap) (by omega) (by omega) (by omega) (fun nn cc e1 e2=>by subst e1 e2;simp only[Option.map_some,Option.map_none,f2];exact yjD h0 h1);exact zzl hrun h hrep hd (hdst d hd) hg hK.2 Q
       ·split at hr'
        ·rename_i k n hn _ _ s hs;cases hr';obtain⟨cv,hrun,hrep⟩:=yVD h (hT _ _ hty) hop hx hy hgs.1 hgs.2 hs hn hob;exact zzl hrun h hrep hd (hdst d hd) hg hK.2 Q
        ·cases hr'
       ·cases hr'
      ·cases hr
     ·exact hK.elim
    |some z=>
     obtain⟨d,hd,htr⟩:=zzc htr;obtain⟨x',hx,htr⟩:=zzc htr;obtain⟨y',hy,htr⟩:=zzc htr;obtain⟨z',hz,htr⟩:=zzc htr;cases htr;simp only[aopG,opv]at hK;split at hK
     ·rename_i v ob gs hr;split at hr
      ·rename_i r hr';cases hr;obtain⟨hgs,hob⟩:=zzt hg hK.1;simp only[Bool.and_eq_true]at hgs;unfold ltoA at hr';split at hr'
       ·rename_i sb e off n cap k l k' m he hl hm;cases hr';obtain⟨⟨h0,h1,h2⟩,rfl⟩:=hob;have hcap:n≤cap:=by have f:=h.ev hx hgs.1 (ds:=c.ds);rw[he]at f;exact f.1
        have f2:=h.ev hz hgs.2.2 (ds:=c.ds);rw[hm]at f2;have f2:Act.eval ⟨tmps,c.ds⟩ z=.int k' m:=f2;obtain⟨cv,hrun,hrep⟩:=zKB (ds:=c.ds) h (hT _ _ hty) hop hx hgs.1 he (l:=l.toNat) (hh:=m.toNat) (m:=cap) (by omega) (by omega) (by omega) (fun nn cc e1 e2=>by subst e2;simp only[Option.map_some,f2];refine yzB (kl:=k) _ ?_ h0 h1 (by omega);have f1:=h.ev hy hgs.2.1 (ds:=c.ds);rw[hl]at f1;have f1:Act.eval ⟨tmps,c.ds⟩ y=.int k l:=f1;left;simp only[f1]);exact zzl hrun h hrep hd (hdst d hd) hg hK.2 Q
       ·split at hr'
        ·rename_i k l k' m hl hm _ _ s hs;cases hr';obtain⟨cv,hrun,hrep⟩:=yJI h (hT _ _ hty) hop hx (.inl ⟨y,rfl,hy⟩) hz hgs.1 hgs.2.1 hgs.2.2 hs hl hm hob;exact zzl hrun h hrep hd (hdst d hd) hg hK.2 Q
        ·cases hr'
       ·cases hr'
      ·cases hr
     ·exact hK.elim
  ·cases htr
 case convert t' t x=>
  obtain⟨sty,hsty,htr⟩:=zzc htr;have hsrc:(c.P.underlying t').isSome=true:=by obtain⟨_,_,_,_,_,_,hu,_⟩:=zZZ (hT _ _ hsty);exact hu
  obtain⟨ty,hty,htr⟩:=zzc htr;split at htr
  ·rename_i k;obtain⟨d,hd,htr⟩:=zzc htr;obtain⟨x',hx,htr⟩:=zzc htr;cases htr;simp only[aopG,opv]at hK;split at hK
   ·rename_i v ob gs hr;split at hr
    ·rename_i q n hn;cases hr;obtain⟨hgs,_⟩:=zzt hg hK.1;obtain⟨cv,hrun,hrep⟩:=xzh h (hT _ _ hty) hop hx hgs hsrc hn;exact zzl hrun h hrep hd (hdst d hd) hg hK.2 Q
    ·cases hr
   ·exact hK.elim
  ·obtain⟨d,hd,htr⟩:=zzc htr;obtain⟨x',hx,htr⟩:=zzc htr;cases htr;simp only[aopG,opv]at hK;split at hK
   ·rename_i v ob gs hr;split at hr
    ·rename_i s hn;cases hr;obtain⟨hgs,_⟩:=zzt hg hK.1;obtain⟨cv,hrun,hrep⟩:=xzg h (hT _ _ hty) hop hx hgs hsrc hn;exact zzl hrun h hrep hd (hdst d hd) hg hK.2 Q
    ·cases hr
   ·exact hK.elim
  ·cases htr
 case makeSlice t x y=>
  obtain⟨ty,hty,htr⟩:=zzc htr;split at htr
  ·rename_i esz eb zs;split at htr
   ·rename_i hxy;obtain⟨d,hd,htr⟩:=zzc htr;obtain⟨x',hx,htr⟩:=zzc htr;cases htr;simp only[aopG]at hK;split at hK
    ·rename_i k n hn;obtain⟨⟨rfl,g1,g2,rfl,g4,g5,g6,g7⟩,hK⟩:=hK;obtain⟨cv,w',ρ',hrun,hs,hrep⟩:=xzp h (hT _ _ hty) (ds:=c.ds) hop hxy hx g1 hn g2 (hdst d hd).1 g4 g5 g6 g7;exact zzl hrun hs hrep hd (hdst d hd) (.inl rfl) hK Q
    ·exact hK.elim
   ·cases htr
  ·cases htr
 case extract x i=>
  obtain⟨d,hd,htr⟩:=zzc htr;obtain⟨x',hx,htr⟩:=zzc htr;cases htr;simp only[aopG,opv]at hK;split at hK
  ·rename_i v ob gs hr;split at hr
   ·rename_i vs hvs;cases hr;obtain⟨hgs,hob⟩:=zzt hg hK.1;obtain⟨cv,hrun,hrep⟩:=xzi h hop hx hgs hvs hob;exact zzl hrun h hrep hd (hdst d hd) hg hK.2 Q
   ·cases hr
  ·exact hK.elim
 case makeFunc fn first caps=>
  split at htr
  ·rename_i f;split at htr
   ·rename_i hfirst;obtain⟨d,hd,htr⟩:=zzc htr;obtain⟨xs,hxs,htr⟩:=zzc htr;cases htr;simp only[aopG,opv]at hK;obtain⟨hgs,_⟩:=zzt hg hK.1;have hf:first=#[]:=by simpa using hfirst
    subst hf;obtain⟨cv,hrun,hrep⟩:=xzn h hop hxs hgs;exact zzl hrun h hrep hd (hdst d hd) hg hK.2 Q
   ·cases htr
  ·cases htr
 case alloc t=>
  obtain⟨d,hd,htr⟩:=zzc htr;obtain⟨ty,hty,htr⟩:=zzc htr;cases htr;simp only[aopG]at hK;obtain⟨⟨rfl,hm⟩,hK⟩:=hK;obtain⟨ti,z,hi,hz,_,_,_,hzs⟩:=zZZ (hT _ _ hty);obtain⟨ρ',hle,hb,hs⟩:=h.newBox hm (hdst d hd).1 (zXM w S ρ hzs) t;have hrun:(execOp (Act.eval ⟨tmps,c.ds⟩) o).run c.P w=.ok (.value (.pointer (some ⟨w.heap.size,0,none⟩))) (w.alloc (.cells z.cells t)):=by unfold execOp;simp[hop,Instr.alloc,zKM hi hz,newVar,newRow]
  exact zzl (v:=.ptr d 0) hrun hs ⟨_,hb,rfl⟩ hd (hdst d hd) (.inl rfl) hK Q
 case box t x=>
  obtain⟨d,hd,htr⟩:=zzc htr;obtain⟨x',hx,htr⟩:=zzc htr;cases htr;simp only[aopG]at hK;obtain⟨⟨rfl,hgx,hsol,hm⟩,hK⟩:=hK;have hrep:=zZX (h.ev (ds:=c.ds) hx hgx) hsol;obtain⟨ρ',hle,hb,hs⟩:=h.newBox hm (hdst d hd).1 hrep t;have hrun:(execOp (Act.eval ⟨tmps,c.ds⟩) o).run c.P w=.ok (.value (.pointer (some ⟨w.heap.size,0,none⟩))) (w.alloc (.cells (Act.eval ⟨tmps,c.ds⟩ x).cells t)):=by unfold execOp;simp[hop,Instr.box,newVar,newRow]
  exact zzl (v:=.ptr d 0) hrun hs ⟨_,hb,rfl⟩ hd (hdst d hd) (.inl rfl) hK Q
 case store t x y=>
  split at htr
  ·rename_i hdn;obtain⟨ty,hty,htr⟩:=zzc htr;obtain⟨x',hx,htr⟩:=zzc htr;obtain⟨y',hy,htr⟩:=zzc htr;cases htr;simp only[aopG]at hK;split at hK
   ·rename_i s off hp;split at hK
    ·rename_i cs hcs;obtain⟨⟨rfl,g1,g2,g3,g4,g5,g6⟩,hK⟩:=hK;obtain⟨w',hrun,hs⟩:=ok_st h (hT _ _ hty) hop hx hy hp hcs g1 g2 g3 g4 g5 g6;unfold Oper.wp;rw[hrun];simp only[Oper.upon_skip,Act.put,hdn];exact⟨rfl,_,_,_,hs,hK⟩
    ·exact hK.elim
   ·rename_i tk sz hp;split at hK
    ·rename_i xs hxs;obtain⟨⟨rfl,g1,g2,g3,g4,g5,g6⟩,hK⟩:=hK;obtain⟨w',S',ρ',hrun,hs⟩:=xzu h (hT _ _ hty) hop hx hy hp g1 g2 g3 hxs g4 g5 g6 (ds:=c.ds);unfold Oper.wp;rw[hrun];simp only[Oper.upon_skip,Act.put,hdn];exact⟨rfl,_,_,_,hs,hK⟩
    ·exact hK.elim
   ·exact hK.elim
  ·cases htr
 case makeMap t rs=>
  cases rs with
  |some _=>cases htr
  |none=>
  obtain⟨ty,hty,htr⟩:=zzc htr;split at htr
  ·rename_i k e kz ez;obtain⟨d,hd,htr⟩:=zzc htr;cases htr;simp only[aopG]at hK;obtain⟨⟨rfl,hm⟩,hK⟩:=hK;obtain⟨ρ',hrun,hb,hs⟩:=xzo (ds:=c.ds) (k:=k) (e:=e) h hop hm (hdst _ hd).1;exact zzl (v:=.mref d) hrun hs ⟨_,hb,rfl⟩ hd (hdst d hd) (.inl rfl) hK Q
  ·cases htr
 case mapUpdate t x y z=>
  split at htr
  ·rename_i hdn;obtain⟨ty,hty,htr⟩:=zzc htr;split at htr
   ·obtain⟨x',hx,htr⟩:=zzc htr;obtain⟨y',hy,htr⟩:=zzc htr;obtain⟨z',hz,htr⟩:=zzc htr;cases htr;simp only[aopG]at hK;split at hK
    ·rename_i s kd vd ex ey ez';split at hK
     ·rename_i k' e' kvs hm;obtain⟨⟨rfl,g1,g2,g3,rfl,rfl,g6,g7,g9⟩,hK⟩:=hK;obtain⟨w',hrun,hs⟩:=yQH h (hT _ _ hty) hop hx hy hz ex ey ez' hm g1 g2 g3 g6 g7 g9;unfold Oper.wp;rw[hrun];simp only[Oper.upon_skip,Act.put,hdn];exact⟨rfl,_,_,_,hs,hK⟩
     ·exact hK.elim
    ·exact hK.elim
   ·cases htr
  ·cases htr
 case lookup t x y ok=>
  obtain⟨ty,hty,htr⟩:=zzc htr;split at htr
  ·rename_i k e kz ez;obtain⟨d,hd,htr⟩:=zzc htr;obtain⟨x',hx,htr⟩:=zzc htr;obtain⟨y',hy,htr⟩:=zzc htr;cases htr;simp only[aopG]at hK;split at hK
   ·rename_i v ob gs hr;obtain⟨hgs,hob⟩:=zzt hg hK.1;obtain⟨cv,hrun,hrep⟩:=yQG h (hT _ _ hty) hop hx hy (r:=(v,ob,gs)) (by rw[hG]at hr;simpa only[opv]using hr) hob hgs;exact zzl hrun h hrep hd (hdst d hd) hg hK.2 Q
   ·exact hK.elim
  ·cases htr
 case call cl=>
  obtain⟨callee,args,argTypes⟩:=cl;cases callee<;>simp only[trCall,Option.bind_eq_bind,Option.pure_def,reduceCtorEq]at htr;case value f=>
   split at htr
   ·obtain⟨f',hf,htr⟩:=zzc htr;obtain⟨xs,hxs,htr⟩:=zzc htr;cases htr;simp only[aopG]at hK;split at hK
    ·rename_i fid caps hfv;obtain⟨x,hb,hK⟩:=hK;have hg2:=hb.2.1;simp only[Bool.and_eq_true]at hg2;have e1:=h.ev (ds:=c.ds) hf hg2.1;rw[hfv]at e1;obtain⟨cs,hv,hcaps⟩:=e1;exact zXi hC h hop hxs hdst hv (RepL.toAs hcaps) (fun _=>hg2.2) hb hK Q
    ·rename_i fid caps hfv;obtain⟨x,hb,hK⟩:=hK;have hg2:=hb.2.1;simp only[Bool.and_eq_true]at hg2;have e1:=h.ev (ds:=c.ds) hf hg2.1;rw[hfv]at e1;obtain⟨cs,hv,hcaps⟩:=e1;exact zXi hC h hop hxs hdst hv hcaps (fun _=>hg2.2) hb hK Q
    ·exact hK.elim
   obtain⟨f',hf,htr⟩:=zzc htr;obtain⟨xs,hxs,htr⟩:=zzc htr;cases htr;simp only[aopG]at hK;split at hK
   ·rename_i fid caps hfv;split at hK
    ·rename_i cvs hcvs;obtain⟨r,hpre,hK⟩:=hK;obtain⟨hgf,hgs,hCr⟩:=zzt hg hpre;have hEv:=hC _ _ _ hCr;obtain⟨fn,hfn,hname,hbody⟩:=hEv.enters;have e1:=h.ev (ds:=c.ds) hf hgf;rw[hfv]at e1;obtain⟨cs,hv,hcaps⟩:=e1;have e2:=zjV (zyp (w:=w) (S:=S) (ρ:=ρ)) 1 (h.evs (ds:=c.ds) hxs hgs) hcvs;have hrun:(execOp (Act.eval ⟨tmps,c.ds⟩) o).run c.P w=.ok (.enter fid (args.map (Act.eval ⟨tmps,c.ds⟩)++cs)) w:=by
      unfold execOp;simp only[hop];have hname':¬fn.name= "runtime.NumGoroutine":=by simpa using hname
      have hbody':¬fn.body=none:=by intro e;simp[e]at hbody
      simp[resolve,invoke,callFunc,Deferred.ofValue,hv,hfn,hname',hbody']
     unfold Oper.wp;rw[hrun,Oper.upon_enter];have hargs:RepCL w S (cvs++caps.map .one) (args.map (Act.eval ⟨tmps,c.ds⟩)++cs).toList:=by simp only[Array.toList_append,Array.toList_map];exact RepCL.append e2 (RepL.toCL hcaps)
     cases hro:r.isOwn with
     |true=>
      cases r<;>simp only[CV.isOwn,Bool.false_eq_true]at hro;case bx=>exact hK.elim
      case vc=>
       rename_i sz es;cases hd:o.dst with
       |none=>rw[hd]at hK;exact hK.elim
       |some d=>
       rw[hd]at hK;obtain⟨⟨_,rfl,hdn⟩,hK0,hK1⟩:=hK;refine((hEv:EvV _ _ _ _ _ _).2 w S (args.map (Act.eval ⟨tmps,c.ds⟩)++cs) h.live ⟨h.glob,h.exact⟩ hargs).mono ?_
       rintro e w' ⟨v,S',rfl,hnew,hbel,hS,hS',hlive⟩
       have hs:=h.grow hbel hS hS' hlive;simp only[Act.put,hd];rcases hnew with⟨rfl,hr⟩|⟨hne,hlen,b,cap,vs,ev,rfl,g1,g2,g3,g4,g5,g6,g7⟩
       ·refine⟨rfl,_,_,_,hs.put (v:=v) (hdst d hd) (a:=.d (.lst [])) hr none (fun b hb=>by cases hb),hK0 rfl⟩
       ·have hvl:=RepL.length g6;obtain⟨ρ',hle,hbx,hs'⟩:=h.addBox hs g1 hdn (hdst d hd).1 (cs:=es.flatten.map .d++List.replicate (cap*sz-es.length*sz) .undef) g4 (by
         have e1:=RepAs.append (ρ:=ρ) (RepL.toAs g6) (RepAs.undefs' (l:=vs.toList.drop (es.length*sz)) (n:=cap*sz-es.length*sz) (by simp[g5]))
         rwa [List.take_append_drop]at e1) g7
        exact⟨rfl,_,_,_,hs'.put (v:=.slice (some ⟨b,0,none⟩) es.length cap) (hdst d hd) (a:=.vec d sz 0 es.length cap) ⟨g2,g3,b,hbx,rfl⟩ none (fun b hb=>by cases hb),hK1 hne cap g2 g3⟩
      rename_i a sz es;cases hd:o.dst with
      |none=>rw[hd]at hK;exact hK.elim
      |some d=>
      rw[hd]at hK;obtain⟨⟨rfl,hdn,hao⟩,hK⟩:=hK;obtain⟨X,g1,g2,g3⟩:=h.takes (cl:=cs.toList) (caps:=caps.map .one) (h.evs (ds:=c.ds) hxs hgs) hcvs hao;refine((hEv:EvOwn _ _ _ _ _ _ _).2 w S (args.map (Act.eval ⟨tmps,c.ds⟩)++cs) X h.live ⟨h.glob,h.exact⟩ hargs (by simp only[Array.toList_append,Array.toList_map];exact g1)).mono ?_
      rintro e w' ⟨v,S',rfl,hv,hlen,hroom,hbel,hkeep,hS',hlive⟩
      obtain⟨ρ',hs,hrep⟩:=g2.gotOwn g3 hbel hkeep hS' hlive hv hlen hroom (d:=d) (yVh hdn);simp only[Act.put,hd];exact⟨rfl,_,_,_,hs.put (hdst d hd) hrep none (fun b hb=>by cases hb),hK⟩
     |false=>
     have hcalls:=(hEv.data hro).2;have hK:K (match o.dst with|some d=>st.put g d r.toAV0|none=>st):=by cases r<;>simp only[CV.isOwn,Bool.true_eq_false]at hro<;>first|exact hK|exact hK.elim
     refine(hcalls w S (args.map (Act.eval ⟨tmps,c.ds⟩)++cs) h.live ⟨h.glob,h.exact⟩ hargs).mono ?_
     rintro e w' ⟨v,S',rfl,hr,hbel,hS,hS',hlive⟩
     have hs:=h.grow hbel hS hS' hlive;simp only[Act.put];cases hd:o.dst with
     |none=>rw[hd]at hK;exact⟨rfl,_,_,_,hs,hK⟩
     |some d=>
      rw[hd]at hK;refine⟨rfl,_,_,_,hs.put (hdst d hd) (RepC.toAV hr) g ?_,hK⟩
      rintro b hb rfl
      rcases hg with hg|hg<;>rw[hg]at hb<;>cases hb
    ·rcases hK with hK|hK
     rotate_left
     ·exact hK.elim
     unfold callWP at hK;rcases hK with hK|⟨x,hb,hK⟩|⟨B,cvs,r,⟨rfl,hgg,hro,hdrop,hcvs,hCr⟩,hK⟩
     ·split at hK
      ·rename_i cvs hcvs;rcases hK with hK|hK
       ·obtain⟨r,hpre,hK⟩:=hK;obtain⟨hgg,hflat,hCr⟩:=zzt hg hpre;simp only[Bool.and_eq_true]at hgg;obtain⟨hgf,hgs⟩:=hgg;have hEv:=hC _ _ _ hCr;obtain⟨fn,hfn,hname,hbody⟩:=hEv.enters;obtain⟨S2,hSS,_,hlive2,_,hthr⟩:=h.close;have hkeep:Keeps w S w S2:=fun b o hs=>⟨hSS b o hs,rfl⟩;have e1:=h.ev (ds:=c.ds) hf hgf;rw[hfv]at e1;obtain⟨cs,hv,hcaps⟩:=e1;have e2:=zjV hthr 3 (RepAs.keep hkeep ρ.le_refl _ _ (h.evs (ds:=c.ds) hxs hgs)) hcvs;have hrun:(execOp (Act.eval ⟨tmps,c.ds⟩) o).run c.P w=.ok (.enter fid (args.map (Act.eval ⟨tmps,c.ds⟩)++cs)) w:=by
         unfold execOp;simp only[hop];have hname':¬fn.name= "runtime.NumGoroutine":=by simpa using hname
         have hbody':¬fn.body=none:=by intro e;simp[e]at hbody
         simp[resolve,invoke,callFunc,Deferred.ofValue,hv,hfn,hname',hbody']
        unfold Oper.wp;rw[hrun,Oper.upon_enter];have hargs:RepCL w S2 (cvs++caps.map .one) (args.map (Act.eval ⟨tmps,c.ds⟩)++cs).toList:=by simp only[Array.toList_append,Array.toList_map];exact RepCL.append e2 (RepL.toCL (RepL.keep hkeep _ _ hcaps))
        have hro:=yK3 hflat;have hcalls:=(hEv.data hro).2;have hK:K (match o.dst with|some d=>st.put g d r.toAV0|none=>st):=by cases r<;>simp only[CV.isOwn,Bool.true_eq_false]at hro<;>first|exact hK|exact hK.elim
        refine(hcalls w S2 (args.map (Act.eval ⟨tmps,c.ds⟩)++cs) hlive2 ⟨fun g cs hg=>RepCs.keep hkeep g 0 cs (h.glob g cs hg),h.exact⟩ hargs).mono ?_
        rintro e w' ⟨v,S',rfl,hr,hbel,_,_,_⟩
        have hs:=h.grow (S':=S) hbel (fun _ _ h=>h) (fun _ _ h=>.inl h) (fun b o hso=>by obtain⟨u,hu⟩:=h.live b o hso;exact⟨u,(hbel.cell (p:=⟨b,o,none⟩) (zyu hu)).trans hu⟩);have hr:RepC w' S r v:=yqb hflat hr;simp only[Act.put];cases hd:o.dst with
        |none=>rw[hd]at hK;exact⟨rfl,_,_,_,hs,hK⟩
        |some d=>
         rw[hd]at hK;refine⟨rfl,_,_,_,hs.put (hdst d hd) (RepC.toAV hr) g ?_,hK⟩
         rintro b hb rfl
         rcases hg with hg|hg<;>rw[hg]at hb<;>cases hb
       ·obtain⟨r,⟨rfl,hgg,hro,hCr⟩,hK⟩:=hK;simp only[Bool.and_eq_true]at hgg;obtain⟨hgf,hgs⟩:=hgg;have hEv:=hC _ _ _ hCr;obtain⟨fn,hfn,hname,hbody⟩:=hEv.enters;obtain⟨S2,hSS,hS2,hlive2,_,hthr⟩:=h.closeB;have hkeep:Keeps w S w S2:=fun b o hs=>⟨hSS b o hs,rfl⟩;have e1:=h.ev (ds:=c.ds) hf hgf;rw[hfv]at e1;obtain⟨cs,hv,hcaps⟩:=e1;have e2:=zjV hthr 3 (RepAs.keep hkeep ρ.le_refl _ _ (h.evs (ds:=c.ds) hxs hgs)) hcvs;have hrun:(execOp (Act.eval ⟨tmps,c.ds⟩) o).run c.P w=.ok (.enter fid (args.map (Act.eval ⟨tmps,c.ds⟩)++cs)) w:=by
         unfold execOp;simp only[hop];have hname':¬fn.name= "runtime.NumGoroutine":=by simpa using hname
         have hbody':¬fn.body=none:=by intro e;simp[e]at hbody
         simp[resolve,invoke,callFunc,Deferred.ofValue,hv,hfn,hname',hbody']
        unfold Oper.wp;rw[hrun,Oper.upon_enter];have hargs:RepCL w S2 (cvs++caps.map .one) (args.map (Act.eval ⟨tmps,c.ds⟩)++cs).toList:=by simp only[Array.toList_append,Array.toList_map];exact RepCL.append e2 (RepL.toCL (RepL.keep hkeep _ _ hcaps))
        have hcalls:=(hEv.data hro).2;have hK:K (match o.dst with|some d=>st.noBox.put none d r.toAV0|none=>st.noBox):=by cases r<;>simp only[CV.isOwn,Bool.true_eq_false]at hro<;>first|exact hK|exact hK.elim
        have h0:=h.noBox hSS hS2 hlive2;refine(hcalls w S2 (args.map (Act.eval ⟨tmps,c.ds⟩)++cs) hlive2 ⟨h0.glob,h.exact⟩ hargs).mono ?_
        rintro e w' ⟨v,S',rfl,hr,hbel,hS,hS',hlive⟩
        have hs:=h0.grow hbel hS hS' hlive;simp only[Act.put];cases hd:o.dst with
        |none=>rw[hd]at hK;exact⟨rfl,_,_,_,hs,hK⟩
        |some d=>rw[hd]at hK;exact⟨rfl,_,_,_,hs.put (hdst d hd) (RepC.toAV hr) none (fun b hb=>by cases hb),hK⟩
      ·exact hK.elim
     ·have hg2:=hb.2.1;simp only[Bool.and_eq_true]at hg2;have e1:=h.ev (ds:=c.ds) hf hg2.1;rw[hfv]at e1;obtain⟨cs,hv,hcaps⟩:=e1;exact zXi hC h hop hxs hdst hv (RepL.toAs hcaps) (fun _=>hg2.2) hb hK Q
     ·simp only[Bool.and_eq_true]at hgg;obtain⟨hgf,hgs⟩:=hgg;have hEv:=hC _ _ _ hCr;obtain⟨fn,hfn,hname,hbody⟩:=hEv.enters;obtain⟨S2,hSS,hS2,hlive2,_,hthr⟩:=h.closeIn B;have hkeep:Keeps w S w S2:=fun b o hs=>⟨hSS b o hs,rfl⟩;have e1:=h.ev (ds:=c.ds) hf hgf;rw[hfv]at e1;obtain⟨cs,hv,hcaps⟩:=e1;have e2:=zjV hthr 3 (RepAs.keep hkeep ρ.le_refl _ _ (h.evs (ds:=c.ds) hxs hgs)) hcvs;have hrun:(execOp (Act.eval ⟨tmps,c.ds⟩) o).run c.P w=.ok (.enter fid (args.map (Act.eval ⟨tmps,c.ds⟩)++cs)) w:=by
       unfold execOp;simp only[hop];have hname':¬fn.name= "runtime.NumGoroutine":=by simpa using hname
       have hbody':¬fn.body=none:=by intro e;simp[e]at hbody
       simp[resolve,invoke,callFunc,Deferred.ofValue,hv,hfn,hname',hbody']
      unfold Oper.wp;rw[hrun,Oper.upon_enter];have hargs:RepCL w S2 (cvs++caps.map .one) (args.map (Act.eval ⟨tmps,c.ds⟩)++cs).toList:=by simp only[Array.toList_append,Array.toList_map];exact RepCL.append e2 (RepL.toCL (RepL.keep hkeep _ _ hcaps))
      have hcalls:=(hEv.data hro).2;have hK:K (match o.dst with|some d=>(st.someBox B).put none d r.toAV0|none=>st.someBox B):=by cases r<;>simp only[CV.isOwn,Bool.true_eq_false]at hro<;>first|exact hK|exact hK.elim
      have h0:=h.someBox hdrop hSS hS2 hlive2;refine(hcalls w S2 (args.map (Act.eval ⟨tmps,c.ds⟩)++cs) hlive2 ⟨h0.glob,h.exact⟩ hargs).mono ?_
      rintro e w' ⟨v,S',rfl,hr,hbel,hS,hS',hlive⟩
      have hs:=h0.grow hbel hS hS' hlive;simp only[Act.put];cases hd:o.dst with
      |none=>rw[hd]at hK;exact⟨rfl,_,_,_,hs,hK⟩
      |some d=>rw[hd]at hK;exact⟨rfl,_,_,_,hs.put (hdst d hd) (RepC.toAV hr) none (fun b hb=>by cases hb),hK⟩
   ·rename_i fid caps hfv;rcases hK with⟨s,⟨ps,hps,hsl⟩,x,hb,hK⟩|hK
    ·obtain⟨ρ1,h1⟩:=zZr h hps;have hev:∀y,ev0 s y=ev0 st y:=fun y=>by cases y<;>simp only[ev0,hsl]
     have hev1:∀y,ev s y=ev st y:=fun y=>by simp only[ev,hev]
     have hgd:∀y,gd s y=gd st y:=fun y=>by simp only[gd,hev]
     have hevs:∀l,evs s l=evs st l:=fun l=>by
      induction l with
      |nil=>rfl
      |cons y l ih=>simp only[evs,hev1,ih]
     have hgds:∀l,gds s l=gds st l:=fun l=>by
      induction l with
      |nil=>rfl
      |cons y l ih=>simp only[gds,hgd,ih]
     have hg2:=hb.2.1;simp only[Bool.and_eq_true]at hg2;have e1:=h1.ev (ds:=c.ds) hf (by rw[hgd];exact hg2.1);rw[hev1,hfv]at e1;obtain⟨cs,hv,hcaps⟩:=e1;rw[←hevs]at hb;exact zXi hC h1 hop hxs hdst hv hcaps (fun _=>by rw[hgds];exact hg2.2) hb hK Q
    ·exact hK.elim
   ·exact hK.elim
  case builtin b=>
   by_cases hbc:b=.clear
   ·subst hbc;simp only at htr;unfold trClear at htr;split at htr
    ·rename_i x t tys hdn h1 h2;have hargs:args=#[x]:=Array.toList_inj.1 (by simpa using h1);have htys:argTypes=(t::tys).toArray:=Array.toList_inj.1 (by simpa using h2);subst hargs htys;obtain⟨ty,hty,htr⟩:=zzc htr;split at htr
     ·obtain⟨x',hx,htr⟩:=zzc htr;cases htr;simp only[aopG]at hK;split at hK
      ·rename_i s ex;split at hK
       ·rename_i k e kvs hm;obtain⟨⟨rfl,g1⟩,hK⟩:=hK;obtain⟨w',hrun,hs⟩:=yQF h (hT _ _ hty) (tys:=tys) (ds:=c.ds) hop hdn hx ex hm g1;unfold Oper.wp;rw[hrun];simp only[Oper.upon_value,Act.put,hdn];exact⟨rfl,_,_,_,hs,hK⟩
       ·exact hK.elim
      ·exact hK.elim
     ·obtain⟨x',hx,htr⟩:=zzc htr;cases htr;simp only[aopG]at hK;split at hK
      ·rename_i s e off n cap ex;split at hK
       ·rename_i cs hm;obtain⟨⟨rfl,g1,rfl,g3,g4,g5⟩,hK⟩:=hK;obtain⟨w',hrun,hs⟩:=xze h (hT _ _ hty) (tys:=tys) (ds:=c.ds) hop hdn hx g1 ex hm g3 g4 g5;unfold Oper.wp;rw[hrun];simp only[Oper.upon_value,Act.put,hdn];exact⟨rfl,_,_,_,hs,hK⟩
       ·exact hK.elim
      ·exact hK.elim
     ·cases htr
    ·cases htr
   by_cases hbo:b=.copy
   ·subst hbo;simp only at htr;unfold trCopy at htr;split at htr
    ·rename_i x y t t' h1 h2;have hargs:args=#[x,y]:=Array.toList_inj.1 (by simpa using h1);have htys:argTypes=#[t,t']:=Array.toList_inj.1 (by simpa using h2);subst hargs htys;obtain⟨ty,hty,htr⟩:=zzc htr;split at htr
     ·rename_i esz eb zs;split at htr
      ·rename_i h1;subst h1;obtain⟨x',hx,htr⟩:=zzc htr;obtain⟨y',hy,htr⟩:=zzc htr;cases htr;simp only[aopG]at hK;split at hK
       ·rename_i s e off n cap es ex ey;split at hK
        ·rename_i cs hm;obtain⟨⟨rfl,g1,g2,rfl,_,g5,g6⟩,hK⟩:=hK;obtain⟨w',hrun,hs⟩:=xzf h (hT _ _ hty) (ds:=c.ds) hop hx hy g1 g2 ex ey hm g5 g6;unfold Oper.wp;rw[hrun];simp only[Oper.upon_value,Act.put];cases hd:o.dst with
         |none=>rw[hd]at hK;exact⟨rfl,_,_,_,hs,hK⟩
         |some d=>rw[hd]at hK;exact⟨rfl,_,_,_,hs.put (hdst d hd) (a:=.d (.int .i64 (Nat.min es.length n:Nat))) rfl none (fun b hb=>by cases hb),hK⟩
        ·exact hK.elim
       ·exact hK.elim
      ·cases htr
     ·cases htr
    ·cases htr
   replace htr:(o.dst>>=fun d=>trBuiltin T d b args.toList argTypes.toList)=some i:=by cases b<;>first|exact htr|exact absurd rfl hbc|exact absurd rfl hbo
   obtain⟨d,hd,htr'⟩:=zzc htr;clear htr;have htr:=htr';clear htr';unfold trBuiltin at htr;split at htr
   ·rename_i x t tys h1 h2;have hargs:args=#[x]:=Array.toList_inj.1 (by simpa using h1);have htys:argTypes=(t::tys).toArray:=Array.toList_inj.1 (by simpa using h2);subst hargs htys;obtain⟨ty,hty,htr⟩:=zzc htr;split at htr
    ·obtain⟨x',hx,htr⟩:=zzc htr;cases htr;simp only[aopG]at hK;split at hK
     ·rename_i n hn;have hgx:=zzt hg hK.1;obtain⟨hrun,hle⟩:=ykI h (hT _ _ hty) (tys:=tys) hop hx hgx hn;refine zzl (v:=.d (.int .i64 n)) hrun h rfl hd (hdst d hd) hg (hK.2 ?_) Q;rcases hg with rfl|rfl
      ·exact hle
      ·exact fun _=>hle
     ·exact hK.elim
    ·obtain⟨x',hx,htr⟩:=zzc htr;cases htr;simp only[aopG]at hK;split at hK
     ·rename_i n hn;have hgx:=zzt hg hK.1;obtain⟨hrun,hle⟩:=yZQ h (hT _ _ hty) (tys:=tys) hop hx hgx hn;refine zzl (v:=.d (.int .i64 n)) hrun h rfl hd (hdst d hd) hg (hK.2 ?_) Q;rcases hg with rfl|rfl
      ·exact hle
      ·exact fun _=>hle
     ·exact hK.elim
    ·cases htr
   ·rename_i x y h1;have hargs:args=#[x,y]:=Array.toList_inj.1 (by simpa using h1);subst hargs;obtain⟨x',hx,htr⟩:=zzc htr;obtain⟨y',hy,htr⟩:=zzc htr;cases htr;simp only[aopG,opv]at hK;split at hK
    ·rename_i v ob gs hr;split at hr
     ·rename_i k p k' q hp hq;cases hr;obtain⟨hgs,_⟩:=zzt hg hK.1;simp only[Bool.and_eq_true]at hgs;obtain⟨cv,hrun,hrep⟩:=xzl h hop hx hy hgs.1 hgs.2 hp hq;exact zzl hrun h hrep hd (hdst d hd) hg hK.2 Q
     ·cases hr
    ·exact hK.elim
   ·rename_i x y h1;have hargs:args=#[x,y]:=Array.toList_inj.1 (by simpa using h1);subst hargs;obtain⟨x',hx,htr⟩:=zzc htr;obtain⟨y',hy,htr⟩:=zzc htr;cases htr;simp only[aopG,opv]at hK;split at hK
    ·rename_i v ob gs hr;split at hr
     ·rename_i k p k' q hp hq;cases hr;obtain⟨hgs,_⟩:=zzt hg hK.1;simp only[Bool.and_eq_true]at hgs;obtain⟨cv,hrun,hrep⟩:=xzm h hop hx hy hgs.1 hgs.2 hp hq;exact zzl hrun h hrep hd (hdst d hd) hg hK.2 Q
     ·cases hr
    ·exact hK.elim
   ·rename_i x y t t' h1 h2;have hargs:args=#[x,y]:=Array.toList_inj.1 (by simpa using h1);have htys:argTypes=#[t,t']:=Array.toList_inj.1 (by simpa using h2);subst hargs htys;obtain⟨ty,hty,htr⟩:=zzc htr;split at htr
    ·rename_i esz eb zs;split at htr
     ·rename_i htt;obtain⟨x',hx,htr⟩:=zzc htr;obtain⟨y',hy,htr⟩:=zzc htr;cases htr;subst htt;simp only[aopG]at hK;split at hK
      ·rename_i mm sz hzy;have fin0:∀(es:List (List D)) (stk:St) (h':Sim c stk tmps w S ρ) (hslots:stk.slots=st.slots) (base:Option Addr) (n cap:Nat),
         1≤mm→getT stk.tk d=none→gd st y'=true→sz=esz→Act.eval ⟨tmps,c.ds⟩ x=.slice base n cap→Rep w S (.lst es) (.slice base n cap)→(∀e∈es,e.length=esz)→(es.length+mm)*eb≤2^46→es.length+mm≤9223372036854775807→
         (n=cap∨∃b,base=some ⟨b,0,none⟩∧c.Own b∧(∃cur e,w.heap[b]? =some (.cells cur e (0,0))∧cur.size=cap*esz)∧
          (∀o,n*esz≤o→¬S b o)∧(∀s,ρ.box s≠some b)∧∀t' b' y,getT stk.tk t'=some true→ρ.tok t'=some (some ⟨b',0,none⟩,y)→y.1≠y.2.1→b'≠b)→
         K {(stk.put none d (.pnd mm d esz es))with tk:=(d,true)::stk.tk}→o.wp c.P ⟨tmps,c.ds⟩ w (Goes c K) Q:=by
        intro es stk h' hslots base n cap hmm hdn hgy hsz hxv hrep hes hby h63 hsp hKK;have e2:=h.ev (ds:=c.ds) hy hgy;rw[hzy]at e2;obtain⟨ys,⟨hyl,hye⟩,b2,c2,hyv,hrest⟩:=e2;have hrepy:Rep w S (.lst ys) (.slice b2 ys.length c2):=⟨b2,c2,rfl,hrest⟩;obtain⟨v',w',S',ρ',hrun,hs,hr⟩:=yYB (ty:=o.type) h' (hT _ _ hty) hdn hyl hmm hrep hrepy hes (fun e he=>(hye e he).trans hsz) (by rw[hyl];exact hby) (by rw[hyl];exact h63) hsp;have hrun':(execOp (Act.eval ⟨tmps,c.ds⟩) o).run c.P w=.ok (.value v') w':=by unfold execOp;simp[hop,resolve,invoke,builtin,hxv,hyv,hrun]
        exact zzl hrun' hs hr hd (hdst d hd) (.inl rfl) hKK Q
       split at hK
       ·rename_i es hes;obtain⟨⟨rfl,g0,g1,g2,g3,g4,g5,g6,g7⟩,hK⟩:=hK;have e1:=h.ev (ds:=c.ds) hx g2;rw[hes]at e1;obtain⟨hrep,base,n,hv⟩:=e1;rw[hv]at hrep;exact fin0 es st h rfl base n n g0 g1 g3 g4 hv hrep g5 g6 g7 (.inl rfl) hK
       ·rename_i u sz' es hes;obtain⟨⟨rfl,g0,g1,g1',rfl,g2,g3,g4,g6,g7⟩,hK⟩:=hK;have e1:=h.ev (ds:=c.ds) hx g2;rw[hes]at e1;obtain⟨hrep,hlen,base,n,cap,hρ,hv⟩:=e1;rw[hv]at hrep;refine fin0 es {st with tk:=tkKill u st.tk} (h.kill u) rfl base n cap g0 (zvm.2 g1) g3 g4 hv hrep hlen g6 g7 ?_ hK;obtain⟨x,m1,m2⟩:=h.tok u g1';obtain rfl:=Option.some.inj (hρ.symm.trans m1);rcases m2 with m2|⟨b,k0,k1,k2,k3,k4,k5,k6,k7⟩
        ·exact .inl m2
        ·exact .inr ⟨b,k0,k1,k2,k5,k6,fun t' b' y a1 a2 a3=>k7 t' b' y (zxe a1).2 (zxe a1).1 a2 a3⟩
       ·rename_i s ee off n cap hes;split at hK
        ·rename_i cs hcs;obtain⟨⟨rfl,rfl,g2,g3,rfl,rfl,rfl,g4,g6,g7⟩,hK1,hK2⟩:=hK;have e1:=h.ev (ds:=c.ds) hx g2;rw[hes]at e1;obtain⟨k1,k2,b,hb,hv⟩:=e1;have e2:=h.ev (ds:=c.ds) hy g3;rw[hzy]at e2;obtain⟨ys,⟨hyl,hye⟩,b2,c2,hyv,hrest⟩:=e2;obtain⟨e0,rfl⟩:∃e0,ys=[e0]:=by
          match ys,hyl with
          |[e0],_=>exact⟨e0,rfl⟩
         have he0:=hye e0 (by simp);have hrepy:Rep w S (.lst [e0]) (.slice b2 [e0].length c2):=⟨b2,c2,rfl,hrest⟩;simp only[List.length_singleton,List.length_cons,List.length_nil,Nat.zero_add]at hyv hrepy;obtain⟨q1,q2⟩:=yQy (ty:=o.type) h (hT _ _ hty) he0 hb hcs hrepy g4 k1 k2 g6 g7;by_cases hroom:n+1≤cap
         ·obtain⟨w',ρ',hrun,hs,rfl⟩:=q1 hroom;have hrun':(execOp (Act.eval ⟨tmps,c.ds⟩) o).run c.P w=.ok (.value (.slice (some ⟨b,0,none⟩) (n+1) cap)) w':=by unfold execOp;simp[hop,resolve,invoke,builtin,hv,hyv,hrun]
          exact zzl (v:=.vec s ee 0 (n+1) cap) hrun' hs ⟨hroom,k2,b,hb,rfl⟩ hd (hdst d hd) (.inl rfl) (hK1 hroom) Q
         ·obtain⟨s',hs'd,hs'm,hK3⟩:=hK2 (by omega);obtain⟨w',ρ',cap',c1,c3,b',hrun,hle,hbx,hs⟩:=q2 (by omega) s' hs'm (Nat.lt_of_le_of_lt hs'd (hdst d hd).1);have hrun':(execOp (Act.eval ⟨tmps,c.ds⟩) o).run c.P w=.ok (.value (.slice (some ⟨b',0,none⟩) (n+1) cap')) w':=by unfold execOp;simp[hop,resolve,invoke,builtin,hv,hyv,hrun]
          exact zzl (v:=.vec s' ee 0 (n+1) cap') hrun' hs ⟨c1,c3,b',hbx,rfl⟩ hd (hdst d hd) (.inl rfl) (hK3 cap' c1 c3) Q
        ·exact hK.elim
       ·exact hK.elim
      rw[yxq (by rcases hg with rfl|rfl<;>simp)]at hK;split at hK
      ·exact hK.elim
      ·rename_i ys hys;have fin:∀(es:List (List D)) (stk:St) (h':Sim c stk tmps w S ρ) (hslots:stk.slots=st.slots) (base:Option Addr) (n cap:Nat),
         getT stk.tk d=none→gd st y'=true→Act.eval ⟨tmps,c.ds⟩ x=.slice base n cap→Rep w S (.lst es) (.slice base n cap)→(∀e∈es,e.length=esz)→(∀e∈ys,e.length=esz)→(es.length+ys.length)*eb≤2^46→es.length+ys.length≤9223372036854775807→
         (n=cap∨∃b,base=some ⟨b,0,none⟩∧c.Own b∧(∃cur e,w.heap[b]? =some (.cells cur e (0,0))∧cur.size=cap*esz)∧
          (∀o,n*esz≤o→¬S b o)∧(∀s,ρ.box s≠some b)∧∀t' b' y,getT stk.tk t'=some true→ρ.tok t'=some (some ⟨b',0,none⟩,y)→y.1≠y.2.1→b'≠b)→
         K {(stk.put none d (.own d esz (es++ys)))with tk:=(d,true)::stk.tk}→o.wp c.P ⟨tmps,c.ds⟩ w (Goes c K) Q:=by
        intro es stk h' hslots base n cap hdn hgy hxv hrep hes hys' hby h63 hsp hKK;obtain⟨b2,m2,c2,hyv,e2⟩:=yyc h (h.ev (ds:=c.ds) hy hgy) hys;obtain⟨v',w',S',ρ',hrun,hs,hr⟩:=yKv (ty:=o.type) h' (hT _ _ hty) hdn hrep e2 hes hys' hby h63 hsp;have hrun':(execOp (Act.eval ⟨tmps,c.ds⟩) o).run c.P w=.ok (.value v') w':=by unfold execOp;simp[hop,resolve,invoke,builtin,hxv,hyv,hrun]
        exact zzl hrun' hs hr hd (hdst d hd) (.inl rfl) hKK Q
       split at hK
       ·rename_i es hes;obtain⟨⟨hg0,g1,g2,g3,g4,g5,g6,g7⟩,hK⟩:=hK;have e1:=h.ev (ds:=c.ds) hx g2;rw[hes]at e1;obtain⟨hrep,base,n,hv⟩:=e1;rw[hv]at hrep;exact fin es st h rfl base n n g1 g3 hv hrep g4 g5 g6 g7 (.inl rfl) hK
       ·rename_i u sz es hes;obtain⟨⟨hg0,g1,g1',rfl,g2,g3,g5,g6,g7⟩,hK⟩:=hK;have e1:=h.ev (ds:=c.ds) hx g2;rw[hes]at e1;obtain⟨hrep,hlen,base,n,cap,hρ,hv⟩:=e1;rw[hv]at hrep;refine fin es {st with tk:=tkKill u st.tk} (h.kill u) rfl base n cap (zvm.2 g1) g3 hv hrep hlen g5 g6 g7 ?_ hK;obtain⟨x,m1,m2⟩:=h.tok u g1';obtain rfl:=Option.some.inj (hρ.symm.trans m1);rcases m2 with m2|⟨b,k0,k1,k2,k3,k4,k5,k6,k7⟩
        ·exact .inl m2
        ·exact .inr ⟨b,k0,k1,k2,k5,k6,fun t' b' y a1 a2 a3=>k7 t' b' y (zxe a1).2 (zxe a1).1 a2 a3⟩
       ·rename_i s ee off n cap hes;split at hK
        ·rename_i cs hcs;obtain⟨⟨hg0,g2,g3,rfl,rfl,rfl,rfl,g4,g5,g6,g7⟩,s',⟨hs'd,hs'm⟩,hK3⟩:=hK;have e1:=h.ev (ds:=c.ds) hx g2;rw[hes]at e1;obtain⟨k1,k2,b,hb,hv⟩:=e1;obtain⟨b2,m2,c2,hyv,e2⟩:=yyc h (h.ev (ds:=c.ds) hy g3) hys;obtain⟨w',ρ',cap',c1,c3,b',hrun,hle,hbx,hs⟩:=yQz (ty:=o.type) h (hT _ _ hty) g5 hb hcs e2 g4 g6 g7 hs'm (Nat.lt_of_le_of_lt hs'd (hdst d hd).1);have hrun':(execOp (Act.eval ⟨tmps,c.ds⟩) o).run c.P w=.ok (.value (.slice (some ⟨b',0,none⟩) ys.length cap')) w':=by unfold execOp;simp[hop,resolve,invoke,builtin,hv,hyv,hrun]
         exact zzl (v:=.vec s' ee 0 ys.length cap') hrun' hs ⟨c1,c3,b',hbx,rfl⟩ hd (hdst d hd) (.inl rfl) (hK3 cap' c1 c3) Q
        ·exact hK.elim
       ·exact hK.elim
     ·cases htr
    ·cases htr
   ·cases htr
end Go.Abs
end
section
namespace Go.Abs
open Go.RowKit
variable{c:Ctx}{st:St}{tmps:Array Value}{w:World}{S:Safe}{ρ:Rho}{E:AEnv}{T:Nat→Option Ty}
def DstIs(dst:Option Nat):I→Prop
 |.call d _ _=>dst=d
 |.callB d _ _=>dst=d
 |.st _ _ _=>dst=none
 |.mput _ _ _ _ _ _=>dst=none
 |.mclr _=>dst=none
 |.clr _ _ _=>dst=none
 |.cpy d _ _ _=>dst=d
 |i=>dst=some (dstOf i)
theorem zJU{dst op i}(htr:trOp T dst op=some i):DstIs dst i:=by
 cases op<;>simp only[trOp,Option.bind_eq_bind,Option.pure_def,reduceCtorEq]at htr;case call cl=>
  obtain⟨callee,args,argTypes⟩:=cl;cases callee<;>simp only[trCall,Option.bind_eq_bind,Option.pure_def,reduceCtorEq]at htr;case value f=>
   split at htr
   ·obtain⟨f',hf,htr⟩:=zzc htr;obtain⟨xs,hxs,htr⟩:=zzc htr;cases htr;rfl
   obtain⟨f',hf,htr⟩:=zzc htr;obtain⟨xs,hxs,htr⟩:=zzc htr;cases htr;rfl
  case builtin b=>
   by_cases hbc:b=.clear
   ·subst hbc;simp only at htr;unfold trClear at htr;split at htr
    ·obtain⟨ty,hty,htr⟩:=zzc htr;split at htr
     ·obtain⟨x',hx,htr⟩:=zzc htr;cases htr;rfl
     ·obtain⟨x',hx,htr⟩:=zzc htr;cases htr;rfl
     ·cases htr
    ·cases htr
   by_cases hbo:b=.copy
   ·subst hbo;simp only at htr;unfold trCopy at htr
    repeat' (first|(cases htr;rfl)|(cases htr;done)|(obtain⟨_,_,htr⟩:=zzc htr)|split at htr)
   replace htr:(dst>>=fun d=>trBuiltin T d b args.toList argTypes.toList)=some i:=by cases b<;>first|exact htr|exact absurd rfl hbc|exact absurd rfl hbo
   obtain⟨d,hd,htr⟩:=zzc htr;unfold trBuiltin at htr
   repeat' (first|(cases htr;exact hd)|(obtain⟨_,_,htr⟩:=zzc htr)|split at htr)
   all_goals cases htr
 case binOp op t x y t'=>
  unfold trBin at htr;split at htr
  ·obtain⟨ty,hty,htr⟩:=zzc htr;split at htr
   ·obtain⟨d,hd,htr⟩:=zzc htr;obtain⟨x',hx,htr⟩:=zzc htr;cases htr;exact hd
   ·cases htr
  ·split at htr
   ·obtain⟨d,hd,htr⟩:=zzc htr;obtain⟨x',hx,htr⟩:=zzc htr;obtain⟨y',hy,htr⟩:=zzc htr;cases htr;exact hd
   ·split at htr
    ·obtain⟨d,hd,htr⟩:=zzc htr;obtain⟨x',hx,htr⟩:=zzc htr;obtain⟨y',hy,htr⟩:=zzc htr;cases htr;exact hd
    ·split at htr
     ·obtain⟨d,hd,htr⟩:=zzc htr;obtain⟨x',hx,htr⟩:=zzc htr;cases htr;exact hd
     ·obtain⟨d,hd,htr⟩:=zzc htr;obtain⟨x',hx,htr⟩:=zzc htr;obtain⟨y',hy,htr⟩:=zzc htr;cases htr;exact hd
 case indexAddr t x y=>
  obtain⟨_,_,htr⟩:=zzc htr;split at htr
  ·obtain⟨_,hd,htr⟩:=zzc htr;obtain⟨_,_,htr⟩:=zzc htr;obtain⟨_,_,htr⟩:=zzc htr;cases htr;exact hd
  ·split at htr
   ·obtain⟨_,hd,htr⟩:=zzc htr;obtain⟨_,_,htr⟩:=zzc htr;obtain⟨_,_,_,_,rfl⟩:=zVD htr;exact hd
   ·obtain⟨_,hd,htr⟩:=zzc htr;obtain⟨_,_,htr⟩:=zzc htr;obtain⟨_,_,htr⟩:=zzc htr;cases htr;exact hd
  ·cases htr
 case unOp u t x=>
  unfold trUn at htr;cases u;case neg=>
   obtain⟨ty,hty,htr⟩:=zzc htr;split at htr
   ·obtain⟨d,hd,htr⟩:=zzc htr;obtain⟨x',hx,htr⟩:=zzc htr;cases htr;exact hd
   ·cases htr
  case not=>obtain⟨d,hd,htr⟩:=zzc htr;obtain⟨x',hx,htr⟩:=zzc htr;cases htr;exact hd
  all_goals cases htr
 case pick x y z=>
  obtain⟨d,hd,htr⟩:=zzc htr;unfold trPick at htr
  repeat' (first|(cases htr;exact hd)|(obtain⟨_,_,htr⟩:=zzc htr)|split at htr)
  all_goals cases htr
 case makeMap t rs=>
  cases rs with
  |some _=>cases htr
  |none=>
  obtain⟨_,_,htr⟩:=zzc htr;split at htr
  ·obtain⟨_,_,htr⟩:=zzc htr;cases htr;assumption
  ·cases htr
 case mapUpdate=>
  split at htr
  ·obtain⟨_,_,htr⟩:=zzc htr;split at htr
   ·obtain⟨_,_,htr⟩:=zzc htr;obtain⟨_,_,htr⟩:=zzc htr;obtain⟨_,_,htr⟩:=zzc htr;cases htr;rfl
   ·cases htr
  ·cases htr
 case store=>
  split at htr
  ·rename_i hd;obtain⟨_,_,htr⟩:=zzc htr;obtain⟨_,_,htr⟩:=zzc htr;obtain⟨_,_,htr⟩:=zzc htr;cases htr;rfl
  ·cases htr
 case slice t x lo hi mx=>
  cases mx with
  |some m=>
   cases hi with
   |none=>cases htr
   |some hi=>
   obtain⟨_,_,htr⟩:=zzc htr;split at htr
   ·cases lo;all_goals
     repeat' (first|(cases htr;assumption)|(obtain⟨_,_,htr⟩:=zzc htr))
   ·cases htr
  |none=>
  obtain⟨_,_,htr⟩:=zzc htr;cases lo<;>cases hi;all_goals
   repeat' (first|(cases htr;rfl)|(cases htr;assumption)|(obtain⟨_,_,htr⟩:=zzc htr)|split at htr)
  all_goals cases htr
 all_goals
  repeat' (first|(cases htr;rfl)|(cases htr;assumption)|(obtain⟨_,_,htr⟩:=zzc htr)|split at htr)
 all_goals cases htr
theorem yk7{v dst d K as r}(hd:dst=d)(hK:callK v (some false) d K st as r):(∃d v,dst=some d∧K (st.put (some false) d v))∨(dst=none∧K st):=by
 cases d with
 |none=>
  cases r with
  |own a sz es=>exact hK.elim
  |one x=>exact .inr ⟨hd,hK⟩
  |agg x=>exact .inr ⟨hd,hK⟩
  |tup x=>exact .inr ⟨hd,hK⟩
  |bx=>exact hK.elim
  |vr=>exact hK.elim
  |vc=>exact hK.elim
 |some d=>
  cases r with
  |own a sz es=>exact absurd hK.1.1 (by simp)
  |one x=>exact .inl ⟨d,_,hd,hK⟩
  |agg x=>exact .inl ⟨d,_,hd,hK⟩
  |tup x=>exact .inl ⟨d,_,hd,hK⟩
  |bx=>exact hK.elim
  |vr=>exact hK.elim
  |vc=>exact absurd hK.1.2.1 (by simp)
theorem yYc{o:Oper}{i}(htr:trOp T o.dst o.op=some i){K}(hK:aopG E (some false) i st K):(∃d v,o.dst=some d∧K (st.put (some false) d v))∨(o.dst=none∧K st):=by
 have hd:=zJU htr;cases i<;>simp only[aopG,DstIs,dstOf]at hK hd;case alloc=>exact absurd hK.1.1 (by simp)
 case box=>exact absurd hK.1.1 (by simp)
 case st=>
  split at hK
  ·split at hK
   ·exact absurd hK.1.1 (by simp)
   ·exact hK.elim
  ·split at hK
   ·exact absurd hK.1.1 (by simp)
   ·exact hK.elim
  ·exact hK.elim
 case app=>
  split at hK
  ·split at hK
   ·exact absurd hK.1.1 (by simp)
   ·exact absurd hK.1.1 (by simp)
   ·split at hK
    ·exact absurd hK.1.1 (by simp)
    ·exact hK.elim
   ·exact hK.elim
  ·exact .inl ⟨_,_,hd,hK⟩
 case len d str x=>
  split at hK
  ·exact .inl ⟨_,_,hd,hK.2 (fun h=>by cases h)⟩
  ·exact hK.elim
 case call d f args=>
  split at hK
  ·split at hK
   ·obtain⟨r,_,hK⟩:=hK;exact yk7 hd hK
   ·rcases hK with(hK|⟨x,⟨hg,_⟩,_⟩|⟨_,_,_,⟨hg,_⟩,_⟩)|hK
    ·split at hK
     ·rcases hK with⟨r,_,hK⟩|⟨r,⟨hg,_⟩,_⟩
      ·exact yk7 hd hK
      ·cases hg
     ·exact hK.elim
    ·cases hg
    ·cases hg
    ·exact hK.elim
  ·rcases hK with⟨_,_,x,⟨hg,_⟩,_⟩|hK
   ·cases hg
   ·exact hK.elim
  ·exact hK.elim
 case callB d f args=>
  split at hK
  ·obtain⟨x,⟨hg,_⟩,_⟩:=hK;cases hg
  ·obtain⟨x,⟨hg,_⟩,_⟩:=hK;cases hg
  ·exact hK.elim
 case mkv=>
  split at hK
  ·exact absurd hK.1.1 (by simp)
  ·exact hK.elim
 case bslv=>
  split at hK
  ·exact absurd hK.1.1 (by simp)
  ·exact hK.elim
 case cpy=>
  split at hK
  ·split at hK
   ·exact absurd hK.1.1 (by simp)
   ·exact hK.elim
  ·exact hK.elim
 case clr=>
  split at hK
  ·split at hK
   ·exact absurd hK.1.1 (by simp)
   ·exact hK.elim
  ·exact hK.elim
 case isnil d x=>
  split at hK
  ·exact .inl ⟨_,_,hd,hK.2 false (fun h=>by cases h)⟩
  ·exact .inl ⟨_,_,hd,hK.2.2⟩
 case mkm=>exact absurd hK.1.1 (by simp)
 case mput=>
  split at hK
  ·split at hK
   ·exact absurd hK.1.1 (by simp)
   ·exact hK.elim
  ·exact hK.elim
 case mclr=>
  split at hK
  ·split at hK
   ·exact absurd hK.1.1 (by simp)
   ·exact hK.elim
  ·exact hK.elim
 case mv=>exact .inl ⟨_,_,hd,hK.2⟩
 case mkf=>exact .inl ⟨_,_,hd,hK.2⟩
 all_goals
  split at hK
  ·exact .inl ⟨_,_,hd,hK.2⟩
  ·exact hK.elim
theorem yjH{o:Oper}{i}(htr:trOp T o.dst o.op=some i){K:St→Prop}(hK:K (skipK i st)):(∃d v,o.dst=some d∧K (st.put (some false) d v))∨(o.dst=none∧K st):=by
 have hd:=zJU htr;cases i<;>simp only[skipK,wrOf,DstIs,dstOf]at hK hd;case st=>exact .inr ⟨hd,hK⟩
 case mput=>exact .inr ⟨hd,hK⟩
 case mclr=>exact .inr ⟨hd,hK⟩
 case clr=>exact .inr ⟨hd,hK⟩
 case cpy d _ _ _=>
  cases d with
  |none=>exact .inr ⟨hd,hK⟩
  |some d=>exact .inl ⟨d,_,hd,hK⟩
 case call d f args=>
  cases d with
  |none=>exact .inr ⟨hd,hK⟩
  |some d=>exact .inl ⟨d,_,hd,hK⟩
 case callB d f args=>
  cases d with
  |none=>exact .inr ⟨hd,hK⟩
  |some d=>exact .inl ⟨d,_,hd,hK⟩
 all_goals exact .inl ⟨_,_,hd,hK⟩
theorem yv1(h:Sim c st tmps w S ρ){ops o gi}(htg:trGuard ops.toList o.guard=some gi){g}(hg:guardOf st gi=some g):
  (Region.wanted o (yielded ops tmps)=true∧(g=none∨g=some true))∨(Region.wanted o (yielded ops tmps)=false∧g=some false):=by
 unfold Region.wanted;cases hgu:o.guard with
 |none=>rw[hgu]at htg;simp only[trGuard,Option.some.injEq]at htg;subst htg;simp only[guardOf,Option.some.injEq]at hg;exact .inl ⟨rfl,.inl hg.symm⟩
 |some jw=>
  obtain⟨j,want⟩:=jw;rw[hgu]at htg;simp only[trGuard,Option.bind_eq_bind,Option.pure_def,Option.bind_eq_some_iff,Option.some.injEq]at htg;obtain⟨oj,hoj,s,hs,rfl⟩:=htg;have hy:yielded ops tmps j=match tmps[s]? with|some (.bool b)=>some b|_=>none:=by
   unfold yielded;have:ops[j]? =some oj:=by simpa using hoj
   simp[this,hs];rfl
  have hsl:=h.slots s;simp only[guardOf]at hg;simp only
  rw[hy];split at hg
  ·rename_i b hb;cases hg;rw[hb]at hsl;have ht:tmps[s]? =some (.bool b):=by
    simp only[RepA,Rep]at hsl;cases hh:tmps[s]? with
    |none=>rw[Array.getD_eq_getD_getElem?,hh]at hsl;cases hsl
    |some v=>rw[Array.getD_eq_getD_getElem?,hh]at hsl;simp at hsl;rw[hsl]
   simp only[ht];cases b<;>cases want<;>simp
  ·rename_i g0 b hb;cases hg;rw[hb]at hsl;obtain⟨h1,h2⟩:=hsl;cases g0 with
   |true=>
    have hsl:=h1 rfl;have ht:tmps[s]? =some (.bool b):=by
     simp only[RepA,Rep]at hsl;cases hh:tmps[s]? with
     |none=>rw[Array.getD_eq_getD_getElem?,hh]at hsl;cases hsl
     |some v=>rw[Array.getD_eq_getD_getElem?,hh]at hsl;simp at hsl;rw[hsl]
    simp only[ht];cases b<;>cases want<;>simp
   |false=>
    have hsl:=h2 rfl;have ht:(match tmps[s]? with|some (.bool b)=>some b|_=>none:Option Bool)=none:=by
     cases hh:tmps[s]? with
     |none=>rfl
     |some v=>rw[Array.getD_eq_getD_getElem?,hh]at hsl;simp at hsl;rw[hsl];rfl
    rw[ht];simp
  ·cases hg
structure FW(F:Fence):Prop where
 fn:∀f,F.fn f
 depth:F.depth=none
 alive:F.alive=false
theorem FW.wide:FW Fence.wide:=⟨fun _=>trivial,rfl,rfl⟩
theorem yY6{F}(hF:FW F)(P)(m:Machine):m.fenced P F:=by
 intro g _;refine⟨fun h=>?_,Or.inl (hF.fn _),fun _ _=>hF.fn _,fun _ h=>?_⟩
 ·rw[hF.alive]at h;cases h
 ·rw[hF.depth]at h;cases h
theorem zVA{F}(hF:FW F){P m m'}(h:Steps P m m'):StepsIn (Machine.fenced P F) P m m':=(StepsIn.of_steps h).mono fun m _=>yY6 hF P m
theorem yZi{F}(hF:FW F){P m m' e}(h:Comes P m m' e):ComesIn (Machine.fenced P F) P m m' e:=by
 cases e with
 |returned v=>exact zVA hF h
 |panicked chain=>exact zVA hF h
 |outgrown=>exact h
theorem zK1{F}(hF:FW F){n P f args w R}(h:Calls P f args w R):CallsIn F n P f args w R:=
 ⟨hF.fn f,fun cs _=>let ⟨e,w',fr,r,s,x⟩:=h cs;⟨e,w',fr,r,yZi hF s,x⟩⟩
theorem yWG{F}(hF:FW F){n P row args w R}(h:Rows P row args w R):RowsIn F n P row args w R:=
 fun c cs _=>let ⟨v,w',r,s⟩:=h c cs;⟨v,w',r,zVA hF s⟩
theorem yjP{F}(hF:FW F){n P}{o:Oper}(hnd:∀c,o.op≠.defer c){a w N Q}(h:o.wp P a w N Q):o.wpIn F n P a w N Q:=by
 have hd:F.depth.isSome=true→1≤n:=fun h=>by rw[hF.depth]at h;cases h
 unfold Oper.wp at h;refine⟨fun f _=>hF.fn f,?_⟩;rw[Oper.semAt_eq _ _ _ hnd];generalize (execOp a.eval o).run P w=r at*
 cases r with
 |ok x w'=>cases x<;>first|exact h|exact⟨hd,zK1 hF h⟩|exact⟨hd,yWG hF h⟩|exact h.elim
 |halt x w'=>cases x<;>first|exact h|exact h.elim
theorem zVG(hG:E.G=c.G)(hC:∀f args r,E.C f args r→Ev c.P c.G f args r)(hT:∀t ty,T t=some ty→chkTy c.P t ty=true)(h:Sim c st tmps w S ρ){ops k}{o:Oper}(ho:ops[k]? =some o){i gi}
  (htg:trGuard ops.toList o.guard=some gi) (htr:trOp T o.dst o.op=some i) (hdst:∀d,o.dst=some d→c.D d) {K} (hK:aop E gi i st K) {N} (hN:∀a w,Goes c K a w→N a w) (Q) {F} (hF:FW F) (n):
  wpOpIn F n c.P ops Q k N ⟨tmps,c.ds⟩ w:=by
 have hnd:∀c,o.op≠.defer c:=by intro c hc;rw[hc]at htr;cases htr
 unfold aop at hK;split at hK
 ·exact hK.elim
 ·rename_i g hg;unfold wpOpIn;simp only[ho];rcases yv1 h htg hg with⟨hw,hgt⟩|⟨hw,rfl⟩
  ·rw[if_pos hw];have hK:=(yjW hK).resolve_right fun hs=>by have:=hs.1;rcases hgt with rfl|rfl<;>cases this
   exact yjP hF hnd (Oper.wp_mono hN (yVI hG hC hT h htr hdst hgt hK Q))
  ·rw[if_neg (by rw[hw];simp)];refine⟨fun f _=>hF.fn f,hN _ _ ?_⟩;have hK:(∃d v,o.dst=some d∧K (st.put (some false) d v))∨(o.dst=none∧K st):=by
    rcases yjW hK with hK|hK
    ·exact yYc htr hK
    ·exact yjH htr hK.2
   rcases hK with⟨d,v,hd,hK⟩|⟨hd,hK⟩
   ·simp only[Act.put,hd];exact⟨rfl,_,_,_,h.putSkip (hdst d hd) v,hK⟩
   ·simp only[Act.put,hd];exact⟨rfl,_,_,_,h,hK⟩
theorem zyG{ops l}(h:trOps T ops=some l):l.length=ops.length∧∀(k:Nat) (o),ops[k]? =some o→∃gi i,l[k]? =some (gi,i)∧trGuard ops o.guard=some gi∧trOp T o.dst o.op=some i:=by
 have key:∀(all os:List Oper) (l:List (Option (Nat×Bool)×I)),(os.mapM fun(o:Oper)=>do pure (←trGuard all o.guard,←trOp T o.dst o.op))=some l→l.length=os.length∧∀(k:Nat) (o:Oper),os[k]? =some o→∃gi i,l[k]? =some (gi,i)∧trGuard all o.guard=some gi∧trOp T o.dst o.op=some i:=by
  intro all os;induction os with
  |nil=>intro l hl;simp at hl;subst hl;simp
  |cons o os ih=>
   intro l hl;simp only[List.mapM_cons,Option.bind_eq_bind,Option.pure_def,Option.bind_eq_some_iff,Option.some.injEq]at hl;obtain⟨p,⟨gi,hgi,i,hi,rfl⟩,l',hl',rfl⟩:=hl;obtain⟨h1,h2⟩:=ih l' hl';refine⟨by simp[h1],fun k o' hk=>?_⟩;cases k with
   |zero=>simp at hk;subst hk;exact⟨gi,i,rfl,hgi,hi⟩
   |succ k=>simpa using h2 k o' (by simpa using hk)
 exact key ops ops l h
theorem yzg(hG:E.G=c.G)(hC:∀f args r,E.C f args r→Ev c.P c.G f args r)(hT:∀t ty,T t=some ty→chkTy c.P t ty=true){ops:Array Oper}{l}(htr:trOps T ops.toList=some l)
  (hdst:∀o∈ops.toList,∀d,o.dst=some d→c.D d) {F} (hF:FW F) (m) (Q) {K} (hQ:∀a w,Goes c K a w→Q .normal a w):
  ∀(n k) {st} {tmps} {w} {S} {ρ},k+n=ops.size→Sim c st tmps w S ρ→aops E (l.drop k) K st→wpOpsIn F m c.P ops Q (List.range' k n) ⟨tmps,c.ds⟩ w:=by
 obtain⟨hlen,hget⟩:=zyG htr;simp only[Array.length_toList]at hlen;intro n;induction n with
 |zero=>intro k st tmps w S ρ hk h hK;rw[List.drop_of_length_le (by omega)]at hK;exact hQ _ _ ⟨rfl,_,_,_,h,hK⟩
 |succ n ih=>
  intro k st tmps w S ρ hk h hK;have hlt:k<ops.size:=by omega
  obtain⟨gi,i,hl,htg,hti⟩:=hget k ops[k] (by simp[hlt]);have hdrop:l.drop k=(gi,i)::l.drop (k+1):=by
   have hkl:k<l.length:=by omega
   rw[List.drop_eq_getElem_cons hkl];congr 1;have:=List.getElem?_eq_getElem hkl;rw[this]at hl;exact Option.some.inj hl
  rw[hdrop]at hK;simp only[aops]at hK;rw[List.range'_succ,wpOpsIn_cons];refine zVG hG hC hT h (Array.getElem?_eq_getElem hlt) htg hti (hdst _ (by simp)) hK ?_ Q hF m
  rintro⟨tmps',ds'⟩ w' ⟨hds,st',S',ρ',h',hK'⟩
  simp only at hds;subst hds;exact ih (k+1) (by omega) h' hK'
end Go.Abs
end
section
namespace Go.Abs
open Go.RowKit
variable{c:Ctx}{st:St}{tmps:Array Value}{w:World}{S:Safe}{ρ:Rho}{E:AEnv}{T:Nat→Option Ty}
def rhoOf(ρ:Rho)(m1:Mem)(mp:TMap):Rho:={box:=fun s=>if(getM m1 s).isSome then ρ.box s else none,mbox:=fun s=>if(getM m1 s).isSome then ρ.mbox s else none,tok:=fun t=>(getTM mp t).bind ρ.tok}
mutual
theorem RepA.plain{m1:Mem}{mp:TMap}:∀(a:AV) (v:Value),a.plain m1=true→RepA w S ρ a v→RepA w S (rhoOf ρ m1 mp) a v
 |.undef,_,_,_=>trivial
 |.d x,_,_,h=>h
 |.agg cs,_,hp,⟨vs,h1,h2⟩=>⟨vs,h1,RepAs.plain cs _ (by simpa[AV.plain]using hp) h2⟩
 |.tup cs,_,hp,⟨vs,h1,h2⟩=>⟨vs,h1,RepAs.plain cs _ (by simpa[AV.plain]using hp) h2⟩
 |.ptr s _,_,hp,⟨b,h1,h2⟩=>⟨b,by simp only[AV.plain]at hp;simp[rhoOf,hp,h1],h2⟩
 |.full _,_,_,h=>h
 |.own _ _ _,_,hp,_=>by simp[AV.plain]at hp
 |.mref s,_,hp,⟨b,h1,h2⟩=>⟨b,by simp only[AV.plain]at hp;simp[rhoOf,hp,h1],h2⟩
 |.zsl _ _,_,_,h=>h
 |.pnd _ _ _ _,_,hp,_=>by simp[AV.plain]at hp
 |.eptr _ _,_,hp,_=>by simp[AV.plain]at hp
 |.vec s _ _ _ _,_,hp,⟨k1,k2,b,h1,h2⟩=>⟨k1,k2,b,by simp only[AV.plain]at hp;simp[rhoOf,hp,h1],h2⟩
 |.clo _ caps,_,hp,⟨cs,h1,h2⟩=>⟨cs,h1,RepAs.plain caps _ (by simpa[AV.plain]using hp) h2⟩
 |.cond _ a,_,hp,⟨h1,h2⟩=>⟨fun hg=>RepA.plain a _ (by simpa[AV.plain]using hp) (h1 hg),h2⟩
theorem RepAs.plain{m1:Mem}{mp:TMap}:∀(as:List AV) (vs:List Value),AV.plains m1 as=true→RepAs w S ρ as vs→RepAs w S (rhoOf ρ m1 mp) as vs
 |[],_,_,h=>h
 |a::as,_,hp,⟨v,r,h,h1,h2⟩=>by simp only[AV.plains,Bool.and_eq_true]at hp;exact⟨v,r,h,RepA.plain a v hp.1 h1,RepAs.plain as r hp.2 h2⟩
end
theorem EntC.sound{m1 mp a a1 v}(h:RepA w S ρ a v)(he:EntC m1 mp a a1):RepA w S (rhoOf ρ m1 mp) a1 v:=by
 cases a1<;>simp only[EntC]at he;case undef=>trivial
 case d x=>
  split at he
  ·subst he;exact h.1
  ·subst he;exact h.1
  ·subst he;exact h
 case own t sz es=>
  split at he
  ·rename_i u hu;subst he;obtain⟨h1,h2,base,n,cap,h3,h4⟩:=h;exact⟨h1,h2,base,n,cap,by simp[rhoOf,hu,h3],h4⟩
  ·exact he.elim
 all_goals (obtain⟨rfl,hp⟩:=he;exact RepA.plain _ _ hp h)
theorem EntCs.sound{m1 mp}:∀{as bs} {l},RepAs w S ρ as l→EntCs m1 mp as bs→RepAs w S (rhoOf ρ m1 mp) bs l
 |[],[],_,h,_=>h
 |a::as,b::bs,_,⟨v,r,h,h1,h2⟩,he=>⟨v,r,h,EntC.sound h1 he.1,EntCs.sound h2 he.2⟩
 |[],_::_,_,_,he=>by simp[EntCs]at he
 |_::_,[],_,_,he=>by simp[EntCs]at he
theorem EntV.sound{m1 mp a a1 v}(h:RepA w S ρ a v)(he:EntV m1 mp a a1):RepA w S (rhoOf ρ m1 mp) a1 v:=by
 unfold EntV at he;split at he
 ·split at he
  ·obtain⟨vs,h1,h2⟩:=h;exact⟨vs,h1,EntCs.sound h2 he⟩
  ·exact he.elim
 ·exact EntC.sound h he
theorem EntSlots.sound{st m1 mp}(h:∀k,RepA w S ρ (getS st.slots k) (tmps.getD k undef)):∀{l},EntSlots st m1 mp l→∀k,RepA w S (rhoOf ρ m1 mp) (getS l k) (tmps.getD k undef)
 |[],_,k=>trivial
 |(k',v)::r,he,k=>by
  simp only[getS];by_cases hk:k'=k
  ·subst hk;rw[if_pos rfl];exact EntV.sound (h k') he.1
  ·rw[if_neg hk];exact EntSlots.sound h he.2 k
theorem EntMem.get{st m1 mp}:∀{l},EntMem st m1 mp l→∀s cs1,getM l s=some cs1→∃cs,getM st.mem s=some cs∧EntCs m1 mp cs cs1
 |[],_,s,cs1,h=>by simp[getM]at h
 |(k,cs')::r,he,s,cs1,h=>by
  simp only[getM]at h;by_cases hk:k=s
  ·subst hk;rw[if_pos rfl]at h;cases h;have:=he.1;split at this
   ·rename_i cs hcs;exact⟨cs,hcs,this⟩
   ·exact this.elim
  ·rw[if_neg hk]at h;exact EntMem.get he.2 s cs1 h
theorem EntCs.mp{m1 tm cs k e kvs}(h:EntCs m1 tm cs [.mp k e kvs]):cs=[.mp k e kvs]:=by
 cases cs with
 |nil=>exact h.elim
 |cons a as=>
  cases as with
  |nil=>rw[h.1.1]
  |cons _ _=>exact h.2.elim
theorem EntCs.noMp{m1 tm cs cs1}(h:EntCs m1 tm cs cs1)(h1:isMp cs1=false):isMp cs=false:=by
 cases hm:isMp cs with
 |false=>rfl
 |true=>
  obtain⟨k,e,kvs,rfl⟩:=zxX.1 hm;cases cs1 with
  |nil=>exact h.elim
  |cons b bs=>
   cases bs with
   |cons _ _=>exact h.2.elim
   |nil=>
    have h0:=h.1;cases b<;>simp[EntC,AV.isMp]at h0
    ·split at h0<;>cases h0
    ·simp[isMp,AV.isMp]at h1
theorem Ent0.sound{mp st1}(h:Sim c st tmps w S ρ)(he:Ent0 mp st st1):Sim c st1 tmps w S (rhoOf ρ st1.mem mp):=by
 obtain⟨h1,h2,h3,h4⟩:=he
 obtain⟨m1,m2⟩:=zJP h2
 refine{size:=h.size,slots:=EntSlots.sound h.slots h3,mem:=?_,inj:=?_,boxNew:=?_,mps:=?_,tok:=?_,tokNew:=?_,below:=h.below,old:=h.old,new:=h.new,live:=h.live,glob:=h.glob,fx:=h.fx,ex:=h.ex,obs:=h.obs,keeps:=h.keeps,pins:=h.pins.sub (fun s b e=>by
  simp only[rhoOf]at e
  split at e
  ·exact .inr e
  ·cases e) (fun s b e=>by
  simp only[rhoOf]at e
  split at e
  ·exact .inr e
  ·cases e)}
 ·intro s cs1 hs hnm
  obtain⟨cs,hcs,hec⟩:=EntMem.get h4 s cs1 hs
  obtain⟨b,vs,e,g1,g2,g3,g4,g6⟩:=h.mem s cs hcs (EntCs.noMp hec hnm)
  exact⟨b,vs,e,by simp[rhoOf,hs,g1],g2,g3,EntCs.sound g4 hec,g6⟩
 ·intro s s' b hs hs'
  simp only[rhoOf]at hs hs'
  split at hs
  ·split at hs'
   ·exact h.inj s s' b hs hs'
   ·cases hs'
  ·cases hs
 ·intro s hs
  simp[rhoOf,hs]
 ·refine{at':=fun s k e kvs hs=>?_,inj:=fun s s' b hs hs'=>?_,new:=fun s hs=>by simp[rhoOf,hs],lt:=fun s b hs=>?_,apart:=fun s b hs=>?_}
  ·obtain⟨cs,hcs,hec⟩:=EntMem.get h4 s _ hs
   have:=EntCs.mp hec
   subst this
   obtain⟨b,g1,g2,g3⟩:=h.mps.at' s k e kvs hcs
   exact⟨b,by simp[rhoOf,hs,g1],by simp[rhoOf,hs,g2],g3⟩
  ·simp only[rhoOf]at hs hs'
   split at hs
   ·split at hs'
    ·exact h.mps.inj s s' b hs hs'
    ·cases hs'
   ·cases hs
  ·simp only[rhoOf]at hs
   split at hs
   ·exact h.mps.lt s b hs
   ·cases hs
  ·simp only[rhoOf]at hs⊢
   split at hs
   ·rename_i hi;rw[if_pos hi];exact h.mps.apart s b hs
   ·cases hs
 ·intro t ht
  rw[h1,zwO]at ht
  cases hu:getTM mp t with
  |none=>simp[hu]at ht
  |some u=>
   obtain⟨x,g1,g2⟩:=h.tok u (m1 t u hu).1
   refine⟨x,by simp[rhoOf,hu,g1],?_⟩
   rcases g2 with g2|⟨b,k0,k1,k2,k3,k4,k5,k6,k7⟩
   ·exact .inl g2
   ·refine .inr ⟨b,k0,k1,k2,k3,k4,k5,fun s hs=>?_,fun t' b' y hne ht' htok hy=>?_⟩
    ·simp only[rhoOf]at hs
     split at hs
     ·exact k6 s hs
     ·cases hs
    ·rw[h1,zwO]at ht'
     cases hu':getTM mp t' with
     |none=>simp[hu']at ht'
     |some u'=>
      simp only[rhoOf,hu',Option.bind_some]at htok
      exact k7 u' b' y (fun e=>hne (m2 t' t u' hu' (e▸hu))) (m1 t' u' hu').1 htok hy
 ·intro t ht
  rw[h1,zwO]at ht
  cases hu:getTM mp t with
  |none=>simp[rhoOf,hu]
  |some u=>simp[hu]at ht
theorem Ent.sound{st1}(h:Sim c st tmps w S ρ)(he:Ent st st1):∃ρ1,Sim c st1 tmps w S ρ1:=by obtain⟨ps,mp,st',h1,h2⟩:=he;obtain⟨ρ1,hs⟩:=zZr h h1;exact⟨_,Ent0.sound hs h2⟩
end Go.Abs
end
