/-
  CONTRACTS: what the functions answer, as plain Lean functions, each by evaluation at the abstract machine.
-/
import Derived.KernelRfl
import Derived.Lib.ItoaLen
import Derived.Laws.AppendOwn
import Derived.Lib.OwnBridge
import Derived.Sort.OwnSorted
import Derived.Lib.SlicesCompact
import Derived.Sort.Walk0
import Derived.Test.YtkaaomojgmbgdaaGreatDoorFns
set_option linter.unusedSimpArgs false
set_option linter.unusedVariables false
set_option linter.unusedSectionVars false
set_option maxRecDepth 100000
section
namespace Go.Abs
namespace Pred
mutual
def nodes:Pred→Int
 |.mk _ _ _ ks=>nodess 1 ks
def nodess(a:Int):List Pred→Int
 |[]=>a
 |k::ks=>nodess (IntKind.i64.wrap (a+nodes k)) ks
end
theorem yX7(a)(ks):nodess a ks=ks.foldl (fun a k=>IntKind.i64.wrap (a+nodes k)) a:=by
 induction ks generalizing a with
 |nil=>simp[nodess]
 |cons k ks ih=>simp[nodess,ih]
theorem yqI(p):nodes p=p.kids.foldl (fun a k=>IntKind.i64.wrap (a+nodes k)) 1:=by cases p;simp[nodes,kids,yX7]
end Pred
theorem ywa{E}(Z:Sys E)(p):E.C zvc [.agg (Pred.cells p)] (.one (.int .i64 p.nodes)):=by
 induction p using Pred.ind with
 |h o s n ks ih=>
 refine Z.zvc _ _ ⟨b0l rfl,?_⟩;rw[Pred.zzb,Pred.yqI];simp only[zKg,go_sem,Pred.kids];intro hlen;refine zzg ks (fun _=>True) (fun done rest=>⟨[(9,.d (.int .i64 done.length)),(8,.d (.int .i64 (ks.map Pred.cells).length)),(7,.d (.lst (ks.map Pred.cells))),(3,.d (.int .i64 (done.foldl (fun a k=>IntKind.i64.wrap (a+Pred.nodes k)) 1)))],[],[]⟩) ?_ trivial ?_ ?_
 ·exact zze (by simp only[go_sem,nZ,List.foldl_nil])
 ·intro done k r hl _;have hk':=ih k (by rw[hl];simp);have hlt:=zzn hl;have hw:IntKind.i64.wrap ((done.length:Int)+1)=((done.length+1:Nat):Int):=zzf (by omega);have hx:(ks.map Pred.cells).getD done.length []=Pred.cells k:=by rw[hl];exact zj4 _ _ _ _ _
  simp only[zvR,go_sem,hlt,hx];refine zza hk' ?_;simp only[go_sem,hw,lA,List.foldl_append,List.foldl_cons,List.foldl_nil];exact zze (by simp only[go_sem])
 ·simp only[zvR,go_sem,forall_const]
end Go.Abs
end
section
namespace Go.Abs
def isSmall(n:Int):Bool:=decide (97≤n)&&decide (n≤122)
def isCapital(n:Int):Bool:=decide (65≤n)&&decide (n≤90)
def isDigit(n:Int):Bool:=decide (48≤n)&&decide (n≤57)
def isSized(s:List UInt8):Bool:=decide ((s.length:Int)≥1)&&decide ((s.length:Int)≤24)
def cutAt:List UInt8→List UInt8×List UInt8×Bool
 |[]=>([],[],false)
 |c::s=>if c.toNat=46 then([],s,true)else(c::(cutAt s).1,(cutAt s).2.1,(cutAt s).2.2)
theorem yj4:∀{s},(∀c∈s,c.toNat≠46)→cutAt s=(s,[],false)
 |[],_=>rfl
 |c::s,h=>by simp[cutAt,h c (by simp),yj4 (s:=s) fun x hx=>h x (by simp[hx])]
theorem yj3:∀{a} {c} {b},(∀c∈a,c.toNat≠46)→c.toNat=46→cutAt (a++c::b)=(a,b,true)
 |[],c,b,_,hc=>by simp[cutAt,hc]
 |x::a,c,b,h,hc=>by simp[cutAt,h x (by simp),yj3 (a:=a) (fun x hx=>h x (by simp[hx])) hc]
def alnum(n:Int):Bool:=!(!isSmall n&&!isCapital n&&!isDigit n)
variable{E:AEnv}(Z:Sys E)
include Z
theorem zvq(n):E.C zxL [.one (.int .u8 n)] (.one (.bool (isSmall n))):=by refine Z.zxL _ _ ⟨b0l rfl,?_⟩;simp only[zXU,go_sem,isSmall]
theorem zYi(n):E.C zxK [.one (.int .u8 n)] (.one (.bool (isCapital n))):=by refine Z.zxK _ _ ⟨b0l rfl,?_⟩;simp only[zZ9,go_sem,isCapital]
theorem zqB(n):E.C zx8 [.one (.int .u8 n)] (.one (.bool (isDigit n))):=by refine Z.zx8 _ _ ⟨b0l rfl,?_⟩;simp only[zXS,go_sem,isDigit]
theorem zqC(s):E.C zx9 [.one (.str s)] (.one (.bool (isSized s))):=by refine Z.zx9 _ _ ⟨b0l rfl,?_⟩;simp only[zXT,go_sem,isSized]
theorem zJh(s):E.C zjF [.one (.str s)] (.tup [.one (.str (cutAt s).1),.one (.str (cutAt s).2.1),.one (.bool (cutAt s).2.2)]):=by
 refine Z.zjF _ _ ⟨b0l rfl,?_⟩;simp only[zVS,go_sem];refine zzg s (fun done=>∀c∈done,c.toNat≠46) (fun done rest=>⟨[(0,.d (.str s)),(5,.d (.int .i64 done.length))],[],[]⟩) ?_ (by simp) ?_ ?_
 ·exact zze (by simp only[go_sem,nZ])
 ·intro done c r hl hI;have hlt:=zzn hl;have hx:s.getD done.length 0=c:=zjC _ _ _ _ hl;simp only[zjq,go_sem,hlt,hx];intro hlen;have hw:IntKind.i64.wrap ((done.length:Int)+1)=((done.length+1:Nat):Int):=zzf (by omega);by_cases hc:c.toNat=46
  ·have h1:(((c.toNat:Nat):Int)==46)=true:=by simp[hc]
   simp only[go_sem,h1,hw];rw[hl,yj3 hI hc];simp;omega
  ·have h1:(((c.toNat:Nat):Int)==46)=false:=by simp;omega
   simp only[go_sem,h1,hw,lA];refine⟨zze (by simp only[go_sem]),?_⟩;intro x hx;rcases List.mem_append.1 hx with hx|hx
   ·exact hI x hx
   ·simp at hx;subst hx;exact hc
 ·intro hI;simp only[zjq,go_sem,yj4 hI]
theorem zvC(s):E.C zyf [.one (.str s)] (.one (.bool (s.all fun c=>alnum c.toNat))):=by
 refine Z.zyf _ _ ⟨b0l rfl,?_⟩;simp only[zvx,go_sem];refine zzg s (fun done=>done.all (fun c=>alnum c.toNat)=true) (fun done rest=>⟨[(0,.d (.str s)),(3,.d (.int .i64 done.length))],[],[]⟩) ?_ (by simp) ?_ ?_
 ·exact zze (by simp only[go_sem,nZ])
 ·intro done c r hl hI;have hlt:=zzn hl;have hx:s.getD done.length 0=c:=zjC _ _ _ _ hl;simp only[zxp,go_sem,hlt,hx];intro hlen;have hw:IntKind.i64.wrap ((done.length:Int)+1)=((done.length+1:Nat):Int):=zzf (by omega);refine zza (zvq Z _) ?_;simp only[go_sem,hw,hlt,hx];refine zyl (zYi Z _) ?_;simp only[go_sem,hw,hlt,hx];refine zyl (zqB Z _) ?_;simp only[go_sem,hw,hlt,hx];cases h1:(!isSmall c.toNat&&!isCapital c.toNat&&!isDigit c.toNat)with
  |false=>
   have hc:alnum c.toNat=true:=by rw[alnum,h1];rfl
   simp only[go_sem,h1,hw,lA,List.all_append,List.all_cons,List.all_nil,hI,hc];exact zze (by simp only[go_sem])
  |true=>
   have hc:alnum c.toNat=false:=by rw[alnum,h1];rfl
   simp only[go_sem,h1,hl,List.all_append,List.all_cons,hc,Bool.false_and,Bool.and_false]
 ·intro hI;simp only[zxp,go_sem,hI]
end Go.Abs
end
section
namespace Go.Abs
def scan(bad:Nat→Int→Bool):Nat→List UInt8→Bool
 |_,[]=>true
 |i,c::s=>!bad i c.toNat&&scan bad (i+1) s
theorem zZW(bad):∀(a) (i) (b),scan bad i (a++b)=(scan bad i a&&scan bad (i+a.length) b)
 |[],i,b=>by simp[scan]
 |c::a,i,b=>by simp only[List.cons_append,scan,zZW bad a,lC,Bool.and_assoc];congr 3;omega
def badWord(i:Nat)(n:Int):Bool:=!isSmall n&&((i:Int)==0||(!isDigit n&&n !=95))
def badName(_:Nat)(n:Int):Bool:=!isSmall n&&!isDigit n&&n !=95
def kws:List (List UInt8):=[[97,110,100],[97,115,115,117,109,101],[98,111,111,108],[98,111,117,110,100],[99,97,115,101],[99,101,108,108],[99,108,97,115,115],[100,97,116,97],[100,101,102],[100,105,118],[101,108,115,101],[101,110,100],[102,97,108,115,101],[102,111,114,97,108,108],[102,117,110],[103,101,116],[105,102],[105,110],[105,110,115,116],[105,110,116],[105,110,118,97,114,105,97,110,116],[108,101,116],[109,97,116,99,104],[109,101,97,115,117,114,101],[109,101,116,114,105,99],[109,111,100],[109,117],[110,101,119],[110,111,116],[111,102],[111,114],[113,117,97,108],[114,101,102,108,101,99,116],[115,101,116],[116,104,101,110],[116,114,117,101],[117,115,101],[118],[118,97,108],[116,97,103],[119,104,101,114,101],[119,105,116,104]]
def isName(s:List UInt8):Bool:=isSized s&&isSmall (s.getD 0 0).toNat&&!kws.contains s&&scan badName 1 (s.drop 1)
def isTitle(s:List UInt8):Bool:=isSized s&&isCapital (s.getD 0 0).toNat&&(s.all fun c=>alnum c.toNat)&&(s !=[73,110,116]&&s !=[66,111,111,108]&&s !=[67,101,108,108]&&s !=[70,117,110])
variable{E:AEnv}(Z:Sys E)
include Z
theorem yx5(s):E.C zjg [.one (.str s)] (.one (.bool (scan badWord 0 s))):=by
 refine Z.zjg _ _ ⟨b0l rfl,?_⟩;simp only[zKb,go_sem];refine zzg s (fun done=>scan badWord 0 done=true) (fun done rest=>⟨[(0,.d (.str s)),(3,.d (.int .i64 done.length))],[],[]⟩) ?_ rfl ?_ ?_
 ·exact zze (by simp only[go_sem,nZ])
 ·intro done c r hl hI;have hlt:=zzn hl;have hx:s.getD done.length 0=c:=zjC _ _ _ _ hl;simp only[zvP,go_sem,hlt,hx];intro hlen;have hw:IntKind.i64.wrap ((done.length:Int)+1)=((done.length+1:Nat):Int):=zzf (by omega);refine zza (zvq Z _) ?_;simp only[go_sem,hw,hlt,hx];refine zyl (zqB Z _) ?_;simp only[go_sem,hw,hlt,hx];cases h1:badWord done.length c.toNat with
  |false=>have h2:=h1;rw[badWord]at h2;simp only[go_sem,h2,hw,lA,zZW,scan,hI,h1,zA,Bool.not_false];refine⟨?_,?_,zze (by simp only[go_sem])⟩<;>(cases isSmall (c.toNat:Int)<;>cases isDigit (c.toNat:Int)<;>cases((done.length:Int)==0)<;>simp)
  |true=>have h2:=h1;rw[badWord]at h2;simp only[go_sem,h2,hl,zZW,scan,h1,zA,Bool.not_true,Bool.false_and,Bool.and_false];refine⟨?_,?_⟩<;>(cases isSmall (c.toNat:Int)<;>cases isDigit (c.toNat:Int)<;>cases((done.length:Int)==0)<;>simp)
 ·intro hI;simp only[zvP,go_sem,hI]
theorem zJv(hG:E.G 2=some (kws.map .str))(s):E.C zwr [.one (.str s)] (.one (.bool (kws.contains s))):=by
 refine Z.zwr _ _ ⟨b0l rfl,?_⟩;have h1:(kws.map D.str).take 42=kws.map D.str:=rfl;have h2:42≤kws.length:=b0l rfl;simp only[zZ8,go_sem,hG,h1];refine⟨h2,?_⟩;refine zzg kws (fun done=>done.contains s=false) (fun done rest=>⟨[(0,.d (.str s)),(6,.d (.int .i64 done.length)),(5,.agg ((kws.map .str).map .d))],[],[]⟩) ?_ rfl ?_ ?_
 ·exact zze (by simp only[go_sem,nZ])
 ·intro done c r hl hI;have hlt:(done.length:Int)<42:=zzn hl;have hx:((kws.map D.str).map AV.d).getD done.length .undef=.d (.str c):=by rw[hl];simp
  have hlt2:(done.length:Int)<kws.length:=zzn hl;have hw:IntKind.i64.wrap ((done.length:Int)+1)=((done.length+1:Nat):Int):=zzf (by omega);simp only[zw6,go_sem,hlt,hx,hlt2,hw];cases h1:(c==s)with
  |false=>
   simp only[go_sem,h1,hw,lA];refine⟨hlt,zze (by simp only[go_sem]),?_⟩;have h1:(s==c)=false:=by rw[←h1];exact BEq.comm
   simp only[List.contains_eq_any_beq,List.any_append,List.any_cons,List.any_nil,Bool.or_false]at hI⊢;rw[hI,h1];rfl
  |true=>
   simp only[go_sem,h1];refine⟨hlt,?_⟩;have h1:c=s:=by simpa using h1
   subst h1;rw[hl];simp
 ·intro hI;have hlt:(decide ((kws.length:Int)<42))=false:=rfl;simp only[zw6,go_sem,hI,hlt]
end Go.Abs
end
section
namespace Go.Abs
theorem zQS{s}(h:isSized s=true):0<s.length:=by
 simp only[isSized,Bool.and_eq_true,decide_eq_true_eq]at h;omega
variable{E:AEnv}(Z:Sys E)
include Z
theorem yx4(hG:E.G 2=some (kws.map .str))(s):E.C zjf [.one (.str s)] (.one (.bool (isName s))):=by
 refine Z.zjf _ _ ⟨b0l rfl,?_⟩;simp only[zKa,go_sem];refine zza (zqC Z s) ?_;cases h0:isSized s with
 |false=>
  have hr:isName s=false:=by simp[isName,h0]
  simp only[go_sem,hr];refine⟨.one (.bool false),?_⟩;simp only[go_sem,hr];refine⟨.one (.bool false),?_⟩;simp only[go_sem,hr]
 |true=>
  have hpos:=zQS h0;have hpos':((0:Int)<s.length)=True:=eq_true (by omega);simp only[go_sem,hpos',Bool.not_true,Int.toNat_zero];refine zza (zvq Z _) ?_;cases h1:isSmall (s.getD 0 0).toNat with
  |false=>
   have hr:isName s=false:=by simp only[isName,h0,h1];rfl
   simp only[go_sem,hr,Bool.not_false,Bool.not_true];refine⟨.one (.bool false),?_⟩;simp only[go_sem,hr,Bool.not_false,Bool.not_true,Bool.or_true,Bool.or_false,Bool.or_self]
  |true=>
   simp only[go_sem,Bool.not_false,Bool.not_true,Bool.or_self];refine zza (zJv Z hG s) ?_;cases h2:kws.contains s with
   |true=>
    have hr:isName s=false:=by simp only[isName,h0,h1,h2];rfl
    simp only[go_sem,hr,Bool.not_false,Bool.not_true,Bool.or_true,Bool.or_false,Bool.or_self,Bool.false_or]
   |false=>
    have hr:isName s=scan badName 1 (s.drop 1):=by simp only[isName,h0,h1,h2];rfl
    obtain⟨c0,t,rfl⟩:∃c0 t,s=c0::t:=by cases s with|nil=>simp at hpos|cons c t=>exact⟨c,t,rfl⟩
    simp only[go_sem,hr,Bool.not_false,Bool.not_true,Bool.or_true,Bool.or_false,Bool.or_self];refine zzg t (fun done=>scan badName 1 done=true) (fun done rest=>⟨[(0,.d (.str (c0::t))),(3,.d (.int .i64 (1+done.length:Nat)))],[],[]⟩) ?_ rfl ?_ ?_
    ·exact zze (by simp only[go_sem,Nat.add_zero];trivial)
    ·intro done c r hl hI;have hlt:(((1+done.length:Nat):Int)<((t.length+1:Nat):Int))=True:=eq_true (by rw[hl];simp;omega);have hx:(c0::t).getD (1+done.length) 0=c:=by rw[hl,Nat.add_comm];simp
     simp only[zvO,go_sem,hlt,hx];intro hlen;have hw:IntKind.i64.wrap (((1+done.length:Nat):Int)+1)=((1+done.length+1:Nat):Int):=zzf (by simp only[eq_iff_iff,iff_true]at hlt;omega);refine zza (zvq Z _) ?_;simp only[go_sem,hw,hlt,hx];refine zyl (zqB Z _) ?_;simp only[go_sem,hw,hlt,hx];cases h1:badName (1+done.length) c.toNat with
     |false=>have h2:=h1;rw[badName]at h2;simp only[go_sem,h2,hw,lA,zZW,scan,hI,h1,Bool.not_false];exact zze (by simp only[go_sem,Nat.add_assoc])
     |true=>have h2:=h1;rw[badName]at h2;simp only[go_sem,h2,hl,zZW,scan,h1,Bool.not_true,Bool.false_and,Bool.and_false]
    ·intro hI;have hge:decide (((1+t.length:Nat):Int)<((t.length+1:Nat):Int))=false:=by rw[Nat.add_comm];simp
     simp only[zvO,go_sem,hge,List.drop_succ_cons,hI]
theorem yzV(s):E.C zk9 [.one (.str s)] (.one (.bool (isTitle s))):=by
 refine Z.zk9 _ _ ⟨b0l rfl,?_⟩;simp only[zXV,go_sem];refine zza (zqC Z s) ?_;cases h0:isSized s with
 |false=>
  have hr:isTitle s=false:=by simp[isTitle,h0]
  simp only[go_sem,hr];refine⟨.one (.bool false),?_⟩;simp only[go_sem,hr];refine⟨.one (.bool false),?_⟩;simp only[go_sem,hr]
 |true=>
  have hpos:=zQS h0;have hpos':((0:Int)<s.length)=True:=eq_true (by omega);simp only[go_sem,hpos',Int.toNat_zero];refine zza (zYi Z _) ?_;cases h1:isCapital (s.getD 0 0).toNat with
  |false=>
   have hr:isTitle s=false:=by simp only[isTitle,h0,h1];rfl
   simp only[go_sem,hr];refine⟨.one (.bool false),?_⟩;simp only[go_sem,hr]
  |true=>
   simp only[go_sem];refine zza (zvC Z s) ?_;cases h2:(s.all fun c=>alnum c.toNat)with
   |false=>
    have hr:isTitle s=false:=by simp only[isTitle,h0,h1,h2];rfl
    simp only[go_sem,hr]
   |true=>simp only[go_sem,isTitle,h0,h1,h2,bne]
end Go.Abs
end
section
namespace Go.Abs
def okPart(s:List UInt8):Bool:=!(!isSized s||(!(s.all fun c=>alnum c.toNat)&&!scan badWord 0 s))
theorem zqP:∀s,(cutAt s).2.2=true→(cutAt s).2.1.length<s.length
 |[],h=>by simp[cutAt]at h
 |c::s,h=>by
  simp only[cutAt]at h⊢;split
  ·simp
  ·rename_i hc;rw[if_neg hc]at h;have:=zqP s h;simp only[lC];omega
def parts(s:List UInt8):Bool:=if h:(cutAt s).2.2=true then okPart (cutAt s).1&&parts (cutAt s).2.1 else okPart (cutAt s).1
termination_by s.length
decreasing_by exact zqP s h
def isCore(s:List UInt8):Bool:=
 !decide ((s.length:Int)>120)&&(!(!isName (cutAt s).1&&!isTitle (cutAt s).1&&((cutAt s).1 !=[118]||!(cutAt s).2.2)))&&(if(cutAt s).2.2 then parts (cutAt s).2.1 else true)
variable{E:AEnv}(Z:Sys E)
include Z
theorem yx3(hG:E.G 2=some (kws.map .str))(s):E.C zje [.one (.str s)] (.one (.int .i64 (if isCore s then 0 else 3))):=by
 refine Z.zje _ _ ⟨b0l rfl,?_⟩;simp only[zW9,go_sem];intro hlen;cases h0:decide ((s.length:Int)>120)with
 |true=>simp only[go_sem,isCore,h0]
 |false=>
  simp only[go_sem,isCore,h0];refine zza (zJh Z s) ?_;have hdec:=zqP s;revert hdec;generalize cutAt s=cc;obtain⟨a,b,m⟩:=cc;intro hdec;simp only[go_sem];refine zza (yx4 Z hG a) ?_;simp only[go_sem];refine zyl (yzV Z a) ?_;simp only[go_sem];have ob:∀(p q x y:Bool),((p&&q)=true→(p=true∧(!x&&y)=true)→(p&&q)=true):=by simp
  cases h1:(!isName a&&!isTitle a&&(a !=[118]||!m))with
  |true=>rw[bne]at h1;simp only[go_sem,h1];cases isName a<;>cases isTitle a<;>cases(a==[118])<;>simp
  |false=>
   rw[bne]at h1;simp only[go_sem,h1];refine⟨?_,?_⟩
   ·cases isName a<;>cases isTitle a<;>cases(a==[118])<;>simp
   generalize hR:(if m=true then parts b else true)=R;refine zq7 (fun x:List UInt8×Bool=>⟨[(4,.d (.str x.1)),(5,.d (.bool x.2))],[],[]⟩) (fun x=>R=(if x.2=true then parts x.1 else true)) (fun x=>if x.2=true then x.1.length+1 else 0) (b,m) ?_ hR.symm ?_
   ·exact zze (by simp only[go_sem])
   ·rintro⟨b',m'⟩ hI
    cases m' with
    |false=>simp only[zvN,go_sem];simp only[Bool.false_eq_true,if_false]at hI;simp only[hI,if_true]
    |true=>
     simp only[if_true]at hI;rw[parts]at hI;simp only[zvN,go_sem];refine zza (zJh Z b') ?_;have hdec:=zqP b';revert hdec hI;generalize cutAt b'=cc;obtain⟨a1,b1,m1⟩:=cc;intro hI hdec;simp only at hI hdec;simp only[go_sem];refine zza (zqC Z a1) ?_;simp only[go_sem];refine zyl (zvC Z a1) ?_;simp only[go_sem];refine zyl (yx5 Z a1) ?_;simp only[go_sem];cases h1:(!isSized a1||(!(a1.all fun c=>alnum c.toNat)&&!scan badWord 0 a1))with
     |true=>
      have h2:okPart a1=false:=by rw[okPart,h1];rfl
      have h3:R=false:=by rw[hI,h2];simp
      simp only[go_sem,h1,h3];cases isSized a1<;>cases(a1.all fun c=>alnum c.toNat)<;>simp
     |false=>
      have h2:okPart a1=true:=by rw[okPart,h1];rfl
      simp only[go_sem,h1];refine⟨?_,?_,(b1,m1),zze (by simp only[go_sem]),?_,?_⟩
      ·cases isSized a1<;>cases(a1.all fun c=>alnum c.toNat)<;>simp
      ·cases isSized a1<;>cases(a1.all fun c=>alnum c.toNat)<;>simp
      ·rw[hI,h2];cases m1<;>simp
      ·cases m1 with
       |false=>simp
       |true=>have:=hdec rfl;simp;omega
end Go.Abs
end
section
namespace Go.Abs
def findIx(s:List UInt8):Nat→List (List UInt8)→Int
 |_,[]=> -1
 |i,x::l=>if x=s then i else findIx s (i+1) l
def isOpNamed(n:Int):Bool:=n==3||n==4||n==5
def inRange(n:Int):Bool:=decide (n≥-1000000000000)&&decide (n≤1000000000000)
variable{E:AEnv}(Z:Sys E)
include Z
theorem zyT(n):E.C zkm [.one (.int .i64 n)] (.one (.bool (inRange n))):=by refine Z.zkm _ _ ⟨b0l rfl,?_⟩;simp only[yw4,go_sem,inRange]
theorem zKE(n):E.C zvd [.one (.int .i64 n)] (.one (.bool (isOpNamed n))):=by refine Z.zvd _ _ ⟨b0l rfl,?_⟩;simp only[zKh,go_sem,isOpNamed];cases(n==3)<;>cases(n==4)<;>simp
end Go.Abs
end
section
namespace Go.Abs
namespace Pred
mutual
def depth:Pred→Int
 |.mk _ _ _ ks=>IntKind.i64.wrap (depths 0 ks+1)
def depths(a:Int):List Pred→Int
 |[]=>a
 |k::ks=>depths (if depth k>a then depth k else a) ks
end
theorem yYZ(a)(ks):depths a ks=ks.foldl (fun a k=>if depth k>a then depth k else a) a:=by
 induction ks generalizing a with
 |nil=>simp[depths]
 |cons k ks ih=>simp[depths,ih]
theorem yj5(p):depth p=IntKind.i64.wrap (p.kids.foldl (fun a k=>if depth k>a then depth k else a) 0+1):=by cases p;simp[depth,kids,yYZ]
end Pred
def kidsOf(n:Int):Int×Int:=if n==1||n==2||n==3 then(0,0)else if n==4||n==5 then(1,24)else if n==9||n==14 then(1,1)else(2,2)
def kidsOk(n m:Int):Bool:=if n==1||n==2||n==3 then m==0 else if n==4||n==5 then decide (m≥1)&&decide (m≤24)else if n==9||n==14 then m==1 else m==2
variable{E:AEnv}(Z:Sys E)
include Z
theorem ykM(n):E.C zZa [.one (.int .i64 n)] (.tup [.one (.int .i64 (kidsOf n).1),.one (.int .i64 (kidsOf n).2)]):=by
 refine Z.zZa _ _ ⟨b0l rfl,?_⟩;cases h1:(n==1)<;>cases h2:(n==2)<;>cases h3:(n==3)<;>cases h4:(n==4)<;>cases h5:(n==5)<;>cases h9:(n==9)<;>cases h14:(n==14)<;>
  first
  |(exfalso;simp at*;omega)
  |simp only[zVW,go_sem,kidsOf,h1,h2,h3,h4,h5,h9,h14]
theorem yx8(p):E.C zvb [.agg (Pred.cells p)] (.one (.int .i64 p.depth)):=by
 induction p using Pred.ind with
 |h o s n ks ih=>
 refine Z.zvb _ _ ⟨b0l rfl,?_⟩;rw[Pred.zzb,Pred.yj5];simp only[zKe,go_sem,Pred.kids];intro hlen;refine zzg ks (fun _=>True) (fun done rest=>⟨[(9,.d (.int .i64 done.length)),(8,.d (.int .i64 (ks.map Pred.cells).length)),(7,.d (.lst (ks.map Pred.cells))),(3,.d (.int .i64 (done.foldl (fun a k=>if Pred.depth k>a then Pred.depth k else a) 0)))],[],[]⟩) ?_ trivial ?_ ?_
 ·exact zze (by simp only[go_sem,nZ,List.foldl_nil])
 ·intro done k r hl _;have hk':=ih k (by rw[hl];simp);have hlt:=zzn hl;have hw:IntKind.i64.wrap ((done.length:Int)+1)=((done.length+1:Nat):Int):=zzf (by omega);have hx:(ks.map Pred.cells).getD done.length []=Pred.cells k:=by rw[hl];exact zj4 _ _ _ _ _
  simp only[zvQ,go_sem,hlt,hx];refine zza hk' ?_;simp only[go_sem,hw,lA,List.foldl_append,List.foldl_cons,List.foldl_nil];exact zze (by simp only[go_sem])
 ·simp only[zvQ,go_sem,forall_const]
theorem zJk(p):E.C zvG [.agg (Pred.cells p)] (.one (.int .i64 p.nodes)):=by
 induction p using Pred.ind with
 |h o s n ks ih=>
 refine Z.zvG _ _ ⟨b0l rfl,?_⟩;rw[Pred.zzb,Pred.yqI];simp only[zV8,go_sem,Pred.kids];intro hlen;refine zzg ks (fun _=>True) (fun done rest=>⟨[(9,.d (.int .i64 done.length)),(8,.d (.int .i64 (ks.map Pred.cells).length)),(7,.d (.lst (ks.map Pred.cells))),(3,.d (.int .i64 (done.foldl (fun a k=>IntKind.i64.wrap (a+Pred.nodes k)) 1)))],[],[]⟩) ?_ trivial ?_ ?_
 ·exact zze (by simp only[go_sem,nZ,List.foldl_nil])
 ·intro done k r hl _;have hk':=ih k (by rw[hl];simp);have hlt:=zzn hl;have hw:IntKind.i64.wrap ((done.length:Int)+1)=((done.length+1:Nat):Int):=zzf (by omega);have hx:(ks.map Pred.cells).getD done.length []=Pred.cells k:=by rw[hl];exact zj4 _ _ _ _ _
  simp only[zjv,go_sem,hlt,hx];refine zza hk' ?_;simp only[go_sem,hw,lA,List.foldl_append,List.foldl_cons,List.foldl_nil];exact zze (by simp only[go_sem])
 ·simp only[zjv,go_sem,forall_const]
end Go.Abs
end
section
namespace Go.Abs
def sV:List UInt8:=[118]
def sTag:List UInt8:=[116,97,103]
def sVal:List UInt8:=[118,97,108]
def calledOk(o:Int)(s:List UInt8):Bool:=if o==3 then s==sV||isCore s else if o==4 then s==sTag||s==sVal||isCore s else if o==5 then isCore s else true
variable{E:AEnv}(Z:Sys E)
include Z
end Go.Abs
end
section
namespace Go.Abs
theorem gR1{b p}:(b=true→b=true∧p)=(b=true→p):=by cases b<;>simp
theorem gR2{b}:(b=true→b=true)=True:=by simp
theorem gR3{b x}:(b=true→x=true→(b&&x)=true)=True:=by cases b<;>cases x<;>simp
theorem gR4{b}:(b=false→(!b)=true)=True:=by cases b<;>simp
theorem gR5{b x}:(b=true→x=false→(b&&!x)=true)=True:=by cases b<;>cases x<;>simp
theorem gR6{b x p}:(b=true→(x=true→(b&&x)=true)∧p)=(b=true→p):=by cases b<;>cases x<;>simp
theorem gR7{b x p}:(b=true→(x=false→(b&&!x)=true)∧p)=(b=true→p):=by cases b<;>cases x<;>simp
theorem gR8{b x}:((b&&x)=true→b=true)=True:=by cases b<;>cases x<;>simp
theorem gR9{b x p}:((b&&x)=true→b=true∧p)=((b&&x)=true→p):=by cases b<;>cases x<;>simp
theorem gR10{b x p}:((b&&x)=true→x=true∧p)=((b&&x)=true→p):=by cases b<;>cases x<;>simp
theorem gR11{b x}:((b&&x)=true→x=true)=True:=by cases b<;>cases x<;>simp
theorem gR12{b p}:(b=true→(b&&b)=true∧p)=(b=true→p):=by cases b<;>simp
theorem gR13{b x p}:((b&&x)=true→(b&&(b&&x))=true∧p)=((b&&x)=true→p):=by cases b<;>cases x<;>simp
theorem gR14{b x p}:((b&&x)=true→(b&&x&&b)=true∧p)=((b&&x)=true→p):=by cases b<;>cases x<;>simp
theorem gR15{b x}:((b&&x)=true→(b&&(b&&x))=true)=True:=by cases b<;>cases x<;>simp
attribute [go_sem] gR1 gR2 gR3 gR4 gR5 gR6 gR7 gR8 gR9 gR10 gR11 gR12 gR13 gR14 gR15 Int.cast_ofNat_Int Int.natCast_one List.getD_nil nZ false_and and_false Int.toNat_zero Int.toNat_one Bool.false_eq_true Bool.true_eq_false
theorem zjX{v}{E:AEnv}{f args r b g d K st az}(h:E.C f args r)(hk:callK v g d K st az r):∃r,(b=true→E.C f args r)∧callK v g d K st az r:=⟨r,fun _=>h,hk⟩
theorem zK0{v}{E:AEnv}{f args r b g d K st az}(h:b=true→E.C f args r)(hk:callK v g d K st az r):∃r,(b=true→E.C f args r)∧callK v g d K st az r:=⟨r,h,hk⟩
theorem call_no{v}{E:AEnv}{f args}(r){g d K st az}(hk:callK v g d K st az r):∃r,(False→E.C f args r)∧callK v g d K st az r:=⟨r,fun h=>h.elim,hk⟩
attribute [go_sem_proc] Int.reduceToNat Int.reduceLT Int.reduceLE Int.reduceEq Nat.reduceSub
end Go.Abs
end
section
namespace Go.Abs
def nodeE(o:Int)(s:List UInt8)(n:Int)(ks:List Pred):Int:=
 if decide (o<1)||decide (o>18)||!s==[]&&!isOpNamed o||n !=0&&!(o==1||o==2)||!kidsOk o ks.length then 1
 else if o==1&&!inRange n||o==2&&(decide (n<0)||decide (n>1))then 2
 else if !calledOk o s then 3
 else if o==8&&((ks.map Pred.op).getD 0 0) !=1 then 6
 else 0
variable{E:AEnv}(Z:Sys E)
include Z
end Go.Abs
end
section
namespace Go.Abs
def nodeP(o:Int)(s:List UInt8)(n:Int)(ks:List Pred):Int:=
 if decide (o<1)||decide (o>18)then 1
 else if !isOpNamed o&&!s==[]||o !=1&&o !=2&&n !=0||decide ((ks.length:Int)<(kidsOf o).1)||decide ((ks.length:Int)>(kidsOf o).2)then 1
 else if o==1&&!inRange n||o==2&&n !=0&&n !=1 then 2
 else if isOpNamed o&&(if isCore s=true then(0:Int)else 3) !=0&&!(o==3&&s==sV)&&!(o==4&&(s==sTag||s==sVal))then 3
 else if o==8&&((ks.map Pred.op).getD 0 0) !=1 then 6
 else 0
theorem yyT{o s n ks}(h1:¬(decide (o<1)||decide (o>18))=true)
  (h2:¬(!isOpNamed o&&!s==[]||o !=1&&o !=2&&n !=0||decide ((ks.length:Int)<(kidsOf o).1)||decide ((ks.length:Int)>(kidsOf o).2))=true) (h3:¬(o==1&&!inRange n||o==2&&n !=0&&n !=1)=true):
  nodeP o s n ks=if isOpNamed o&&(if isCore s=true then(0:Int)else 3) !=0&&(!(o==3&&s==sV)&&!(o==4&&(s==sTag||s==sVal)))then 3 else if o==8&&((ks.map Pred.op).getD 0 0) !=1 then 6 else 0:=by
 rw[nodeP,if_neg h1,if_neg h2,if_neg h3,Bool.and_assoc]
theorem yXM(o)(m:Nat):(decide ((m:Int)<(kidsOf o).1)||decide ((m:Int)>(kidsOf o).2))=!kidsOk o m:=by
 unfold kidsOf kidsOk;split
 ·rw[Bool.eq_iff_iff];simp;omega
 ·split
  ·rw[Bool.eq_iff_iff];simp
  ·split
   ·rw[Bool.eq_iff_iff];simp;omega
   ·rw[Bool.eq_iff_iff];simp;omega
theorem fin3{A B}{R t x:Int}{p}(hk:R=if A&&B then x else t)(hp:t=R→p):if A=true then(if B=true then x=R else p)else p:=by
 cases A<;>cases B<;>simp_all
theorem yVx(o)(s)(n)(ks):nodeP o s n ks=nodeE o s n ks:=by
 unfold nodeP nodeE;have e2:(n !=0&&!(o==1||o==2))=(o !=1&&o !=2&&n !=0):=by simp only[bne];cases(o==1)<;>cases(o==2)<;>cases(n==0)<;>rfl
 have e3:(decide (n<0)||decide (n>1))=(n !=0&&n !=1):=by rw[Bool.eq_iff_iff];simp;omega
 have e4:(isOpNamed o&&(if isCore s=true then(0:Int)else 3) !=0&&!(o==3&&s==sV)&&!(o==4&&(s==sTag||s==sVal)))=!calledOk o s:=by
  unfold isOpNamed calledOk;by_cases h3:o=3
  ·subst h3;cases isCore s<;>cases(s==sV)<;>simp
  ·by_cases h4:o=4
   ·subst h4;cases isCore s<;>cases(s==sTag||s==sVal)<;>simp
   ·by_cases h5:o=5
    ·subst h5;cases isCore s<;>simp
    ·simp[h3,h4,h5]
 rw[e4,e3,e2,Bool.and_comm (!s==[]),←yXM,←Bool.and_assoc];cases(decide (o<1)||decide (o>18))<;>simp only[Bool.true_or,Bool.false_or,Bool.false_eq_true,if_true,if_false,Bool.or_assoc]
theorem yX2{o}{s:List UInt8}{n:Int}{ks:List Pred}(h2:¬(!isOpNamed o&&!s==[]||o !=1&&o !=2&&n !=0||decide ((ks.length:Int)<(kidsOf o).1)||decide ((ks.length:Int)>(kidsOf o).2))=true)(ho:(o==8)=true):∃a b,ks=[a,b]:=by
 have ho:o=8:=by simpa using ho
 subst ho;have h3:ks.length=2:=by simp[kidsOf]at h2;omega
 match ks,h3 with
 |[a,b],_=>exact⟨a,b,rfl⟩
variable{E:AEnv}(Z:Sys E)
include Z
theorem pred_node_ev'(hG:E.G 2=some (kws.map .str))(o)(s)(n)(ks):E.C zjI [.agg (Pred.cells (.mk o s n ks))] (.one (.int .i64 (nodeP o s n ks))):=by
 refine Z.zjI _ _ ⟨b0l rfl,?_⟩;rw[Pred.zzb];generalize hR:nodeP o s n ks=R;simp only[zVX,go_sem,Pred.op,Pred.name,Pred.n,Pred.kids];split
 ·rename_i h1;rw[←hR,nodeP,if_pos h1]
 rename_i h1;refine zza (ykM Z o) ?_;simp only[go_sem];refine zza (zKE Z o) ?_;simp only[go_sem];intro hlen1 hlen2;split
 ·rename_i h2;rw[←hR,nodeP,if_neg h1,if_pos h2]
 rename_i h2;refine zjX (zyT Z n) ?_;simp only[go_sem];split
 ·rename_i h3;rw[←hR,nodeP,if_neg h1,if_neg h2,if_pos h3]
 rename_i h3;refine zza (zKE Z o) ?_;simp only[go_sem];refine zjX (yx3 Z hG s) ?_;simp only[go_sem];by_cases ho:(o==8)=true
 ·obtain⟨a,b,rfl⟩:=yX2 h2 ho;simp only[go_sem,ho,Pred.zzb a];have key:=yyT h1 h2 h3;rw[hR,ho]at key;simp only[go_sem,sV,sTag,sVal]at key;refine fin3 key fun h=>?_;cases hC:(a.op !=1)<;>simp_all
 ·rw[Bool.not_eq_true]at ho;have key:=yyT h1 h2 h3;rw[hR,ho]at key;simp only[go_sem,sV,sTag,sVal]at key;cases ks<;>(simp only[go_sem,ho,Pred.zzb];exact fin3 key fun h=>h)
theorem ykN(hG:E.G 2=some (kws.map .str))(o)(s)(n)(ks):E.C zjI [.agg (Pred.cells (.mk o s n ks))] (.one (.int .i64 (nodeE o s n ks))):=yVx o s n ks▸pred_node_ev' Z hG o s n ks
end Go.Abs
end
section
namespace Go.Abs
namespace Pred
def formE:Pred→Int
 |.mk o s n ks=>if nodeE o s n ks !=0 then nodeE o s n ks else formEs ks
where formEs:List Pred→Int
 |[]=>0
 |k::ks=>if formE k !=0 then formE k else formEs ks
theorem zJI(o)(s)(n)(ks):formE (.mk o s n ks)=if nodeE o s n ks !=0 then nodeE o s n ks else formE.formEs ks:=by rw[formE]
def checkE(p:Pred):Int:=if decide (nodes p>400)then 7 else if decide (depth p>40)then 8 else formE p
end Pred
theorem zzY{α:Type}{P:α→Prop}{a k}(ha:∀x∈a,P x)(hk:P k):∀x∈a++[k],P x:=by
 intro x hx;rcases List.mem_append.1 hx with h|h
 ·exact ha x h
 ·simp at h;subst h;exact hk
theorem zzz{ks a r k}(hl:ks=a++k::r):(ks.map Pred.cells).getD a.length []=Pred.cells k:=by rw[hl];exact zj4 _ _ _ _ _
variable{E:AEnv}(Z:Sys E)
include Z
end Go.Abs
end
section
namespace Go.Abs
namespace Pred
def pre:Pred→List Pred
 |.mk o s n ks=>.mk o s n ks::pres ks
where pres:List Pred→List Pred
 |[]=>[]
 |k::ks=>pre k++pres ks
theorem zjG(o)(s)(n)(ks):pre (.mk o s n ks)=.mk o s n ks::pre.pres ks:=by rw[pre]
theorem yqK(a b):pre.pres (a++b)=pre.pres a++pre.pres b:=by
 induction a with
 |nil=>rfl
 |cons k a ih=>simp[pre.pres,ih]
def err(p:Pred):Int:=nodeE p.op p.name p.n p.kids
def first:List Pred→Int
 |[]=>0
 |p::l=>if err p !=0 then err p else first l
theorem yXf(a b):first (a++b)=if first a !=0 then first a else first b:=by
 induction a with
 |nil=>rfl
 |cons k a ih=>
  by_cases h:(err k !=0)=true
  ·have e1:first (k::a)=err k:=by rw[first,if_pos h]
   have e2:first (k::(a++b))=err k:=by rw[first,if_pos h]
   simp only[List.cons_append,e1,e2,h,if_true]
  ·have e1:first (k::a)=first a:=by rw[first,if_neg h]
   have e2:first (k::(a++b))=first (a++b):=by rw[first,if_neg h]
   simp only[List.cons_append,e1,e2,ih]
theorem zWm(p):formE p=first (pre p):=by
 induction p using Pred.ind with
 |h o s n ks ih=>
 rw[zJI,zjG,first];have:formE.formEs ks=first (pre.pres ks):=by
  induction ks with
  |nil=>rfl
  |cons k ks ih2=>rw[formE.formEs,pre.pres,yXf,ih k (by simp),ih2 fun x hx=>ih x (by simp[hx])]
 rw[this];rfl
theorem yXg{a b k}(ha:∀x∈a,err x=0):first (a++k::b)=if err k !=0 then err k else first b:=by
 induction a with
 |nil=>rfl
 |cons x a ih=>rw[List.cons_append,first,ha x (by simp)];exact ih fun y hy=>ha y (by simp[hy])
theorem yXe{a}(ha:∀x∈a,err x=0):first a=0:=by
 induction a with
 |nil=>rfl
 |cons x a ih=>rw[first,ha x (by simp)];exact ih fun y hy=>ha y (by simp[hy])
end Pred
def yields(l:List Pred):List (List CV):=l.map fun q=>[.agg (Pred.cells q)]
theorem yxj{l a b x}(h:yields l=a++x::b):∃a' p b',l=a'++p::b'∧a=yields a'∧x=[.agg (Pred.cells p)]:=by obtain⟨a',r,h1,h2,h3⟩:=List.map_eq_append_iff.1 h;obtain⟨p,b',h4,h5,h6⟩:=List.map_eq_cons_iff.1 h3;exact⟨a',p,b',by rw[h1,h4],h2.symm,h5.symm⟩
theorem yYQ:∀p q,Pred.cells p=Pred.cells q→p=q:=by
 intro p;induction p using Pred.ind with
 |h o s n ks ih=>
 intro q h;obtain⟨o',s',n',ks'⟩:=q;rw[Pred.zzb,Pred.zzb]at h;simp only[Pred.op,Pred.name,Pred.n,Pred.kids,List.cons.injEq,D.int.injEq,D.str.injEq,D.lst.injEq,true_and,and_true]at h;obtain⟨rfl,rfl,rfl,h4⟩:=h;have:ks=ks':=by
  induction ks generalizing ks' with
  |nil=>cases ks' with|nil=>rfl|cons _ _=>cases h4
  |cons k ks ih2=>
   cases ks' with
   |nil=>cases h4
   |cons k' ks'=>simp only[mC,List.cons.injEq]at h4;rw[ih k (by simp) k' h4.1,ih2 (fun x hx=>ih x (by simp[hx])) ks' h4.2]
 rw[this]
theorem yxi{a b}(h:yields a=yields b):a=b:=by
 induction a generalizing b with
 |nil=>cases b with|nil=>rfl|cons _ _=>cases h
 |cons x a ih=>
  cases b with
  |nil=>cases h
  |cons y b=>simp only[yields,mC,List.cons.injEq,CV.agg.injEq,and_true]at h;rw[yYQ x y h.1,ih h.2]
variable{E:AEnv}(Z:Sys E)
include Z
theorem zX5(p):E.C zkb [.agg (Pred.cells p)] (.one (.clo zz1 [.ref (Pred.cells p)])):=by refine Z.zkb _ _ ⟨b0l rfl,?_⟩;rw[Pred.zzb];simp only[zXX,go_sem];try rfl
theorem zZJ(hG:E.G 2=some (kws.map .str))(hIt:∀p,E.It zz1 [.ref (Pred.cells p)] (yields p.pre))(p):E.C zws [.agg (Pred.cells p)] (.one (.int .i64 p.checkE)):=by
 have h1:=ywa Z p;have h2:=yx8 Z p;have h3:=zX5 Z p;have hit:=hIt p;refine Z.zws _ _ ⟨b0l rfl,?_⟩;generalize hR:Pred.checkE p=R;unfold Pred.checkE at hR;rw[Pred.zWm]at hR;rw[Pred.zzb]at*
 simp only[zKd,go_sem];refine zza h1 ?_;simp only[go_sem];split
 ·rename_i h;rw[if_pos h]at hR;simp only[go_sem,hR]
 rename_i h;rw[if_neg h]at hR;refine zza h2 ?_;simp only[go_sem];split
 ·rename_i h;rw[if_pos h]at hR;simp only[go_sem,hR]
 rename_i h;rw[if_neg h]at hR;refine zza h3 ?_;simp only[go_sem];refine yJO hit (fun a=>∃l,a=yields l∧∀x∈l,Pred.err x=0) (fun _=>⟨[(2,.ptr 2 0)],[(2,[.d (.int .i64 0)])],[]⟩) ?_ ⟨[],rfl,by simp⟩ ?_ ?_
 ·exact zze (by simp only[go_sem,oS])
 ·intro a x b hx ⟨l,hl,hI⟩;obtain⟨a',q,b',e1,rfl,rfl⟩:=yxj hx;obtain rfl:=yxi hl;refine⟨rfl,?_⟩;obtain⟨o,s,n,ks⟩:=q;have hn:=ykN Z hG o s n ks;rw[Pred.zzb]at hn⊢;rw[e1,Pred.yXg hI]at hR;simp only[zYa,zYb,go_sem,Pred.op,Pred.name,Pred.n,Pred.kids]at hn⊢;refine zza hn ?_;simp only[go_sem];have he:Pred.err (.mk o s n ks)=nodeE o s n ks:=rfl;rw[he]at hR;cases h2:(nodeE o s n ks !=0)with
  |true=>simp only[h2,go_sem]at hR⊢;simp only[go_sem,hR]
  |false=>simp only[go_sem];exact⟨zze (by simp only[go_sem,oS]),a'++[.mk o s n ks],by simp[yields,Pred.zzb,Pred.op,Pred.name,Pred.n,Pred.kids],zzY hI (by rw[he];simpa using h2)⟩
 ·rintro⟨l,hl,hI⟩
  obtain rfl:=yxi hl;rw[Pred.yXe hI]at hR;simp only[go_sem,hR]
end Go.Abs
end
section
namespace Go.Abs
open Go.RowKit
variable{T:Nat→Option Ty}{P:Program}{G:Nat→Option (List D)}
variable{l:Nat}{J:List (List CV)→World→Safe→Prop}{Jx:World→Safe→Prop}
theorem yqe{fn fa}(h:trFn T fn=some fa):(fn.name== "runtime.NumGoroutine")=false∧∃cd,fn.body=some cd∧tr T fn.ntmps cd=some fa.ac∧fn.results.toList.mapM (trRes T)=some fa.rs∧fn.ntmps=fa.n:=by
 simp only[trFn]at h;split at h
 ·cases h
 ·rename_i hname;simp only[Option.bind_eq_bind,Option.pure_def,Option.bind_eq_some_iff,Option.some.injEq]at h;obtain⟨cd,hcd,ac,hac,rs,hrs,rfl⟩:=h;exact⟨by simpa using hname,cd,hcd,hac,hrs,rfl⟩
theorem yva(hT:∀t ty,T t=some ty→chkTy P t ty=true){fn N k cd W1 S1 st tmps w S ρ}(hrs:fn.results.toList.mapM (trRes T)=some [.t k])(h:tr T N cd=some (.seq (.reg [(none,.mv k (.c (.d (.bool false))))]) .ret))
  (hs:Sim (baseC P W1 S1 N (fun _=>none)) st tmps w S ρ) (hm:st.mem=[]) {R} (hR:∀w' S',Grows W1 S1 w' S'→R (.returned (.bool false)) w') {Q} (hQ:∀a w,LeavesInM Fence.wide 0 P fn a.tmps R a.defers .returning w→Q .ret a w) {m}:
  cd.wpIn (FR none) m P Q ⟨tmps,[]⟩ w:=by
 obtain⟨x,y,rfl,hx,hy⟩:=zYm h;obtain rfl:=yJU hy;refine wpIn_seq (zqe (K:=fun s=>getS s.slots k=.d (.bool false)∧s.mem=[]) hT hx hs ?_ ?_)
 ·simp only[go_sem,hm]
 ·rintro st' tm w' S' ρ' hs' ⟨h1,h2⟩
  refine wpIn_ret (hQ _ _ ⟨_,yqO hT hrs hs' h2 h1,hR _ _ hs'.grows⟩)
theorem yYj(hT:∀t ty,T t=some ty→chkTy P t ty=true){L}(hY:YCtx P G l (yields L) J Jx){fn}(hrs:fn.results.toList.mapM (trRes T)=some [.t 4])(hN:fn.ntmps=23){ks}(hlen:(ks.length:Int)≤9223372036854775807)
  (ih:∀k∈ks,EvY P (yields L) J Jx zwt [CV.agg k.cells,CV.one (D.yl l)] (yields k.pre)) {body} (hbody:tr T fn.ntmps body=some zvT) {a b} (hxs:yields L=a++yields (Pred.pre.pres ks)++b) {W0} {S0}
  {RR} (hRR:∀w' S',Jx w' S'→RR (.returned (.bool false)) w') {R} (hstop:∀a w,LeavesInM Fence.wide 0 P fn a.tmps RR a.defers .returning w→R .ret a w)
  (hexit:∀W' S3 st tm w S' ρ,J (a++yields (Pred.pre.pres ks)) W' S3→Keeps W0 S0 W' S3→Sim (baseC P W' S3 fn.ntmps G) st tm w S' ρ→st.mem=[]→R (.exit 0) ⟨tm,[]⟩ w):
  ∀rest done,ks=done++rest→∀(W') (S3) (tm) (w) (S') (ρ),J (a++yields (Pred.pre.pres done)) W' S3→Keeps W0 S0 W' S3→
   Sim (baseC P W' S3 fn.ntmps G) (pureSt [(14,.int .i64 done.length),(13,.int .i64 ks.length),(12,.lst (ks.map Pred.cells)),(1,.yl l)]) tm w S' ρ→
   Inside (FR none) 0 P body R ⟨tm,[]⟩ w:=by
 unfold zvT at hbody;obtain⟨z0,z1,rfl,k0,k1⟩:=zYm hbody;obtain⟨z2,z3,rfl,k2,k3⟩:=zYm k1;obtain⟨z4,z5,rfl,k4,k5⟩:=zYm k3;obtain⟨zg,zy,zz,rfl,kg,ky,kz⟩:=yjL k2;obtain rfl:=yjM ky;obtain rfl:=yQW kz;obtain⟨z6,rfl,k6⟩:=yqU k4;obtain⟨z7,z8,rfl,k7,k8⟩:=zYm k6;obtain⟨z9,z10,rfl,k9,k10⟩:=zYm k8;obtain⟨vg,vy,vz,rfl,vk,vky,vkz⟩:=yjL k10;obtain rfl:=yjM vkz;have hd:∀d,d<23→d<fn.ntmps:=fun d hd=>by rw[hN];exact hd
 intro rest;induction rest with
 |nil=>
  intro done hdone W' S3 tm w S' ρ hJ' hk' hs;have hdone:ks=done:=by simpa using hdone
  subst hdone;refine zYS (wpIn_seq (zqe (K:=fun z=>getS z.slots 15=.d (.bool false)∧z.mem=[]) hT k0 hs ?_ ?_))
  ·simp only[go_sem,pureSt]
  rintro st1 tm1 w1 S1 ρ1 hs1 ⟨h15,hm⟩
  refine wpIn_seq (zqO kg hs1 (b:=false) (by simp[ev,ev0,h15,AV.strip]) (by simp[gd,ev0,h15,AV.grd]) (fun h=>by cases h) (fun _=>wpIn_exit ?_));exact hexit _ _ _ _ _ _ _ hJ' hk' hs1 hm
 |cons k rest ihr=>
  intro done hdone W' S3 tm w S' ρ hJ' hk' hs;have hlt:=zzn hdone;have hw:IntKind.i64.wrap ((done.length:Int)+1)=((done.length+1:Nat):Int):=zzf (by omega);refine zYS (wpIn_seq (zqe (K:=fun z=>z=⟨[(15,.d (.bool true)),(14,.d (.int .i64 done.length)),(13,.d (.int .i64 ks.length)),(12,.d (.lst (ks.map Pred.cells))),(1,.d (.yl l))],[],[]⟩) hT k0 hs ?_ ?_))
  ·simp only[go_sem,pureSt,hlt]
  rintro _ tm1 w1 S1 ρ1 hs1 rfl
  refine wpIn_seq (zqO kg hs1 (b:=true) rfl rfl (fun _=>wpIn_skip ?_) (fun h=>by cases h));refine wpIn_seq (wpIn_block (wpIn_seq (zqe (K:=fun z=>∃sl mm,z=⟨(6,.ptr 6 0)::sl,(6,(Pred.cells k).map .d)::mm,[]⟩∧getS sl 14=.d (.int .i64 done.length)∧getS sl 13=.d (.int .i64 ks.length)∧getS sl 12=.d (.lst (ks.map Pred.cells))∧getS sl 1=.d (.yl l)) hT k7 hs1 ?_ ?_)))
  ·simp only[go_sem,hlt,zzz hdone];exact⟨_,_,rfl,rfl,rfl,rfl,rfl⟩
  rintro _ tm2 w2 S2 ρ2 hs2 ⟨sl,mm,rfl,h14,h13,h12,h1⟩
  refine wpIn_seq ?_;obtain⟨id,ops,rfl,hops,hok⟩:=yqV k9;obtain⟨hlen',hget⟩:=zyG hops;have hsz:ops.size=4:=by simpa using hlen'.symm
  refine wpIn_region ?_;have hr:List.range ops.size=List.range' 0 2++[2,3]:=by rw[hsz];rfl
  rw[hr];refine zWA (c:=baseC P W' S3 fn.ntmps G) (E:=quietE G) rfl (fun _ _ _ h=>h.elim) hT hops (fun o ho d hd=>⟨zY0 hok ho hd,rfl⟩) (FR.fw none) 0 _
   (K:=fun z=>z=⟨(19,.d (.yl l))::(18,.agg ((Pred.cells k).map .d))::(6,.ptr 6 0)::sl,(6,(Pred.cells k).map .d)::mm,[]⟩) [2,3] 2 0 (by omega) ?_ hs2 ?_
  case refine_2=>rw[Pred.zzb];simp only[go_sem,h1]
  rintro⟨tm3,ds3⟩ w3 ⟨hds,st3,S4,ρ3,hs3,rfl⟩
  simp only at hds;subst hds;obtain⟨gi2,i2,hl2,htg2,hti2⟩:=hget 2 ops[2] (by simp[hsz]);obtain⟨gi3,i3,hl3,htg3,hti3⟩:=hget 3 ops[3] (by simp[hsz]);simp only[go_sem,Prod.mk.injEq]at hl2 hl3;obtain⟨rfl,rfl⟩:=hl2;rw[wpOpsIn_cons];have h4:3+1≤ops.size:=by omega
  have hkm:k∈ks:=by rw[hdone];simp
  have hys:yields (Pred.pre.pres ks)=yields (Pred.pre.pres done)++(yields k.pre++yields (Pred.pre.pres rest)):=by rw[hdone,Pred.yqK,Pred.pre.pres];simp[yields]
  refine zXe (ops:=ops) (k:=2) (o:=ops[2]) (by simp[hsz]) htg2 (yJz hY (a:=a++yields (Pred.pre.pres done)) (ys:=yields k.pre) (b:=yields (Pred.pre.pres rest)++b) (by rw[hxs,hys];simp) hJ' hs3 hti2 (hd _ (by omega)) rfl rfl rfl
   (cvs:=[.agg (Pred.cells k),.one (.yl l)]) ?_ (ih k hkm) [(14,.int .i64 done.length),(13,.int .i64 ks.length),(12,.lst (ks.map Pred.cells)),(1,.yl l)] ?_ ?_ ?_)
  ·simp only[go_sem]
  ·intro q hq;simp only[List.mem_cons,List.not_mem_nil,or_false]at hq;rcases hq with rfl|rfl|rfl|rfl<;>simp only[go_sem,h14,h13,h12,h1]
  rotate_left
  ·
   intro W8 S8 ρ8 hx8 hs8;refine zWA (c:=baseC P W8 S8 fn.ntmps fun _=>none) (E:=quietE fun _=>none) rfl (fun _ _ _ h=>h.elim) hT hops (fun o ho d hd=>⟨zY0 hok ho hd,rfl⟩) (FR.fw none) 0 _
    (K:=fun z=>getS z.slots 21=.d (.bool true)∧z.mem=[]) [] 1 3 h4 ?_ hs8 ?_
   case refine_2=>simp only[go_sem,pureSt]
   rintro⟨tm4,ds4⟩ w4 ⟨hds,st4,S4,ρ4,hs4,h10,hm⟩
   simp only at hds;subst hds;refine zqO vk hs4 (b:=true) (by simp[ev,ev0,h10,AV.strip]) (by simp[gd,ev0,h10,AV.grd]) (fun _=>?_) (fun h=>by cases h);refine yva hT hrs vky hs4 hm (fun w' S' hg=>hRR _ _ (hY.growx _ _ _ _ hx8 hg)) (fun a w h=>?_);exact hstop a w h
  intro W8 S8 ρ8 hJ8 hk8 hs8;refine zWA (c:=baseC P W8 S8 fn.ntmps G) (E:=quietE G) rfl (fun _ _ _ h=>h.elim) hT hops (fun o ho d hd=>⟨zY0 hok ho hd,rfl⟩) (FR.fw none) 0 _
    (K:=fun z=>z=⟨(21,.d (.bool false))::(20,.d (.bool true))::(pureSt [(14,.int .i64 done.length),(13,.int .i64 ks.length),(12,.lst (ks.map Pred.cells)),(1,.yl l)]).slots,[],[]⟩) [] 1 3 h4 ?_ hs8 ?_
  case refine_2=>simp only[go_sem,pureSt]
  rintro⟨tm4,ds4⟩ w4 ⟨hds,st4,S4,ρ4,hs4,rfl⟩
  simp only at hds;subst hds;refine zqO vk hs4 (b:=false) rfl rfl (fun h=>by cases h) (fun _=>wpIn_skip ?_);refine zqe (K:=fun z=>∃sl,z=⟨(14,.d (.int .i64 (done.length+1:Nat)))::sl,[],[]⟩∧getS sl 13=.d (.int .i64 ks.length)∧getS sl 12=.d (.lst (ks.map Pred.cells))∧getS sl 1=.d (.yl l)) hT k5 hs4 ?_ ?_
  ·simp only[go_sem,pureSt,hw];exact⟨_,rfl,rfl,rfl,rfl⟩
  rintro _ tm5 w5 S5 ρ5 hs5 ⟨sl5,rfl,g13,g12,g1⟩
  obtain⟨ρ6,hs6⟩:=Ent.sound hs5 (st1:=pureSt [(14,.int .i64 (done++[k]).length),(13,.int .i64 ks.length),(12,.lst (ks.map Pred.cells)),(1,.yl l)]) (zze (by simp only[go_sem,pureSt,g13,g12,g1,lA]));have hkk:Keeps W' S3 w3 _:=hs3.grows.keeps (hY.live _ _ _ hJ');exact ihr (done++[k]) (by simp[hdone]) W8 S8 tm5 w5 S5 ρ6 (by rw[Pred.yqK,Pred.pre.pres,Pred.pre.pres];simpa[yields]using hJ8) ((hk'.trans hkk).trans hk8) hs6
theorem yJi(hT:∀t ty,T t=some ty→chkTy P t ty=true){L}(hY:YCtx P G l (yields L) J Jx){fn}(hf:P.funcs[zwt]? =some fn)(htr:trFn T fn=some zv1)(p):
  EvY P (yields L) J Jx zwt [.agg (Pred.cells p),.one (.yl l)] (yields p.pre):=by
 induction p using Pred.ind with
 |h o s n ks ih=>
 obtain⟨hname,cd,hcd,hac,hrs,hN⟩:=yqe htr;refine⟨⟨fn,hf,hname,by simp[hcd]⟩,?_⟩;intro a b W S cargs hxs hJ hargs;refine callsIn_wide.1 (callsIn_of_wp_marks (n:=0) hf hcd trivial ?_);have hs0:=zKq (P:=P) (G:=G) (fn:=fn) (by rw[hN];exact b0l rfl) (hY.live _ _ _ hJ) (hY.glob _ _ _ hJ) hargs;change Sim (baseC P W S fn.ntmps G) _ _ _ _ _ at hs0;obtain⟨x0,y0,rfl,h0,hac⟩:=zYm hac;obtain⟨x1,y1,rfl,h1,hac⟩:=zYm hac;obtain⟨x2,y2,rfl,h2,h3⟩:=zYm hac;obtain⟨x1a,x1b,rfl,h1a,h1b⟩:=zYm h1;obtain⟨x2a,x2b,rfl,h2a,h2b⟩:=zYm h2;obtain⟨x3a,x3b,rfl,h3a,h3b⟩:=zYm h3;obtain rfl:=yJU h3b;obtain⟨cg,cy,cz,rfl,hcg,hcy,hcz⟩:=yjL h1b;obtain rfl:=yjM hcz;have hd:∀d,d<23→d<fn.ntmps:=fun d hd=>by rw[hN];exact hd
 rw[Pred.zzb]at hargs hs0;simp only[Pred.op,Pred.name,Pred.n,Pred.kids]at hargs hs0;generalize hcs:([D.int .i64 o,D.str s,D.int .i64 n,D.lst (ks.map Pred.cells)]:List D)=pc at hargs hs0;refine wpIn_seq (zqe (K:=fun z=>z=⟨[(4,.d (.bool false)),(2,.ptr 2 0),(0,.agg (pc.map .d)),(1,.d (.yl l))],[(2,pc.map .d)],[]⟩) hT h0 hs0 ?_ ?_)
 ·subst hcs;simp only[go_sem]
 rintro _ tm1 w1 S1 ρ1 hs1 rfl
 refine wpIn_seq ?_;refine wpIn_seq ?_;obtain⟨id,ops,rfl,hops,hok⟩:=yqV h1a;obtain⟨hlen,hget⟩:=zyG hops;have hsz:ops.size=4:=by simpa using hlen.symm
 refine wpIn_region ?_;have hr:List.range ops.size=List.range' 0 2++[2,3]:=by rw[hsz];rfl
 rw[hr];refine zWA (c:=baseC P W S fn.ntmps G) (E:=quietE G) rfl (fun _ _ _ h=>h.elim) hT hops (fun o ho d hd=>⟨zY0 hok ho hd,rfl⟩) (FR.fw none) 0 _
  (K:=fun z=>z=⟨[(8,.agg (pc.map .d)),(7,.d (.yl l)),(4,.d (.bool false)),(2,.ptr 2 0),(0,.agg (pc.map .d)),(1,.d (.yl l))],[(2,pc.map .d)],[]⟩) [2,3] 2 0 (by omega) ?_ hs1 ?_
 case refine_2=>subst hcs;simp only[go_sem]
 rintro⟨tm2,ds2⟩ w2 ⟨hds,st2,S2,ρ2,hs2,rfl⟩
 simp only at hds;subst hds;obtain⟨gi2,i2,hl2,htg2,hti2⟩:=hget 2 ops[2] (by simp[hsz]);obtain⟨gi3,i3,hl3,htg3,hti3⟩:=hget 3 ops[3] (by simp[hsz]);simp only[go_sem,Prod.mk.injEq]at hl2 hl3;obtain⟨rfl,rfl⟩:=hl2;rw[wpOpsIn_cons];have hpre:yields (Pred.mk o s n ks).pre=[.agg pc]::yields (Pred.pre.pres ks):=by rw[Pred.zjG,yields,mC,Pred.zzb];simp only[Pred.op,Pred.name,Pred.n,Pred.kids,hcs];rfl
 rw[hpre]at hxs;have h4:3+1≤ops.size:=by omega
 refine zXe (ops:=ops) (k:=2) (o:=ops[2]) (by simp[hsz]) htg2 (yJo hY (x:=[.agg pc]) (b:=yields (Pred.pre.pres ks)++b) (by simpa using hxs) hJ hs2 hti2 (hd _ (by omega)) rfl rfl rfl ?_ [(2,.ref pc),(1,.yl l),(4,.bool false)] ?_ ?_ ?_)
 ·simp only[go_sem]
 ·subst hcs;intro q hq;simp only[List.mem_cons,List.not_mem_nil,or_false]at hq;rcases hq with rfl|rfl|rfl
  ·simp only[go_sem,List.mapM_cons,List.mapM_nil,Option.bind_eq_bind,Option.bind_some,Option.pure_def]
  ·rfl
  ·rfl
 rotate_left
 ·
  intro W' S3 ρ3 hx3 hs3;refine zWA (c:=baseC P W' S3 fn.ntmps fun _=>none) (E:=quietE fun _=>none) rfl (fun _ _ _ h=>h.elim) hT hops (fun o ho d hd=>⟨zY0 hok ho hd,rfl⟩) (FR.fw none) 0 _
   (K:=fun z=>getS z.slots 10=.d (.bool true)∧z.mem=[]) [] 1 3 h4 ?_ hs3 ?_
  case refine_2=>simp only[go_sem,pureSt]
  rintro⟨tm4,ds4⟩ w4 ⟨hds,st4,S4,ρ4,hs4,h10,hm⟩
  simp only at hds;subst hds;refine zqO hcg hs4 (b:=true) (by simp[ev,ev0,h10,AV.strip]) (by simp[gd,ev0,h10,AV.grd]) (fun _=>?_) (fun h=>by cases h);refine yva hT hrs hcy hs4 hm (fun w' S' hg=>.inr ⟨rfl,S',hY.growx _ _ _ _ hx3 hg⟩) (fun _ _ h=>h)
 intro W' S3 ρ3 hJ3 hk3 hs3;refine zWA (c:=baseC P W' S3 fn.ntmps G) (E:=quietE G) rfl (fun _ _ _ h=>h.elim) hT hops (fun o ho d hd=>⟨zY0 hok ho hd,rfl⟩) (FR.fw none) 0 _
   (K:=fun z=>z=⟨[(10,.d (.bool false)),(9,.d (.bool true)),(2,.d (.ref pc)),(1,.d (.yl l)),(4,.d (.bool false))],[],[]⟩) [] 1 3 h4 ?_ hs3 ?_
 case refine_2=>simp only[go_sem,pureSt]
 rintro⟨tm4,ds4⟩ w4 ⟨hds,st4,S4,ρ4,hs4,rfl⟩
 simp only at hds;subst hds;refine zqO hcg hs4 (b:=false) rfl rfl (fun h=>by cases h) (fun _=>wpIn_skip ?_);refine wpIn_seq ?_;refine wpIn_seq ?_;refine zqe (K:=fun z=>(ks.length:Int)≤9223372036854775807∧∃sl,z=⟨(14,.d (.int .i64 0))::(13,.d (.int .i64 ks.length))::(12,.d (.lst (ks.map Pred.cells)))::sl,[],[]⟩∧getS sl 1=.d (.yl l)) hT h2a hs4 ?_ ?_
 ·subst hcs;simp only[go_sem];intro hlen;exact⟨hlen,_,rfl,rfl⟩
 rintro _ tm5 w5 S5 ρ5 hs5 ⟨hlen,sl5,rfl,hsl5⟩
 obtain⟨xl0,rfl,h2c⟩:=yqU h2b;obtain⟨xl,rfl,h2d⟩:=yQX h2c;refine wpIn_block (zWd ?_);obtain⟨ρ6,hs6⟩:=Ent.sound hs5 (st1:=pureSt [(14,.int .i64 (0:Nat)),(13,.int .i64 ks.length),(12,.lst (ks.map Pred.cells)),(1,.yl l)]) (zze (by simp only[go_sem,pureSt,hsl5]));refine yYj hT hY hrs hN hlen ih h2d (a:=a++[[.agg pc]]) (b:=b) (by rw[hxs];simp) (W0:=W) (S0:=S) (RR:=_) (fun w' S' hx=>.inr ⟨rfl,S',hx⟩) (fun a w h=>h) ?_ ks [] rfl W' S3 tm5 w5 S5 ρ6 (by simpa[Pred.pre.pres,yields]using hJ3) ((hs2.grows.keeps (hY.live _ _ _ hJ)).trans hk3) hs6;intro W7 S7 st7 tm7 w7 S7' ρ7 hJ7 hk7 hs7 hm7;refine wpIn_seq (zqe (K:=fun z=>getS z.slots 4=.d (.bool true)∧z.mem=[]) hT h3a hs7 ?_ ?_)
 ·simp only[go_sem,hm7]
 rintro st8 tm8 w8 S8 ρ8 hs8 ⟨h8,hm8⟩
 refine wpIn_ret ⟨_,yqO hT hrs hs8 hm8 h8,.inl ⟨rfl,S8,?_,hk7.trans (hs8.grows.keeps (hY.live _ _ _ hJ7))⟩⟩;rw[hpre];exact hY.grow _ W7 S7 w8 S8 (by simpa using hJ7) hs8.grows
theorem yvt(hT:∀t ty,T t=some ty→chkTy P t ty=true){fv}(hfv:P.funcs[zwt]? =some fv)(htrv:trFn T fv=some zv1){fn}(hf:P.funcs[zz1]? =some fn)(htr:trFn T fn=some zwY)(p):
  ItOk P G zz1 [.ref (Pred.cells p)] (yields p.pre):=by
 obtain⟨hname,cd,hcd,hac,hrs,hN⟩:=yqe htr;refine⟨⟨fn,hf,hname,by simp[hcd]⟩,?_⟩;intro l w S cs J0 Jx0 Y0 hlive hglob hcs hgrow hgrowx hlk hlx hyield hJ0';obtain⟨J,hJe⟩:∃J:List (List CV)→World→Safe→Prop,J=fun pre W S1=>∃Y,J0 pre W S1 Y:=⟨_,rfl⟩;obtain⟨Jx,hJxe⟩:∃Jx:World→Safe→Prop,Jx=fun W S1=>∃Y,Jx0 W S1 Y:=⟨_,rfl⟩;have hJ0:J [] w S:=by rw[hJe];exact⟨Y0,hJ0'⟩
 have hY:YCtx P G l (yields p.pre) J Jx:=by rw[hJe,hJxe];exact YCtx.of rfl hglob hgrow hgrowx hlk hlx hyield
 refine callsIn_wide.1 (callsIn_of_wp_marks (n:=0) hf hcd trivial ?_);have hargs:RepCL w S [.one (.yl l),.one (.ref (Pred.cells p))] ((#[.func (.yield l) #[] #[]]:Array Value)++cs.toArray).toList:=by obtain⟨v,r,h1,h2,h3⟩:=hcs;simp only[RepL]at h3;subst h3;subst h1;exact⟨_,_,rfl,rfl,_,_,rfl,h2,rfl⟩
 have hs0:=zKq (P:=P) (G:=G) (fn:=fn) (by rw[hN];exact b0l rfl) hlive hglob hargs;change Sim (baseC P w S fn.ntmps G) _ _ _ _ _ at hs0;obtain⟨id,ops,rfl,hops,hok⟩:=yqV hac;obtain⟨hlen',hget⟩:=zyG hops;have hsz:ops.size=3:=by simpa using hlen'.symm
 refine wpIn_region ?_;have hr:List.range ops.size=List.range' 0 2++[2]:=by rw[hsz];rfl
 rw[hr];refine zWA (c:=baseC P w S fn.ntmps G) (E:=quietE G) rfl (fun _ _ _ h=>h.elim) hT hops (fun o ho d hd=>⟨zY0 hok ho hd,rfl⟩) (FR.fw none) 0 _
   (K:=fun z=>z=⟨[(4,.d (.yl l)),(3,.agg ((Pred.cells p).map .d)),(0,.d (.yl l)),(1,.d (.ref (Pred.cells p)))],[],[]⟩) [2] 2 0 (by omega) ?_ hs0 ?_
 case refine_2=>rw[Pred.zzb];simp only[go_sem]
 rintro⟨tm3,ds3⟩ w3 ⟨hds,st3,S4,ρ3,hs3,rfl⟩
 simp only at hds;subst hds;obtain⟨gi2,i2,hl2,htg2,hti2⟩:=hget 2 ops[2] (by simp[hsz]);simp only[zwY,go_sem,Prod.mk.injEq]at hl2;obtain⟨rfl,rfl⟩:=hl2;rw[wpOpsIn_cons];have hres:∀tm w,(results fn tm).run P w=.ok (.tuple #[]) w:=by
  intro tm w;have:fn.results=#[]:=by
   have hrs':fn.results.toList.mapM (trRes T)=some []:=hrs;cases hc:fn.results.toList with
   |nil=>exact Array.toList_eq_nil_iff.1 hc
   |cons x xs=>rw[hc]at hrs';simp only[List.mapM_cons,Option.bind_eq_bind,Option.bind_eq_some_iff,Option.pure_def,Option.some.injEq]at hrs';obtain⟨_,_,_,_,h⟩:=hrs';cases h
  rw[zvh,this];simp
 refine zXe (ops:=ops) (k:=2) (o:=ops[2]) (by simp[hsz]) htg2 (yJz hY (a:=[]) (ys:=yields p.pre) (b:=[]) (by simp) hJ0 hs3 hti2 (by rw[hN];exact b0l rfl) rfl rfl rfl
   (cvs:=[.agg (Pred.cells p),.one (.yl l)]) ?_ (yJi hT hY hfv htrv p) [] (fun q hq=>by cases hq) ?_ ?_)
 ·rw[Pred.zzb];simp only[go_sem]
 ·intro W8 S8 ρ8 hJ8 hk8 hs8;rw[hJe]at hJ8;exact⟨_,hres _ _,_,rfl,.inl ⟨S8,by simpa using hJ8⟩⟩
 ·intro W8 S8 ρ8 hx8 hs8;rw[hJxe]at hx8;exact⟨_,hres _ _,_,rfl,.inr ⟨S8,hx8⟩⟩
end Go.Abs
end
section
namespace Go.Abs
abbrev Str:=List UInt8
structure SVar where
 name:Str
 sort:Str
def SVar.cells(v:SVar):List D:=[.str v.name,.str v.sort]
def scell(s:Str):List D:=[.str s]
structure SSym where
 name:Str
 args:List Str
 res:Str
def SSym.cells(v:SSym):List D:=[.str v.name,.lst (v.args.map scell),.str v.res]
structure SHole where
 name:Str
 params:List SVar
def SHole.cells(v:SHole):List D:=[.str v.name,.lst (v.params.map SVar.cells)]
structure SEnv where
 vars:List SVar
 syms:List SSym
 holes:List SHole
def SEnv.cells(v:SEnv):List D:=[.lst (v.vars.map SVar.cells),.lst (v.syms.map SSym.cells),.lst (v.holes.map SHole.cells)]
theorem zvp{α:Type}{f:α→List D}{k}(h:∀x,(f x).length=k)(l:List α):(∀e∈l.map f,e.length=k)=True:=eq_true (by
 intro e he;obtain⟨p,_,rfl⟩:=List.mem_map.1 he;exact h p)
theorem SVar.lens(l:List SVar):(∀e∈l.map SVar.cells,e.length=2)=True:=zvp (f:=SVar.cells) (fun _=>rfl) l
theorem SSym.lens(l:List SSym):(∀e∈l.map SSym.cells,e.length=3)=True:=zvp (f:=SSym.cells) (fun _=>rfl) l
theorem SHole.lens(l:List SHole):(∀e∈l.map SHole.cells,e.length=2)=True:=zvp (f:=SHole.cells) (fun _=>rfl) l
theorem zZk(l:List Str):(∀e∈l.map scell,e.length=1)=True:=zvp (f:=scell) (fun _=>rfl) l
attribute [go_sem] SVar.lens SSym.lens SHole.lens zZk
theorem getD_at{α β:Type}{f l a r}{x:α}{d:β}(hl:l=a++x::r):(l.map f).getD a.length d=f x:=by rw[hl];exact zj4 _ _ _ _ _
theorem yXQ(n):((n+1:Nat):Int)-1=n:=by omega
def findVar(l:List SVar)(s:Str):Str×Bool:=match l.reverse.find? (fun v=>v.name==s)with
 |some v=>(v.sort,true)
 |none=>([],false)
theorem zXn{α:Type}{p a r}{x:α}(ha:∀y∈a,p y=false):(a++x::r).find? p=if p x=true then some x else r.find? p:=by
 induction a with
 |nil=>simp only[List.nil_append,List.find?];cases p x<;>rfl
 |cons y a ih=>rw[List.cons_append,List.find?,ha y (by simp)];exact ih fun z hz=>ha z (by simp[hz])
theorem zXm{α:Type}{p}{a:List α}(ha:∀y∈a,p y=false):a.find? p=none:=by
 rw[List.find?_eq_none];intro x hx;rw[ha x hx];simp
theorem yqq{n}(h1: -9223372036854775808≤n)(h2:n≤9223372036854775807):IntKind.i64.wrap n=n:=i64_in n ⟨h1,h2⟩
variable{E:AEnv}(Z:Sys E)
include Z
theorem yjI(v:SEnv)(s:Str):E.C zXJ [.agg v.cells,.one (.str s)] (.tup [.one (.str (findVar v.vars s).1),.one (.bool (findVar v.vars s).2)]):=by
 refine Z.zXJ _ _ ⟨b0l rfl,?_⟩;generalize hR:findVar v.vars s=R;simp only[zQM,SEnv.cells,go_sem];intro hlen;have hw:IntKind.i64.wrap ((v.vars.length:Int)-1)=(v.vars.length:Int)-1:=yqq (by omega) (by omega);rw[hw];refine zzg v.vars.reverse (fun done=>∀y∈done,(y.name==s)=false) (fun done rest=>⟨[(6,.d (.int .i64 ((rest.length:Int)-1))),(2,.ptr 2 0),(1,.d (.str s))],[(2,v.cells.map .d)],[]⟩) ?_ (by simp) ?_ ?_
 ·exact zze (by simp only[go_sem,SEnv.cells,List.length_reverse,oS])
 ·intro done x r hl hI;have hl2:v.vars=r.reverse++x::done.reverse:=by have:=congrArg List.reverse hl;simpa using this
  have hx:(v.vars.map SVar.cells).getD r.length []=x.cells:=by have:=getD_at (f:=SVar.cells) (d:=[]) hl2;simpa using this
  have hlt:(r.length:Int)<v.vars.length:=by rw[hl2];simp;omega
  have hge:decide ((r.length:Int)≥0)=true:=by simp
  have hw2:IntKind.i64.wrap ((r.length:Int)-1)=(r.length:Int)-1:=yqq (by omega) (by omega);unfold findVar at hR;rw[hl,zXn hI]at hR;simp only[zqx,go_sem,yXQ,hge,SEnv.cells,hx,hlt,SVar.cells,hw2];cases h1:(x.name==s)with
  |true=>simp only[h1,go_sem]at hR⊢;simp only[←hR,and_self]
  |false=>simp only[go_sem];exact⟨zze (by simp only[go_sem,oS,SEnv.cells]),zzY hI h1⟩
 ·intro hI;unfold findVar at hR;rw[zXm hI]at hR;simp only[zqx,go_sem,←hR,Int.reduceNeg,Int.zero_sub,ge_iff_le,Int.reduceSub,Int.zero_sub,Int.reduceLE]
end Go.Abs
end
section
namespace Go.Abs
def sInt:Str:=[73,110,116]
def sBool:Str:=[66,111,111,108]
def sCell:Str:=[67,101,108,108]
def findSym(l:List SSym)(s:Str):SSym×Bool:=if s==sTag then(⟨sTag,[],sInt⟩,true)else if s==sVal then(⟨sVal,[sCell],sInt⟩,true)else
 match l.find? (fun v=>v.name==s)with
 |some v=>(v,true)
 |none=>(⟨[],[],[]⟩,false)
def findHole(l:List SHole)(s:Str):SHole×Bool:=match l.find? (fun v=>v.name==s)with
 |some v=>(v,true)
 |none=>(⟨[],[]⟩,false)
theorem zj9{α:Type}{b done:List α}(h:b.take done.length=done)(hlt:done.length<b.length):∃y r',b=done++y::r':=by have:=List.take_append_drop done.length b;rw[h,List.drop_eq_getElem_cons hlt]at this;exact⟨_,_,this.symm⟩
def Small(n:Nat):Prop:=n≤1048576
structure SEnv.Ok(v:SEnv):Prop where
 syms:∀s∈v.syms,Small s.args.length
 holes:∀h∈v.holes,Small h.params.length
variable{E:AEnv}(Z:Sys E)
include Z
theorem yxA(l:List Str)(hl:Small l.length):E.C zzA [.one (.lst (l.map scell))] (.one (.lst (l.map scell))):=by
 refine Z.zzA _ _ ⟨b0l rfl,?_⟩;unfold Small at hl;have h1:l.length*16≤2^46:=by omega
 have h2:l.length≤9223372036854775807:=by omega
 simp only[zy5,go_sem];intro b hb;cases b with
 |true=>simp only[go_sem];exact congrArg D.lst (hb rfl).symm
 |false=>simp only[go_sem,List.not_mem_nil,false_implies,implies_true,zA,h1,h2]
theorem ywN(l:List SVar)(hl:Small l.length):E.C zzE [.one (.lst (l.map SVar.cells))] (.one (.lst (l.map SVar.cells))):=by
 refine Z.zzE _ _ ⟨b0l rfl,?_⟩;unfold Small at hl;have h1:l.length*32≤2^46:=by omega
 have h2:l.length≤9223372036854775807:=by omega
 simp only[zxr,go_sem];intro b hb;cases b with
 |true=>simp only[go_sem];exact congrArg D.lst (hb rfl).symm
 |false=>simp only[go_sem,List.not_mem_nil,false_implies,implies_true,zA,h1,h2]
theorem yk8(v:SEnv)(hv:v.Ok)(s:Str):E.C zZl [.agg v.cells,.one (.str s)] (.tup [.agg (findSym v.syms s).1.cells,.one (.bool (findSym v.syms s).2)]):=by
 refine Z.zZl _ _ ⟨b0l rfl,?_⟩;generalize hR:findSym v.syms s=R;unfold findSym at hR;simp only[zJf,SEnv.cells,go_sem];cases h1:(s==[116,97,103])with
 |true=>simp only[sTag,h1,go_sem]at hR⊢;simp only[←hR,SSym.cells,sInt,mN,and_self]
 |false=>
 simp only[go_sem];cases h2:(s==[118,97,108])with
 |true=>simp only[sTag,sVal,h1,h2,go_sem]at hR⊢;simp only[←hR,SSym.cells,sInt,sCell,scell,mC,mN,and_self]
 |false=>
 simp only[sTag,sVal,h1,h2,go_sem]at hR⊢;intro hlen;refine zzg v.syms (fun done=>∀y∈done,(y.name==s)=false) (fun done rest=>⟨[(19,.d (.int .i64 done.length)),(18,.d (.int .i64 v.syms.length)),(17,.d (.lst (v.syms.map SSym.cells))),(1,.d (.str s)),(4,.ptr 4 0)],[(4,[.d (.str []),.full [],.d (.str [])])],[]⟩) ?_ (by simp) ?_ ?_
 ·exact zze (by simp only[go_sem,oS])
 ·intro done x r hl hI;have hx:=getD_at (f:=SSym.cells) (d:=[]) hl;have hlt:=zzn hl;have hw:IntKind.i64.wrap ((done.length:Int)+1)=((done.length+1:Nat):Int):=zzf (by omega);rw[hl,zXn hI]at hR;simp only[zjz,go_sem,hx,hlt,SSym.cells];cases h1:(x.name==s)with
  |true=>simp only[h1,go_sem]at hR⊢;refine zza (yxA Z _ (hv.syms x (by rw[hl];simp))) ?_;simp only[go_sem];simp only[←hR,SSym.cells,and_self]
  |false=>simp only[go_sem,hw,lA];exact⟨zze (by simp only[go_sem,oS]),zzY hI h1⟩
 ·intro hI;rw[zXm hI]at hR;simp only[zjz,go_sem];simp only[←hR,SSym.cells,mN,and_self]
theorem yk9(v:SEnv)(hv:v.Ok)(s:Str):E.C zZm [.agg v.cells,.one (.str s)] (.tup [.agg (findHole v.holes s).1.cells,.one (.bool (findHole v.holes s).2)]):=by
 refine Z.zZm _ _ ⟨b0l rfl,?_⟩;generalize hR:findHole v.holes s=R;unfold findHole at hR;simp only[zJg,SEnv.cells,go_sem];intro hlen;refine zzg v.holes (fun done=>∀y∈done,(y.name==s)=false) (fun done rest=>⟨[(11,.d (.int .i64 done.length)),(10,.d (.int .i64 v.holes.length)),(9,.d (.lst (v.holes.map SHole.cells))),(1,.d (.str s)),(4,.ptr 4 0)],[(4,[.d (.str []),.full []])],[]⟩) ?_ (by simp) ?_ ?_
 ·exact zze (by simp only[go_sem,oS])
 ·intro done x r hl hI;have hx:=getD_at (f:=SHole.cells) (d:=[]) hl;have hlt:=zzn hl;have hw:IntKind.i64.wrap ((done.length:Int)+1)=((done.length+1:Nat):Int):=zzf (by omega);rw[hl,zXn hI]at hR;simp only[zjA,go_sem,hx,hlt,SHole.cells];cases h1:(x.name==s)with
  |true=>simp only[h1,go_sem]at hR⊢;refine zza (ywN Z _ (hv.holes x (by rw[hl];simp))) ?_;simp only[go_sem];simp only[←hR,SHole.cells,and_self]
  |false=>simp only[go_sem,hw,lA];exact⟨zze (by simp only[go_sem,oS]),zzY hI h1⟩
 ·intro hI;rw[zXm hI]at hR;simp only[zjA,go_sem];simp only[←hR,SHole.cells,mN,and_self]
end Go.Abs
end
section
namespace Go.Abs
def plainS(s:Str):Bool:=s==sInt||s==sBool||s==sCell
def allS(l:List Str)(s:Str):Bool:=l.all (· ==s)
def opS(o:Int)(l:List Str):Str×Int:=
 if o==6||o==7||o==8||o==9 then(if allS l sInt then(sInt,0)else([],11))
 else if o==12||o==13 then(if allS l sInt then(sBool,0)else([],11))
 else if o==10||o==11 then(if l.getD 0 []==l.getD 1 []then(sBool,0)else([],11))
 else if allS l sBool then(sBool,0)else([],11)
def appS(v:SEnv)(s:Str)(l:List Str):Str×Int:=
 if !(findSym v.syms s).2 then([],5)
 else if s==sTag then(if(l.length:Int) !=1 then([],13)else if plainS (l.getD 0 [])then([],11)else(sInt,0))
 else if(l.length:Int) !=(findSym v.syms s).1.args.length then([],13)
 else if !(l==(findSym v.syms s).1.args)then([],11)else((findSym v.syms s).1.res,0)
def holeS(v:SEnv)(s:Str)(l:List Str):Str×Int:=
 if !(findHole v.holes s).2 then([],5)
 else if(l.length:Int) !=(findHole v.holes s).1.params.length then([],13)
 else if !(l==(findHole v.holes s).1.params.map SVar.sort)then([],11)else(sBool,0)
def two(r:Str×Int):CV:=.tup [.one (.str r.1),.one (.int .i64 r.2)]
theorem yYv{l a r x s}(hl:l=a++x::r)(ha:∀y∈a,(y==s)=true):allS l s=((x==s)&&allS r s):=by rw[hl];unfold allS;rw[List.all_append,List.all_cons,List.all_eq_true.2 ha,Bool.true_and]
theorem yYs{a s}(ha:∀y∈a,(y==s)=true):allS a s=true:=List.all_eq_true.2 ha
theorem yX0{α β:Type}{f}{l:List α}{a b}{x:β}(h:l.map f=a++x::b):∃a' y b',l=a'++y::b'∧a'.map f=a∧x=f y:=by obtain⟨a',r,h1,h2,h3⟩:=List.map_eq_append_iff.1 h;obtain⟨p,b',h4,h5,h6⟩:=List.map_eq_cons_iff.1 h3;exact⟨a',p,b',by rw[h1,h4],h2,h5.symm⟩
variable{E:AEnv}(Z:Sys E)
include Z
theorem zJy(s:Str):E.C zwx [.one (.str s)] (.one (.bool (plainS s))):=by refine Z.zwx _ _ ⟨b0l rfl,?_⟩;simp only[zYg,go_sem,plainS,sInt,sBool,sCell]
theorem zWb(s:Str):E.C zwj [.one (.str s)] (.one (.clo zys [.ref [.str s]])):=by refine Z.zwj _ _ ⟨b0l rfl,?_⟩;simp only[zX2,go_sem];all_goals rfl
theorem zYk(l)(s:Str):E.C zys [.one (.lst (l.map scell)),.one (.ref [.str s])] (.one (.bool (allS l s))):=by
 refine Z.zys _ _ ⟨b0l rfl,?_⟩;generalize hR:allS l s=R;simp only[zYf,go_sem];intro hlen;refine zzg l (fun done=>∀y∈done,(y==s)=true) (fun done rest=>⟨[(8,.d (.int .i64 done.length)),(7,.d (.int .i64 l.length)),(6,.d (.lst (l.map scell))),(1,.d (.ref [.str s]))],[],[]⟩) ?_ (by simp) ?_ ?_
 ·exact zze (by simp only[go_sem])
 ·intro done x r hl hI;have hx:=getD_at (f:=scell) (d:=[]) hl;have hlt:=zzn hl;have hw:IntKind.i64.wrap ((done.length:Int)+1)=((done.length+1:Nat):Int):=zzf (by omega);rw[yYv hl hI]at hR;simp only[zw9,go_sem,hx,hlt,scell];cases h1:(x==s)with
  |true=>simp only[h1,go_sem,hw,lA];exact⟨zze (by simp only[go_sem]),zzY hI h1⟩
  |false=>simp only[h1,go_sem]at hR⊢;exact hR
 ·intro hI;rw[yYs hI]at hR;subst hR;simp only[zw9,go_sem]
theorem zWK(l:List Str)(hl:2≤l.length):E.C zyF [.one (.lst (l.map scell))] (.one (.bool (l.getD 0 []==l.getD 1 []))):=by
 match l,hl with
 |a::b::r,_=>
  refine Z.zyF _ _ ⟨b0l rfl,?_⟩;have h:=zZk (a::b::r);have h1:(0:Int)<((r.length+1+1:Nat):Int):=by omega
  have h2:(1:Int)<((r.length+1+1:Nat):Int):=by omega
  simp only[mC]at h;simp only[zjB,go_sem,h,scell,h1,h2]at h⊢
def ruleS(o:Int):D×Str:=
 if o==6||o==7||o==8||o==9 then(.clo zys [.ref [.str sInt]],sInt)
 else if o==12||o==13 then(.clo zys [.ref [.str sInt]],sBool)
 else if o==10||o==11 then(.clo zyF [],sBool)
 else(.clo zys [.ref [.str sBool]],sBool)
theorem zVz(o):E.C zxT [.one (.int .i64 o)] (.agg [(ruleS o).1,.str (ruleS o).2]):=by
 refine Z.zxT _ _ ⟨b0l rfl,?_⟩;generalize hR:ruleS o=R;unfold ruleS at hR;have ha:=zWb Z sInt;have hb:=zWb Z sBool;simp only[sInt,sBool]at ha hb hR;simp only[zq1,go_sem];cases h6:(o==6)<;>cases h7:(o==7)<;>cases h8:(o==8)<;>cases h9:(o==9)<;>cases h12:(o==12)<;>cases h13:(o==13)<;>cases h10:(o==10)<;>cases h11:(o==11)<;>
  first
  |(exfalso;simp at*;omega)
  |(simp only[go_sem,h6,h7,h8,h9,h10,h11,h12,h13]at hR⊢;first|(refine zza ha ?_;simp only[go_sem,←hR])|(refine zza hb ?_;simp only[go_sem,←hR])|simp only[go_sem,←hR])
theorem zKO(v)(hv:v.Ok)(s:Str)(l):E.C zxw [.agg v.cells,.one (.str s),.one (.lst (l.map scell))] (two (appS v s l)):=by
 have hf:=yk8 Z v hv s;refine Z.zxw _ _ ⟨b0l rfl,?_⟩;generalize hR:appS v s l=R;unfold appS at hR;try unfold two
 rw[SEnv.cells]at*
 simp only[zj3,go_sem];refine zza hf ?_;have htag:(s==sTag)=true→(findSym v.syms s).1.res=sInt:=by intro h;unfold findSym;rw[if_pos h]
 generalize findSym v.syms s=q at*
 obtain⟨⟨qn,qa,qr⟩,qb⟩:=q;simp only[go_sem,SSym.cells]at hR⊢;cases qb with
 |false=>simp only[go_sem]at hR⊢;simp only[go_sem,←hR]
 |true=>
 simp only[go_sem]at hR⊢;cases h1:(s==sTag)with
 |true=>
  have h1':=h1;simp only[sTag]at h1';have hq:=htag h1;simp only at hq;simp only[go_sem,h1,h1']at hR⊢;intro hlen;cases h2:((l.length:Int) !=1)with
  |true=>simp only[go_sem,h2]at hR⊢;simp only[go_sem,←hR]
  |false=>
   simp only[go_sem,h2]at hR⊢;have h3:l.length=1:=by simp at h2;omega
   match l,h3 with
   |[x],_=>simp only[go_sem,scell]at hR⊢;refine zza (zJy Z x) ?_;cases h4:plainS x<;>simp only[go_sem,h4]at hR⊢<;>simp only[go_sem,←hR,hq]
 |false=>
  have h1':=h1;simp only[sTag]at h1';simp only[go_sem,h1,h1']at hR⊢;intro hlen hlen2;by_cases h2:l.length=qa.length
  ·have h3:((l.length:Int) !=(qa.length:Int))=false:=by simp[h2]
   simp only[go_sem,h3]at hR⊢;intro _;refine zzg l (fun done=>qa.take done.length=done) (fun done rest=>⟨[(39,.d (.int .i64 done.length)),(38,.d (.int .i64 l.length)),(37,.d (.lst (l.map scell))),(8,.ptr 8 0)],[(8,[.d (.str qn),.d (.lst (qa.map scell)),.d (.str qr)])],[]⟩) ?_ (by simp) ?_ ?_
   ·exact zze (by simp only[go_sem,oS])
   ·intro done x r hl hI;obtain⟨y,r',hb⟩:=zj9 hI (by rw[←h2,hl];simp);have hx:=getD_at (f:=scell) (d:=[]) hl;have hy:=getD_at (f:=scell) (d:=[]) hb;have hlt:=zzn hl;have hlt2:=zzn hb;have hw:IntKind.i64.wrap ((done.length:Int)+1)=((done.length+1:Nat):Int):=zzf (by omega);simp only[zx4,go_sem,hx,hy,hlt,hlt2,scell];cases h4:(x==y)with
    |true=>
     have:x=y:=by simpa using h4
     subst this;simp only[go_sem,hw,lA];exact⟨zze (by simp only[go_sem,oS]),by rw[hb,show done++x::r'=(done++[x])++r' by simp];exact List.take_left' (by simp)⟩
    |false=>
     have h5:(l==qa)=false:=by simp only[beq_eq_false_iff_ne,ne_eq]at h4⊢;intro e;rw[hl,hb]at e;exact h4 (List.cons.inj (List.append_cancel_left e)).1
     simp only[go_sem,h5]at hR⊢;simp only[go_sem,←hR]
   ·intro hI;have h5:l=qa:=by rw[←hI,h2,List.take_length]
    subst h5;simp only[go_sem,BEq.rfl]at hR;simp only[zx4,go_sem,←hR]
  ·have h3:((l.length:Int) !=(qa.length:Int))=true:=by simp;omega
   simp only[go_sem,h3]at hR⊢;simp only[go_sem,←hR]
theorem zVy(v)(hv:v.Ok)(s:Str)(l):E.C zxS [.agg v.cells,.one (.str s),.one (.lst (l.map scell))] (two (holeS v s l)):=by
 have hf:=yk9 Z v hv s;refine Z.zxS _ _ ⟨b0l rfl,?_⟩;generalize hR:holeS v s l=R;unfold holeS at hR;try unfold two
 rw[SEnv.cells]at*
 simp only[zq0,go_sem];refine zza hf ?_;generalize findHole v.holes s=q at*
 obtain⟨⟨qn,qa⟩,qb⟩:=q;simp only[go_sem,SHole.cells]at hR⊢;cases qb with
 |false=>simp only[go_sem]at hR⊢;simp only[go_sem,←hR]
 |true=>
 simp only[go_sem]at hR⊢;intro hlen hlen2;by_cases h2:l.length=qa.length
 ·have h3:((l.length:Int) !=(qa.length:Int))=false:=by simp[h2]
  simp only[go_sem,h3]at hR⊢;intro _;refine zzg l (fun done=>(qa.map SVar.sort).take done.length=done) (fun done rest=>⟨[(28,.d (.int .i64 done.length)),(27,.d (.int .i64 l.length)),(26,.d (.lst (l.map scell))),(8,.ptr 8 0)],[(8,[.d (.str qn),.d (.lst (qa.map SVar.cells))])],[]⟩) ?_ (by simp) ?_ ?_
  ·exact zze (by simp only[go_sem,oS])
  ·intro done x r hl hI;obtain⟨y0,r0,hb0⟩:=zj9 hI (by rw[lM,←h2,hl];simp);obtain⟨da,y,r',hb,hda,rfl⟩:=yX0 hb0;have hx:=getD_at (f:=scell) (d:=[]) hl;have hy:=getD_at (f:=SVar.cells) (d:=[]) hb;have hdl:da.length=done.length:=by rw[←hda];simp
   rw[hdl]at hy;have hlt:=zzn hl;have hlt2:=zzn hb;rw[hdl]at hlt2;have hw:IntKind.i64.wrap ((done.length:Int)+1)=((done.length+1:Nat):Int):=zzf (by omega);simp only[zwE,go_sem,hx,hy,hlt,hlt2,scell,SVar.cells];cases h4:(x==y.sort)with
   |true=>
    have hxy:x=y.sort:=by simpa using h4
    simp only[go_sem,hw,lA];exact⟨zze (by simp only[go_sem,oS]),by rw[hb0,←hxy,show done++x::r0=(done++[x])++r0 by simp];exact List.take_left' (by simp)⟩
   |false=>
    have h5:(l==qa.map SVar.sort)=false:=by simp only[beq_eq_false_iff_ne,ne_eq]at h4⊢;intro e;rw[hl,hb0]at e;exact h4 (List.cons.inj (List.append_cancel_left e)).1
    simp only[go_sem,h5]at hR⊢;simp only[go_sem,←hR]
  ·intro hI;have h5:(l==qa.map SVar.sort)=true:=by have e:(qa.map SVar.sort).take l.length=qa.map SVar.sort:=List.take_of_length_le (by rw[lM,h2];exact Nat.le_refl _);rw[beq_iff_eq];exact hI.symm.trans e
   simp only[go_sem,h5]at hR;simp only[zwE,go_sem,←hR,sBool]
 ·have h3:((l.length:Int) !=(qa.length:Int))=true:=by simp;omega
  simp only[go_sem,h3]at hR⊢;simp only[go_sem,←hR]
end Go.Abs
end
section
namespace Go.Abs
def nodeS(v:SEnv)(o:Int)(s:Str)(l:List Str):Str×Int:=
 if o==1 then(sInt,0)else if o==2 then(sBool,0)
 else if o==3 then(if !(findVar v.vars s).2 then([],5)else((findVar v.vars s).1,0))
 else if o==4 then appS v s l else if o==5 then holeS v s l else opS o l
variable{E:AEnv}(Z:Sys E)
include Z
end Go.Abs
end
section
namespace Go.Abs
variable{E:AEnv}(Z:Sys E)
include Z
theorem yzG(v)(hv:v.Ok)(o)(s:Str)(n)(ks)(l)(hl:(o==10||o==11)=true→2≤l.length):
  E.C zks [.agg v.cells,.agg (Pred.cells (.mk o s n ks)),.one (.lst (l.map scell))] (two (nodeS v o s l)):=by
 have hvar:=yjI Z v s;have happ:=zKO Z v hv s l;have hfil:=zVy Z v hv s l;have hrul:=zVz Z o;have hal1:=zYk Z l sInt;have hal2:=zYk Z l sBool;refine Z.zks _ _ ⟨b0l rfl,?_⟩;generalize hR:nodeS v o s l=R;unfold nodeS at hR;unfold two at*
 rw[SEnv.cells]at*
 rw[Pred.zzb];simp only[zYO,go_sem,Pred.op,Pred.name,Pred.n,Pred.kids];cases h1:(o==1)with
 |true=>simp only[h1,go_sem,sInt]at hR⊢;simp only[go_sem,←hR]
 |false=>
 cases h2:(o==2)with
 |true=>simp only[h1,h2,go_sem,sBool]at hR⊢;simp only[go_sem,←hR]
 |false=>
 cases h3:(o==3)with
 |true=>simp only[h1,h2,h3,go_sem]at hR⊢;refine zza hvar ?_;simp only[go_sem];cases h:(findVar v.vars s).2<;>simp only[h,go_sem]at hR⊢<;>simp only[go_sem,←hR]
 |false=>
 cases h4:(o==4)with
 |true=>simp only[h1,h2,h3,h4,go_sem]at hR⊢;refine zza happ ?_;simp only[go_sem,hR]
 |false=>
 cases h5:(o==5)with
 |true=>simp only[h1,h2,h3,h4,h5,go_sem]at hR⊢;refine zza hfil ?_;simp only[go_sem,hR]
 |false=>
 simp only[h1,h2,h3,h4,h5,go_sem]at hR⊢;refine zza hrul ?_;unfold opS at hR;unfold ruleS;cases h6:(o==6||o==7||o==8||o==9)with
 |true=>simp only[h6,go_sem]at hR⊢;refine zza hal1 ?_;cases h:allS l sInt<;>simp only[h,go_sem]at hR⊢<;>simp only[go_sem,←hR]
 |false=>
 cases h7:(o==12||o==13)with
 |true=>simp only[h6,h7,go_sem]at hR⊢;refine zza hal1 ?_;cases h:allS l sInt<;>simp only[h,go_sem]at hR⊢<;>simp only[go_sem,←hR]
 |false=>
 cases h8:(o==10||o==11)with
 |true=>simp only[h6,h7,h8,go_sem]at hR hl⊢;refine zza (zWK Z l hl) ?_;cases h:(l.getD 0 []==l.getD 1 [])<;>simp only[h,go_sem]at hR⊢<;>simp only[go_sem,←hR]
 |false=>simp only[h6,h7,h8,go_sem]at hR⊢;refine zza hal2 ?_;cases h:allS l sBool<;>simp only[h,go_sem]at hR⊢<;>simp only[go_sem,←hR]
end Go.Abs
end
section
namespace Go.Abs
def ofS(v:SEnv):Pred→Str×Int
 |.mk o s n ks=>if errs ks !=0 then([],errs ks)else nodeS v o s (sorts ks)
where
 errs:List Pred→Int
 |[]=>0
 |k::ks=>if(ofS v k).2 !=0 then(ofS v k).2 else errs ks
 sorts:List Pred→List Str
 |[]=>[]
 |k::ks=>(ofS v k).1::sorts ks
theorem zJj(v)(o)(s:Str)(n)(ks):ofS v (.mk o s n ks)=if ofS.errs v ks !=0 then([],ofS.errs v ks)else nodeS v o s (ks.map fun k=>(ofS v k).1):=by
 rw[ofS];have:ofS.sorts v ks=ks.map fun k=>(ofS v k).1:=by
  induction ks with
  |nil=>rfl
  |cons k ks ih=>rw[ofS.sorts,ih];rfl
 rw[this]
theorem yj8{v a b k}(ha:∀x∈a,(ofS v x).2=0):ofS.errs v (a++k::b)=if(ofS v k).2 !=0 then(ofS v k).2 else ofS.errs v b:=by
 induction a with
 |nil=>rfl
 |cons x a ih=>rw[List.cons_append,ofS.errs,ha x (by simp)];exact ih fun y hy=>ha y (by simp[hy])
theorem yxG{v a}(ha:∀x∈a,(ofS v x).2=0):ofS.errs v a=0:=by
 induction a with
 |nil=>rfl
 |cons x a ih=>rw[ofS.errs,ha x (by simp)];exact ih fun y hy=>ha y (by simp[hy])
def NodeOk(q:Pred):Prop:=((q.op==10||q.op==11)=true→2≤q.kids.length)∧q.kids.length≤24
def Arity(p:Pred):Prop:=∀q∈p.pre,NodeOk q
theorem Arity.kid{o}{s:Str}{n ks}(h:Arity (.mk o s n ks)){k}(hk:k∈ks):Arity k:=by
 intro q hq;refine h q ?_;rw[Pred.zjG];refine List.mem_cons_of_mem _ ?_;clear h;induction ks with
 |nil=>cases hk
 |cons x ks ih=>
  rw[Pred.pre.pres,List.mem_append];rcases List.mem_cons.1 hk with rfl|hk
  ·exact .inl hq
  ·exact .inr (ih hk)
theorem Arity.top{o}{s:Str}{n ks}(h:Arity (.mk o s n ks)):NodeOk (.mk o s n ks):=h _ (by rw[Pred.zjG];simp)
theorem zK8:∀{l},Pred.first l=0→∀q∈l,Pred.err q=0
 |[],_,q,hq=>by cases hq
 |p::l,h,q,hq=>by
  rw[Pred.first]at h;by_cases hp:(Pred.err p !=0)=true
  ·rw[if_pos hp]at h;simp[h]at hp
  ·rw[if_neg hp]at h;rcases List.mem_cons.1 hq with rfl|hq
   ·simpa using hp
   ·exact zK8 h q hq
theorem yZM{q}(h:Pred.err q=0):NodeOk q:=by
 obtain⟨o,s,n,ks⟩:=q;change nodeE o s n ks=0 at h;unfold nodeE at h;by_cases h1:(decide (o<1)||decide (o>18)||!s==[]&&!isOpNamed o||n !=0&&!(o==1||o==2)||!kidsOk o ks.length)=true
 ·rw[if_pos h1]at h;cases h
 ·simp only[Bool.or_eq_true,not_or]at h1;have hk:kidsOk o ks.length=true:=by simpa using h1.2
  unfold kidsOk at hk;refine⟨fun ho=>?_,?_⟩<;>simp only[Pred.op,Pred.kids]at*
  ·split at hk
   ·simp at ho;simp_all;omega
   ·split at hk
    ·simp at ho;simp_all;omega
    ·split at hk
     ·simp at ho;simp_all;omega
     ·simp at hk;omega
  ·split at hk
   ·simp at hk;simp[hk]
   ·split at hk
    ·simp at hk;omega
    ·split at hk<;>(simp at hk;omega)
theorem yjX{p}(h:Pred.formE p=0):Arity p:=by rw[Pred.zWm]at h;exact fun q hq=>yZM (zK8 h q hq)
variable{E:AEnv}(Z:Sys E)
include Z
theorem yzF(v)(hv:v.Ok){b7 b2}(h7:E.G b7=some [.clo zyd [.gp b7 0,.gp b2 0]])(h2:E.G b2=some v.cells)(p)(hp:Arity p):
  E.C zyd [.agg p.cells,.one (.gp b7 0),.one (.gp b2 0)] (two (ofS v p)):=by
 induction p using Pred.ind with
 |h o s n ks ih=>
 have hn:=fun l hl=>yzG Z v hv o s n ks l hl;refine Z.zyd _ _ ⟨b0l rfl,?_⟩;generalize hR:ofS v (.mk o s n ks)=R;rw[zJj]at hR;unfold two at*
 rw[SEnv.cells]at*
 rw[Pred.zzb]at*
 simp only[zYN,go_sem,Pred.op,Pred.name,Pred.n,Pred.kids]at hn⊢;intro hlen;have hk24:=hp.top.2;simp only[Pred.kids]at hk24;refine zzg ks (fun done=>∀x∈done,(ofS v x).2=0) (fun done rest=>⟨[(14,.d (.int .i64 done.length)),(13,.d (.int .i64 ks.length)),(12,.d (.lst (ks.map Pred.cells))),(1,.d (.gp b7 0)),(2,.d (.gp b2 0)),(3,.ptr 3 0),(6,.own 6 1 ((done.map fun k=>(ofS v k).1).map scell))],[(3,[.d (.int .i64 o),.d (.str s),.d (.int .i64 n),.d (.lst (ks.map Pred.cells))])],[(6,true)]⟩) ?_ (by simp) ?_ ?_
 ·exact zxV 6 6 1 [] [(6,6)] rfl (by simp) rfl (by simp only[Ent0,go_sem,cN,oS])
 ·intro done k r hl hI;have hk':=ih k (by rw[hl];simp) (hp.kid (by rw[hl];simp));have hlt:=zzn hl;have hw:IntKind.i64.wrap ((done.length:Int)+1)=((done.length+1:Nat):Int):=zzf (by omega);rw[hl,yj8 hI,←hl]at hR;have hd:done.length≤24:=by omega
  have ha1:(done.length+1)*16≤2^46:=by omega
  have ha2:done.length+1≤9223372036854775807:=by omega
  simp only[zkI,go_sem,hlt,zzz hl,h7];refine zza hk' ?_;simp only[go_sem];cases h3:((ofS v k).2 !=0)with
  |true=>simp only[h3,go_sem]at hR⊢;simp only[go_sem,←hR]
  |false=>simp only[go_sem,hw,lA,zZk,lM];refine⟨⟨by simp,ha1,by omega⟩,zzk [(6,30)] ?_,zzY hI (by simpa using h3)⟩;simp only[go_sem,cN,oS,mA,scell]
 ·intro hI;rw[yxG hI]at hR;have hR:nodeS v o s (ks.map fun k=>(ofS v k).1)=R:=hR;simp only[zkI,go_sem,h2];refine zza (hn _ (by rw[lM];exact hp.top.1)) ?_;simp only[go_sem,hR]
end Go.Abs
end
section
namespace Go.Abs
structure Fam(X:(Nat→Option (List D))→AEnv):Prop where
 sys:∀G,Sys (X G)
 G:∀G,(X G).G=G
 it:∀G p,(X G).It zz1 [.ref (Pred.cells p)] (yields p.pre)
def OfS(v:SEnv)(p:Pred):Str×Int:=if p.checkE !=0 then([],p.checkE)else ofS v p
theorem zqy{p:Pred}(h:p.checkE=0):p.formE=0:=by
 unfold Pred.checkE at h;by_cases h1:decide (p.nodes>400)=true
 ·rw[if_pos h1]at h;cases h
 ·rw[if_neg h1]at h;by_cases h2:decide (p.depth>40)=true
  ·rw[if_pos h2]at h;cases h
  ·rw[if_neg h2]at h;exact h
theorem ywj{X}(F:Fam X)(ZF:∀G bs dep args r,BodyF X bs dep G zkH args r→(X G).C zzF args r){G}(hG:G 2=some (kws.map .str))(v)(hv:v.Ok)(p):
  (X G).C zzF [.agg v.cells,.agg p.cells] (two (OfS v p)):=by
 have hc:=zZJ (F.sys G) (by rw[F.G];exact hG) (F.it G) p;refine ZF G [2,7] 4 _ _ ⟨b0l rfl,?_⟩;generalize hR:OfS v p=R;unfold OfS at hR;unfold two at*
 have hvc:v.cells=[.lst (v.vars.map SVar.cells),.lst (v.syms.map SSym.cells),.lst (v.holes.map SHole.cells)]:=rfl;have key:p.checkE=0→∀G' b7 b2,G' b7=some [.clo zyd [.gp b7 0,.gp b2 0]]→G' b2=some v.cells→(X G').C zyd [.agg p.cells,.one (.gp b7 0),.one (.gp b2 0)] (two (ofS v p)):=fun h0 G' b7 b2 h7 h2=>
  yzF (F.sys G') v hv (by rw[F.G];exact h7) (by rw[F.G];exact h2) p (yjX (zqy h0))
 rw[hvc]at*
 obtain⟨o,s,n,ks⟩:=p;rw[Pred.zzb]at*
 simp only[zkH,awpF,go_sem,Pred.op,Pred.name,Pred.n,Pred.kids]at hc key⊢;refine zza hc ?_;simp only[go_sem];cases h1:((Pred.mk o s n ks).checkE !=0)with
 |true=>simp only[h1,go_sem]at hR⊢;simp only[go_sem,←hR]
 |false=>
 simp only[h1,go_sem]at hR;simp only[awpF,go_sem];intro b2 hb2;refine⟨_,_,rfl,rfl,?_⟩;simp only[awpF,St.frz,frzSlots,frzMem,AV.frz,AV.frzs,go_sem];intro b7 hb7;have hne:b2≠b7:=by
  rintro rfl
  have:=hb7 [.lst (v.vars.map SVar.cells),.lst (v.syms.map SSym.cells),.lst (v.holes.map SHole.cells)] (by simp[Go.Abs.ext]);cases this
 refine⟨_,[.clo zyd [.gp b7 0,.gp b2 0]],rfl,rfl,?_⟩;have k7:(ext (ext G b2 [.lst (v.vars.map SVar.cells),.lst (v.syms.map SSym.cells),.lst (v.holes.map SHole.cells)]) b7 [.clo zyd [.gp b7 0,.gp b2 0]]) b7=some [.clo zyd [.gp b7 0,.gp b2 0]]:=by simp[Go.Abs.ext]
 have k2:(ext (ext G b2 [.lst (v.vars.map SVar.cells),.lst (v.syms.map SSym.cells),.lst (v.holes.map SHole.cells)]) b7 [.clo zyd [.gp b7 0,.gp b2 0]]) b2=some [.lst (v.vars.map SVar.cells),.lst (v.syms.map SSym.cells),.lst (v.holes.map SHole.cells)]:=by simp[Go.Abs.ext,hne]
 have hk:=key (by simpa using h1) _ b7 b2 k7 k2;simp only[F.G,k7,go_sem];unfold two at hk;refine zza hk ?_;simp only[go_sem,hR]
end Go.Abs
end
section
namespace Go.Abs
namespace Pred
def same:Pred→Pred→Bool
 |.mk o s n ks,.mk o' s' n' ks'=>o==o'&&s==s'&&n==n'&&sames ks ks'
where sames:List Pred→List Pred→Bool
 |[],[]=>true
 |k::ks,k'::ks'=>same k k'&&sames ks ks'
 |_,_=>false
theorem zVw(o)(s:Str)(n)(ks)(o')(s':Str)(n')(ks'):same (.mk o s n ks) (.mk o' s' n' ks')=(o==o'&&s==s'&&n==n'&&same.sames ks ks'):=by rw[same]
theorem zyC:∀a b,same a b=true↔a=b:=by
 intro a;induction a using Pred.ind with
 |h o s n ks ih=>
 intro b;obtain⟨o',s',n',ks'⟩:=b;have hk:∀l',same.sames ks l'=true↔ks=l':=by
  induction ks with
  |nil=>intro l';cases l'<;>simp[same.sames]
  |cons k ks ih2=>
   intro l';cases l' with
   |nil=>simp[same.sames]
   |cons k' l'=>simp only[same.sames,Bool.and_eq_true,List.cons.injEq,ih k (by simp) k',ih2 (fun x hx=>ih x (by simp[hx])) l']
 rw[zVw];simp only[Bool.and_eq_true,beq_iff_eq,hk,Pred.mk.injEq,and_assoc]
theorem zKN:∀a b,same.sames a b=true↔a=b
 |[],[]=>by simp[same.sames]
 |[],_::_=>by simp[same.sames]
 |_::_,[]=>by simp[same.sames]
 |x::a,y::b=>by simp only[same.sames,Bool.and_eq_true,List.cons.injEq,zyC,zKN a b]
theorem zjS:∀{a b l l'},a.length=b.length→same.sames (a++l) (b++l')=(same.sames a b&&same.sames l l')
 |[],[],l,l',_=>by simp[same.sames]
 |x::a,y::b,l,l',h=>by simp only[List.cons_append,same.sames,zjS (a:=a) (b:=b) (by simpa using h),Bool.and_assoc]
 |[],_::_,_,_,h=>by simp at h
 |_::_,[],_,_,h=>by simp at h
theorem yzD:∀{a b},a.length≠b.length→same.sames a b=false:=by intro a b h;rw[Bool.eq_false_iff];intro e;exact h (by rw[(zKN a b).1 e])
end Pred
theorem zJB{α:Type}{b:List α}{n}(h:n<b.length):∃bd y r,b=bd++y::r∧bd.length=n:=by have:=List.take_append_drop n b;rw[List.drop_eq_getElem_cons h]at this;exact⟨_,_,_,this.symm,by simp;omega⟩
theorem yxL{b bd r y n}(hb:b=bd++y::r)(hn:bd.length=n):(b.map Pred.cells).getD n []=Pred.cells y:=by subst hn;exact zzz hb
def zeroP:Pred:=.mk 0 [] 0 []
def trueP:Pred:=.mk 2 [] 1 []
def falseP:Pred:=.mk 2 [] 0 []
variable{E:AEnv}(Z:Sys E)
include Z
theorem ywb(a b)(h:∀x∈a,∀y,E.C zyc [.agg (Pred.cells x),.agg (Pred.cells y)] (.one (.bool (x.same y)))):
  E.C zyo [.one (.lst (a.map Pred.cells)),.one (.lst (b.map Pred.cells)),.one (.clo zyc [])] (.one (.bool (Pred.same.sames a b))):=by
 refine Z.zyo _ _ ⟨b0l rfl,?_⟩;generalize hR:Pred.same.sames a b=R;simp only[zkR,go_sem];intro hl1 hl2;by_cases hlen:a.length=b.length
 ·have h1:((a.length:Int) !=(b.length:Int))=false:=by simp[hlen]
  simp only[h1,go_sem];intro _;refine zzg a (fun done=>Pred.same.sames done (b.take done.length)=true) (fun done rest=>⟨[(15,.d (.int .i64 done.length)),(14,.d (.int .i64 a.length)),(2,.d (.clo zyc [])),(0,.d (.lst (a.map Pred.cells))),(1,.d (.lst (b.map Pred.cells)))],[],[]⟩) ?_ (by simp[Pred.same.sames]) ?_ ?_
  ·exact zze (by simp only[go_sem])
  ·intro done x r hl hI;obtain⟨bd,y,r',hb,hbl⟩:=zJB (b:=b) (n:=done.length) (by rw[←hlen,hl];simp);have htk:b.take done.length=bd:=by rw[hb];exact List.take_left' hbl
   have hlt:=zzn hl;have hlt2:=zzn hb;rw[hbl]at hlt2;have hw:IntKind.i64.wrap ((done.length:Int)+1)=((done.length+1:Nat):Int):=zzf (by omega);rw[htk]at hI;rw[hl,hb,Pred.zjS hbl.symm,hI,Pred.same.sames,Bool.true_and]at hR;simp only[zxd,go_sem,zzz hl,yxL hb hbl,hlt,hlt2];refine zza (h x (by rw[hl];simp) y) ?_;cases h2:x.same y with
   |true=>
    simp only[go_sem,hw,lA];refine⟨zze (by simp only[go_sem]),?_⟩;have ht2:b.take (done.length+1)=bd++[y]:=by rw[hb,show bd++y::r'=(bd++[y])++r' by simp];exact List.take_left' (by simp[hbl])
    rw[ht2,Pred.zjS hbl.symm,hI];simp[Pred.same.sames,h2]
   |false=>simp only[h2,go_sem]at hR⊢;exact hR
  ·intro hI;rw[hlen,List.take_length]at hI;rw[hI]at hR;subst hR;simp only[zxd,go_sem]
 ·have h1:((a.length:Int) !=(b.length:Int))=true:=by simp;omega
  rw[Pred.yzD hlen]at hR;simp only[h1,go_sem,hR]
theorem zy7(a):∀b,E.C zyc [.agg (Pred.cells a),.agg (Pred.cells b)] (.one (.bool (a.same b))):=by
 induction a using Pred.ind with
 |h o s n ks ih=>
 intro b;obtain⟨o',s',n',ks'⟩:=b;have he:=ywb Z ks ks' ih;refine Z.zyc _ _ ⟨b0l rfl,?_⟩;rw[Pred.zzb,Pred.zzb,Pred.zVw];simp only[zVV,go_sem,Pred.op,Pred.name,Pred.n,Pred.kids];refine zjX he ?_;simp only[go_sem]
end Go.Abs
end
section
namespace Go.Abs
theorem zwG{st st1}(s i t sz)(cs)(es)(mp)(h0:getM st.mem s=some cs)(h1:cs[i]? =some (.full es))(h2:∀e∈es,e.length=sz)(h3:getT st.tk t=none)
  (h:Ent0 mp {st with mem:=(s,cs.set i (.own t sz es))::st.mem,tk:=(t,true)::st.tk} st1):Ent st st1:=⟨[(.m s i,t,sz)],mp,_,⟨_,⟨cs,es,h0,h1,h2,h3,rfl⟩,rfl⟩,h⟩
def AllN(P:Pred→Prop)(p:Pred):Prop:=∀q∈p.pre,P q
theorem AllN.kid{P o}{s:Str}{n ks}(h:AllN P (.mk o s n ks)){k}(hk:k∈ks):AllN P k:=by
 intro q hq;refine h q ?_;rw[Pred.zjG];refine List.mem_cons_of_mem _ ?_;clear h;induction ks with
 |nil=>cases hk
 |cons x ks ih=>
  rw[Pred.pre.pres,List.mem_append];rcases List.mem_cons.1 hk with rfl|hk
  ·exact .inl hq
  ·exact .inr (ih hk)
theorem AllN.top{P o}{s:Str}{n ks}(h:AllN P (.mk o s n ks)):P (.mk o s n ks):=h _ (by rw[Pred.zjG];simp)
def Tame:Pred→Prop:=AllN fun q=>Small q.kids.length
theorem yWi{α:Type}{l:List α}(h:l.length=1):∃a,l=[a]:=by
 match l,h with
 |[a],_=>exact⟨a,rfl⟩
variable{E:AEnv}(Z:Sys E)
include Z
theorem zX6(p)(hp:Tame p):E.C zxM [.agg (Pred.cells p)] (.agg (Pred.cells p)):=by
 induction p using Pred.ind with
 |h o s n ks ih=>
 refine Z.zxM _ _ ⟨b0l rfl,?_⟩;rw[Pred.zzb];have hk:Small ks.length:=hp.top;unfold Small at hk;simp only[zXY,go_sem,Pred.op,Pred.name,Pred.n,Pred.kids];intro hlen;refine zzg ks (fun _=>True) (fun done rest=>⟨[(16,.d (.int .i64 done.length)),(15,.d (.int .i64 ks.length)),(14,.d (.lst (ks.map Pred.cells))),(3,.ptr 3 0),(2,.ptr 2 0)],[(3,[.d (.int .i64 o),.d (.str s),.d (.int .i64 n),.own 3 4 (done.map Pred.cells)]),(2,[.d (.int .i64 0),.d (.str []),.d (.int .i64 0),.full []])],[(3,true)]⟩) ?_ trivial ?_ ?_
 ·exact zwG 3 3 3 4 _ [] [(3,3)] rfl rfl (by simp) rfl (by simp only[Ent0,go_sem,cN,oS])
 ·intro done k r hl _;have hk':=ih k (by rw[hl];simp) (hp.kid (by rw[hl];simp));have hlt:=zzn hl;have hw:IntKind.i64.wrap ((done.length:Int)+1)=((done.length+1:Nat):Int):=zzf (by omega);have hd:done.length<ks.length:=by omega
  have ha1:(done.length+1)*56≤2^46:=by omega
  simp only[zkY,go_sem,hlt,zzz hl];refine zza hk' ?_;simp only[go_sem,hw,lA,lM,mA,Pred.zyR];refine⟨⟨by simp[Pred.zzh],ha1,by omega⟩,zzk [(3,25)] ?_⟩;simp only[go_sem,cN,oS]
 ·intro _;simp only[zkY,go_sem]
theorem zvW(b):E.C zyL [.one (.bool b)] (.agg (Pred.cells (if b then trueP else falseP))):=by refine Z.zyL _ _ ⟨b0l rfl,?_⟩;cases b<;>simp only[zYc,go_sem,trueP,falseP,Pred.zzb,Pred.op,Pred.name,Pred.n,Pred.kids]
def voidP(p:Pred):Bool:=p.same zeroP||p.same trueP
theorem ykO(p):E.C zZb [.agg (Pred.cells p)] (.one (.bool (voidP p))):=by
 have h0:=zy7 Z p zeroP;have h1:=zy7 Z p trueP;have h2:=zvW Z true;refine Z.zZb _ _ ⟨b0l rfl,?_⟩;unfold voidP;simp only[if_true]at h2;rw[Pred.zzb p]at*
 have e0:Pred.cells zeroP=[.int .i64 0,.str [],.int .i64 0,.lst []]:=by rw[Pred.zzb];rfl
 have e1:Pred.cells trueP=[.int .i64 2,.str [],.int .i64 1,.lst []]:=by rw[Pred.zzb];rfl
 rw[e0]at h0;rw[e1]at h1 h2;simp only[zVY,go_sem];refine zza h0 ?_;simp only[go_sem];refine zjX h2 ?_;simp only[go_sem];refine zjX h1 ?_;simp only[go_sem]
end Go.Abs
end
section
namespace Go.Abs
def p2(o:Int)(a b:Pred):Pred:=.mk o [] 0 [a,b]
theorem yZR{α:Type}{l:List α}(h:l.length=2):∃a b,l=[a,b]:=by
 match l,h with
 |[a,b],_=>exact⟨a,b,rfl⟩
theorem zyb{E c K F}(h:∀K',K'=K→awp E (.loop c) K' F):awp E (.loop c) K F:=h K rfl
def andStp(x:Pred×Bool)(p:Pred):Pred×Bool:=if voidP p then x else if x.2 then(.mk 15 [] 0 [x.1,p],true)else(p,true)
def andGo(l:List Pred):Pred×Bool:=l.foldl andStp (trueP,false)
def isFalse(p:Pred):Bool:=!voidP p&&p.same falseP
def andP(l:List Pred):Pred:=if l.any isFalse then falseP else(andGo l).1
theorem zqJ(a)(k):andGo (a++[k])=andStp (andGo a) k:=by unfold andGo;rw[List.foldl_append];rfl
theorem yYw{α:Type}{f l a r}{x:α}(hl:l=a++x::r)(ha:∀y∈a,f y=false):l.any f=(f x||r.any f):=by
 rw[hl,List.any_append,List.any_cons];have:a.any f=false:=by rw[List.any_eq_false];intro y hy;rw[ha y hy];exact Bool.false_ne_true
 rw[this,Bool.false_or]
theorem any_none{α:Type}{f}{l:List α}(ha:∀y∈l,f y=false):l.any f=false:=by rw[List.any_eq_false];intro y hy;rw[ha y hy];exact Bool.false_ne_true
theorem zzd{E a b Q st}(h:∀N,N=awp E b Q→awp E a (seqK N Q) st):awp E (.seq a b) Q st:=h _ rfl
end Go.Abs
end
section
namespace Go.Abs
mutual
def Pred.sz:Pred→Nat
 |.mk _ s _ ks=>1+((s.length+1)+(1+((Pred.szs ks+1)+0)))+1
def Pred.szs:List Pred→Nat
 |[]=>0
 |k::ks=>Pred.sz k+Pred.szs ks
end
theorem Pred.yJQ(ks):Pred.szs ks=(ks.map Pred.sz).sum:=by
 induction ks with
 |nil=>simp[Pred.szs]
 |cons k ks ih=>simp[Pred.szs,ih]
namespace Pred
mutual
def cnt:Pred→Nat
 |.mk _ _ _ ks=>cnts ks+1
def cnts:List Pred→Nat
 |[]=>0
 |k::ks=>cnt k+cnts ks
end
mutual
def dep:Pred→Nat
 |.mk _ _ _ ks=>deps ks+1
def deps:List Pred→Nat
 |[]=>0
 |k::ks=>max (dep k) (deps ks)
end
theorem ywQ{ks k}(h:k∈ks):cnt k≤cnts ks:=by
 induction ks with
 |nil=>cases h
 |cons x ks ih=>
  rw[cnts];rcases List.mem_cons.1 h with rfl|h
  ·omega
  ·have:=ih h;omega
theorem yYY{ks k}(h:k∈ks):dep k≤deps ks:=by
 induction ks with
 |nil=>cases h
 |cons x ks ih=>
  rw[deps];rcases List.mem_cons.1 h with rfl|h
  ·omega
  ·have:=ih h;omega
theorem zQf(p):dep p≤cnt p:=by
 induction p using Pred.ind with
 |h o s n ks ih=>
 have:∀l:List Pred,(∀k∈l,dep k≤cnt k)→deps l≤cnts l:=by
  intro l;induction l with
  |nil=>intro _;exact Nat.le_refl _
  |cons x l ih2=>intro h;have h1:=h x (by simp);have h2:=ih2 fun k hk=>h k (by simp[hk]);rw[deps,cnts];omega
 rw[dep,cnt];have:=this ks ih;omega
theorem zVL(p):cnt p≤sz p:=by
 induction p using Pred.ind with
 |h o s n ks ih=>
 have:∀l:List Pred,(∀k∈l,cnt k≤sz k)→cnts l≤szs l:=by
  intro l;induction l with
  |nil=>intro _;exact Nat.le_refl _
  |cons x l ih2=>intro h;have h1:=h x (by simp);have h2:=ih2 fun k hk=>h k (by simp[hk]);rw[szs,cnts];omega
 rw[sz,cnt];have:=this ks ih;omega
theorem zYY(p)(h:cnt p<2^62):nodes p=cnt p:=by
 induction p using Pred.ind with
 |h o s n ks ih=>
 have key:∀(l:List Pred) (a:Nat),(∀k∈l,cnt k<2^62→nodes k=cnt k)→a+cnts l<2^62→nodess (a:Int) l=((a+cnts l:Nat):Int):=by
  intro l;induction l with
  |nil=>intro a _ _;rw[nodess,cnts];rfl
  |cons x l ih2=>intro a hk hl;rw[cnts]at hl;rw[nodess,hk x (by simp) (by omega),i64_in _ (by omega),cnts];have:=ih2 (a+cnt x) (fun k hk'=>hk k (by simp[hk'])) (by omega);rw[←Int.natCast_add,this];congr 1;omega
 rw[cnt]at h⊢;rw[nodes];have:=key ks 1 ih (by omega);rw[show((1:Nat):Int)=1 from rfl]at this;rw[this];congr 1;omega
theorem zYr(p)(h:dep p<2^62):depth p=dep p:=by
 induction p using Pred.ind with
 |h o s n ks ih=>
 have key:∀(l:List Pred) (a:Nat),(∀k∈l,dep k<2^62→depth k=dep k)→deps l<2^62→depths (a:Int) l=((max a (deps l):Nat):Int):=by
  intro l;induction l with
  |nil=>intro a _ _;rw[depths,deps];simp
  |cons x l ih2=>
   intro a hk hl;rw[deps]at hl;rw[depths,hk x (by simp) (by omega),deps];have h2:=fun a=>ih2 a (fun k hk'=>hk k (by simp[hk'])) (by omega);by_cases hc:(dep x:Int)>a
   ·rw[if_pos hc,h2];congr 1;omega
   ·rw[if_neg hc,h2];congr 1;omega
 rw[dep]at h⊢;rw[depth];have:=key ks 0 ih (by omega);rw[show((0:Nat):Int)=0 from rfl]at this;rw[this,i64_in _ (by omega)];omega
theorem zWn{ks}(h:formE.formEs ks=0):∀k∈ks,formE k=0:=by
 induction ks with
 |nil=>intro k hk;cases hk
 |cons x ks ih=>
  rw[formE.formEs]at h;intro k hk;by_cases h1:(formE x !=0)=true
  ·rw[if_pos h1]at h;rw[h]at h1;cases h1
  ·rw[if_neg h1]at h;rcases List.mem_cons.1 hk with rfl|hk
   ·simpa using h1
   ·exact ih h k hk
theorem zq2{o s n ks}(h:formE (.mk o s n ks)=0):nodeE o s n ks=0∧∀k∈ks,formE k=0:=by
 rw[zJI]at h;by_cases h1:(nodeE o s n ks !=0)=true
 ·rw[if_pos h1]at h;rw[h]at h1;cases h1
 ·rw[if_neg h1]at h;exact⟨by simpa using h1,zWn h⟩
theorem zkg{p}(h:checkE p=0):nodes p≤400∧depth p≤40∧formE p=0:=by
 unfold checkE at h;by_cases h1:decide (nodes p>400)=true
 ·rw[if_pos h1]at h;cases h
 ·rw[if_neg h1]at h;by_cases h2:decide (depth p>40)=true
  ·rw[if_pos h2]at h;cases h
  ·rw[if_neg h2]at h;simp at h1 h2;exact⟨by omega,by omega,h⟩
theorem zJ9{p}(h:nodes p≤400)(h2:depth p≤40)(h3:formE p=0):checkE p=0:=by unfold checkE;rw[if_neg (by simp;omega),if_neg (by simp;omega)];exact h3
theorem zK3{o s n ks k}(hc:cnt (.mk o s n ks)<2^62)(h:checkE (.mk o s n ks)=0)(hk:k∈ks):checkE k=0:=by
 obtain⟨h1,h2,h3⟩:=zkg h;have hd:=zQf (.mk o s n ks);rw[zYY _ hc]at h1;rw[zYr _ (by omega)]at h2;rw[cnt]at h1 hc hd;rw[dep]at h2 hd;have k1:=ywQ hk;have k2:=yYY hk;have k3:=zQf k;refine zJ9 ?_ ?_ ((zq2 h3).2 k hk)
 ·rw[zYY _ (by omega)];omega
 ·rw[zYr _ (by omega)];omega
theorem zVk{o s n ks}(h:nodeE o s n ks=0):kidsOk o ks.length=true:=by
 unfold nodeE at h;by_cases h1:(decide (o<1)||decide (o>18)||!s==[]&&!isOpNamed o||n !=0&&!(o==1||o==2)||!kidsOk o ks.length)=true
 ·rw[if_pos h1]at h;cases h
 ·simp only[Bool.or_eq_true,not_or]at h1;simpa using h1.2
end Pred
theorem zYs{v ks}(h:ofS.errs v ks=0):∀k∈ks,(ofS v k).2=0:=by
 induction ks with
 |nil=>intro k hk;cases hk
 |cons x ks ih=>
  rw[ofS.errs]at h;intro k hk;by_cases h1:((ofS v x).2 !=0)=true
  ·rw[if_pos h1]at h;rw[h]at h1;cases h1
  ·rw[if_neg h1]at h;rcases List.mem_cons.1 hk with rfl|hk
   ·simpa using h1
   ·exact ih h k hk
theorem zJz{v o}{s:Str}{n ks}(hc:Pred.cnt (.mk o s n ks)<2^62)(h:(OfS v (.mk o s n ks)).2=0):
  (∀k∈ks,OfS v k=ofS v k∧(ofS v k).2=0)∧OfS v (.mk o s n ks)=nodeS v o s (ks.map fun k=>(ofS v k).1)∧kidsOk o ks.length=true:=by
 have hce:Pred.checkE (.mk o s n ks)=0:=by
  unfold OfS at h;by_cases h1:(Pred.checkE (.mk o s n ks) !=0)=true
  ·rw[if_pos h1]at h;exact h
  ·simpa using h1
 have hO:OfS v (.mk o s n ks)=ofS v (.mk o s n ks):=by unfold OfS;rw[hce];rfl
 rw[hO]at h⊢;rw[zJj]at h⊢;by_cases h1:(ofS.errs v ks !=0)=true
 ·rw[if_pos h1]at h;simp only at h;rw[h]at h1;cases h1
 ·rw[if_neg h1];refine⟨fun k hk=>⟨?_,zYs (by simpa using h1) k hk⟩,rfl,Pred.zVk (Pred.zq2 (Pred.zkg hce).2.2).1⟩;unfold OfS;rw[Pred.zK3 hc hce hk];rfl
end Go.Abs
end
section
namespace Go.Abs
def BoolS(v:SEnv)(p:Pred):Int:=if p.same zeroP then 0 else if(OfS v p).2==0&&!(OfS v p).1==sBool then 11 else(OfS v p).2
variable{E:AEnv}(Z:Sys E)
include Z
theorem zXa(v)(p)(hOf:E.C zzF [.agg v.cells,.agg p.cells] (two (OfS v p))):E.C zwi [.agg v.cells,.agg p.cells] (.one (.int .i64 (BoolS v p))):=by
 have h0:=zy7 Z p zeroP;refine Z.zwi _ _ ⟨b0l rfl,?_⟩;generalize hR:BoolS v p=R;unfold BoolS at hR;unfold two at*
 rw[SEnv.cells]at*
 rw[Pred.zzb p]at*
 have e0:Pred.cells zeroP=[.int .i64 0,.str [],.int .i64 0,.lst []]:=by rw[Pred.zzb];rfl
 rw[e0]at h0;simp only[zYM,go_sem];refine zza h0 ?_;cases c0:p.same zeroP with
 |true=>simp only[c0,go_sem]at hR⊢;simp only[go_sem,←hR]
 |false=>
 simp only[c0,go_sem]at hR⊢;refine zza hOf ?_;simp only[sBool]at hR;simp only[go_sem];cases c1:((OfS v p).2==0&&!(OfS v p).1==[66,111,111,108])<;>simp only[c1,go_sem]at hR⊢<;>simp only[←hR]
end Go.Abs
end
section
namespace Go.Abs
variable{E:AEnv}(Z:Sys E)
include Z
theorem yzj(l)(ht:∀p∈l,voidP p=false→Tame p):E.C zZI [.one (.lst (l.map Pred.cells))] (.agg (andP l).cells):=by
 have hv:=ykO Z;have hc:=fun p hp=>zX6 Z p hp;have hcf:=zvW Z false;have hct:=zvW Z true;have hs:=fun p=>zy7 Z p falseP;simp only[if_true,Bool.false_eq_true,if_false]at hcf hct;have hdr:∀p:Pred,List.drop 4 (List.map AV.d p.cells)=[]:=fun p=>List.drop_of_length_le (by rw[lM,Pred.zzh];exact Nat.le_refl _);have hcs:∀a b:Pred,Pred.cells (.mk 15 [] 0 [a,b])=[.int .i64 15,.str [],.int .i64 0,.lst [a.cells,b.cells]]:=fun a b=>by rw[Pred.zzb];rfl
 refine Z.zZI _ _ ⟨b0l rfl,?_⟩;generalize hR:andP l=R;unfold andP at hR;simp only[zQm,go_sem];refine zza hct ?_;simp only[go_sem];intro hlen;refine zzg l (fun done=>∀x∈done,isFalse x=false) (fun done rest=>⟨[(10,.d (.int .i64 done.length)),(9,.d (.int .i64 l.length)),(8,.d (.lst (l.map Pred.cells))),(4,.d (.bool (andGo done).2)),(3,.ptr 3 0),(2,.ptr 2 0)],[(3,(andGo done).1.cells.map .d),(2,[.d (.int .i64 0),.d (.str []),.d (.int .i64 0),.full []])],[]⟩) ?_ (by simp) ?_ ?_
 ·have h0:andGo []=(trueP,false):=rfl;exact zze (by simp only[go_sem,oS,h0])
 ·intro done k r hl hI;have hlt:=zzn hl;have hw:IntKind.i64.wrap ((done.length:Int)+1)=((done.length+1:Nat):Int):=zzf (by omega);have hfk:isFalse k=(!voidP k&&k.same falseP):=rfl;have hga:=zqJ done k;unfold andStp at hga;rw[yYw hl hI]at hR;have htk:=ht k (by rw[hl];simp);simp only[zqf,go_sem,hlt,zzz hl];refine zza (hv k) ?_;simp only[go_sem];cases h1:voidP k with
  |true=>simp only[h1,go_sem]at hga hfk⊢;exact⟨zze (by simp only[go_sem,hw,hga,oS,lA]),zzY hI hfk⟩
  |false=>
   have htk:=htk h1;simp only[h1,go_sem]at hga hfk⊢;refine zza hcf ?_;simp only[go_sem];refine zza (hs k) ?_;simp only[go_sem];cases h2:k.same falseP with
   |true=>simp only[h2,go_sem]at hfk⊢;refine zza hcf ?_;simp only[hfk,go_sem]at hR⊢;subst hR;simp only[go_sem]
   |false=>
    simp only[h2,go_sem]at hfk⊢;cases h3:(andGo done).2 with
    |true=>simp only[h3,go_sem]at hga⊢;refine zza (hc k htk) ?_;simp only[go_sem];exact⟨zze (by simp only[go_sem,hw,hga,hdr,hcs,oS,lA,mC,mN]),zzY hI hfk⟩
    |false=>simp only[h3,go_sem]at hga⊢;refine zza (hc k htk) ?_;simp only[go_sem];exact⟨zze (by simp only[go_sem,hw,hga,hdr,List.append_nil,oS,lA]),zzY hI hfk⟩
 ·intro hI;rw[any_none hI]at hR;simp only[zqf,go_sem]at hR⊢;rw[hR]
omit Z
end Go.Abs
end
section
namespace Go.Abs
def res2(r:Int×Bool):CV:=.tup [.one (.int .i64 r.1),.one (.bool r.2)]
def bnd(n:Int):Int×Bool:=if inRange n then(n,true)else(0,false)
def addI(a b:Int):Int×Bool:=if inRange a&&inRange b then bnd (a+b)else(0,false)
def subI(a b:Int):Int×Bool:=if inRange a&&inRange b then bnd (a-b)else(0,false)
def mulI(a b:Int):Int×Bool:=if inRange a&&inRange b then bnd (a*b)else(0,false)
theorem zzp(n):inRange n=true↔-1000000000000≤n∧n≤1000000000000:=by simp[inRange]
theorem wrap_add{a b}(ha:inRange a=true)(hb:inRange b=true):IntKind.i64.wrap (a+b)=a+b:=by
 rw[zzp]at ha hb;exact i64_in _ (by omega)
theorem yJl{a b}(ha:inRange a=true)(hb:inRange b=true):IntKind.i64.wrap (a-b)=a-b:=by
 rw[zzp]at ha hb;exact i64_in _ (by omega)
def absI(n:Int):Int:=if n≥0 then n else-n
theorem zWQ{n}(h:n≠0):0<absI n:=by unfold absI;split<;>omega
theorem yKm(a b):absI (a*b)=absI a*absI b:=by
 have:∀n:Int,absI n=n.natAbs:=fun n=>by unfold absI;split<;>omega
 simp only[this,Int.natAbs_mul,Int.natCast_mul]
theorem zk4(n):inRange n=true↔absI n≤1000000000000:=by
 rw[zzp];unfold absI;split<;>omega
theorem yWr{a b}(ha:a≠0):decide (absI b>(1000000000000:Int).tdiv (absI a))=!inRange (a*b):=by
 have hp:=zWQ ha;have hq:(1000000000000:Int).tdiv (absI a)=1000000000000/absI a:=Int.tdiv_eq_ediv_of_nonneg (by omega);rw[hq];have h1:(1000000000000/absI a<absI b)↔1000000000000<absI b*absI a:=Int.ediv_lt_iff_lt_mul hp;have h2:inRange (a*b)=true↔¬(1000000000000<absI b*absI a):=by rw[zk4,yKm,Int.mul_comm];omega
 cases h:inRange (a*b)with
 |true=>rw[h]at h2;simp only[true_iff]at h2;simp;rw[←Int.not_lt,h1];exact h2
 |false=>rw[h]at h2;simp at h2;simp;rw[h1];exact h2
variable{E:AEnv}(Z:Sys E)
include Z
theorem zqE(n)(ok):E.C zwa [.one (.int .i64 n),.one (.bool ok)] (res2 (if ok then bnd n else(0,false))):=by
 refine Z.zwa _ _ ⟨b0l rfl,?_⟩;try unfold res2
 unfold bnd;simp only[zXW,go_sem];refine zK0 (fun _=>zyT Z n) ?_;cases ok<;>cases h:inRange n<;>simp only[h,go_sem]
theorem yyW(a b):E.C zYZ [.one (.int .i64 a),.one (.int .i64 b)] (res2 (addI a b)):=by have h1:=zqE Z (IntKind.i64.wrap (a+b)) true;refine Z.zYZ _ _ ⟨b0l rfl,?_⟩;unfold addI;simp only[res2]at h1⊢;simp only[yyj,go_sem];refine zza (zyT Z a) ?_;simp only[go_sem];refine zK0 (fun _=>zyT Z b) ?_;cases ha:inRange a<;>cases hb:inRange b<;>simp only[ha,hb,go_sem];refine zza h1 ?_;simp only[go_sem,wrap_add ha hb]
theorem yyY(a b):E.C zWz [.one (.int .i64 a),.one (.int .i64 b)] (res2 (subI a b)):=by have h1:=zqE Z (IntKind.i64.wrap (a-b)) true;refine Z.zWz _ _ ⟨b0l rfl,?_⟩;unfold subI;simp only[res2]at h1⊢;simp only[yyn,go_sem];refine zza (zyT Z a) ?_;simp only[go_sem];refine zK0 (fun _=>zyT Z b) ?_;cases ha:inRange a<;>cases hb:inRange b<;>simp only[ha,hb,go_sem];refine zza h1 ?_;simp only[go_sem,yJl ha hb]
theorem zXv{n}(h:inRange n=true):E.C zZH [.one (.int .i64 n)] (.one (.int .i64 (absI n))):=by
 refine Z.zZH _ _ ⟨b0l rfl,?_⟩;rw[zzp]at h;have hw:IntKind.i64.wrap (0-n)= -n:=by rw[i64_in _ (by omega)];omega
 unfold absI;simp only[yyo,go_sem,hw];by_cases h0:n≥0
 ·simp only[h0,go_sem]
 ·have h2:¬(-n<0):=by omega
  simp only[h0,h2,go_sem]
theorem zXu(a b):E.C zqD [.one (.int .i64 a),.one (.int .i64 b)] (res2 (mulI a b)):=by
 have h1:=zqE Z (IntKind.i64.wrap (a*b)) true;refine Z.zqD _ _ ⟨b0l rfl,?_⟩;unfold mulI;simp only[res2]at h1⊢;simp only[yym,go_sem];refine zza (zyT Z a) ?_;simp only[go_sem];refine zK0 (fun _=>zyT Z b) ?_;cases ha:inRange a<;>cases hb:inRange b<;>simp only[ha,hb,go_sem];by_cases ha0:a=0
 ·subst ha0;simp only[go_sem,beq_self_eq_true,Int.zero_mul];simp[bnd,inRange]
 have ea:(a==0)=false:=by simpa using ha0
 by_cases hb0:b=0
 ·subst hb0;simp only[go_sem,beq_self_eq_true,ea,Int.mul_zero];simp[bnd,inRange]
 have eb:(b==0)=false:=by simpa using hb0
 simp only[ea,eb,go_sem];refine zza (zXv Z hb) ?_;simp only[go_sem];refine zza (zXv Z ha) ?_;have hne:absI a≠0:=by have:=zWQ ha0;omega
 have hw:IntKind.i64.wrap ((1000000000000:Int).tdiv (absI a))=(1000000000000:Int).tdiv (absI a):=by rw[Int.tdiv_eq_ediv_of_nonneg (by omega)];have hp:=zWQ ha0;have h0:0≤(1000000000000:Int)/absI a:=Int.ediv_nonneg (by omega) (by omega);have h2:(1000000000000:Int)/absI a≤1000000000000:=Int.ediv_le_self _ (by omega);exact i64_in _ (by omega)
 simp only[go_sem,hw,yWr ha0];refine⟨hne,?_⟩;cases hr:inRange (a*b)with
 |false=>simp only[go_sem,bnd,hr]
 |true=>have hwm:IntKind.i64.wrap (a*b)=a*b:=i64_in _ (by rw[zzp]at hr;omega);rw[hwm]at h1⊢;simp only[go_sem,hr];refine zza h1 ?_;simp only[go_sem,bnd,hr]
end Go.Abs
end
section
namespace Go.Abs
structure Coef where
 name:Str
 n:Int
def Coef.cells(v:Coef):List D:=[.str v.name,.int .i64 v.n]
def icell(n:Int):List D:=[.int .i64 n]
structure Fact where
 name:Str
 args:List Int
 res:Int
def Fact.cells(v:Fact):List D:=[.str v.name,.lst (v.args.map icell),.int .i64 v.res]
theorem Coef.lens(l:List Coef):(∀e∈l.map Coef.cells,e.length=2)=True:=zvp (f:=Coef.cells) (fun _=>rfl) l
theorem Fact.lens(l:List Fact):(∀e∈l.map Fact.cells,e.length=3)=True:=zvp (f:=Fact.cells) (fun _=>rfl) l
theorem yyF(l:List Int):(∀e∈l.map icell,e.length=1)=True:=zvp (f:=icell) (fun _=>rfl) l
attribute [go_sem] Coef.lens Fact.lens yyF
def findC(s:Str):List Coef→Int×Bool
 |[]=>(0,false)
 |c::l=>if c.name==s then(c.n,true)else findC s l
theorem ywZ{s a r x}(ha:∀y∈a,(y.name==s)=false):findC s (a++x::r)=if x.name==s then(x.n,true)else findC s r:=by
 induction a with
 |nil=>rfl
 |cons y a ih=>rw[List.cons_append,findC,ha y (by simp)];exact ih fun z hz=>ha z (by simp[hz])
theorem ywY{s a}(ha:∀y∈a,(y.name==s)=false):findC s a=(0,false):=by
 induction a with
 |nil=>rfl
 |cons y a ih=>rw[findC,ha y (by simp)];exact ih fun z hz=>ha z (by simp[hz])
def findF(s:Str)(args:List Int):List Fact→Option Int
 |[]=>none
 |f::l=>if f.name==s&&f.args==args then some f.res else findF s args l
theorem yXd{s args a r x}(ha:∀y∈a,(y.name==s&&y.args==args)=false):findF s args (a++x::r)=if x.name==s&&x.args==args then some x.res else findF s args r:=by
 induction a with
 |nil=>rfl
 |cons y a ih=>rw[List.cons_append,findF,ha y (by simp)];exact ih fun z hz=>ha z (by simp[hz])
theorem yXc{s args a}(ha:∀y∈a,(y.name==s&&y.args==args)=false):findF s args a=none:=by
 induction a with
 |nil=>rfl
 |cons y a ih=>rw[findF,ha y (by simp)];exact ih fun z hz=>ha z (by simp[hz])
def factP(r:Option Int):Int×Bool:=match r with
 |some n=>(n,inRange n)
 |none=>(0,false)
def factR(r:Option Int):Int×Bool:=match r with
 |some n=>bnd n
 |none=>(0,false)
def tru(b:Bool):Int:=if b then 1 else 0
def opI(o a b:Int):Int×Bool:=
 if o==6 then addI a b else if o==7 then subI a b else if o==8 then mulI a b
 else if o==10 then(tru (a==b),true)else if o==11 then(tru (a !=b),true)else if o==12 then(tru (decide (a<b)),true)else if o==13 then(tru (decide (a≤b)),true)
 else if o==15 then(tru (a !=0&&b !=0),true)else if o==16 then(tru (a !=0||b !=0),true)else if o==17 then(tru (a==0||b !=0),true)else if o==18 then(tru ((a !=0)==(b !=0)),true)else(0,false)
def compI(o a b:Int):Int×Bool:=
 if o==6 then addI a b else if o==7 then subI a b else if o==8 then mulI a b else if o==9 then subI 0 a
 else if o==10 then(tru (a==b),true)else if o==11 then(tru (a !=b),true)else if o==12 then(tru (decide (a<b)),true)else if o==13 then(tru (decide (a≤b)),true)else if o==14 then(tru (a==0),true)
 else if o==15 then(tru (a !=0&&b !=0),true)else if o==16 then(tru (a !=0||b !=0),true)else if o==17 then(tru (a==0||b !=0),true)else(tru ((a !=0)==(b !=0)),true)
theorem yKQ{a b ad bd r r'}{x y:Int}(ha:a=ad++x::r)(hb:b=bd++y::r')(h:ad=bd):(a==b)=(x==y&&r==r'):=by subst ha hb h;rw[Bool.eq_iff_iff];simp
variable{E:AEnv}(Z:Sys E)
include Z
theorem zWJ(a b:List Int):E.C zyh [.one (.lst (a.map icell)),.one (.lst (b.map icell))] (.one (.bool (a==b))):=by
 refine Z.zyh _ _ ⟨b0l rfl,?_⟩;generalize hR:(a==b)=R;simp only[zkG,go_sem];intro hl1 hl2;by_cases hlen:a.length=b.length
 ·have h1:((a.length:Int) !=(b.length:Int))=false:=by simp[hlen]
  simp only[h1,go_sem];intro _;refine zzg a (fun done=>done=b.take done.length) (fun done rest=>⟨[(13,.d (.int .i64 done.length)),(12,.d (.int .i64 a.length)),(0,.d (.lst (a.map icell))),(1,.d (.lst (b.map icell)))],[],[]⟩) ?_ (by simp) ?_ ?_
  ·exact zze (by simp only[go_sem])
  ·intro done x r hl hI;obtain⟨bd,y,r',hb,hbl⟩:=zJB (b:=b) (n:=done.length) (by rw[←hlen,hl];simp);have htk:b.take done.length=bd:=by rw[hb];exact List.take_left' hbl
   have hlt:=zzn hl;have hlt2:=zzn hb;rw[hbl]at hlt2;have hw:IntKind.i64.wrap ((done.length:Int)+1)=((done.length+1:Nat):Int):=zzf (by omega);rw[htk]at hI;rw[yKQ hl hb hI]at hR;have hy:(b.map icell).getD done.length []=icell y:=by rw[←hbl];exact getD_at hb
   simp only[zy0,go_sem,getD_at hl,hy,hlt,hlt2,icell];by_cases h2:x=y
   ·subst h2;simp only[go_sem,hw,lA,bne_self_eq_false];refine⟨zze (by simp only[go_sem]),?_⟩;have ht2:b.take (done.length+1)=bd++[x]:=by rw[hb,show bd++x::r'=(bd++[x])++r' by simp];exact List.take_left' (by simp[hbl])
    rw[ht2,←hI]
   ·have h3:(x==y)=false:=by simpa using h2
    simp only[h3,bne,go_sem]at hR⊢;exact hR
  ·intro hI;rw[hlen,List.take_length]at hI;subst hI;simp only[beq_self_eq_true]at hR;subst hR;simp only[zy0,go_sem]
 ·have h1:((a.length:Int) !=(b.length:Int))=true:=by simp;omega
  have h2:(a==b)=false:=by simp;rintro rfl;exact hlen rfl
  rw[h2]at hR;simp only[h1,go_sem,hR]
theorem zQ5(l)(s:Str):E.C zkl [.one (.lst (l.map Coef.cells)),.one (.str s)] (res2 (findC s l)):=by
 refine Z.zkl _ _ ⟨b0l rfl,?_⟩;generalize hR:findC s l=R;try unfold res2
 simp only[zYC,go_sem];intro hlen;refine zzg l (fun done=>∀y∈done,(y.name==s)=false) (fun done rest=>⟨[(10,.d (.int .i64 done.length)),(9,.d (.int .i64 l.length)),(8,.d (.lst (l.map Coef.cells))),(1,.d (.str s))],[],[]⟩) ?_ (by simp) ?_ ?_
 ·exact zze (by simp only[go_sem])
 ·intro done x r hl hI;have hlt:=zzn hl;have hw:IntKind.i64.wrap ((done.length:Int)+1)=((done.length+1:Nat):Int):=zzf (by omega);rw[hl,ywZ hI]at hR;simp only[zkA,go_sem,getD_at hl,hlt,Coef.cells];cases h1:(x.name==s)with
  |true=>simp only[h1,go_sem]at hR⊢;simp only[←hR,and_self]
  |false=>simp only[go_sem,hw,lA];exact⟨zze (by simp only[go_sem]),zzY hI h1⟩
 ·intro hI;rw[ywY hI]at hR;simp only[zkA,go_sem,←hR]
theorem yQM(l)(s:Str):E.C zZR [.one (.lst (l.map Coef.cells)),.one (.str s)] (res2 (findC s l)):=by
 refine Z.zZR _ _ ⟨b0l rfl,?_⟩;generalize hR:findC s l=R;try unfold res2
 simp only[zQE,go_sem];intro hlen;refine zzg l (fun done=>∀y∈done,(y.name==s)=false) (fun done rest=>⟨[(10,.d (.int .i64 done.length)),(9,.d (.int .i64 l.length)),(8,.d (.lst (l.map Coef.cells))),(1,.d (.str s))],[],[]⟩) ?_ (by simp) ?_ ?_
 ·exact zze (by simp only[go_sem])
 ·intro done x r hl hI;have hlt:=zzn hl;have hw:IntKind.i64.wrap ((done.length:Int)+1)=((done.length+1:Nat):Int):=zzf (by omega);rw[hl,ywZ hI]at hR;simp only[zqq,go_sem,getD_at hl,hlt,Coef.cells];cases h1:(x.name==s)with
  |true=>simp only[h1,go_sem]at hR⊢;simp only[←hR,and_self]
  |false=>simp only[go_sem,hw,lA];exact⟨zze (by simp only[go_sem]),zzY hI h1⟩
 ·intro hI;rw[ywY hI]at hR;simp only[zqq,go_sem,←hR]
theorem zQ6(at':List Coef)(l)(s:Str)(args):E.C zz6 [.agg [.lst (at'.map Coef.cells),.lst (l.map Fact.cells)],.one (.str s),.one (.lst (args.map icell))] (res2 (factP (findF s args l))):=by
 have he:=fun a=>zWJ Z a args;refine Z.zz6 _ _ ⟨b0l rfl,?_⟩;generalize hR:factP (findF s args l)=R;try unfold res2
 simp only[zwM,go_sem];intro hlen;refine zzg l (fun done=>∀y∈done,(y.name==s&&y.args==args)=false) (fun done rest=>⟨[(13,.d (.int .i64 done.length)),(12,.d (.int .i64 l.length)),(11,.d (.lst (l.map Fact.cells))),(1,.d (.str s)),(2,.d (.lst (args.map icell)))],[],[]⟩) ?_ (by simp) ?_ ?_
 ·exact zze (by simp only[go_sem])
 ·intro done x r hl hI;have hlt:=zzn hl;have hw:IntKind.i64.wrap ((done.length:Int)+1)=((done.length+1:Nat):Int):=zzf (by omega);rw[hl,yXd hI]at hR;simp only[zyJ,go_sem,getD_at hl,hlt,Fact.cells];refine zjX (he x.args) ?_;simp only[go_sem];cases h1:(x.name==s&&x.args==args)with
  |true=>simp only[h1,go_sem,factP]at hR⊢;refine zza (zyT Z x.res) ?_;simp only[go_sem,←hR,and_self]
  |false=>simp only[go_sem,hw,lA];exact⟨zze (by simp only[go_sem]),zzY hI h1⟩
 ·intro hI;rw[yXc hI]at hR;simp only[zyJ,go_sem,←hR,factP]
theorem zYh(b):E.C zzT [.one (.bool b)] (.one (.int .i64 (tru b))):=by refine Z.zzT _ _ ⟨b0l rfl,?_⟩;cases b<;>simp only[zZ7,go_sem,tru]
theorem zXN(o a b):E.C zyN [.one (.int .i64 o),.one (.int .i64 a),.one (.int .i64 b)] (res2 (opI o a b)):=by
 have h1:=yyW Z a b;have h2:=yyY Z a b;have h3:=zXu Z a b;have ht:=zYh Z;refine Z.zyN _ _ ⟨b0l rfl,?_⟩;unfold res2 at*
 generalize hR:opI o a b=R;unfold opI at hR;cases c6:(o==6)with
 |true=>simp only[zzs,↓reduceIte,go_sem,c6]at hR⊢;refine zza h1 ?_;simp only[go_sem,hR]
 |false=>
 cases c7:(o==7)with
 |true=>simp only[zzs,↓reduceIte,go_sem,c6,c7]at hR⊢;refine zza h2 ?_;simp only[go_sem,hR]
 |false=>
 cases c8:(o==8)with
 |true=>simp only[zzs,↓reduceIte,go_sem,c6,c7,c8]at hR⊢;refine zza h3 ?_;simp only[go_sem,hR]
 |false=>
 cases c10:(o==10)with
 |true=>simp only[zzs,↓reduceIte,go_sem,c6,c7,c8,c10]at hR⊢;refine zza (ht _) ?_;simp only[go_sem,←hR]
 |false=>
 cases c11:(o==11)with
 |true=>simp only[zzs,↓reduceIte,go_sem,c6,c7,c8,c10,c11]at hR⊢;refine zza (ht _) ?_;simp only[go_sem,←hR]
 |false=>
 cases c12:(o==12)with
 |true=>simp only[zzs,↓reduceIte,go_sem,c6,c7,c8,c10,c11,c12]at hR⊢;refine zza (ht _) ?_;simp only[go_sem,←hR]
 |false=>
 cases c13:(o==13)with
 |true=>simp only[zzs,↓reduceIte,go_sem,c6,c7,c8,c10,c11,c12,c13]at hR⊢;refine zza (ht _) ?_;simp only[go_sem,←hR]
 |false=>
 cases c15:(o==15)with
 |true=>simp only[zzs,↓reduceIte,go_sem,c6,c7,c8,c10,c11,c12,c13,c15]at hR⊢;refine zza (ht _) ?_;simp only[go_sem,←hR]
 |false=>
 cases c16:(o==16)with
 |true=>simp only[zzs,↓reduceIte,go_sem,c6,c7,c8,c10,c11,c12,c13,c15,c16]at hR⊢;refine zza (ht _) ?_;simp only[go_sem,←hR]
 |false=>
 cases c17:(o==17)with
 |true=>simp only[zzs,↓reduceIte,go_sem,c6,c7,c8,c10,c11,c12,c13,c15,c16,c17]at hR⊢;refine zza (ht _) ?_;simp only[go_sem,←hR]
 |false=>
 cases c18:(o==18)with
 |true=>simp only[zzs,↓reduceIte,go_sem,c6,c7,c8,c10,c11,c12,c13,c15,c16,c17,c18]at hR⊢;refine zza (ht _) ?_;simp only[go_sem,←hR]
 |false=>simp only[zzs,↓reduceIte,go_sem,c6,c7,c8,c10,c11,c12,c13,c15,c16,c17,c18]at hR⊢;simp only[go_sem,←hR]
end Go.Abs
end
section
namespace Go.Abs
def topP(at':List Coef)(fs:List Fact)(o:Int)(s:Str)(n:Int)(l:List Int):Int×Bool:=
 if o==1||o==2 then(n,true)else if o==3 then((findC s at').1,(findC s at').2&&inRange (findC s at').1)else if o==4 then factP (findF s l fs)else if o==5 then(0,false)
 else if o==9 then subI 0 (l.getD 0 0)else if o==14 then(tru (l.getD 0 0==0),true)else opI o (l.getD 0 0) (l.getD 1 0)
def topR(at':List Coef)(fs:List Fact)(o:Int)(s:Str)(l:List Int):Int×Bool:=
 if o==4 then factR (findF s l fs)else compI o (l.getD 0 0) (l.getD (l.length-1) 0)
def valP(at':List Coef)(fs:List Fact):Pred→Int×Bool
 |.mk o s n ks=>if oks ks then topP at' fs o s n (ns ks)else(0,false)
where
 oks:List Pred→Bool
 |[]=>true
 |k::ks=>(valP at' fs k).2&&oks ks
 ns:List Pred→List Int
 |[]=>[]
 |k::ks=>(valP at' fs k).1::ns ks
theorem yW7(at')(fs)(o)(s:Str)(n)(ks):valP at' fs (.mk o s n ks)=if ks.all (fun k=>(valP at' fs k).2)then topP at' fs o s n (ks.map fun k=>(valP at' fs k).1)else(0,false):=by
 rw[valP];have h1:valP.oks at' fs ks=ks.all (fun k=>(valP at' fs k).2):=by
  induction ks with
  |nil=>rfl
  |cons k ks ih=>rw[valP.oks,ih];rfl
 have h2:valP.ns at' fs ks=ks.map fun k=>(valP at' fs k).1:=by
  clear h1;induction ks with
  |nil=>rfl
  |cons k ks ih=>rw[valP.ns,ih];rfl
 rw[h1,h2]
def valR(at':List Coef)(fs:List Fact):Pred→Int×Bool
 |.mk o s n ks=>if o==1||o==2 then(n,true)else if o==3 then(if(findC s at').2 then bnd (findC s at').1 else(0,false))else if o==5 then(0,false)
  else if oks ks then topR at' fs o s (ns ks)else(0,false)
where
 oks:List Pred→Bool
 |[]=>true
 |k::ks=>(valR at' fs k).2&&oks ks
 ns:List Pred→List Int
 |[]=>[]
 |k::ks=>(valR at' fs k).1::ns ks
theorem yQY(at')(fs)(o)(s:Str)(n)(ks):valR at' fs (.mk o s n ks)=
  if o==1||o==2 then(n,true)else if o==3 then(if(findC s at').2 then bnd (findC s at').1 else(0,false))else if o==5 then(0,false)
  else if ks.all (fun k=>(valR at' fs k).2)then topR at' fs o s (ks.map fun k=>(valR at' fs k).1)else(0,false):=by
 rw[valR];have h1:valR.oks at' fs ks=ks.all (fun k=>(valR at' fs k).2):=by
  induction ks with
  |nil=>rfl
  |cons k ks ih=>rw[valR.oks,ih];rfl
 have h2:valR.ns at' fs ks=ks.map fun k=>(valR at' fs k).1:=by
  clear h1;induction ks with
  |nil=>rfl
  |cons k ks ih=>rw[valR.ns,ih];rfl
 rw[h1,h2]
def norm2(r:Int×Bool):Int×Bool:=if r.2 then(r.1,true)else(0,false)
theorem yWa(r):(norm2 r).2=r.2:=by unfold norm2;cases h:r.2<;>simp
theorem yzf(n):norm2 (bnd n)=bnd n:=by unfold bnd;cases h:inRange n<;>rfl
theorem yX8(a b):norm2 (addI a b)=addI a b:=by unfold addI;split;exact yzf _;rfl
theorem ykF(a b):norm2 (subI a b)=subI a b:=by unfold subI;split;exact yzf _;rfl
theorem yX9(a b):norm2 (mulI a b)=mulI a b:=by unfold mulI;split;exact yzf _;rfl
def Good:Pred→Prop:=AllN fun q=>Pred.err q=0
theorem Good.kid{o}{s:Str}{n ks}(h:Good (.mk o s n ks)){k}(hk:k∈ks):Good k:=AllN.kid h hk
theorem Good.top{o}{s:Str}{n ks}(h:Good (.mk o s n ks)):(1≤o∧o≤18)∧kidsOk o ks.length=true∧(o≠1→o≠2→n=0)∧(isOpNamed o=false→s=[]):=by
 have h:=AllN.top h;change nodeE o s n ks=0 at h;unfold nodeE at h;by_cases h1:(decide (o<1)||decide (o>18)||!s==[]&&!isOpNamed o||n !=0&&!(o==1||o==2)||!kidsOk o ks.length)=true
 ·rw[if_pos h1]at h;cases h
 ·simp only[Bool.or_eq_true,not_or,decide_eq_true_eq,Bool.and_eq_true,Bool.not_eq_true',bne_iff_ne,ne_eq,Bool.or_eq_false_iff,beq_eq_false_iff_ne,not_and]at h1;obtain⟨⟨⟨⟨a1,a2⟩,a3⟩,a4⟩,a5⟩:=h1;refine⟨⟨by omega,by omega⟩,by simpa using a5,fun e1 e2=>?_,fun e=>?_⟩
  ·by_cases hn:n=0
   ·exact hn
   ·exact absurd e2 (fun e2=>a4 hn e1 e2)
  ·by_cases hs:s=[]
   ·exact hs
   ·exact absurd e (a3 (by simpa using hs))
theorem zWq{p}(h:p.checkE=0):Good p:=by have:=zqy h;rw[Pred.zWm]at this;exact fun q hq=>zK8 this q hq
theorem zYT{o}{ks:List Pred}(hk:kidsOk o ks.length=true)(h:(o==1||o==2||o==3)=true):ks=[]:=by unfold kidsOk at hk;rw[if_pos h]at hk;simpa using hk
theorem zKu{o}{ks:List Pred}(hk:kidsOk o ks.length=true)(h:(o==9||o==14)=true):∃a,ks=[a]:=by refine yWi ?_;simp at h;rcases h with rfl|rfl<;>simp[kidsOk]at hk<;>omega
theorem zZE{o}{ks:List Pred}(hk:kidsOk o ks.length=true)(h1:o≠1)(h2:o≠2)(h3:o≠3)(h4:o≠4)(h5:o≠5)(h9:o≠9)(h14:o≠14):∃a b,ks=[a,b]:=by refine yZR ?_;simp[kidsOk,h1,h2,h3,h4,h5,h9,h14]at hk;omega
theorem zQT{o}{m:Nat}(hk:kidsOk o m=true):m≤24:=by
 unfold kidsOk at hk;split at hk
 ·simp at hk;omega
 ·split at hk
  ·simp at hk;omega
  ·split at hk<;>(simp at hk;omega)
theorem yqX(at')(fs)(p)(hp:Good p):norm2 (valP at' fs p)=valR at' fs p:=by
 induction p using Pred.ind with
 |h o s n ks ih=>
 have hall:ks.all (fun k=>(valP at' fs k).2)=ks.all (fun k=>(valR at' fs k).2):=by
  have:∀l:List Pred,(∀k∈l,k∈ks)→l.all (fun k=>(valP at' fs k).2)=l.all (fun k=>(valR at' fs k).2):=by
   intro l;induction l with
   |nil=>intro _;rfl
   |cons k l ih2=>intro hl;rw[List.all_cons,List.all_cons,ih2 (fun x hx=>hl x (by simp[hx])),←ih k (hl k (by simp)) (hp.kid (hl k (by simp))),yWa]
  exact this ks fun _ h=>h
 have hmap:ks.all (fun k=>(valP at' fs k).2)=true→(ks.map fun k=>(valP at' fs k).1)=ks.map fun k=>(valR at' fs k).1:=by intro ha;refine List.map_congr_left fun k hk=>?_;have h1:=List.all_eq_true.1 ha k hk;have h2:=ih k hk (hp.kid hk);unfold norm2 at h2;rw[if_pos h1]at h2;rw[←h2]
 obtain⟨⟨o1,o2⟩,hk,_,_⟩:=hp.top;rw[yW7,yQY,←hall];by_cases c1:(o==1||o==2)=true
 ·obtain rfl:=zYT hk (by rw[c1];rfl);simp[topP,c1,norm2]
 by_cases c3:(o==3)=true
 ·obtain rfl:=zYT hk (by rw[c3];simp);simp only[List.all_nil,if_true,topP,c1,c3,Bool.false_eq_true,if_false,norm2,bnd];cases(findC s at').2<;>cases inRange (findC s at').1<;>simp
 rw[if_neg c1,if_neg c3];by_cases ha:ks.all (fun k=>(valP at' fs k).2)=true;case neg=>rw[if_neg ha,if_neg ha];split<;>rfl
 rw[if_pos ha,if_pos ha,hmap ha];unfold topP topR;rw[if_neg c1,if_neg c3];simp only[beq_iff_eq,Bool.or_eq_true,not_or]at c1 c3;by_cases c4:o=4
 ·subst c4;simp only[beq_self_eq_true,if_true];rw[if_neg (by decide)];unfold factP factR;split
  ·unfold norm2 bnd;rfl
  ·rfl
 by_cases c5:o=5
 ·subst c5;rfl
 have e4:(o==4)=false:=by simpa using c4
 have e5:(o==5)=false:=by simpa using c5
 simp only[e4,e5,Bool.false_eq_true,if_false];by_cases c9:o=9
 ·subst c9;obtain⟨a,rfl⟩:=zKu hk rfl;simp[ykF,compI]
 by_cases c14:o=14
 ·subst c14;obtain⟨a,rfl⟩:=zKu hk rfl;simp[norm2,compI]
 rw[if_neg (show¬(o==9)=true by simpa using c9),if_neg (show¬(o==14)=true by simpa using c14)];obtain⟨a,b,rfl⟩:=zZE hk c1.1 c1.2 c3 c4 c5 c9 c14;simp only[mC,mN,List.getD_cons_zero,lC,lN,List.getD_cons_succ];generalize (valR at' fs a).1=x;generalize (valR at' fs b).1=y;show norm2 (opI o x y)=compI o x y;unfold opI compI;have e9:(o==9)=false:=by simpa using c9
 have e14:(o==14)=false:=by simpa using c14
 have hor:o=6∨o=7∨o=8∨o=10∨o=11∨o=12∨o=13∨o=15∨o=16∨o=17∨o=18:=by omega
 rcases hor with rfl|rfl|rfl|rfl|rfl|rfl|rfl|rfl|rfl|rfl|rfl
 ·exact yX8 _ _
 ·exact ykF _ _
 ·exact yX9 _ _
 all_goals rfl
variable{E:AEnv}(Z:Sys E)
include Z
theorem zJu(at')(fs)(p)(hp:Good p):
  E.C zzK [.agg [.lst (at'.map Coef.cells),.lst (fs.map Fact.cells)],.agg p.cells] (res2 (valP at' fs p)):=by
 induction p using Pred.ind with
 |h o s n ks ih=>
 obtain⟨⟨o1,o2⟩,hk,_,_⟩:=hp.top;have hmost:=zQT hk;have hfind:=zQ5 Z at' s;have hfact:=zQ6 Z at' fs s (ks.map fun k=>(valP at' fs k).1);have hin:=zyT Z (findC s at').1;have hsub:=fun a=>yyY Z 0 a;have htr:=zYh Z;have hop:=zXN Z o;refine Z.zzK _ _ ⟨b0l rfl,?_⟩;generalize hR:valP at' fs (.mk o s n ks)=R;rw[yW7]at hR;rw[Pred.zzb];unfold res2 at*
 have hrs:zwz.rs=[.t 4,.t 5]:=rfl;refine zzd fun N0 h0=>?_;simp only[go_sem,Pred.op,Pred.name,Pred.n,Pred.kids];rw[h0];refine zzd fun N1 h1=>?_;simp only[go_sem];rw[h1];refine zzd fun N2 h2=>?_;simp only[go_sem];intro hlen;refine zyb fun K' hK=>?_;refine zzg ks (fun done=>∀y∈done,(valP at' fs y).2=true) (fun done rest=>⟨[(16,.d (.int .i64 done.length)),(15,.d (.int .i64 ks.length)),(14,.d (.lst (ks.map Pred.cells))),(6,.own 6 1 ((done.map fun k=>(valP at' fs k).1).map icell)),(3,.ptr 3 0),(2,.ptr 2 0)],[(3,[.d (.int .i64 o),.d (.str s),.d (.int .i64 n),.d (.lst (ks.map Pred.cells))]),(2,[.d (.lst (at'.map Coef.cells)),.d (.lst (fs.map Fact.cells))])],[(6,true)]⟩) ?_ (by simp) ?_ ?_
 ·exact zxV 6 6 1 [] [(6,6)] rfl (by simp) rfl (by simp only[Ent0,go_sem,cN,oS])
 ·intro done k r hl hI;have hk':=ih k (by rw[hl];simp) (hp.kid (by rw[hl];simp));have hlt:=zzn hl;have hw:IntKind.i64.wrap ((done.length:Int)+1)=((done.length+1:Nat):Int):=zzf (by omega);have ha1:(done.length+1)*8≤2^46:=by omega
  simp only[zyE,go_sem,hlt,zzz hl];refine zza hk' ?_;cases h1:(valP at' fs k).2 with
  |false=>
   have:ks.all (fun k=>(valP at' fs k).2)=false:=by rw[List.all_eq_false];exact⟨k,by rw[hl];simp,by rw[h1];simp⟩
   rw[this]at hR;rw[hK,hrs];simp only[go_sem,h1,←hR]
  |true=>simp only[go_sem,hw,lA,lM,mA,yyF,h1];have hi1:(∀e∈[[D.int IntKind.i64 (valP at' fs k).1]],e.length=1)=True:=eq_true (by simp);simp only[hi1,go_sem];refine⟨⟨ha1,by omega⟩,zzk [(6,31)] ?_,zzY hI h1⟩;simp only[go_sem,cN,oS,icell]
 ·intro hI;have hall:ks.all (fun k=>(valP at' fs k).2)=true:=List.all_eq_true.2 hI;rw[if_pos hall]at hR;simp only[zyE,go_sem];rw[hK];simp only[go_sem];rw[h2,hrs];unfold topP at hR;by_cases c1:o=1
  ·subst c1;simp only[beq_self_eq_true,↓reduceIte,go_sem]at hR⊢;simp only[←hR,and_self]
  have e1:(o==1)=false:=by simpa using c1
  by_cases c2:o=2
  ·subst c2;simp only[e1,beq_self_eq_true,↓reduceIte,go_sem]at hR⊢;simp only[←hR,and_self]
  have e2:(o==2)=false:=by simpa using c2
  by_cases c3:o=3
  ·subst c3;simp only[e1,e2,beq_self_eq_true,↓reduceIte,go_sem]at hR⊢;refine zza hfind ?_;simp only[go_sem];refine zjX hin ?_;simp only[go_sem,←hR]
  have e3:(o==3)=false:=by simpa using c3
  by_cases c4:o=4
  ·subst c4;simp only[e1,e2,e3,beq_self_eq_true,↓reduceIte,go_sem]at hR⊢;refine zza hfact ?_;simp only[go_sem,←hR]
  have e4:(o==4)=false:=by simpa using c4
  by_cases c5:o=5
  ·subst c5;simp only[e1,e2,e3,e4,beq_self_eq_true,↓reduceIte,go_sem]at hR⊢;simp only[←hR,and_self]
  have e5:(o==5)=false:=by simpa using c5
  by_cases c9:o=9
  ·subst c9;obtain⟨a,rfl⟩:=zKu hk rfl;simp only[e1,e2,e3,e4,e5,beq_self_eq_true,↓reduceIte,go_sem,icell]at hR⊢;refine⟨by simp,?_⟩;refine zza (hsub _) ?_;simp only[go_sem,←hR]
  have e9:(o==9)=false:=by simpa using c9
  by_cases c14:o=14
  ·subst c14;obtain⟨a,rfl⟩:=zKu hk rfl;simp only[e1,e2,e3,e4,e5,e9,beq_self_eq_true,↓reduceIte,go_sem,icell]at hR⊢;refine⟨by simp,?_⟩;refine zza (htr _) ?_;simp only[go_sem,←hR]
  have e14:(o==14)=false:=by simpa using c14
  obtain⟨a,b,rfl⟩:=zZE hk c1 c2 c3 c4 c5 c9 c14;simp only[e1,e2,e3,e4,e5,e9,e14,↓reduceIte,go_sem,icell]at hR⊢;refine⟨by simp,by simp,?_⟩;refine zza (hop _ _) ?_;simp only[go_sem,←hR]
end Go.Abs
end
section
namespace Go.Abs
def EvalS(at':List Coef)(fs:List Fact)(p:Pred):Int×Bool:=if p.checkE !=0 then(0,false)else valR at' fs p
def HoldsS(at':List Coef)(fs:List Fact)(p:Pred):Bool×Bool:=if p.same zeroP then(true,true)else((EvalS at' fs p).2&&(EvalS at' fs p).1 !=0,(EvalS at' fs p).2)
theorem yZN{r}(h:norm2 r=r)(h2:r.2=false):r.1=0:=by
 unfold norm2 at h;rw[h2]at h;rw[←h];rfl
theorem yW8(at')(fs)(p)(hp:Good p):norm2 (valR at' fs p)=valR at' fs p:=by rw[←yqX at' fs p hp];unfold norm2;cases(valP at' fs p).2<;>rfl
theorem yq0{at' fs p}(h:(EvalS at' fs p).2=false):(EvalS at' fs p).1=0:=by
 by_cases hc:p.checkE=0
 ·have e:EvalS at' fs p=valR at' fs p:=by unfold EvalS;rw[hc];rfl
  rw[e]at h⊢;exact yZN (yW8 at' fs p (zWq hc)) h
 ·have e:EvalS at' fs p=(0,false):=by unfold EvalS;rw[if_pos (by simpa using hc)]
  rw[e]
theorem yzT{p:Pred}:(p.checkE !=0)=false→p.checkE=0:=by intro h;simpa using h
variable{E:AEnv}(Z:Sys E)
include Z
theorem zQ4(hG:E.G 2=some (kws.map .str))(hIt:∀p,E.It zz1 [.ref (Pred.cells p)] (yields p.pre))(at')(fs)(p):
  E.C zxD [.agg p.cells,.one (.lst (at'.map Coef.cells)),.one (.lst (fs.map Fact.cells))] (res2 (EvalS at' fs p)):=by
 have hc:=zZJ Z hG hIt p;have hv:=fun h=>zJu Z at' fs p h;have hn:=fun h=>yqX at' fs p h;have hgd:=fun h=>zWq (p:=p) h;refine Z.zxD _ _ ⟨b0l rfl,?_⟩;generalize hR:EvalS at' fs p=R;unfold EvalS at hR;unfold res2 at*
 obtain⟨o,s,n,ks⟩:=p;rw[Pred.zzb]at*
 simp only[zYB,go_sem,Pred.op,Pred.name,Pred.n,Pred.kids]at hc hv⊢;refine zza hc ?_;cases c0:(Pred.checkE (.mk o s n ks) !=0)with
 |true=>simp only[c0,go_sem]at hR⊢;simp only[←hR,and_self]
 |false=>have hg:=hgd (yzT c0);have hnn:=hn hg;simp only[c0,go_sem]at hR⊢;refine zza (hv hg) ?_;rw[←hR,←hnn];unfold norm2;cases c1:(valP at' fs (.mk o s n ks)).2<;>simp only[go_sem,c1]
theorem yYm(hG:E.G 2=some (kws.map .str))(hIt:∀p,E.It zz1 [.ref (Pred.cells p)] (yields p.pre))(at')(fs)(p):
  E.C zwq [.agg p.cells,.one (.lst (at'.map Coef.cells)),.one (.lst (fs.map Fact.cells))] (.tup [.one (.bool (HoldsS at' fs p).1),.one (.bool (HoldsS at' fs p).2)]):=by
 have hs:=zy7 Z p zeroP;have he:=zQ4 Z hG hIt at' fs p;have hz:=@yq0 at' fs p;refine Z.zwq _ _ ⟨b0l rfl,?_⟩;generalize hR:HoldsS at' fs p=R;unfold HoldsS at hR;unfold res2 at*
 have e0:Pred.cells zeroP=[.int .i64 0,.str [],.int .i64 0,.lst []]:=by rw[Pred.zzb];rfl
 rw[e0]at hs;obtain⟨o,s,n,ks⟩:=p;rw[Pred.zzb (.mk o s n ks)]at*
 simp only[zZ6,go_sem,Pred.op,Pred.name,Pred.n,Pred.kids]at hs he⊢;refine zza hs ?_;cases c0:(Pred.mk o s n ks).same zeroP with
 |true=>simp only[c0,go_sem]at hR⊢;simp only[←hR,and_self]
 |false=>
  simp only[c0,go_sem]at hR⊢;refine zza he ?_;simp only[go_sem,←hR];cases c1:(EvalS at' fs (.mk o s n ks)).2 with
  |true=>simp only[go_sem]
  |false=>simp only[go_sem,hz c1,bne_self_eq_false]
end Go.Abs
end
section
namespace Go.Abs
theorem zZs{d}(h:d<10):(UInt8.ofNat (48+d)).toNat=48+d:=by simp;omega
theorem zwo:∀(u) (c),c∈Lib.decDigits u→48≤c.toNat∧c.toNat≤57:=by
 intro u;induction u using Nat.strongRecOn with
 |ind u ih=>
  intro c hc;rw[Lib.decDigits]at hc;split at hc
  ·rename_i h;simp only[List.mem_singleton]at hc;subst hc;rw[zZs h];omega
  ·rename_i h;rcases List.mem_append.1 hc with hc|hc
   ·exact ih (u/10) (by omega) c hc
   ·simp only[List.mem_singleton]at hc;subst hc;rw[zZs (by omega)];omega
def ofDigits(l:List UInt8):Nat:=l.foldl (fun a c=>a*10+(c.toNat-48)) 0
theorem zj7:∀u:Nat,ofDigits (Lib.decDigits u)=u:=by
 intro u;induction u using Nat.strongRecOn with
 |ind u ih=>
  rw[Lib.decDigits];split
  ·rename_i h;simp only[ofDigits,List.foldl_cons,List.foldl_nil];rw[zZs h];omega
  ·rename_i h;have:=ih (u/10) (by omega);unfold ofDigits at this⊢;rw[List.foldl_append,this];simp only[List.foldl_cons,List.foldl_nil];rw[zZs (by omega)];omega
theorem zKs{a b}(h:Lib.itoa a=Lib.itoa b):a=b:=by
 have hne:∀u:Nat,Lib.decDigits u≠[]:=fun u e=>by have:=Lib.nDigits_pos u;rw[←Lib.decDigits_length,e]at this;simp at this
 have hm:∀u v:Nat,(45:UInt8)::Lib.decDigits u≠Lib.decDigits v:=fun u v e=>by have:=zwo v 45 (by rw[←e];simp);simp at this
 unfold Lib.itoa at h;split at h<;>split at h
 ·rw[List.cons.injEq]at h;have:=congrArg ofDigits h.2;rw[zj7,zj7]at this;omega
 ·exact absurd h (hm _ _)
 ·exact absurd h.symm (hm _ _)
 ·have:=congrArg ofDigits h;rw[zj7,zj7]at this;omega
theorem yqu(n):(44:UInt8)∉Lib.itoa n:=by
 intro h;have hd:∀u:Nat,(44:UInt8)∉Lib.decDigits u:=fun u hu=>by have:=zwo u 44 hu;simp at this
 unfold Lib.itoa at h;split at h
 ·rcases List.mem_cons.1 h with h|h
  ·cases h
  ·exact hd _ h
 ·exact hd _ h
def keyT(l:List Int):Str:=l.flatMap fun n=>Lib.itoa n++[44]
theorem yYW{α:Type}{c}{a b r r':List α}(ha:c∉a)(hb:c∉b)(h:a++c::r=b++c::r'):a=b∧r=r':=by
 induction a generalizing b with
 |nil=>
  cases b with
  |nil=>simp at h;exact⟨rfl,h⟩
  |cons y b=>simp at h;exact absurd h.1 (fun e=>hb (by simp[e]))
 |cons x a ih=>
  cases b with
  |nil=>simp at h;exact absurd h.1 (fun e=>ha (by simp[e]))
  |cons y b=>simp only[List.cons_append,List.cons.injEq]at h;obtain⟨h1,h2⟩:=ih (fun hc=>ha (by simp[hc])) (fun hc=>hb (by simp[hc])) h.2;exact⟨by rw[h.1,h1],h2⟩
theorem yqx:∀{a b},keyT a=keyT b→a=b
 |[],[],_=>rfl
 |[],x::b,h=>by simp[keyT]at h
 |x::a,[],h=>by simp[keyT]at h
 |x::a,y::b,h=>by simp only[keyT,List.flatMap_cons,List.append_assoc,List.singleton_append]at h;obtain⟨h1,h2⟩:=yYW (yqu x) (yqu y) h;rw[zKs h1,yqx (a:=a) (b:=b) h2]
theorem yVn(a b):(keyT a==keyT b)=(a==b):=by
 rw[Bool.eq_iff_iff];simp only[beq_iff_eq];exact⟨yqx,fun h=>by rw[h]⟩
def I64(n:Int):Prop:= -9223372036854775808≤n∧n≤9223372036854775807
theorem yVo{a}(h:∀n∈a,I64 n):(keyT a).length≤22*a.length:=by
 induction a with
 |nil=>simp[keyT]
 |cons x a ih=>have h1:=Lib.itoa_length_le x (h x (by simp)).1 (h x (by simp)).2;have h2:=ih fun n hn=>h n (by simp[hn]);simp only[keyT,List.flatMap_cons,lA,lC,lN]at h2⊢;omega
theorem yXL(a)(n):keyT (a++[n])=keyT a++(Lib.itoa n++[44]):=by simp[keyT]
def okF(f g:Fact):Bool:=!(f.name==g.name&&f.args==g.args&&f.res !=g.res)
def funB:List Fact→Bool
 |[]=>true
 |f::l=>l.all (okF f)&&funB l
def Fact.Wf(f:Fact):Prop:=(∀n∈f.args,I64 n)∧I64 f.res
theorem yXY{a b:Str}{v z}:mapAt [(.str a,v)] (.str b) z=if a==b then v else z:=by unfold mapAt mapGet;simp only[keyEq];by_cases h:(a==b)=true<;>simp[h,mapGet]
theorem yZJ{a b:Str}{v}:mapHas [(.str a,v)] (.str b)=(a==b):=by
 unfold mapHas mapGet;simp only[keyEq];by_cases h:(a==b)=true
 ·have h':=h;simp only[beq_iff_eq]at h';subst h';simp
 ·have h':(a==b)=false:=by simpa using h
  simp[h',mapGet]
variable{E:AEnv}(Z:Sys E)
include Z
theorem yzU(hI:∀n,I64 n→E.C strconv_Itoa [.one (.int .i64 n)] (.one (.str (Lib.itoa n))))(l)(hl:Small l.length)(hw:∀n∈l,I64 n):
  E.C zka [.one (.lst (l.map icell))] (.one (.str (keyT l))):=by
 refine Z.zka _ _ ⟨b0l rfl,?_⟩;unfold Small at hl;simp only[zXR,go_sem];intro hlen;refine zzg l (fun _=>True) (fun done rest=>⟨[(8,.d (.int .i64 done.length)),(7,.d (.int .i64 l.length)),(6,.d (.lst (l.map icell))),(3,.d (.str (keyT done)))],[],[]⟩) ?_ trivial ?_ ?_
 ·exact zze (by simp only[go_sem,keyT,List.flatMap_nil])
 ·intro done x r hl' _;have hlt:=zzn hl';have hww:IntKind.i64.wrap ((done.length:Int)+1)=((done.length+1:Nat):Int):=zzf (by omega);have hx:=hw x (by rw[hl'];simp);have h1:=Lib.itoa_length_le x hx.1 hx.2;have h2:=yVo (a:=done) fun n hn=>hw n (by rw[hl'];simp[hn]);have h3:done.length≤l.length:=by rw[hl'];simp
  have o1:(Lib.itoa x).length+1≤9223372036854775807:=by omega
  have o2:(keyT done).length+((Lib.itoa x).length+1)≤9223372036854775807:=by omega
  simp only[zkX,go_sem,getD_at hl',hlt,icell];refine zza (hI x hx) ?_;simp only[go_sem,hww,lA,List.length_singleton,o1,o2];exact zze (by simp only[go_sem,yXL])
 ·intro _;simp only[zkX,go_sem]
attribute [local go_sem] AV.toMV MV.av
theorem ykA(hI:∀n,I64 n→E.C strconv_Itoa [.one (.int .i64 n)] (.one (.str (Lib.itoa n))))(l)(hs:∀f∈l,Small f.args.length)(hw:∀f∈l,f.Wf):
  E.C zyA [.one (.lst (l.map Fact.cells))] (.one (.bool (funB l))):=by
 have hkey:=fun(f:Fact) (hf:f∈l)=>yzU Z hI f.args (hs f hf) (hw f hf).1;refine Z.zyA _ _ ⟨b0l rfl,?_⟩;generalize hR:funB l=R;simp only[zvw,go_sem];intro hlen;refine zyb fun K' hK=>?_;refine zzg l (fun done=>funB l=funB (l.drop done.length)) (fun done rest=>⟨[(13,.d (.int .i64 done.length)),(12,.d (.int .i64 l.length)),(11,.d (.lst (l.map Fact.cells))),(0,.d (.lst (l.map Fact.cells))),(3,.mref 10)],[(10,[.mp zzN zxk (match done.getLast? with|some f=>[(.str (keyT f.args),.one (.int .i64 f.res))]|none=>[])])],[]⟩) ?_ rfl ?_ ?_
 ·exact zze (by simp only[go_sem,oS,List.getLast?_nil])
 ·intro done f r hl hInv;have hlt:=zzn hl;have hww:IntKind.i64.wrap ((done.length:Int)+1)=((done.length+1:Nat):Int):=zzf (by omega);have hdr:l.drop done.length=f::r:=by rw[hl];exact List.drop_left' rfl
  have hdr1:l.drop (done.length+1)=r:=by rw[show done.length+1=(done++[f]).length by simp,hl,show done++f::r=(done++[f])++r by simp];exact List.drop_left' rfl
  rw[hdr,funB]at hInv;have hm:f∈l:=by rw[hl];simp
  have hn1:((done.length+1:Nat):Int)≤l.length:=by rw[hl];simp;omega
  have hdm:(l.map Fact.cells).drop (done.length+1)=r.map Fact.cells:=by rw[←List.map_drop,hdr1]
  generalize (match done.getLast? with|some f=>[(D.str (keyT f.args),MV.one (D.int .i64 f.res))]|none=>[])=kv0;simp only[zxo,go_sem,getD_at hl,hlt,Fact.cells];refine zza (hkey f hm) ?_;have hlen0:(0:Nat)<9223372036854775807:=by omega
  simp only[go_sem,hlen0,hww,hn1,hdm,Int.toNat_natCast];intro hlr;refine zyb fun K2 hK2=>?_;refine zzg r (fun dn=>∀y∈dn,okF f y=true) (fun dn rest=>⟨[(30,.d (.int .i64 dn.length)),(29,.d (.int .i64 r.length)),(28,.d (.lst (r.map Fact.cells))),(13,.d (.int .i64 done.length)),(12,.d (.int .i64 l.length)),(11,.d (.lst (l.map Fact.cells))),(0,.d (.lst (l.map Fact.cells))),(3,.mref 10),(5,.ptr 5 0)],[(10,[.mp zzN zxk [(.str (keyT f.args),.one (.int .i64 f.res))]]),(5,[.d (.str f.name),.d (.lst (f.args.map icell)),.d (.int .i64 f.res)])],[]⟩) ?_ (by simp) ?_ ?_
  ·exact zze (by simp only[go_sem,oS])
  ·intro dn g r' hl2 hI2;have hlt2:=zzn hl2;have hw2:IntKind.i64.wrap ((dn.length:Int)+1)=((dn.length+1:Nat):Int):=zzf (by omega);have hg:g∈l:=by rw[hl,hl2];simp
   simp only[zxn,go_sem,getD_at hl2,hlt2,Fact.cells];refine zza (hkey g hg) ?_;simp only[go_sem,yXY,yZJ,yVn];have hcm:(f.args==g.args)=(g.args==f.args):=BEq.comm;have hcn:(f.name==g.name)=(g.name==f.name):=BEq.comm;have hok:okF f g=!(g.name==f.name&&g.args==f.args&&f.res !=g.res):=by unfold okF;rw[hcm,hcn]
   rw[hcm];cases ha:(g.args==f.args)with
   |false=>rw[ha]at hok;simp only[go_sem,hw2,lA];exact⟨zze (by simp only[go_sem,oS]),zzY hI2 (by rw[hok];simp)⟩
   |true=>
    rw[ha]at hok;cases hb:(g.name==f.name&&f.res !=g.res)with
    |true=>
     have:funB l=false:=by
      rw[hInv];have hf:okF f g=false:=by rw[hok];simp only[Bool.and_true,hb,Bool.not_true]
      have:r.all (okF f)=false:=by rw[List.all_eq_false];exact⟨g,by rw[hl2];simp,by rw[hf];simp⟩
      rw[this,Bool.false_and]
     rw[this]at hR;simp only[go_sem,hb,hK2,hK,←hR]
    |false=>simp only[go_sem,hw2,hb,lA];exact⟨zze (by simp only[go_sem,oS]),zzY hI2 (by rw[hok];simp only[Bool.and_true,hb,Bool.not_false])⟩
  ·intro hI2;have hall:r.all (okF f)=true:=List.all_eq_true.2 hI2;rw[hall,Bool.true_and]at hInv;simp only[zxn,go_sem,hK2,hww,lA,List.getLast?_append,List.getLast?_singleton,Option.some_or,hdr1];exact⟨zze (by simp only[go_sem,oS]),hInv⟩
 ·intro hInv;rw[List.drop_length,funB]at hInv;rw[hInv]at hR;simp only[zxo,go_sem,hK,←hR]
end Go.Abs
end
section
namespace Go.Abs
theorem yYk:voidP falseP=false:=by decide+kernel
theorem zVb(p):isFalse p=p.same falseP:=by
 unfold isFalse;cases h:p.same falseP with
 |false=>simp
 |true=>rw[(Pred.zyC _ _).1 h,yYk];rfl
def subAll(names:List Str)(by':List Pred):Pred→Pred
 |.mk o s n ks=>if o==3&&(decide (findIx s 0 names≥0)&&decide (findIx s 0 names<by'.length))then by'.getD (findIx s 0 names).toNat zeroP else .mk o s n (subs ks)
where
 subs:List Pred→List Pred
 |[]=>[]
 |k::ks=>subAll names by' k::subs ks
theorem yWZ(names)(by')(o)(s:Str)(n)(ks):subAll names by' (.mk o s n ks)=
  if o==3&&(decide (findIx s 0 names≥0)&&decide (findIx s 0 names<by'.length))then by'.getD (findIx s 0 names).toNat zeroP else .mk o s n (ks.map (subAll names by')):=by
 rw[subAll];have:subAll.subs names by' ks=ks.map (subAll names by'):=by
  induction ks with
  |nil=>rfl
  |cons k ks ih=>rw[subAll.subs,ih];rfl
 rw[this]
theorem zja(p:Pred):List.drop 4 (p.cells.map AV.d)=[]:=List.drop_eq_nil_of_le (by simp[Pred.zzh])
variable{E:AEnv}(Z:Sys E)
include Z
end Go.Abs
end
section
namespace Go.Abs
theorem AllN.mk{P o}{s:Str}{n ks}(h:P (.mk o s n ks))(hk:∀k∈ks,AllN P k):AllN P (.mk o s n ks):=by
 intro q hq;rw[Pred.zjG]at hq;have hq':=List.mem_cons.1 hq;clear hq;rcases hq' with rfl|hq
 ·exact h
 ·clear h;revert hq;induction ks with
  |nil=>intro hq;cases hq
  |cons x ks ih=>
   intro hq;rw[Pred.pre.pres,List.mem_append]at hq;rcases hq with hq|hq
   ·exact hk x (by simp) q hq
   ·exact ih (fun k hk'=>hk k (by simp[hk'])) hq
theorem Pred.yQd(p:Pred):1≤p.cnt:=by cases p;rw[Pred.cnt];omega
theorem Pred.yVs(ks):ks.length≤Pred.cnts ks:=by
 induction ks with
 |nil=>simp
 |cons k ks ih=>rw[Pred.cnts,lC];have:=Pred.yQd k;omega
theorem zxN(p)(h:p.cnt≤1048576):Tame p:=by
 induction p using Pred.ind with
 |h o s n ks ih=>
 rw[Pred.cnt]at h;refine AllN.mk ?_ fun k hk=>ih k hk ?_
 ·have:=Pred.yVs ks;show Small ks.length;unfold Small;omega
 ·have:=Pred.ywQ hk;omega
end Go.Abs
end
section
namespace Go.Abs
structure Lin where
 coefs:List Coef
 c:Int
def Lin.cells(a:Lin):List D:=[.lst (a.coefs.map Coef.cells),.int .i64 a.c]
theorem Lin.lens(l:List Lin):(∀e∈l.map Lin.cells,e.length=2)=True:=zvp (f:=Lin.cells) (fun _=>rfl) l
attribute [go_sem] Lin.lens
def noLin:Lin:=⟨[],0⟩
def leS(a b:Str):Bool:=Op.bytesLess a b||a==b
def errC(prev:Option Coef)(x:Coef):Int:=
 if x.name==[]||decide ((x.name.length:Int)>400)then 3
 else if x.n==0||!inRange x.n then 2
 else match prev with
  |none=>0
  |some p=>if leS x.name p.name then 9 else 0
def coefE:Option Coef→List Coef→Int
 |_,[]=>0
 |p,x::r=>if errC p x==0 then coefE (some x) r else errC p x
def linE(a:Lin):Int:=if decide ((a.coefs.length:Int)>24)then 7 else if coefE none a.coefs==0 then(if inRange a.c then 0 else 2)else coefE none a.coefs
theorem yz9{p d x}(h:∀r,coefE none (d++r)=coefE p r)(hx:errC p x=0):∀r,coefE none ((d++[x])++r)=coefE (some x) r:=by intro r;rw[List.append_assoc,h,List.singleton_append,coefE,hx];rfl
def lastC(d:List Coef):Option Coef:=d.getLast?
theorem zjc(d)(x):lastC (d++[x])=some x:=by simp[lastC]
theorem zWw{α:Type}(l:List α):l=[]∨∃d y,l=d++[y]:=by
 rcases List.eq_nil_or_concat l with h|⟨d,y,h⟩
 ·exact .inl h
 ·exact .inr ⟨d,y,by rw[h,List.concat_eq_append]⟩
theorem yjQ:IntKind.i64.wrap (0+1)=1:=by decide
theorem yvi:IntKind.i64.wrap (0-1)= -1:=by decide
theorem zzV{α:Type}{f:α→List D}{l a r x n}(hl:l=a++x::r)(hn:a.length=n):(l.map f).getD n []=f x:=by subst hn;exact getD_at hl
theorem yqL{l d r x y}(h:l=d++[y]++x::r):(l.map Coef.cells).getD d.length []=y.cells:=by
 subst h;simp
theorem yqM{d}{y:Coef}(h:((d++[y]).length:Int)≤24):IntKind.i64.wrap (((d++[y]).length:Int)-1)=(d.length:Int):=by
 rw[lA]at*;simp at*;exact(i64_in _ (by omega)).trans (by omega)
variable{E:AEnv}(Z:Sys E)
include Z
theorem zyS(a):E.C zyj [.agg a.cells] (.one (.int .i64 (linE a))):=by
 refine Z.zyj _ _ ⟨b0l rfl,?_⟩;generalize hR:linE a=R;obtain⟨l,c⟩:=a;have hc:=zyT Z c;unfold linE at hR;simp only[Lin.cells]at*
 simp only[zYw,go_sem];intro _;cases h24:decide ((l.length:Int)>24)with
 |true=>simp only[h24,go_sem]at hR⊢;exact hR
 |false=>
 simp only[h24,go_sem]at hR⊢;have h24':(l.length:Int)≤24:=by simpa using h24
 intro _;refine zzg l (fun done=>∀r,coefE none (done++r)=coefE (lastC done) r) (fun done rest=>⟨[(12,.d (.int .i64 done.length)),(11,.d (.int .i64 l.length)),(10,.d (.lst (l.map Coef.cells))),(1,.ptr 1 0)],[(1,[.d (.lst (l.map Coef.cells)),.d (.int .i64 c)])],[]⟩) ?_ (fun r=>rfl) ?_ ?_
 ·exact zze (by simp only[go_sem,oS])
 ·intro done x r hl hI;have hlt:=zzn hl;have hw:IntKind.i64.wrap ((done.length:Int)+1)=((done.length+1:Nat):Int):=zzf (by omega);have hx:=zyT Z x.n;have hI2:=hI (x::r);rw[←hl,coefE]at hI2;have hE:∀e,errC (lastC done) x=e→e≠0→e=R:=by intro e he hne;rw[he,if_neg (by simpa using hne)]at hI2;rw[hI2,if_neg (by simpa using hne)]at hR;exact hR
  have hS:=yz9 hI (x:=x);simp only[zkx,go_sem,getD_at hl,hlt,Coef.cells];try intro _
  cases e1:(x.name==[]||decide ((x.name.length:Int)>400))with
  |true=>
   have:=hE 3 (by unfold errC;rw[e1];rfl) (by decide);cases e0:(x.name==[])<;>simp only[e0,Bool.false_or,go_sem]at e1⊢<;>try simp only[e1,go_sem]
   all_goals first|exact this|(intro _;exact this)
  |false=>
   have e1':=e1;simp only[Bool.or_eq_false_iff]at e1;simp only[e1.1,e1.2,go_sem,Bool.or_self];try intro _
   cases e2:(x.n==0)with
   |true=>simp only[go_sem];refine⟨.one (.bool false),?_⟩;simp only[go_sem];exact hE 2 (by unfold errC;rw[e1',e2];rfl) (by decide)
   |false=>
    simp only[go_sem];refine zza hx ?_;cases e3:inRange x.n with
    |false=>simp only[go_sem];exact hE 2 (by unfold errC;rw[e1',e2,e3];rfl) (by decide)
    |true=>
     simp only[go_sem];rcases zWw done with rfl|⟨d0,y,rfl⟩
     ·have he:errC (lastC []) x=0:=by unfold errC;rw[e1',e2,e3];rfl
      have h0:(l.map Coef.cells).getD 0 []=x.cells:=getD_at hl;simp only[go_sem,lN,nZ,yjQ,yvi,h0,Coef.cells];refine⟨zze (by simp only[go_sem,oS,lA,lC,lN,zA,Int.natCast_one]),?_⟩;exact fun r2=>hS he r2
     ·have hp:=yqL hl;have hi:=yqM (d:=d0) (y:=y) (by omega);have hgt:decide ((((d0++[y]).length:Nat):Int)>0)=true:=by simp
      have hr1:((d0.length:Int)<(l.length:Int))=True:=eq_true (by rw[lA]at hlt;simp at hlt;omega);simp only[go_sem,hgt,hi,hp,Int.toNat_natCast,Coef.cells,hr1];cases e4:leS x.name y.name with
      |true=>have e4':=e4;unfold leS at e4;simp only[e4,go_sem];exact hE 9 (by unfold errC;rw[e1',e2,e3,zjc];simp only[e4',go_sem]) (by decide)
      |false=>
       have he:errC (lastC (d0++[y])) x=0:=by unfold errC;rw[e1',e2,e3,zjc];simp only[e4,go_sem]
       unfold leS at e4;simp only[e4,go_sem,hw];refine⟨zze (by simp only[go_sem,oS,lA,lC,lN,zA]),?_⟩;intro r2;rw[zjc];exact hS he r2
 ·intro hI;have hz:coefE none l=0:=by have:=hI [];rw[List.append_nil]at this;rw[this];rfl
  rw[hz]at hR;simp only[zkx,go_sem];try intro _
  refine zza hc ?_;cases e3:inRange c with
  |false=>simp only[go_sem];rw[e3]at hR;exact hR
  |true=>simp only[go_sem];rw[e3]at hR;exact hR
end Go.Abs
end
section
namespace Go.Abs
def resL(r:Lin×Bool):CV:=.tup [.agg r.1.cells,.one (.bool r.2)]
def rightL(x:Lin):Lin×Bool:=if linE x !=0 then(noLin,false)else(x,true)
def wAdd(a b:Int):Int:=IntKind.i64.wrap (a+b)
def addHd(x y:Coef):List Coef:=if wAdd x.n y.n !=0 then[⟨x.name,wAdd x.n y.n⟩]else[]
def addGo:List Coef→List Coef→List Coef
 |[],b=>b
 |a,[]=>a
 |x::a,y::b=>if Op.bytesLess x.name y.name then x::addGo a (y::b)else if Op.bytesLess y.name x.name then y::addGo (x::a) b else addHd x y++addGo a b
termination_by a b=>a.length+b.length
def addL(a b:Lin):Lin×Bool:=if linE a !=0||linE b !=0 then(noLin,false)else rightL ⟨addGo a.coefs b.coefs,wAdd a.c b.c⟩
theorem zkt(b):addGo [] b=b:=by unfold addGo;rfl
theorem zwl(a):addGo a []=a:=by cases a<;>(unfold addGo;rfl)
theorem zXf(x y)(a b):addGo (x::a) (y::b)=if Op.bytesLess x.name y.name then x::addGo a (y::b)else if Op.bytesLess y.name x.name then y::addGo (x::a) b else addHd x y++addGo a b:=by
 rw[addGo]
theorem zxJ{a}(h:linE a=0):a.coefs.length≤24:=by
 unfold linE at h;split at h
 ·cases h
 ·rename_i h2;simp at h2;omega
structure AddS where
 ad:List Coef
 ar:List Coef
 bd:List Coef
 br:List Coef
 es:List Coef
structure AddS.Ok(l m:List Coef)(s:AddS):Prop where
 a:l=s.ad++s.ar
 b:m=s.bd++s.br
 go:s.es++addGo s.ar s.br=addGo l m
 len:s.es.length≤s.ad.length+s.bd.length
variable{E:AEnv}(Z:Sys E)
include Z
theorem zQZ(x):E.C zkk [.agg x.cells] (resL (rightL x)):=by
 have h1:=zyS Z x;refine Z.zkk _ _ ⟨b0l rfl,?_⟩;generalize hR:rightL x=R;unfold rightL at hR;obtain⟨l,c⟩:=x;simp only[Lin.cells]at h1⊢;simp only[zYA,go_sem];refine zza h1 ?_;cases c0:(linE ⟨l,c⟩ !=0)with
 |true=>rw[c0]at hR;subst hR;simp only[c0,go_sem,if_true];exact⟨rfl,rfl⟩
 |false=>rw[c0]at hR;subst hR;simp only[c0,go_sem]
set_option maxHeartbeats 4000000 in
theorem zyK(a b):E.C zyz [.agg a.cells,.agg b.cells] (resL (addL a b)):=by
 have ha:=zyS Z a;have hb:=zyS Z b;have hr:=fun x=>zQZ Z x;refine Z.zyz _ _ ⟨b0l rfl,?_⟩;generalize hR:addL a b=R;unfold addL at hR;obtain⟨l,c⟩:=a;obtain⟨m,d⟩:=b;simp only[Lin.cells,resL]at ha hb hr⊢;simp only[zW8,go_sem];refine zza ha ?_;cases c0:(linE ⟨l,c⟩ !=0)with
 |true=>rw[c0]at hR;subst hR;simp only[c0,go_sem];refine⟨.one (.int .i64 0),?_⟩;simp only[go_sem];exact⟨rfl,rfl⟩
 |false=>
 simp only[c0,go_sem];refine zza hb ?_;cases c1:(linE ⟨m,d⟩ !=0)with
 |true=>rw[c0,c1]at hR;subst hR;simp only[c1,go_sem];exact⟨rfl,rfl⟩
 |false=>
 rw[c0,c1]at hR;have hl:l.length≤24:=zxJ (a:=⟨l,c⟩) (by simpa using c0);have hm:m.length≤24:=zxJ (a:=⟨m,d⟩) (by simpa using c1);have hr:=hr ⟨addGo l m,wAdd c d⟩;simp only[Bool.or_self,go_sem]at hR;rw[hR]at hr;simp only[c1,go_sem];refine zyb fun K hK=>?_;refine zq7 (fun s:AddS=>⟨[(7,.d (.int .i64 s.ad.length)),(8,.d (.int .i64 s.bd.length)),(2,.ptr 2 0),(3,.ptr 3 0),(4,.ptr 4 0),(6,.ptr 6 0)],
  [(6,[.own 6 2 (s.es.map Coef.cells),.d (.int .i64 (wAdd c d))]),(4,[.full [],.d (.int .i64 0)]),(3,[.d (.lst (m.map Coef.cells)),.d (.int .i64 d)]),(2,[.d (.lst (l.map Coef.cells)),.d (.int .i64 c)])],[(6,true)]⟩)
  (AddS.Ok l m) (fun s=>s.ar.length+s.br.length) ⟨[],l,[],m,[]⟩ ?_ ⟨rfl,rfl,rfl,Nat.le_refl _⟩ ?_
 ·exact zwG 6 0 6 2 _ [] [(6,6)] rfl rfl (by simp) rfl (by simp only[Ent0,go_sem,cN,oS,mN,lN,nZ];rfl)
 ·rintro⟨ad,ar,bd,br,es⟩ ⟨h1,h2,h3,h4⟩
  simp only at h1 h2 h3 h4;have hel:es.length≤48:=by
   have:=congrArg List.length h1;have:=congrArg List.length h2;simp only[lA]at*
   omega
  have hw1:IntKind.i64.wrap ((ad.length:Int)+1)=((ad.length+1:Nat):Int):=zzf (by have:=congrArg List.length h1;simp only[lA]at this;omega);have hw2:IntKind.i64.wrap ((bd.length:Int)+1)=((bd.length+1:Nat):Int):=zzf (by have:=congrArg List.length h2;simp only[lA]at this;omega);cases ar with
  |nil=>
   have hi1:decide ((ad.length:Int)<(l.length:Int))=false:=by simp[h1]
   have hq:((ad.length:Int)==(l.length:Int))=true:=by simp[h1]
   have hx0:(l.map Coef.cells).getD ad.length []=[]:=by rw[h1];simp
   cases br with
   |nil=>
    have hi2:decide ((bd.length:Int)<(m.length:Int))=false:=by simp[h2]
    rw[zkt,List.append_nil]at h3;subst h3;simp only[zyi,go_sem,hi1,hi2,hK];intro _ _;refine zza hr ?_;simp only[go_sem]
   |cons y br=>
    have hlt:((bd.length:Int)<(m.length:Int))=True:=eq_true (by rw[h2];simp;omega);have hi2:decide ((bd.length:Int)<(m.length:Int))=true:=decide_eq_true (of_eq_true hlt);have hy:=zzV (f:=Coef.cells) h2 rfl;have hq2:((bd.length:Int)==(m.length:Int))=false:=by
     have:¬((bd.length:Int)=(m.length:Int)):=by rw[h2];simp;omega
     simpa using this
    rw[zkt]at h3;simp only[zyi,go_sem,hi1,hi2,hq,hq2,hy,hx0,hlt,Coef.cells,lM];intros;refine⟨⟨by simp,by omega,by omega⟩,⟨ad,[],bd++[y],br,es++[y]⟩,zzk [(6,138)] ?_,⟨h1,by rw[h2,List.append_assoc];rfl,by rw[zkt,←h3,List.append_assoc];rfl,by simp only[lA,lC,lN]<;>omega⟩,by simp only[lC,lN]<;>omega⟩;simp only[go_sem,cN,oS,lA,lC,lN,zA,mA,mC,mN,hw2,Coef.cells];try rfl
  |cons x ar=>
   have hlt1:((ad.length:Int)<(l.length:Int))=True:=eq_true (by rw[h1];simp;omega);have hi1:decide ((ad.length:Int)<(l.length:Int))=true:=decide_eq_true (of_eq_true hlt1);have hx:=zzV (f:=Coef.cells) h1 rfl;have hq:((ad.length:Int)==(l.length:Int))=false:=by
    have:¬((ad.length:Int)=(l.length:Int)):=by rw[h1];simp;omega
    simpa using this
   cases br with
   |nil=>
    have hi2:decide ((bd.length:Int)<(m.length:Int))=false:=by simp[h2]
    have hq2:((bd.length:Int)==(m.length:Int))=true:=by simp[h2]
    have hy0:(m.map Coef.cells).getD bd.length []=[]:=by rw[h2];simp
    rw[zwl]at h3;simp only[zyi,go_sem,hi1,hi2,hq,hq2,hy0,hx,hlt1,Coef.cells,lM];intros;refine⟨⟨by simp,by omega,by omega⟩,⟨ad++[x],ar,bd,[],es++[x]⟩,zzk [(6,105)] ?_,⟨by rw[h1,List.append_assoc];rfl,h2,by rw[zwl,←h3,List.append_assoc];rfl,by simp only[lA,lC,lN]<;>omega⟩,by simp only[lC,lN]<;>omega⟩;simp only[go_sem,cN,oS,lA,lC,lN,zA,mA,mC,mN,hw1,Coef.cells];try rfl
   |cons y br=>
    have hlt2:((bd.length:Int)<(m.length:Int))=True:=eq_true (by rw[h2];simp;omega);have hi2:decide ((bd.length:Int)<(m.length:Int))=true:=decide_eq_true (of_eq_true hlt2);have hy:=zzV (f:=Coef.cells) h2 rfl;have hq2:((bd.length:Int)==(m.length:Int))=false:=by
     have:¬((bd.length:Int)=(m.length:Int)):=by rw[h2];simp;omega
     simpa using this
    rw[zXf]at h3;cases e1:Op.bytesLess x.name y.name with
    |true=>rw[e1,if_pos rfl]at h3;simp only[zyi,go_sem,hi1,hi2,hq,hq2,hy,hx,hlt1,hlt2,e1,Coef.cells,lM];intros;refine⟨⟨by simp,by omega,by omega⟩,⟨ad++[x],ar,bd,y::br,es++[x]⟩,zzk [(6,105)] ?_,⟨by rw[h1,List.append_assoc];rfl,h2,by rw[←h3,List.append_assoc];rfl,by simp only[lA,lC,lN]<;>omega⟩,by simp only[lC,lN]<;>omega⟩;simp only[go_sem,cN,oS,lA,lC,lN,zA,mA,mC,mN,hw1,Coef.cells];try rfl
    |false=>
     rw[e1,if_neg (by decide)]at h3;cases e2:Op.bytesLess y.name x.name with
     |true=>rw[e2,if_pos rfl]at h3;simp only[zyi,go_sem,hi1,hi2,hq,hq2,hy,hx,hlt1,hlt2,e1,e2,Coef.cells,lM];intros;refine⟨⟨by simp,by omega,by omega⟩,⟨ad,x::ar,bd++[y],br,es++[y]⟩,zzk [(6,138)] ?_,⟨h1,by rw[h2,List.append_assoc];rfl,by rw[←h3,List.append_assoc];rfl,by simp only[lA,lC,lN]<;>omega⟩,by simp only[lC,lN]<;>omega⟩;simp only[go_sem,cN,oS,lA,lC,lN,zA,mA,mC,mN,hw2,Coef.cells];try rfl
     |false=>
      rw[e2,if_neg (by decide)]at h3;unfold addHd wAdd at h3;cases e3:(IntKind.i64.wrap (x.n+y.n) !=0)with
      |true=>rw[e3,if_pos rfl]at h3;simp only[zyi,go_sem,hi1,hi2,hq,hq2,hy,hx,hlt1,hlt2,e1,e2,e3,Coef.cells,lM];intros;refine⟨⟨by simp,by omega,by omega⟩,⟨ad++[x],ar,bd++[y],br,es++[⟨x.name,IntKind.i64.wrap (x.n+y.n)⟩]⟩,zzk [(6,63)] ?_,⟨by rw[h1,List.append_assoc];rfl,by rw[h2,List.append_assoc];rfl,by rw[←h3,List.append_assoc];try rfl,by simp only[lA,lC,lN]<;>omega⟩,by simp only[lC,lN]<;>omega⟩;simp only[go_sem,cN,oS,lA,lC,lN,zA,mA,mC,mN,hw1,hw2,Coef.cells];try rfl
      |false=>rw[e3,if_neg (by decide),List.nil_append]at h3;simp only[zyi,go_sem,hi1,hi2,hq,hq2,hy,hx,hlt1,hlt2,e1,e2,e3,Coef.cells,lM];intros;refine⟨⟨ad++[x],ar,bd++[y],br,es⟩,zzk [(6,6)] ?_,⟨by rw[h1,List.append_assoc];rfl,by rw[h2,List.append_assoc];rfl,h3,by simp only[lA,lC,lN]<;>omega⟩,by simp only[lC,lN]<;>omega⟩;simp only[go_sem,cN,oS,lA,lC,lN,zA,mA,mC,mN,hw1,hw2,Coef.cells];try rfl
end Go.Abs
end
section
namespace Go.Abs
theorem yqT(p q:Nat):(p:Int).tmod (q:Int)=((p%q:Nat):Int):=(Int.ofNat_tmod p q).symm
def gcdI(a b:Int):Int:=(Nat.gcd a.natAbs b.natAbs:Int)
theorem yxm(n):absI n=(n.natAbs:Int):=by unfold absI;split<;>omega
def divI(a b:Int):Int×Bool:=if !inRange a||!inRange b||b==0 then(0,false)else(a/b,true)
theorem zW2{a g:Int}(hg:0<g):a/g=if a.tmod g !=0&&decide (a.tmod g<0)then a.tdiv g-1 else a.tdiv g:=by
 have h1:=Int.mul_tdiv_add_tmod a g;have h2:=Int.mul_ediv_add_emod a g;have h3:=Int.emod_nonneg a (by omega:g≠0);have h4:=Int.emod_lt_of_pos a hg;have h5:=Int.tmod_lt_of_pos a hg;have h6: -g<a.tmod g:=Int.neg_lt_of_neg_lt (by have:=Int.tmod_lt_of_pos (-a) hg;rw[Int.neg_tmod]at this;exact this);have key:∀q r q' r':Int,g*q+r=a→g*q'+r'=a→0≤r'→r'<g→(0≤r∧r<g→q'=q)∧(r<0∧-g<r→q'=q-1):=by
  intro q r q' r' e1 e2 e3 e4;constructor
  ·rintro⟨f1,f2⟩
   have:g*(q'-q)=r-r':=by rw[Int.mul_sub];omega
   have h:q'-q=0:=by
    rcases Int.lt_trichotomy (q'-q) 0 with h|h|h
    ·have:=Int.mul_le_mul_of_nonneg_left (show q'-q≤-1 by omega) (show 0≤g by omega);omega
    ·exact h
    ·have:=Int.mul_le_mul_of_nonneg_left (show 1≤q'-q by omega) (show 0≤g by omega);omega
   omega
  ·rintro⟨f1,f2⟩
   have:g*(q'-q)=r-r':=by rw[Int.mul_sub];omega
   have h:q'-q= -1:=by
    rcases Int.lt_trichotomy (q'-q) (-1)with h|h|h
    ·have:=Int.mul_le_mul_of_nonneg_left (show q'-q≤-2 by omega) (show 0≤g by omega);omega
    ·exact h
    ·have:=Int.mul_le_mul_of_nonneg_left (show 0≤q'-q by omega) (show 0≤g by omega);omega
   omega
 obtain⟨k1,k2⟩:=key (a.tdiv g) (a.tmod g) (a/g) (a%g) h1 h2 h3 h4;by_cases h:a.tmod g<0
 ·rw[if_pos (by simp;omega)];exact k2 ⟨h,h6⟩
 ·rw[if_neg (by simp;omega)];exact k1 ⟨by omega,h5⟩
theorem yK5{a g:Int}(hg:0<g):a%g=if a.tmod g !=0&&decide (a.tmod g<0)then a.tmod g+g else a.tmod g:=by
 have h1:=Int.mul_tdiv_add_tmod a g;have h2:=Int.mul_ediv_add_emod a g;have h3:=zW2 (a:=a) hg;split at h3
 ·rename_i h;rw[if_pos h];rw[h3,Int.mul_sub]at h2;omega
 ·rename_i h;rw[if_neg h];rw[h3]at h2;omega
theorem zXL(a){g:Int}(hg:0<g): -(absI a)≤a.tdiv g∧a.tdiv g≤absI a:=by
 have:(a.tdiv g).natAbs≤a.natAbs:=by rw[Int.natAbs_tdiv];exact Nat.div_le_self _ _
 rw[yxm];omega
theorem yxd(a:Int){g:Int}(hg:0<g): -g<a.tmod g∧a.tmod g<g:=by have h5:=Int.tmod_lt_of_pos a hg;have h6:=Int.tmod_lt_of_pos (-a) hg;rw[Int.neg_tmod]at h6;omega
variable{E:AEnv}(Z:Sys E)
include Z
theorem yyX{a b}(ha:inRange a=true)(hb:inRange b=true):E.C zWy [.one (.int .i64 a),.one (.int .i64 b)] (.one (.int .i64 (gcdI a b))):=by
 have h1:=zXv Z ha;have h2:=zXv Z hb;refine Z.zWy _ _ ⟨b0l rfl,?_⟩;rw[yxm]at h1 h2;unfold gcdI;generalize hg:a.natAbs.gcd b.natAbs=g;generalize a.natAbs=p at*
 generalize b.natAbs=q at*
 simp only[yyl,go_sem];refine zza h1 ?_;simp only[go_sem];refine zza h2 ?_;simp only[go_sem];refine zq7 (fun s:Nat×Nat=>⟨[(0,.d (.int .i64 s.1)),(1,.d (.int .i64 s.2))],[],[]⟩) (fun s=>s.1.gcd s.2=g) (fun s=>s.2) (p,q) ?_ hg ?_
 ·exact zze (by simp only[go_sem])
 ·rintro⟨u,v⟩ h
  simp only at h;cases v with
  |zero=>have h0:((0:Int) !=0)=false:=rfl;rw[Nat.gcd_zero_right]at h;simp only[zZw,go_sem,nZ,h0,h]
  |succ v=>
   have h0:(((v+1:Nat):Int) !=0)=true:=by simp;omega
   have hm:=yqT u (v+1);simp only[zZw,go_sem,h0,hm];refine⟨by omega,(v+1,u%(v+1)),zze (by simp only[go_sem]),?_,Nat.mod_lt _ (by omega)⟩;show(v+1).gcd (u%(v+1))=g;rw[←h,Nat.gcd_comm u,Nat.gcd_rec (v+1) u,Nat.gcd_comm]
set_option linter.unnecessarySimpa false in
theorem yx6{a g}(hg:0<g):E.C zjh [.one (.int .i64 a),.one (.int .i64 g)] (.tup [.one (.int .i64 (divI a g).1),.one (.int .i64 (if(divI a g).2 then a%g else 0)),.one (.bool (divI a g).2)]):=by
 have h1:=zyT Z a;have h2:=zyT Z g;refine Z.zjh _ _ ⟨b0l rfl,?_⟩;generalize hR:divI a g=R;unfold divI at hR;have h0:(g==0)=false:=by simp;omega
 simp only[zKc,go_sem];refine zza h1 ?_;cases c1:inRange a with
 |false=>simp only[c1,h0,go_sem]at hR⊢;refine⟨.one (.bool true),?_⟩;simp only[go_sem];subst hR;simp
 |true=>
  simp only[go_sem];refine zza h2 ?_;cases c2:inRange g with
  |false=>simp only[c1,c2,h0,go_sem]at hR⊢;subst hR;simp
  |true=>
   simp only[c1,c2,h0,go_sem]at hR⊢;have hab:=(zk4 a).1 c1;rw[zzp]at c1 c2;have hgn:decide (g<0)=false:=by simp;omega
   have e1:=zW2 (a:=a) hg;have e2:=yK5 (a:=a) hg;have⟨b1,b2⟩:=zXL a hg;have⟨b3,b4⟩:=yxd a hg;refine⟨by omega,by omega,?_⟩;subst hR;simp only[hgn,if_true];cases c3:(a.tmod g !=0&&decide (a.tmod g<0))with
   |true=>
    rw[c3,if_pos rfl]at e1 e2;have c4:decide (a.tmod g<0)=true:=by simp only[Bool.and_eq_true]at c3;exact c3.2
    have c5:(a.tmod g !=0)=true:=by simp only[Bool.and_eq_true]at c3;exact c3.1
    simp only[c4,c5];rw[if_pos (by decide),e1,e2,i64_in (a.tdiv g) (by omega),i64_in _ (by omega),i64_in _ (by omega)];simp
   |false=>
    rw[c3,if_neg (by decide)]at e1 e2;have c4:(a.tmod g !=0&&!decide (a.tmod g<0)==false)=false:=by cases hd:decide (a.tmod g<0)<;>rw[hd]at c3<;>first|(simpa using c3)|simp
    rw[c4,if_neg (by decide),e1,e2,i64_in _ (by omega)];simp
theorem yZO{a g}(hg:0<g):E.C zVl [.one (.int .i64 a),.one (.int .i64 g)] (res2 (divI a g)):=by
 have h1:=yx6 Z (a:=a) hg;refine Z.zVl _ _ ⟨b0l rfl,?_⟩;try simp only[res2]
 simp only[yyk,go_sem];refine zza h1 ?_;simp only[go_sem]
end Go.Abs
end
section
namespace Go.Abs
def eachS(g:Coef→Coef)(ok:Coef→Bool)(l:List Coef):List Coef×Bool:=if l.all ok then(l.map g,true)else([],false)
theorem yjU{α:Type}{ok l d r}{x:α}(hl:l=d++x::r)(hx:ok x=false):l.all ok=false:=by rw[hl];simp[hx]
theorem zYo{α:Type}{ok}{l:List α}(h:∀y∈l,ok y=true):l.all ok=true:=by simpa using h
def gcdL(g:Int)(l:List Coef):Int:=l.foldl (fun g c=>gcdI g c.n) g
theorem yke(g)(d)(x):gcdL g (d++[x])=gcdI (gcdL g d) x.n:=by simp[gcdL]
theorem zXp{a b}(ha:inRange a=true)(hb:inRange b=true):inRange (gcdI a b)=true:=by
 rw[zzp]at*
 unfold gcdI;by_cases h:b.natAbs=0
 ·rw[h,Nat.gcd_zero_right];omega
 ·have:=Nat.gcd_le_right a.natAbs (Nat.pos_of_ne_zero h);omega
theorem zk3:∀{l} {g},inRange g=true→(∀c∈l,inRange c.n=true)→inRange (gcdL g l)=true
 |[],_,hg,_=>hg
 |c::l,g,hg,h=>zk3 (l:=l) (zXp hg (h c (by simp))) fun c' hc=>h c' (by simp[hc])
theorem zkV:∀{p} {l},coefE p l=0→∀c∈l,inRange c.n=true∧c.n≠0
 |_,[],_=>by simp
 |p,x::l,h=>by
  rw[coefE]at h;by_cases h1:errC p x=0
  ·rw[if_pos (by simpa using h1)]at h;intro c hc;rcases List.mem_cons.1 hc with rfl|hc
   ·unfold errC at h1;split at h1
    ·cases h1
    ·split at h1
     ·cases h1
     ·rename_i h2;simp at h2;exact⟨h2.2,h2.1⟩
   ·exact zkV h c hc
  ·rw[if_neg (by simpa using h1)]at h;exact absurd h h1
theorem zxR{a}(h:linE a=0):coefE none a.coefs=0∧inRange a.c=true:=by
 unfold linE at h;split at h
 ·cases h
 ·split at h
  ·rename_i h2;refine⟨by simpa using h2,?_⟩;split at h
   ·assumption
   ·cases h
  ·rename_i h2;simp at h2;exact absurd h h2
theorem zjd{a}(h:linE a=0):∀c∈a.coefs,inRange c.n=true:=fun c hc=>(zkV (zxR h).1 c hc).1
structure Row where
 lin:Lin
 eq:Bool
def Row.cells(r:Row):List D:=[.lst (r.lin.coefs.map Coef.cells),.int .i64 r.lin.c,.bool r.eq]
theorem Row.lens(l:List Row):(∀e∈l.map Row.cells,e.length=3)=True:=zvp (f:=Row.cells) (fun _=>rfl) l
attribute [go_sem] Row.lens
def verdR(b:Bool):Row:=if b then⟨noLin,false⟩else⟨⟨[],1⟩,false⟩
attribute [go_sem] MatchVs MatchV Match1 Matches MatchMem noTwice isMp keep1 fresh1 afterB renMem AV.ren1 newAll killAll CV.isOwn retKB retB retB0 resCV0 resCVs0 initA Match0 Match0s AV.ren0 getTM keep0
variable{E:AEnv}(Z:Sys E)
include Z
theorem zq6(a:Lin)(g)(hg:inRange g=true)(hr:∀c∈a.coefs,inRange c.n=true):E.C zxg [.agg a.cells,.one (.int .i64 g)] (.one (.int .i64 (gcdL g a.coefs))):=by
 refine Z.zxg _ _ ⟨b0l rfl,?_⟩;obtain⟨l,c⟩:=a;simp only[Lin.cells]at*
 simp only[zqY,go_sem];intro _;refine zzg l (fun _=>True) (fun done rest=>⟨[(10,.d (.int .i64 done.length)),(9,.d (.int .i64 l.length)),(8,.d (.lst (l.map Coef.cells))),(1,.d (.int .i64 (gcdL g done)))],[],[]⟩) ?_ trivial ?_ ?_
 ·exact zze (by simp only[go_sem];rfl)
 ·intro done x r hl _;have hlt:=zzn hl;have hw:IntKind.i64.wrap ((done.length:Int)+1)=((done.length+1:Nat):Int):=zzf (by omega);have h1:=yyX Z (zk3 (l:=done) hg fun c hc=>hr c (by rw[hl];simp[hc])) (hr x (by rw[hl];simp));rw[yke];simp only[zwD,go_sem,getD_at hl,hlt,Coef.cells];refine zza h1 ?_;simp only[go_sem,hw];exact zze (by simp only[go_sem,lA,lC,lN,zA])
 ·intro _;simp only[zwD,go_sem]
theorem zVf(b):E.C zxh [.one (.bool b)] (.agg (verdR b).cells):=by refine Z.zxh _ _ ⟨b0l rfl,?_⟩;cases b<;>simp only[zqZ,go_sem]<;>rfl
theorem yq1(x:Coef)(k):E.C zxf [] (.bx [.agg (x.cells.map .d),.ptr 1000 0] [(1000,[.d (.int .i64 k)])] [] (.tup [.agg (Coef.mk x.name (mulI x.n k).1).cells,.one (.bool (mulI x.n k).2)]) [(1000,[.d (.int .i64 k)])] []):=by
 have h1:=zXu Z x.n k;refine Z.zxf _ _ ⟨b0l rfl,b0l rfl,rfl,?_⟩;simp only[Coef.cells,res2]at*
 simp only[zqW,go_sem,initA,mC,mN];refine zza h1 ?_;simp only[go_sem];exact zze (by simp only[go_sem,oS])
theorem yvN(fid)(kk)(g)(ok)(l)(hsm:l.length≤1000)
  (hf:∀x∈l,E.C fid [] (.bx [.agg (x.cells.map .d),.ptr 1000 0] [(1000,[.d kk])] [] (.tup [.agg (g x).cells,.one (.bool (ok x))]) [(1000,[.d kk])] [])):
  E.C zz2 [] (.bx [.d (.lst (l.map Coef.cells)),.clo fid [.ptr 1000 0]] [(1000,[.d kk])] [] (.tup [.one (.lst ((eachS g ok l).1.map Coef.cells)),.one (.bool (eachS g ok l).2)]) [(1000,[.d kk])] []):=by
 refine Z.zz2 _ _ ⟨b0l rfl,b0l rfl,rfl,?_⟩;generalize hR:eachS g ok l=R;unfold eachS at hR;simp only[zkz,go_sem];intro _;refine zzg l (fun done=>∀y∈done,ok y=true) (fun done rest=>⟨[(13,.d (.int .i64 done.length)),(12,.d (.int .i64 l.length)),(11,.d (.lst (l.map Coef.cells))),(1,.clo fid [.ptr 1000 0]),(6,.own 6 2 ((done.map g).map Coef.cells))],[(1000,[.d kk])],[(6,true)]⟩) ?_ (by simp) ?_ ?_
 ·exact zxV 6 6 2 [] [(6,6)] rfl (by simp) rfl (by simp only[Ent0,go_sem,cN,oS,mN,lN,nZ])
 ·intro done x r hl hI;have hlt:=zzn hl;have hw:IntKind.i64.wrap ((done.length:Int)+1)=((done.length+1:Nat):Int):=zzf (by omega);have hx:=hf x (by rw[hl];simp);have hdl:done.length<l.length:=by rw[hl];simp
  simp only[zyZ,go_sem,getD_at hl,hlt,Coef.cells,mC,mN]at hx⊢;refine yj0 ⟨[(1000,1000)],[],[],_,_,_,_⟩ hx rfl rfl ?_ ?_
  ·simp only[okB,go_sem,List.cons_append,List.nil_append];exact⟨rfl,rfl,fun p hp=>by rw[List.mem_singleton.1 hp];rfl⟩
  ·simp only[go_sem,List.cons_append,List.nil_append,Option.getD_some];cases e:ok x with
   |false=>rw[yjU hl e]at hR;subst hR;simp only[go_sem];exact zze (by simp only[go_sem,oS])
   |true=>simp only[go_sem,hw,lM];refine⟨⟨by simp,by omega,by omega⟩,zzk [(6,28)] ?_,zzY hI e⟩;simp only[go_sem,cN,oS,lA,lC,lN,zA,mA,mC,mN,Coef.cells]
 ·intro hI;rw[zYo hI]at hR;subst hR;simp only[zyZ,go_sem];exact zze (by simp only[go_sem,oS])
end Go.Abs
end
section
namespace Go.Abs
def mulC(k:Int)(c:Coef):Coef:=⟨c.name,(mulI c.n k).1⟩
def mulOk(k:Int)(c:Coef):Bool:=(mulI c.n k).2
def scaleL(a:Lin)(k:Int):Lin×Bool:=
 if linE a !=0 then(noLin,false)else if k==0 then(noLin,true)
 else if a.coefs.all (mulOk k)&&(a.c==0||(mulI a.c k).2)then(⟨a.coefs.map (mulC k),(mulI a.c k).1⟩,true)else(noLin,false)
theorem zJQ{n k}(h:inRange k=false):mulI n k=(0,false):=by unfold mulI;rw[h];simp
theorem ykB{k}(h:inRange k=true):mulI 0 k=(0,true):=by unfold mulI bnd;rw[h];simp[inRange]
theorem yZK(k):(mulI 0 k).1=0:=by
 cases h:inRange k with
 |true=>rw[ykB h]
 |false=>rw[zJQ h]
theorem yWN{l:List Coef}{c k}(h:inRange k=false):(if l.all (mulOk k)&&(c==0||(mulI c k).2)then((⟨l.map (mulC k),(mulI c k).1⟩,true):Lin×Bool)else(noLin,false))=(noLin,(l.length:Int)==0&&c==0):=by
 cases l with
 |nil=>
  by_cases hc:c=0
  ·subst hc;rw[zJQ h];rfl
  ·have:(c==0)=false:=by simpa using hc
   rw[zJQ h,this];rfl
 |cons x l=>
  have:mulOk k x=false:=by unfold mulOk;rw[zJQ h]
  rw[List.all_cons,this];have h2:(((x::l).length:Int)==0)=false:=by simp;omega
  rw[h2];rfl
theorem yV0{l:List Coef}{c k}(h:inRange k=true):(l.all (mulOk k)&&(c==0||(mulI c k).2))=((mulI c k).2&&l.all (mulOk k)):=by
 have:(c==0||(mulI c k).2)=(mulI c k).2:=by
  by_cases hc:c=0
  ·subst hc;rw[ykB h];rfl
  ·have:(c==0)=false:=by simpa using hc
   rw[this,Bool.false_or]
 rw[this,Bool.and_comm]
variable{E:AEnv}(Z:Sys E)
include Z
set_option maxHeartbeats 1000000 in
theorem zxt(a)(k):E.C zyv [.agg a.cells,.one (.int .i64 k)] (resL (scaleL a k)):=by
 have h1:=zyS Z a;have h2:=zyT Z k;have h3:=zXu Z a.c k;have h4:=fun hl=>yvN Z zxf (.int .i64 k) (mulC k) (mulOk k) a.coefs hl fun x _=>yq1 Z x k;refine Z.zyv _ _ ⟨b0l rfl,?_⟩;generalize hR:scaleL a k=R;unfold scaleL at hR;obtain⟨l,c⟩:=a;simp only[Lin.cells,res2]at*
 try unfold resL
 try simp only[Lin.cells]
 simp only[zYx,go_sem];refine zza h1 ?_;cases c0:(linE ⟨l,c⟩ !=0)with
 |true=>rw[c0]at hR;subst hR;simp only[c0,go_sem];try exact⟨rfl,rfl⟩
 |false=>
 have hll:=zxJ (a:=⟨l,c⟩) (by simpa using c0);simp only at hll;simp only[c0,go_sem]at hR⊢;cases c1:(k==0)with
 |true=>rw[c1]at hR;subst hR;simp only[go_sem];try exact⟨rfl,rfl⟩
 |false=>
 simp only[c1,go_sem]at hR⊢;refine zza h2 ?_;cases c2:inRange k with
 |false=>rw[yWN c2]at hR;subst hR;simp only[go_sem];exact⟨⟨rfl,rfl⟩,rfl,rfl⟩
 |true=>
  rw[yV0 c2]at hR;simp only[go_sem];refine zza h3 ?_;simp only[go_sem];refine yxz ⟨[(1000,3)],[],[],_,_,_,_⟩ (h4 (by omega)) rfl rfl ?_ ?_
  ·simp only[okB,go_sem,List.cons_append,List.nil_append];exact⟨rfl,rfl,fun p hp=>by rw[List.mem_singleton.1 hp];rfl⟩
  ·simp only[go_sem,List.cons_append,List.nil_append,Option.getD_some];unfold eachS;cases e1:(mulI c k).2<;>cases e2:l.all (mulOk k)<;>rw[e1,e2]at hR<;>subst hR<;>simp[noLin]
def quoC(g:Int)(c:Coef):Coef:=⟨c.name,c.n.tdiv g⟩
end Go.Abs
end
section
namespace Go.Abs
theorem yxK{a b}(hb:b≠0):0<gcdI a b:=by unfold gcdI;have:=Nat.gcd_pos_of_pos_right a.natAbs (show 0<b.natAbs by omega);omega
theorem yqi:∀{l} {g},g≠0∨l≠[]→(∀c∈l,c.n≠0)→g≠0→0<gcdL g l∨gcdL g l=g
 |[],g,_,_,_=>.inr rfl
 |c::l,g,_,h,hg=>by
  have h1:gcdI g c.n≠0:=by have:=yxK (a:=g) (h c (by simp));omega
  rcases yqi (l:=l) (.inl h1) (fun c' hc=>h c' (by simp[hc])) h1 with h2|h2
  ·exact .inl h2
  ·refine .inl ?_;show 0<gcdL (gcdI g c.n) l;rw[h2];exact yxK (h c (by simp))
theorem gcdL_pos'{c l}(h:∀x∈c::l,x.n≠0):0<gcdL 0 (c::l):=by
 have h0:=yxK (a:=0) (h c (by simp));have:gcdL 0 (c::l)=gcdL (gcdI 0 c.n) l:=rfl;rw[this];rcases yqi (l:=l) (.inl (show gcdI 0 c.n≠0 by omega)) (fun x hx=>h x (by simp[hx])) (by omega)with h2|h2
 ·exact h2
 ·omega
def tightR(r:Row):Row:=
 if linE r.lin !=0 then r
 else if(r.lin.coefs.length:Int)==0 then verdR (r.lin.c==0||(!r.eq&&decide (r.lin.c<0)))
 else if r.eq&&r.lin.c.tmod (gcdL 0 r.lin.coefs) !=0 then verdR false
 else⟨⟨r.lin.coefs.map (quoC (gcdL 0 r.lin.coefs)),-(-r.lin.c/gcdL 0 r.lin.coefs)⟩,r.eq⟩
theorem ywe{n g:Int}(h:inRange n=true)(hg:0<g):IntKind.i64.wrap (n.tdiv g)=n.tdiv g:=by have hb:=zXL n hg;have:=(zk4 n).1 h;exact i64_in _ (by omega)
theorem yZp{s a}(ha:∀y∈a,(y.name==s)=false):findC s a=(0,false):=by
 induction a with
 |nil=>rfl
 |cons y a ih=>rw[findC,ha y (by simp)];exact ih fun z hz=>ha z (by simp[hz])
def valGo(at':List Coef)(s:Int):List Coef→Int×Bool
 |[]=>(s,true)
 |c::r=>if(mulI c.n (findC c.name at').1).2 then(if(addI s (mulI c.n (findC c.name at').1).1).2 then valGo at' (addI s (mulI c.n (findC c.name at').1).1).1 r else(0,false))else(0,false)
def valL(a:Lin)(at':List Coef):Int×Bool:=if linE a !=0 then(0,false)else valGo at' a.c a.coefs
variable{E:AEnv}(Z:Sys E)
include Z
theorem ywS(x){g}(hg:0<g)(hx:inRange x.n=true):E.C zzW [] (.bx [.agg (x.cells.map .d),.ptr 1000 0] [(1000,[.d (.int .i64 g)])] [] (.tup [.agg (quoC g x).cells,.one (.bool true)]) [(1000,[.d (.int .i64 g)])] []):=by
 refine Z.zzW _ _ ⟨b0l rfl,b0l rfl,rfl,?_⟩;have hq:=ywe hx hg;have h0:(g≠0)=True:=eq_true (by omega);simp only[Coef.cells,quoC]at*
 simp only[zw5,go_sem,mC,mN,hq,h0];exact zze (by simp only[go_sem,oS])
theorem zVe(l:List Coef){g}(hg:0<g)(hl:l.length≤1000)(hr:∀c∈l,inRange c.n=true):E.C zyr [.one (.lst (l.map Coef.cells)),.one (.int .i64 g)] (.one (.lst ((l.map (quoC g)).map Coef.cells))):=by
 have h4:=yvN Z zzW (.int .i64 g) (quoC g) (fun _=>true) l hl fun x hx=>ywS Z x hg (hr x hx);have he:eachS (quoC g) (fun _=>true) l=(l.map (quoC g),true):=by unfold eachS;rw[zYo (fun _ _=>rfl)];rfl
 rw[he]at h4;refine Z.zyr _ _ ⟨b0l rfl,?_⟩;simp only[zkW,go_sem];refine yxz ⟨[(1000,3)],[],[],_,_,_,_⟩ h4 rfl rfl ?_ ?_
 ·simp only[okB,go_sem,List.cons_append,List.nil_append];exact⟨rfl,rfl,fun p hp=>by rw[List.mem_singleton.1 hp];rfl⟩
 ·simp only[go_sem,List.cons_append,List.nil_append,Option.getD_some]
structure ValS where
 d:List Coef
 r:List Coef
 s:Int
end Go.Abs
end
section
namespace Go.Abs
theorem yyd{a g}(hg:0<g): -(absI a)-1≤a/g∧a/g≤absI a:=by have h1:=zW2 (a:=a) hg;have h2:=zXL a hg;split at h1<;>omega
variable{E:AEnv}(Z:Sys E)
include Z
set_option maxHeartbeats 2000000 in
theorem zQY(r)(h0:linE r.lin=0):E.C zxC [.agg r.cells] (.agg (tightR r).cells):=by
 have h1:=zyS Z r.lin;have hll:=zxJ h0;have hrg:=zjd h0;have⟨hce,hcr⟩:=zxR h0;have hv:=fun b=>zVf Z b;have hg1:=zq6 Z r.lin 0 (by decide) hrg;have hgr:=zk3 (g:=0) (by decide) hrg;generalize hR:tightR r=R;unfold tightR at hR;rw[h0]at h1 hR;obtain⟨⟨l,c⟩,eq⟩:=r;refine Z.zxC _ _ ⟨b0l rfl,?_⟩;simp only[Row.cells,Lin.cells]at*
 simp only[zYy,go_sem];refine zza h1 ?_;simp only[go_sem,bne,Int.reduceBEq]at hR⊢;intro _;cases c1:((l.length:Int)==0)with
 |true=>rw[c1]at hR;simp only[if_true]at hR;simp only[go_sem];refine zza (hv _) ?_;simp only[go_sem,←hR]
 |false=>
  rw[c1]at hR;have hl0:l≠[]:=by rintro rfl;simp at c1
  have hg:0<gcdL 0 l:=by
   cases l with
   |nil=>exact absurd rfl hl0
   |cons x l=>exact gcdL_pos' fun y hy=>(zkV hce y hy).2
  simp only[go_sem]at hR⊢;refine zza hg1 ?_;generalize gcdL 0 l=g at*
  have h0':(g≠0)=True:=eq_true (by omega);rw[zzp]at hcr hgr;have hw1:IntKind.i64.wrap (0-c)= -c:=(i64_in _ (by omega)).trans (by omega);have hd:=yZO Z (a:= -c) hg;have hdi:divI (-c) g=(-c/g,true):=by unfold divI;rw[(zzp _).2 (show-1000000000000≤-c∧-c≤1000000000000 by omega),(zzp _).2 hgr,show(g==0)=false by simp;omega];rfl
  rw[hdi]at hd;have hb:=yyd (a:= -c) hg;have hab:absI (-c)≤1000000000000:=(zk4 _).1 ((zzp _).2 (by omega));have hw2:IntKind.i64.wrap (0- -c/g)= -(-c/g):=(i64_in _ (by omega)).trans (by omega);have hdv:=zVe Z l hg (by omega) hrg;simp only[res2]at hd;simp only[go_sem,h0'];cases c2:(eq&&c.tmod g !=0)with
  |true=>have c2':=c2;simp only[bne]at c2';rw[if_pos c2']at hR;subst hR;simp only[go_sem];refine zza (hv _) ?_;simp only[go_sem]
  |false=>have c2':=c2;simp only[bne]at c2';rw[if_neg (by rw[c2'];decide)]at hR;subst hR;simp only[go_sem,hw1];refine zza hd ?_;simp only[go_sem];refine zza hdv ?_;simp only[go_sem,hw2]
end Go.Abs
end
section
namespace Go.Abs
def oneL:Lin:=⟨[],1⟩
theorem zZG:linE noLin=0:=by decide
def zeroR:Row:=⟨noLin,false⟩
def rowS(f:Lin)(s:Int):Row×Bool:=
 if s== -1 then(tightR ⟨(addL f oneL).1,false⟩,(addL f oneL).2)
 else if s==0 then(tightR ⟨(addL f noLin).1,true⟩,(addL f noLin).2)
 else if s==1 then(if(scaleL f (-1)).2 then(tightR ⟨(addL (scaleL f (-1)).1 oneL).1,false⟩,(addL (scaleL f (-1)).1 oneL).2)else(zeroR,false))
 else(zeroR,false)
def rowHd(p:Lin×Int):List Row:=if(rowS p.1 p.2).2 then[(rowS p.1 p.2).1]else[]
def rowsS(f:List Lin)(signs:List Int):List Row:=(f.zip signs).flatMap rowHd
theorem yWB(x):linE (rightL x).1=0:=by
 unfold rightL;cases h:(linE x !=0)with
 |true=>exact zZG
 |false=>simpa using h
theorem yxo(a b):linE (addL a b).1=0:=by
 unfold addL;split
 ·exact zZG
 ·exact yWB _
theorem yzR{α β:Type}(f:List α)(s:List β):((f.zip s).length:Int)=if(s.length:Int)<(f.length:Int)then(s.length:Int)else(f.length:Int):=by
 rw[List.length_zip];split<;>omega
theorem zkQ{α β:Type}:∀{f} {s} {d r} {x:α×β},f.zip s=d++x::r→∃fd fr sd sr,f=fd++x.1::fr∧s=sd++x.2::sr∧fd.length=d.length∧sd.length=d.length
 |[],_,d,r,x,h=>by simp at h
 |a::f,[],d,r,x,h=>by simp at h
 |a::f,b::s,[],r,x,h=>by simp only[List.zip_cons_cons,List.nil_append,List.cons.injEq]at h;obtain⟨rfl,_⟩:=h;exact⟨[],f,[],s,rfl,rfl,rfl,rfl⟩
 |a::f,b::s,y::d,r,x,h=>by simp only[List.zip_cons_cons,List.cons_append,List.cons.injEq]at h;obtain⟨fd,fr,sd,sr,h1,h2,h3,h4⟩:=zkQ h.2;exact⟨a::fd,fr,b::sd,sr,by rw[h1];rfl,by rw[h2];rfl,by simp[h3],by simp[h4]⟩
theorem yWF(p):(rowHd p).length≤1:=by unfold rowHd;split<;>simp
theorem yqP(l:List (Lin×Int)):(l.flatMap rowHd).length≤l.length:=by
 induction l with
 |nil=>simp
 |cons x l ih=>have:=yWF x;simp only[List.flatMap_cons,lA,lC];omega
def resR(r:Row×Bool):CV:=.tup [.agg r.1.cells,.one (.bool r.2)]
variable{E:AEnv}(Z:Sys E)
include Z
set_option maxHeartbeats 2000000 in
theorem yww(f)(s):E.C zqK [.agg f.cells,.one (.int .i64 s)] (resR (rowS f s)):=by
 have h1:=fun b=>zyK Z f b;have h2:=zxt Z f (-1);have h3:=fun a b=>zyK Z a b;have h4:=fun a b e=>zQY Z ⟨(addL a b).1,e⟩ (yxo a b);generalize hR:rowS f s=R;unfold rowS at hR;refine Z.zqK _ _ ⟨b0l rfl,?_⟩;have h1o:=h1 oneL;have h1n:=h1 noLin;have h3o:=fun a=>h3 a oneL;have hn:noLin.coefs=[]:=rfl;have ho:oneL.coefs=[]:=rfl;have hn1:noLin.c=0:=rfl;have ho1:oneL.c=1:=rfl;simp only[Row.cells,Lin.cells,resL]at*
 simp only[hn,ho,hn1,ho1,mN]at h1o h1n h3o;simp only[zVN,go_sem];cases c1:(s== -1)with
 |true=>rw[c1]at hR;simp only[if_true]at hR;subst hR;simp only[go_sem];refine zza h1o ?_;simp only[go_sem];refine zza (h4 _ _ _) ?_;simp only[go_sem];try exact⟨⟨rfl,rfl,rfl⟩,rfl⟩
 |false=>
  rw[c1]at hR;simp only[go_sem];cases c2:(s==0)with
  |true=>rw[c2]at hR;simp only[go_sem,if_true]at hR;subst hR;simp only[go_sem];refine zza h1n ?_;simp only[go_sem];refine zza (h4 _ _ _) ?_;simp only[go_sem];try exact⟨⟨rfl,rfl,rfl⟩,rfl⟩
  |false=>
   rw[c2]at hR;simp only[go_sem];cases c3:(s==1)with
   |false=>rw[c3]at hR;simp only[go_sem]at hR;subst hR;simp only[go_sem];exact⟨rfl,rfl,rfl⟩
   |true=>
    rw[c3]at hR;simp only[go_sem,if_true]at hR;simp only[go_sem];refine zza h2 ?_;simp only[go_sem];cases c4:(scaleL f (-1)).2 with
    |false=>rw[c4]at hR;simp only[go_sem]at hR;subst hR;simp only[go_sem];exact⟨rfl,rfl,rfl⟩
    |true=>rw[c4]at hR;simp only[if_true]at hR;subst hR;simp only[go_sem];refine zza (h3o _) ?_;simp only[go_sem];refine zza (h4 _ _ _) ?_;simp only[go_sem];try exact⟨⟨rfl,rfl,rfl⟩,rfl⟩
set_option maxHeartbeats 2000000 in
theorem zZp(f)(signs)(hf:f.length≤1000):E.C zke [.one (.lst (f.map Lin.cells)),.one (.lst (signs.map icell))] (.one (.lst ((rowsS f signs).map Row.cells))):=by
 have h1:=fun f s=>yww Z f s;refine Z.zke _ _ ⟨b0l rfl,?_⟩;unfold rowsS;simp only[resR]at h1;simp only[zW5,go_sem];intro _ _;rw[←yzR];have hzl:(f.zip signs).length≤1000:=by rw[List.length_zip];omega
 generalize hz:f.zip signs=zs at*
 refine zzg zs (fun _=>True) (fun done rest=>⟨[(14,.d (.int .i64 done.length)),(13,.d (.int .i64 zs.length)),(0,.d (.lst (f.map Lin.cells))),(1,.d (.lst (signs.map icell))),(5,.own 5 3 ((done.flatMap rowHd).map Row.cells))],[],[(5,true)]⟩) ?_ trivial ?_ ?_
 ·exact zxV 5 5 3 [] [(5,5)] rfl (by simp) rfl (by simp only[Ent0,go_sem,cN,oS,List.flatMap_nil,mN,lN,nZ])
 ·intro done x r hl _;have hlt:=zzn hl;have hw:IntKind.i64.wrap ((done.length:Int)+1)=((done.length+1:Nat):Int):=zzf (by omega);obtain⟨fd,fr,sd,sr,e1,e2,e3,e4⟩:=zkQ (hz.trans hl);have hx:=zzV (f:=Lin.cells) e1 e3;have hy:=zzV (f:=icell) e2 e4;have l1:((done.length:Int)<(f.length:Int))=True:=eq_true (by rw[e1,←e3];simp;omega);have l2:((done.length:Int)<(signs.length:Int))=True:=eq_true (by rw[e2,←e4];simp;omega);have hdl:done.length<zs.length:=by rw[hl];simp
  have hrl:=yqP done;have h1:=h1 x.1 x.2;have hsn:(done++[x]).flatMap rowHd=done.flatMap rowHd++rowHd x:=by simp
  rw[hsn];unfold rowHd at*
  simp only[Lin.cells,icell,Row.cells]at*
  simp only[zvL,go_sem,hx,hy,hlt,l1,l2];refine zza h1 ?_;cases c:(rowS x.1 x.2).2 with
  |true=>simp only[go_sem,hw,lM];refine⟨⟨by simp,by omega,by omega⟩,zzk [(5,33)] ?_⟩;simp only[go_sem,cN,oS,lA,lC,lN,zA,mA,mC,mN,Row.cells,if_true]
  |false=>simp only[go_sem,hw,lM];exact zzk [(5,5)] (by simp only[go_sem,cN,oS,lA,lC,lN,zA,mA,mC,mN,List.append_nil])
 ·intro _;simp only[zvL,go_sem]
end Go.Abs
end
section
namespace Go.Abs
theorem yxU(n:Nat):Lib.itoa (n:Int)=Lib.decDigits n:=by unfold Lib.itoa;rw[if_neg (by omega)];rfl
theorem dig1{n}(h:n<10):Lib.decDigits n=[UInt8.ofNat (48+n)]:=by rw[Lib.decDigits,dif_pos h]
theorem dig2{n}(h:¬n<10):Lib.decDigits n=Lib.decDigits (n/10)++[UInt8.ofNat (48+n%10)]:=by rw[Lib.decDigits,dif_neg h]
def notS(n:Int):Int:=if n<0 then n else 1-n
def andS(a b:Int):Int:=if a==0||b==0 then 0 else if a==1&&b==1 then 1 else-1
def isS(b:Bool):Int:=if b then 1 else 0
def Sgn(n:Int):Prop:= -1≤n∧n≤1
theorem yv3(b):Sgn (isS b):=by cases b<;>simp[isS,Sgn]
theorem zvY(a b):Sgn (andS a b):=by
 unfold andS Sgn;split
 ·omega
 ·split<;>omega
theorem zwZ{n}(h:Sgn n):Sgn (notS n):=by unfold notS Sgn at*;split<;>omega
variable{E:AEnv}(Z:Sys E)
include Z
theorem zJ2(b):E.C zxx [.one (.bool b)] (.one (.int .i64 (isS b))):=by refine Z.zxx _ _ ⟨b0l rfl,?_⟩;cases b<;>simp only[zYv,go_sem]<;>rfl
theorem zJq{n}(h:Sgn n):E.C zye [.one (.int .i64 n)] (.one (.int .i64 (notS n))):=by
 refine Z.zye _ _ ⟨b0l rfl,?_⟩;have hw:IntKind.i64.wrap (1-n)=1-n:=i64_in _ (by unfold Sgn at h;omega);unfold notS;simp only[zZ3,go_sem];cases c:decide (n<0)with
 |true=>simp only[go_sem];rw[if_pos (by simpa using c)]
 |false=>simp only[go_sem,hw];rw[if_neg (by simpa using c)]
theorem yxs(a b):E.C zkf [.one (.int .i64 a),.one (.int .i64 b)] (.one (.int .i64 (andS a b))):=by refine Z.zkf _ _ ⟨b0l rfl,?_⟩;unfold andS;cases c1:(a==0)<;>cases c2:(b==0)<;>cases c3:(a==1)<;>cases c4:(b==1)<;>simp only[zW6,go_sem,c1,c2,c3,c4]<;>try rfl
end Go.Abs
end
section
namespace Go.Abs
def sgnOk(n:Int):Bool:=decide (n≥-1)&&decide (n≤1)
def lookGo(name:Str):Nat→List Int→Option Int
 |_,[]=>none
 |i,s::r=>if Lib.itoa (i:Int)==name&&sgnOk s then some s else lookGo name (i+1) r
def leafS(signs:List Int):List Pred→Option Int
 |[k0,k1]=>if k0.same (.mk 3 k0.name 0 [])&&k1.same (.mk 1 [] 0 [])then lookGo k0.name 0 signs else none
 |_=>none
def I64p(n:Int):Prop:= -9223372036854775808≤n∧n≤9223372036854775807
def ItoaP(E:AEnv):Prop:=∀n:Int,I64p n→E.C strconv_Itoa [.one (.int .i64 n)] (.one (.str (Lib.itoa n)))
def AtoiP(E:AEnv):Prop:=∀s:Str,s.length≤1073741824→∃(n:Int) (e:Bool),I64p n∧E.C strconv_Atoi [.one (.str s)] (.tup [.one (.int .i64 n),.one (if e then .nilI else .anyI)])∧∀m:Nat,(m:Int)≤9223372036854775807→s=Lib.itoa (m:Int)→n=m∧e=true
theorem zWt{name:Str}:∀{i} {l},(∀k,k<l.length→(Lib.itoa ((i+k:Nat):Int)==name)=true→sgnOk (l.getD k 0)=false)→lookGo name i l=none
 |_,[],_=>rfl
 |i,s::r,h=>by
  rw[lookGo];have h0:=h 0 (by simp);rw[if_neg,zWt (i:=i+1) (l:=r)]
  ·intro k hk hn;have:=h (k+1) (by simp;omega) (by rw[←hn];congr 3;omega);simpa using this
  ·intro hc;simp only[Bool.and_eq_true]at hc;have:=h0 (by simpa using hc.1);simp at this;rw[this]at hc;exact absurd hc.2 (by decide)
theorem ykx{name:Str}:∀{i} {l} {k},k<l.length→(Lib.itoa ((i+k:Nat):Int)==name)=true→sgnOk (l.getD k 0)=true→(∀j,j<k→(Lib.itoa ((i+j:Nat):Int)==name)=false)→lookGo name i l=some (l.getD k 0)
 |_,[],_,hk,_,_,_=>by simp at hk
 |i,s::r,0,_,h1,h2,_=>by
  rw[lookGo,if_pos]
  ·rfl
  ·simp only[Bool.and_eq_true];exact⟨by simpa using h1,by simpa using h2⟩
 |i,s::r,k+1,hk,h1,h2,h3=>by
  have h0:=h3 0 (by omega);rw[lookGo,if_neg]
  ·rw[ykx (i:=i+1) (l:=r) (k:=k) (by simpa using hk) (by rw[←h1];congr 3;omega) (by simpa using h2)]
   ·simp
   ·intro j hj;have:=h3 (j+1) (by omega);rw[←this];congr 3;omega
  ·simp only[Bool.and_eq_true];rintro⟨h,_⟩;simp at h0;exact h0 (by simpa using h)
theorem yXW{name:Str}{signs}{n:Int}{e}(hlen:(signs.length:Int)≤9223372036854775807)(hn:∀m:Nat,(m:Int)≤9223372036854775807→name=Lib.itoa (m:Int)→n=m∧e=true):
  lookGo name 0 signs=if e&&(Lib.itoa n==name)&&decide (0≤n)&&decide (n<signs.length)&&sgnOk (signs.getD n.toNat 0)then some (signs.getD n.toNat 0)else none:=by
 by_cases hc:(e&&(Lib.itoa n==name)&&decide (0≤n)&&decide (n<signs.length)&&sgnOk (signs.getD n.toNat 0))=true
 ·rw[if_pos hc];simp only[Bool.and_eq_true,decide_eq_true_eq,beq_iff_eq]at hc;obtain⟨⟨⟨⟨_,h1⟩,h2⟩,h3⟩,h4⟩:=hc;refine ykx (by omega) ?_ h4 ?_
  ·rw[zA,Int.toNat_of_nonneg h2,h1];simp
  ·intro j hj;rw[zA];cases hb:(Lib.itoa (j:Int)==name)with
   |false=>rfl
   |true=>have:=(hn j (by omega) (by simpa using(beq_iff_eq.1 hb).symm)).1;omega
 ·rw[if_neg hc];refine zWt fun k hk hb=>?_;rw[zA]at hb;obtain⟨rfl,rfl⟩:=hn k (by omega) (beq_iff_eq.1 hb).symm;cases h4:sgnOk (signs.getD k 0)with
  |false=>rfl
  |true=>refine absurd ?_ hc;simp only[Bool.and_eq_true,decide_eq_true_eq,beq_iff_eq];exact⟨⟨⟨⟨trivial,beq_iff_eq.1 hb⟩,by omega⟩,by omega⟩,by simpa using h4⟩
def leafR(r:Option Int):CV:=.tup [.one (.int .i64 (r.getD 0)),.one (.bool r.isSome)]
def vInt:Pred:=.mk 1 [] 0 []
def vVar(s:Str):Pred:=.mk 3 s 0 []
theorem cellsM(o)(s:Str)(n)(ks):(Pred.mk o s n ks).cells=[.int .i64 o,.str s,.int .i64 n,.lst (ks.map Pred.cells)]:=by rw[Pred.zzb];rfl
theorem yXk(signs:List Int)(k):(signs.map icell).getD k []=[]∨(signs.map icell).getD k []=[.int .i64 (signs.getD k 0)]:=by
 rw[List.getD_eq_getElem?_getD,List.getD_eq_getElem?_getD,List.getElem?_map];cases signs[k]? with
 |none=>exact .inl rfl
 |some x=>exact .inr rfl
theorem ykf{signs:List Int}{k}(h:k<signs.length):(signs.map icell).getD k []=[.int .i64 (signs.getD k 0)]:=by rw[List.getD_eq_getElem?_getD,List.getD_eq_getElem?_getD,List.getElem?_map,List.getElem?_eq_getElem h];rfl
variable{E:AEnv}(Z:Sys E)
include Z
set_option maxHeartbeats 2000000 in
theorem yxu(hA:AtoiP E)(hI:ItoaP E)(o)(nm:Str)(n)(ks)(signs)(hsz:∀k∈ks,k.name.length≤1073741824)(hsl:signs.length≤1000):E.C zv7 [.agg (Pred.mk o nm n ks).cells,.one (.lst (signs.map icell))] (leafR (leafS signs ks)):=by
 refine Z.zv7 _ _ ?_;generalize hR:leafS signs ks=R;unfold leafS at hR;rcases ks with _|⟨a,_|⟨b,_|⟨c,r⟩⟩⟩
 ·simp only at hR;subst hR;refine⟨b0l rfl,?_⟩;have h2:((0:Int) !=2)=true:=rfl;simp only[zkw,go_sem,cellsM,mN,lN,nZ,h2];refine⟨.one (.bool false),?_⟩;simp only[go_sem,mN,lN,nZ,h2];try refine⟨.one (.bool false),?_⟩
  try simp only[go_sem,mN,lN,nZ,h2]
  try exact⟨rfl,rfl⟩
 ·simp only at hR;subst hR;have ha:=Pred.zzb a;refine⟨b0l rfl,?_⟩;have h2:((1:Int) !=2)=true:=rfl;simp only[zkw,go_sem,cellsM,mC,mN,lC,lN,zA,Int.natCast_one,h2,ha];refine⟨.one (.bool false),?_⟩;simp only[go_sem,mC,mN,lC,lN,zA,Int.natCast_one,h2,ha];try refine⟨.one (.bool false),?_⟩
  try simp only[go_sem,mC,mN,lC,lN,zA,Int.natCast_one,h2,ha]
  try exact⟨rfl,rfl⟩
 ·have h1:=zy7 Z a (vVar a.name);have h3:=zy7 Z b vInt;have ha:=Pred.zzb a;have hb:=Pred.zzb b;obtain⟨m,e,hm,hat,hun⟩:=hA a.name (hsz a (by simp));have hit:=hI m hm;simp only[vVar,vInt,cellsM,mN,ha,hb]at h1 h3;refine⟨b0l rfl,?_⟩;have h2:((2:Int) !=2)=false:=rfl;simp only[zkw,go_sem,cellsM,mC,mN,lC,lN,zA,Nat.reduceAdd,Int.cast_ofNat_Int,h2,ha,hb];refine⟨by simp,by simp,?_⟩;refine zza h1 ?_;cases c1:a.same (vVar a.name)with
  |false=>simp only[vVar]at c1;simp only[c1,go_sem]at hR;subst hR;simp only[c1,go_sem];refine⟨.one (.bool false),?_⟩;simp only[go_sem];exact⟨rfl,rfl⟩
  |true=>
   simp only[vVar]at c1;simp only[go_sem,c1];refine⟨by simp,?_⟩;refine zza h3 ?_;cases c2:b.same vInt with
   |false=>simp only[vInt]at c2;simp only[c1,c2,go_sem]at hR;subst hR;simp only[c2,go_sem];exact⟨rfl,rfl⟩
   |true=>
    simp only[vInt]at c2;simp only[c1,c2,go_sem]at hR;simp only[c2,go_sem,ha];refine⟨by simp,?_⟩;refine zza hat ?_;have hcell:=yXk signs m.toNat;rw[yXW (by omega) hun]at hR;cases e with
    |false=>
     have hR0:R=none:=by rw[←hR];rfl
     subst hR0;simp only[go_sem];refine⟨.one (.str []),?_⟩;rcases hcell with hcell|hcell
     ·simp only[go_sem,ha,hcell];exact⟨rfl,rfl⟩
     ·simp only[go_sem,ha,hcell];exact⟨rfl,rfl⟩
    |true=>
     simp only[go_sem];refine zza hit ?_;cases c3:(Lib.itoa m==a.name)with
     |false=>
      have hR0:R=none:=by rw[←hR,c3];rfl
      subst hR0;rcases hcell with hcell|hcell
      ·simp only[go_sem,ha,hcell,c3];exact⟨by simp,rfl,rfl⟩
      ·simp only[go_sem,ha,hcell,c3];exact⟨by simp,rfl,rfl⟩
     |true=>
      cases c4:decide (m<0)with
      |true=>
       have c4':decide (0≤m)=false:=decide_eq_false (by have:=of_decide_eq_true c4;omega);have hR0:R=none:=by rw[←hR,c3,c4'];rfl
       subst hR0;rcases hcell with hcell|hcell
       ·simp only[go_sem,ha,hcell,c3,c4];exact⟨by simp,rfl,rfl⟩
       ·simp only[go_sem,ha,hcell,c3,c4];exact⟨by simp,rfl,rfl⟩
      |false=>
       have c4p:0≤m:=by have:=of_decide_eq_false c4;omega
       have c4':decide (0≤m)=true:=decide_eq_true c4p;cases c5:decide (m≥(signs.length:Int))with
       |true=>
        have c5':decide (m<(signs.length:Int))=false:=decide_eq_false (by have:=of_decide_eq_true c5;omega);have hR0:R=none:=by rw[←hR,c3,c4',c5'];rfl
        subst hR0;rcases hcell with hcell|hcell
        ·simp only[go_sem,ha,hcell,c3,c4,c5];exact⟨by simp,rfl,rfl⟩
        ·simp only[go_sem,ha,hcell,c3,c4,c5];exact⟨by simp,rfl,rfl⟩
       |false=>
        have c5p:m<(signs.length:Int):=by have:=of_decide_eq_false c5;omega
        have c5':decide (m<(signs.length:Int))=true:=decide_eq_true c5p;have hcell:=ykf (signs:=signs) (k:=m.toNat) (by omega);rw[c3,c4',c5']at hR;generalize signs.getD m.toNat 0=x at*
        unfold sgnOk at hR;have l1:(m<(signs.length:Int))=True:=eq_true c5p;cases c6:decide (x< -1)with
        |true=>
         have c6':decide (x≥-1)=false:=decide_eq_false (by have:=of_decide_eq_true c6;omega);rw[c6']at hR;have hR0:R=none:=by rw[←hR];rfl
         subst hR0;simp only[go_sem,ha,hcell,c3,c4,c5,c6];exact⟨by simp,⟨c4p,c5p⟩,rfl,rfl⟩
        |false=>
         have c6':decide (x≥-1)=true:=decide_eq_true (by have:=of_decide_eq_false c6;omega);cases c7:decide (x>1)with
         |true=>
          have c7':decide (x≤1)=false:=decide_eq_false (by have:=of_decide_eq_true c7;omega);rw[c6',c7']at hR;have hR0:R=none:=by rw[←hR];rfl
          subst hR0;simp only[go_sem,ha,hcell,c3,c4,c5,c6,c7];exact⟨by simp,⟨c4p,c5p⟩,⟨c4p,c5p⟩,rfl,rfl⟩
         |false=>
          have c7':decide (x≤1)=true:=decide_eq_true (by have:=of_decide_eq_false c7;omega);rw[c6',c7']at hR;have hR0:R=some x:=by rw[←hR];rfl
          subst hR0;simp only[go_sem,ha,hcell,c3,c4,c5,c6,c7];exact⟨by simp,⟨c4p,c5p⟩,⟨c4p,c5p⟩,⟨c4p,c5p⟩,rfl,rfl⟩
 ·simp only at hR;subst hR;refine⟨b0l rfl,?_⟩;have ha:=Pred.zzb a;have hb:=Pred.zzb b;have h2:(((a::b::c::r).length:Int) !=2)=true:=by simp<;>omega
  generalize hks:a::b::c::r=ks at*
  have hk0:(ks.map Pred.cells).getD 0 []=a.cells:=by rw[←hks];rfl
  have hk1:(ks.map Pred.cells).getD 1 []=b.cells:=by rw[←hks];rfl
  simp only[zkw,go_sem,cellsM,h2,hk0,hk1,ha,hb];refine⟨.one (.bool false),?_⟩;simp only[go_sem,h2,hk0,hk1,ha,hb];try refine⟨.one (.bool false),?_⟩
  try simp only[go_sem,h2,hk0,hk1,ha,hb]
  try exact⟨rfl,rfl⟩
end Go.Abs
end
section
namespace Go.Abs
def leafV(o:Int)(r:Option Int):Int:=match r with
 |none=> -1
 |some s=>isS (s==0||(o==13&&decide (s<0)))
def evalS(signs:List Int):Pred→Int
 |.mk o _ n []=>if o==2 then isS (n==1)else-1
 |.mk o _ _ [a]=>if o==14 then notS (evalS signs a)else-1
 |.mk o _ _ [a,b]=>if o==13||o==10 then leafV o (leafS signs [a,b])else if o==15 then andS (evalS signs a) (evalS signs b)
   else if o==16 then notS (andS (notS (evalS signs a)) (notS (evalS signs b)))else if o==17 then notS (andS (evalS signs a) (notS (evalS signs b)))
   else if o==18 then(if decide (evalS signs a<0)||decide (evalS signs b<0)then-1 else isS (evalS signs a==evalS signs b))else-1
 |.mk _ _ _ (_::_::_::_)=> -1
theorem yXP(o)(r):Sgn (leafV o r):=by
 cases r with
 |none=>exact⟨Int.le_refl _,by show(-1:Int)≤1;decide⟩
 |some s=>exact yv3 _
theorem zxl(signs)(p):Sgn (evalS signs p):=by
 induction p using Pred.ind with
 |h o s n ks ih=>
  rcases ks with _|⟨a,_|⟨b,_|⟨c,r⟩⟩⟩
  ·rw[evalS];split
   ·exact yv3 _
   ·unfold Sgn;omega
  ·rw[evalS];split
   ·exact zwZ (ih a (by simp))
   ·unfold Sgn;omega
  ·rw[evalS];split
   ·exact yXP _ _
   split
   ·exact zvY _ _
   split
   ·exact zwZ (zvY _ _)
   split
   ·exact zwZ (zvY _ _)
   split
   ·split
    ·unfold Sgn;omega
    ·exact yv3 _
   ·unfold Sgn;omega
  ·rw[evalS];unfold Sgn;omega
inductive SubP:Pred→Pred→Prop
 |self (p:Pred):SubP p p
 |kid {q k p:Pred} (hk:k∈p.kids) (h:SubP q k):SubP q p
def NamesP(p:Pred):Prop:=∀q,SubP q p→q.name.length≤1073741824
theorem NamesP.kid{o}{s:Str}{n ks}(h:NamesP (.mk o s n ks)){k}(hk:k∈ks):NamesP k:=fun q hq=>h q (.kid hk hq)
theorem NamesP.name{p}(h:NamesP p):p.name.length≤1073741824:=h p (.self p)
variable{E:AEnv}(Z:Sys E)
include Z
set_option maxHeartbeats 8000000 in
theorem zvZ(hA:AtoiP E)(hI:ItoaP E)(signs)(hsl:signs.length≤1000)(p):NamesP p→E.C zyw [.agg p.cells,.one (.lst (signs.map icell))] (.one (.int .i64 (evalS signs p))):=by
 induction p using Pred.ind with
 |h o s n ks ih=>
  intro hn;have hnum:=fun b=>zJ2 Z b;have hneg:=fun n h=>zJq Z (n:=n) h;have hand:=fun a b=>yxs Z a b;have hleaf:=yxu Z hA hI o s n ks signs (fun k hk=>(hn.kid hk).name) hsl;refine Z.zyw _ _ ⟨b0l rfl,?_⟩;simp only[leafR]at hleaf;rcases ks with _|⟨a,_|⟨b,_|⟨c,r⟩⟩⟩
  ·rw[evalS];have hl0:leafS signs []=none:=rfl;simp only[hl0,cellsM,mN,Option.getD_none,Option.isSome_none]at hleaf;simp only[zzZ,go_sem,cellsM,mN,lN,nZ];cases c2:(o==2)with
   |true=>have h0:decide ((0:Int)>0)=false:=rfl;simp only[go_sem,h0];refine zza (hnum _) ?_;simp only[go_sem];try rfl
   |false=>
    simp only[go_sem];cases c13:(o==13)with
    |true=>simp only[go_sem];refine zza hleaf ?_;simp only[go_sem];try rfl
    |false=>
     simp only[go_sem];cases c10:(o==10)with
     |true=>simp only[go_sem];refine zza hleaf ?_;simp only[go_sem];try rfl
     |false=>
      have h1:((0:Int)==1)=false:=rfl;have h2:((0:Int) !=2)=true:=rfl;simp only[go_sem];cases c14:(o==14)with
      |true=>simp only[go_sem,h1];try rfl
      |false=>simp only[go_sem,h1,h2];try rfl
  ·rw[evalS];have hl0:leafS signs [a]=none:=rfl;have ha:=Pred.zzb a;have iha:=ih a (by simp) (hn.kid (by simp));have hs:=zxl signs a;have hna:=hneg _ hs;generalize evalS signs a=va at*
   simp only[hl0,cellsM,mC,mN,ha,Option.getD_none,Option.isSome_none]at hleaf;rw[ha]at iha;simp only[zzZ,go_sem,cellsM,mC,mN,lC,lN,zA,Int.natCast_one,ha];cases c2:(o==2)with
   |true=>
    have c14:(o==14)=false:=by have:o=2:=by simpa using c2
                               subst this;rfl
    have h0:decide ((1:Int)>0)=true:=rfl;simp only[go_sem,h0,c14];try rfl
   |false=>
    simp only[go_sem];cases c13:(o==13)with
    |true=>
     have c14:(o==14)=false:=by have:o=13:=by simpa using c13
                                subst this;rfl
     simp only[go_sem];refine zza hleaf ?_;simp only[go_sem,c14];try rfl
    |false=>
     simp only[go_sem];cases c10:(o==10)with
     |true=>
      have c14:(o==14)=false:=by have:o=10:=by simpa using c10
                                 subst this;rfl
      simp only[go_sem];refine zza hleaf ?_;simp only[go_sem,c14];try rfl
     |false=>
      have h1:((1:Int)==1)=true:=rfl;have h2:((1:Int) !=2)=true:=rfl;simp only[go_sem];cases c14:(o==14)with
      |true=>simp only[go_sem,h1];refine⟨by simp,?_⟩;refine zza iha ?_;simp only[go_sem];refine zza hna ?_;simp only[go_sem];try rfl
      |false=>simp only[go_sem,h1,h2];try rfl
  ·rw[evalS];have ha:=Pred.zzb a;have hb:=Pred.zzb b;have iha:=ih a (by simp) (hn.kid (by simp));have ihb:=ih b (by simp) (hn.kid (by simp));have hsa:=zxl signs a;have hsb:=zxl signs b;generalize evalS signs a=va at*
   generalize evalS signs b=vb at*
   have hna:=hneg _ hsa;have hnb:=hneg _ hsb;have hn1:=hneg _ (zvY (notS va) (notS vb));have hn2:=hneg _ (zvY va (notS vb));generalize leafS signs [a,b]=R at*
   simp only[cellsM,mC,mN,ha,hb]at hleaf;rw[ha]at iha;rw[hb]at ihb;have hlen:(∀(e:List D),e∈[[D.int IntKind.i64 a.op,D.str a.name,D.int IntKind.i64 a.n,D.lst (List.map Pred.cells a.kids)],[D.int IntKind.i64 b.op,D.str b.name,D.int IntKind.i64 b.n,D.lst (List.map Pred.cells b.kids)]]→e.length=4)=True:=eq_true (by simp);have F:∀{p:Prop},p→p:=fun h=>h;by_cases h2:o=2
   ·subst h2;simp only[zzZ,go_sem,cellsM,mC,mN,lC,lN,zA,Nat.reduceAdd,Int.cast_ofNat_Int,ha,hb,Int.reduceBEq,Int.reduceGT,Int.reduceLT,decide_true,decide_false];try rfl
   by_cases h13:o=13
   ·subst h13;simp only[zzZ,go_sem,cellsM,mC,mN,lC,lN,zA,Nat.reduceAdd,Int.cast_ofNat_Int,ha,hb,Int.reduceBEq,Int.reduceGT,Int.reduceLT,decide_true,decide_false];refine zza hleaf ?_;cases R with
    |none=>simp only[go_sem,Option.isSome_none,Option.getD_none];try rfl
    |some x=>simp only[go_sem,oS,Option.getD_some];refine zza (hnum _) ?_;simp only[go_sem];try rfl
   by_cases h10:o=10
   ·subst h10;simp only[zzZ,go_sem,cellsM,mC,mN,lC,lN,zA,Nat.reduceAdd,Int.cast_ofNat_Int,ha,hb,Int.reduceBEq,Int.reduceGT,Int.reduceLT,decide_true,decide_false];refine zza hleaf ?_;cases R with
    |none=>simp only[go_sem,Option.isSome_none,Option.getD_none];try rfl
    |some x=>simp only[go_sem,oS,Option.getD_some];refine zza (hnum _) ?_;simp only[go_sem];try rfl
   by_cases h14:o=14
   ·subst h14;simp only[zzZ,go_sem,cellsM,mC,mN,lC,lN,zA,Nat.reduceAdd,Int.cast_ofNat_Int,ha,hb,Int.reduceBEq,Int.reduceGT,Int.reduceLT,decide_true,decide_false];try rfl
   have e2:(o==2)=false:=by simpa using h2
   have e13:(o==13)=false:=by simpa using h13
   have e10:(o==10)=false:=by simpa using h10
   have e14:(o==14)=false:=by simpa using h14
   by_cases hr:o<15∨18<o
   ·have e15:(o==15)=false:=by simp;omega
    have e16:(o==16)=false:=by simp;omega
    have e17:(o==17)=false:=by simp;omega
    have e18:(o==18)=false:=by simp;omega
    have hq:(decide (o<15)||decide (o>18))=true:=by simp;omega
    simp only[zzZ,go_sem,cellsM,mC,mN,lC,lN,zA,Nat.reduceAdd,Int.cast_ofNat_Int,ha,hb,e2,e13,e10,e14,e15,e16,e17,e18,Int.reduceBNe,hq]
   ·obtain h|h|h|h:o=15∨o=16∨o=17∨o=18:=by omega
    ·subst h;simp only[zzZ,go_sem,cellsM,mC,mN,lC,lN,zA,Nat.reduceAdd,Int.cast_ofNat_Int,ha,hb,Int.reduceBEq,Int.reduceBNe,Int.reduceGT,Int.reduceLT,decide_true,decide_false];refine⟨by simp,?_⟩;refine zza iha ?_;simp only[go_sem,cellsM,mC,mN,lC,lN,zA,Nat.reduceAdd,Int.cast_ofNat_Int,ha,hb,Int.reduceBEq,Int.reduceBNe,Int.reduceGT,Int.reduceLT,decide_true,decide_false];cases c0:(va==0)with
     |true=>
      have:andS va vb=0:=by unfold andS;rw[c0];rfl
      rw[this];simp only[go_sem,cellsM,mC,mN,lC,lN,zA,Nat.reduceAdd,Int.cast_ofNat_Int,ha,hb,Int.reduceBEq,Int.reduceBNe,Int.reduceGT,Int.reduceLT,decide_true,decide_false];try rfl
     |false=>simp only[go_sem,cellsM,mC,mN,lC,lN,zA,Nat.reduceAdd,Int.cast_ofNat_Int,ha,hb,Int.reduceBEq,Int.reduceBNe,Int.reduceGT,Int.reduceLT,decide_true,decide_false];refine⟨by simp,?_⟩;refine zza ihb ?_;simp only[go_sem,cellsM,mC,mN,lC,lN,zA,Nat.reduceAdd,Int.cast_ofNat_Int,ha,hb,Int.reduceBEq,Int.reduceBNe,Int.reduceGT,Int.reduceLT,decide_true,decide_false];refine zza (hand _ _) ?_;simp only[go_sem,cellsM,mC,mN,lC,lN,zA,Nat.reduceAdd,Int.cast_ofNat_Int,ha,hb,Int.reduceBEq,Int.reduceBNe,Int.reduceGT,Int.reduceLT,decide_true,decide_false];try rfl
    ·subst h;simp only[zzZ,go_sem,cellsM,mC,mN,lC,lN,zA,Nat.reduceAdd,Int.cast_ofNat_Int,ha,hb,Int.reduceBEq,Int.reduceBNe,Int.reduceGT,Int.reduceLT,decide_true,decide_false];refine⟨by simp,?_⟩;refine zza iha ?_;simp only[go_sem,cellsM,mC,mN,lC,lN,zA,Nat.reduceAdd,Int.cast_ofNat_Int,ha,hb,Int.reduceBEq,Int.reduceBNe,Int.reduceGT,Int.reduceLT,decide_true,decide_false];refine⟨by simp,?_⟩;refine zza ihb ?_;simp only[go_sem,cellsM,mC,mN,lC,lN,zA,Nat.reduceAdd,Int.cast_ofNat_Int,ha,hb,Int.reduceBEq,Int.reduceBNe,Int.reduceGT,Int.reduceLT,decide_true,decide_false];refine zza hna ?_;simp only[go_sem,cellsM,mC,mN,lC,lN,zA,Nat.reduceAdd,Int.cast_ofNat_Int,ha,hb,Int.reduceBEq,Int.reduceBNe,Int.reduceGT,Int.reduceLT,decide_true,decide_false];refine zza hnb ?_;simp only[go_sem,cellsM,mC,mN,lC,lN,zA,Nat.reduceAdd,Int.cast_ofNat_Int,ha,hb,Int.reduceBEq,Int.reduceBNe,Int.reduceGT,Int.reduceLT,decide_true,decide_false];refine zza (hand _ _) ?_;simp only[go_sem,cellsM,mC,mN,lC,lN,zA,Nat.reduceAdd,Int.cast_ofNat_Int,ha,hb,Int.reduceBEq,Int.reduceBNe,Int.reduceGT,Int.reduceLT,decide_true,decide_false];refine zza hn1 ?_;simp only[go_sem,cellsM,mC,mN,lC,lN,zA,Nat.reduceAdd,Int.cast_ofNat_Int,ha,hb,Int.reduceBEq,Int.reduceBNe,Int.reduceGT,Int.reduceLT,decide_true,decide_false];try rfl
    ·subst h;simp only[zzZ,go_sem,cellsM,mC,mN,lC,lN,zA,Nat.reduceAdd,Int.cast_ofNat_Int,ha,hb,Int.reduceBEq,Int.reduceBNe,Int.reduceGT,Int.reduceLT,decide_true,decide_false];refine⟨by simp,?_⟩;refine zza iha ?_;simp only[go_sem,cellsM,mC,mN,lC,lN,zA,Nat.reduceAdd,Int.cast_ofNat_Int,ha,hb,Int.reduceBEq,Int.reduceBNe,Int.reduceGT,Int.reduceLT,decide_true,decide_false];refine⟨by simp,?_⟩;refine zza ihb ?_;simp only[go_sem,cellsM,mC,mN,lC,lN,zA,Nat.reduceAdd,Int.cast_ofNat_Int,ha,hb,Int.reduceBEq,Int.reduceBNe,Int.reduceGT,Int.reduceLT,decide_true,decide_false];refine zza hnb ?_;simp only[go_sem,cellsM,mC,mN,lC,lN,zA,Nat.reduceAdd,Int.cast_ofNat_Int,ha,hb,Int.reduceBEq,Int.reduceBNe,Int.reduceGT,Int.reduceLT,decide_true,decide_false];refine zza (hand _ _) ?_;simp only[go_sem,cellsM,mC,mN,lC,lN,zA,Nat.reduceAdd,Int.cast_ofNat_Int,ha,hb,Int.reduceBEq,Int.reduceBNe,Int.reduceGT,Int.reduceLT,decide_true,decide_false];refine zza hn2 ?_;simp only[go_sem,cellsM,mC,mN,lC,lN,zA,Nat.reduceAdd,Int.cast_ofNat_Int,ha,hb,Int.reduceBEq,Int.reduceBNe,Int.reduceGT,Int.reduceLT,decide_true,decide_false];try rfl
    ·subst h;simp only[zzZ,go_sem,cellsM,mC,mN,lC,lN,zA,Nat.reduceAdd,Int.cast_ofNat_Int,ha,hb,Int.reduceBEq,Int.reduceBNe,Int.reduceGT,Int.reduceLT,decide_true,decide_false];refine⟨by simp,?_⟩;refine zza iha ?_;simp only[go_sem,cellsM,mC,mN,lC,lN,zA,Nat.reduceAdd,Int.cast_ofNat_Int,ha,hb,Int.reduceBEq,Int.reduceBNe,Int.reduceGT,Int.reduceLT,decide_true,decide_false];refine⟨by simp,?_⟩;refine zza ihb ?_;simp only[go_sem,cellsM,mC,mN,lC,lN,zA,Nat.reduceAdd,Int.cast_ofNat_Int,ha,hb,Int.reduceBEq,Int.reduceBNe,Int.reduceGT,Int.reduceLT,decide_true,decide_false];cases c0:(decide (va<0)||decide (vb<0))with
     |true=>simp only[go_sem,cellsM,mC,mN,lC,lN,zA,Nat.reduceAdd,Int.cast_ofNat_Int,ha,hb,Int.reduceBEq,Int.reduceBNe,Int.reduceGT,Int.reduceLT,decide_true,decide_false];try rfl
     |false=>simp only[go_sem,cellsM,mC,mN,lC,lN,zA,Nat.reduceAdd,Int.cast_ofNat_Int,ha,hb,Int.reduceBEq,Int.reduceBNe,Int.reduceGT,Int.reduceLT,decide_true,decide_false];refine zza (hnum _) ?_;simp only[go_sem,cellsM,mC,mN,lC,lN,zA,Nat.reduceAdd,Int.cast_ofNat_Int,ha,hb,Int.reduceBEq,Int.reduceBNe,Int.reduceGT,Int.reduceLT,decide_true,decide_false];try rfl
  ·rw[evalS];have ha:=Pred.zzb a;have hb:=Pred.zzb b;have hl0:leafS signs (a::b::c::r)=none:=rfl;have g0:decide (((a::b::c::r).length:Int)>0)=true:=by simp<;>omega
   have g1:(((a::b::c::r).length:Int)==1)=false:=by simp<;>omega
   have g2:(((a::b::c::r).length:Int) !=2)=true:=by simp<;>omega
   generalize hks:a::b::c::r=ks at*
   simp only[hl0,cellsM,Option.getD_none,Option.isSome_none]at hleaf;simp only[zzZ,go_sem,cellsM,g0,g1,g2];cases c2:(o==2)with
   |true=>simp only[go_sem,g0];try rfl
   |false=>
    simp only[go_sem];cases c13:(o==13)with
    |true=>simp only[go_sem];refine zza hleaf ?_;simp only[go_sem];try rfl
    |false=>
     simp only[go_sem];cases c10:(o==10)with
     |true=>simp only[go_sem];refine zza hleaf ?_;simp only[go_sem];try rfl
     |false=>
      simp only[go_sem];cases c14:(o==14)with
      |true=>simp only[go_sem,g1];try rfl
      |false=>simp only[go_sem,g1,g2];try rfl
end Go.Abs
end
section
namespace Go.Abs
open Go.RowKit Go.Sort Go.Proofs
def segs:Code→Option (List (Nat×Array Oper))
 |.ret=>some []
 |.seq (.region i ops false) c=>(segs c).map ((i,ops):: ·)
 |_=>none
abbrev OpC:=Option Tmp×Op×Option (Nat×Bool)
def opc(o:Oper):OpC:=(o.dst,o.op,o.guard)
theorem yV3{c}(h:segs c=some []):c=.ret:=by
 cases c with
 |ret=>rfl
 |seq a b=>
  cases a with
  |region i ops d=>cases d<;>simp[segs]at h
  |_=>simp[segs]at h
 |_=>simp[segs]at h
theorem yWQ{c i ops l}(h:segs c=some ((i,ops)::l)):∃c',c=.seq (.region i ops false) c'∧segs c'=some l:=by
 cases c with
 |seq a b=>
  cases a with
  |region i' ops' d=>
   cases d with
   |true=>simp[segs]at h
   |false=>simp only[segs,Option.map_eq_some_iff]at h;obtain⟨l',h1,h2⟩:=h;cases h2;exact⟨b,rfl,h1⟩
  |_=>simp[segs]at h
 |_=>simp[segs]at h
theorem zJT{c x xs}(h:(segs c).map (fun l=>l.map fun p=>p.2.toList.map opc)=some (x::xs)):
  ∃i ops c',c=.seq (.region i ops false) c'∧ops.toList.map opc=x∧(segs c').map (fun l=>l.map fun p=>p.2.toList.map opc)=some xs:=by
 cases hs:segs c with
 |none=>rw[hs]at h;cases h
 |some l=>
  rw[hs]at h;cases l with
  |nil=>simp at h
  |cons p l=>obtain⟨i,ops⟩:=p;obtain⟨c',h1,h2⟩:=yWQ hs;simp only[Option.map_some,mC,Option.some.injEq,List.cons.injEq]at h;exact⟨i,ops,c',h1,h.1,by rw[h2];simp[h.2]⟩
theorem yV2{c}(h:(segs c).map (fun l=>l.map fun p=>p.2.toList.map opc)=some []):c=.ret:=by
 cases hs:segs c with
 |none=>rw[hs]at h;cases h
 |some l=>
  rw[hs]at h;cases l with
  |nil=>exact yV3 hs
  |cons p l=>simp at h
section
variable{F:Fence}{n:Nat}{P:Program}{ops:Array Oper}{Q:Exit→Act→World→Prop}{k:Nat}{N:Act→World→Prop}{a:Act}{w:World}
theorem yWj{d op g}(ho:(ops.toList.map opc)[k]? =some (d,op,g)):∃o,ops[k]? =some o∧o.dst=d∧o.op=op∧o.guard=g:=by
 rw[List.getElem?_map,Array.getElem?_toList]at ho;cases h:ops[k]? with
 |none=>rw[h]at ho;cases ho
 |some o=>rw[h]at ho;simp only[Option.map_some,Option.some.injEq,opc,Prod.mk.injEq]at ho;exact⟨o,rfl,ho.1,ho.2.1,ho.2.2⟩
theorem zvt(hF:FW F){d op}(ho:(ops.toList.map opc)[k]? =some (some d,op,none))(hnd:∀c,op≠.defer c){v w'}(hrun:∀o:Oper,o.op=op→(execOp a.eval o).run P w=.ok (.value v) w')
  (hN:N {a with tmps:=a.tmps.setIfInBounds d v} w'):wpOpIn F n P ops Q k N a w:=by
 obtain⟨o,h1,h2,h3,h4⟩:=yWj ho;unfold wpOpIn;simp only[h1];rw[if_pos (by simp[Region.wanted,h4])];refine yjP hF (fun c hc=>hnd c (h3▸hc)) ?_;unfold Oper.wp;rw[hrun o h3];simp only[Oper.upon_value,Act.put,h2];exact hN
theorem yvh(hF:FW F){d op}(ho:(ops.toList.map opc)[k]? =some (some d,op,none))(hnd:∀c,op≠.defer c){f args}(hrun:∀o:Oper,o.op=op→(execOp a.eval o).run P w=.ok (.enter f args) w)
  {R} (hc:Calls P f args w R) (hN:∀e w',R e w'→∃v,e=.returned v∧N {a with tmps:=a.tmps.setIfInBounds d v} w'):wpOpIn F n P ops Q k N a w:=by
 obtain⟨o,h1,h2,h3,h4⟩:=yWj ho;unfold wpOpIn;simp only[h1];rw[if_pos (by simp[Region.wanted,h4])];refine yjP hF (fun c hc=>hnd c (h3▸hc)) ?_;unfold Oper.wp;rw[hrun o h3,Oper.upon_enter];refine hc.mono ?_;intro e w' hR;obtain⟨v,rfl,hN⟩:=hN e w' hR;simp only[Act.put,h2];exact hN
theorem zJV{i l}(hl:ops.toList.map opc=l)(h:wpOpsIn F n P ops Q (List.range l.length) a w):(Code.region i ops false).wpIn F n P Q a w:=
 wpIn_region (by have:ops.size=l.length:=by rw[←hl];simp
                 rw[this];exact h)
end
theorem yWY{w S s v}(h:Rep w S (.str s) v):v=encStr s∧s.length≤9223372036854775807:=by obtain⟨x,h1,h2,h3⟩:=h;subst h1 h2;exact⟨by simp[encStr],by simpa using h3⟩
theorem zWL{w S}:∀{ss:List (List UInt8)} {l},RepL w S (ss.map fun s=>[D.str s]).flatten l→l=ss.map encStr∧∀s∈ss,s.length≤9223372036854775807
 |[],l,h=>by simp[RepL]at h;subst h;simp
 |s::ss,l,h=>by simp only[mC,List.flatten_cons,List.singleton_append]at h;obtain⟨v,r,h1,h2,h3⟩:=h;obtain⟨rfl,h4⟩:=yWY h2;obtain⟨h5,h6⟩:=zWL h3;subst h1 h5;exact⟨rfl,by simpa using⟨h4,h6⟩⟩
theorem yzN{w S}:∀{ss:List (List UInt8)},(∀s∈ss,s.length≤9223372036854775807)→RepL w S (ss.map fun s=>[D.str s]).flatten (ss.map encStr)
 |[],_=>by simp[RepL]
 |s::ss,h=>by simp only[mC,List.flatten_cons,List.singleton_append];exact⟨_,_,rfl,⟨_,rfl,by simp,by show s.toArray.size≤_;rw[List.size_toArray];exact h s (by simp)⟩,yzN fun x hx=>h x (by simp[hx])⟩
theorem yWl{P w}{B t ty e:TypeId}{ie z eb}(hu:P.underlying t=some (.slice e))(hie:P.info? e=some ie)(q1:ie.size=1)(q2:ie.bytes=eb)(q4:ie.zero=some z)(q5:z.cells.size=1)
  {v} {xs} (hown:w.ownsRow B e 1 v xs.length xs) {v2} {es} {S} (hy:Rep w S (.lst es) v2) (hes:∀x∈es,x.length=1) (hB:B≤w.heap.size) (h63:xs.length+es.length≤maxLen) (hby:(xs.length+es.length)*eb≤140737488355328):
  ∃v' w' l2,RepL w S es.flatten l2∧(Builtin.append_ #[t,t] ty #[v,v2]).run P w=.ok v' w'∧w'.ownsRow B e 1 v' (xs++l2).length (xs++l2)∧w.grownBy w' v.ownBlock∧(v'=.slice none 0 0→v=.slice none 0 0):=by
 obtain⟨base2,cap2,rfl,_⟩:=id hy;obtain⟨_,hm,hcap2,hnil2,l2,hl2,hl2c⟩:=zk8 hy;have len2:l2.length=es.length:=by rw[RepL.length hl2,zxb hes,Nat.mul_one]
 cases base2 with
 |none=>
  have h0:cap2=0:=hnil2 rfl;have hes0:es=[]:=List.eq_nil_of_length_eq_zero (by omega);subst hes0;have hl0:l2=[]:=List.eq_nil_of_length_eq_zero (by simpa using len2);subst hl0;refine⟨v,w,[],hl2,?_,by simpa using hown,⟨rfl,rfl,rfl,Nat.le_refl _,fun _ _ _=>rfl⟩,id⟩;rcases hown.2 with⟨rfl,_⟩|⟨g,cap,cur,rfl,_,_,hn,_⟩
  ·exact zjQ w t ty e ie hu hie none 0 0 (Nat.le_refl _) none cap2
  ·exact zjQ w t ty e ie hu hie _ _ _ hn none cap2
 |some a2=>obtain⟨_,hc2⟩:=hl2c a2 rfl;obtain⟨v',w',h1,h2,h3,h4⟩:=run_append_own (P:=P) w B t ty e ie z 1 eb hu hie q4 q1 q2 q5 (by omega) v xs.length xs hown a2 es.length cap2 l2 (by omega) (fun j u hj=>(hc2 j u hj).1) (RepL.ones hl2) h63 hby hB;exact⟨v',w',l2,hl2,h1,by rw[lA,len2];exact h2,h3,fun h=>(h4.1 h).1⟩
def unionOps(t fs fc:Nat):List (List OpC):=
 [[(some 4,.assign (.const (.slice none 0 0)),none)],
  [(some 6,.buildSlice t 0 #[],none),(some 7,.move (.tmp 0),none),(some 8,.call ⟨.builtin .append,#[.tmp 6,.tmp 7],#[t,t]⟩,none),(some 9,.move (.tmp 1),none),(some 10,.call ⟨.builtin .append,#[.tmp 8,.tmp 9],#[t,t]⟩,none),(some 5,.assign (.tmp 10),none)],
  [(some 11,.move (.tmp 5),none),(some 12,.call ⟨.value (.func fs),#[.tmp 11],#[t]⟩,none)],
  [(some 13,.move (.tmp 5),none),(some 14,.call ⟨.value (.func fc),#[.tmp 13],#[t]⟩,none),(some 4,.assign (.tmp 14),none)]]
abbrev sorted(ss:List (List UInt8)):List (List UInt8):=ss.mergeSort fun x y=>decide (x≤y)
def SortLaw(P:Program)(f:FuncId):Prop:=∀(blk off cap:Nat) (ss:List (List UInt8)) (w:World),Holds encStr w blk off ss.toArray→blk<w.heap.size→ss.length<4611686018427387904→
    Calls P f #[.slice (some ⟨blk,off,none⟩) ss.length cap] w fun e w'=>e=.returned (.tuple #[])∧∃n os,w'=grow (putRow encStr (Sort.ahead w n) blk off (sorted ss).toArray) os
def CompactLaw(P:Program)(f:FuncId):Prop:=∀(blk off cap:Nat) (zs:List (List UInt8)) (w:World),Holds encStr w blk off zs.toArray→zs.length≤9223372036854775807→zs.length≤cap→
    Calls P f #[.slice (some ⟨blk,off,none⟩) zs.length cap] w fun e w'=>e=.returned (.slice (some ⟨blk,off,none⟩) (Lib.compact zs).length cap)∧∃q,w'=putRow encStr (Sort.ahead w q) blk off (Lib.compact zs++List.replicate (zs.length-(Lib.compact zs).length) []).toArray
theorem yvK{zs}{x:List UInt8}(h:x∈Lib.compact zs):x∈zs:=by unfold Lib.compact Lib.compactUpTo at h;obtain⟨i,hi,rfl⟩:=List.mem_map.1 h;have:=List.mem_range.1 (List.mem_filter.1 hi).1;simp[getElem!_pos,this]
end Go.Abs
end
section
namespace Go.Abs
def unionS(a b:List Str):List Str:=Lib.compact (sorted (a++b))
def UnionLaw(E:AEnv):Prop:=∀a b:List Str,a.length+b.length<4398046511104→E.C yzc [.one (.lst (a.map fun s=>[.str s])),.one (.lst (b.map fun s=>[.str s]))] (.one (.lst ((unionS a b).map fun s=>[.str s])))
def freeL(l:List Pred):List Str:=(l.filter fun q=>q.op==3).map Pred.name
def freeS(p:Pred):List Str:=unionS (freeL p.pre) []
theorem ykd(l):(freeL l).length≤l.length:=by
 unfold freeL;rw[lM];exact List.length_filter_le _ _
def fv:List CV→List (List D)
 |[.agg (.int _ o:: .str s::_)]=>if o==3 then[[.str s]]else[]
 |_=>[]
theorem yqg(o)(s:Str)(n)(ks):fv [.agg (Pred.cells (.mk o s n ks))]=if o==3 then[[.str s]]else[]:=by
 rw[Pred.zzb];rfl
theorem zQQ:∀l:List Pred,(yields l).flatMap fv=(freeL l).map fun s=>[.str s]
 |[]=>rfl
 |.mk o s n ks::l=>by have ih:=zQQ l;unfold yields freeL at ih⊢;rw[mC,List.flatMap_cons,ih,yqg,List.filter_cons,show(Pred.mk o s n ks).op=o from rfl];cases h:(o==3)<;>rfl
theorem yQi(l:List (List CV)):∀e∈l.flatMap fv,e.length=1:=by
 intro e he;obtain⟨x,_,hx⟩:=List.mem_flatMap.1 he;unfold fv at hx;split at hx
 ·split at hx<;>simp at hx;subst hx;rfl
 ·cases hx
variable{E:AEnv}(Z:Sys E)
include Z
theorem yJN(hU:UnionLaw E)(hIt:∀p,E.It zz1 [.ref (Pred.cells p)] (yields p.pre))(p)(hp:p.pre.length≤1048576):E.C zq9 [.agg p.cells] (.one (.lst ((freeS p).map fun s=>[.str s]))):=by
 have h3:=zX5 Z p;have hit:=hIt p;have hu:=hU (freeL p.pre) [] (by have:=ykd p.pre;simp only[lN];omega);refine Z.zq9 _ _ ⟨b0l rfl,?_⟩;unfold freeS;generalize unionS (freeL p.pre) []=U at*
 rw[Pred.zzb]at*
 simp only[zVU,go_sem];refine zza h3 ?_;simp only[go_sem];refine yJO hit (fun a=>∃l,a=yields l) (fun a=>⟨[(3,.ptr 3 0)],[(3,[.own 3 1 (a.flatMap fv)])],[(3,true)]⟩) ?_ ⟨[],rfl⟩ ?_ ?_
 ·exact zwG 3 0 3 1 _ [] [(3,3)] rfl rfl (by simp) rfl (by simp only[Ent0,go_sem,cN,oS,List.flatMap_nil])
 ·intro a x b hx ⟨l,hl⟩;obtain⟨a',q,b',e1,rfl,rfl⟩:=yxj hx;refine⟨rfl,?_⟩;have hlen:(freeL a').length+1≤1048576:=by have h1:=ykd a';have h2:=congrArg List.length e1;simp only[lA,lC]at h2;omega
  rw[List.flatMap_append];have hones:=yQi (yields a');have hlen2:((yields a').flatMap fv).length+1≤1048576:=by rw[zQQ,lM];exact hlen
  generalize (yields a').flatMap fv=fs at*
  obtain⟨o,s,n,ks⟩:=q;have hfv:=yqg o s n ks;simp only[List.flatMap_cons,List.flatMap_nil,List.append_nil,hfv];have hy:yields a'++[[CV.agg (Pred.cells (.mk o s n ks))]]=yields (a'++[.mk o s n ks]):=by simp[yields]
  rw[hy,Pred.zzb];simp only[zYD,zYE,go_sem,Pred.op,Pred.name,Pred.n,Pred.kids];cases h2:(o==3)with
  |true=>
   have ha1:(fs.length+1)*16≤2^46:=by omega
   simp only[h2,go_sem];refine⟨⟨by simp,ha1,by omega⟩,zzk [(3,15)] ?_,a'++[.mk o s n ks],rfl⟩;simp only[go_sem,cN,oS]
  |false=>simp only[h2,go_sem];exact⟨zzk [(3,3)] (by simp only[go_sem,cN,oS]),a'++[.mk o s n ks],rfl⟩
 ·intro _;rw[zQQ];simp only[go_sem];refine zza hu ?_;simp only[go_sem]
end Go.Abs
end
section
namespace Go.Abs
open Go.RowKit Go.Sort Go.Proofs
theorem yx7{F n P ops Q a w}(h:Q .normal a w):wpOpsIn F n P ops Q [] a w:=h
theorem yqQ{P}{a:Act}{w x o}(ho:o.op=.move x):(execOp a.eval o).run P w=.ok (.value (a.eval x)) w:=by
 unfold execOp;simp[ho]
theorem yjC{P}{a:Act}{w x o}(ho:o.op=.assign x):(execOp a.eval o).run P w=.ok (.value (a.eval x)) w:=by
 unfold execOp;simp[ho]
theorem yWJ{P}{a:Act}{w w' x y}{t:Nat}{v o}(ho:o.op=.call ⟨.builtin .append,#[x,y],#[t,t]⟩)(h:∀ty,(Builtin.append_ #[t,t] ty #[a.eval x,a.eval y]).run P w=.ok v w'):(execOp a.eval o).run P w=.ok (.value v) w':=by
 unfold execOp;simp[ho,resolve,invoke,builtin,h]
theorem yJP{P}{a:Act}{w x}{t:Nat}{f o}(hen:Enters P f)(ho:o.op=.call ⟨.value (.func f),#[x],#[t]⟩):(execOp a.eval o).run P w=.ok (.enter f #[a.eval x]) w:=by
 obtain⟨fn,hfn,hname,hbody⟩:=hen;have hname':¬fn.name= "runtime.NumGoroutine":=by simpa using hname
 have hbody':¬fn.body=none:=by intro e;simp[e]at hbody
 unfold execOp;simp[ho,resolve,invoke,callFunc,Deferred.ofValue,Act.eval,hfn,hname',hbody']
theorem yVZ{P}{a:Act}{w t e ie o}(hu:P.underlying t=some (.slice e))(hie:P.info? e=some ie)(ho:o.op=.buildSlice t 0 #[]):(execOp a.eval o).run P w=.ok (.value (.slice (some ⟨w.heap.size,0,none⟩) 0 0)) (w.alloc (.cells #[] e)):=by unfold execOp;simp[ho,Instr.buildSlice,run_underlying hu,run_sizeOf hie,Instr.fill,newRow];congr 2;exact Array.ext (by simp) (by simp)
theorem yQf{P T fn tmps k w}(hres:fn.results.toList.mapM (trRes T)=some [.t k]):(results fn tmps).run P w=.ok (tmps.getD k undef) w:=by
 have hone:∃rv,fn.results.toList=[rv]∧trRes T rv=some (.t k):=by
  generalize fn.results.toList=l at hres;cases l with
  |nil=>simp at hres
  |cons rv l=>
   simp only[List.mapM_cons,Option.bind_eq_bind,Option.bind_eq_some_iff,Option.pure_def,Option.some.injEq]at hres;obtain⟨x',hx,xs,hxs,hrs⟩:=hres;cases hrs;cases l with
   |nil=>exact⟨rv,rfl,hx⟩
   |cons rv2 l=>simp only[List.mapM_cons,Option.bind_eq_bind,Option.bind_eq_some_iff,Option.pure_def,Option.some.injEq]at hxs;obtain⟨_,_,_,_,hxs⟩:=hxs;cases hxs
 obtain⟨rv,hrv,htx⟩:=hone;cases rv with
 |tmp t=>simp only[trRes,Option.some.injEq,R.t.injEq]at htx;subst htx;rw[zvh,Array.mapM_eq_mapM_toList,hrv];simp only[List.mapM_cons,List.mapM_nil,Sem.run_bind,Sem.run_map,rvRun];simp
 |cell a t=>simp only[trRes,Option.bind_eq_bind,Option.bind_eq_some_iff]at htx;obtain⟨_,_,h⟩:=htx;cases h
theorem yZD{P fn tmps R w v}(h1:(results fn tmps).run P w=.ok v w)(h2:R (.returned v) w):LeavesInM Fence.wide 0 P fn tmps R [] .returning w:=⟨v,h1,h2⟩
theorem EvOwn.plain{P G f args sz es}(h:EvOwn P G f args none sz es):EvD P G f args (.one (.lst es)):=by
 refine⟨h.1,fun w S cargs hl hg ha=>?_⟩;refine(h.2 w S cargs [] hl hg ha rfl).mono ?_
 rintro e w' ⟨v,S',rfl,h1,_,_,hb,hk,hn,hv⟩
 have hn':∀b,OwnX P w [] b→w.heap.size≤b:=fun b h=>by rcases h with h|⟨h,_⟩;exact h;cases h
 exact⟨v,S',rfl,h1,⟨hb.os,hb.tape,hb.output,hb.size,fun k hk=>hb.block k fun ho=>by have:=hn' k ho;omega⟩,fun b o hs=>(hk b o hs).1,fun b o hs=>(hn b o hs).imp id (hn' b),hv⟩
theorem yJf{P G}{f fs fc t:Nat}{eb zz T}{fn:Func}{cd}(hf:P.funcs[f]? =some fn)(hname:(fn.name== "runtime.NumGoroutine")=false)(hcd:fn.body=some cd)
  (hseg:(segs cd).map (fun l=>l.map fun p=>p.2.toList.map opc)=some (unionOps t fs fc)) (hnt:fn.ntmps=15) (hres:fn.results.toList.mapM (trRes T)=some [.t 4]) (hT:∀t ty,T t=some ty→chkTy P t ty=true) (ht:chkTy P t (.slice 1 eb zz)=true) (heb:eb≤16)
  (hes:Enters P fs) (hec:Enters P fc) (hsort:SortLaw P fs) (hcomp:CompactLaw P fc) (sa sb) (hlen:sa.length+sb.length<4398046511104):
  Ev P G f [.one (.lst (sa.map fun s=>[.str s])),.one (.lst (sb.map fun s=>[.str s]))] (.own none 1 ((Lib.compact (sorted (sa++sb))).map fun s=>[.str s])):=by
 obtain⟨e,ie,z,hu,hie,q1,q2,q3,q4,q5⟩:=zzL ht;refine⟨⟨fn,hf,hname,by simp[hcd]⟩,fun w S cargs X hlive hglob hargs hX=>?_⟩;obtain rfl:X=[]:=hX;obtain⟨va,r,e1,h1,vb,r2,rfl,h2,e3⟩:=hargs;simp only[RepCL]at e3;subst e3;obtain rfl:cargs=#[va,vb]:=by cases cargs;simp_all
 have h1:Rep w S (.lst (sa.map fun s=>[.str s])) va:=h1;have h2:Rep w S (.lst (sb.map fun s=>[.str s])) vb:=h2;have one:∀(l:List (List UInt8)),∀x∈(l.map fun s=>[D.str s]),x.length=1:=fun l x hx=>by obtain⟨s,_,rfl⟩:=List.mem_map.1 hx;rfl
 obtain⟨i0,r0,c0,rfl,hl0,hseg⟩:=zJT hseg;obtain⟨i1,r1,c1,rfl,hl1,hseg⟩:=zJT hseg;obtain⟨i2,r2,c2,rfl,hl2,hseg⟩:=zJT hseg;obtain⟨i3,r3,c3,rfl,hl3,hseg⟩:=zJT hseg;obtain rfl:=yV2 hseg;refine callsIn_wide.1 (callsIn_of_wp_marks (n:=0) (R:=GivesO P w S [] 1 _) hf hcd trivial ?_);have hT0:#[va,vb]++Array.replicate (fn.ntmps-#[va,vb].size) undef=#[va,vb,undef,undef,undef,undef,undef,undef,undef,undef,undef,undef,undef,undef,undef]:=by rw[hnt];rfl
 rw[hT0];have hF:FW Fence.wide:=FW.wide;refine wpIn_seq (zJV hl0 ?_);show wpOpsIn _ _ _ _ _ [0] _ _;rw[wpOpsIn_cons];refine zvt hF (v:=.slice none 0 0) (by rw[hl0];rfl) (by simp) (fun o ho=>yjC ho) ?_;refine yx7 ?_;show Code.wpIn _ _ _ _ _ ⟨#[va,vb,undef,undef,.slice none 0 0,undef,undef,undef,undef,undef,undef,undef,undef,undef,undef],[]⟩ _;refine wpIn_seq (zJV hl1 ?_);show wpOpsIn _ _ _ _ _ [0,1,2,3,4,5] _ _;simp only[wpOpsIn_cons];refine zvt hF (v:=(.slice (some ⟨w.heap.size,0,none⟩) 0 0)) (by rw[hl1];rfl) (by simp) (fun o ho=>yVZ hu hie ho) ?_;show wpOpIn _ _ _ _ _ _ _ ⟨#[va,vb,undef,undef,.slice none 0 0,undef,(.slice (some ⟨w.heap.size,0,none⟩) 0 0),undef,undef,undef,undef,undef,undef,undef,undef],[]⟩ _;refine zvt hF (v:=va) (by rw[hl1];rfl) (by simp) (fun o ho=>yqQ ho) ?_;show wpOpIn _ _ _ _ _ _ _ ⟨#[va,vb,undef,undef,.slice none 0 0,undef,(.slice (some ⟨w.heap.size,0,none⟩) 0 0),va,undef,undef,undef,undef,undef,undef,undef],[]⟩ _;have keep:∀{w':World},Below w.heap.size w w'→Keeps w S w' S:=fun hb b o hs=>by obtain⟨v,hv⟩:=hlive b o hs;exact⟨hs,hb.cell (p:=⟨b,o,none⟩) (zyu hv)⟩
 have hb1:Below w.heap.size w (w.alloc (.cells #[] e)):=(Below.refl _ _).alloc (Nat.le_refl _) _;have own1:(w.alloc (.cells #[] e)).ownsRow w.heap.size e 1 (.slice (some ⟨w.heap.size,0,none⟩) 0 0) ([]:List Value).length []:=
  ⟨rfl,.inr ⟨w.heap.size,0,#[],rfl,Nat.le_refl _,heap_alloc_new w _,Nat.le_refl _,by unfold maxLen;omega,rfl,rfl⟩⟩
 obtain⟨v8,w2,l2,hl2r,hrun2,own2,hg2,hn2⟩:=yWl (ty:=t) (eb:=eb) hu hie q1 q2 q4 q5 own1 (Rep.keep (keep hb1) _ _ h1) (one sa) (by have:=hb1.size;exact this) (by simp only[lN,lM];unfold maxLen;omega) (by simp only[lN,lM,zA];exact Nat.le_trans (Nat.mul_le_mul (Nat.le_of_lt (by omega:sa.length<4398046511104)) heb) (by omega));obtain⟨rfl,hsa⟩:=zWL hl2r;have hb2:Below w.heap.size w w2:=hb1.grown hg2 hb1.size (fun k hk=>(own1.lt k hk).1);obtain⟨v10,w3,l3,hl3r,hrun3,own3,hg3,hn3⟩:=yWl (ty:=t) (eb:=eb) hu hie q1 q2 q4 q5 own2 (Rep.keep (keep hb2) _ _ h2) (one sb) hb2.size (by simp only[lN,lM,List.nil_append];unfold maxLen;omega) (by simp only[lN,lM,List.nil_append];exact Nat.le_trans (Nat.mul_le_mul (Nat.le_of_lt hlen) heb) (by omega));obtain⟨rfl,hsb⟩:=zWL hl3r;have hb3:Below w.heap.size w w3:=hb2.grown hg3 hb2.size (fun k hk=>(own2.lt k hk).1);simp only[List.nil_append]at own3 hn3 own2;rw[←mA]at own3;have hnn:v10≠.slice none 0 0:=fun h=>by have:=hn2 (hn3 h);cases this
 obtain⟨g,cap,rfl,hgB,hgw,hgc,hgm,_,hHold⟩:=Lib.holds_of_ownsRow own3 hnn;have rty:∀(v v2 v':Value) (wa wb:World),(∃ty,(Builtin.append_ #[t,t] ty #[v,v2]).run P wa=.ok v' wb)→∀ty,(Builtin.append_ #[t,t] ty #[v,v2]).run P wa=.ok v' wb:=fun v v2 v' wa wb ⟨ty,h⟩ ty'=>h;refine zvt hF (v:=v8) (by rw[hl1];rfl) (by simp) (fun o ho=>yWJ (x:=.tmp 6) (y:=.tmp 7) ho (rty _ _ _ _ _ ⟨t,hrun2⟩)) ?_;show wpOpIn _ _ _ _ _ _ _ ⟨#[va,vb,undef,undef,.slice none 0 0,undef,(.slice (some ⟨w.heap.size,0,none⟩) 0 0),va,v8,undef,undef,undef,undef,undef,undef],[]⟩ _;refine zvt hF (v:=vb) (by rw[hl1];rfl) (by simp) (fun o ho=>yqQ ho) ?_;show wpOpIn _ _ _ _ _ _ _ ⟨#[va,vb,undef,undef,.slice none 0 0,undef,(.slice (some ⟨w.heap.size,0,none⟩) 0 0),va,v8,vb,undef,undef,undef,undef,undef],[]⟩ _;refine zvt hF (v:=(.slice (some ⟨g,0,none⟩) (List.map encStr (sa++sb)).length cap)) (by rw[hl1];rfl) (by simp) (fun o ho=>yWJ (x:=.tmp 8) (y:=.tmp 9) ho (rty _ _ _ _ _ ⟨t,hrun3⟩)) ?_;show wpOpIn _ _ _ _ _ _ _ ⟨#[va,vb,undef,undef,.slice none 0 0,undef,(.slice (some ⟨w.heap.size,0,none⟩) 0 0),va,v8,vb,(.slice (some ⟨g,0,none⟩) (List.map encStr (sa++sb)).length cap),undef,undef,undef,undef],[]⟩ _;refine zvt hF (v:=(.slice (some ⟨g,0,none⟩) (List.map encStr (sa++sb)).length cap)) (by rw[hl1];rfl) (by simp) (fun o ho=>yjC ho) ?_;refine yx7 ?_;show Code.wpIn _ _ _ _ _ ⟨#[va,vb,undef,undef,.slice none 0 0,(.slice (some ⟨g,0,none⟩) (List.map encStr (sa++sb)).length cap),(.slice (some ⟨w.heap.size,0,none⟩) 0 0),va,v8,vb,(.slice (some ⟨g,0,none⟩) (List.map encStr (sa++sb)).length cap),undef,undef,undef,undef],[]⟩ _;refine wpIn_seq (zJV hl2 ?_);show wpOpsIn _ _ _ _ _ [0,1] _ _;simp only[wpOpsIn_cons];refine zvt hF (v:=(.slice (some ⟨g,0,none⟩) (List.map encStr (sa++sb)).length cap)) (by rw[hl2];rfl) (by simp) (fun o ho=>yqQ ho) ?_;show wpOpIn _ _ _ _ _ _ _ ⟨#[va,vb,undef,undef,.slice none 0 0,(.slice (some ⟨g,0,none⟩) (List.map encStr (sa++sb)).length cap),(.slice (some ⟨w.heap.size,0,none⟩) 0 0),va,v8,vb,(.slice (some ⟨g,0,none⟩) (List.map encStr (sa++sb)).length cap),(.slice (some ⟨g,0,none⟩) (List.map encStr (sa++sb)).length cap),undef,undef,undef],[]⟩ _;have hlen3:(List.map encStr (sa++sb)).length=(sa++sb).length:=by simp
 refine yvh hF (by rw[hl2];rfl) (by simp) (fun o ho=>yJP hes ho) (R:=fun e w'=>e=.returned (.tuple #[])∧∃n os,w'=grow (putRow encStr (Sort.ahead w3 n) g 0 (sorted (sa++sb)).toArray) os) ?_ ?_
 ·have:=hsort g 0 cap (sa++sb) w3 hHold hgw (by rw[lA];omega);rw[←hlen3]at this;exact this
 rintro e' w4 ⟨rfl,nn,os,rfl⟩
 refine⟨_,rfl,?_⟩;refine yx7 ?_;show Code.wpIn _ _ _ _ _ ⟨#[va,vb,undef,undef,.slice none 0 0,(.slice (some ⟨g,0,none⟩) (List.map encStr (sa++sb)).length cap),(.slice (some ⟨w.heap.size,0,none⟩) 0 0),va,v8,vb,(.slice (some ⟨g,0,none⟩) (List.map encStr (sa++sb)).length cap),(.slice (some ⟨g,0,none⟩) (List.map encStr (sa++sb)).length cap),.tuple #[],undef,undef],[]⟩ _;have hset:(sorted (sa++sb)).length=(sa++sb).length:=by simp
 have hb4:Below w.heap.size w (grow (putRow encStr (Sort.ahead w3 nn) g 0 (sorted (sa++sb)).toArray) os):=hb3.grown (grownBy_sorted _) hb3.size (fun k hk=>by cases hk;exact hgB);obtain⟨_,hshape⟩:=own3;rcases hshape with⟨h0,_⟩|⟨g',cap',cur,hv,_,hcell,hn3',hm3,hs3,ht3⟩
 ·exact absurd h0 hnn
 obtain⟨rfl,rfl⟩:g=g'∧cap=cap':=by cases hv;exact⟨rfl,rfl⟩
 rw[hlen3]at hn3';have own4:=ownsRow_sorted (n:=nn) (os:=os) hset hgB hcell hn3' hm3 hs3;rw[←hset]at own4;obtain⟨g',cap',hv',_,hg4,_,_,_,hHold4⟩:=Lib.holds_of_ownsRow own4 (by simp);obtain⟨rfl,rfl⟩:g=g'∧cap=cap':=by cases hv';exact⟨rfl,rfl⟩
 refine wpIn_seq (zJV hl3 ?_);show wpOpsIn _ _ _ _ _ [0,1,2] _ _;simp only[wpOpsIn_cons];refine zvt hF (v:=(.slice (some ⟨g,0,none⟩) (List.map encStr (sa++sb)).length cap)) (by rw[hl3];rfl) (by simp) (fun o ho=>yqQ ho) ?_;show wpOpIn _ _ _ _ _ _ _ ⟨#[va,vb,undef,undef,.slice none 0 0,(.slice (some ⟨g,0,none⟩) (List.map encStr (sa++sb)).length cap),(.slice (some ⟨w.heap.size,0,none⟩) 0 0),va,v8,vb,(.slice (some ⟨g,0,none⟩) (List.map encStr (sa++sb)).length cap),(.slice (some ⟨g,0,none⟩) (List.map encStr (sa++sb)).length cap),.tuple #[],(.slice (some ⟨g,0,none⟩) (List.map encStr (sa++sb)).length cap),undef],[]⟩ _;refine yvh hF (by rw[hl3];rfl) (by simp) (fun o ho=>yJP hec ho) (R:=fun e w'=>e=.returned (.slice (some ⟨g,0,none⟩) (Lib.compact (sorted (sa++sb))).length cap)∧∃q,w'=putRow encStr (Sort.ahead (grow (putRow encStr (Sort.ahead w3 nn) g 0 (sorted (sa++sb)).toArray) os) q) g 0 (Lib.compact (sorted (sa++sb))++List.replicate ((sorted (sa++sb)).length-(Lib.compact (sorted (sa++sb))).length) []).toArray) ?_ ?_
 ·show Calls P fc #[.slice (some ⟨g,0,none⟩) (List.map encStr (sa++sb)).length cap] _ _;rw[←show(sorted (sa++sb)).length=(List.map encStr (sa++sb)).length from hset.trans hlen3.symm];exact hcomp g 0 cap (sorted (sa++sb)) _ hHold4 (by rw[hset,lA];omega) (by rw[hset];exact hn3')
 rintro e' w5 ⟨rfl,q,rfl⟩
 refine⟨_,rfl,?_⟩;show wpOpIn _ _ _ _ _ _ _ ⟨#[va,vb,undef,undef,.slice none 0 0,(.slice (some ⟨g,0,none⟩) (List.map encStr (sa++sb)).length cap),(.slice (some ⟨w.heap.size,0,none⟩) 0 0),va,v8,vb,(.slice (some ⟨g,0,none⟩) (List.map encStr (sa++sb)).length cap),(.slice (some ⟨g,0,none⟩) (List.map encStr (sa++sb)).length cap),.tuple #[],(.slice (some ⟨g,0,none⟩) (List.map encStr (sa++sb)).length cap),(.slice (some ⟨g,0,none⟩) (Lib.compact (sorted (sa++sb))).length cap)],[]⟩ _;refine zvt hF (v:=(.slice (some ⟨g,0,none⟩) (Lib.compact (sorted (sa++sb))).length cap)) (by rw[hl3];rfl) (by simp) (fun o ho=>yjC ho) ?_;refine yx7 ?_;show Code.wpIn _ _ _ _ _ ⟨#[va,vb,undef,undef,(.slice (some ⟨g,0,none⟩) (Lib.compact (sorted (sa++sb))).length cap),(.slice (some ⟨g,0,none⟩) (List.map encStr (sa++sb)).length cap),(.slice (some ⟨w.heap.size,0,none⟩) 0 0),va,v8,vb,(.slice (some ⟨g,0,none⟩) (List.map encStr (sa++sb)).length cap),(.slice (some ⟨g,0,none⟩) (List.map encStr (sa++sb)).length cap),.tuple #[],(.slice (some ⟨g,0,none⟩) (List.map encStr (sa++sb)).length cap),(.slice (some ⟨g,0,none⟩) (Lib.compact (sorted (sa++sb))).length cap)],[]⟩ _;refine wpIn_ret ?_;have hcl:(Lib.compact (sorted (sa++sb))).length≤(sorted (sa++sb)).length:=Lib.compact_length_le _;have hb5:=Lib.below_putRow (enc:=encStr) (q:=q) (d:=(Lib.compact (sorted (sa++sb))++List.replicate ((sorted (sa++sb)).length-(Lib.compact (sorted (sa++sb))).length) []).toArray) hb4 hgB;have own5:=Lib.ownsRow_putRow (q:=q) (ys:=Lib.compact (sorted (sa++sb))++List.replicate ((sorted (sa++sb)).length-(Lib.compact (sorted (sa++sb))).length) []) own4 (by rw[lA,List.length_replicate];omega) hcl;rw[List.take_left' rfl]at own5;generalize hW:putRow encStr (Sort.ahead (grow (putRow encStr (Sort.ahead w3 nn) g 0 (sorted (sa++sb)).toArray) os) q) g 0 (Lib.compact (sorted (sa++sb))++List.replicate ((sorted (sa++sb)).length-(Lib.compact (sorted (sa++sb))).length) []).toArray=w5 at*
 have hcells:=own5.cells (g:=g) rfl;have hsm:∀s∈Lib.compact (sorted (sa++sb)),s.length≤9223372036854775807:=fun s hs=>by
  have:=List.mem_mergeSort.1 (yvK hs);rcases List.mem_append.1 this with h|h
  ·exact hsa s h
  ·exact hsb s h
 have hrep:Rep w5 (fun b o=>S b o∨(b=g∧o<(Lib.compact (sorted (sa++sb))).length)) (.lst ((Lib.compact (sorted (sa++sb))).map fun s=>[.str s])) (.slice (some ⟨g,0,none⟩) (Lib.compact (sorted (sa++sb))).length cap):=by
  have:=zvg (cap:=cap) (b:=g) (one (Lib.compact (sorted (sa++sb)))) (w:=w5) (S:=fun b o=>S b o∨(b=g∧o<(Lib.compact (sorted (sa++sb))).length)) (yzN hsm) (fun j v hj=>?_) (by rw[lM];exact Nat.le_trans hcl (by rw[hset];exact hn3')) hm3
  ·rw[lM]at this;exact this
  ·have hlt:=(List.getElem?_eq_some_iff.1 hj).1;have:=hcells j v hj;rw[addr_add,zA]at this;exact⟨this,.inr ⟨rfl,by simpa using hlt⟩⟩
 have hlb:∀b o,S b o→b<w.heap.size:=fun b o hs=>by obtain⟨v,hv⟩:=hlive b o hs;exact zyu hv
 obtain⟨_,hrow⟩:=own5;rcases hrow with⟨e0,_⟩|⟨g0,cap0,cur,e0,_,hg0,hcap,hmax,hsz,_⟩
 ·cases e0
 ·cases e0;refine yZD (yQf hres) ⟨_,_,rfl,hrep,one _,⟨_,_,_,rfl,.inr ⟨g,rfl,.inl hgB,⟨cur,_,hg0,hsz⟩,hcap,hmax,fun o ho hS=>?_⟩⟩,⟨hb5.os,hb5.tape,hb5.output,hb5.size,fun k hk=>hb5.block k (Nat.lt_of_not_le fun h=>hk (.inl h))⟩,fun b o hs=>⟨.inl hs,hb5.cell (p:=⟨b,o,none⟩) (hlb b o hs)⟩,fun b o hs=>?_,fun b o hs=>?_⟩
  ·rcases hS with hS|⟨_,hS⟩
   ·have:=hlb _ _ hS;omega
   ·omega
  ·rcases hs with hs|⟨rfl,_⟩
   ·exact .inl hs
   ·exact .inr (.inl hgB)
  ·rcases hs with hs|⟨rfl,ho⟩
   ·obtain⟨v,hv⟩:=hlive b o hs;exact⟨v,(hb5.cell (p:=⟨b,o,none⟩) (zyu hv)).trans hv⟩
   ·have:=hcells o (encStr ((Lib.compact (sorted (sa++sb)))[o])) (by rw[List.getElem?_map,List.getElem?_eq_getElem ho];rfl);rw[addr_add,zA]at this;exact⟨_,this⟩
end Go.Abs
end
section
namespace Go.Abs
theorem ltT{x y z:Str}(h:x<y)(h':y<z):x<z:=List.lt_trans h h'
theorem ykz{x y:Str}(h:¬x<y)(h':y≠x):y<x:=Std.lt_of_le_of_ne (List.not_lt.1 h) h'
def hasP(l:List Pred)(p:Pred):Bool:=l.any fun y=>p.same y
theorem yqo{done r l k p}(hl:l=done++k::r)(h:∀y∈done,p.same y=false):hasP l p=if p.same k then true else hasP r p:=by
 subst hl;unfold hasP;rw[List.any_append,List.any_cons];have:done.any (fun y=>p.same y)=false:=by rw[List.any_eq_false];intro y hy;rw[h y hy];simp
 rw[this,Bool.false_or];cases p.same k<;>rfl
theorem ykk{l p}(h:∀y∈l,p.same y=false):hasP l p=false:=by
 unfold hasP;rw[List.any_eq_false];intro y hy;rw[h y hy];simp
def innerP(t:Int):Pred→List Pred→List Pred
 |.mk o s n ks,l=>if o==t&&!hasP (inners ks l) (.mk o s n ks)then inners ks l++[.mk o s n ks]else inners ks l
where
 inners:List Pred→List Pred→List Pred
 |[],l=>l
 |k::ks,l=>inners ks (innerP t k l)
theorem yv2(t)(ks l):innerP.inners t ks l=ks.foldl (fun l k=>innerP t k l) l:=by
 induction ks generalizing l with
 |nil=>rw[innerP.inners];rfl
 |cons k ks ih=>rw[innerP.inners,ih];rfl
theorem zq5(t o)(s:Str)(n)(ks l):innerP t (.mk o s n ks) l=
  if o==t&&!hasP (ks.foldl (fun l k=>innerP t k l) l) (.mk o s n ks)then ks.foldl (fun l k=>innerP t k l) l++[.mk o s n ks]else ks.foldl (fun l k=>innerP t k l) l:=by
 rw[innerP,yv2]
theorem zvn(t):∀ks l,(∀k∈ks,∀l,(innerP t k l).length≤l.length+k.cnt)→(ks.foldl (fun l k=>innerP t k l) l).length≤l.length+Pred.cnts ks
 |[],l,_=>by simp
 |k::ks,l,h=>by rw[List.foldl_cons,Pred.cnts];have h1:=zvn t ks (innerP t k l) fun y hy=>h y (by simp[hy]);have h2:=h k (by simp) l;omega
theorem zk5(t)(p):∀l,(innerP t p l).length≤l.length+p.cnt:=by
 induction p using Pred.ind with
 |h o s n ks ih=>
 intro l;have h:=zvn t ks l ih;rw[zq5,Pred.cnt];split
 ·rw[lA,List.length_singleton];omega
 ·omega
end Go.Abs
end
section
namespace Go.Abs
structure SSol where
 name:Str
 pred:Pred
def SSol.cells(v:SSol):List D:=.str v.name::v.pred.cells
theorem sub_one{x b o}{s:Str}{n ks}:subAll [x] [b] (.mk o s n ks)=if o==3&&s==x then b else .mk o s n (ks.map (subAll [x] [b])):=by
 rw[yWZ];have e:(decide (findIx s 0 [x]≥0)&&decide (findIx s 0 [x]<(([b]:List Pred).length:Int)))=(s==x):=by
  unfold findIx;by_cases h:x=s
  ·subst h;simp
  ·simp only[h,if_false,beq_eq_false_iff_ne.2 (fun e:s=x=>h e.symm)];unfold findIx;rfl
 rw[e];by_cases h:(o==3&&s==x)=true
 ·rw[if_pos h,if_pos h];have hs:s=x:=by simp at h;exact h.2
  subst hs;unfold findIx;simp
 ·rw[if_neg h,if_neg h]
theorem yXZ{l:List Pred}{f}(h:∀k∈l,f k=k):l.map f=l:=by
 induction l with
 |nil=>rfl
 |cons k l ih=>rw[mC,h k (by simp),ih fun y hy=>h y (by simp[hy])]
def Vars:Pred→Prop:=AllN fun q=>q.op=3→q.kids=[]∧q.n=0
theorem sub_self{x}(p)(h:Vars p):subAll [x] [.mk 3 x 0 []] p=p:=by
 induction p using Pred.ind with
 |h o s n ks ih=>
 rw[sub_one];by_cases hc:(o==3&&s==x)=true
 ·rw[if_pos hc];simp at hc;obtain⟨rfl,rfl⟩:=hc;obtain⟨h1,h2⟩:=h.top rfl;simp only[Pred.kids,Pred.n]at h1 h2;rw[h1,h2]
 ·rw[if_neg hc,yXZ fun k hk=>ih k hk (h.kid hk)]
end Go.Abs
end
section
namespace Go.Abs
theorem yj2(a b):Pred.cnts (a++b)=Pred.cnts a+Pred.cnts b:=by
 induction a with
 |nil=>simp[Pred.cnts]
 |cons x a ih=>rw[List.cons_append,Pred.cnts,Pred.cnts,ih];omega
end Go.Abs
end
section
namespace Go.Abs
variable{E:AEnv}(Z:Sys E)
include Z
theorem yjd(l)(p):E.C zyO [.one (.lst (l.map Pred.cells)),.agg p.cells,.one (.clo zyc [])] (.one (.bool (hasP l p))):=by
 have hs:=zy7 Z p;refine Z.zyO _ _ ⟨b0l rfl,?_⟩;generalize hR:hasP l p=R;obtain⟨o,s,n,ks⟩:=p;rw[Pred.zzb (.mk o s n ks)]at*
 simp only[zvX,go_sem,Pred.op,Pred.name,Pred.n,Pred.kids]at hs⊢;intro hlen;refine zzg l (fun done=>∀y∈done,(Pred.mk o s n ks).same y=false) (fun done rest=>⟨[(11,.d (.int .i64 done.length)),(10,.d (.int .i64 l.length)),(9,.d (.lst (l.map Pred.cells))),(4,.ptr 4 0),(2,.d (.clo zyc []))],[(4,[.d (.int .i64 o),.d (.str s),.d (.int .i64 n),.d (.lst (ks.map Pred.cells))])],[]⟩) ?_ (by simp) ?_ ?_
 ·exact zze (by simp only[go_sem,oS])
 ·intro done k r hl hI;have hlt:=zzn hl;have hw:IntKind.i64.wrap ((done.length:Int)+1)=((done.length+1:Nat):Int):=zzf (by omega);rw[yqo hl hI]at hR;simp only[zxI,go_sem,hlt,zzz hl,lM,zja];refine zza (hs k) ?_;cases c0:(Pred.mk o s n ks).same k with
  |true=>simp only[c0,go_sem]at hR⊢;exact hR
  |false=>simp only[go_sem,hw,lA];exact⟨zze (by simp only[go_sem,oS]),zzY hI c0⟩
 ·intro hI;rw[ykk hI]at hR;simp only[zxI,go_sem,←hR]
theorem zKD(t)(p)(hp:Tame p):∀l:List Pred,l.length+p.cnt≤1073741824→E.C zkn [.agg p.cells,.one (.int .i64 t),.one (.lst (l.map Pred.cells))] (.own (some 2) 4 ((innerP t p l).map Pred.cells)):=by
 induction p using Pred.ind with
 |h o s n ks ih=>
 intro l hn;have hcp:=zX6 Z _ hp;have hhas:=fun l=>yjd Z l (.mk o s n ks);refine Z.zkn _ _ ⟨b0l rfl,?_⟩;have hlenK:=zvn t;generalize hR:innerP t (.mk o s n ks) l=R;rw[zq5]at hR;rw[Pred.cnt]at hn;rw[Pred.zzb (.mk o s n ks)]at*
 have hrs:zZx.rs=[.t 6]:=rfl;simp only[zZx,go_sem,Pred.op,Pred.name,Pred.n,Pred.kids]at hcp hhas⊢;intro hlen;refine zyb fun K' hK=>?_;refine zzg ks (fun _=>True) (fun done rest=>⟨[(12,.d (.int .i64 done.length)),(11,.d (.int .i64 ks.length)),(10,.d (.lst (ks.map Pred.cells))),(1,.d (.int .i64 t)),(2,.own 2 4 ((done.foldl (fun l k=>innerP t k l) l).map Pred.cells)),(3,.ptr 3 0)],[(3,[.d (.int .i64 o),.d (.str s),.d (.int .i64 n),.d (.lst (ks.map Pred.cells))])],[(2,true)]⟩) ?_ trivial ?_ ?_
 ·exact zzk [(2,2)] (by simp only[go_sem,cN,oS,List.foldl_nil])
 ·intro done k r hl _;have hk':=ih k (by rw[hl];simp) (hp.kid (by rw[hl];simp)) (done.foldl (fun l k=>innerP t k l) l) (by
   have h1:=hlenK done l fun k _ l=>zk5 t k l;have h2:Pred.cnts ks=Pred.cnts done+(k.cnt+Pred.cnts r):=by rw[hl,yj2,Pred.cnts]
   omega)
  have hlt:=zzn hl;have hw:IntKind.i64.wrap ((done.length:Int)+1)=((done.length+1:Nat):Int):=zzf (by omega);simp only[zvS,go_sem,hlt,zzz hl,lM,zja];refine zza hk' ?_;simp only[go_sem,hw,lA];refine zzk [(2,19)] ?_;simp only[go_sem,cN,oS,List.foldl_append,List.foldl_cons,List.foldl_nil]
 ·intro _;have h1:=hlenK ks l fun k _ l=>zk5 t k l;generalize ks.foldl (fun l k=>innerP t k l) l=m at*
  simp only[zvS,go_sem,hK];cases c0:(o==t)with
  |false=>simp only[c0,go_sem]at hR⊢;refine⟨.one (.bool false),?_⟩;simp only[go_sem,hrs,hR]
  |true=>
   simp only[c0,go_sem]at hR⊢;refine zza (hhas m) ?_;simp only[go_sem];cases c1:hasP m (.mk o s n ks)with
   |true=>simp only[c1,go_sem]at hR⊢;simp only[hrs,hR,go_sem]
   |false=>
    simp only[c1,go_sem]at hR⊢;refine zza hcp ?_;have ha:(m.length+1)*56≤2^46:=by omega
    simp only[go_sem,lM,Pred.zyR,ha];refine⟨⟨by simp,by omega⟩,?_⟩;rw[←hR];simp only[hrs,go_sem,mA,mC,mN,Pred.zzb (.mk o s n ks),Pred.op,Pred.name,Pred.n,Pred.kids]
end Go.Abs
end
section
namespace Go.Abs
variable{E:AEnv}(Z:Sys E)
include Z
theorem zY2(p)(hp:Tame p)(hn:p.cnt≤1073741824):E.C zwS [.agg p.cells] (.one (.lst ((innerP 4 p []).map Pred.cells))):=by
 have h:=zKD Z 4 p hp [] (by simpa using hn);refine Z.zwS _ _ ⟨b0l rfl,?_⟩;generalize innerP 4 p []=R at*
 rw[Pred.zzb p]at*
 simp only[zVT,go_sem];refine zza h ?_;simp only[go_sem,List.not_mem_nil,false_implies,implies_true]
theorem yx9(p)(hp:Tame p)(hn:p.cnt≤1073741824):E.C zji [.agg p.cells] (.one (.lst ((innerP 5 p []).map Pred.cells))):=by
 have h:=zKD Z 5 p hp [] (by simpa using hn);refine Z.zji _ _ ⟨b0l rfl,?_⟩;generalize innerP 5 p []=R at*
 rw[Pred.zzb p]at*
 simp only[zKf,go_sem];refine zza h ?_;simp only[go_sem,List.not_mem_nil,false_implies,implies_true]
end Go.Abs
end
section
namespace Go.Abs
theorem SSol.lens(l:List SSol):(∀e∈l.map SSol.cells,e.length=5)=True:=zvp (f:=SSol.cells) (fun s=>by simp[SSol.cells,Pred.zzh]) l
attribute [go_sem] SSol.lens
variable{E:AEnv}(Z:Sys E)
include Z
end Go.Abs
end
section
namespace Go.Abs
theorem and_false{l done r k}(hl:l=done++k::r)(hk:k.same falseP=true):andP l=falseP:=by
 unfold andP;have:l.any isFalse=true:=by rw[hl,List.any_append,List.any_cons,zVb,hk];simp
 rw[if_pos this]
end Go.Abs
end
