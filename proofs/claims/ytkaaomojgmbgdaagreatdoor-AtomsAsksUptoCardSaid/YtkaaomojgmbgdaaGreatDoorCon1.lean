/-
  CONTRACTS: what the functions answer, as plain Lean functions, each by evaluation at the abstract machine.
-/
import Derived.KernelRfl
import Derived.Lib.ItoaLen
import Derived.Test.YtkaaomojgmbgdaaGreatDoorFns
set_option linter.unusedSimpArgs false
set_option linter.unusedVariables false
set_option linter.unusedSectionVars false
set_option maxRecDepth 100000
section
namespace Go.Abs
namespace Pred
mutual
def nodes:Pred→Int
 |.mk _ _ _ ks=>jJ 1 ks
def jJ(a:Int):List Pred→Int
 |[]=>a
 |k::ks=>jJ (IntKind.i64.wrap (a+nodes k)) ks
end
theorem yX7(a)(ks):jJ a ks=ks.foldl (fun a k=>IntKind.i64.wrap (a+nodes k)) a:=by
 induction ks generalizing a with
 |nil=>simp[jJ]
 |cons k ks ih=>simp[jJ,ih]
theorem Zn(p):nodes p=p.kids.foldl (fun a k=>IntKind.i64.wrap (a+nodes k)) 1:=by cases p;simp[nodes,kids,yX7]
end Pred
theorem ywa{E}(Z:Sys E)(p):E.C Hp [.agg (Pred.cells p)] (.one (.int .i64 p.nodes)):=by
 induction p using Pred.ind with
 |h o s n ks ih=>
 refine Z.Hp _ _ ⟨bn rfl,?_⟩;rw[Pred.bm,Pred.Zn];simp only[zKg,go_sem,Pred.kids];intro hlen;refine gU ks (fun _=>True) (fun done rest=>⟨[(9,.d (.int .i64 done.length)),(8,.d (.int .i64 (ks.map Pred.cells).length)),(7,.d (.aw (ks.map Pred.cells))),(3,.d (.int .i64 (done.foldl (fun a k=>IntKind.i64.wrap (a+Pred.nodes k)) 1)))],[],[]⟩) ?_ trivial ?_ ?_
 ·exact dG (by simp only[go_sem,nZ,List.foldl_nil])
 ·intro done k r hl _;have fR:=ih k (by rw[hl];simp);have bf:=gw hl;have hw:IntKind.i64.wrap ((done.length:Int)+1)=((done.length+1:Nat):Int):=gn (by omega);have hx:(ks.map Pred.cells).getD done.length []=Pred.cells k:=by rw[hl];exact Gt _ _ _ _ _
  simp only[Uu,go_sem,bf,hx];refine aR fR ?_;simp only[go_sem,hw,lA,List.foldl_append,List.foldl_cons,List.foldl_nil];exact dG (by simp only[go_sem])
 ·simp only[Uu,go_sem,forall_const]
end Go.Abs
end
section
namespace Go.Abs
def isSmall(n:Int):Bool:=decide (97≤n)&&decide (n≤122)
def dX(n:Int):Bool:=decide (65≤n)&&decide (n≤90)
def isDigit(n:Int):Bool:=decide (48≤n)&&decide (n≤57)
def cY(s:List UInt8):Bool:=decide ((s.length:Int)≥1)&&decide ((s.length:Int)≤24)
def cutAt:List UInt8→List UInt8×List UInt8×Bool
 |[]=>([],[],false)
 |c::s=>if c.toNat=46 then([],s,true)else(c::(cutAt s).1,(cutAt s).2.1,(cutAt s).2.2)
theorem YM:∀{s},(∀c∈s,c.toNat≠46)→cutAt s=(s,[],false)
 |[],_=>rfl
 |c::s,h=>by simp[cutAt,h c (by simp),YM (s:=s) fun x hx=>h x (by simp[hx])]
theorem YL:∀{a} {c} {b},(∀c∈a,c.toNat≠46)→c.toNat=46→cutAt (a++c::b)=(a,b,true)
 |[],c,b,_,hc=>by simp[cutAt,hc]
 |x::a,c,b,h,hc=>by simp[cutAt,h x (by simp),YL (a:=a) (fun x hx=>h x (by simp[hx])) hc]
def fy(n:Int):Bool:=!(!isSmall n&&!dX n&&!isDigit n)
variable{E:ax}(Z:Sys E)
include Z
theorem Ox(n):E.C D5 [.one (.int .u8 n)] (.one (.bool (isSmall n))):=by refine Z.D5 _ _ ⟨bn rfl,?_⟩;simp only[zXU,go_sem,isSmall]
theorem zYi(n):E.C Hu [.one (.int .u8 n)] (.one (.bool (dX n))):=by refine Z.Hu _ _ ⟨bn rfl,?_⟩;simp only[zZ9,go_sem,dX]
theorem Ug(n):E.C F4 [.one (.int .u8 n)] (.one (.bool (isDigit n))):=by refine Z.F4 _ _ ⟨bn rfl,?_⟩;simp only[zXS,go_sem,isDigit]
theorem Uh(s):E.C F5 [.one (.str s)] (.one (.bool (cY s))):=by refine Z.F5 _ _ ⟨bn rfl,?_⟩;simp only[zXT,go_sem,cY]
theorem zJh(s):E.C Hd [.one (.str s)] (.tup [.one (.str (cutAt s).1),.one (.str (cutAt s).2.1),.one (.bool (cutAt s).2.2)]):=by
 refine Z.Hd _ _ ⟨bn rfl,?_⟩;simp only[zVS,go_sem];refine gU s (fun done=>∀c∈done,c.toNat≠46) (fun done rest=>⟨[(0,.d (.str s)),(5,.d (.int .i64 done.length))],[],[]⟩) ?_ (by simp) ?_ ?_
 ·exact dG (by simp only[go_sem,nZ])
 ·intro done c r hl hI;have bf:=gw hl;have hx:s.getD done.length 0=c:=KC _ _ _ _ hl;simp only[T9,go_sem,bf,hx];intro hlen;have hw:IntKind.i64.wrap ((done.length:Int)+1)=((done.length+1:Nat):Int):=gn (by omega);by_cases hc:c.toNat=46
  ·have h1:(((c.toNat:Nat):Int)==46)=true:=by simp[hc]
   simp only[go_sem,h1,hw];rw[hl,YL hI hc];simp;omega
  ·have h1:(((c.toNat:Nat):Int)==46)=false:=by simp;omega
   simp only[go_sem,h1,hw,lA];refine⟨dG (by simp only[go_sem]),?_⟩;intro x hx;rcases List.mem_append.1 hx with hx|hx
   ·exact hI x hx
   ·simp at hx;subst hx;exact hc
 ·intro hI;simp only[T9,go_sem,YM hI]
theorem zvC(s):E.C HF [.one (.str s)] (.one (.bool (s.all fun c=>fy c.toNat))):=by
 refine Z.HF _ _ ⟨bn rfl,?_⟩;simp only[zvx,go_sem];refine gU s (fun done=>done.all (fun c=>fy c.toNat)=true) (fun done rest=>⟨[(0,.d (.str s)),(3,.d (.int .i64 done.length))],[],[]⟩) ?_ (by simp) ?_ ?_
 ·exact dG (by simp only[go_sem,nZ])
 ·intro done c r hl hI;have bf:=gw hl;have hx:s.getD done.length 0=c:=KC _ _ _ _ hl;simp only[UR,go_sem,bf,hx];intro hlen;have hw:IntKind.i64.wrap ((done.length:Int)+1)=((done.length+1:Nat):Int):=gn (by omega);refine aR (Ox Z _) ?_;simp only[go_sem,hw,bf,hx];refine yh (zYi Z _) ?_;simp only[go_sem,hw,bf,hx];refine yh (Ug Z _) ?_;simp only[go_sem,hw,bf,hx];cases h1:(!isSmall c.toNat&&!dX c.toNat&&!isDigit c.toNat)with
  |false=>
   have hc:fy c.toNat=true:=by rw[fy,h1];rfl
   simp only[go_sem,h1,hw,lA,List.all_append,List.all_cons,List.all_nil,hI,hc];exact dG (by simp only[go_sem])
  |true=>
   have hc:fy c.toNat=false:=by rw[fy,h1];rfl
   simp only[go_sem,h1,hl,List.all_append,List.all_cons,hc,Bool.false_and,Bool.and_false]
 ·intro hI;simp only[UR,go_sem,hI]
end Go.Abs
end
section
namespace Go.Abs
def scan(bad:Nat→Int→Bool):Nat→List UInt8→Bool
 |_,[]=>true
 |i,c::s=>!bad i c.toNat&&scan bad (i+1) s
theorem Hc(bad):∀(a) (i) (b),scan bad i (a++b)=(scan bad i a&&scan bad (i+a.length) b)
 |[],i,b=>by simp[scan]
 |c::a,i,b=>by simp only[List.cons_append,scan,Hc bad a,lC,Bool.and_assoc];congr 3;omega
def gG(i:Nat)(n:Int):Bool:=!isSmall n&&((i:Int)==0||(!isDigit n&&n !=95))
def fU(_:Nat)(n:Int):Bool:=!isSmall n&&!isDigit n&&n !=95
def oR:List (List UInt8):=[[97,110,100],[97,115,115,117,109,101],[98,111,111,108],[98,111,117,110,100],[99,97,115,101],[99,101,108,108],[99,108,97,115,115],[100,97,116,97],[100,101,102],[100,105,118],[101,108,115,101],[101,110,100],[102,97,108,115,101],[102,111,114,97,108,108],[102,117,110],[103,101,116],[105,102],[105,110],[105,110,115,116],[105,110,116],[105,110,118,97,114,105,97,110,116],[108,101,116],[109,97,116,99,104],[109,101,97,115,117,114,101],[109,101,116,114,105,99],[109,111,100],[109,117],[110,101,119],[110,111,116],[111,102],[111,114],[113,117,97,108],[114,101,102,108,101,99,116],[115,101,116],[116,104,101,110],[116,114,117,101],[117,115,101],[118],[118,97,108],[116,97,103],[119,104,101,114,101],[119,105,116,104]]
def isName(s:List UInt8):Bool:=cY s&&isSmall (s.getD 0 0).toNat&&!oR.contains s&&scan fU 1 (s.drop 1)
def cG(s:List UInt8):Bool:=cY s&&dX (s.getD 0 0).toNat&&(s.all fun c=>fy c.toNat)&&(s !=[73,110,116]&&s !=[66,111,111,108]&&s !=[67,101,108,108]&&s !=[70,117,110])
variable{E:ax}(Z:Sys E)
include Z
theorem yx5(s):E.C KI [.one (.str s)] (.one (.bool (scan gG 0 s))):=by
 refine Z.KI _ _ ⟨bn rfl,?_⟩;simp only[zKb,go_sem];refine gU s (fun done=>scan gG 0 done=true) (fun done rest=>⟨[(0,.d (.str s)),(3,.d (.int .i64 done.length))],[],[]⟩) ?_ rfl ?_ ?_
 ·exact dG (by simp only[go_sem,nZ])
 ·intro done c r hl hI;have bf:=gw hl;have hx:s.getD done.length 0=c:=KC _ _ _ _ hl;simp only[Us,go_sem,bf,hx];intro hlen;have hw:IntKind.i64.wrap ((done.length:Int)+1)=((done.length+1:Nat):Int):=gn (by omega);refine aR (Ox Z _) ?_;simp only[go_sem,hw,bf,hx];refine yh (Ug Z _) ?_;simp only[go_sem,hw,bf,hx];cases h1:gG done.length c.toNat with
  |false=>have h2:=h1;rw[gG]at h2;simp only[go_sem,h2,hw,lA,Hc,scan,hI,h1,zA,Bool.not_false];refine⟨?_,?_,dG (by simp only[go_sem])⟩<;>(cases isSmall (c.toNat:Int)<;>cases isDigit (c.toNat:Int)<;>cases((done.length:Int)==0)<;>simp)
  |true=>have h2:=h1;rw[gG]at h2;simp only[go_sem,h2,hl,Hc,scan,h1,zA,Bool.not_true,Bool.false_and,Bool.and_false];refine⟨?_,?_⟩<;>(cases isSmall (c.toNat:Int)<;>cases isDigit (c.toNat:Int)<;>cases((done.length:Int)==0)<;>simp)
 ·intro hI;simp only[Us,go_sem,hI]
theorem zJv(hG:E.G 2=some (oR.map .str))(s):E.C Le [.one (.str s)] (.one (.bool (oR.contains s))):=by
 refine Z.Le _ _ ⟨bn rfl,?_⟩;have h1:(oR.map D.str).take 42=oR.map D.str:=rfl;have h2:42≤oR.length:=bn rfl;simp only[zZ8,go_sem,hG,h1];refine⟨h2,?_⟩;refine gU oR (fun done=>done.contains s=false) (fun done rest=>⟨[(0,.d (.str s)),(6,.d (.int .i64 done.length)),(5,.agg ((oR.map .str).map .d))],[],[]⟩) ?_ rfl ?_ ?_
 ·exact dG (by simp only[go_sem,nZ])
 ·intro done c r hl hI;have bf:(done.length:Int)<42:=gw hl;have hx:((oR.map D.str).map AV.d).getD done.length .undef=.d (.str c):=by rw[hl];simp
  have iC:(done.length:Int)<oR.length:=gw hl;have hw:IntKind.i64.wrap ((done.length:Int)+1)=((done.length+1:Nat):Int):=gn (by omega);simp only[UC,go_sem,bf,hx,iC,hw];cases h1:(c==s)with
  |false=>
   simp only[go_sem,h1,hw,lA];refine⟨bf,dG (by simp only[go_sem]),?_⟩;have h1:(s==c)=false:=by rw[←h1];exact BEq.comm
   simp only[List.contains_eq_any_beq,List.any_append,List.any_cons,List.any_nil,Bool.or_false]at hI⊢;rw[hI,h1];rfl
  |true=>
   simp only[go_sem,h1];refine⟨bf,?_⟩;have h1:c=s:=by simpa using h1
   subst h1;rw[hl];simp
 ·intro hI;have bf:(decide ((oR.length:Int)<42))=false:=rfl;simp only[UC,go_sem,hI,bf]
end Go.Abs
end
section
namespace Go.Abs
theorem zQS{s}(h:cY s=true):0<s.length:=by
 simp only[cY,Bool.and_eq_true,decide_eq_true_eq]at h;omega
variable{E:ax}(Z:Sys E)
include Z
theorem yx4(hG:E.G 2=some (oR.map .str))(s):E.C KH [.one (.str s)] (.one (.bool (isName s))):=by
 refine Z.KH _ _ ⟨bn rfl,?_⟩;simp only[zKa,go_sem];refine aR (Uh Z s) ?_;cases h0:cY s with
 |false=>
  have hr:isName s=false:=by simp[isName,h0]
  simp only[go_sem,hr];refine⟨.one (.bool false),?_⟩;simp only[go_sem,hr];refine⟨.one (.bool false),?_⟩;simp only[go_sem,hr]
 |true=>
  have ow:=zQS h0;have sA:((0:Int)<s.length)=True:=eq_true (by omega);simp only[go_sem,sA,Bool.not_true,Int.toNat_zero];refine aR (Ox Z _) ?_;cases h1:isSmall (s.getD 0 0).toNat with
  |false=>
   have hr:isName s=false:=by simp only[isName,h0,h1];rfl
   simp only[go_sem,hr,Bool.not_false,Bool.not_true];refine⟨.one (.bool false),?_⟩;simp only[go_sem,hr,Bool.not_false,Bool.not_true,Bool.or_true,Bool.or_false,Bool.or_self]
  |true=>
   simp only[go_sem,Bool.not_false,Bool.not_true,Bool.or_self];refine aR (zJv Z hG s) ?_;cases h2:oR.contains s with
   |true=>
    have hr:isName s=false:=by simp only[isName,h0,h1,h2];rfl
    simp only[go_sem,hr,Bool.not_false,Bool.not_true,Bool.or_true,Bool.or_false,Bool.or_self,Bool.false_or]
   |false=>
    have hr:isName s=scan fU 1 (s.drop 1):=by simp only[isName,h0,h1,h2];rfl
    obtain⟨c0,t,rfl⟩:∃c0 t,s=c0::t:=by cases s with|nil=>simp at ow|cons c t=>exact⟨c,t,rfl⟩
    simp only[go_sem,hr,Bool.not_false,Bool.not_true,Bool.or_true,Bool.or_false,Bool.or_self];refine gU t (fun done=>scan fU 1 done=true) (fun done rest=>⟨[(0,.d (.str (c0::t))),(3,.d (.int .i64 (1+done.length:Nat)))],[],[]⟩) ?_ rfl ?_ ?_
    ·exact dG (by simp only[go_sem,Nat.add_zero];trivial)
    ·intro done c r hl hI;have bf:(((1+done.length:Nat):Int)<((t.length+1:Nat):Int))=True:=eq_true (by rw[hl];simp;omega);have hx:(c0::t).getD (1+done.length) 0=c:=by rw[hl,Nat.add_comm];simp
     simp only[Ur,go_sem,bf,hx];intro hlen;have hw:IntKind.i64.wrap (((1+done.length:Nat):Int)+1)=((1+done.length+1:Nat):Int):=gn (by simp only[eq_iff_iff,iff_true]at bf;omega);refine aR (Ox Z _) ?_;simp only[go_sem,hw,bf,hx];refine yh (Ug Z _) ?_;simp only[go_sem,hw,bf,hx];cases h1:fU (1+done.length) c.toNat with
     |false=>have h2:=h1;rw[fU]at h2;simp only[go_sem,h2,hw,lA,Hc,scan,hI,h1,Bool.not_false];exact dG (by simp only[go_sem,Nat.add_assoc])
     |true=>have h2:=h1;rw[fU]at h2;simp only[go_sem,h2,hl,Hc,scan,h1,Bool.not_true,Bool.false_and,Bool.and_false]
    ·intro hI;have qt:decide (((1+t.length:Nat):Int)<((t.length+1:Nat):Int))=false:=by rw[Nat.add_comm];simp
     simp only[Ur,go_sem,qt,List.drop_succ_cons,hI]
theorem yzV(s):E.C KP [.one (.str s)] (.one (.bool (cG s))):=by
 refine Z.KP _ _ ⟨bn rfl,?_⟩;simp only[zXV,go_sem];refine aR (Uh Z s) ?_;cases h0:cY s with
 |false=>
  have hr:cG s=false:=by simp[cG,h0]
  simp only[go_sem,hr];refine⟨.one (.bool false),?_⟩;simp only[go_sem,hr];refine⟨.one (.bool false),?_⟩;simp only[go_sem,hr]
 |true=>
  have ow:=zQS h0;have sA:((0:Int)<s.length)=True:=eq_true (by omega);simp only[go_sem,sA,Int.toNat_zero];refine aR (zYi Z _) ?_;cases h1:dX (s.getD 0 0).toNat with
  |false=>
   have hr:cG s=false:=by simp only[cG,h0,h1];rfl
   simp only[go_sem,hr];refine⟨.one (.bool false),?_⟩;simp only[go_sem,hr]
  |true=>
   simp only[go_sem];refine aR (zvC Z s) ?_;cases h2:(s.all fun c=>fy c.toNat)with
   |false=>
    have hr:cG s=false:=by simp only[cG,h0,h1,h2];rfl
    simp only[go_sem,hr]
   |true=>simp only[go_sem,cG,h0,h1,h2,bne]
end Go.Abs
end
section
namespace Go.Abs
def gR(s:List UInt8):Bool:=!(!cY s||(!(s.all fun c=>fy c.toNat)&&!scan gG 0 s))
theorem H3:∀s,(cutAt s).2.2=true→(cutAt s).2.1.length<s.length
 |[],h=>by simp[cutAt]at h
 |c::s,h=>by
  simp only[cutAt]at h⊢;split
  ·simp
  ·rename_i hc;rw[if_neg hc]at h;have:=H3 s h;simp only[lC];omega
def parts(s:List UInt8):Bool:=if h:(cutAt s).2.2=true then gR (cutAt s).1&&parts (cutAt s).2.1 else gR (cutAt s).1
termination_by s.length
decreasing_by exact H3 s h
def dO(s:List UInt8):Bool:=
 !decide ((s.length:Int)>120)&&(!(!isName (cutAt s).1&&!cG (cutAt s).1&&((cutAt s).1 !=[118]||!(cutAt s).2.2)))&&(if(cutAt s).2.2 then parts (cutAt s).2.1 else true)
variable{E:ax}(Z:Sys E)
include Z
theorem yx3(hG:E.G 2=some (oR.map .str))(s):E.C KG [.one (.str s)] (.one (.int .i64 (if dO s then 0 else 3))):=by
 refine Z.KG _ _ ⟨bn rfl,?_⟩;simp only[zW9,go_sem];intro hlen;cases h0:decide ((s.length:Int)>120)with
 |true=>simp only[go_sem,dO,h0]
 |false=>
  simp only[go_sem,dO,h0];refine aR (zJh Z s) ?_;have vT:=H3 s;revert vT;generalize cutAt s=cc;obtain⟨a,b,m⟩:=cc;intro vT;simp only[go_sem];refine aR (yx4 Z hG a) ?_;simp only[go_sem];refine yh (yzV Z a) ?_;simp only[go_sem];have ob:∀(p q x y:Bool),((p&&q)=true→(p=true∧(!x&&y)=true)→(p&&q)=true):=by simp
  cases h1:(!isName a&&!cG a&&(a !=[118]||!m))with
  |true=>rw[bne]at h1;simp only[go_sem,h1];cases isName a<;>cases cG a<;>cases(a==[118])<;>simp
  |false=>
   rw[bne]at h1;simp only[go_sem,h1];refine⟨?_,?_⟩
   ·cases isName a<;>cases cG a<;>cases(a==[118])<;>simp
   generalize hR:(if m=true then parts b else true)=R;refine LK (fun x:List UInt8×Bool=>⟨[(4,.d (.str x.1)),(5,.d (.bool x.2))],[],[]⟩) (fun x=>R=(if x.2=true then parts x.1 else true)) (fun x=>if x.2=true then x.1.length+1 else 0) (b,m) ?_ hR.symm ?_
   ·exact dG (by simp only[go_sem])
   ·rintro⟨b',m'⟩ hI
    cases m' with
    |false=>simp only[Uq,go_sem];simp only[Bool.false_eq_true,if_false]at hI;simp only[hI,if_true]
    |true=>
     simp only[if_true]at hI;rw[parts]at hI;simp only[Uq,go_sem];refine aR (zJh Z b') ?_;have vT:=H3 b';revert vT hI;generalize cutAt b'=cc;obtain⟨a1,b1,m1⟩:=cc;intro hI vT;simp only at hI vT;simp only[go_sem];refine aR (Uh Z a1) ?_;simp only[go_sem];refine yh (zvC Z a1) ?_;simp only[go_sem];refine yh (yx5 Z a1) ?_;simp only[go_sem];cases h1:(!cY a1||(!(a1.all fun c=>fy c.toNat)&&!scan gG 0 a1))with
     |true=>
      have h2:gR a1=false:=by rw[gR,h1];rfl
      have h3:R=false:=by rw[hI,h2];simp
      simp only[go_sem,h1,h3];cases cY a1<;>cases(a1.all fun c=>fy c.toNat)<;>simp
     |false=>
      have h2:gR a1=true:=by rw[gR,h1];rfl
      simp only[go_sem,h1];refine⟨?_,?_,(b1,m1),dG (by simp only[go_sem]),?_,?_⟩
      ·cases cY a1<;>cases(a1.all fun c=>fy c.toNat)<;>simp
      ·cases cY a1<;>cases(a1.all fun c=>fy c.toNat)<;>simp
      ·rw[hI,h2];cases m1<;>simp
      ·cases m1 with
       |false=>simp
       |true=>have:=vT rfl;simp;omega
end Go.Abs
end
section
namespace Go.Abs
def fj(s:List UInt8):Nat→List (List UInt8)→Int
 |_,[]=> -1
 |i,x::l=>if x=s then i else fj s (i+1) l
theorem zQi(s):∀(l) (i),s∉l→fj s i l= -1
 |[],_,_=>rfl
 |x::l,i,h=>by simp only[List.mem_cons,not_or]at h;rw[fj,if_neg (fun e=>h.1 e.symm),zQi s l (i+1) h.2]
theorem yye(s):∀(a) (i) (b),s∉a→fj s i (a++b)=fj s (i+a.length) b
 |[],i,b,_=>by simp
 |x::a,i,b,h=>by simp only[List.mem_cons,not_or]at h;rw[List.cons_append,fj,if_neg (fun e=>h.1 e.symm),yye s a (i+1) b h.2,lC];congr 1;omega
theorem yyf(s):∀(l) (i),decide (fj s i l≥0)=l.contains s
 |[],i=>by simp[fj]
 |x::l,i=>by
  rw[fj];by_cases h:x=s
  ·subst h;simp
  ·have h':(s==x)=false:=by simpa using fun e=>h e.symm
   rw[if_neg h,yyf s l (i+1),List.contains_cons,h',Bool.false_or]
def bG(n:Int):Bool:=n==3||n==4||n==5
def aq(n:Int):Bool:=decide (n≥-1000000000000)&&decide (n≤1000000000000)
variable{E:ax}(Z:Sys E)
include Z
theorem V1(n):E.C LQ [.one (.int .u8 n)] (.one (.bool (isSmall n))):=by refine Z.LQ _ _ ⟨bn rfl,?_⟩;simp only[zV3,go_sem,isSmall,ge_iff_le]
theorem zqG(n):E.C UI [.one (.int .u8 n)] (.one (.bool (dX n))):=by refine Z.UI _ _ ⟨bn rfl,?_⟩;simp only[zX0,go_sem,dX,ge_iff_le]
theorem zqb(n):E.C Pd [.one (.int .u8 n)] (.one (.bool (isDigit n))):=by refine Z.Pd _ _ ⟨bn rfl,?_⟩;simp only[zV1,go_sem,isDigit,ge_iff_le]
theorem yu(n):E.C vo [.one (.int .i64 n)] (.one (.bool (aq n))):=by refine Z.vo _ _ ⟨bn rfl,?_⟩;simp only[ZU,go_sem,aq]
theorem zjJ(n):E.C NZ [.one (.int .i64 n)] (.one (.bool (aq n))):=by refine Z.NZ _ _ ⟨bn rfl,?_⟩;simp only[yw5,go_sem,aq]
theorem zKE(n):E.C Hq [.one (.int .i64 n)] (.one (.bool (bG n))):=by refine Z.Hq _ _ ⟨bn rfl,?_⟩;simp only[zKh,go_sem,bG];cases(n==3)<;>cases(n==4)<;>simp
theorem ykY(n):E.C zZg [.one (.int .i64 n)] (.one (.bool (bG n))):=by refine Z.zZg _ _ ⟨bn rfl,?_⟩;simp only[zV9,go_sem,bG];cases(n==3)<;>cases(n==4)<;>simp
theorem yjh(l)(s):E.C zXw [.one (.aw (l.map fun k=>[.str k])),.one (.str s)] (.one (.int .i64 (fj s 0 l))):=by
 refine Z.zXw _ _ ⟨bn rfl,?_⟩;simp only[zQp,go_sem];intro hlen;refine gU l (fun done=>s∉done) (fun done rest=>⟨[(8,.d (.int .i64 done.length)),(7,.d (.int .i64 l.length)),(0,.d (.aw (l.map fun k=>[.str k]))),(1,.d (.str s))],[],[]⟩) ?_ (by simp) ?_ ?_
 ·exact dG (by simp only[go_sem,nZ])
 ·intro done k r hl hI;have bf:=gw hl;have hw:IntKind.i64.wrap ((done.length:Int)+1)=((done.length+1:Nat):Int):=gn (by omega);have hx:(l.map fun k=>[D.str k]).getD done.length []=[.str k]:=by rw[hl];exact Gt _ _ _ _ _
  have GQ:(∀e∈l.map fun k=>[D.str k],e.length=1)=True:=eq_true (by simp);simp only[zqh,go_sem,bf,hx,GQ];cases h1:(k==s)with
  |true=>
   simp only[go_sem];have h1:k=s:=by simpa using h1
   rw[hl,yye s done 0 _ hI,fj,if_pos h1,zA]
  |false=>
   simp only[go_sem,hw,lA];refine⟨dG (by simp only[go_sem]),?_⟩;have h1:k≠s:=by simpa using h1
   simp only[List.mem_append,List.mem_singleton,not_or];exact⟨hI,fun e=>h1 e.symm⟩
 ·intro hI;simp only[zqh,go_sem,zQi s l 0 hI]
theorem yzm:E.C zkp [] (.one (.aw (oR.map fun k=>[.str k]))):=by refine Z.zkp _ _ ⟨bn rfl,?_⟩;simp only[zYF,go_sem,oR]
theorem yzW(s):E.C zve [.one (.str s)] (.one (.bool (oR.contains s))):=by refine Z.zve _ _ ⟨bn rfl,?_⟩;simp only[zXZ,go_sem];refine aR (yzm Z) ?_;simp only[go_sem];refine aR (yjh Z oR s) ?_;simp only[go_sem,yyf]
end Go.Abs
end
section
namespace Go.Abs
namespace Pred
mutual
def depth:Pred→Int
 |.mk _ _ _ ks=>IntKind.i64.wrap (lZ 0 ks+1)
def lZ(a:Int):List Pred→Int
 |[]=>a
 |k::ks=>lZ (if depth k>a then depth k else a) ks
end
theorem yYZ(a)(ks):lZ a ks=ks.foldl (fun a k=>if depth k>a then depth k else a) a:=by
 induction ks generalizing a with
 |nil=>simp[lZ]
 |cons k ks ih=>simp[lZ,ih]
theorem yj5(p):depth p=IntKind.i64.wrap (p.kids.foldl (fun a k=>if depth k>a then depth k else a) 0+1):=by cases p;simp[depth,kids,yYZ]
end Pred
def iq(n:Int):Int×Int:=if n==1||n==2||n==3 then(0,0)else if n==4||n==5 then(1,24)else if n==9||n==14 then(1,1)else(2,2)
def bN(n m:Int):Bool:=if n==1||n==2||n==3 then m==0 else if n==4||n==5 then decide (m≥1)&&decide (m≤24)else if n==9||n==14 then m==1 else m==2
variable{E:ax}(Z:Sys E)
include Z
theorem ykM(n):E.C Ky [.one (.int .i64 n)] (.tup [.one (.int .i64 (iq n).1),.one (.int .i64 (iq n).2)]):=by
 refine Z.Ky _ _ ⟨bn rfl,?_⟩;cases h1:(n==1)<;>cases h2:(n==2)<;>cases h3:(n==3)<;>cases h4:(n==4)<;>cases h5:(n==5)<;>cases h9:(n==9)<;>cases vw:(n==14)<;>
  first
  |(exfalso;simp at*;omega)
  |simp only[zVW,go_sem,iq,h1,h2,h3,h4,h5,h9,vw]
theorem yjn(n m):E.C zXA [.one (.int .i64 n),.one (.int .i64 m)] (.one (.bool (bN n m))):=by
 refine Z.zXA _ _ ⟨bn rfl,?_⟩;cases h1:(n==1)<;>cases h2:(n==2)<;>cases h3:(n==3)<;>cases h4:(n==4)<;>cases h5:(n==5)<;>cases h9:(n==9)<;>cases vw:(n==14)<;>
  first
  |(exfalso;simp at*;omega)
  |simp only[zQy,go_sem,bN,h1,h2,h3,h4,h5,h9,vw]
theorem yx8(p):E.C Ho [.agg (Pred.cells p)] (.one (.int .i64 p.depth)):=by
 induction p using Pred.ind with
 |h o s n ks ih=>
 refine Z.Ho _ _ ⟨bn rfl,?_⟩;rw[Pred.bm,Pred.yj5];simp only[zKe,go_sem,Pred.kids];intro hlen;refine gU ks (fun _=>True) (fun done rest=>⟨[(9,.d (.int .i64 done.length)),(8,.d (.int .i64 (ks.map Pred.cells).length)),(7,.d (.aw (ks.map Pred.cells))),(3,.d (.int .i64 (done.foldl (fun a k=>if Pred.depth k>a then Pred.depth k else a) 0)))],[],[]⟩) ?_ trivial ?_ ?_
 ·exact dG (by simp only[go_sem,nZ,List.foldl_nil])
 ·intro done k r hl _;have fR:=ih k (by rw[hl];simp);have bf:=gw hl;have hw:IntKind.i64.wrap ((done.length:Int)+1)=((done.length+1:Nat):Int):=gn (by omega);have hx:(ks.map Pred.cells).getD done.length []=Pred.cells k:=by rw[hl];exact Gt _ _ _ _ _
  simp only[Ut,go_sem,bf,hx];refine aR fR ?_;simp only[go_sem,hw,lA,List.foldl_append,List.foldl_cons,List.foldl_nil];exact dG (by simp only[go_sem])
 ·simp only[Ut,go_sem,forall_const]
theorem ykV(p):E.C VX [.agg (Pred.cells p)] (.one (.int .i64 p.depth)):=by
 induction p using Pred.ind with
 |h o s n ks ih=>
 refine Z.VX _ _ ⟨bn rfl,?_⟩;rw[Pred.bm,Pred.yj5];simp only[zV5,go_sem,Pred.kids];intro hlen;refine gU ks (fun _=>True) (fun done rest=>⟨[(9,.d (.int .i64 done.length)),(8,.d (.int .i64 (ks.map Pred.cells).length)),(7,.d (.aw (ks.map Pred.cells))),(3,.d (.int .i64 (done.foldl (fun a k=>if Pred.depth k>a then Pred.depth k else a) 0)))],[],[]⟩) ?_ trivial ?_ ?_
 ·exact dG (by simp only[go_sem,nZ,List.foldl_nil])
 ·intro done k r hl _;have fR:=ih k (by rw[hl];simp);have bf:=gw hl;have hw:IntKind.i64.wrap ((done.length:Int)+1)=((done.length+1:Nat):Int):=gn (by omega);have hx:(ks.map Pred.cells).getD done.length []=Pred.cells k:=by rw[hl];exact Gt _ _ _ _ _
  simp only[zju,go_sem,bf,hx];refine aR fR ?_;simp only[go_sem,hw,lA,List.foldl_append,List.foldl_cons,List.foldl_nil];exact dG (by simp only[go_sem])
 ·simp only[zju,go_sem,forall_const]
theorem zJk(p):E.C Gx [.agg (Pred.cells p)] (.one (.int .i64 p.nodes)):=by
 induction p using Pred.ind with
 |h o s n ks ih=>
 refine Z.Gx _ _ ⟨bn rfl,?_⟩;rw[Pred.bm,Pred.Zn];simp only[zV8,go_sem,Pred.kids];intro hlen;refine gU ks (fun _=>True) (fun done rest=>⟨[(9,.d (.int .i64 done.length)),(8,.d (.int .i64 (ks.map Pred.cells).length)),(7,.d (.aw (ks.map Pred.cells))),(3,.d (.int .i64 (done.foldl (fun a k=>IntKind.i64.wrap (a+Pred.nodes k)) 1)))],[],[]⟩) ?_ trivial ?_ ?_
 ·exact dG (by simp only[go_sem,nZ,List.foldl_nil])
 ·intro done k r hl _;have fR:=ih k (by rw[hl];simp);have bf:=gw hl;have hw:IntKind.i64.wrap ((done.length:Int)+1)=((done.length+1:Nat):Int):=gn (by omega);have hx:(ks.map Pred.cells).getD done.length []=Pred.cells k:=by rw[hl];exact Gt _ _ _ _ _
  simp only[Ua,go_sem,bf,hx];refine aR fR ?_;simp only[go_sem,hw,lA,List.foldl_append,List.foldl_cons,List.foldl_nil];exact dG (by simp only[go_sem])
 ·simp only[Ua,go_sem,forall_const]
end Go.Abs
end
section
namespace Go.Abs
variable{E:ax}(Z:Sys E)
include Z
theorem ykS(s):E.C zZc [.one (.str s)] (.one (.int .i64 (if isName s then 0 else 3))):=by
 refine Z.zZc _ _ ⟨bn rfl,?_⟩;simp only[zVZ,go_sem];intro hlen;cases h0:decide ((s.length:Int)<1)with
 |true=>
  have hz:cY s=false:=by simp only[cY,Bool.and_eq_false_iff,decide_eq_false_iff_not];left;simp only[decide_eq_true_eq]at h0;omega
  have hr:isName s=false:=by simp only[isName,hz];rfl
  simp only[go_sem,hr];refine⟨.one (.bool false),?_⟩;simp only[go_sem,hr];refine⟨.one (.bool false),?_⟩;simp only[go_sem,hr]
 |false=>
  simp only[decide_eq_false_iff_not]at h0;have sA:((0:Int)<s.length)=True:=eq_true (by omega);simp only[go_sem,hlen];cases x6:decide ((s.length:Int)>24)with
  |true=>
   have hz:cY s=false:=by simp only[cY,Bool.and_eq_false_iff,decide_eq_false_iff_not];right;simp only[decide_eq_true_eq]at x6;omega
   have hr:isName s=false:=by simp only[isName,hz];rfl
   simp only[go_sem,hr];refine⟨.one (.bool false),?_⟩;simp only[go_sem,hr];refine⟨.one (.bool false),?_⟩;simp only[go_sem,hr]
  |false=>
   have hz:cY s=true:=by simp only[cY,Bool.and_eq_true,decide_eq_true_eq];simp only[decide_eq_false_iff_not]at x6;omega
   simp only[go_sem,sA,Int.toNat_zero];refine aR (V1 Z _) ?_;cases h1:isSmall (s.getD 0 0).toNat with
   |false=>
    have hr:isName s=false:=by simp only[isName,hz,h1];rfl
    simp only[go_sem,hr];refine⟨.one (.bool false),?_⟩;simp only[go_sem,hr]
   |true=>
    simp only[go_sem];refine aR (yzW Z s) ?_;cases h2:oR.contains s with
    |true=>
     have hr:isName s=false:=by simp only[isName,hz,h1,h2];rfl
     simp only[go_sem,hr]
    |false=>
     have hr:isName s=scan fU 1 (s.drop 1):=by simp only[isName,hz,h1,h2];rfl
     have h3:scan fU 1 (s.drop 1)=scan fU 0 s:=by
      cases s with
      |nil=>rfl
      |cons c t=>have h1:isSmall c.toNat=true:=h1;simp[scan,fU,h1]
     rw[hr,h3];simp only[go_sem];intro _;refine gU s (fun done=>scan fU 0 done=true) (fun done rest=>⟨[(0,.d (.str s)),(24,.d (.int .i64 done.length)),(23,.d (.int .i64 s.length))],[],[]⟩) ?_ rfl ?_ ?_
     ·exact dG (by simp only[go_sem,nZ])
     ·intro done c r hl hI;have bf:=gw hl;have hx:s.getD done.length 0=c:=KC _ _ _ _ hl;have hw:IntKind.i64.wrap ((done.length:Int)+1)=((done.length+1:Nat):Int):=gn (by omega);simp only[zjr,go_sem,bf,hx];refine aR (V1 Z _) ?_;simp only[go_sem,hw,bf,hx];refine yh (zqb Z _) ?_;simp only[go_sem,hw,bf,hx];cases h1:fU done.length c.toNat with
      |false=>have h2:=h1;rw[fU]at h2;simp only[go_sem,h2,hw,lA,Hc,scan,hI,h1,zA];exact dG (by simp only[go_sem])
      |true=>have h2:=h1;rw[fU]at h2;simp only[go_sem,h2,hl,Hc,scan,h1,zA]
     ·intro hI;simp only[zjr,go_sem,hI]
end Go.Abs
end
section
namespace Go.Abs
variable{E:ax}(Z:Sys E)
include Z
theorem ykT(s):E.C zZd [.one (.str s)] (.one (.int .i64 (if cG s then 0 else 3))):=by
 refine Z.zZd _ _ ⟨bn rfl,?_⟩;simp only[zV0,go_sem];intro hlen;cases h0:decide ((s.length:Int)<1)with
 |true=>
  have hz:cY s=false:=by simp only[cY,Bool.and_eq_false_iff,decide_eq_false_iff_not];left;simp only[decide_eq_true_eq]at h0;omega
  have hr:cG s=false:=by simp only[cG,hz];rfl
  simp only[go_sem,hr];refine⟨.one (.bool false),?_⟩;simp only[go_sem,hr]
 |false=>
  simp only[decide_eq_false_iff_not]at h0;have sA:((0:Int)<s.length)=True:=eq_true (by omega);simp only[go_sem,hlen];cases x6:decide ((s.length:Int)>24)with
  |true=>
   have hz:cY s=false:=by simp only[cY,Bool.and_eq_false_iff,decide_eq_false_iff_not];right;simp only[decide_eq_true_eq]at x6;omega
   have hr:cG s=false:=by simp only[cG,hz];rfl
   simp only[go_sem,hr];refine⟨.one (.bool false),?_⟩;simp only[go_sem,hr]
  |false=>
   have hz:cY s=true:=by simp only[cY,Bool.and_eq_true,decide_eq_true_eq];simp only[decide_eq_false_iff_not]at x6;omega
   simp only[go_sem,sA,Int.toNat_zero];refine aR (zqG Z _) ?_;cases h1:dX (s.getD 0 0).toNat with
   |false=>
    have hr:cG s=false:=by simp only[cG,hz,h1];rfl
    simp only[go_sem,hr]
   |true=>
    cases e1:(s==[73,110,116])<;>cases e2:(s==[66,111,111,108])<;>cases e3:(s==[67,101,108,108])<;>cases e4:(s==[70,117,110]);case false.false.false.false=>
     have hr:cG s=s.all fun c=>fy c.toNat:=by simp only[cG,hz,h1,bne,e1,e2,e3,e4];simp
     rw[hr];simp only[go_sem,e1,e2,e3,e4];intro _;refine gU s (fun done=>done.all (fun c=>fy c.toNat)=true) (fun done rest=>⟨[(0,.d (.str s)),(36,.d (.int .i64 done.length)),(35,.d (.int .i64 s.length))],[],[]⟩) ?_ rfl ?_ ?_
     ·exact dG (by simp only[go_sem,nZ])
     ·intro done c r hl hI;have bf:=gw hl;have hx:s.getD done.length 0=c:=KC _ _ _ _ hl;have hw:IntKind.i64.wrap ((done.length:Int)+1)=((done.length+1:Nat):Int):=gn (by omega);simp only[zjs,go_sem,bf,hx];refine aR (V1 Z _) ?_;simp only[go_sem,hw,bf,hx];refine yh (zqG Z _) ?_;simp only[go_sem,hw,bf,hx];refine yh (zqb Z _) ?_;simp only[go_sem,hw,bf,hx];cases h1:(!isSmall c.toNat&&!dX c.toNat&&!isDigit c.toNat)with
      |false=>
       have hc:fy c.toNat=true:=by rw[fy,h1];rfl
       simp only[go_sem,hw,lA,List.all_append,List.all_cons,List.all_nil,hI,hc];exact dG (by simp only[go_sem])
      |true=>
       have hc:fy c.toNat=false:=by rw[fy,h1];rfl
       simp only[go_sem,hl,List.all_append,List.all_cons,hc]
     ·intro hI;simp only[zjs,go_sem,hI]
    all_goals
     have hr:cG s=false:=by simp only[cG,hz,h1,bne,e1,e2,e3,e4];simp
     simp only[go_sem,hr,e1,e2,e3,e4]
end Go.Abs
end
section
namespace Go.Abs
def vE(n:Int):Bool:=isSmall n||dX n||isDigit n
def uW(n:Int):Bool:=isSmall n||isDigit n||n==95
theorem yKq(n):fy n=vE n:=by simp only[fy,vE];cases isSmall n<;>cases dX n<;>cases isDigit n<;>rfl
theorem yy8:∀(s) (i),scan gG (i+1) s=s.all fun c=>uW c.toNat
 |[],_=>rfl
 |c::s,i=>by
  have h0:(((i+1:Nat):Int)==0)=false:=by simp;omega
  simp only[scan,List.all_cons,yy8 s (i+1),gG,uW,h0,bne];cases isSmall c.toNat<;>cases isDigit c.toNat<;>cases((c.toNat:Int)==95)<;>rfl
theorem yWO(c)(s):scan gG 0 (c::s)=(isSmall c.toNat&&(c::s).all fun c=>uW c.toNat):=by simp only[scan,yy8,gG,List.all_cons,uW,nZ,beq_self_eq_true,Bool.true_or,Bool.and_true,Bool.not_not];cases isSmall c.toNat<;>simp
variable{E:ax}(Z:Sys E)
include Z
theorem yji(s):E.C zXx [.one (.str s)] (.one (.bool (gR s))):=by
 refine Z.zXx _ _ ⟨bn rfl,?_⟩;simp only[zQq,go_sem];intro hlen;cases h0:decide ((s.length:Int)<1)with
 |true=>
  have hz:cY s=false:=by simp only[cY,Bool.and_eq_false_iff,decide_eq_false_iff_not];left;simp only[decide_eq_true_eq]at h0;omega
  have hr:gR s=false:=by simp only[gR,hz];rfl
  simp only[go_sem,hr]
 |false=>
  simp only[decide_eq_false_iff_not]at h0;have sA:((0:Int)<s.length)=True:=eq_true (by omega);simp only[go_sem,hlen];cases x6:decide ((s.length:Int)>24)with
  |true=>
   have hz:cY s=false:=by simp only[cY,Bool.and_eq_false_iff,decide_eq_false_iff_not];right;simp only[decide_eq_true_eq]at x6;omega
   have hr:gR s=false:=by simp only[gR,hz];rfl
   simp only[go_sem,hr]
  |false=>
   have hz:cY s=true:=by simp only[cY,Bool.and_eq_true,decide_eq_true_eq];simp only[decide_eq_false_iff_not]at x6;omega
   have hr:gR s=((s.all fun c=>vE c.toNat)||(isSmall (s.getD 0 0).toNat&&s.all fun c=>uW c.toNat)):=by
    obtain⟨c0,t,rfl⟩:∃c0 t,s=c0::t:=by cases s with|nil=>simp at h0|cons c t=>exact⟨c,t,rfl⟩
    simp only[gR,hz,yWO,yKq,List.getD_cons_zero];cases((c0::t).all fun c=>vE c.toNat)<;>cases(isSmall c0.toNat&&(c0::t).all fun c=>uW c.toNat)<;>rfl
   simp only[go_sem,sA,Int.toNat_zero];refine aR (V1 Z _) ?_;simp only[go_sem,hr];intro _;generalize isSmall (s.getD 0 0).toNat=w0;refine gU s (fun _=>True) (fun done rest=>⟨[(0,.d (.str s)),(19,.d (.int .i64 done.length)),(18,.d (.int .i64 s.length)),(3,.d (.bool (done.all fun c=>vE c.toNat))),(4,.d (.bool (w0&&done.all fun c=>uW c.toNat)))],[],[]⟩) ?_ trivial ?_ ?_
   ·exact dG (by simp only[go_sem,nZ,List.all_nil])
   ·intro done c r hl _;have bf:=gw hl;have hx:s.getD done.length 0=c:=KC _ _ _ _ hl;have hw:IntKind.i64.wrap ((done.length:Int)+1)=((done.length+1:Nat):Int):=gn (by omega);simp only[zqi,go_sem,bf,hx];refine yh (V1 Z _) ?_;simp only[go_sem,hw,bf,hx];refine yh (zqG Z _) ?_;simp only[go_sem,hw,bf,hx];refine⟨by simp+contextual,?_⟩;refine yh (zqb Z _) ?_;simp only[go_sem,hw,bf,hx];refine⟨by simp+contextual,?_⟩;refine yh (V1 Z _) ?_;simp only[go_sem,hw,bf,hx];refine yh (zqb Z _) ?_;simp only[go_sem,hw,bf,hx,lA,List.all_append,List.all_cons,List.all_nil];refine⟨by simp+contextual,by simp+contextual,dG (by simp only[go_sem,lA,List.all_append,List.all_cons,List.all_nil,vE,uW,Bool.and_assoc])⟩
   ·intro _;simp only[zqi,go_sem];cases(s.all fun c=>vE c.toNat)<;>simp
end Go.Abs
end
section
namespace Go.Abs
structure yG where
 out:List (List UInt8)
 Ii:Nat
 pre:List UInt8
def yG.step(p:yG)(c:UInt8):yG:=if c.toNat=46 then⟨p.out++[p.pre.drop p.Ii],p.pre.length+1,p.pre++[c]⟩else⟨p.out,p.Ii,p.pre++[c]⟩
def Cl(l:List UInt8):yG:=l.foldl yG.step ⟨[],0,[]⟩
theorem yWp(l)(c):Cl (l++[c])=(Cl l).step c:=by simp[Cl]
theorem yWq:∀(l) (p:yG),(l.foldl yG.step p).pre=p.pre++l
 |[],p=>by simp
 |c::l,p=>by rw[List.foldl_cons,yWq l];unfold yG.step;split<;>simp
theorem yje:∀(l:List UInt8) (p),p.Ii≤p.pre.length→(l.foldl yG.step p).Ii≤p.pre.length+l.length
 |[],p,h=>by simpa using h
 |c::l,p,h=>by
  rw[List.foldl_cons];have:=yje l (p.step c) (by unfold yG.step;split<;>simp<;>omega);have e:(p.step c).pre.length=p.pre.length+1:=by unfold yG.step;split<;>simp
  rw[e]at this;simp only[lC];omega
theorem yjf:∀(l:List UInt8) (p),(l.foldl yG.step p).out.length≤p.out.length+l.length
 |[],p=>by simp
 |c::l,p=>by
  rw[List.foldl_cons];have:=yjf l (p.step c);have e:(p.step c).out.length≤p.out.length+1:=by unfold yG.step;split<;>simp
  simp only[lC];omega
def partsOf(s:List UInt8):List (List UInt8):=(Cl s).out++[s.drop (Cl s).Ii]
variable{E:ax}(Z:Sys E)
include Z
theorem ykU(s)(hs:s.length≤1000):E.C zZe [.one (.str s)] (.one (.aw ((partsOf s).map fun k=>[.str k]))):=by
 refine Z.zZe _ _ ⟨bn rfl,?_⟩;simp only[zV2,go_sem];intro hlen;refine gU s (fun _=>True) (fun done rest=>⟨[(0,.d (.str s)),(8,.d (.int .i64 done.length)),(7,.d (.int .i64 s.length)),(3,.own 3 1 ((Cl done).out.map fun k=>[.str k])),(4,.d (.int .i64 (Cl done).Ii))],[],[(3,true)]⟩) ?_ trivial ?_ ?_
 ·exact Bp 3 3 1 [] [(3,3)] rfl (by simp) rfl (by simp only[jz,go_sem,cN,Cl,List.foldl_nil,nZ])
 ·intro done c r hl _;have bf:=gw hl;have hx:s.getD done.length 0=c:=KC _ _ _ _ hl;have hw:IntKind.i64.wrap ((done.length:Int)+1)=((done.length+1:Nat):Int):=gn (by omega);have nq:(Cl done).pre=done:=by simp[Cl,yWq]
  have IH:(Cl done).Ii≤done.length:=by simpa[Cl]using yje done ⟨[],0,[]⟩ (Nat.le_refl _)
  have nj:(Cl done).out.length≤done.length:=by simpa[Cl]using yjf done ⟨[],0,[]⟩
  have XH:s.take done.length=done:=by rw[hl];simp
  simp only[zjt,go_sem,bf,hx];by_cases hc:c.toNat=46
  ·have h1:(((c.toNat:Nat):Int)==46)=true:=by simp[hc]
   simp only[go_sem,h1,hw,XH];have hd:done.length≤1000:=by omega
   refine⟨by omega,⟨by simp,by omega,by omega⟩,jP [(3,21)] ?_⟩;simp only[go_sem,yWp,yG.step,if_pos hc,lA,mA,nq,cN]
  ·have h1:(((c.toNat:Nat):Int)==46)=false:=by simp;omega
   simp only[go_sem,h1,hw,yWp,yG.step,if_neg hc,lA];exact jP [(3,3)] (by simp only[go_sem,cN])
 ·intro _;have IH:(Cl s).Ii≤s.length:=by simpa[Cl]using yje s ⟨[],0,[]⟩ (Nat.le_refl _)
  have nj:(Cl s).out.length≤s.length:=by simpa[Cl]using yjf s ⟨[],0,[]⟩
  simp only[zjt,go_sem];refine⟨by omega,⟨by simp,by omega,by omega⟩,?_⟩;simp[partsOf]
end Go.Abs
end
section
namespace Go.Abs
def oG:List UInt8→List UInt8→List (List UInt8)
 |acc,[]=>[acc]
 |acc,c::s=>if c.toNat=46 then acc::oG [] s else oG (acc++[c]) s
theorem ykP:∀(s) (p),p.Ii≤p.pre.length→(s.foldl yG.step p).out++[(p.pre++s).drop (s.foldl yG.step p).Ii]=p.out++oG (p.pre.drop p.Ii) s
 |[],p,_=>by simp[oG]
 |c::s,p,h=>by
  have e:p.pre++c::s=(p.step c).pre++s:=by unfold yG.step;split<;>simp
  rw[List.foldl_cons,e,ykP s (p.step c) (by unfold yG.step;split<;>simp<;>omega)];rw[oG.eq_2];unfold yG.step;by_cases hc:c.toNat=46
  ·simp only[if_pos hc];simp
  ·simp only[if_neg hc];rw[List.drop_append_of_le_length h]
theorem yZS(s):partsOf s=oG [] s:=by have:=ykP s ⟨[],0,[]⟩ (Nat.le_refl _);simpa[partsOf,Cl]using this
theorem zXK:∀s acc,oG acc s=(acc++(cutAt s).1)::(if(cutAt s).2.2=true then oG [] (cutAt s).2.1 else[])
 |[],acc=>by simp[oG,cutAt]
 |c::s,acc=>by
  rw[oG.eq_2,cutAt.eq_2];by_cases hc:c.toNat=46
  ·simp[hc]
  ·simp only[if_neg hc];rw[zXK s];simp
theorem yjb(s):parts s=(oG [] s).all gR:=by
 induction hn:s.length using Nat.strongRecOn generalizing s with
 |ind n ih=>
  rw[parts,zXK];by_cases h:(cutAt s).2.2=true
  ·have:=ih _ (by rw[←hn];exact H3 s h) (cutAt s).2.1 rfl;simp[h,this]
  ·simp[h]
end Go.Abs
end
section
namespace Go.Abs
theorem yWX(acc s):0<(oG acc s).length:=by rw[zXK];simp
variable{E:ax}(Z:Sys E)
include Z
theorem zWF(s):E.C Ui [.one (.str s)] (.one (.int .i64 (if dO s then 0 else 3))):=by
 refine Z.Ui _ _ ⟨bn rfl,?_⟩;simp only[zQo,go_sem];intro hlen;cases h0:decide ((s.length:Int)>120)with
 |true=>simp only[go_sem,dO,h0]
 |false=>
  have hs:s.length≤1000:=by simp only[decide_eq_false_iff_not]at h0;omega
  have hp:partsOf s=(cutAt s).1::(if(cutAt s).2.2=true then oG [] (cutAt s).2.1 else[]):=by rw[yZS,zXK];simp
  simp only[go_sem,dO,h0];refine aR (ykU Z s hs) ?_;rw[hp];have hq:=yjb (cutAt s).2.1;have b6:=yWX [] (cutAt s).2.1;rw[hq];generalize oG [] (cutAt s).2.1=t at*
  generalize (cutAt s).1=a at*
  generalize (cutAt s).2.2=m at*
  have Xw:(if m=true then t.all gR else true)=(if m=true then t else[]).all gR:=by cases m<;>rfl
  have hm:(!m)=((((if m=true then t else[]).length+1:Nat):Int)==1):=by
   cases m
   ·rfl
   ·have:((((t.length+1:Nat):Int))==1)=false:=by rw[beq_eq_false_iff_ne];omega
    exact this.symm
  rw[Xw,hm];generalize (if m=true then t else[])=u;have GQ:(∀e∈[D.str a]::u.map fun k=>[D.str k],e.length=1)=True:=eq_true (by intro e he;simp only[List.mem_cons,List.mem_map]at he;rcases he with rfl|⟨k,_,rfl⟩<;>rfl);have h00:((0:Int)<((u.length+1:Nat):Int))=True:=eq_true (by omega);simp only[go_sem,GQ,h00,Int.toNat_zero];refine aR (ykS Z a) ?_;have xI:((if isName a=true then(0:Int)else 3) !=0)=!isName a:=by cases isName a<;>rfl
  have zc:((if cG a=true then(0:Int)else 3) !=0)=!cG a:=by cases cG a<;>rfl
  simp only[go_sem,GQ,h00,Int.toNat_zero,xI];refine yh (ykT Z a) ?_;simp only[go_sem,GQ,h00,Int.toNat_zero,zc];intro wR;refine⟨?_,?_⟩
  ·cases isName a<;>cases cG a<;>cases(a==[118])<;>simp
  have vH:((1:Int)≤((u.length+1:Nat):Int))=True:=eq_true (by omega);have hd:(Int.toNat 1)=1:=rfl;have WG:((0:Int)≤1)=True:=eq_true (by omega);simp only[bne];by_cases hb:(!isName a&&!cG a&&(!(a==[118])||((u.length+1:Nat):Int)==1))=true
  ·simp only[hb,go_sem]
  ·simp only[Bool.not_eq_true]at hb;simp only[hb,go_sem,vH,hd,WG];intro _;refine gU u (fun done=>done.all gR=true) (fun done rest=>⟨[(37,.d (.int .i64 done.length)),(36,.d (.int .i64 u.length)),(35,.d (.aw (u.map fun k=>[.str k])))],[],[]⟩) ?_ rfl ?_ ?_
   ·exact dG (by simp only[go_sem,nZ])
   ·intro done k r hl hI;have bf:=gw hl;have hw:IntKind.i64.wrap ((done.length:Int)+1)=((done.length+1:Nat):Int):=gn (by omega);have hx:(u.map fun k=>[D.str k]).getD done.length []=[.str k]:=by rw[hl];exact Gt _ _ _ _ _
    have hlu:(∀e∈u.map fun k=>[D.str k],e.length=1)=True:=eq_true (by intro e he;simp only[List.mem_map]at he;rcases he with⟨k,_,rfl⟩;rfl);simp only[zqg,go_sem,bf,hx,hlu];refine aR (yji Z k) ?_;cases hk:gR k with
    |true=>simp only[go_sem,hw,lA,List.all_append,List.all_cons,List.all_nil,hI,hk];exact dG (by simp only[go_sem])
    |false=>simp only[go_sem,hl,List.all_append,List.all_cons,hk]
   ·intro hI;simp only[zqg,go_sem,hI]
end Go.Abs
end
section
namespace Go.Abs
def sV:List UInt8:=[118]
def jZ:List UInt8:=[116,97,103]
def oU:List UInt8:=[118,97,108]
def dD(o:Int)(s:List UInt8):Bool:=if o==3 then s==sV||dO s else if o==4 then s==jZ||s==oU||dO s else if o==5 then dO s else true
variable{E:ax}(Z:Sys E)
include Z
theorem ywf(p):E.C zjj [.agg (Pred.cells p)] (.one (.bool (dD p.op p.name))):=by
 obtain⟨o,s,n,ks⟩:=p;refine Z.zjj _ _ ⟨bn rfl,?_⟩;rw[Pred.bm];have hc:((if dO s=true then(0:Int)else 3)==0)=dO s:=by cases dO s<;>rfl
 by_cases h3:(o==3)=true
 ·simp only[zkB,go_sem,Pred.op,Pred.name,h3,dD];refine yh (zWF Z s) ?_;simp only[go_sem,hc,sV];cases(s==[118])<;>simp
 ·simp only[Bool.not_eq_true]at h3;by_cases h4:(o==4)=true
  ·simp only[zkB,go_sem,Pred.op,Pred.name,h3,h4,dD];refine⟨by simp+contextual,?_⟩;refine yh (zWF Z s) ?_;simp only[go_sem,hc,jZ,oU];cases(s==[116,97,103]||s==[118,97,108])<;>simp
  ·simp only[Bool.not_eq_true]at h4;by_cases h5:(o==5)=true
   ·simp only[zkB,go_sem,Pred.op,Pred.name,h3,h4,h5,dD];refine aR (zWF Z s) ?_;simp only[go_sem,hc]
   ·simp only[Bool.not_eq_true]at h5;simp only[zkB,go_sem,Pred.op,Pred.name,h3,h4,h5,dD]
end Go.Abs
end
section
namespace Go.Abs
theorem gR1{b p}:(b=true→b=true∧p)=(b=true→p):=by cases b<;>simp
theorem gR2{b}:(b=true→b=true)=True:=by simp
theorem gR3{b x}:(b=true→x=true→(b&&x)=true)=True:=by cases b<;>cases x<;>simp
theorem gR4{b}:(b=false→(!b)=true)=True:=by cases b<;>simp
theorem gR5{b x}:(b=true→x=false→(b&&!x)=true)=True:=by cases b<;>cases x<;>simp
theorem gR6{b x p}:(b=true→(x=true→(b&&x)=true)∧p)=(b=true→p):=by cases b<;>cases x<;>simp
theorem gR7{b x p}:(b=true→(x=false→(b&&!x)=true)∧p)=(b=true→p):=by cases b<;>cases x<;>simp
theorem gR8{b x}:((b&&x)=true→b=true)=True:=by cases b<;>cases x<;>simp
theorem gR9{b x p}:((b&&x)=true→b=true∧p)=((b&&x)=true→p):=by cases b<;>cases x<;>simp
theorem PJ{b x p}:((b&&x)=true→x=true∧p)=((b&&x)=true→p):=by cases b<;>cases x<;>simp
theorem PK{b x}:((b&&x)=true→x=true)=True:=by cases b<;>cases x<;>simp
theorem PN{b p}:(b=true→(b&&b)=true∧p)=(b=true→p):=by cases b<;>simp
theorem PO{b x p}:((b&&x)=true→(b&&(b&&x))=true∧p)=((b&&x)=true→p):=by cases b<;>cases x<;>simp
theorem PR{b x p}:((b&&x)=true→(b&&x&&b)=true∧p)=((b&&x)=true→p):=by cases b<;>cases x<;>simp
theorem PS{b x}:((b&&x)=true→(b&&(b&&x))=true)=True:=by cases b<;>cases x<;>simp
attribute [go_sem] gR1 gR2 gR3 gR4 gR5 gR6 gR7 gR8 gR9 PJ PK PN PO PR PS Int.cast_ofNat_Int Int.natCast_one List.getD_nil nZ false_and and_false Int.toNat_zero Int.toNat_one Bool.false_eq_true Bool.true_eq_false
theorem Bg{v}{E:ax}{f args r b g d K st az}(h:E.C f args r)(hk:dL v g d K st az r):∃r,(b=true→E.C f args r)∧dL v g d K st az r:=⟨r,fun _=>h,hk⟩
theorem Nu{v}{E:ax}{f args r b g d K st az}(h:b=true→E.C f args r)(hk:dL v g d K st az r):∃r,(b=true→E.C f args r)∧dL v g d K st az r:=⟨r,h,hk⟩
theorem L3{v}{E:ax}{f args}(r){g d K st az}(hk:dL v g d K st az r):∃r,(False→E.C f args r)∧dL v g d K st az r:=⟨r,fun h=>h.elim,hk⟩
attribute [go_sem_proc] Int.reduceToNat Int.reduceLT Int.reduceLE Int.reduceEq Nat.reduceSub
end Go.Abs
end
section
namespace Go.Abs
def dr(o:Int)(s:List UInt8)(n:Int)(ks:List Pred):Int:=
 if decide (o<1)||decide (o>18)||!s==[]&&!bG o||n !=0&&!(o==1||o==2)||!bN o ks.length then 1
 else if o==1&&!aq n||o==2&&(decide (n<0)||decide (n>1))then 2
 else if !dD o s then 3
 else if o==8&&((ks.map Pred.op).getD 0 0) !=1 then 6
 else 0
theorem yVu{o}{s:List UInt8}{n:Int}{ks:List Pred}(h:¬(decide (o<1)||decide (o>18)||!s==[]&&!bG o||n !=0&&!(o==1||o==2)||!bN o ks.length)=true)(ho:(o==8)=true):∃a b,ks=[a,b]:=by
 have ho:o=8:=by simpa using ho
 subst ho;have h2:bN 8 (ks.length:Int)=true:=by simp only[Bool.or_eq_true,not_or]at h;simpa using h.2
 have h3:ks.length=2:=by simp[bN]at h2;omega
 match ks,h3 with
 |[a,b],_=>exact⟨a,b,rfl⟩
variable{E:ax}(Z:Sys E)
include Z
theorem yjo(o)(s)(n)(ks):E.C zXB [.agg (Pred.cells (.mk o s n ks))] (.one (.int .i64 (dr o s n ks))):=by
 have Xa:=ywf Z (.mk o s n ks);refine Z.zXB _ _ ⟨bn rfl,?_⟩;rw[Pred.bm]at*
 generalize hR:dr o s n ks=R;simp only[zQz,go_sem,Pred.op,Pred.name,Pred.n,Pred.kids]at Xa⊢;refine Bg (ykY Z o) ?_;simp only[go_sem];intro hlen;refine Bg (yjn Z o _) ?_;simp only[go_sem];split
 ·rename_i h1;rw[←hR,dr,if_pos h1]
 rename_i h1;refine Bg (zjJ Z n) ?_;simp only[go_sem];split
 ·rename_i h2;rw[←hR,dr,if_neg h1,if_pos h2]
 rename_i h2;refine aR Xa ?_;simp only[go_sem];split
 ·rename_i h3;rw[←hR,dr,if_neg h1,if_neg h2,if_pos h3]
 rename_i h3;by_cases ho:(o==8)=true
 ·obtain⟨a,b,rfl⟩:=yVu h1 ho;simp only[go_sem,ho,Pred.bm a];rw[←hR,dr,if_neg h1,if_neg h2,if_neg h3,ho];simp only[go_sem];cases(a.op !=1)<;>rfl
 ·rw[Bool.not_eq_true]at ho;cases ks<;>(simp only[go_sem,ho,Pred.bm];rw[←hR,dr,if_neg h1,if_neg h2,if_neg h3,ho];rfl)
end Go.Abs
end
section
namespace Go.Abs
def oD(o:Int)(s:List UInt8)(n:Int)(ks:List Pred):Int:=
 if decide (o<1)||decide (o>18)then 1
 else if !bG o&&!s==[]||o !=1&&o !=2&&n !=0||decide ((ks.length:Int)<(iq o).1)||decide ((ks.length:Int)>(iq o).2)then 1
 else if o==1&&!aq n||o==2&&n !=0&&n !=1 then 2
 else if bG o&&(if dO s=true then(0:Int)else 3) !=0&&!(o==3&&s==sV)&&!(o==4&&(s==jZ||s==oU))then 3
 else if o==8&&((ks.map Pred.op).getD 0 0) !=1 then 6
 else 0
theorem yyT{o s n ks}(h1:¬(decide (o<1)||decide (o>18))=true)
  (h2:¬(!bG o&&!s==[]||o !=1&&o !=2&&n !=0||decide ((ks.length:Int)<(iq o).1)||decide ((ks.length:Int)>(iq o).2))=true) (h3:¬(o==1&&!aq n||o==2&&n !=0&&n !=1)=true):
  oD o s n ks=if bG o&&(if dO s=true then(0:Int)else 3) !=0&&(!(o==3&&s==sV)&&!(o==4&&(s==jZ||s==oU)))then 3 else if o==8&&((ks.map Pred.op).getD 0 0) !=1 then 6 else 0:=by
 rw[oD,if_neg h1,if_neg h2,if_neg h3,Bool.and_assoc]
theorem yXM(o)(m:Nat):(decide ((m:Int)<(iq o).1)||decide ((m:Int)>(iq o).2))=!bN o m:=by
 unfold iq bN;split
 ·rw[Bool.eq_iff_iff];simp;omega
 ·split
  ·rw[Bool.eq_iff_iff];simp
  ·split
   ·rw[Bool.eq_iff_iff];simp;omega
   ·rw[Bool.eq_iff_iff];simp;omega
theorem Is{A B}{R t x:Int}{p}(hk:R=if A&&B then x else t)(hp:t=R→p):if A=true then(if B=true then x=R else p)else p:=by
 cases A<;>cases B<;>simp_all
theorem yVx(o)(s)(n)(ks):oD o s n ks=dr o s n ks:=by
 unfold oD dr;have e2:(n !=0&&!(o==1||o==2))=(o !=1&&o !=2&&n !=0):=by simp only[bne];cases(o==1)<;>cases(o==2)<;>cases(n==0)<;>rfl
 have e3:(decide (n<0)||decide (n>1))=(n !=0&&n !=1):=by rw[Bool.eq_iff_iff];simp;omega
 have e4:(bG o&&(if dO s=true then(0:Int)else 3) !=0&&!(o==3&&s==sV)&&!(o==4&&(s==jZ||s==oU)))=!dD o s:=by
  unfold bG dD;by_cases h3:o=3
  ·subst h3;cases dO s<;>cases(s==sV)<;>simp
  ·by_cases h4:o=4
   ·subst h4;cases dO s<;>cases(s==jZ||s==oU)<;>simp
   ·by_cases h5:o=5
    ·subst h5;cases dO s<;>simp
    ·simp[h3,h4,h5]
 rw[e4,e3,e2,Bool.and_comm (!s==[]),←yXM,←Bool.and_assoc];cases(decide (o<1)||decide (o>18))<;>simp only[Bool.true_or,Bool.false_or,Bool.false_eq_true,if_true,if_false,Bool.or_assoc]
theorem yX2{o}{s:List UInt8}{n:Int}{ks:List Pred}(h2:¬(!bG o&&!s==[]||o !=1&&o !=2&&n !=0||decide ((ks.length:Int)<(iq o).1)||decide ((ks.length:Int)>(iq o).2))=true)(ho:(o==8)=true):∃a b,ks=[a,b]:=by
 have ho:o=8:=by simpa using ho
 subst ho;have h3:ks.length=2:=by simp[iq]at h2;omega
 match ks,h3 with
 |[a,b],_=>exact⟨a,b,rfl⟩
variable{E:ax}(Z:Sys E)
include Z
theorem r5(hG:E.G 2=some (oR.map .str))(o)(s)(n)(ks):E.C He [.agg (Pred.cells (.mk o s n ks))] (.one (.int .i64 (oD o s n ks))):=by
 refine Z.He _ _ ⟨bn rfl,?_⟩;rw[Pred.bm];generalize hR:oD o s n ks=R;simp only[zVX,go_sem,Pred.op,Pred.name,Pred.n,Pred.kids];split
 ·rename_i h1;rw[←hR,oD,if_pos h1]
 rename_i h1;refine aR (ykM Z o) ?_;simp only[go_sem];refine aR (zKE Z o) ?_;simp only[go_sem];intro I7 wR;split
 ·rename_i h2;rw[←hR,oD,if_neg h1,if_pos h2]
 rename_i h2;refine Bg (yu Z n) ?_;simp only[go_sem];split
 ·rename_i h3;rw[←hR,oD,if_neg h1,if_neg h2,if_pos h3]
 rename_i h3;refine aR (zKE Z o) ?_;simp only[go_sem];refine Bg (yx3 Z hG s) ?_;simp only[go_sem];by_cases ho:(o==8)=true
 ·obtain⟨a,b,rfl⟩:=yX2 h2 ho;simp only[go_sem,ho,Pred.bm a];have key:=yyT h1 h2 h3;rw[hR,ho]at key;simp only[go_sem,sV,jZ,oU]at key;refine Is key fun h=>?_;cases hC:(a.op !=1)<;>simp_all
 ·rw[Bool.not_eq_true]at ho;have key:=yyT h1 h2 h3;rw[hR,ho]at key;simp only[go_sem,sV,jZ,oU]at key;cases ks<;>(simp only[go_sem,ho,Pred.bm];exact Is key fun h=>h)
theorem ykN(hG:E.G 2=some (oR.map .str))(o)(s)(n)(ks):E.C He [.agg (Pred.cells (.mk o s n ks))] (.one (.int .i64 (dr o s n ks))):=yVx o s n ks▸r5 Z hG o s n ks
end Go.Abs
end
section
namespace Go.Abs
namespace Pred
def eL:Pred→Int
 |.mk o s n ks=>if dr o s n ks !=0 then dr o s n ks else kK ks
where kK:List Pred→Int
 |[]=>0
 |k::ks=>if eL k !=0 then eL k else kK ks
theorem yZs{a b k}(ha:∀x∈a,eL x=0):eL.kK (a++k::b)=if eL k !=0 then eL k else eL.kK b:=by
 induction a with
 |nil=>rfl
 |cons x a ih=>rw[List.cons_append,eL.kK,ha x (by simp)];exact ih fun y hy=>ha y (by simp[hy])
theorem yZr{a}(ha:∀x∈a,eL x=0):eL.kK a=0:=by
 induction a with
 |nil=>rfl
 |cons x a ih=>rw[eL.kK,ha x (by simp)];exact ih fun y hy=>ha y (by simp[hy])
theorem VA(o)(s)(n)(ks):eL (.mk o s n ks)=if dr o s n ks !=0 then dr o s n ks else eL.kK ks:=by rw[eL]
def bO(p:Pred):Int:=if decide (nodes p>400)then 7 else if decide (depth p>40)then 8 else eL p
end Pred
theorem qi{α:Type}{P:α→Prop}{a k}(ha:∀x∈a,P x)(hk:P k):∀x∈a++[k],P x:=by
 intro x hx;rcases List.mem_append.1 hx with h|h
 ·exact ha x h
 ·simp at h;subst h;exact hk
theorem rJ{ks a r k}(hl:ks=a++k::r):(ks.map Pred.cells).getD a.length []=Pred.cells k:=by rw[hl];exact Gt _ _ _ _ _
variable{E:ax}(Z:Sys E)
include Z
theorem yjm(p):E.C VU [.agg (Pred.cells p)] (.one (.int .i64 p.eL)):=by
 induction p using Pred.ind with
 |h o s n ks ih=>
 have hn:=yjo Z o s n ks;refine Z.VU _ _ ⟨bn rfl,?_⟩;rw[Pred.bm]at*
 generalize hR:Pred.eL (.mk o s n ks)=R;rw[Pred.VA]at hR;simp only[zQx,go_sem,Pred.op,Pred.name,Pred.n,Pred.kids]at hn⊢;refine aR hn ?_;simp only[go_sem];cases h1:(dr o s n ks !=0)with
 |true=>simp only[h1,go_sem]at hR⊢;exact hR
 |false=>
 simp only[h1,go_sem]at hR⊢;intro hlen;refine gU ks (fun done=>∀x∈done,x.eL=0) (fun done rest=>⟨[(15,.d (.int .i64 done.length)),(14,.d (.int .i64 ks.length)),(13,.d (.aw (ks.map Pred.cells)))],[],[]⟩) ?_ (by simp) ?_ ?_
 ·exact dG (by simp only[go_sem])
 ·intro done k r hl hI;have fR:=ih k (by rw[hl];simp);have bf:=gw hl;have hw:IntKind.i64.wrap ((done.length:Int)+1)=((done.length+1:Nat):Int):=gn (by omega);simp only[zqn,go_sem,bf,rJ hl];refine aR fR ?_;rw[hl,Pred.yZs hI]at hR;cases h2:(k.eL !=0)with
  |true=>simp only[h2,go_sem]at hR⊢;exact hR
  |false=>simp only[go_sem,h2,hw,lA];exact⟨dG (by simp only[go_sem]),qi hI (by simpa using h2)⟩
 ·intro hI;rw[Pred.yZr hI]at hR;simp only[zqn,go_sem,hR]
theorem zY4(p):E.C zvF [.agg (Pred.cells p)] (.one (.int .i64 p.bO)):=by
 have h1:=zJk Z p;have h2:=ykV Z p;have h3:=yjm Z p;refine Z.zvF _ _ ⟨bn rfl,?_⟩;generalize hR:Pred.bO p=R;unfold Pred.bO at hR;rw[Pred.bm]at*
 simp only[zV4,go_sem];refine aR h1 ?_;simp only[go_sem];split
 ·rename_i h;rw[if_pos h]at hR;exact hR
 rename_i h;rw[if_neg h]at hR;refine aR h2 ?_;simp only[go_sem];split
 ·rename_i h;rw[if_pos h]at hR;exact hR
 rename_i h;rw[if_neg h]at hR;refine aR h3 ?_;simp only[go_sem,hR]
end Go.Abs
end
section
namespace Go.Abs
namespace Pred
def pre:Pred→List Pred
 |.mk o s n ks=>.mk o s n ks::gz ks
where gz:List Pred→List Pred
 |[]=>[]
 |k::ks=>pre k++gz ks
theorem tM(o)(s)(n)(ks):pre (.mk o s n ks)=.mk o s n ks::pre.gz ks:=by rw[pre]
theorem Zp(a b):pre.gz (a++b)=pre.gz a++pre.gz b:=by
 induction a with
 |nil=>rfl
 |cons k a ih=>simp[pre.gz,ih]
def err(p:Pred):Int:=dr p.op p.name p.n p.kids
def first:List Pred→Int
 |[]=>0
 |p::l=>if err p !=0 then err p else first l
theorem yXf(a b):first (a++b)=if first a !=0 then first a else first b:=by
 induction a with
 |nil=>rfl
 |cons k a ih=>
  by_cases h:(err k !=0)=true
  ·have e1:first (k::a)=err k:=by rw[first,if_pos h]
   have e2:first (k::(a++b))=err k:=by rw[first,if_pos h]
   simp only[List.cons_append,e1,e2,h,if_true]
  ·have e1:first (k::a)=first a:=by rw[first,if_neg h]
   have e2:first (k::(a++b))=first (a++b):=by rw[first,if_neg h]
   simp only[List.cons_append,e1,e2,ih]
theorem TE(p):eL p=first (pre p):=by
 induction p using Pred.ind with
 |h o s n ks ih=>
 rw[VA,tM,first];have:eL.kK ks=first (pre.gz ks):=by
  induction ks with
  |nil=>rfl
  |cons k ks p6=>rw[eL.kK,pre.gz,yXf,ih k (by simp),p6 fun x hx=>ih x (by simp[hx])]
 rw[this];rfl
theorem yXg{a b k}(ha:∀x∈a,err x=0):first (a++k::b)=if err k !=0 then err k else first b:=by
 induction a with
 |nil=>rfl
 |cons x a ih=>rw[List.cons_append,first,ha x (by simp)];exact ih fun y hy=>ha y (by simp[hy])
theorem yXe{a}(ha:∀x∈a,err x=0):first a=0:=by
 induction a with
 |nil=>rfl
 |cons x a ih=>rw[first,ha x (by simp)];exact ih fun y hy=>ha y (by simp[hy])
end Pred
def bH(l:List Pred):List (List CV):=l.map fun q=>[.agg (Pred.cells q)]
theorem yxj{l a b x}(h:bH l=a++x::b):∃a' p b',l=a'++p::b'∧a=bH a'∧x=[.agg (Pred.cells p)]:=by obtain⟨a',r,h1,h2,h3⟩:=List.map_eq_append_iff.1 h;obtain⟨p,b',h4,h5,h6⟩:=List.map_eq_cons_iff.1 h3;exact⟨a',p,b',by rw[h1,h4],h2.symm,h5.symm⟩
theorem yYQ:∀p q,Pred.cells p=Pred.cells q→p=q:=by
 intro p;induction p using Pred.ind with
 |h o s n ks ih=>
 intro q h;obtain⟨o',s',n',nN⟩:=q;rw[Pred.bm,Pred.bm]at h;simp only[Pred.op,Pred.name,Pred.n,Pred.kids,List.cons.injEq,D.int.injEq,D.str.injEq,D.aw.injEq,true_and,and_true]at h;obtain⟨rfl,rfl,rfl,h4⟩:=h;have:ks=nN:=by
  induction ks generalizing nN with
  |nil=>cases nN with|nil=>rfl|cons _ _=>cases h4
  |cons k ks p6=>
   cases nN with
   |nil=>cases h4
   |cons k' nN=>simp only[mC,List.cons.injEq]at h4;rw[ih k (by simp) k' h4.1,p6 (fun x hx=>ih x (by simp[hx])) nN h4.2]
 rw[this]
theorem yxi{a b}(h:bH a=bH b):a=b:=by
 induction a generalizing b with
 |nil=>cases b with|nil=>rfl|cons _ _=>cases h
 |cons x a ih=>
  cases b with
  |nil=>cases h
  |cons y b=>simp only[bH,mC,List.cons.injEq,CV.agg.injEq,and_true]at h;rw[yYQ x y h.1,ih h.2]
variable{E:ax}(Z:Sys E)
include Z
theorem zX5(p):E.C H2 [.agg (Pred.cells p)] (.one (.clo AF [.ref (Pred.cells p)])):=by refine Z.H2 _ _ ⟨bn rfl,?_⟩;rw[Pred.bm];simp only[zXX,go_sem];try rfl
theorem VQ(hG:E.G 2=some (oR.map .str))(sw:∀p,E.It AF [.ref (Pred.cells p)] (bH p.pre))(p):E.C GB [.agg (Pred.cells p)] (.one (.int .i64 p.bO)):=by
 have h1:=ywa Z p;have h2:=yx8 Z p;have h3:=zX5 Z p;have hit:=sw p;refine Z.GB _ _ ⟨bn rfl,?_⟩;generalize hR:Pred.bO p=R;unfold Pred.bO at hR;rw[Pred.TE]at hR;rw[Pred.bm]at*
 simp only[zKd,go_sem];refine aR h1 ?_;simp only[go_sem];split
 ·rename_i h;rw[if_pos h]at hR;simp only[go_sem,hR]
 rename_i h;rw[if_neg h]at hR;refine aR h2 ?_;simp only[go_sem];split
 ·rename_i h;rw[if_pos h]at hR;simp only[go_sem,hR]
 rename_i h;rw[if_neg h]at hR;refine aR h3 ?_;simp only[go_sem];refine yJO hit (fun a=>∃l,a=bH l∧∀x∈l,Pred.err x=0) (fun _=>⟨[(2,.ptr 2 0)],[(2,[.d (.int .i64 0)])],[]⟩) ?_ ⟨[],rfl,by simp⟩ ?_ ?_
 ·exact dG (by simp only[go_sem,oS])
 ·intro a x b hx ⟨l,hl,hI⟩;obtain⟨a',q,b',e1,rfl,rfl⟩:=yxj hx;obtain rfl:=yxi hl;refine⟨rfl,?_⟩;obtain⟨o,s,n,ks⟩:=q;have hn:=ykN Z hG o s n ks;rw[Pred.bm]at hn⊢;rw[e1,Pred.yXg hI]at hR;simp only[zYa,zYb,go_sem,Pred.op,Pred.name,Pred.n,Pred.kids]at hn⊢;refine aR hn ?_;simp only[go_sem];have he:Pred.err (.mk o s n ks)=dr o s n ks:=rfl;rw[he]at hR;cases h2:(dr o s n ks !=0)with
  |true=>simp only[h2,go_sem]at hR⊢;simp only[go_sem,hR]
  |false=>simp only[go_sem];exact⟨dG (by simp only[go_sem,oS]),a'++[.mk o s n ks],by simp[bH,Pred.bm,Pred.op,Pred.name,Pred.n,Pred.kids],qi hI (by rw[he];simpa using h2)⟩
 ·rintro⟨l,hl,hI⟩
  obtain rfl:=yxi hl;rw[Pred.yXe hI]at hR;simp only[go_sem,hR]
end Go.Abs
end
section
namespace Go.Abs
open Go.RowKit
variable{T:Nat→Option Ty}{P:Program}{G:Nat→Option (List D)}
variable{l:Nat}{J:List (List CV)→World→Safe→Prop}{Jx:World→Safe→Prop}
theorem Zy{fn fa}(h:kT T fn=some fa):(fn.name== "runtime.NumGoroutine")=false∧∃cd,fn.body=some cd∧tr T fn.ntmps cd=some fa.ac∧fn.results.toList.mapM (iS T)=some fa.rs∧fn.ntmps=fa.n:=by
 simp only[kT]at h;split at h
 ·cases h
 ·rename_i ed;simp only[Option.bind_eq_bind,Option.pure_def,Option.bind_eq_some_iff,Option.some.injEq]at h;obtain⟨cd,qe,ac,nH,rs,ic,rfl⟩:=h;exact⟨by simpa using ed,cd,qe,nH,ic,rfl⟩
theorem ZN(hT:∀t ty,T t=some ty→aK P t ty=true){fn N k cd W1 S1 st tmps w S ρ}(ic:fn.results.toList.mapM (iS T)=some [.t k])(h:tr T N cd=some (.seq (.cD [(none,.mv k (.c (.d (.bool false))))]) .ret))
  (hs:aN (eA P W1 S1 N (fun _=>none)) st tmps w S ρ) (hm:st.mem=[]) {R} (hR:∀w' S',nR W1 S1 w' S'→R (.returned (.bool false)) w') {Q} (hQ:∀a w,LeavesInM Fence.wide 0 P fn a.tmps R a.defers .returning w→Q .ret a w) {m}:
  cd.wpIn (FR none) m P Q ⟨tmps,[]⟩ w:=by
 obtain⟨x,y,rfl,hx,hy⟩:=yp h;obtain rfl:=Yi hy;refine wpIn_seq (DV (K:=fun s=>aC s.ae k=.d (.bool false)∧s.mem=[]) hT hx hs ?_ ?_)
 ·simp only[go_sem,hm]
 ·rintro cH tm w' S' bu b9 ⟨h1,h2⟩
  refine wpIn_ret (hQ _ _ ⟨_,Zq hT ic b9 h2 h1,hR _ _ b9.uq⟩)
theorem yYj(hT:∀t ty,T t=some ty→aK P t ty=true){L}(hY:uh P G l (bH L) J Jx){fn}(ic:fn.results.toList.mapM (iS T)=some [.t 4])(hN:fn.ntmps=23){ks}(hlen:(ks.length:Int)≤9223372036854775807)
  (ih:∀k∈ks,Pp P (bH L) J Jx D0 [CV.agg k.cells,CV.one (D.yl l)] (bH k.pre)) {body} (iL:tr T fn.ntmps body=some Uw) {a b} (ef:bH L=a++bH (Pred.pre.gz ks)++b) {W0} {S0}
  {RR} (hRR:∀w' S',Jx w' S'→RR (.returned (.bool false)) w') {R} (Jq:∀a w,LeavesInM Fence.wide 0 P fn a.tmps RR a.defers .returning w→R .ret a w)
  (IX:∀W' S3 st tm w S' ρ,J (a++bH (Pred.pre.gz ks)) W' S3→aY W0 S0 W' S3→aN (eA P W' S3 fn.ntmps G) st tm w S' ρ→st.mem=[]→R (.exit 0) ⟨tm,[]⟩ w):
  ∀rest done,ks=done++rest→∀(W') (S3) (tm) (w) (S') (ρ),J (a++bH (Pred.pre.gz done)) W' S3→aY W0 S0 W' S3→
   aN (eA P W' S3 fn.ntmps G) (dB [(14,.int .i64 done.length),(13,.int .i64 ks.length),(12,.aw (ks.map Pred.cells)),(1,.yl l)]) tm w S' ρ→
   qF (FR none) 0 P body R ⟨tm,[]⟩ w:=by
 unfold Uw at iL;obtain⟨z0,z1,rfl,k0,k1⟩:=yp iL;obtain⟨z2,z3,rfl,k2,k3⟩:=yp k1;obtain⟨z4,z5,rfl,k4,k5⟩:=yp k3;obtain⟨zg,zy,zz,rfl,kg,ky,kz⟩:=RY k2;obtain rfl:=RZ ky;obtain rfl:=yQW kz;obtain⟨z6,rfl,k6⟩:=Zt k4;obtain⟨z7,z8,rfl,k7,k8⟩:=yp k6;obtain⟨z9,z10,rfl,k9,Rh⟩:=yp k8;obtain⟨vg,vy,vz,rfl,vk,vky,vkz⟩:=RY Rh;obtain rfl:=RZ vkz;have hd:∀d,d<23→d<fn.ntmps:=fun d hd=>by rw[hN];exact hd
 intro rest;induction rest with
 |nil=>
  intro done og W' S3 tm w S' ρ Mf fR hs;have og:ks=done:=by simpa using og
  subst og;refine TS (wpIn_seq (DV (K:=fun z=>aC z.ae 15=.d (.bool false)∧z.mem=[]) hT k0 hs ?_ ?_))
  ·simp only[go_sem,dB]
  rintro st1 X0 w1 S1 gq gL ⟨Ix,hm⟩
  refine wpIn_seq (Hk kg gL (b:=false) (by simp[ev,tR,Ix,AV.strip]) (by simp[gd,tR,Ix,AV.GK]) (fun h=>by cases h) (fun _=>wpIn_exit ?_));exact IX _ _ _ _ _ _ _ Mf fR gL hm
 |cons k rest ihr=>
  intro done og W' S3 tm w S' ρ Mf fR hs;have bf:=gw og;have hw:IntKind.i64.wrap ((done.length:Int)+1)=((done.length+1:Nat):Int):=gn (by omega);refine TS (wpIn_seq (DV (K:=fun z=>z=⟨[(15,.d (.bool true)),(14,.d (.int .i64 done.length)),(13,.d (.int .i64 ks.length)),(12,.d (.aw (ks.map Pred.cells))),(1,.d (.yl l))],[],[]⟩) hT k0 hs ?_ ?_))
  ·simp only[go_sem,dB,bf]
  rintro _ X0 w1 S1 gq gL rfl
  refine wpIn_seq (Hk kg gL (b:=true) rfl rfl (fun _=>wpIn_skip ?_) (fun h=>by cases h));refine wpIn_seq (wpIn_block (wpIn_seq (DV (K:=fun z=>∃sl mm,z=⟨(6,.ptr 6 0)::sl,(6,(Pred.cells k).map .d)::mm,[]⟩∧aC sl 14=.d (.int .i64 done.length)∧aC sl 13=.d (.int .i64 ks.length)∧aC sl 12=.d (.aw (ks.map Pred.cells))∧aC sl 1=.d (.yl l)) hT k7 gL ?_ ?_)))
  ·simp only[go_sem,bf,rJ og];exact⟨_,_,rfl,rfl,rfl,rfl,rfl⟩
  rintro _ MW w2 S2 jO jS ⟨sl,mm,rfl,vw,EH,AZ,h1⟩
  refine wpIn_seq ?_;obtain⟨id,ops,rfl,ot,kj⟩:=MY k9;obtain⟨zo,lh⟩:=vt ot;have cU:ops.size=4:=by simpa using zo.symm
  refine wpIn_region ?_;have hr:List.range ops.size=List.range' 0 2++[2,3]:=by rw[cU];rfl
  rw[hr];refine FN (c:=eA P W' S3 fn.ntmps G) (E:=lu G) rfl (fun _ _ _ h=>h.elim) hT ot (fun o ho d hd=>⟨DQ kj ho hd,rfl⟩) (FR.fw none) 0 _
   (K:=fun z=>z=⟨(19,.d (.yl l))::(18,.agg ((Pred.cells k).map .d))::(6,.ptr 6 0)::sl,(6,(Pred.cells k).map .d)::mm,[]⟩) [2,3] 2 0 (by omega) ?_ jS ?_
  case refine_2=>rw[Pred.bm];simp only[go_sem,h1]
  rintro⟨X1,ds3⟩ w3 ⟨lU,st3,S4,Ee,vj,rfl⟩
  simp only at lU;subst lU;obtain⟨WE,i2,fE,zL,zN⟩:=lh 2 ops[2] (by simp[cU]);obtain⟨gi3,i3,yz,Q2,Q3⟩:=lh 3 ops[3] (by simp[cU]);simp only[go_sem,Prod.mk.injEq]at fE yz;obtain⟨rfl,rfl⟩:=fE;rw[wpOpsIn_cons];have h4:3+1≤ops.size:=by omega
  have dQ:k∈ks:=by rw[og];simp
  have jT:bH (Pred.pre.gz ks)=bH (Pred.pre.gz done)++(bH k.pre++bH (Pred.pre.gz rest)):=by rw[og,Pred.Zp,Pred.pre.gz];simp[bH]
  refine TN (ops:=ops) (k:=2) (o:=ops[2]) (by simp[cU]) zL (Yq hY (a:=a++bH (Pred.pre.gz done)) (ys:=bH k.pre) (b:=bH (Pred.pre.gz rest)++b) (by rw[ef,jT];simp) Mf vj zN (hd _ (by omega)) rfl rfl rfl
   (cvs:=[.agg (Pred.cells k),.one (.yl l)]) ?_ (ih k dQ) [(14,.int .i64 done.length),(13,.int .i64 ks.length),(12,.aw (ks.map Pred.cells)),(1,.yl l)] ?_ ?_ ?_)
  ·simp only[go_sem]
  ·intro q hq;simp only[List.mem_cons,List.not_mem_nil,or_false]at hq;rcases hq with rfl|rfl|rfl|rfl<;>simp only[go_sem,vw,EH,AZ,h1]
  rotate_left
  ·
   intro W8 S8 OG MH Cd;refine FN (c:=eA P W8 S8 fn.ntmps fun _=>none) (E:=lu fun _=>none) rfl (fun _ _ _ h=>h.elim) hT ot (fun o ho d hd=>⟨DQ kj ho hd,rfl⟩) (FR.fw none) 0 _
    (K:=fun z=>aC z.ae 21=.d (.bool true)∧z.mem=[]) [] 1 3 h4 ?_ Cd ?_
   case refine_2=>simp only[go_sem,dB]
   rintro⟨RH,PC⟩ w4 ⟨lU,RF,S4,U0,uF,rR,hm⟩
   simp only at lU;subst lU;refine Hk vk uF (b:=true) (by simp[ev,tR,rR,AV.strip]) (by simp[gd,tR,rR,AV.GK]) (fun _=>?_) (fun h=>by cases h);refine ZN hT ic vky uF hm (fun w' S' hg=>hRR _ _ (hY.C4 _ _ _ _ MH hg)) (fun a w h=>?_);exact Jq a w h
  intro W8 S8 OG Mg Xq Cd;refine FN (c:=eA P W8 S8 fn.ntmps G) (E:=lu G) rfl (fun _ _ _ h=>h.elim) hT ot (fun o ho d hd=>⟨DQ kj ho hd,rfl⟩) (FR.fw none) 0 _
    (K:=fun z=>z=⟨(21,.d (.bool false))::(20,.d (.bool true))::(dB [(14,.int .i64 done.length),(13,.int .i64 ks.length),(12,.aw (ks.map Pred.cells)),(1,.yl l)]).ae,[],[]⟩) [] 1 3 h4 ?_ Cd ?_
  case refine_2=>simp only[go_sem,dB]
  rintro⟨RH,PC⟩ w4 ⟨lU,RF,S4,U0,uF,rfl⟩
  simp only at lU;subst lU;refine Hk vk uF (b:=false) rfl rfl (fun h=>by cases h) (fun _=>wpIn_skip ?_);refine DV (K:=fun z=>∃sl,z=⟨(14,.d (.int .i64 (done.length+1:Nat)))::sl,[],[]⟩∧aC sl 13=.d (.int .i64 ks.length)∧aC sl 12=.d (.aw (ks.map Pred.cells))∧aC sl 1=.d (.yl l)) hT k5 uF ?_ ?_
  ·simp only[go_sem,dB,hw];exact⟨_,rfl,rfl,rfl,rfl⟩
  rintro _ RI w5 S5 ρ5 QU ⟨sl5,rfl,g13,g12,g1⟩
  obtain⟨U1,QV⟩:=nF.sound QU (st1:=dB [(14,.int .i64 (done++[k]).length),(13,.int .i64 ks.length),(12,.aw (ks.map Pred.cells)),(1,.yl l)]) (dG (by simp only[go_sem,dB,g13,g12,g1,lA]));have uZ:aY W' S3 w3 _:=vj.uq.keeps (hY.live _ _ _ Mf);exact ihr (done++[k]) (by simp[og]) W8 S8 RI w5 S5 U1 (by rw[Pred.Zp,Pred.pre.gz,Pred.pre.gz];simpa[bH]using Mg) ((fR.trans uZ).trans Xq) QV
theorem yJi(hT:∀t ty,T t=some ty→aK P t ty=true){L}(hY:uh P G l (bH L) J Jx){fn}(hf:P.funcs[D0]? =some fn)(aa:kT T fn=some Ou)(p):
  Pp P (bH L) J Jx D0 [.agg (Pred.cells p),.one (.yl l)] (bH p.pre):=by
 induction p using Pred.ind with
 |h o s n ks ih=>
 obtain⟨ed,cd,qe,nH,ic,hN⟩:=Zy aa;refine⟨⟨fn,hf,ed,by simp[qe]⟩,?_⟩;intro a b W S aW ef hJ bU;refine callsIn_wide.1 (callsIn_of_wp_marks (n:=0) hf qe trivial ?_);have oQ:=Kl (P:=P) (G:=G) (fn:=fn) (by rw[hN];exact bn rfl) (hY.live _ _ _ hJ) (hY.b5 _ _ _ hJ) bU;change aN (eA P W S fn.ntmps G) _ _ _ _ _ at oQ;obtain⟨x0,y0,rfl,h0,nH⟩:=yp nH;obtain⟨x1,y1,rfl,h1,nH⟩:=yp nH;obtain⟨x2,y2,rfl,h2,h3⟩:=yp nH;obtain⟨x1a,x1b,rfl,h1a,h1b⟩:=yp h1;obtain⟨x2a,x2b,rfl,h2a,h2b⟩:=yp h2;obtain⟨x3a,x3b,rfl,h3a,h3b⟩:=yp h3;obtain rfl:=Yi h3b;obtain⟨cg,cy,cz,rfl,u6,hcy,C8⟩:=RY h1b;obtain rfl:=RZ C8;have hd:∀d,d<23→d<fn.ntmps:=fun d hd=>by rw[hN];exact hd
 rw[Pred.bm]at bU oQ;simp only[Pred.op,Pred.name,Pred.n,Pred.kids]at bU oQ;generalize dU:([D.int .i64 o,D.str s,D.int .i64 n,D.aw (ks.map Pred.cells)]:List D)=pc at bU oQ;refine wpIn_seq (DV (K:=fun z=>z=⟨[(4,.d (.bool false)),(2,.ptr 2 0),(0,.agg (pc.map .d)),(1,.d (.yl l))],[(2,pc.map .d)],[]⟩) hT h0 oQ ?_ ?_)
 ·subst dU;simp only[go_sem]
 rintro _ X0 w1 S1 gq gL rfl
 refine wpIn_seq ?_;refine wpIn_seq ?_;obtain⟨id,ops,rfl,ot,kj⟩:=MY h1a;obtain⟨hlen,lh⟩:=vt ot;have cU:ops.size=4:=by simpa using hlen.symm
 refine wpIn_region ?_;have hr:List.range ops.size=List.range' 0 2++[2,3]:=by rw[cU];rfl
 rw[hr];refine FN (c:=eA P W S fn.ntmps G) (E:=lu G) rfl (fun _ _ _ h=>h.elim) hT ot (fun o ho d hd=>⟨DQ kj ho hd,rfl⟩) (FR.fw none) 0 _
  (K:=fun z=>z=⟨[(8,.agg (pc.map .d)),(7,.d (.yl l)),(4,.d (.bool false)),(2,.ptr 2 0),(0,.agg (pc.map .d)),(1,.d (.yl l))],[(2,pc.map .d)],[]⟩) [2,3] 2 0 (by omega) ?_ gL ?_
 case refine_2=>subst dU;simp only[go_sem]
 rintro⟨MW,ds2⟩ w2 ⟨lU,qg,S2,jO,jS,rfl⟩
 simp only at lU;subst lU;obtain⟨WE,i2,fE,zL,zN⟩:=lh 2 ops[2] (by simp[cU]);obtain⟨gi3,i3,yz,Q2,Q3⟩:=lh 3 ops[3] (by simp[cU]);simp only[go_sem,Prod.mk.injEq]at fE yz;obtain⟨rfl,rfl⟩:=fE;rw[wpOpsIn_cons];have nq:bH (Pred.mk o s n ks).pre=[.agg pc]::bH (Pred.pre.gz ks):=by rw[Pred.tM,bH,mC,Pred.bm];simp only[Pred.op,Pred.name,Pred.n,Pred.kids,dU];rfl
 rw[nq]at ef;have h4:3+1≤ops.size:=by omega
 refine TN (ops:=ops) (k:=2) (o:=ops[2]) (by simp[cU]) zL (yJo hY (x:=[.agg pc]) (b:=bH (Pred.pre.gz ks)++b) (by simpa using ef) hJ jS zN (hd _ (by omega)) rfl rfl rfl ?_ [(2,.ref pc),(1,.yl l),(4,.bool false)] ?_ ?_ ?_)
 ·simp only[go_sem]
 ·subst dU;intro q hq;simp only[List.mem_cons,List.not_mem_nil,or_false]at hq;rcases hq with rfl|rfl|rfl
  ·simp only[go_sem,List.mapM_cons,List.mapM_nil,Option.bind_eq_bind,Option.bind_some,Option.pure_def]
  ·rfl
  ·rfl
 rotate_left
 ·
  intro W' S3 Ee hx3 vj;refine FN (c:=eA P W' S3 fn.ntmps fun _=>none) (E:=lu fun _=>none) rfl (fun _ _ _ h=>h.elim) hT ot (fun o ho d hd=>⟨DQ kj ho hd,rfl⟩) (FR.fw none) 0 _
   (K:=fun z=>aC z.ae 10=.d (.bool true)∧z.mem=[]) [] 1 3 h4 ?_ vj ?_
  case refine_2=>simp only[go_sem,dB]
  rintro⟨RH,PC⟩ w4 ⟨lU,RF,S4,U0,uF,rR,hm⟩
  simp only at lU;subst lU;refine Hk u6 uF (b:=true) (by simp[ev,tR,rR,AV.strip]) (by simp[gd,tR,rR,AV.GK]) (fun _=>?_) (fun h=>by cases h);refine ZN hT ic hcy uF hm (fun w' S' hg=>.inr ⟨rfl,S',hY.C4 _ _ _ _ hx3 hg⟩) (fun _ _ h=>h)
 intro W' S3 Ee hJ3 hk3 vj;refine FN (c:=eA P W' S3 fn.ntmps G) (E:=lu G) rfl (fun _ _ _ h=>h.elim) hT ot (fun o ho d hd=>⟨DQ kj ho hd,rfl⟩) (FR.fw none) 0 _
   (K:=fun z=>z=⟨[(10,.d (.bool false)),(9,.d (.bool true)),(2,.d (.ref pc)),(1,.d (.yl l)),(4,.d (.bool false))],[],[]⟩) [] 1 3 h4 ?_ vj ?_
 case refine_2=>simp only[go_sem,dB]
 rintro⟨RH,PC⟩ w4 ⟨lU,RF,S4,U0,uF,rfl⟩
 simp only at lU;subst lU;refine Hk u6 uF (b:=false) rfl rfl (fun h=>by cases h) (fun _=>wpIn_skip ?_);refine wpIn_seq ?_;refine wpIn_seq ?_;refine DV (K:=fun z=>(ks.length:Int)≤9223372036854775807∧∃sl,z=⟨(14,.d (.int .i64 0))::(13,.d (.int .i64 ks.length))::(12,.d (.aw (ks.map Pred.cells)))::sl,[],[]⟩∧aC sl 1=.d (.yl l)) hT h2a uF ?_ ?_
 ·subst dU;simp only[go_sem];intro hlen;exact⟨hlen,_,rfl,rfl⟩
 rintro _ RI w5 S5 ρ5 QU ⟨hlen,sl5,rfl,Q0⟩
 obtain⟨xl0,rfl,h2c⟩:=Zt h2b;obtain⟨xl,rfl,h2d⟩:=yQX h2c;refine wpIn_block (zWd ?_);obtain⟨U1,QV⟩:=nF.sound QU (st1:=dB [(14,.int .i64 (0:Nat)),(13,.int .i64 ks.length),(12,.aw (ks.map Pred.cells)),(1,.yl l)]) (dG (by simp only[go_sem,dB,Q0]));refine yYj hT hY ic hN hlen ih h2d (a:=a++[[.agg pc]]) (b:=b) (by rw[ef];simp) (W0:=W) (S0:=S) (RR:=_) (fun w' S' hx=>.inr ⟨rfl,S',hx⟩) (fun a w h=>h) ?_ ks [] rfl W' S3 RI w5 S5 U1 (by simpa[Pred.pre.gz,bH]using hJ3) ((jS.uq.keeps (hY.live _ _ _ hJ)).trans hk3) QV;intro W7 S7 st7 tm7 w7 S7' ρ7 WV hk7 hs7 hm7;refine wpIn_seq (DV (K:=fun z=>aC z.ae 4=.d (.bool true)∧z.mem=[]) hT h3a hs7 ?_ ?_)
 ·simp only[go_sem,hm7]
 rintro st8 tm8 w8 S8 OG Cd ⟨h8,hm8⟩
 refine wpIn_ret ⟨_,Zq hT ic Cd hm8 h8,.inl ⟨rfl,S8,?_,hk7.trans (Cd.uq.keeps (hY.live _ _ _ WV))⟩⟩;rw[nq];exact hY.grow _ W7 S7 w8 S8 (by simpa using WV) Cd.uq
theorem yvt(hT:∀t ty,T t=some ty→aK P t ty=true){fv}(wP:P.funcs[D0]? =some fv)(Q4:kT T fv=some Ou){fn}(hf:P.funcs[AF]? =some fn)(aa:kT T fn=some Oz)(p):
  mY P G AF [.ref (Pred.cells p)] (bH p.pre):=by
 obtain⟨ed,cd,qe,nH,ic,hN⟩:=Zy aa;refine⟨⟨fn,hf,ed,by simp[qe]⟩,?_⟩;intro l w S cs J0 Jx0 Y0 dy jo dU pJ vU vX Eh Fj PV;obtain⟨J,PW⟩:∃J:List (List CV)→World→Safe→Prop,J=fun pre W S1=>∃Y,J0 pre W S1 Y:=⟨_,rfl⟩;obtain⟨Jx,Iz⟩:∃Jx:World→Safe→Prop,Jx=fun W S1=>∃Y,Jx0 W S1 Y:=⟨_,rfl⟩;have hJ0:J [] w S:=by rw[PW];exact⟨Y0,PV⟩
 have hY:uh P G l (bH p.pre) J Jx:=by rw[PW,Iz];exact uh.of rfl jo pJ vU vX Eh Fj
 refine callsIn_wide.1 (callsIn_of_wp_marks (n:=0) hf qe trivial ?_);have bU:bA w S [.one (.yl l),.one (.ref (Pred.cells p))] ((#[.func (.yield l) #[] #[]]:Array Value)++cs.toArray).toList:=by obtain⟨v,r,h1,h2,h3⟩:=dU;simp only[aS]at h3;subst h3;subst h1;exact⟨_,_,rfl,rfl,_,_,rfl,h2,rfl⟩
 have oQ:=Kl (P:=P) (G:=G) (fn:=fn) (by rw[hN];exact bn rfl) dy jo bU;change aN (eA P w S fn.ntmps G) _ _ _ _ _ at oQ;obtain⟨id,ops,rfl,ot,kj⟩:=MY nH;obtain⟨zo,lh⟩:=vt ot;have cU:ops.size=3:=by simpa using zo.symm
 refine wpIn_region ?_;have hr:List.range ops.size=List.range' 0 2++[2]:=by rw[cU];rfl
 rw[hr];refine FN (c:=eA P w S fn.ntmps G) (E:=lu G) rfl (fun _ _ _ h=>h.elim) hT ot (fun o ho d hd=>⟨DQ kj ho hd,rfl⟩) (FR.fw none) 0 _
   (K:=fun z=>z=⟨[(4,.d (.yl l)),(3,.agg ((Pred.cells p).map .d)),(0,.d (.yl l)),(1,.d (.ref (Pred.cells p)))],[],[]⟩) [2] 2 0 (by omega) ?_ oQ ?_
 case refine_2=>rw[Pred.bm];simp only[go_sem]
 rintro⟨X1,ds3⟩ w3 ⟨lU,st3,S4,Ee,vj,rfl⟩
 simp only at lU;subst lU;obtain⟨WE,i2,fE,zL,zN⟩:=lh 2 ops[2] (by simp[cU]);simp only[Oz,go_sem,Prod.mk.injEq]at fE;obtain⟨rfl,rfl⟩:=fE;rw[wpOpsIn_cons];have tY:∀tm w,(results fn tm).run P w=.ok (.tuple #[]) w:=by
  intro tm w;have:fn.results=#[]:=by
   have Fb:fn.results.toList.mapM (iS T)=some []:=ic;cases hc:fn.results.toList with
   |nil=>exact Array.toList_eq_nil_iff.1 hc
   |cons x xs=>rw[hc]at Fb;simp only[List.mapM_cons,Option.bind_eq_bind,Option.bind_eq_some_iff,Option.pure_def,Option.some.injEq]at Fb;obtain⟨_,_,_,_,h⟩:=Fb;cases h
  rw[Gy,this];simp
 refine TN (ops:=ops) (k:=2) (o:=ops[2]) (by simp[cU]) zL (Yq hY (a:=[]) (ys:=bH p.pre) (b:=[]) (by simp) hJ0 vj zN (by rw[hN];exact bn rfl) rfl rfl rfl
   (cvs:=[.agg (Pred.cells p),.one (.yl l)]) ?_ (yJi hT hY wP Q4 p) [] (fun q hq=>by cases hq) ?_ ?_)
 ·rw[Pred.bm];simp only[go_sem]
 ·intro W8 S8 OG Mg Xq Cd;rw[PW]at Mg;exact⟨_,tY _ _,_,rfl,.inl ⟨S8,by simpa using Mg⟩⟩
 ·intro W8 S8 OG MH Cd;rw[Iz]at MH;exact⟨_,tY _ _,_,rfl,.inr ⟨S8,MH⟩⟩
end Go.Abs
end
section
namespace Go.Abs
abbrev aD:=List UInt8
structure b8 where
 name:aD
 sort:aD
def b8.cells(v:b8):List D:=[.str v.name,.str v.sort]
def cQ(s:aD):List D:=[.str s]
structure cI where
 name:aD
 args:List aD
 res:aD
def cI.cells(v:cI):List D:=[.str v.name,.aw (v.args.map cQ),.str v.res]
structure bI where
 name:aD
 params:List b8
def bI.cells(v:bI):List D:=[.str v.name,.aw (v.params.map b8.cells)]
structure al where
 vars:List b8
 syms:List cI
 bT:List bI
def al.cells(v:al):List D:=[.aw (v.vars.map b8.cells),.aw (v.syms.map cI.cells),.aw (v.bT.map bI.cells)]
theorem Bj{α:Type}{f:α→List D}{k}(h:∀x,(f x).length=k)(l:List α):(∀e∈l.map f,e.length=k)=True:=eq_true (by
 intro e he;obtain⟨p,_,rfl⟩:=List.mem_map.1 he;exact h p)
theorem b8.lens(l:List b8):(∀e∈l.map b8.cells,e.length=2)=True:=Bj (f:=b8.cells) (fun _=>rfl) l
theorem cI.lens(l:List cI):(∀e∈l.map cI.cells,e.length=3)=True:=Bj (f:=cI.cells) (fun _=>rfl) l
theorem bI.lens(l:List bI):(∀e∈l.map bI.cells,e.length=2)=True:=Bj (f:=bI.cells) (fun _=>rfl) l
theorem Ob(l:List aD):(∀e∈l.map cQ,e.length=1)=True:=Bj (f:=cQ) (fun _=>rfl) l
attribute [go_sem] b8.lens cI.lens bI.lens Ob
theorem getD_at{α β:Type}{f l a r}{x:α}{d:β}(hl:l=a++x::r):(l.map f).getD a.length d=f x:=by rw[hl];exact Gt _ _ _ _ _
theorem yXQ(n):((n+1:Nat):Int)-1=n:=by omega
def eQ(l:List b8)(s:aD):aD×Bool:=match l.reverse.find? (fun v=>v.name==s)with
 |some v=>(v.sort,true)
 |none=>([],false)
theorem LG{α:Type}{p a r}{x:α}(ha:∀y∈a,p y=false):(a++x::r).find? p=if p x=true then some x else r.find? p:=by
 induction a with
 |nil=>simp only[List.nil_append,List.find?];cases p x<;>rfl
 |cons y a ih=>rw[List.cons_append,List.find?,ha y (by simp)];exact ih fun z hz=>ha z (by simp[hz])
theorem LF{α:Type}{p}{a:List α}(ha:∀y∈a,p y=false):a.find? p=none:=by
 rw[List.find?_eq_none];intro x hx;rw[ha x hx];simp
theorem R4{n}(h1: -9223372036854775808≤n)(h2:n≤9223372036854775807):IntKind.i64.wrap n=n:=i64_in n ⟨h1,h2⟩
variable{E:ax}(Z:Sys E)
include Z
theorem yjI(v:al)(s:aD):E.C Kr [.agg v.cells,.one (.str s)] (.tup [.one (.str (eQ v.vars s).1),.one (.bool (eQ v.vars s).2)]):=by
 refine Z.Kr _ _ ⟨bn rfl,?_⟩;generalize hR:eQ v.vars s=R;simp only[zQM,al.cells,go_sem];intro hlen;have hw:IntKind.i64.wrap ((v.vars.length:Int)-1)=(v.vars.length:Int)-1:=R4 (by omega) (by omega);rw[hw];refine gU v.vars.reverse (fun done=>∀y∈done,(y.name==s)=false) (fun done rest=>⟨[(6,.d (.int .i64 ((rest.length:Int)-1))),(2,.ptr 2 0),(1,.d (.str s))],[(2,v.cells.map .d)],[]⟩) ?_ (by simp) ?_ ?_
 ·exact dG (by simp only[go_sem,al.cells,List.length_reverse,oS])
 ·intro done x r hl hI;have fE:v.vars=r.reverse++x::done.reverse:=by have:=congrArg List.reverse hl;simpa using this
  have hx:(v.vars.map b8.cells).getD r.length []=x.cells:=by have:=getD_at (f:=b8.cells) (d:=[]) fE;simpa using this
  have bf:(r.length:Int)<v.vars.length:=by rw[fE];simp;omega
  have qt:decide ((r.length:Int)≥0)=true:=by simp
  have qV:IntKind.i64.wrap ((r.length:Int)-1)=(r.length:Int)-1:=R4 (by omega) (by omega);unfold eQ at hR;rw[hl,LG hI]at hR;simp only[Ul,go_sem,yXQ,qt,al.cells,hx,bf,b8.cells,qV];cases h1:(x.name==s)with
  |true=>simp only[h1,go_sem]at hR⊢;simp only[←hR,and_self]
  |false=>simp only[go_sem];exact⟨dG (by simp only[go_sem,oS,al.cells]),qi hI h1⟩
 ·intro hI;unfold eQ at hR;rw[LF hI]at hR;simp only[Ul,go_sem,←hR,Int.reduceNeg,Int.zero_sub,ge_iff_le,Int.reduceSub,Int.zero_sub,Int.reduceLE]
theorem yZY(v:al)(s:aD):E.C zVp [.agg v.cells,.one (.str s)] (.tup [.one (.str (eQ v.vars s).1),.one (.bool (eQ v.vars s).2)]):=by
 refine Z.zVp _ _ ⟨bn rfl,?_⟩;generalize hR:eQ v.vars s=R;simp only[yys,al.cells,go_sem];intro hlen;have hw:IntKind.i64.wrap ((v.vars.length:Int)-1)=(v.vars.length:Int)-1:=R4 (by omega) (by omega);rw[hw];refine gU v.vars.reverse (fun done=>∀y∈done,(y.name==s)=false) (fun done rest=>⟨[(6,.d (.int .i64 ((rest.length:Int)-1))),(2,.ptr 2 0),(1,.d (.str s))],[(2,v.cells.map .d)],[]⟩) ?_ (by simp) ?_ ?_
 ·exact dG (by simp only[go_sem,al.cells,List.length_reverse,oS])
 ·intro done x r hl hI;have fE:v.vars=r.reverse++x::done.reverse:=by have:=congrArg List.reverse hl;simpa using this
  have hx:(v.vars.map b8.cells).getD r.length []=x.cells:=by have:=getD_at (f:=b8.cells) (d:=[]) fE;simpa using this
  have bf:(r.length:Int)<v.vars.length:=by rw[fE];simp;omega
  have qt:decide ((r.length:Int)≥0)=true:=by simp
  have qV:IntKind.i64.wrap ((r.length:Int)-1)=(r.length:Int)-1:=R4 (by omega) (by omega);unfold eQ at hR;rw[hl,LG hI]at hR;simp only[zZz,go_sem,yXQ,qt,al.cells,hx,bf,b8.cells,qV];cases h1:(x.name==s)with
  |true=>simp only[h1,go_sem]at hR⊢;simp only[←hR,and_self]
  |false=>simp only[go_sem];exact⟨dG (by simp only[go_sem,oS,al.cells]),qi hI h1⟩
 ·intro hI;unfold eQ at hR;rw[LF hI]at hR;simp only[zZz,go_sem,←hR,Int.reduceNeg,Int.zero_sub,ge_iff_le,Int.reduceSub,Int.zero_sub,Int.reduceLE]
end Go.Abs
end
section
namespace Go.Abs
def dH:aD:=[73,110,116]
def aL:aD:=[66,111,111,108]
def uQ:aD:=[67,101,108,108]
def eP(l:List cI)(s:aD):cI×Bool:=if s==jZ then(⟨jZ,[],dH⟩,true)else if s==oU then(⟨oU,[uQ],dH⟩,true)else
 match l.find? (fun v=>v.name==s)with
 |some v=>(v,true)
 |none=>(⟨[],[],[]⟩,false)
def fz(l:List bI)(s:aD):bI×Bool:=match l.find? (fun v=>v.name==s)with
 |some v=>(v,true)
 |none=>(⟨[],[]⟩,false)
theorem T5{α:Type}{b done:List α}(h:b.take done.length=done)(bf:done.length<b.length):∃y r',b=done++y::r':=by have:=List.take_append_drop done.length b;rw[h,List.drop_eq_getElem_cons bf]at this;exact⟨_,_,this.symm⟩
def Small(n:Nat):Prop:=n≤1048576
structure al.Ok(v:al):Prop where
 syms:∀s∈v.syms,Small s.args.length
 bT:∀h∈v.bT,Small h.params.length
variable{E:ax}(Z:Sys E)
include Z
theorem yxA(l:List aD)(hl:Small l.length):E.C Lr [.one (.aw (l.map cQ))] (.one (.aw (l.map cQ))):=by
 refine Z.Lr _ _ ⟨bn rfl,?_⟩;unfold Small at hl;have h1:l.length*16≤2^46:=by omega
 have h2:l.length≤9223372036854775807:=by omega
 simp only[zy5,go_sem];intro b hb;cases b with
 |true=>simp only[go_sem];exact congrArg D.aw (hb rfl).symm
 |false=>simp only[go_sem,List.not_mem_nil,false_implies,implies_true,zA,h1,h2]
theorem ywN(l:List b8)(hl:Small l.length):E.C Ls [.one (.aw (l.map b8.cells))] (.one (.aw (l.map b8.cells))):=by
 refine Z.Ls _ _ ⟨bn rfl,?_⟩;unfold Small at hl;have h1:l.length*32≤2^46:=by omega
 have h2:l.length≤9223372036854775807:=by omega
 simp only[zxr,go_sem];intro b hb;cases b with
 |true=>simp only[go_sem];exact congrArg D.aw (hb rfl).symm
 |false=>simp only[go_sem,List.not_mem_nil,false_implies,implies_true,zA,h1,h2]
theorem yk8(v:al)(hv:v.Ok)(s:aD):E.C KA [.agg v.cells,.one (.str s)] (.tup [.agg (eP v.syms s).1.cells,.one (.bool (eP v.syms s).2)]):=by
 refine Z.KA _ _ ⟨bn rfl,?_⟩;generalize hR:eP v.syms s=R;unfold eP at hR;simp only[zJf,al.cells,go_sem];cases h1:(s==[116,97,103])with
 |true=>simp only[jZ,h1,go_sem]at hR⊢;simp only[←hR,cI.cells,dH,mN,and_self]
 |false=>
 simp only[go_sem];cases h2:(s==[118,97,108])with
 |true=>simp only[jZ,oU,h1,h2,go_sem]at hR⊢;simp only[←hR,cI.cells,dH,uQ,cQ,mC,mN,and_self]
 |false=>
 simp only[jZ,oU,h1,h2,go_sem]at hR⊢;intro hlen;refine gU v.syms (fun done=>∀y∈done,(y.name==s)=false) (fun done rest=>⟨[(19,.d (.int .i64 done.length)),(18,.d (.int .i64 v.syms.length)),(17,.d (.aw (v.syms.map cI.cells))),(1,.d (.str s)),(4,.ptr 4 0)],[(4,[.d (.str []),.full [],.d (.str [])])],[]⟩) ?_ (by simp) ?_ ?_
 ·exact dG (by simp only[go_sem,oS])
 ·intro done x r hl hI;have hx:=getD_at (f:=cI.cells) (d:=[]) hl;have bf:=gw hl;have hw:IntKind.i64.wrap ((done.length:Int)+1)=((done.length+1:Nat):Int):=gn (by omega);rw[hl,LG hI]at hR;simp only[Ub,go_sem,hx,bf,cI.cells];cases h1:(x.name==s)with
  |true=>simp only[h1,go_sem]at hR⊢;refine aR (yxA Z _ (hv.syms x (by rw[hl];simp))) ?_;simp only[go_sem];simp only[←hR,cI.cells,and_self]
  |false=>simp only[go_sem,hw,lA];exact⟨dG (by simp only[go_sem,oS]),qi hI h1⟩
 ·intro hI;rw[LF hI]at hR;simp only[Ub,go_sem];simp only[←hR,cI.cells,mN,and_self]
theorem yk9(v:al)(hv:v.Ok)(s:aD):E.C KB [.agg v.cells,.one (.str s)] (.tup [.agg (fz v.bT s).1.cells,.one (.bool (fz v.bT s).2)]):=by
 refine Z.KB _ _ ⟨bn rfl,?_⟩;generalize hR:fz v.bT s=R;unfold fz at hR;simp only[zJg,al.cells,go_sem];intro hlen;refine gU v.bT (fun done=>∀y∈done,(y.name==s)=false) (fun done rest=>⟨[(11,.d (.int .i64 done.length)),(10,.d (.int .i64 v.bT.length)),(9,.d (.aw (v.bT.map bI.cells))),(1,.d (.str s)),(4,.ptr 4 0)],[(4,[.d (.str []),.full []])],[]⟩) ?_ (by simp) ?_ ?_
 ·exact dG (by simp only[go_sem,oS])
 ·intro done x r hl hI;have hx:=getD_at (f:=bI.cells) (d:=[]) hl;have bf:=gw hl;have hw:IntKind.i64.wrap ((done.length:Int)+1)=((done.length+1:Nat):Int):=gn (by omega);rw[hl,LG hI]at hR;simp only[T6,go_sem,hx,bf,bI.cells];cases h1:(x.name==s)with
  |true=>simp only[h1,go_sem]at hR⊢;refine aR (ywN Z _ (hv.bT x (by rw[hl];simp))) ?_;simp only[go_sem];simp only[←hR,bI.cells,and_self]
  |false=>simp only[go_sem,hw,lA];exact⟨dG (by simp only[go_sem,oS]),qi hI h1⟩
 ·intro hI;rw[LF hI]at hR;simp only[T6,go_sem];simp only[←hR,bI.cells,mN,and_self]
theorem yjj(v:al)(s:aD):E.C zXy [.agg v.cells,.one (.str s)] (.tup [.agg (eP v.syms s).1.cells,.one (.bool (eP v.syms s).2)]):=by
 refine Z.zXy _ _ ⟨bn rfl,?_⟩;generalize hR:eP v.syms s=R;unfold eP at hR;simp only[zQr,al.cells,go_sem];cases h1:(s==[116,97,103])with
 |true=>simp only[jZ,h1,go_sem]at hR⊢;simp only[←hR,cI.cells,dH,mN,and_self]
 |false=>
 simp only[go_sem];cases h2:(s==[118,97,108])with
 |true=>simp only[jZ,oU,h1,h2,go_sem]at hR⊢;simp only[←hR,cI.cells,dH,uQ,cQ,mC,mN,and_self]
 |false=>
 simp only[jZ,oU,h1,h2,go_sem]at hR⊢;refine gU v.syms (fun done=>∀y∈done,(y.name==s)=false) (fun done rest=>⟨[(6,.d (.int .i64 done.length)),(2,.ptr 2 0),(1,.d (.str s)),(4,.ptr 4 0)],[(2,[.d (.aw (v.vars.map b8.cells)),.d (.aw (v.syms.map cI.cells)),.d (.aw (v.bT.map bI.cells))]),(4,[.d (.str []),.full [],.d (.str [])])],[]⟩) ?_ (by simp) ?_ ?_
 ·exact dG (by simp only[go_sem,oS])
 ·intro done x r hl hI;have hx:=getD_at (f:=cI.cells) (d:=[]) hl;have bf:=gw hl;rw[hl,LG hI]at hR;simp only[zqj,go_sem,hx,bf,cI.cells];intro hlen;have hw:IntKind.i64.wrap ((done.length:Int)+1)=((done.length+1:Nat):Int):=gn (by omega);cases h1:(x.name==s)with
  |true=>simp only[h1,go_sem,hx,bf]at hR⊢;simp only[←hR,cI.cells,and_self]
  |false=>simp only[go_sem,hw,lA];exact⟨dG (by simp only[go_sem,oS]),qi hI h1⟩
 ·intro hI;rw[LF hI]at hR;simp only[zqj,go_sem];intro _;simp only[←hR,cI.cells,mN,and_self]
theorem yjk(v:al)(s:aD):E.C zXz [.agg v.cells,.one (.str s)] (.tup [.agg (fz v.bT s).1.cells,.one (.bool (fz v.bT s).2)]):=by
 refine Z.zXz _ _ ⟨bn rfl,?_⟩;generalize hR:fz v.bT s=R;unfold fz at hR;simp only[zQs,al.cells,go_sem];refine gU v.bT (fun done=>∀y∈done,(y.name==s)=false) (fun done rest=>⟨[(6,.d (.int .i64 done.length)),(2,.ptr 2 0),(1,.d (.str s)),(4,.ptr 4 0)],[(2,[.d (.aw (v.vars.map b8.cells)),.d (.aw (v.syms.map cI.cells)),.d (.aw (v.bT.map bI.cells))]),(4,[.d (.str []),.full []])],[]⟩) ?_ (by simp) ?_ ?_
 ·exact dG (by simp only[go_sem,oS])
 ·intro done x r hl hI;have hx:=getD_at (f:=bI.cells) (d:=[]) hl;have bf:=gw hl;rw[hl,LG hI]at hR;simp only[zqk,go_sem,hx,bf,bI.cells];intro hlen;have hw:IntKind.i64.wrap ((done.length:Int)+1)=((done.length+1:Nat):Int):=gn (by omega);cases h1:(x.name==s)with
  |true=>simp only[h1,go_sem,hx,bf]at hR⊢;simp only[←hR,bI.cells,and_self]
  |false=>simp only[go_sem,hw,lA];exact⟨dG (by simp only[go_sem,oS]),qi hI h1⟩
 ·intro hI;rw[LF hI]at hR;simp only[zqk,go_sem];intro _;simp only[←hR,bI.cells,mN,and_self]
theorem zJw(a b:List aD):E.C zwu [.one (.aw (a.map cQ)),.one (.aw (b.map cQ))] (.one (.bool (a==b))):=by
 refine Z.zwu _ _ ⟨bn rfl,?_⟩;simp only[zYd,go_sem];intro l9 fE;by_cases hlen:a.length=b.length
 ·have h1:((a.length:Int) !=(b.length:Int))=false:=by simp[hlen]
  simp only[h1,go_sem];refine gU a (fun done=>b.take done.length=done) (fun done rest=>⟨[(5,.d (.int .i64 done.length)),(0,.d (.aw (a.map cQ))),(1,.d (.aw (b.map cQ)))],[],[]⟩) ?_ (by simp) ?_ ?_
  ·exact dG (by simp only[go_sem])
  ·intro done x r hl hI;obtain⟨y,r',hb⟩:=T5 hI (by rw[←hlen,hl];simp);have hx:=getD_at (f:=cQ) (d:=[]) hl;have hy:=getD_at (f:=cQ) (d:=[]) hb;have bf:=gw hl;have iC:=gw hb;have hw:IntKind.i64.wrap ((done.length:Int)+1)=((done.length+1:Nat):Int):=gn (by omega);simp only[zw7,go_sem,hx,hy,bf,iC,cQ];intro _;cases h2:(x==y)with
   |true=>
    have:x=y:=by simpa using h2
    subst this;simp only[go_sem,hw,lA];exact⟨dG (by simp only[go_sem]),by rw[hb,show done++x::r'=(done++[x])++r' by simp];exact List.take_left' (by simp)⟩
   |false=>simp only[go_sem];symm;simp only[beq_eq_false_iff_ne,ne_eq]at h2⊢;intro e;rw[hl,hb]at e;exact h2 (List.cons.inj (List.append_cancel_left e)).1
  ·intro hI;have:a=b:=by rw[←hI,hlen,List.take_length]
   subst this;simp only[zw7,go_sem,BEq.rfl,implies_true]
 ·have h1:((a.length:Int) !=(b.length:Int))=true:=by simp;omega
  have h2:(a==b)=false:=by simp;intro h;exact hlen (by rw[h])
  simp only[h1,h2,go_sem]
end Go.Abs
end
section
namespace Go.Abs
def rZ(s:aD):Bool:=s==dH||s==aL||s==uQ
def iz(l:List aD)(s:aD):Bool:=l.all (· ==s)
def LB(o:Int)(l:List aD):aD×Int:=
 if o==6||o==7||o==8||o==9 then(if iz l dH then(dH,0)else([],11))
 else if o==12||o==13 then(if iz l dH then(aL,0)else([],11))
 else if o==10||o==11 then(if l.getD 0 []==l.getD 1 []then(aL,0)else([],11))
 else if iz l aL then(aL,0)else([],11)
def wD(v:al)(s:aD)(l:List aD):aD×Int:=
 if !(eP v.syms s).2 then([],5)
 else if s==jZ then(if(l.length:Int) !=1 then([],13)else if rZ (l.getD 0 [])then([],11)else(dH,0))
 else if(l.length:Int) !=(eP v.syms s).1.args.length then([],13)
 else if !(l==(eP v.syms s).1.args)then([],11)else((eP v.syms s).1.res,0)
def rH(v:al)(s:aD)(l:List aD):aD×Int:=
 if !(fz v.bT s).2 then([],5)
 else if(l.length:Int) !=(fz v.bT s).1.params.length then([],13)
 else if !(l==(fz v.bT s).1.params.map b8.sort)then([],11)else(aL,0)
def two(r:aD×Int):CV:=.tup [.one (.str r.1),.one (.int .i64 r.2)]
theorem yYv{l a r x s}(hl:l=a++x::r)(ha:∀y∈a,(y==s)=true):iz l s=((x==s)&&iz r s):=by rw[hl];unfold iz;rw[List.all_append,List.all_cons,List.all_eq_true.2 ha,Bool.true_and]
theorem yYs{a s}(ha:∀y∈a,(y==s)=true):iz a s=true:=List.all_eq_true.2 ha
theorem yX0{α β:Type}{f}{l:List α}{a b}{x:β}(h:l.map f=a++x::b):∃a' y b',l=a'++y::b'∧a'.map f=a∧x=f y:=by obtain⟨a',r,h1,h2,h3⟩:=List.map_eq_append_iff.1 h;obtain⟨p,b',h4,h5,h6⟩:=List.map_eq_cons_iff.1 h3;exact⟨a',p,b',by rw[h1,h4],h2,h5.symm⟩
variable{E:ax}(Z:Sys E)
include Z
theorem zJy(s:aD):E.C Lf [.one (.str s)] (.one (.bool (rZ s))):=by refine Z.Lf _ _ ⟨bn rfl,?_⟩;simp only[zYg,go_sem,rZ,dH,aL,uQ]
theorem yy2(l)(s:aD):E.C TQ [.one (.aw (l.map cQ)),.one (.str s)] (.one (.bool (iz l s))):=by
 refine Z.TQ _ _ ⟨bn rfl,?_⟩;generalize hR:iz l s=R;simp only[yyv,go_sem];refine gU l (fun done=>∀y∈done,(y==s)=true) (fun done rest=>⟨[(5,.d (.int .i64 done.length)),(0,.d (.aw (l.map cQ))),(1,.d (.str s))],[],[]⟩) ?_ (by simp) ?_ ?_
 ·exact dG (by simp only[go_sem])
 ·intro done x r hl hI;have hx:=getD_at (f:=cQ) (d:=[]) hl;have bf:=gw hl;rw[yYv hl hI]at hR;simp only[zZC,go_sem,hx,bf,cQ];intro hlen;have hw:IntKind.i64.wrap ((done.length:Int)+1)=((done.length+1:Nat):Int):=gn (by omega);cases h1:(x==s)with
  |true=>simp only[h1,go_sem,hw,lA];exact⟨dG (by simp only[go_sem]),qi hI h1⟩
  |false=>simp only[h1,go_sem]at hR⊢;exact hR
 ·intro hI;rw[yYs hI]at hR;subst hR;simp only[zZC,go_sem,implies_true]
theorem zWb(s:aD):E.C F3 [.one (.str s)] (.one (.clo CC [.ref [.str s]])):=by refine Z.F3 _ _ ⟨bn rfl,?_⟩;simp only[zX2,go_sem];all_goals rfl
theorem zYk(l)(s:aD):E.C CC [.one (.aw (l.map cQ)),.one (.ref [.str s])] (.one (.bool (iz l s))):=by
 refine Z.CC _ _ ⟨bn rfl,?_⟩;generalize hR:iz l s=R;simp only[zYf,go_sem];intro hlen;refine gU l (fun done=>∀y∈done,(y==s)=true) (fun done rest=>⟨[(8,.d (.int .i64 done.length)),(7,.d (.int .i64 l.length)),(6,.d (.aw (l.map cQ))),(1,.d (.ref [.str s]))],[],[]⟩) ?_ (by simp) ?_ ?_
 ·exact dG (by simp only[go_sem])
 ·intro done x r hl hI;have hx:=getD_at (f:=cQ) (d:=[]) hl;have bf:=gw hl;have hw:IntKind.i64.wrap ((done.length:Int)+1)=((done.length+1:Nat):Int):=gn (by omega);rw[yYv hl hI]at hR;simp only[UD,go_sem,hx,bf,cQ];cases h1:(x==s)with
  |true=>simp only[h1,go_sem,hw,lA];exact⟨dG (by simp only[go_sem]),qi hI h1⟩
  |false=>simp only[h1,go_sem]at hR⊢;exact hR
 ·intro hI;rw[yYs hI]at hR;subst hR;simp only[UD,go_sem]
theorem zWK(l:List aD)(hl:2≤l.length):E.C HD [.one (.aw (l.map cQ))] (.one (.bool (l.getD 0 []==l.getD 1 []))):=by
 match l,hl with
 |a::b::r,_=>
  refine Z.HD _ _ ⟨bn rfl,?_⟩;have h:=Ob (a::b::r);have h1:(0:Int)<((r.length+1+1:Nat):Int):=by omega
  have h2:(1:Int)<((r.length+1+1:Nat):Int):=by omega
  simp only[mC]at h;simp only[zjB,go_sem,h,cQ,h1,h2]at h⊢
def uP(o:Int):D×aD:=
 if o==6||o==7||o==8||o==9 then(.clo CC [.ref [.str dH]],dH)
 else if o==12||o==13 then(.clo CC [.ref [.str dH]],aL)
 else if o==10||o==11 then(.clo HD [],aL)
 else(.clo CC [.ref [.str aL]],aL)
theorem zVz(o):E.C Li [.one (.int .i64 o)] (.agg [(uP o).1,.str (uP o).2]):=by
 refine Z.Li _ _ ⟨bn rfl,?_⟩;generalize hR:uP o=R;unfold uP at hR;have ha:=zWb Z dH;have hb:=zWb Z aL;simp only[dH,aL]at ha hb hR;simp only[zq1,go_sem];cases h6:(o==6)<;>cases h7:(o==7)<;>cases h8:(o==8)<;>cases h9:(o==9)<;>cases AZ:(o==12)<;>cases EH:(o==13)<;>cases rR:(o==10)<;>cases vH:(o==11)<;>
  first
  |(exfalso;simp at*;omega)
  |(simp only[go_sem,h6,h7,h8,h9,rR,vH,AZ,EH]at hR⊢;first|(refine aR ha ?_;simp only[go_sem,←hR])|(refine aR hb ?_;simp only[go_sem,←hR])|simp only[go_sem,←hR])
theorem zKO(v)(hv:v.Ok)(s:aD)(l):E.C Lj [.agg v.cells,.one (.str s),.one (.aw (l.map cQ))] (two (wD v s l)):=by
 have hf:=yk8 Z v hv s;refine Z.Lj _ _ ⟨bn rfl,?_⟩;generalize hR:wD v s l=R;unfold wD at hR;try unfold two
 rw[al.cells]at*
 simp only[zj3,go_sem];refine aR hf ?_;have MF:(s==jZ)=true→(eP v.syms s).1.res=dH:=by intro h;unfold eP;rw[if_pos h]
 generalize eP v.syms s=q at*
 obtain⟨⟨qn,qa,qr⟩,qb⟩:=q;simp only[go_sem,cI.cells]at hR⊢;cases qb with
 |false=>simp only[go_sem]at hR⊢;simp only[go_sem,←hR]
 |true=>
 simp only[go_sem]at hR⊢;cases h1:(s==jZ)with
 |true=>
  have nJ:=h1;simp only[jZ]at nJ;have hq:=MF h1;simp only at hq;simp only[go_sem,h1,nJ]at hR⊢;intro hlen;cases h2:((l.length:Int) !=1)with
  |true=>simp only[go_sem,h2]at hR⊢;simp only[go_sem,←hR]
  |false=>
   simp only[go_sem,h2]at hR⊢;have h3:l.length=1:=by simp at h2;omega
   match l,h3 with
   |[x],_=>simp only[go_sem,cQ]at hR⊢;refine aR (zJy Z x) ?_;cases h4:rZ x<;>simp only[go_sem,h4]at hR⊢<;>simp only[go_sem,←hR,hq]
 |false=>
  have nJ:=h1;simp only[jZ]at nJ;simp only[go_sem,h1,nJ]at hR⊢;intro hlen wR;by_cases h2:l.length=qa.length
  ·have h3:((l.length:Int) !=(qa.length:Int))=false:=by simp[h2]
   simp only[go_sem,h3]at hR⊢;intro _;refine gU l (fun done=>qa.take done.length=done) (fun done rest=>⟨[(39,.d (.int .i64 done.length)),(38,.d (.int .i64 l.length)),(37,.d (.aw (l.map cQ))),(8,.ptr 8 0)],[(8,[.d (.str qn),.d (.aw (qa.map cQ)),.d (.str qr)])],[]⟩) ?_ (by simp) ?_ ?_
   ·exact dG (by simp only[go_sem,oS])
   ·intro done x r hl hI;obtain⟨y,r',hb⟩:=T5 hI (by rw[←h2,hl];simp);have hx:=getD_at (f:=cQ) (d:=[]) hl;have hy:=getD_at (f:=cQ) (d:=[]) hb;have bf:=gw hl;have iC:=gw hb;have hw:IntKind.i64.wrap ((done.length:Int)+1)=((done.length+1:Nat):Int):=gn (by omega);simp only[UK,go_sem,hx,hy,bf,iC,cQ];cases h4:(x==y)with
    |true=>
     have:x=y:=by simpa using h4
     subst this;simp only[go_sem,hw,lA];exact⟨dG (by simp only[go_sem,oS]),by rw[hb,show done++x::r'=(done++[x])++r' by simp];exact List.take_left' (by simp)⟩
    |false=>
     have h5:(l==qa)=false:=by simp only[beq_eq_false_iff_ne,ne_eq]at h4⊢;intro e;rw[hl,hb]at e;exact h4 (List.cons.inj (List.append_cancel_left e)).1
     simp only[go_sem,h5]at hR⊢;simp only[go_sem,←hR]
   ·intro hI;have h5:l=qa:=by rw[←hI,h2,List.take_length]
    subst h5;simp only[go_sem,BEq.rfl]at hR;simp only[UK,go_sem,←hR]
  ·have h3:((l.length:Int) !=(qa.length:Int))=true:=by simp;omega
   simp only[go_sem,h3]at hR⊢;simp only[go_sem,←hR]
theorem zVy(v)(hv:v.Ok)(s:aD)(l):E.C Lh [.agg v.cells,.one (.str s),.one (.aw (l.map cQ))] (two (rH v s l)):=by
 have hf:=yk9 Z v hv s;refine Z.Lh _ _ ⟨bn rfl,?_⟩;generalize hR:rH v s l=R;unfold rH at hR;try unfold two
 rw[al.cells]at*
 simp only[zq0,go_sem];refine aR hf ?_;generalize fz v.bT s=q at*
 obtain⟨⟨qn,qa⟩,qb⟩:=q;simp only[go_sem,bI.cells]at hR⊢;cases qb with
 |false=>simp only[go_sem]at hR⊢;simp only[go_sem,←hR]
 |true=>
 simp only[go_sem]at hR⊢;intro hlen wR;by_cases h2:l.length=qa.length
 ·have h3:((l.length:Int) !=(qa.length:Int))=false:=by simp[h2]
  simp only[go_sem,h3]at hR⊢;intro _;refine gU l (fun done=>(qa.map b8.sort).take done.length=done) (fun done rest=>⟨[(28,.d (.int .i64 done.length)),(27,.d (.int .i64 l.length)),(26,.d (.aw (l.map cQ))),(8,.ptr 8 0)],[(8,[.d (.str qn),.d (.aw (qa.map b8.cells))])],[]⟩) ?_ (by simp) ?_ ?_
  ·exact dG (by simp only[go_sem,oS])
  ·intro done x r hl hI;obtain⟨y0,r0,x8⟩:=T5 hI (by rw[lM,←h2,hl];simp);obtain⟨da,y,r',hb,Xd,rfl⟩:=yX0 x8;have hx:=getD_at (f:=cQ) (d:=[]) hl;have hy:=getD_at (f:=b8.cells) (d:=[]) hb;have yy:da.length=done.length:=by rw[←Xd];simp
   rw[yy]at hy;have bf:=gw hl;have iC:=gw hb;rw[yy]at iC;have hw:IntKind.i64.wrap ((done.length:Int)+1)=((done.length+1:Nat):Int):=gn (by omega);simp only[UG,go_sem,hx,hy,bf,iC,cQ,b8.cells];cases h4:(x==y.sort)with
   |true=>
    have lz:x=y.sort:=by simpa using h4
    simp only[go_sem,hw,lA];exact⟨dG (by simp only[go_sem,oS]),by rw[x8,←lz,show done++x::r0=(done++[x])++r0 by simp];exact List.take_left' (by simp)⟩
   |false=>
    have h5:(l==qa.map b8.sort)=false:=by simp only[beq_eq_false_iff_ne,ne_eq]at h4⊢;intro e;rw[hl,x8]at e;exact h4 (List.cons.inj (List.append_cancel_left e)).1
    simp only[go_sem,h5]at hR⊢;simp only[go_sem,←hR]
  ·intro hI;have h5:(l==qa.map b8.sort)=true:=by have e:(qa.map b8.sort).take l.length=qa.map b8.sort:=List.take_of_length_le (by rw[lM,h2];exact Nat.le_refl _);rw[beq_iff_eq];exact hI.symm.trans e
   simp only[go_sem,h5]at hR;simp only[UG,go_sem,←hR,aL]
 ·have h3:((l.length:Int) !=(qa.length:Int))=true:=by simp;omega
  simp only[go_sem,h3]at hR⊢;simp only[go_sem,←hR]
end Go.Abs
end
section
namespace Go.Abs
def jV(v:al)(o:Int)(s:aD)(l:List aD):aD×Int:=
 if o==1 then(dH,0)else if o==2 then(aL,0)
 else if o==3 then(if !(eQ v.vars s).2 then([],5)else((eQ v.vars s).1,0))
 else if o==4 then wD v s l else if o==5 then rH v s l else LB o l
theorem yW5{α:Type}{l:List α}(h:2≤l.length):∃a b r,l=a::b::r:=by
 match l,h with
 |a::b::r,_=>exact⟨a,b,r,rfl⟩
variable{E:ax}(Z:Sys E)
include Z
theorem yZ0(v)(s:aD)(l):E.C zVr [.agg v.cells,.one (.str s),.one (.aw (l.map cQ))] (two (wD v s l)):=by
 have hf:=yjj Z v s;refine Z.zVr _ _ ⟨bn rfl,?_⟩;generalize hR:wD v s l=R;unfold wD at hR;try unfold two
 rw[al.cells]at*
 simp only[yyw,go_sem];refine aR hf ?_;have MF:(s==jZ)=true→(eP v.syms s).1.res=dH:=by intro h;unfold eP;rw[if_pos h]
 generalize eP v.syms s=q at*
 obtain⟨⟨qn,qa,qr⟩,qb⟩:=q;simp only[go_sem,cI.cells]at hR⊢;cases qb with
 |false=>simp only[go_sem]at hR⊢;simp only[go_sem,←hR]
 |true=>
 simp only[go_sem]at hR⊢;cases h1:(s==jZ)with
 |true=>
  have nJ:=h1;simp only[jZ]at nJ;simp only[go_sem,h1,nJ]at hR⊢;intro hlen;cases h2:((l.length:Int) !=1)with
  |true=>simp only[go_sem,h2]at hR⊢;simp only[go_sem,←hR]
  |false=>
   simp only[go_sem,h2]at hR⊢;have h3:l.length=1:=by simp at h2;omega
   match l,h3 with
   |[x],_=>
    simp only[go_sem,cQ,rZ,dH,aL,uQ]at hR⊢;have hb:∀b:Bool,(b=false→(0:Int)<1)=True:=fun b=>eq_true fun _=>by omega
    have oM:∀b:Bool,(b=true→(0:Int)<1)=True:=fun b=>eq_true fun _=>by omega
    try simp only[hb,oM,go_sem]
    cases h4:(x==[73,110,116]||x==[66,111,111,108]||x==[67,101,108,108])<;>simp only[go_sem,h4]at hR⊢<;>simp only[go_sem,←hR]<;>simp
 |false=>
  have nJ:=h1;simp only[jZ]at nJ;simp only[go_sem,h1,nJ]at hR⊢;intro hlen wR;cases h2:((l.length:Int) !=qa.length)with
  |true=>simp only[go_sem,h2]at hR⊢;simp only[go_sem,←hR]
  |false=>simp only[go_sem,h2]at hR⊢;refine aR (zJw Z l qa) ?_;cases h3:(l==qa)<;>simp only[go_sem,h3]at hR⊢<;>simp only[go_sem,←hR]
theorem zJx(o)(l)(hl:(o==10||o==11)=true→2≤l.length):E.C zwv [.one (.int .i64 o),.one (.aw (l.map cQ))] (two (LB o l)):=by
 have h1:=yy2 Z l dH;have h2:=yy2 Z l aL;refine Z.zwv _ _ ⟨bn rfl,?_⟩;generalize hR:LB o l=R;unfold LB at hR;try unfold two
 simp only[zYe,go_sem];simp only[dH,aL]at hR h1 h2;cases h6:(o==6||o==7||o==8||o==9)with
 |true=>
  simp only[h6,go_sem]at hR;cases e6:(o==6)<;>cases e7:(o==7)<;>cases e8:(o==8)<;>cases e9:(o==9)<;>first|(exfalso;simp_all;done)|skip
  all_goals
   simp only[go_sem];refine aR h1 ?_;cases h3:iz l [73,110,116]<;>simp only[go_sem,h3]at hR⊢<;>simp only[go_sem,←hR]
 |false=>
  have e6:(o==6)=false:=by cases h:(o==6)<;>simp_all
  have e7:(o==7)=false:=by cases h:(o==7)<;>simp_all
  have e8:(o==8)=false:=by cases h:(o==8)<;>simp_all
  have e9:(o==9)=false:=by cases h:(o==9)<;>simp_all
  simp only[h6,e6,e7,e8,e9,go_sem]at hR⊢;cases L4:(o==10)<;>cases Wx:(o==11)<;>cases Wy:(o==12)<;>cases L5:(o==13)<;>first|(exfalso;simp_all;done)|skip
  all_goals
   simp only[L4,Wx,Wy,L5,go_sem]at hR hl⊢
  all_goals first
   |(refine aR h1 ?_;cases h3:iz l [73,110,116]<;>simp only[go_sem,h3]at hR⊢<;>simp only[go_sem,←hR])
   |(refine aR h2 ?_;cases h3:iz l [66,111,111,108]<;>simp only[go_sem,h3]at hR⊢<;>simp only[go_sem,←hR])
   |(obtain⟨a,b,r,rfl⟩:=yW5 hl
     have rD:(0:Int)<((r.length+1+1:Nat):Int):=by omega
     have iC:(1:Int)<((r.length+1+1:Nat):Int):=by omega
     have CM:=Ob (a::b::r);simp only[mC]at CM;simp only[go_sem,rD,iC,cQ]at hR CM⊢;try simp only[CM,go_sem]
     cases h3:(a==b)<;>simp only[go_sem,h3]at hR⊢<;>simp only[go_sem,←hR])
theorem yjq(v)(s:aD)(l):E.C zXD [.agg v.cells,.one (.str s),.one (.aw (l.map cQ))] (two (rH v s l)):=by
 have hf:=yjk Z v s;refine Z.zXD _ _ ⟨bn rfl,?_⟩;generalize hR:rH v s l=R;unfold rH at hR;try unfold two
 rw[al.cells]at*
 simp only[zQD,go_sem];refine aR hf ?_;generalize fz v.bT s=q at*
 obtain⟨⟨qn,qa⟩,qb⟩:=q;simp only[go_sem,bI.cells]at hR⊢;cases qb with
 |false=>simp only[go_sem]at hR⊢;simp only[go_sem,←hR]
 |true=>
 simp only[go_sem]at hR⊢;intro hlen wR;by_cases h2:l.length=qa.length
 ·have h3:((l.length:Int) !=(qa.length:Int))=false:=by simp[h2]
  simp only[go_sem,h3]at hR⊢;refine gU l (fun done=>(qa.map b8.sort).take done.length=done) (fun done rest=>⟨[(10,.d (.int .i64 done.length)),(2,.d (.aw (l.map cQ))),(8,.ptr 8 0)],[(8,[.d (.str qn),.d (.aw (qa.map b8.cells))])],[]⟩) ?_ (by simp) ?_ ?_
  ·exact dG (by simp only[go_sem,oS])
  ·intro done x r hl hI;obtain⟨y0,r0,x8⟩:=T5 hI (by rw[lM,←h2,hl];simp);obtain⟨da,y,r',hb,Xd,rfl⟩:=yX0 x8;have hx:=getD_at (f:=cQ) (d:=[]) hl;have hy:=getD_at (f:=b8.cells) (d:=[]) hb;have yy:da.length=done.length:=by rw[←Xd];simp
   rw[yy]at hy;have bf:=gw hl;have iC:=gw hb;rw[yy]at iC;have hw:IntKind.i64.wrap ((done.length:Int)+1)=((done.length+1:Nat):Int):=gn (by omega);simp only[zqp,go_sem,hx,hy,bf,iC,cQ,b8.cells];intro _;cases h4:(x==y.sort)with
   |true=>
    have lz:x=y.sort:=by simpa using h4
    simp only[go_sem,hw,lA];exact⟨dG (by simp only[go_sem,oS]),by rw[x8,←lz,show done++x::r0=(done++[x])++r0 by simp];exact List.take_left' (by simp)⟩
   |false=>
    have h5:(l==qa.map b8.sort)=false:=by simp only[beq_eq_false_iff_ne,ne_eq]at h4⊢;intro e;rw[hl,x8]at e;exact h4 (List.cons.inj (List.append_cancel_left e)).1
    simp only[go_sem,h5]at hR⊢;simp only[go_sem,←hR]
  ·intro hI;have h5:(l==qa.map b8.sort)=true:=by have e:(qa.map b8.sort).take l.length=qa.map b8.sort:=List.take_of_length_le (by rw[lM,h2];exact Nat.le_refl _);rw[beq_iff_eq];exact hI.symm.trans e
   simp only[go_sem,h5]at hR;simp only[zqp,go_sem,←hR,aL,implies_true]
 ·have h3:((l.length:Int) !=(qa.length:Int))=true:=by simp;omega
  simp only[go_sem,h3]at hR⊢;simp only[go_sem,←hR]
end Go.Abs
end
section
namespace Go.Abs
variable{E:ax}(Z:Sys E)
include Z
theorem yzG(v)(hv:v.Ok)(o)(s:aD)(n)(ks)(l)(hl:(o==10||o==11)=true→2≤l.length):
  E.C KW [.agg v.cells,.agg (Pred.cells (.mk o s n ks)),.one (.aw (l.map cQ))] (two (jV v o s l)):=by
 have fH:=yjI Z v s;have IF:=zKO Z v hv s l;have Qm:=zVy Z v hv s l;have QQ:=zVz Z o;have EM:=zYk Z l dH;have P8:=zYk Z l aL;refine Z.KW _ _ ⟨bn rfl,?_⟩;generalize hR:jV v o s l=R;unfold jV at hR;unfold two at*
 rw[al.cells]at*
 rw[Pred.bm];simp only[zYO,go_sem,Pred.op,Pred.name,Pred.n,Pred.kids];cases h1:(o==1)with
 |true=>simp only[h1,go_sem,dH]at hR⊢;simp only[go_sem,←hR]
 |false=>
 cases h2:(o==2)with
 |true=>simp only[h1,h2,go_sem,aL]at hR⊢;simp only[go_sem,←hR]
 |false=>
 cases h3:(o==3)with
 |true=>simp only[h1,h2,h3,go_sem]at hR⊢;refine aR fH ?_;simp only[go_sem];cases h:(eQ v.vars s).2<;>simp only[h,go_sem]at hR⊢<;>simp only[go_sem,←hR]
 |false=>
 cases h4:(o==4)with
 |true=>simp only[h1,h2,h3,h4,go_sem]at hR⊢;refine aR IF ?_;simp only[go_sem,hR]
 |false=>
 cases h5:(o==5)with
 |true=>simp only[h1,h2,h3,h4,h5,go_sem]at hR⊢;refine aR Qm ?_;simp only[go_sem,hR]
 |false=>
 simp only[h1,h2,h3,h4,h5,go_sem]at hR⊢;refine aR QQ ?_;unfold LB at hR;unfold uP;cases h6:(o==6||o==7||o==8||o==9)with
 |true=>simp only[h6,go_sem]at hR⊢;refine aR EM ?_;cases h:iz l dH<;>simp only[h,go_sem]at hR⊢<;>simp only[go_sem,←hR]
 |false=>
 cases h7:(o==12||o==13)with
 |true=>simp only[h6,h7,go_sem]at hR⊢;refine aR EM ?_;cases h:iz l dH<;>simp only[h,go_sem]at hR⊢<;>simp only[go_sem,←hR]
 |false=>
 cases h8:(o==10||o==11)with
 |true=>simp only[h6,h7,h8,go_sem]at hR hl⊢;refine aR (zWK Z l hl) ?_;cases h:(l.getD 0 []==l.getD 1 [])<;>simp only[h,go_sem]at hR⊢<;>simp only[go_sem,←hR]
 |false=>simp only[h6,h7,h8,go_sem]at hR⊢;refine aR P8 ?_;cases h:iz l aL<;>simp only[h,go_sem]at hR⊢<;>simp only[go_sem,←hR]
end Go.Abs
end
section
namespace Go.Abs
def cM(v:al):Pred→aD×Int
 |.mk o s n ks=>if mF ks !=0 then([],mF ks)else jV v o s (xh ks)
where
 mF:List Pred→Int
 |[]=>0
 |k::ks=>if(cM v k).2 !=0 then(cM v k).2 else mF ks
 xh:List Pred→List aD
 |[]=>[]
 |k::ks=>(cM v k).1::xh ks
theorem Gq(v)(o)(s:aD)(n)(ks):cM v (.mk o s n ks)=if cM.mF v ks !=0 then([],cM.mF v ks)else jV v o s (ks.map fun k=>(cM v k).1):=by
 rw[cM];have:cM.xh v ks=ks.map fun k=>(cM v k).1:=by
  induction ks with
  |nil=>rfl
  |cons k ks ih=>rw[cM.xh,ih];rfl
 rw[this]
theorem yj8{v a b k}(ha:∀x∈a,(cM v x).2=0):cM.mF v (a++k::b)=if(cM v k).2 !=0 then(cM v k).2 else cM.mF v b:=by
 induction a with
 |nil=>rfl
 |cons x a ih=>rw[List.cons_append,cM.mF,ha x (by simp)];exact ih fun y hy=>ha y (by simp[hy])
theorem Vq{v a}(ha:∀x∈a,(cM v x).2=0):cM.mF v a=0:=by
 induction a with
 |nil=>rfl
 |cons x a ih=>rw[cM.mF,ha x (by simp)];exact ih fun y hy=>ha y (by simp[hy])
def vC(q:Pred):Prop:=((q.op==10||q.op==11)=true→2≤q.kids.length)∧q.kids.length≤24
def pA(p:Pred):Prop:=∀q∈p.pre,vC q
theorem pA.ej{o}{s:aD}{n ks}(h:pA (.mk o s n ks)){k}(hk:k∈ks):pA k:=by
 intro q hq;refine h q ?_;rw[Pred.tM];refine List.mem_cons_of_mem _ ?_;clear h;induction ks with
 |nil=>cases hk
 |cons x ks ih=>
  rw[Pred.pre.gz,List.mem_append];rcases List.mem_cons.1 hk with rfl|hk
  ·exact .inl hq
  ·exact .inr (ih hk)
theorem pA.top{o}{s:aD}{n ks}(h:pA (.mk o s n ks)):vC (.mk o s n ks):=h _ (by rw[Pred.tM];simp)
theorem SO:∀{l},Pred.first l=0→∀q∈l,Pred.err q=0
 |[],_,q,hq=>by cases hq
 |p::l,h,q,hq=>by
  rw[Pred.first]at h;by_cases hp:(Pred.err p !=0)=true
  ·rw[if_pos hp]at h;simp[h]at hp
  ·rw[if_neg hp]at h;rcases List.mem_cons.1 hq with rfl|hq
   ·simpa using hp
   ·exact SO h q hq
theorem yZM{q}(h:Pred.err q=0):vC q:=by
 obtain⟨o,s,n,ks⟩:=q;change dr o s n ks=0 at h;unfold dr at h;by_cases h1:(decide (o<1)||decide (o>18)||!s==[]&&!bG o||n !=0&&!(o==1||o==2)||!bN o ks.length)=true
 ·rw[if_pos h1]at h;cases h
 ·simp only[Bool.or_eq_true,not_or]at h1;have hk:bN o ks.length=true:=by simpa using h1.2
  unfold bN at hk;refine⟨fun ho=>?_,?_⟩<;>simp only[Pred.op,Pred.kids]at*
  ·split at hk
   ·simp at ho;simp_all;omega
   ·split at hk
    ·simp at ho;simp_all;omega
    ·split at hk
     ·simp at ho;simp_all;omega
     ·simp at hk;omega
  ·split at hk
   ·simp at hk;simp[hk]
   ·split at hk
    ·simp at hk;omega
    ·split at hk<;>(simp at hk;omega)
theorem yjX{p}(h:Pred.eL p=0):pA p:=by rw[Pred.TE]at h;exact fun q hq=>yZM (SO h q hq)
variable{E:ax}(Z:Sys E)
include Z
theorem yzF(v)(hv:v.Ok){b7 b2}(h7:E.G b7=some [.clo yv [.gp b7 0,.gp b2 0]])(h2:E.G b2=some v.cells)(p)(hp:pA p):
  E.C yv [.agg p.cells,.one (.gp b7 0),.one (.gp b2 0)] (two (cM v p)):=by
 induction p using Pred.ind with
 |h o s n ks ih=>
 have hn:=fun l hl=>yzG Z v hv o s n ks l hl;refine Z.yv _ _ ⟨bn rfl,?_⟩;generalize hR:cM v (.mk o s n ks)=R;rw[Gq]at hR;unfold two at*
 rw[al.cells]at*
 rw[Pred.bm]at*
 simp only[zYN,go_sem,Pred.op,Pred.name,Pred.n,Pred.kids]at hn⊢;intro hlen;have I5:=hp.top.2;simp only[Pred.kids]at I5;refine gU ks (fun done=>∀x∈done,(cM v x).2=0) (fun done rest=>⟨[(14,.d (.int .i64 done.length)),(13,.d (.int .i64 ks.length)),(12,.d (.aw (ks.map Pred.cells))),(1,.d (.gp b7 0)),(2,.d (.gp b2 0)),(3,.ptr 3 0),(6,.own 6 1 ((done.map fun k=>(cM v k).1).map cQ))],[(3,[.d (.int .i64 o),.d (.str s),.d (.int .i64 n),.d (.aw (ks.map Pred.cells))])],[(6,true)]⟩) ?_ (by simp) ?_ ?_
 ·exact Bp 6 6 1 [] [(6,6)] rfl (by simp) rfl (by simp only[jz,go_sem,cN,oS])
 ·intro done k r hl hI;have fR:=ih k (by rw[hl];simp) (hp.ej (by rw[hl];simp));have bf:=gw hl;have hw:IntKind.i64.wrap ((done.length:Int)+1)=((done.length+1:Nat):Int):=gn (by omega);rw[hl,yj8 hI,←hl]at hR;have hd:done.length≤24:=by omega
  have yY:(done.length+1)*16≤2^46:=by omega
  have ha2:done.length+1≤9223372036854775807:=by omega
  simp only[Uc,go_sem,bf,rJ hl,h7];refine aR fR ?_;simp only[go_sem];cases h3:((cM v k).2 !=0)with
  |true=>simp only[h3,go_sem]at hR⊢;simp only[go_sem,←hR]
  |false=>simp only[go_sem,hw,lA,Ob,lM];refine⟨⟨by simp,yY,by omega⟩,jP [(6,30)] ?_,qi hI (by simpa using h3)⟩;simp only[go_sem,cN,oS,mA,cQ]
 ·intro hI;rw[Vq hI]at hR;have hR:jV v o s (ks.map fun k=>(cM v k).1)=R:=hR;simp only[Uc,go_sem,h2];refine aR (hn _ (by rw[lM];exact hp.top.1)) ?_;simp only[go_sem,hR]
end Go.Abs
end
section
namespace Go.Abs
structure We(X:(Nat→Option (List D))→ax):Prop where
 sys:∀G,Sys (X G)
 G:∀G,(X G).G=G
 it:∀G p,(X G).It AF [.ref (Pred.cells p)] (bH p.pre)
def ff(v:al)(p:Pred):aD×Int:=if p.bO !=0 then([],p.bO)else cM v p
theorem V4{p:Pred}(h:p.bO=0):p.eL=0:=by
 unfold Pred.bO at h;by_cases h1:decide (p.nodes>400)=true
 ·rw[if_pos h1]at h;cases h
 ·rw[if_neg h1]at h;by_cases h2:decide (p.depth>40)=true
  ·rw[if_pos h2]at h;cases h
  ·rw[if_neg h2]at h;exact h
theorem ywj{X}(F:We X)(ZF:∀G bs dep args r,yB X bs dep G KQ args r→(X G).C rF args r){G}(hG:G 2=some (oR.map .str))(v)(hv:v.Ok)(p):
  (X G).C rF [.agg v.cells,.agg p.cells] (two (ff v p)):=by
 have hc:=VQ (F.sys G) (by rw[F.G];exact hG) (F.it G) p;refine ZF G [2,7] 4 _ _ ⟨bn rfl,?_⟩;generalize hR:ff v p=R;unfold ff at hR;unfold two at*
 have Ba:v.cells=[.aw (v.vars.map b8.cells),.aw (v.syms.map cI.cells),.aw (v.bT.map bI.cells)]:=rfl;have key:p.bO=0→∀G' b7 b2,G' b7=some [.clo yv [.gp b7 0,.gp b2 0]]→G' b2=some v.cells→(X G').C yv [.agg p.cells,.one (.gp b7 0),.one (.gp b2 0)] (two (cM v p)):=fun h0 G' b7 b2 h7 h2=>
  yzF (F.sys G') v hv (by rw[F.G];exact h7) (by rw[F.G];exact h2) p (yjX (V4 h0))
 rw[Ba]at*
 obtain⟨o,s,n,ks⟩:=p;rw[Pred.bm]at*
 simp only[KQ,qI,go_sem,Pred.op,Pred.name,Pred.n,Pred.kids]at hc key⊢;refine aR hc ?_;simp only[go_sem];cases h1:((Pred.mk o s n ks).bO !=0)with
 |true=>simp only[h1,go_sem]at hR⊢;simp only[go_sem,←hR]
 |false=>
 simp only[h1,go_sem]at hR;simp only[qI,go_sem];intro b2 oM;refine⟨_,_,rfl,rfl,?_⟩;simp only[qI,St.pW,kL,jG,AV.pW,AV.n9,go_sem];intro b7 hb7;have b6:b2≠b7:=by
  rintro rfl
  have:=hb7 [.aw (v.vars.map b8.cells),.aw (v.syms.map cI.cells),.aw (v.bT.map bI.cells)] (by simp[Go.Abs.ext]);cases this
 refine⟨_,[.clo yv [.gp b7 0,.gp b2 0]],rfl,rfl,?_⟩;have k7:(ext (ext G b2 [.aw (v.vars.map b8.cells),.aw (v.syms.map cI.cells),.aw (v.bT.map bI.cells)]) b7 [.clo yv [.gp b7 0,.gp b2 0]]) b7=some [.clo yv [.gp b7 0,.gp b2 0]]:=by simp[Go.Abs.ext]
 have k2:(ext (ext G b2 [.aw (v.vars.map b8.cells),.aw (v.syms.map cI.cells),.aw (v.bT.map bI.cells)]) b7 [.clo yv [.gp b7 0,.gp b2 0]]) b2=some [.aw (v.vars.map b8.cells),.aw (v.syms.map cI.cells),.aw (v.bT.map bI.cells)]:=by simp[Go.Abs.ext,b6]
 have hk:=key (by simpa using h1) _ b7 b2 k7 k2;simp only[F.G,k7,go_sem];unfold two at hk;refine aR hk ?_;simp only[go_sem,hR]
end Go.Abs
end
section
namespace Go.Abs
namespace Pred
def same:Pred→Pred→Bool
 |.mk o s n ks,.mk o' s' n' nN=>o==o'&&s==s'&&n==n'&&eD ks nN
where eD:List Pred→List Pred→Bool
 |[],[]=>true
 |k::ks,k'::nN=>same k k'&&eD ks nN
 |_,_=>false
theorem NM(o)(s:aD)(n)(ks)(o')(s':aD)(n')(nN):same (.mk o s n ks) (.mk o' s' n' nN)=(o==o'&&s==s'&&n==n'&&same.eD ks nN):=by rw[same]
theorem wz:∀a b,same a b=true↔a=b:=by
 intro a;induction a using Pred.ind with
 |h o s n ks ih=>
 intro b;obtain⟨o',s',n',nN⟩:=b;have hk:∀l',same.eD ks l'=true↔ks=l':=by
  induction ks with
  |nil=>intro l';cases l'<;>simp[same.eD]
  |cons k ks p6=>
   intro l';cases l' with
   |nil=>simp[same.eD]
   |cons k' l'=>simp only[same.eD,Bool.and_eq_true,List.cons.injEq,ih k (by simp) k',p6 (fun x hx=>ih x (by simp[hx])) l']
 rw[NM];simp only[Bool.and_eq_true,beq_iff_eq,hk,Pred.mk.injEq,and_assoc]
theorem zKN:∀a b,same.eD a b=true↔a=b
 |[],[]=>by simp[same.eD]
 |[],_::_=>by simp[same.eD]
 |_::_,[]=>by simp[same.eD]
 |x::a,y::b=>by simp only[same.eD,Bool.and_eq_true,List.cons.injEq,wz,zKN a b]
theorem Ol:∀{a b l l'},a.length=b.length→same.eD (a++l) (b++l')=(same.eD a b&&same.eD l l')
 |[],[],l,l',_=>by simp[same.eD]
 |x::a,y::b,l,l',h=>by simp only[List.cons_append,same.eD,Ol (a:=a) (b:=b) (by simpa using h),Bool.and_assoc]
 |[],_::_,_,_,h=>by simp at h
 |_::_,[],_,_,h=>by simp at h
theorem yzD:∀{a b},a.length≠b.length→same.eD a b=false:=by intro a b h;rw[Bool.eq_false_iff];intro e;exact h (by rw[(zKN a b).1 e])
end Pred
theorem zJB{α:Type}{b:List α}{n}(h:n<b.length):∃bd y r,b=bd++y::r∧bd.length=n:=by have:=List.take_append_drop n b;rw[List.drop_eq_getElem_cons h]at this;exact⟨_,_,_,this.symm,by simp;omega⟩
theorem yxL{b bd r y n}(hb:b=bd++y::r)(hn:bd.length=n):(b.map Pred.cells).getD n []=Pred.cells y:=by subst hn;exact rJ hb
def a8:Pred:=.mk 0 [] 0 []
def gX:Pred:=.mk 2 [] 1 []
def dv:Pred:=.mk 2 [] 0 []
theorem yWM(o)(s:aD)(n)(ks):(Pred.mk o s n ks).same a8=(o==0&&s==[]&&n==0&&(ks.length:Int)==0):=by
 unfold a8;rw[Pred.NM];congr 1;cases ks with
 |nil=>rfl
 |cons k ks=>simp[Pred.same.eD];omega
variable{E:ax}(Z:Sys E)
include Z
theorem ywb(a b)(h:∀x∈a,∀y,E.C tN [.agg (Pred.cells x),.agg (Pred.cells y)] (.one (.bool (x.same y)))):
  E.C Lo [.one (.aw (a.map Pred.cells)),.one (.aw (b.map Pred.cells)),.one (.clo tN [])] (.one (.bool (Pred.same.eD a b))):=by
 refine Z.Lo _ _ ⟨bn rfl,?_⟩;generalize hR:Pred.same.eD a b=R;simp only[zkR,go_sem];intro l9 fE;by_cases hlen:a.length=b.length
 ·have h1:((a.length:Int) !=(b.length:Int))=false:=by simp[hlen]
  simp only[h1,go_sem];intro _;refine gU a (fun done=>Pred.same.eD done (b.take done.length)=true) (fun done rest=>⟨[(15,.d (.int .i64 done.length)),(14,.d (.int .i64 a.length)),(2,.d (.clo tN [])),(0,.d (.aw (a.map Pred.cells))),(1,.d (.aw (b.map Pred.cells)))],[],[]⟩) ?_ (by simp[Pred.same.eD]) ?_ ?_
  ·exact dG (by simp only[go_sem])
  ·intro done x r hl hI;obtain⟨bd,y,r',hb,uw⟩:=zJB (b:=b) (n:=done.length) (by rw[←hlen,hl];simp);have pL:b.take done.length=bd:=by rw[hb];exact List.take_left' uw
   have bf:=gw hl;have iC:=gw hb;rw[uw]at iC;have hw:IntKind.i64.wrap ((done.length:Int)+1)=((done.length+1:Nat):Int):=gn (by omega);rw[pL]at hI;rw[hl,hb,Pred.Ol uw.symm,hI,Pred.same.eD,Bool.true_and]at hR;simp only[UP,go_sem,rJ hl,yxL hb uw,bf,iC];refine aR (h x (by rw[hl];simp) y) ?_;cases h2:x.same y with
   |true=>
    simp only[go_sem,hw,lA];refine⟨dG (by simp only[go_sem]),?_⟩;have mw:b.take (done.length+1)=bd++[y]:=by rw[hb,show bd++y::r'=(bd++[y])++r' by simp];exact List.take_left' (by simp[uw])
    rw[mw,Pred.Ol uw.symm,hI];simp[Pred.same.eD,h2]
   |false=>simp only[h2,go_sem]at hR⊢;exact hR
  ·intro hI;rw[hlen,List.take_length]at hI;rw[hI]at hR;subst hR;simp only[UP,go_sem]
 ·have h1:((a.length:Int) !=(b.length:Int))=true:=by simp;omega
  rw[Pred.yzD hlen]at hR;simp only[h1,go_sem,hR]
theorem CO(a):∀b,E.C tN [.agg (Pred.cells a),.agg (Pred.cells b)] (.one (.bool (a.same b))):=by
 induction a using Pred.ind with
 |h o s n ks ih=>
 intro b;obtain⟨o',s',n',nN⟩:=b;have he:=ywb Z ks nN ih;refine Z.tN _ _ ⟨bn rfl,?_⟩;rw[Pred.bm,Pred.bm,Pred.NM];simp only[zVV,go_sem,Pred.op,Pred.name,Pred.n,Pred.kids];refine Bg he ?_;simp only[go_sem]
theorem V9(a):∀b,E.C Lk [.agg (Pred.cells a),.agg (Pred.cells b)] (.one (.bool (a.same b))):=by
 induction a using Pred.ind with
 |h o s n a ih=>
 intro b;obtain⟨o',s',n',b⟩:=b;refine Z.Lk _ _ ⟨bn rfl,?_⟩;generalize hR:Pred.same (.mk o s n a) (.mk o' s' n' b)=R;rw[Pred.NM]at hR;rw[Pred.bm,Pred.bm];simp only[zQu,go_sem,Pred.op,Pred.name,Pred.n,Pred.kids];intro l9 fE;cases h0:(o !=o'||!s==s'||n !=n')with
 |true=>
  have:(o==o'&&s==s'&&n==n')=false:=by rw[Bool.eq_false_iff];intro e;simp only[Bool.and_eq_true,beq_iff_eq]at e;simp[e.1.1,e.1.2,e.2]at h0
  rw[this]at hR;simp only[go_sem]at hR;simp only[go_sem,hR]
 |false=>
 have:(o==o'&&s==s'&&n==n')=true:=by simp at h0;simp[h0.1.1,h0.1.2,h0.2]
 rw[this,Bool.true_and]at hR;by_cases hlen:a.length=b.length
 ·have h1:((a.length:Int) !=(b.length:Int))=false:=by simp[hlen]
  simp only[h1,go_sem];intro _;refine gU a (fun done=>Pred.same.eD done (b.take done.length)=true) (fun done rest=>⟨[(37,.d (.int .i64 done.length)),(36,.d (.int .i64 a.length)),(2,.ptr 2 0),(3,.ptr 3 0)],
   [(2,[.d (.int .i64 o),.d (.str s),.d (.int .i64 n),.d (.aw (a.map Pred.cells))]),(3,[.d (.int .i64 o'),.d (.str s'),.d (.int .i64 n'),.d (.aw (b.map Pred.cells))])],[]⟩) ?_ (by simp[Pred.same.eD]) ?_ ?_
  ·exact dG (by simp only[go_sem,oS])
  ·intro done x r hl hI;obtain⟨bd,y,r',hb,uw⟩:=zJB (b:=b) (n:=done.length) (by rw[←hlen,hl];simp);have pL:b.take done.length=bd:=by rw[hb];exact List.take_left' uw
   have bf:=gw hl;have iC:=gw hb;rw[uw]at iC;have hw:IntKind.i64.wrap ((done.length:Int)+1)=((done.length+1:Nat):Int):=gn (by omega);rw[pL]at hI;rw[hl,hb,Pred.Ol uw.symm,hI,Pred.same.eD,Bool.true_and]at hR;simp only[zql,go_sem,rJ hl,yxL hb uw,bf,iC];refine aR (ih x (by rw[hl];simp) y) ?_;cases h2:x.same y with
   |true=>
    simp only[go_sem,hw,lA];refine⟨dG (by simp only[go_sem,oS]),?_⟩;have mw:b.take (done.length+1)=bd++[y]:=by rw[hb,show bd++y::r'=(bd++[y])++r' by simp];exact List.take_left' (by simp[uw])
    rw[mw,Pred.Ol uw.symm,hI];simp[Pred.same.eD,h2]
   |false=>simp only[h2,go_sem]at hR⊢;exact hR
  ·intro hI;rw[hlen,List.take_length]at hI;rw[hI]at hR;subst hR;simp only[zql,go_sem]
 ·have h1:((a.length:Int) !=(b.length:Int))=true:=by simp;omega
  rw[Pred.yzD hlen]at hR;simp only[h1,go_sem,hR]
theorem yzq(p):E.C VV [.agg (Pred.cells p)] (.one (.bool (p.same a8))):=by refine Z.VV _ _ ⟨bn rfl,?_⟩;obtain⟨o,s,n,ks⟩:=p;rw[yWM,Pred.bm];simp only[zQC,go_sem,Pred.op,Pred.name,Pred.n,Pred.kids,implies_true]
end Go.Abs
end
section
namespace Go.Abs
theorem Gz{st st1}(s i t sz)(cs)(es)(mp)(h0:getM st.mem s=some cs)(h1:cs[i]? =some (.full es))(h2:∀e∈es,e.length=sz)(h3:aE st.tk t=none)
  (h:jz mp {st with mem:=(s,cs.set i (.own t sz es))::st.mem,tk:=(t,true)::st.tk} st1):nF st st1:=⟨[(.m s i,t,sz)],mp,_,⟨_,⟨cs,es,h0,h1,h2,h3,rfl⟩,rfl⟩,h⟩
def cW(P:Pred→Prop)(p:Pred):Prop:=∀q∈p.pre,P q
theorem cW.ej{P o}{s:aD}{n ks}(h:cW P (.mk o s n ks)){k}(hk:k∈ks):cW P k:=by
 intro q hq;refine h q ?_;rw[Pred.tM];refine List.mem_cons_of_mem _ ?_;clear h;induction ks with
 |nil=>cases hk
 |cons x ks ih=>
  rw[Pred.pre.gz,List.mem_append];rcases List.mem_cons.1 hk with rfl|hk
  ·exact .inl hq
  ·exact .inr (ih hk)
theorem cW.top{P o}{s:aD}{n ks}(h:cW P (.mk o s n ks)):P (.mk o s n ks):=h _ (by rw[Pred.tM];simp)
def dS:Pred→Prop:=cW fun q=>Small q.kids.length
theorem yWi{α:Type}{l:List α}(h:l.length=1):∃a,l=[a]:=by
 match l,h with
 |[a],_=>exact⟨a,rfl⟩
variable{E:ax}(Z:Sys E)
include Z
theorem zX6(p)(hp:dS p):E.C D6 [.agg (Pred.cells p)] (.agg (Pred.cells p)):=by
 induction p using Pred.ind with
 |h o s n ks ih=>
 refine Z.D6 _ _ ⟨bn rfl,?_⟩;rw[Pred.bm];have hk:Small ks.length:=hp.top;unfold Small at hk;simp only[zXY,go_sem,Pred.op,Pred.name,Pred.n,Pred.kids];intro hlen;refine gU ks (fun _=>True) (fun done rest=>⟨[(16,.d (.int .i64 done.length)),(15,.d (.int .i64 ks.length)),(14,.d (.aw (ks.map Pred.cells))),(3,.ptr 3 0),(2,.ptr 2 0)],[(3,[.d (.int .i64 o),.d (.str s),.d (.int .i64 n),.own 3 4 (done.map Pred.cells)]),(2,[.d (.int .i64 0),.d (.str []),.d (.int .i64 0),.full []])],[(3,true)]⟩) ?_ trivial ?_ ?_
 ·exact Gz 3 3 3 4 _ [] [(3,3)] rfl rfl (by simp) rfl (by simp only[jz,go_sem,cN,oS])
 ·intro done k r hl _;have fR:=ih k (by rw[hl];simp) (hp.ej (by rw[hl];simp));have bf:=gw hl;have hw:IntKind.i64.wrap ((done.length:Int)+1)=((done.length+1:Nat):Int):=gn (by omega);have hd:done.length<ks.length:=by omega
  have yY:(done.length+1)*56≤2^46:=by omega
  simp only[Ue,go_sem,bf,rJ hl];refine aR fR ?_;simp only[go_sem,hw,lA,lM,mA,Pred.yt];refine⟨⟨by simp[Pred.mV],yY,by omega⟩,jP [(3,25)] ?_⟩;simp only[go_sem,cN,oS]
 ·intro _;simp only[Ue,go_sem]
theorem Ux(b):E.C Eb [.one (.bool b)] (.agg (Pred.cells (if b then gX else dv))):=by refine Z.Eb _ _ ⟨bn rfl,?_⟩;cases b<;>simp only[zYc,go_sem,gX,dv,Pred.bm,Pred.op,Pred.name,Pred.n,Pred.kids]
def jN(p:Pred):Bool:=p.same a8||p.same gX
theorem ykO(p):E.C Kz [.agg (Pred.cells p)] (.one (.bool (jN p))):=by
 have h0:=CO Z p a8;have h1:=CO Z p gX;have h2:=Ux Z true;refine Z.Kz _ _ ⟨bn rfl,?_⟩;unfold jN;simp only[if_true]at h2;rw[Pred.bm p]at*
 have e0:Pred.cells a8=[.int .i64 0,.str [],.int .i64 0,.aw []]:=by rw[Pred.bm];rfl
 have e1:Pred.cells gX=[.int .i64 2,.str [],.int .i64 1,.aw []]:=by rw[Pred.bm];rfl
 rw[e0]at h0;rw[e1]at h1 h2;simp only[zVY,go_sem];refine aR h0 ?_;simp only[go_sem];refine Bg h2 ?_;simp only[go_sem];refine Bg h1 ?_;simp only[go_sem]
end Go.Abs
end
section
namespace Go.Abs
def p2(o:Int)(a b:Pred):Pred:=.mk o [] 0 [a,b]
theorem yZR{α:Type}{l:List α}(h:l.length=2):∃a b,l=[a,b]:=by
 match l,h with
 |[a,b],_=>exact⟨a,b,rfl⟩
theorem AE{E c K F}(h:∀K',K'=K→cx E (.loop c) K' F):cx E (.loop c) K F:=h K rfl
def jC(x:Pred×Bool)(p:Pred):Pred×Bool:=if jN p then x else if x.2 then(.mk 15 [] 0 [x.1,p],true)else(p,true)
def fb(l:List Pred):Pred×Bool:=l.foldl jC (gX,false)
def isFalse(p:Pred):Bool:=!jN p&&p.same dv
def ig(l:List Pred):Pred:=if l.any isFalse then dv else(fb l).1
theorem Hj(a)(k):fb (a++[k])=jC (fb a) k:=by unfold fb;rw[List.foldl_append];rfl
theorem yYw{α:Type}{f l a r}{x:α}(hl:l=a++x::r)(ha:∀y∈a,f y=false):l.any f=(f x||r.any f):=by
 rw[hl,List.any_append,List.any_cons];have:a.any f=false:=by rw[List.any_eq_false];intro y hy;rw[ha y hy];exact Bool.false_ne_true
 rw[this,Bool.false_or]
theorem any_none{α:Type}{f}{l:List α}(ha:∀y∈l,f y=false):l.any f=false:=by rw[List.any_eq_false];intro y hy;rw[ha y hy];exact Bool.false_ne_true
theorem dJ{E a b Q st}(h:∀N,N=cx E b Q→cx E a (jl N Q) st):cx E (.seq a b) Q st:=h _ rfl
end Go.Abs
end
section
namespace Go.Abs
mutual
def Pred.sz:Pred→Nat
 |.mk _ s _ ks=>1+((s.length+1)+(1+((Pred.lS ks+1)+0)))+1
def Pred.lS:List Pred→Nat
 |[]=>0
 |k::ks=>Pred.sz k+Pred.lS ks
end
theorem Pred.yJQ(ks):Pred.lS ks=(ks.map Pred.sz).sum:=by
 induction ks with
 |nil=>simp[Pred.lS]
 |cons k ks ih=>simp[Pred.lS,ih]
namespace Pred
mutual
def cX:Pred→Nat
 |.mk _ _ _ ks=>bw ks+1
def bw:List Pred→Nat
 |[]=>0
 |k::ks=>cX k+bw ks
end
mutual
def dep:Pred→Nat
 |.mk _ _ _ ks=>qM ks+1
def qM:List Pred→Nat
 |[]=>0
 |k::ks=>max (dep k) (qM ks)
end
theorem MZ{ks k}(h:k∈ks):cX k≤bw ks:=by
 induction ks with
 |nil=>cases h
 |cons x ks ih=>
  rw[bw];rcases List.mem_cons.1 h with rfl|h
  ·omega
  ·have:=ih h;omega
theorem yYY{ks k}(h:k∈ks):dep k≤qM ks:=by
 induction ks with
 |nil=>cases h
 |cons x ks ih=>
  rw[qM];rcases List.mem_cons.1 h with rfl|h
  ·omega
  ·have:=ih h;omega
theorem zQf(p):dep p≤cX p:=by
 induction p using Pred.ind with
 |h o s n ks ih=>
 have:∀l:List Pred,(∀k∈l,dep k≤cX k)→qM l≤bw l:=by
  intro l;induction l with
  |nil=>intro _;exact Nat.le_refl _
  |cons x l p6=>intro h;have h1:=h x (by simp);have h2:=p6 fun k hk=>h k (by simp[hk]);rw[qM,bw];omega
 rw[dep,cX];have:=this ks ih;omega
theorem HT(p):cX p≤sz p:=by
 induction p using Pred.ind with
 |h o s n ks ih=>
 have:∀l:List Pred,(∀k∈l,cX k≤sz k)→bw l≤lS l:=by
  intro l;induction l with
  |nil=>intro _;exact Nat.le_refl _
  |cons x l p6=>intro h;have h1:=h x (by simp);have h2:=p6 fun k hk=>h k (by simp[hk]);rw[lS,bw];omega
 rw[sz,cX];have:=this ks ih;omega
theorem zYY(p)(h:cX p<2^62):nodes p=cX p:=by
 induction p using Pred.ind with
 |h o s n ks ih=>
 have key:∀(l:List Pred) (a:Nat),(∀k∈l,cX k<2^62→nodes k=cX k)→a+bw l<2^62→jJ (a:Int) l=((a+bw l:Nat):Int):=by
  intro l;induction l with
  |nil=>intro a _ _;rw[jJ,bw];rfl
  |cons x l p6=>intro a hk hl;rw[bw]at hl;rw[jJ,hk x (by simp) (by omega),i64_in _ (by omega),bw];have:=p6 (a+cX x) (fun k fR=>hk k (by simp[fR])) (by omega);rw[←Int.natCast_add,this];congr 1;omega
 rw[cX]at h⊢;rw[nodes];have:=key ks 1 ih (by omega);rw[show((1:Nat):Int)=1 from rfl]at this;rw[this];congr 1;omega
theorem zYr(p)(h:dep p<2^62):depth p=dep p:=by
 induction p using Pred.ind with
 |h o s n ks ih=>
 have key:∀(l:List Pred) (a:Nat),(∀k∈l,dep k<2^62→depth k=dep k)→qM l<2^62→lZ (a:Int) l=((max a (qM l):Nat):Int):=by
  intro l;induction l with
  |nil=>intro a _ _;rw[lZ,qM];simp
  |cons x l p6=>
   intro a hk hl;rw[qM]at hl;rw[lZ,hk x (by simp) (by omega),qM];have h2:=fun a=>p6 a (fun k fR=>hk k (by simp[fR])) (by omega);by_cases hc:(dep x:Int)>a
   ·rw[if_pos hc,h2];congr 1;omega
   ·rw[if_neg hc,h2];congr 1;omega
 rw[dep]at h⊢;rw[depth];have:=key ks 0 ih (by omega);rw[show((0:Nat):Int)=0 from rfl]at this;rw[this,i64_in _ (by omega)];omega
theorem zWn{ks}(h:eL.kK ks=0):∀k∈ks,eL k=0:=by
 induction ks with
 |nil=>intro k hk;cases hk
 |cons x ks ih=>
  rw[eL.kK]at h;intro k hk;by_cases h1:(eL x !=0)=true
  ·rw[if_pos h1]at h;rw[h]at h1;cases h1
  ·rw[if_neg h1]at h;rcases List.mem_cons.1 hk with rfl|hk
   ·simpa using h1
   ·exact ih h k hk
theorem zq2{o s n ks}(h:eL (.mk o s n ks)=0):dr o s n ks=0∧∀k∈ks,eL k=0:=by
 rw[VA]at h;by_cases h1:(dr o s n ks !=0)=true
 ·rw[if_pos h1]at h;rw[h]at h1;cases h1
 ·rw[if_neg h1]at h;exact⟨by simpa using h1,zWn h⟩
theorem V0{p}(h:bO p=0):nodes p≤400∧depth p≤40∧eL p=0:=by
 unfold bO at h;by_cases h1:decide (nodes p>400)=true
 ·rw[if_pos h1]at h;cases h
 ·rw[if_neg h1]at h;by_cases h2:decide (depth p>40)=true
  ·rw[if_pos h2]at h;cases h
  ·rw[if_neg h2]at h;simp at h1 h2;exact⟨by omega,by omega,h⟩
theorem zJ9{p}(h:nodes p≤400)(h2:depth p≤40)(h3:eL p=0):bO p=0:=by unfold bO;rw[if_neg (by simp;omega),if_neg (by simp;omega)];exact h3
theorem zK3{o s n ks k}(hc:cX (.mk o s n ks)<2^62)(h:bO (.mk o s n ks)=0)(hk:k∈ks):bO k=0:=by
 obtain⟨h1,h2,h3⟩:=V0 h;have hd:=zQf (.mk o s n ks);rw[zYY _ hc]at h1;rw[zYr _ (by omega)]at h2;rw[cX]at h1 hc hd;rw[dep]at h2 hd;have k1:=MZ hk;have k2:=yYY hk;have k3:=zQf k;refine zJ9 ?_ ?_ ((zq2 h3).2 k hk)
 ·rw[zYY _ (by omega)];omega
 ·rw[zYr _ (by omega)];omega
theorem zVk{o s n ks}(h:dr o s n ks=0):bN o ks.length=true:=by
 unfold dr at h;by_cases h1:(decide (o<1)||decide (o>18)||!s==[]&&!bG o||n !=0&&!(o==1||o==2)||!bN o ks.length)=true
 ·rw[if_pos h1]at h;cases h
 ·simp only[Bool.or_eq_true,not_or]at h1;simpa using h1.2
end Pred
theorem TX{v ks}(h:cM.mF v ks=0):∀k∈ks,(cM v k).2=0:=by
 induction ks with
 |nil=>intro k hk;cases hk
 |cons x ks ih=>
  rw[cM.mF]at h;intro k hk;by_cases h1:((cM v x).2 !=0)=true
  ·rw[if_pos h1]at h;rw[h]at h1;cases h1
  ·rw[if_neg h1]at h;rcases List.mem_cons.1 hk with rfl|hk
   ·simpa using h1
   ·exact ih h k hk
theorem SI{v o}{s:aD}{n ks}(hc:Pred.cX (.mk o s n ks)<2^62)(h:(ff v (.mk o s n ks)).2=0):
  (∀k∈ks,ff v k=cM v k∧(cM v k).2=0)∧ff v (.mk o s n ks)=jV v o s (ks.map fun k=>(cM v k).1)∧bN o ks.length=true:=by
 have tH:Pred.bO (.mk o s n ks)=0:=by
  unfold ff at h;by_cases h1:(Pred.bO (.mk o s n ks) !=0)=true
  ·rw[if_pos h1]at h;exact h
  ·simpa using h1
 have hO:ff v (.mk o s n ks)=cM v (.mk o s n ks):=by unfold ff;rw[tH];rfl
 rw[hO]at h⊢;rw[Gq]at h⊢;by_cases h1:(cM.mF v ks !=0)=true
 ·rw[if_pos h1]at h;simp only at h;rw[h]at h1;cases h1
 ·rw[if_neg h1];refine⟨fun k hk=>⟨?_,TX (by simpa using h1) k hk⟩,rfl,Pred.zVk (Pred.zq2 (Pred.V0 tH).2.2).1⟩;unfold ff;rw[Pred.zK3 hc tH hk];rfl
end Go.Abs
end
section
namespace Go.Abs
def eY(v:al)(p:Pred):Int:=if p.same a8 then 0 else if(ff v p).2==0&&!(ff v p).1==aL then 11 else(ff v p).2
variable{E:ax}(Z:Sys E)
include Z
theorem yWu(v)(p)(hp:pA p):E.C Vy [.agg v.cells,.agg p.cells] (two (cM v p)):=by
 induction p using Pred.ind with
 |h o s n ks ih=>
 have fH:=yZY Z v s;have IF:=fun l=>yZ0 Z v s l;have xak:=fun l=>yjq Z v s l;have cV:=fun l hl=>zJx Z o l hl;refine Z.Vy _ _ ⟨bn rfl,?_⟩;generalize hR:cM v (.mk o s n ks)=R;rw[Gq]at hR;unfold two at*
 rw[al.cells]at*
 rw[Pred.bm]at*
 simp only[yw7,go_sem,Pred.op,Pred.name,Pred.n,Pred.kids];have I5:=hp.top.2;simp only[Pred.kids]at I5;refine gU ks (fun done=>∀x∈done,(cM v x).2=0) (fun done rest=>⟨[(7,.d (.int .i64 done.length)),(3,.ptr 3 0),(2,.ptr 2 0),(6,.own 6 1 ((done.map fun k=>(cM v k).1).map cQ))],
  [(2,[.d (.aw (v.vars.map b8.cells)),.d (.aw (v.syms.map cI.cells)),.d (.aw (v.bT.map bI.cells))]),(3,[.d (.int .i64 o),.d (.str s),.d (.int .i64 n),.d (.aw (ks.map Pred.cells))])],[(6,true)]⟩) ?_ (by simp) ?_ ?_
 ·exact Bp 6 6 1 [] [(6,6)] rfl (by simp) rfl (by simp only[jz,go_sem,cN,oS])
 ·intro done k r hl hI;have fR:=ih k (by rw[hl];simp) (hp.ej (by rw[hl];simp));have bf:=gw hl;rw[hl,yj8 hI,←hl]at hR;have hd:done.length≤24:=by omega
  have hw:IntKind.i64.wrap ((done.length:Int)+1)=((done.length+1:Nat):Int):=gn (by omega);have yY:(done.length+1)*16≤2^46:=by omega
  simp only[zYG,go_sem,bf,rJ hl];intro _;refine aR fR ?_;simp only[go_sem];cases h3:((cM v k).2 !=0)with
  |true=>simp only[h3,go_sem]at hR⊢;simp only[go_sem,←hR]
  |false=>simp only[go_sem,hw,lA,Ob,lM];refine⟨⟨by simp,yY,by omega⟩,jP [(6,35)] ?_,qi hI (by simpa using h3)⟩;simp only[go_sem,cN,oS,mA,cQ]
 ·intro hI;rw[Vq hI]at hR;have hR:jV v o s (ks.map fun k=>(cM v k).1)=R:=hR;unfold jV at hR;simp only[zYG,go_sem];intro _;cases h1:(o==1)with
  |true=>simp only[h1,go_sem,dH]at hR⊢;simp only[go_sem,←hR]
  |false=>
  cases h2:(o==2)with
  |true=>simp only[h1,h2,go_sem,aL]at hR⊢;simp only[go_sem,←hR]
  |false=>
  cases h3:(o==3)with
  |true=>simp only[h1,h2,h3,go_sem]at hR⊢;refine aR fH ?_;simp only[go_sem];cases h:(eQ v.vars s).2<;>simp only[h,go_sem]at hR⊢<;>simp only[go_sem,←hR]
  |false=>
  cases h4:(o==4)with
  |true=>simp only[h1,h2,h3,h4,go_sem]at hR⊢;refine aR (IF _) ?_;simp only[go_sem,hR]
  |false=>
  cases h5:(o==5)with
  |true=>simp only[h1,h2,h3,h4,h5,go_sem]at hR⊢;refine aR (xak _) ?_;simp only[go_sem,hR]
  |false=>
  simp only[h1,h2,h3,h4,h5,go_sem]at hR⊢;refine aR (cV _ (by rw[lM];exact hp.top.1)) ?_;simp only[go_sem,hR]
theorem zKG(v)(p):E.C NP [.agg v.cells,.agg p.cells] (two (ff v p)):=by
 have hc:=zY4 Z p;have ho:=fun h=>yWu Z v p h;refine Z.NP _ _ ⟨bn rfl,?_⟩;generalize hR:ff v p=R;unfold ff at hR;unfold two at*
 rw[al.cells]at*
 have key:p.bO=0→pA p:=fun h=>yjX (V4 h);rw[Pred.bm]at*
 simp only[yw6,go_sem];refine aR hc ?_;simp only[go_sem];cases h1:(p.bO !=0)with
 |true=>simp only[h1,go_sem]at hR⊢;simp only[go_sem,←hR]
 |false=>simp only[h1,go_sem]at hR⊢;refine aR (ho (key (by simpa using h1))) ?_;simp only[go_sem,hR]
theorem yjp(v)(p):E.C zXC [.agg v.cells,.agg p.cells] (.one (.int .i64 (eY v p))):=by
 have h0:=yzq Z p;have h1:=zKG Z v p;refine Z.zXC _ _ ⟨bn rfl,?_⟩;generalize hR:eY v p=R;unfold eY at hR;unfold two at*
 rw[al.cells]at*
 rw[Pred.bm]at*
 simp only[zQA,go_sem];refine aR h0 ?_;cases c0:p.same a8 with
 |true=>simp only[c0,go_sem]at hR⊢;simp only[go_sem,←hR]
 |false=>
 simp only[c0,go_sem]at hR⊢;refine aR h1 ?_;simp only[aL]at hR;simp only[go_sem];by_cases c1:(ff v p).2=0
 ·have:((ff v p).2 !=0)=false:=by simp[c1]
  have c2:((ff v p).2==0)=true:=by simp[c1]
  simp only[this,c2,go_sem]at hR⊢;cases c3:((ff v p).1==[66,111,111,108])<;>simp only[c3,go_sem]at hR⊢<;>simp only[←hR,c1]
 ·have:((ff v p).2 !=0)=true:=by simp[c1]
  have c2:((ff v p).2==0)=false:=by simp[c1]
  simp only[this,c2,go_sem]at hR⊢;exact hR
theorem zXa(v)(p)(qj:E.C rF [.agg v.cells,.agg p.cells] (two (ff v p))):E.C Ld [.agg v.cells,.agg p.cells] (.one (.int .i64 (eY v p))):=by
 have h0:=CO Z p a8;refine Z.Ld _ _ ⟨bn rfl,?_⟩;generalize hR:eY v p=R;unfold eY at hR;unfold two at*
 rw[al.cells]at*
 rw[Pred.bm p]at*
 have e0:Pred.cells a8=[.int .i64 0,.str [],.int .i64 0,.aw []]:=by rw[Pred.bm];rfl
 rw[e0]at h0;simp only[zYM,go_sem];refine aR h0 ?_;cases c0:p.same a8 with
 |true=>simp only[c0,go_sem]at hR⊢;simp only[go_sem,←hR]
 |false=>
 simp only[c0,go_sem]at hR⊢;refine aR qj ?_;simp only[aL]at hR;simp only[go_sem];cases c1:((ff v p).2==0&&!(ff v p).1==[66,111,111,108])<;>simp only[c1,go_sem]at hR⊢<;>simp only[←hR]
end Go.Abs
end
section
namespace Go.Abs
variable{E:ax}(Z:Sys E)
include Z
theorem yzj(l)(ht:∀p∈l,jN p=false→dS p):E.C Hb [.one (.aw (l.map Pred.cells))] (.agg (ig l).cells):=by
 have hv:=ykO Z;have hc:=fun p hp=>zX6 Z p hp;have Qh:=Ux Z false;have zc:=Ux Z true;have hs:=fun p=>CO Z p dv;simp only[if_true,Bool.false_eq_true,if_false]at Qh zc;have B0:∀p:Pred,List.drop 4 (List.map AV.d p.cells)=[]:=fun p=>List.drop_of_length_le (by rw[lM,Pred.mV];exact Nat.le_refl _);have dU:∀a b:Pred,Pred.cells (.mk 15 [] 0 [a,b])=[.int .i64 15,.str [],.int .i64 0,.aw [a.cells,b.cells]]:=fun a b=>by rw[Pred.bm];rfl
 refine Z.Hb _ _ ⟨bn rfl,?_⟩;generalize hR:ig l=R;unfold ig at hR;simp only[zQm,go_sem];refine aR zc ?_;simp only[go_sem];intro hlen;refine gU l (fun done=>∀x∈done,isFalse x=false) (fun done rest=>⟨[(10,.d (.int .i64 done.length)),(9,.d (.int .i64 l.length)),(8,.d (.aw (l.map Pred.cells))),(4,.d (.bool (fb done).2)),(3,.ptr 3 0),(2,.ptr 2 0)],[(3,(fb done).1.cells.map .d),(2,[.d (.int .i64 0),.d (.str []),.d (.int .i64 0),.full []])],[]⟩) ?_ (by simp) ?_ ?_
 ·have h0:fb []=(gX,false):=rfl;exact dG (by simp only[go_sem,oS,h0])
 ·intro done k r hl hI;have bf:=gw hl;have hw:IntKind.i64.wrap ((done.length:Int)+1)=((done.length+1:Nat):Int):=gn (by omega);have B4:isFalse k=(!jN k&&k.same dv):=rfl;have wQ:=Hj done k;unfold jC at wQ;rw[yYw hl hI]at hR;have pL:=ht k (by rw[hl];simp);simp only[Uk,go_sem,bf,rJ hl];refine aR (hv k) ?_;simp only[go_sem];cases h1:jN k with
  |true=>simp only[h1,go_sem]at wQ B4⊢;exact⟨dG (by simp only[go_sem,hw,wQ,oS,lA]),qi hI B4⟩
  |false=>
   have pL:=pL h1;simp only[h1,go_sem]at wQ B4⊢;refine aR Qh ?_;simp only[go_sem];refine aR (hs k) ?_;simp only[go_sem];cases h2:k.same dv with
   |true=>simp only[h2,go_sem]at B4⊢;refine aR Qh ?_;simp only[B4,go_sem]at hR⊢;subst hR;simp only[go_sem]
   |false=>
    simp only[h2,go_sem]at B4⊢;cases h3:(fb done).2 with
    |true=>simp only[h3,go_sem]at wQ⊢;refine aR (hc k pL) ?_;simp only[go_sem];exact⟨dG (by simp only[go_sem,hw,wQ,B0,dU,oS,lA,mC,mN]),qi hI B4⟩
    |false=>simp only[h3,go_sem]at wQ⊢;refine aR (hc k pL) ?_;simp only[go_sem];exact⟨dG (by simp only[go_sem,hw,wQ,B0,List.append_nil,oS,lA]),qi hI B4⟩
 ·intro hI;rw[any_none hI]at hR;simp only[Uk,go_sem]at hR⊢;rw[hR]
omit Z
end Go.Abs
end
section
namespace Go.Abs
def jK(r:Int×Bool):CV:=.tup [.one (.int .i64 r.1),.one (.bool r.2)]
def sO(n:Int):Int×Bool:=if aq n then(n,true)else(0,false)
def eF(a b:Int):Int×Bool:=if aq a&&aq b then sO (a*b)else(0,false)
theorem sL(n):aq n=true↔-1000000000000≤n∧n≤1000000000000:=by simp[aq]
def eG(n:Int):Int:=if n≥0 then n else-n
theorem NN{n}(h:n≠0):0<eG n:=by unfold eG;split<;>omega
theorem yKm(a b):eG (a*b)=eG a*eG b:=by
 have:∀n:Int,eG n=n.natAbs:=fun n=>by unfold eG;split<;>omega
 simp only[this,Int.natAbs_mul,Int.natCast_mul]
theorem Oo(n):aq n=true↔eG n≤1000000000000:=by
 rw[sL];unfold eG;split<;>omega
theorem yWr{a b}(ha:a≠0):decide (eG b>(1000000000000:Int).tdiv (eG a))=!aq (a*b):=by
 have hp:=NN ha;have hq:(1000000000000:Int).tdiv (eG a)=1000000000000/eG a:=Int.tdiv_eq_ediv_of_nonneg (by omega);rw[hq];have h1:(1000000000000/eG a<eG b)↔1000000000000<eG b*eG a:=Int.ediv_lt_iff_lt_mul hp;have h2:aq (a*b)=true↔¬(1000000000000<eG b*eG a):=by rw[Oo,yKm,Int.mul_comm];omega
 cases h:aq (a*b)with
 |true=>rw[h]at h2;simp only[true_iff]at h2;simp;rw[←Int.not_lt,h1];exact h2
 |false=>rw[h]at h2;simp at h2;simp;rw[h1];exact h2
variable{E:ax}(Z:Sys E)
include Z
theorem zqE(n)(ok):E.C Ht [.one (.int .i64 n),.one (.bool ok)] (jK (if ok then sO n else(0,false))):=by
 refine Z.Ht _ _ ⟨bn rfl,?_⟩;try unfold jK
 unfold sO;simp only[zXW,go_sem];refine Nu (fun _=>yu Z n) ?_;cases ok<;>cases h:aq n<;>simp only[h,go_sem]
theorem NX{n}(h:aq n=true):E.C DR [.one (.int .i64 n)] (.one (.int .i64 (eG n))):=by
 refine Z.DR _ _ ⟨bn rfl,?_⟩;rw[sL]at h;have hw:IntKind.i64.wrap (0-n)= -n:=by rw[i64_in _ (by omega)];omega
 unfold eG;simp only[yyo,go_sem,hw];by_cases h0:n≥0
 ·simp only[h0,go_sem]
 ·have h2:¬(-n<0):=by omega
  simp only[h0,h2,go_sem]
theorem TP(a b):E.C Em [.one (.int .i64 a),.one (.int .i64 b)] (jK (eF a b)):=by
 have h1:=zqE Z (IntKind.i64.wrap (a*b)) true;refine Z.Em _ _ ⟨bn rfl,?_⟩;unfold eF;simp only[jK]at h1⊢;simp only[yym,go_sem];refine aR (yu Z a) ?_;simp only[go_sem];refine Nu (fun _=>yu Z b) ?_;cases ha:aq a<;>cases hb:aq b<;>simp only[ha,hb,go_sem];by_cases Gg:a=0
 ·subst Gg;simp only[go_sem,beq_self_eq_true,Int.zero_mul];simp[sO,aq]
 have ea:(a==0)=false:=by simpa using Gg
 by_cases x8:b=0
 ·subst x8;simp only[go_sem,beq_self_eq_true,ea,Int.mul_zero];simp[sO,aq]
 have eb:(b==0)=false:=by simpa using x8
 simp only[ea,eb,go_sem];refine aR (NX Z hb) ?_;simp only[go_sem];refine aR (NX Z ha) ?_;have b6:eG a≠0:=by have:=NN Gg;omega
 have hw:IntKind.i64.wrap ((1000000000000:Int).tdiv (eG a))=(1000000000000:Int).tdiv (eG a):=by rw[Int.tdiv_eq_ediv_of_nonneg (by omega)];have hp:=NN Gg;have h0:0≤(1000000000000:Int)/eG a:=Int.ediv_nonneg (by omega) (by omega);have h2:(1000000000000:Int)/eG a≤1000000000000:=Int.ediv_le_self _ (by omega);exact i64_in _ (by omega)
 simp only[go_sem,hw,yWr Gg];refine⟨b6,?_⟩;cases hr:aq (a*b)with
 |false=>simp only[go_sem,sO,hr]
 |true=>have XN:IntKind.i64.wrap (a*b)=a*b:=i64_in _ (by rw[sL]at hr;omega);rw[XN]at h1⊢;simp only[go_sem,hr];refine aR h1 ?_;simp only[go_sem,sO,hr]
theorem yZX(a b):E.C VJ [.one (.int .i64 a),.one (.int .i64 b)] (jK (eF a b)):=by
 refine Z.VJ _ _ ⟨bn rfl,?_⟩;unfold eF;try simp only[jK]
 simp only[yyr,go_sem];refine aR (zjJ Z a) ?_;simp only[go_sem];refine Nu (fun _=>zjJ Z b) ?_;cases ha:aq a<;>cases hb:aq b<;>simp only[ha,hb,go_sem];by_cases Gg:a=0
 ·subst Gg;simp only[go_sem,beq_self_eq_true,Int.zero_mul];simp[sO,aq]
 have ea:(a==0)=false:=by simpa using Gg
 by_cases x8:b=0
 ·subst x8;simp only[go_sem,beq_self_eq_true,ea,Int.mul_zero];simp[sO,aq]
 have eb:(b==0)=false:=by simpa using x8
 have hq:=yWr (b:=a) x8;rw[Int.mul_comm b a]at hq;have oP:∀{n:Int},aq n=true→IntKind.i64.wrap (0-n)= -n:=fun h=>by rw[sL]at h;rw[i64_in _ (by omega)];omega
 have hw:IntKind.i64.wrap ((1000000000000:Int).tdiv (eG b))=(1000000000000:Int).tdiv (eG b):=by rw[Int.tdiv_eq_ediv_of_nonneg (by omega)];have hp:=NN x8;have h0:0≤(1000000000000:Int)/eG b:=Int.ediv_nonneg (by omega) (by omega);have h2:(1000000000000:Int)/eG b≤1000000000000:=Int.ediv_le_self _ (by omega);exact i64_in _ (by omega)
 have b6:eG b≠0:=by have:=NN x8;omega
 have CH:eG a=if a<0 then-a else a:=by unfold eG;split<;>split<;>omega
 have eb2:eG b=if b<0 then-b else b:=by unfold eG;split<;>split<;>omega
 simp only[ea,eb,go_sem,oP ha,oP hb];have pH:∀x y:Int,eG a=x→eG b=y→(decide (x>IntKind.i64.wrap ((1000000000000:Int).tdiv y))=!aq (a*b))∧y≠0:=by
  rintro x y rfl rfl;rw[hw];exact⟨hq,b6⟩
 cases hr:aq (a*b)with
 |false=>by_cases c1:a<0<;>by_cases c2:b<0<;>simp only[c1,c2,if_true,if_false]at CH eb2<;>obtain⟨f1,f2⟩:=pH _ _ CH eb2<;>rw[hr]at f1<;>simp only[c1,c2,go_sem,f1,sO,hr]<;>exact f2
 |true=>have XN:IntKind.i64.wrap (a*b)=a*b:=i64_in _ (by rw[sL]at hr;omega);by_cases c1:a<0<;>by_cases c2:b<0<;>simp only[c1,c2,if_true,if_false]at CH eb2<;>obtain⟨f1,f2⟩:=pH _ _ CH eb2<;>rw[hr]at f1<;>simp only[c1,c2,go_sem,f1,sO,hr,XN]<;>exact f2
end Go.Abs
end
section
namespace Go.Abs
structure ak where
 name:aD
 n:Int
def ak.cells(v:ak):List D:=[.str v.name,.int .i64 v.n]
def eT(n:Int):List D:=[.int .i64 n]
structure Fact where
 name:aD
 args:List Int
 res:Int
def Fact.cells(v:Fact):List D:=[.str v.name,.aw (v.args.map eT),.int .i64 v.res]
theorem ak.lens(l:List ak):(∀e∈l.map ak.cells,e.length=2)=True:=Bj (f:=ak.cells) (fun _=>rfl) l
theorem Fact.lens(l:List Fact):(∀e∈l.map Fact.cells,e.length=3)=True:=Bj (f:=Fact.cells) (fun _=>rfl) l
theorem yyF(l:List Int):(∀e∈l.map eT,e.length=1)=True:=Bj (f:=eT) (fun _=>rfl) l
attribute [go_sem] ak.lens Fact.lens yyF
variable{E:ax}(Z:Sys E)
include Z
end Go.Abs
end
section
namespace Go.Abs
def Good:Pred→Prop:=cW fun q=>Pred.err q=0
theorem Good.ej{o}{s:aD}{n ks}(h:Good (.mk o s n ks)){k}(hk:k∈ks):Good k:=cW.ej h hk
theorem Good.top{o}{s:aD}{n ks}(h:Good (.mk o s n ks)):(1≤o∧o≤18)∧bN o ks.length=true∧(o≠1→o≠2→n=0)∧(bG o=false→s=[]):=by
 have h:=cW.top h;change dr o s n ks=0 at h;unfold dr at h;by_cases h1:(decide (o<1)||decide (o>18)||!s==[]&&!bG o||n !=0&&!(o==1||o==2)||!bN o ks.length)=true
 ·rw[if_pos h1]at h;cases h
 ·simp only[Bool.or_eq_true,not_or,decide_eq_true_eq,Bool.and_eq_true,Bool.not_eq_true',bne_iff_ne,ne_eq,Bool.or_eq_false_iff,beq_eq_false_iff_ne,not_and]at h1;obtain⟨⟨⟨⟨a1,a2⟩,a3⟩,a4⟩,a5⟩:=h1;refine⟨⟨by omega,by omega⟩,by simpa using a5,fun e1 e2=>?_,fun e=>?_⟩
  ·by_cases hn:n=0
   ·exact hn
   ·exact absurd e2 (fun e2=>a4 hn e1 e2)
  ·by_cases hs:s=[]
   ·exact hs
   ·exact absurd e (a3 (by simpa using hs))
theorem TH{p}(h:p.bO=0):Good p:=by have:=V4 h;rw[Pred.TE]at this;exact fun q hq=>SO this q hq
theorem TT{o}{ks:List Pred}(hk:bN o ks.length=true)(h:(o==1||o==2||o==3)=true):ks=[]:=by unfold bN at hk;rw[if_pos h]at hk;simpa using hk
theorem SZ{o}{ks:List Pred}(hk:bN o ks.length=true)(h:(o==9||o==14)=true):∃a,ks=[a]:=by refine yWi ?_;simp at h;rcases h with rfl|rfl<;>simp[bN]at hk<;>omega
theorem G9{o}{ks:List Pred}(hk:bN o ks.length=true)(h1:o≠1)(h2:o≠2)(h3:o≠3)(h4:o≠4)(h5:o≠5)(h9:o≠9)(vw:o≠14):∃a b,ks=[a,b]:=by refine yZR ?_;simp[bN,h1,h2,h3,h4,h5,h9,vw]at hk;omega
theorem VC{o}{m:Nat}(hk:bN o m=true):m≤24:=by
 unfold bN at hk;split at hk
 ·simp at hk;omega
 ·split at hk
  ·simp at hk;omega
  ·split at hk<;>(simp at hk;omega)
variable{E:ax}(Z:Sys E)
include Z
end Go.Abs
end
section
namespace Go.Abs
theorem Of{d}(h:d<10):(UInt8.ofNat (48+d)).toNat=48+d:=by simp;omega
theorem H7:∀(u) (c),c∈Lib.decDigits u→48≤c.toNat∧c.toNat≤57:=by
 intro u;induction u using Nat.strongRecOn with
 |ind u ih=>
  intro c hc;rw[Lib.decDigits]at hc;split at hc
  ·rename_i h;simp only[List.mem_singleton]at hc;subst hc;rw[Of h];omega
  ·rename_i h;rcases List.mem_append.1 hc with hc|hc
   ·exact ih (u/10) (by omega) c hc
   ·simp only[List.mem_singleton]at hc;subst hc;rw[Of (by omega)];omega
def ml(l:List UInt8):Nat:=l.foldl (fun a c=>a*10+(c.toNat-48)) 0
theorem Oj:∀u:Nat,ml (Lib.decDigits u)=u:=by
 intro u;induction u using Nat.strongRecOn with
 |ind u ih=>
  rw[Lib.decDigits];split
  ·rename_i h;simp only[ml,List.foldl_cons,List.foldl_nil];rw[Of h];omega
  ·rename_i h;have:=ih (u/10) (by omega);unfold ml at this⊢;rw[List.foldl_append,this];simp only[List.foldl_cons,List.foldl_nil];rw[Of (by omega)];omega
theorem NH{a b}(h:Lib.itoa a=Lib.itoa b):a=b:=by
 have b6:∀u:Nat,Lib.decDigits u≠[]:=fun u e=>by have:=Lib.nDigits_pos u;rw[←Lib.decDigits_length,e]at this;simp at this
 have hm:∀u v:Nat,(45:UInt8)::Lib.decDigits u≠Lib.decDigits v:=fun u v e=>by have:=H7 v 45 (by rw[←e];simp);simp at this
 unfold Lib.itoa at h;split at h<;>split at h
 ·rw[List.cons.injEq]at h;have:=congrArg ml h.2;rw[Oj,Oj]at this;omega
 ·exact absurd h (hm _ _)
 ·exact absurd h.symm (hm _ _)
 ·have:=congrArg ml h;rw[Oj,Oj]at this;omega
theorem Vh{α:Type}{c}{a b r r':List α}(ha:c∉a)(hb:c∉b)(h:a++c::r=b++c::r'):a=b∧r=r':=by
 induction a generalizing b with
 |nil=>
  cases b with
  |nil=>simp at h;exact⟨rfl,h⟩
  |cons y b=>simp at h;exact absurd h.1 (fun e=>hb (by simp[e]))
 |cons x a ih=>
  cases b with
  |nil=>simp at h;exact absurd h.1 (fun e=>ha (by simp[e]))
  |cons y b=>simp only[List.cons_append,List.cons.injEq]at h;obtain⟨h1,h2⟩:=ih (fun hc=>ha (by simp[hc])) (fun hc=>hb (by simp[hc])) h.2;exact⟨by rw[h.1,h1],h2⟩
def nG(n:Int):Prop:= -9223372036854775808≤n∧n≤9223372036854775807
def Fact.Wf(f:Fact):Prop:=(∀n∈f.args,nG n)∧nG f.res
variable{E:ax}(Z:Sys E)
include Z
attribute [local go_sem] AV.tx MV.av
end Go.Abs
end
section
namespace Go.Abs
theorem ywW:Pred.cells dv=[.int .i64 2,.str [],.int .i64 0,.aw []]:=by rw[Pred.bm];rfl
theorem yzM:Pred.cells gX=[.int .i64 2,.str [],.int .i64 1,.aw []]:=by rw[Pred.bm];rfl
theorem yjR:Pred.cells a8=[.int .i64 0,.str [],.int .i64 0,.aw []]:=by rw[Pred.bm];rfl
theorem yYk:jN dv=false:=by decide+kernel
theorem zVb(p):isFalse p=p.same dv:=by
 unfold isFalse;cases h:p.same dv with
 |false=>simp
 |true=>rw[(Pred.wz _ _).1 h,yYk];rfl
theorem yJj(a b):jN (.mk 15 [] 0 [a,b])=false:=by unfold jN a8 gX;rw[Pred.NM,Pred.NM];simp
theorem yq3(l):jN (fb l).1=!(fb l).2:=by
 have key:∀(l:List Pred) (x:Pred×Bool),jN x.1=!x.2→jN (l.foldl jC x).1=!(l.foldl jC x).2:=by
  intro l;induction l with
  |nil=>intro x h;exact h
  |cons p l ih=>
   intro x h;rw[List.foldl_cons];refine ih _ ?_;unfold jC;split
   ·exact h
   ·rename_i hv;split
    ·exact yJj _ _
    ·simpa using hv
 exact key l (gX,false) (by decide+kernel)
def kD(names:List aD)(xD:List Pred):Pred→Pred
 |.mk o s n ks=>if o==3&&(decide (fj s 0 names≥0)&&decide (fj s 0 names<xD.length))then xD.getD (fj s 0 names).toNat a8 else .mk o s n (Cp ks)
where
 Cp:List Pred→List Pred
 |[]=>[]
 |k::ks=>kD names xD k::Cp ks
theorem yWZ(names)(xD)(o)(s:aD)(n)(ks):kD names xD (.mk o s n ks)=
  if o==3&&(decide (fj s 0 names≥0)&&decide (fj s 0 names<xD.length))then xD.getD (fj s 0 names).toNat a8 else .mk o s n (ks.map (kD names xD)):=by
 rw[kD];have:kD.Cp names xD ks=ks.map (kD names xD):=by
  induction ks with
  |nil=>rfl
  |cons k ks ih=>rw[kD.Cp,ih];rfl
 rw[this]
theorem On(p:Pred):List.drop 4 (p.cells.map AV.d)=[]:=List.drop_eq_nil_of_le (by simp[Pred.mV])
variable{E:ax}(Z:Sys E)
include Z
theorem yzo:E.C VS [] (.agg (Pred.cells gX)):=by refine Z.VS _ _ ⟨bn rfl,?_⟩;rw[yzM];simp only[zQv,go_sem]
theorem ykW:E.C VY [] (.agg (Pred.cells dv)):=by refine Z.VY _ _ ⟨bn rfl,?_⟩;rw[ywW];simp only[zV6,go_sem]
theorem yjl(p):E.C VT [.agg (Pred.cells p)] (.one (.bool (jN p))):=by
 have h0:=V9 Z p a8;have h1:=V9 Z p gX;have h2:=yzo Z;refine Z.VT _ _ ⟨bn rfl,?_⟩;generalize hR:jN p=R;unfold jN at hR;rw[Bool.or_comm]at hR;rw[yjR]at h0;rw[yzM]at h1 h2;rw[Pred.bm p]at*
 simp only[zQw,go_sem];refine aR h2 ?_;simp only[go_sem];refine aR h1 ?_;simp only[go_sem];refine Nu (fun _=>h0) ?_;simp only[go_sem,hR]
theorem yy1(l):E.C VK [.one (.aw (l.map Pred.cells))] (.agg (ig l).cells):=by
 have hv:=yjl Z;have hs:=V9 Z;have ht:=yzo Z;have hf:=ykW Z;refine Z.VK _ _ ⟨bn rfl,?_⟩;generalize hR:ig l=R;unfold ig at hR;simp only[yyt,go_sem];refine aR ht ?_;simp only[go_sem];intro hlen;refine AE fun K' hK=>?_;refine gU l (fun done=>∀y∈done,isFalse y=false) (fun done rest=>⟨[(9,.d (.int .i64 done.length)),(8,.d (.int .i64 l.length)),(7,.d (.aw (l.map Pred.cells))),(3,.ptr 3 0),(2,.ptr 2 0)],[(3,(Pred.cells (fb done).1).map .d),(2,[.d (.int .i64 0),.d (.str []),.d (.int .i64 0),.full []])],[]⟩) ?_ (by simp) ?_ ?_
 ·exact dG (by simp only[go_sem,oS,fb,List.foldl_nil])
 ·intro done k r hl hI;have bf:=gw hl;have hw:IntKind.i64.wrap ((done.length:Int)+1)=((done.length+1:Nat):Int):=gn (by omega);rw[yYw hl hI]at hR;have hgv:=yq3 done;have bV:fb (done++[k])=jC (fb done) k:=Hj done k;simp only[zZA,go_sem,bf,rJ hl];refine aR hf ?_;simp only[go_sem];refine aR (hs k dv) ?_;cases c0:k.same dv with
  |true=>simp only[zVb,c0,go_sem]at hR⊢;refine aR hf ?_;simp only[go_sem,hK,←hR]
  |false=>
  have hIk:isFalse k=false:=by rw[zVb];exact c0
  simp only[go_sem];refine aR (hv k) ?_;cases c1:jN k with
  |true=>
   have he:fb (done++[k])=fb done:=by rw[bV,jC,c1];rfl
   simp only[go_sem,hw,lA,he];exact⟨dG (by simp only[go_sem,oS]),qi hI hIk⟩
  |false=>
  simp only[go_sem];refine aR (hv (fb done).1) ?_;rw[hgv];cases c2:(fb done).2 with
  |false=>
   have he:fb (done++[k])=(k,true):=by rw[bV,jC,c1,c2];rfl
   simp only[go_sem,hw,lA,he,lM,On];exact⟨dG (by simp only[go_sem,oS]),qi hI hIk⟩
  |true=>
   have he:fb (done++[k])=(.mk 15 [] 0 [(fb done).1,k],true):=by rw[bV,jC,c1,c2];rfl
   simp only[go_sem,hw,lA,he,On];exact⟨dG (by simp only[go_sem,oS,Pred.bm (.mk 15 [] 0 [(fb done).1,k]),Pred.op,Pred.name,Pred.n,Pred.kids]),qi hI hIk⟩
 ·intro hI;rw[any_none hI]at hR;simp only[zZA,go_sem,hK]at hR⊢;simp only[hR]
end Go.Abs
end
section
namespace Go.Abs
theorem cW.mk{P o}{s:aD}{n ks}(h:P (.mk o s n ks))(hk:∀k∈ks,cW P k):cW P (.mk o s n ks):=by
 intro q hq;rw[Pred.tM]at hq;have QN:=List.mem_cons.1 hq;clear hq;rcases QN with rfl|hq
 ·exact h
 ·clear h;revert hq;induction ks with
  |nil=>intro hq;cases hq
  |cons x ks ih=>
   intro hq;rw[Pred.pre.gz,List.mem_append]at hq;rcases hq with hq|hq
   ·exact hk x (by simp) q hq
   ·exact ih (fun k fR=>hk k (by simp[fR])) hq
theorem Pred.yQd(p:Pred):1≤p.cX:=by cases p;rw[Pred.cX];omega
theorem Pred.yVs(ks):ks.length≤Pred.bw ks:=by
 induction ks with
 |nil=>simp
 |cons k ks ih=>rw[Pred.bw,lC];have:=Pred.yQd k;omega
theorem Eo(p)(h:p.cX≤1048576):dS p:=by
 induction p using Pred.ind with
 |h o s n ks ih=>
 rw[Pred.cX]at h;refine cW.mk ?_ fun k hk=>ih k hk ?_
 ·have:=Pred.yVs ks;show Small ks.length;unfold Small;omega
 ·have:=Pred.MZ hk;omega
end Go.Abs
end
section
namespace Go.Abs
structure aH where
 aG:List ak
 c:Int
def aH.cells(a:aH):List D:=[.aw (a.aG.map ak.cells),.int .i64 a.c]
theorem aH.lens(l:List aH):(∀e∈l.map aH.cells,e.length=2)=True:=Bj (f:=aH.cells) (fun _=>rfl) l
attribute [go_sem] aH.lens
def bE:aH:=⟨[],0⟩
def Gn(a b:aD):Bool:=Op.bytesLess a b||a==b
def iI(prev:Option ak)(x:ak):Int:=
 if x.name==[]||decide ((x.name.length:Int)>400)then 3
 else if x.n==0||!aq x.n then 2
 else match prev with
  |none=>0
  |some p=>if Gn x.name p.name then 9 else 0
def eR:Option ak→List ak→Int
 |_,[]=>0
 |p,x::r=>if iI p x==0 then eR (some x) r else iI p x
def cr(a:aH):Int:=if decide ((a.aG.length:Int)>24)then 7 else if eR none a.aG==0 then(if aq a.c then 0 else 2)else eR none a.aG
theorem yz9{p d x}(h:∀r,eR none (d++r)=eR p r)(hx:iI p x=0):∀r,eR none ((d++[x])++r)=eR (some x) r:=by intro r;rw[List.append_assoc,h,List.singleton_append,eR,hx];rfl
def pN(d:List ak):Option ak:=d.getLast?
theorem LI(d)(x):pN (d++[x])=some x:=by simp[pN]
theorem VL{α:Type}(l:List α):l=[]∨∃d y,l=d++[y]:=by
 rcases List.eq_nil_or_concat l with h|⟨d,y,h⟩
 ·exact .inl h
 ·exact .inr ⟨d,y,by rw[h,List.concat_eq_append]⟩
theorem YR:IntKind.i64.wrap (0+1)=1:=by decide
theorem yvi:IntKind.i64.wrap (0-1)= -1:=by decide
theorem u4{α:Type}{f:α→List D}{l a r x n}(hl:l=a++x::r)(hn:a.length=n):(l.map f).getD n []=f x:=by subst hn;exact getD_at hl
theorem yqL{l d r x y}(h:l=d++[y]++x::r):(l.map ak.cells).getD d.length []=y.cells:=by
 subst h;simp
theorem yqM{d}{y:ak}(h:((d++[y]).length:Int)≤24):IntKind.i64.wrap (((d++[y]).length:Int)-1)=(d.length:Int):=by
 rw[lA]at*;simp at*;exact(i64_in _ (by omega)).trans (by omega)
variable{E:ax}(Z:Sys E)
include Z
theorem GF(a):E.C AQ [.agg a.cells] (.one (.int .i64 (cr a))):=by
 refine Z.AQ _ _ ⟨bn rfl,?_⟩;generalize hR:cr a=R;obtain⟨l,c⟩:=a;have hc:=yu Z c;unfold cr at hR;simp only[aH.cells]at*
 simp only[zYw,go_sem];intro _;cases x6:decide ((l.length:Int)>24)with
 |true=>simp only[x6,go_sem]at hR⊢;exact hR
 |false=>
 simp only[x6,go_sem]at hR⊢;have WL:(l.length:Int)≤24:=by simpa using x6
 intro _;refine gU l (fun done=>∀r,eR none (done++r)=eR (pN done) r) (fun done rest=>⟨[(12,.d (.int .i64 done.length)),(11,.d (.int .i64 l.length)),(10,.d (.aw (l.map ak.cells))),(1,.ptr 1 0)],[(1,[.d (.aw (l.map ak.cells)),.d (.int .i64 c)])],[]⟩) ?_ (fun r=>rfl) ?_ ?_
 ·exact dG (by simp only[go_sem,oS])
 ·intro done x r hl hI;have bf:=gw hl;have hw:IntKind.i64.wrap ((done.length:Int)+1)=((done.length+1:Nat):Int):=gn (by omega);have hx:=yu Z x.n;have yx:=hI (x::r);rw[←hl,eR]at yx;have hE:∀e,iI (pN done) x=e→e≠0→e=R:=by intro e he b6;rw[he,if_neg (by simpa using b6)]at yx;rw[yx,if_neg (by simpa using b6)]at hR;exact hR
  have hS:=yz9 hI (x:=x);simp only[Uf,go_sem,getD_at hl,bf,ak.cells];try intro _
  cases e1:(x.name==[]||decide ((x.name.length:Int)>400))with
  |true=>
   have:=hE 3 (by unfold iI;rw[e1];rfl) (by decide);cases e0:(x.name==[])<;>simp only[e0,Bool.false_or,go_sem]at e1⊢<;>try simp only[e1,go_sem]
   all_goals first|exact this|(intro _;exact this)
  |false=>
   have tQ:=e1;simp only[Bool.or_eq_false_iff]at e1;simp only[e1.1,e1.2,go_sem,Bool.or_self];try intro _
   cases e2:(x.n==0)with
   |true=>simp only[go_sem];refine⟨.one (.bool false),?_⟩;simp only[go_sem];exact hE 2 (by unfold iI;rw[tQ,e2];rfl) (by decide)
   |false=>
    simp only[go_sem];refine aR hx ?_;cases e3:aq x.n with
    |false=>simp only[go_sem];exact hE 2 (by unfold iI;rw[tQ,e2,e3];rfl) (by decide)
    |true=>
     simp only[go_sem];rcases VL done with rfl|⟨d0,y,rfl⟩
     ·have he:iI (pN []) x=0:=by unfold iI;rw[tQ,e2,e3];rfl
      have h0:(l.map ak.cells).getD 0 []=x.cells:=getD_at hl;simp only[go_sem,lN,nZ,YR,yvi,h0,ak.cells];refine⟨dG (by simp only[go_sem,oS,lA,lC,lN,zA,Int.natCast_one]),?_⟩;exact fun r2=>hS he r2
     ·have hp:=yqL hl;have hi:=yqM (d:=d0) (y:=y) (by omega);have u7:decide ((((d0++[y]).length:Nat):Int)>0)=true:=by simp
      have XD:((d0.length:Int)<(l.length:Int))=True:=eq_true (by rw[lA]at bf;simp at bf;omega);simp only[go_sem,u7,hi,hp,Int.toNat_natCast,ak.cells,XD];cases e4:Gn x.name y.name with
      |true=>have L6:=e4;unfold Gn at e4;simp only[e4,go_sem];exact hE 9 (by unfold iI;rw[tQ,e2,e3,LI];simp only[L6,go_sem]) (by decide)
      |false=>
       have he:iI (pN (d0++[y])) x=0:=by unfold iI;rw[tQ,e2,e3,LI];simp only[e4,go_sem]
       unfold Gn at e4;simp only[e4,go_sem,hw];refine⟨dG (by simp only[go_sem,oS,lA,lC,lN,zA]),?_⟩;intro r2;rw[LI];exact hS he r2
 ·intro hI;have hz:eR none l=0:=by have:=hI [];rw[List.append_nil]at this;rw[this];rfl
  rw[hz]at hR;simp only[Uf,go_sem];try intro _
  refine aR hc ?_;cases e3:aq c with
  |false=>simp only[go_sem];rw[e3]at hR;exact hR
  |true=>simp only[go_sem];rw[e3]at hR;exact hR
theorem UL(a):E.C Ia [.agg a.cells] (.one (.int .i64 (cr a))):=by
 refine Z.Ia _ _ ⟨bn rfl,?_⟩;generalize hR:cr a=R;obtain⟨l,c⟩:=a;have hc:=zjJ Z c;unfold cr at hR;simp only[aH.cells]at*
 simp only[zJa,go_sem];intro _;cases x6:decide ((l.length:Int)>24)with
 |true=>simp only[x6,go_sem]at hR⊢;exact hR
 |false=>
 simp only[x6,go_sem]at hR⊢;have WL:(l.length:Int)≤24:=by simpa using x6
 refine gU l (fun done=>∀r,eR none (done++r)=eR (pN done) r) (fun done rest=>⟨[(3,.d (.int .i64 done.length)),(1,.ptr 1 0)],[(1,[.d (.aw (l.map ak.cells)),.d (.int .i64 c)])],[]⟩) ?_ (fun r=>rfl) ?_ ?_
 ·exact dG (by simp only[go_sem,oS])
 ·intro done x r hl hI;have bf:=gw hl;have hw:IntKind.i64.wrap ((done.length:Int)+1)=((done.length+1:Nat):Int):=gn (by omega);have hx:=zjJ Z x.n;have yx:=hI (x::r);rw[←hl,eR]at yx;have hE:∀e,iI (pN done) x=e→e≠0→e=R:=by intro e he b6;rw[he,if_neg (by simpa using b6)]at yx;rw[yx,if_neg (by simpa using b6)]at hR;exact hR
  have hS:=yz9 hI (x:=x);simp only[zjw,go_sem,getD_at hl,bf,ak.cells];try intro _
  cases e1:(x.name==[]||decide ((x.name.length:Int)>400))with
  |true=>
   have:=hE 3 (by unfold iI;rw[e1];rfl) (by decide);cases e0:(x.name==[])<;>simp only[e0,Bool.false_or,go_sem]at e1⊢<;>try simp only[e1,go_sem]
   all_goals first|exact this|(intro _;exact this)
  |false=>
   have tQ:=e1;simp only[Bool.or_eq_false_iff]at e1;simp only[e1.1,e1.2,go_sem,Bool.or_self];try intro _
   cases e2:(x.n==0)with
   |true=>simp only[go_sem];refine⟨.one (.bool false),?_⟩;simp only[go_sem];exact hE 2 (by unfold iI;rw[tQ,e2];rfl) (by decide)
   |false=>
    simp only[go_sem];refine aR hx ?_;cases e3:aq x.n with
    |false=>simp only[go_sem];exact hE 2 (by unfold iI;rw[tQ,e2,e3];rfl) (by decide)
    |true=>
     simp only[go_sem];rcases VL done with rfl|⟨d0,y,rfl⟩
     ·have he:iI (pN []) x=0:=by unfold iI;rw[tQ,e2,e3];rfl
      have h0:(l.map ak.cells).getD 0 []=x.cells:=getD_at hl;simp only[go_sem,lN,nZ,YR,yvi,h0,ak.cells];refine⟨dG (by simp only[go_sem,oS,lA,lC,lN,zA,Int.natCast_one]),?_⟩;exact fun r2=>hS he r2
     ·have hp:=yqL hl;have hi:=yqM (d:=d0) (y:=y) (by omega);have u7:decide ((((d0++[y]).length:Nat):Int)>0)=true:=by simp
      have XD:((d0.length:Int)<(l.length:Int))=True:=eq_true (by rw[lA]at bf;simp at bf;omega);simp only[go_sem,u7,hi,hp,Int.toNat_natCast,ak.cells,XD];cases e4:Gn x.name y.name with
      |true=>have L6:=e4;unfold Gn at e4;simp only[e4,go_sem];exact hE 9 (by unfold iI;rw[tQ,e2,e3,LI];simp only[L6,go_sem]) (by decide)
      |false=>
       have he:iI (pN (d0++[y])) x=0:=by unfold iI;rw[tQ,e2,e3,LI];simp only[e4,go_sem]
       unfold Gn at e4;simp only[e4,go_sem,hw];refine⟨dG (by simp only[go_sem,oS,lA,lC,lN,zA]),?_⟩;intro r2;rw[LI];exact hS he r2
 ·intro hI;have hz:eR none l=0:=by have:=hI [];rw[List.append_nil]at this;rw[this];rfl
  rw[hz]at hR;simp only[zjw,go_sem];try intro _
  refine aR hc ?_;cases e3:aq c with
  |false=>simp only[go_sem];rw[e3]at hR;exact hR
  |true=>simp only[go_sem];rw[e3]at hR;exact hR
end Go.Abs
end
section
namespace Go.Abs
def lv(r:aH×Bool):CV:=.tup [.agg r.1.cells,.one (.bool r.2)]
def jL(x:aH):aH×Bool:=if cr x !=0 then(bE,false)else(x,true)
def oV(a b:Int):Int:=IntKind.i64.wrap (a+b)
def tG(x y:ak):List ak:=if oV x.n y.n !=0 then[⟨x.name,oV x.n y.n⟩]else[]
def fJ:List ak→List ak→List ak
 |[],b=>b
 |a,[]=>a
 |x::a,y::b=>if Op.bytesLess x.name y.name then x::fJ a (y::b)else if Op.bytesLess y.name x.name then y::fJ (x::a) b else tG x y++fJ a b
termination_by a b=>a.length+b.length
def cf(a b:aH):aH×Bool:=if cr a !=0||cr b !=0 then(bE,false)else jL ⟨fJ a.aG b.aG,oV a.c b.c⟩
theorem F2(b):fJ [] b=b:=by unfold fJ;rfl
theorem GA(a):fJ a []=a:=by cases a<;>(unfold fJ;rfl)
theorem TO(x y)(a b):fJ (x::a) (y::b)=if Op.bytesLess x.name y.name then x::fJ a (y::b)else if Op.bytesLess y.name x.name then y::fJ (x::a) b else tG x y++fJ a b:=by
 rw[fJ]
theorem Bn{a}(h:cr a=0):a.aG.length≤24:=by
 unfold cr at h;split at h
 ·cases h
 ·rename_i h2;simp at h2;omega
structure yA where
 ad:List ak
 ar:List ak
 bd:List ak
 br:List ak
 es:List ak
structure yA.Ok(l m:List ak)(s:yA):Prop where
 a:l=s.ad++s.ar
 b:m=s.bd++s.br
 go:s.es++fJ s.ar s.br=fJ l m
 len:s.es.length≤s.ad.length+s.bd.length
variable{E:ax}(Z:Sys E)
include Z
theorem zQZ(x):E.C KV [.agg x.cells] (lv (jL x)):=by
 have h1:=GF Z x;refine Z.KV _ _ ⟨bn rfl,?_⟩;generalize hR:jL x=R;unfold jL at hR;obtain⟨l,c⟩:=x;simp only[aH.cells]at h1⊢;simp only[zYA,go_sem];refine aR h1 ?_;cases c0:(cr ⟨l,c⟩ !=0)with
 |true=>rw[c0]at hR;subst hR;simp only[c0,go_sem,if_true];exact⟨rfl,rfl⟩
 |false=>rw[c0]at hR;subst hR;simp only[c0,go_sem]
set_option maxHeartbeats 4000000 in
theorem CA(a b):E.C xY [.agg a.cells,.agg b.cells] (lv (cf a b)):=by
 have ha:=GF Z a;have hb:=GF Z b;have hr:=fun x=>zQZ Z x;refine Z.xY _ _ ⟨bn rfl,?_⟩;generalize hR:cf a b=R;unfold cf at hR;obtain⟨l,c⟩:=a;obtain⟨m,d⟩:=b;simp only[aH.cells,lv]at ha hb hr⊢;simp only[zW8,go_sem];refine aR ha ?_;cases c0:(cr ⟨l,c⟩ !=0)with
 |true=>rw[c0]at hR;subst hR;simp only[c0,go_sem];refine⟨.one (.int .i64 0),?_⟩;simp only[go_sem];exact⟨rfl,rfl⟩
 |false=>
 simp only[c0,go_sem];refine aR hb ?_;cases c1:(cr ⟨m,d⟩ !=0)with
 |true=>rw[c0,c1]at hR;subst hR;simp only[c1,go_sem];exact⟨rfl,rfl⟩
 |false=>
 rw[c0,c1]at hR;have hl:l.length≤24:=Bn (a:=⟨l,c⟩) (by simpa using c0);have hm:m.length≤24:=Bn (a:=⟨m,d⟩) (by simpa using c1);have hr:=hr ⟨fJ l m,oV c d⟩;simp only[Bool.or_self,go_sem]at hR;rw[hR]at hr;simp only[c1,go_sem];refine AE fun K hK=>?_;refine LK (fun s:yA=>⟨[(7,.d (.int .i64 s.ad.length)),(8,.d (.int .i64 s.bd.length)),(2,.ptr 2 0),(3,.ptr 3 0),(4,.ptr 4 0),(6,.ptr 6 0)],
  [(6,[.own 6 2 (s.es.map ak.cells),.d (.int .i64 (oV c d))]),(4,[.full [],.d (.int .i64 0)]),(3,[.d (.aw (m.map ak.cells)),.d (.int .i64 d)]),(2,[.d (.aw (l.map ak.cells)),.d (.int .i64 c)])],[(6,true)]⟩)
  (yA.Ok l m) (fun s=>s.ar.length+s.br.length) ⟨[],l,[],m,[]⟩ ?_ ⟨rfl,rfl,rfl,Nat.le_refl _⟩ ?_
 ·exact Gz 6 0 6 2 _ [] [(6,6)] rfl rfl (by simp) rfl (by simp only[jz,go_sem,cN,oS,mN,lN,nZ];rfl)
 ·rintro⟨ad,ar,bd,br,es⟩ ⟨h1,h2,h3,h4⟩
  simp only at h1 h2 h3 h4;have U6:es.length≤48:=by
   have:=congrArg List.length h1;have:=congrArg List.length h2;simp only[lA]at*
   omega
  have xP:IntKind.i64.wrap ((ad.length:Int)+1)=((ad.length+1:Nat):Int):=gn (by have:=congrArg List.length h1;simp only[lA]at this;omega);have qV:IntKind.i64.wrap ((bd.length:Int)+1)=((bd.length+1:Nat):Int):=gn (by have:=congrArg List.length h2;simp only[lA]at this;omega);cases ar with
  |nil=>
   have jy:decide ((ad.length:Int)<(l.length:Int))=false:=by simp[h1]
   have hq:((ad.length:Int)==(l.length:Int))=true:=by simp[h1]
   have BB:(l.map ak.cells).getD ad.length []=[]:=by rw[h1];simp
   cases br with
   |nil=>
    have tK:decide ((bd.length:Int)<(m.length:Int))=false:=by simp[h2]
    rw[F2,List.append_nil]at h3;subst h3;simp only[Ec,go_sem,jy,tK,hK];intro _ _;refine aR hr ?_;simp only[go_sem]
   |cons y br=>
    have bf:((bd.length:Int)<(m.length:Int))=True:=eq_true (by rw[h2];simp;omega);have tK:decide ((bd.length:Int)<(m.length:Int))=true:=decide_eq_true (of_eq_true bf);have hy:=u4 (f:=ak.cells) h2 rfl;have mr:((bd.length:Int)==(m.length:Int))=false:=by
     have:¬((bd.length:Int)=(m.length:Int)):=by rw[h2];simp;omega
     simpa using this
    rw[F2]at h3;simp only[Ec,go_sem,jy,tK,hq,mr,hy,BB,bf,ak.cells,lM];intros;refine⟨⟨by simp,by omega,by omega⟩,⟨ad,[],bd++[y],br,es++[y]⟩,jP [(6,138)] ?_,⟨h1,by rw[h2,List.append_assoc];rfl,by rw[F2,←h3,List.append_assoc];rfl,by simp only[lA,lC,lN]<;>omega⟩,by simp only[lC,lN]<;>omega⟩;simp only[go_sem,cN,oS,lA,lC,lN,zA,mA,mC,mN,qV,ak.cells];try rfl
  |cons x ar=>
   have rD:((ad.length:Int)<(l.length:Int))=True:=eq_true (by rw[h1];simp;omega);have jy:decide ((ad.length:Int)<(l.length:Int))=true:=decide_eq_true (of_eq_true rD);have hx:=u4 (f:=ak.cells) h1 rfl;have hq:((ad.length:Int)==(l.length:Int))=false:=by
    have:¬((ad.length:Int)=(l.length:Int)):=by rw[h1];simp;omega
    simpa using this
   cases br with
   |nil=>
    have tK:decide ((bd.length:Int)<(m.length:Int))=false:=by simp[h2]
    have mr:((bd.length:Int)==(m.length:Int))=true:=by simp[h2]
    have XO:(m.map ak.cells).getD bd.length []=[]:=by rw[h2];simp
    rw[GA]at h3;simp only[Ec,go_sem,jy,tK,hq,mr,XO,hx,rD,ak.cells,lM];intros;refine⟨⟨by simp,by omega,by omega⟩,⟨ad++[x],ar,bd,[],es++[x]⟩,jP [(6,105)] ?_,⟨by rw[h1,List.append_assoc];rfl,h2,by rw[GA,←h3,List.append_assoc];rfl,by simp only[lA,lC,lN]<;>omega⟩,by simp only[lC,lN]<;>omega⟩;simp only[go_sem,cN,oS,lA,lC,lN,zA,mA,mC,mN,xP,ak.cells];try rfl
   |cons y br=>
    have iC:((bd.length:Int)<(m.length:Int))=True:=eq_true (by rw[h2];simp;omega);have tK:decide ((bd.length:Int)<(m.length:Int))=true:=decide_eq_true (of_eq_true iC);have hy:=u4 (f:=ak.cells) h2 rfl;have mr:((bd.length:Int)==(m.length:Int))=false:=by
     have:¬((bd.length:Int)=(m.length:Int)):=by rw[h2];simp;omega
     simpa using this
    rw[TO]at h3;cases e1:Op.bytesLess x.name y.name with
    |true=>rw[e1,if_pos rfl]at h3;simp only[Ec,go_sem,jy,tK,hq,mr,hy,hx,rD,iC,e1,ak.cells,lM];intros;refine⟨⟨by simp,by omega,by omega⟩,⟨ad++[x],ar,bd,y::br,es++[x]⟩,jP [(6,105)] ?_,⟨by rw[h1,List.append_assoc];rfl,h2,by rw[←h3,List.append_assoc];rfl,by simp only[lA,lC,lN]<;>omega⟩,by simp only[lC,lN]<;>omega⟩;simp only[go_sem,cN,oS,lA,lC,lN,zA,mA,mC,mN,xP,ak.cells];try rfl
    |false=>
     rw[e1,if_neg (by decide)]at h3;cases e2:Op.bytesLess y.name x.name with
     |true=>rw[e2,if_pos rfl]at h3;simp only[Ec,go_sem,jy,tK,hq,mr,hy,hx,rD,iC,e1,e2,ak.cells,lM];intros;refine⟨⟨by simp,by omega,by omega⟩,⟨ad,x::ar,bd++[y],br,es++[y]⟩,jP [(6,138)] ?_,⟨h1,by rw[h2,List.append_assoc];rfl,by rw[←h3,List.append_assoc];rfl,by simp only[lA,lC,lN]<;>omega⟩,by simp only[lC,lN]<;>omega⟩;simp only[go_sem,cN,oS,lA,lC,lN,zA,mA,mC,mN,qV,ak.cells];try rfl
     |false=>
      rw[e2,if_neg (by decide)]at h3;unfold tG oV at h3;cases e3:(IntKind.i64.wrap (x.n+y.n) !=0)with
      |true=>rw[e3,if_pos rfl]at h3;simp only[Ec,go_sem,jy,tK,hq,mr,hy,hx,rD,iC,e1,e2,e3,ak.cells,lM];intros;refine⟨⟨by simp,by omega,by omega⟩,⟨ad++[x],ar,bd++[y],br,es++[⟨x.name,IntKind.i64.wrap (x.n+y.n)⟩]⟩,jP [(6,63)] ?_,⟨by rw[h1,List.append_assoc];rfl,by rw[h2,List.append_assoc];rfl,by rw[←h3,List.append_assoc];try rfl,by simp only[lA,lC,lN]<;>omega⟩,by simp only[lC,lN]<;>omega⟩;simp only[go_sem,cN,oS,lA,lC,lN,zA,mA,mC,mN,xP,qV,ak.cells];try rfl
      |false=>rw[e3,if_neg (by decide),List.nil_append]at h3;simp only[Ec,go_sem,jy,tK,hq,mr,hy,hx,rD,iC,e1,e2,e3,ak.cells,lM];intros;refine⟨⟨ad++[x],ar,bd++[y],br,es⟩,jP [(6,6)] ?_,⟨by rw[h1,List.append_assoc];rfl,by rw[h2,List.append_assoc];rfl,h3,by simp only[lA,lC,lN]<;>omega⟩,by simp only[lC,lN]<;>omega⟩;simp only[go_sem,cN,oS,lA,lC,lN,zA,mA,mC,mN,xP,qV,ak.cells];try rfl
theorem yk0(x):E.C zZi [.agg x.cells] (lv (jL x)):=by
 have h1:=UL Z x;refine Z.zZi _ _ ⟨bn rfl,?_⟩;generalize hR:jL x=R;unfold jL at hR;obtain⟨l,c⟩:=x;simp only[aH.cells]at h1⊢;simp only[zJd,go_sem];refine aR h1 ?_;cases c0:(cr ⟨l,c⟩ !=0)with
 |true=>rw[c0]at hR;subst hR;simp only[c0,go_sem,if_true];exact⟨rfl,rfl⟩
 |false=>have hl:l.length≤24:=Bn (a:=⟨l,c⟩) (by simpa using c0);rw[c0]at hR;subst hR;simp only[c0,go_sem,lM,lN];exact⟨fun e he=>(by cases he),by omega,by omega⟩
set_option maxHeartbeats 4000000 in
theorem yy3(a b):E.C zY6 [.agg a.cells,.agg b.cells] (lv (cf a b)):=by
 have ha:=UL Z a;have hb:=UL Z b;have hr:=fun x=>yk0 Z x;refine Z.zY6 _ _ ⟨bn rfl,?_⟩;generalize hR:cf a b=R;unfold cf at hR;obtain⟨l,c⟩:=a;obtain⟨m,d⟩:=b;simp only[aH.cells,lv]at ha hb hr⊢;simp only[yyx,go_sem];refine aR ha ?_;cases c0:(cr ⟨l,c⟩ !=0)with
 |true=>rw[c0]at hR;subst hR;simp only[c0,go_sem];refine⟨.one (.int .i64 0),?_⟩;simp only[go_sem];exact⟨rfl,rfl⟩
 |false=>
 simp only[c0,go_sem];refine aR hb ?_;cases c1:(cr ⟨m,d⟩ !=0)with
 |true=>rw[c0,c1]at hR;subst hR;simp only[c1,go_sem];exact⟨rfl,rfl⟩
 |false=>
 rw[c0,c1]at hR;have hl:l.length≤24:=Bn (a:=⟨l,c⟩) (by simpa using c0);have hm:m.length≤24:=Bn (a:=⟨m,d⟩) (by simpa using c1);have hr:=hr ⟨fJ l m,oV c d⟩;simp only[Bool.or_self,go_sem]at hR;rw[hR]at hr;simp only[c1,go_sem];refine AE fun K hK=>?_;refine LK (fun s:yA=>⟨[(7,.d (.int .i64 s.ad.length)),(8,.d (.int .i64 s.bd.length)),(2,.ptr 2 0),(3,.ptr 3 0),(4,.ptr 4 0),(6,.ptr 6 0)],
  [(6,[.own 6 2 (s.es.map ak.cells),.d (.int .i64 (oV c d))]),(4,[.full [],.d (.int .i64 0)]),(3,[.d (.aw (m.map ak.cells)),.d (.int .i64 d)]),(2,[.d (.aw (l.map ak.cells)),.d (.int .i64 c)])],[(6,true)]⟩)
  (yA.Ok l m) (fun s=>s.ar.length+s.br.length) ⟨[],l,[],m,[]⟩ ?_ ⟨rfl,rfl,rfl,Nat.le_refl _⟩ ?_
 ·exact Gz 6 0 6 2 _ [] [(6,6)] rfl rfl (by simp) rfl (by simp only[jz,go_sem,cN,oS,mN,lN,nZ];rfl)
 ·rintro⟨ad,ar,bd,br,es⟩ ⟨h1,h2,h3,h4⟩
  simp only at h1 h2 h3 h4;have U6:es.length≤48:=by
   have:=congrArg List.length h1;have:=congrArg List.length h2;simp only[lA]at*
   omega
  have xP:IntKind.i64.wrap ((ad.length:Int)+1)=((ad.length+1:Nat):Int):=gn (by have:=congrArg List.length h1;simp only[lA]at this;omega);have qV:IntKind.i64.wrap ((bd.length:Int)+1)=((bd.length+1:Nat):Int):=gn (by have:=congrArg List.length h2;simp only[lA]at this;omega);cases ar with
  |nil=>
   have jy:decide ((ad.length:Int)<(l.length:Int))=false:=by simp[h1]
   have hq:((ad.length:Int)==(l.length:Int))=true:=by simp[h1]
   have BB:(l.map ak.cells).getD ad.length []=[]:=by rw[h1];simp
   cases br with
   |nil=>
    have tK:decide ((bd.length:Int)<(m.length:Int))=false:=by simp[h2]
    rw[F2,List.append_nil]at h3;subst h3;simp only[Pj,go_sem,jy,tK,hK];intro _ _;refine aR hr ?_;simp only[go_sem]
   |cons y br=>
    have bf:((bd.length:Int)<(m.length:Int))=True:=eq_true (by rw[h2];simp;omega);have tK:decide ((bd.length:Int)<(m.length:Int))=true:=decide_eq_true (of_eq_true bf);have hy:=u4 (f:=ak.cells) h2 rfl;have mr:((bd.length:Int)==(m.length:Int))=false:=by
     have:¬((bd.length:Int)=(m.length:Int)):=by rw[h2];simp;omega
     simpa using this
    rw[F2]at h3;simp only[Pj,go_sem,jy,tK,hq,mr,hy,BB,bf,ak.cells,lM];intros;refine⟨⟨by simp,by omega,by omega⟩,⟨ad,[],bd++[y],br,es++[y]⟩,jP [(6,138)] ?_,⟨h1,by rw[h2,List.append_assoc];rfl,by rw[F2,←h3,List.append_assoc];rfl,by simp only[lA,lC,lN]<;>omega⟩,by simp only[lC,lN]<;>omega⟩;simp only[go_sem,cN,oS,lA,lC,lN,zA,mA,mC,mN,qV,ak.cells];try rfl
  |cons x ar=>
   have rD:((ad.length:Int)<(l.length:Int))=True:=eq_true (by rw[h1];simp;omega);have jy:decide ((ad.length:Int)<(l.length:Int))=true:=decide_eq_true (of_eq_true rD);have hx:=u4 (f:=ak.cells) h1 rfl;have hq:((ad.length:Int)==(l.length:Int))=false:=by
    have:¬((ad.length:Int)=(l.length:Int)):=by rw[h1];simp;omega
    simpa using this
   cases br with
   |nil=>
    have tK:decide ((bd.length:Int)<(m.length:Int))=false:=by simp[h2]
    have mr:((bd.length:Int)==(m.length:Int))=true:=by simp[h2]
    have XO:(m.map ak.cells).getD bd.length []=[]:=by rw[h2];simp
    rw[GA]at h3;simp only[Pj,go_sem,jy,tK,hq,mr,XO,hx,rD,ak.cells,lM];intros;refine⟨⟨by simp,by omega,by omega⟩,⟨ad++[x],ar,bd,[],es++[x]⟩,jP [(6,105)] ?_,⟨by rw[h1,List.append_assoc];rfl,h2,by rw[GA,←h3,List.append_assoc];rfl,by simp only[lA,lC,lN]<;>omega⟩,by simp only[lC,lN]<;>omega⟩;simp only[go_sem,cN,oS,lA,lC,lN,zA,mA,mC,mN,xP,ak.cells];try rfl
   |cons y br=>
    have iC:((bd.length:Int)<(m.length:Int))=True:=eq_true (by rw[h2];simp;omega);have tK:decide ((bd.length:Int)<(m.length:Int))=true:=decide_eq_true (of_eq_true iC);have hy:=u4 (f:=ak.cells) h2 rfl;have mr:((bd.length:Int)==(m.length:Int))=false:=by
     have:¬((bd.length:Int)=(m.length:Int)):=by rw[h2];simp;omega
     simpa using this
    rw[TO]at h3;cases e1:Op.bytesLess x.name y.name with
    |true=>rw[e1,if_pos rfl]at h3;simp only[Pj,go_sem,jy,tK,hq,mr,hy,hx,rD,iC,e1,ak.cells,lM];intros;refine⟨⟨by simp,by omega,by omega⟩,⟨ad++[x],ar,bd,y::br,es++[x]⟩,jP [(6,105)] ?_,⟨by rw[h1,List.append_assoc];rfl,h2,by rw[←h3,List.append_assoc];rfl,by simp only[lA,lC,lN]<;>omega⟩,by simp only[lC,lN]<;>omega⟩;simp only[go_sem,cN,oS,lA,lC,lN,zA,mA,mC,mN,xP,ak.cells];try rfl
    |false=>
     rw[e1,if_neg (by decide)]at h3;cases e2:Op.bytesLess y.name x.name with
     |true=>rw[e2,if_pos rfl]at h3;simp only[Pj,go_sem,jy,tK,hq,mr,hy,hx,rD,iC,e1,e2,ak.cells,lM];intros;refine⟨⟨by simp,by omega,by omega⟩,⟨ad,x::ar,bd++[y],br,es++[y]⟩,jP [(6,138)] ?_,⟨h1,by rw[h2,List.append_assoc];rfl,by rw[←h3,List.append_assoc];rfl,by simp only[lA,lC,lN]<;>omega⟩,by simp only[lC,lN]<;>omega⟩;simp only[go_sem,cN,oS,lA,lC,lN,zA,mA,mC,mN,qV,ak.cells];try rfl
     |false=>
      rw[e2,if_neg (by decide)]at h3;unfold tG oV at h3;cases e3:(IntKind.i64.wrap (x.n+y.n) !=0)with
      |true=>rw[e3,if_pos rfl]at h3;simp only[Pj,go_sem,jy,tK,hq,mr,hy,hx,rD,iC,e1,e2,e3,ak.cells,lM];intros;refine⟨⟨by simp,by omega,by omega⟩,⟨ad++[x],ar,bd++[y],br,es++[⟨x.name,IntKind.i64.wrap (x.n+y.n)⟩]⟩,jP [(6,63)] ?_,⟨by rw[h1,List.append_assoc];rfl,by rw[h2,List.append_assoc];rfl,by rw[←h3,List.append_assoc];try rfl,by simp only[lA,lC,lN]<;>omega⟩,by simp only[lC,lN]<;>omega⟩;simp only[go_sem,cN,oS,lA,lC,lN,zA,mA,mC,mN,xP,qV,ak.cells];try rfl
      |false=>rw[e3,if_neg (by decide),List.nil_append]at h3;simp only[Pj,go_sem,jy,tK,hq,mr,hy,hx,rD,iC,e1,e2,e3,ak.cells,lM];intros;refine⟨⟨ad++[x],ar,bd++[y],br,es⟩,jP [(6,6)] ?_,⟨by rw[h1,List.append_assoc];rfl,by rw[h2,List.append_assoc];rfl,h3,by simp only[lA,lC,lN]<;>omega⟩,by simp only[lC,lN]<;>omega⟩;simp only[go_sem,cN,oS,lA,lC,lN,zA,mA,mC,mN,xP,qV,ak.cells];try rfl
end Go.Abs
end
section
namespace Go.Abs
theorem yqT(p q:Nat):(p:Int).tmod (q:Int)=((p%q:Nat):Int):=(Int.ofNat_tmod p q).symm
def eJ(a b:Int):Int:=(Nat.gcd a.natAbs b.natAbs:Int)
theorem Vv(n):eG n=(n.natAbs:Int):=by unfold eG;split<;>omega
def uj(a b:Int):Int×Bool:=if !aq a||!aq b||b==0 then(0,false)else(a/b,true)
theorem Tr{a g:Int}(hg:0<g):a/g=if a.tmod g !=0&&decide (a.tmod g<0)then a.tdiv g-1 else a.tdiv g:=by
 have h1:=Int.mul_tdiv_add_tmod a g;have h2:=Int.mul_ediv_add_emod a g;have h3:=Int.emod_nonneg a (by omega:g≠0);have h4:=Int.emod_lt_of_pos a hg;have h5:=Int.tmod_lt_of_pos a hg;have h6: -g<a.tmod g:=Int.neg_lt_of_neg_lt (by have:=Int.tmod_lt_of_pos (-a) hg;rw[Int.neg_tmod]at this;exact this);have key:∀q r q' r':Int,g*q+r=a→g*q'+r'=a→0≤r'→r'<g→(0≤r∧r<g→q'=q)∧(r<0∧-g<r→q'=q-1):=by
  intro q r q' r' e1 e2 e3 e4;constructor
  ·rintro⟨f1,f2⟩
   have:g*(q'-q)=r-r':=by rw[Int.mul_sub];omega
   have h:q'-q=0:=by
    rcases Int.lt_trichotomy (q'-q) 0 with h|h|h
    ·have:=Int.mul_le_mul_of_nonneg_left (show q'-q≤-1 by omega) (show 0≤g by omega);omega
    ·exact h
    ·have:=Int.mul_le_mul_of_nonneg_left (show 1≤q'-q by omega) (show 0≤g by omega);omega
   omega
  ·rintro⟨f1,f2⟩
   have:g*(q'-q)=r-r':=by rw[Int.mul_sub];omega
   have h:q'-q= -1:=by
    rcases Int.lt_trichotomy (q'-q) (-1)with h|h|h
    ·have:=Int.mul_le_mul_of_nonneg_left (show q'-q≤-2 by omega) (show 0≤g by omega);omega
    ·exact h
    ·have:=Int.mul_le_mul_of_nonneg_left (show 0≤q'-q by omega) (show 0≤g by omega);omega
   omega
 obtain⟨k1,k2⟩:=key (a.tdiv g) (a.tmod g) (a/g) (a%g) h1 h2 h3 h4;by_cases h:a.tmod g<0
 ·rw[if_pos (by simp;omega)];exact k2 ⟨h,h6⟩
 ·rw[if_neg (by simp;omega)];exact k1 ⟨by omega,h5⟩
theorem yK5{a g:Int}(hg:0<g):a%g=if a.tmod g !=0&&decide (a.tmod g<0)then a.tmod g+g else a.tmod g:=by
 have h1:=Int.mul_tdiv_add_tmod a g;have h2:=Int.mul_ediv_add_emod a g;have h3:=Tr (a:=a) hg;split at h3
 ·rename_i h;rw[if_pos h];rw[h3,Int.mul_sub]at h2;omega
 ·rename_i h;rw[if_neg h];rw[h3]at h2;omega
theorem TM(a){g:Int}(hg:0<g): -(eG a)≤a.tdiv g∧a.tdiv g≤eG a:=by
 have:(a.tdiv g).natAbs≤a.natAbs:=by rw[Int.natAbs_tdiv];exact Nat.div_le_self _ _
 rw[Vv];omega
theorem yxd(a:Int){g:Int}(hg:0<g): -g<a.tmod g∧a.tmod g<g:=by have h5:=Int.tmod_lt_of_pos a hg;have h6:=Int.tmod_lt_of_pos (-a) hg;rw[Int.neg_tmod]at h6;omega
variable{E:ax}(Z:Sys E)
include Z
theorem yzl{n}(h:aq n=true):E.C VR [.one (.int .i64 n)] (.one (.int .i64 (eG n))):=by
 rw[sL]at h;refine Z.VR _ _ ⟨bn rfl,?_⟩;have h1:(n== -9223372036854775808)=false:=by simp;omega
 have h2:IntKind.i64.wrap (0-n)= -n:=(i64_in _ (by omega)).trans (by omega);simp only[zQn,go_sem,h1,h2];unfold eG;cases h3:decide (n<0)with
 |true=>simp only[go_sem];rw[if_neg (by simpa using h3)]
 |false=>simp only[go_sem];rw[if_pos (by simpa using h3)]
theorem yyX{a b}(ha:aq a=true)(hb:aq b=true):E.C G5 [.one (.int .i64 a),.one (.int .i64 b)] (.one (.int .i64 (eJ a b))):=by
 have h1:=NX Z ha;have h2:=NX Z hb;refine Z.G5 _ _ ⟨bn rfl,?_⟩;rw[Vv]at h1 h2;unfold eJ;generalize hg:a.natAbs.gcd b.natAbs=g;generalize a.natAbs=p at*
 generalize b.natAbs=q at*
 simp only[yyl,go_sem];refine aR h1 ?_;simp only[go_sem];refine aR h2 ?_;simp only[go_sem];refine LK (fun s:Nat×Nat=>⟨[(0,.d (.int .i64 s.1)),(1,.d (.int .i64 s.2))],[],[]⟩) (fun s=>s.1.gcd s.2=g) (fun s=>s.2) (p,q) ?_ hg ?_
 ·exact dG (by simp only[go_sem])
 ·rintro⟨u,v⟩ h
  simp only at h;cases v with
  |zero=>have h0:((0:Int) !=0)=false:=rfl;rw[Nat.gcd_zero_right]at h;simp only[T3,go_sem,nZ,h0,h]
  |succ v=>
   have h0:(((v+1:Nat):Int) !=0)=true:=by simp;omega
   have hm:=yqT u (v+1);simp only[T3,go_sem,h0,hm];refine⟨by omega,(v+1,u%(v+1)),dG (by simp only[go_sem]),?_,Nat.mod_lt _ (by omega)⟩;show(v+1).gcd (u%(v+1))=g;rw[←h,Nat.gcd_comm u,Nat.gcd_rec (v+1) u,Nat.gcd_comm]
theorem yy0{a b}(ha:aq a=true)(hb:aq b=true):E.C VI [.one (.int .i64 a),.one (.int .i64 b)] (.one (.int .i64 (eJ a b))):=by
 have h1:=yzl Z ha;have h2:=yzl Z hb;refine Z.VI _ _ ⟨bn rfl,?_⟩;rw[Vv]at h1 h2;unfold eJ;generalize hg:a.natAbs.gcd b.natAbs=g;generalize a.natAbs=p at*
 generalize b.natAbs=q at*
 simp only[yyq,go_sem];refine aR h1 ?_;simp only[go_sem];refine aR h2 ?_;simp only[go_sem];refine LK (fun s:Nat×Nat=>⟨[(0,.d (.int .i64 s.1)),(1,.d (.int .i64 s.2))],[],[]⟩) (fun s=>s.1.gcd s.2=g) (fun s=>s.2) (p,q) ?_ hg ?_
 ·exact dG (by simp only[go_sem])
 ·rintro⟨u,v⟩ h
  simp only at h;cases v with
  |zero=>have h0:decide (((0:Nat):Int)>0)=false:=rfl;rw[Nat.gcd_zero_right]at h;simp only[zZy,go_sem,h0,h]
  |succ v=>
   have h0:decide (((v+1:Nat):Int)>0)=true:=by simp<;>omega
   have hm:=yqT u (v+1);simp only[zZy,go_sem,h0,hm];refine⟨by omega,(v+1,u%(v+1)),dG (by simp only[go_sem]),?_,Nat.mod_lt _ (by omega)⟩;show(v+1).gcd (u%(v+1))=g;rw[←h,Nat.gcd_comm u,Nat.gcd_rec (v+1) u,Nat.gcd_comm]
set_option linter.unnecessarySimpa false in
theorem yx6{a g}(hg:0<g):E.C KJ [.one (.int .i64 a),.one (.int .i64 g)] (.tup [.one (.int .i64 (uj a g).1),.one (.int .i64 (if(uj a g).2 then a%g else 0)),.one (.bool (uj a g).2)]):=by
 have h1:=yu Z a;have h2:=yu Z g;refine Z.KJ _ _ ⟨bn rfl,?_⟩;generalize hR:uj a g=R;unfold uj at hR;have h0:(g==0)=false:=by simp;omega
 simp only[zKc,go_sem];refine aR h1 ?_;cases c1:aq a with
 |false=>simp only[c1,h0,go_sem]at hR⊢;refine⟨.one (.bool true),?_⟩;simp only[go_sem];subst hR;simp
 |true=>
  simp only[go_sem];refine aR h2 ?_;cases c2:aq g with
  |false=>simp only[c1,c2,h0,go_sem]at hR⊢;subst hR;simp
  |true=>
   simp only[c1,c2,h0,go_sem]at hR⊢;have ki:=(Oo a).1 c1;rw[sL]at c1 c2;have Qt:decide (g<0)=false:=by simp;omega
   have e1:=Tr (a:=a) hg;have e2:=yK5 (a:=a) hg;have⟨b1,b2⟩:=TM a hg;have⟨b3,b4⟩:=yxd a hg;refine⟨by omega,by omega,?_⟩;subst hR;simp only[Qt,if_true];cases c3:(a.tmod g !=0&&decide (a.tmod g<0))with
   |true=>
    rw[c3,if_pos rfl]at e1 e2;have c4:decide (a.tmod g<0)=true:=by simp only[Bool.and_eq_true]at c3;exact c3.2
    have c5:(a.tmod g !=0)=true:=by simp only[Bool.and_eq_true]at c3;exact c3.1
    simp only[c4,c5];rw[if_pos (by decide),e1,e2,i64_in (a.tdiv g) (by omega),i64_in _ (by omega),i64_in _ (by omega)];simp
   |false=>
    rw[c3,if_neg (by decide)]at e1 e2;have c4:(a.tmod g !=0&&!decide (a.tmod g<0)==false)=false:=by cases hd:decide (a.tmod g<0)<;>rw[hd]at c3<;>first|(simpa using c3)|simp
    rw[c4,if_neg (by decide),e1,e2,i64_in _ (by omega)];simp
theorem yZO{a g}(hg:0<g):E.C Ko [.one (.int .i64 a),.one (.int .i64 g)] (jK (uj a g)):=by
 have h1:=yx6 Z (a:=a) hg;refine Z.Ko _ _ ⟨bn rfl,?_⟩;try simp only[jK]
 simp only[yyk,go_sem];refine aR h1 ?_;simp only[go_sem]
end Go.Abs
end
section
namespace Go.Abs
def nW(g:ak→ak)(ok:ak→Bool)(l:List ak):List ak×Bool:=if l.all ok then(l.map g,true)else([],false)
theorem yjU{α:Type}{ok l d r}{x:α}(hl:l=d++x::r)(hx:ok x=false):l.all ok=false:=by rw[hl];simp[hx]
theorem O8{α:Type}{ok}{l:List α}(h:∀y∈l,ok y=true):l.all ok=true:=by simpa using h
def dZ(g:Int)(l:List ak):Int:=l.foldl (fun g c=>eJ g c.n) g
theorem yke(g)(d)(x):dZ g (d++[x])=eJ (dZ g d) x.n:=by simp[dZ]
theorem O7{a b}(ha:aq a=true)(hb:aq b=true):aq (eJ a b)=true:=by
 rw[sL]at*
 unfold eJ;by_cases h:b.natAbs=0
 ·rw[h,Nat.gcd_zero_right];omega
 ·have:=Nat.gcd_le_right a.natAbs (Nat.pos_of_ne_zero h);omega
theorem KM:∀{l} {g},aq g=true→(∀c∈l,aq c.n=true)→aq (dZ g l)=true
 |[],_,hg,_=>hg
 |c::l,g,hg,h=>KM (l:=l) (O7 hg (h c (by simp))) fun c' hc=>h c' (by simp[hc])
theorem LJ:∀{p} {l},eR p l=0→∀c∈l,aq c.n=true∧c.n≠0
 |_,[],_=>by simp
 |p,x::l,h=>by
  rw[eR]at h;by_cases h1:iI p x=0
  ·rw[if_pos (by simpa using h1)]at h;intro c hc;rcases List.mem_cons.1 hc with rfl|hc
   ·unfold iI at h1;split at h1
    ·cases h1
    ·split at h1
     ·cases h1
     ·rename_i h2;simp at h2;exact⟨h2.2,h2.1⟩
   ·exact LJ h c hc
  ·rw[if_neg (by simpa using h1)]at h;exact absurd h h1
theorem GC{a}(h:cr a=0):eR none a.aG=0∧aq a.c=true:=by
 unfold cr at h;split at h
 ·cases h
 ·split at h
  ·rename_i h2;refine⟨by simpa using h2,?_⟩;split at h
   ·assumption
   ·cases h
  ·rename_i h2;simp at h2;exact absurd h h2
theorem O9{a}(h:cr a=0):∀c∈a.aG,aq c.n=true:=fun c hc=>(LJ (GC h).1 c hc).1
structure Row where
 wk:aH
 eq:Bool
def Row.cells(r:Row):List D:=[.aw (r.wk.aG.map ak.cells),.int .i64 r.wk.c,.bool r.eq]
theorem Row.lens(l:List Row):(∀e∈l.map Row.cells,e.length=3)=True:=Bj (f:=Row.cells) (fun _=>rfl) l
attribute [go_sem] Row.lens
def Ay(b:Bool):Row:=if b then⟨bE,false⟩else⟨⟨[],1⟩,false⟩
attribute [go_sem] fT oZ kr Matches de bP cF sB ng jB dC AV.oT lp jk CV.fB Ai Ah DF rf fZ mb gg j3 AV.gW aZ uJ
variable{E:ax}(Z:Sys E)
include Z
theorem zq6(a:aH)(g)(hg:aq g=true)(hr:∀c∈a.aG,aq c.n=true):E.C Hy [.agg a.cells,.one (.int .i64 g)] (.one (.int .i64 (dZ g a.aG))):=by
 refine Z.Hy _ _ ⟨bn rfl,?_⟩;obtain⟨l,c⟩:=a;simp only[aH.cells]at*
 simp only[zqY,go_sem];intro _;refine gU l (fun _=>True) (fun done rest=>⟨[(10,.d (.int .i64 done.length)),(9,.d (.int .i64 l.length)),(8,.d (.aw (l.map ak.cells))),(1,.d (.int .i64 (dZ g done)))],[],[]⟩) ?_ trivial ?_ ?_
 ·exact dG (by simp only[go_sem];rfl)
 ·intro done x r hl _;have bf:=gw hl;have hw:IntKind.i64.wrap ((done.length:Int)+1)=((done.length+1:Nat):Int):=gn (by omega);have h1:=yyX Z (KM (l:=done) hg fun c hc=>hr c (by rw[hl];simp[hc])) (hr x (by rw[hl];simp));rw[yke];simp only[UF,go_sem,getD_at hl,bf,ak.cells];refine aR h1 ?_;simp only[go_sem,hw];exact dG (by simp only[go_sem,lA,lC,lN,zA])
 ·intro _;simp only[UF,go_sem]
theorem zKH(a:aH)(hr:∀c∈a.aG,aq c.n=true):E.C zvf [.agg a.cells] (.one (.int .i64 (dZ 0 a.aG))):=by
 refine Z.zvf _ _ ⟨bn rfl,?_⟩;obtain⟨l,c⟩:=a;simp only[aH.cells]at*
 simp only[zKi,go_sem];refine gU l (fun _=>True) (fun done rest=>⟨[(4,.d (.int .i64 done.length)),(1,.ptr 1 0),(3,.d (.int .i64 (dZ 0 done)))],[(1,[.d (.aw (l.map ak.cells)),.d (.int .i64 c)])],[]⟩) ?_ trivial ?_ ?_
 ·exact dG (by simp only[go_sem,oS];rfl)
 ·intro done x r hl _;have bf:=gw hl;have h1:=yy0 Z (KM (l:=done) (by decide:aq 0=true) fun c hc=>hr c (by rw[hl];simp[hc])) (hr x (by rw[hl];simp));rw[yke];simp only[zvU,go_sem,getD_at hl,bf,ak.cells];intro _;have hw:IntKind.i64.wrap ((done.length:Int)+1)=((done.length+1:Nat):Int):=gn (by omega);refine aR h1 ?_;simp only[go_sem,hw];exact dG (by simp only[go_sem,oS,lA,lC,lN,zA])
 ·intro _;simp only[zvU,go_sem];try intro _
  try simp only[go_sem]
theorem zVf(b):E.C Hz [.one (.bool b)] (.agg (Ay b).cells):=by refine Z.Hz _ _ ⟨bn rfl,?_⟩;cases b<;>simp only[zqZ,go_sem]<;>rfl
theorem yq1(x:ak)(k):E.C Hx [] (.bx [.agg (x.cells.map .d),.ptr 1000 0] [(1000,[.d (.int .i64 k)])] [] (.tup [.agg (ak.mk x.name (eF x.n k).1).cells,.one (.bool (eF x.n k).2)]) [(1000,[.d (.int .i64 k)])] []):=by
 have h1:=TP Z x.n k;refine Z.Hx _ _ ⟨bn rfl,bn rfl,rfl,?_⟩;simp only[ak.cells,jK]at*
 simp only[zqW,go_sem,mb,mC,mN];refine aR h1 ?_;simp only[go_sem];exact dG (by simp only[go_sem,oS])
theorem R8(rQ)(kk)(g)(ok)(l)(MC:l.length≤1000)
  (hf:∀x∈l,E.C rQ [] (.bx [.agg (x.cells.map .d),.ptr 1000 0] [(1000,[.d kk])] [] (.tup [.agg (g x).cells,.one (.bool (ok x))]) [(1000,[.d kk])] [])):
  E.C HG [] (.bx [.d (.aw (l.map ak.cells)),.clo rQ [.ptr 1000 0]] [(1000,[.d kk])] [] (.tup [.one (.aw ((nW g ok l).1.map ak.cells)),.one (.bool (nW g ok l).2)]) [(1000,[.d kk])] []):=by
 refine Z.HG _ _ ⟨bn rfl,bn rfl,rfl,?_⟩;generalize hR:nW g ok l=R;unfold nW at hR;simp only[zkz,go_sem];intro _;refine gU l (fun done=>∀y∈done,ok y=true) (fun done rest=>⟨[(13,.d (.int .i64 done.length)),(12,.d (.int .i64 l.length)),(11,.d (.aw (l.map ak.cells))),(1,.clo rQ [.ptr 1000 0]),(6,.own 6 2 ((done.map g).map ak.cells))],[(1000,[.d kk])],[(6,true)]⟩) ?_ (by simp) ?_ ?_
 ·exact Bp 6 6 2 [] [(6,6)] rfl (by simp) rfl (by simp only[jz,go_sem,cN,oS,mN,lN,nZ])
 ·intro done x r hl hI;have bf:=gw hl;have hw:IntKind.i64.wrap ((done.length:Int)+1)=((done.length+1:Nat):Int):=gn (by omega);have hx:=hf x (by rw[hl];simp);have yy:done.length<l.length:=by rw[hl];simp
  simp only[UU,go_sem,getD_at hl,bf,ak.cells,mC,mN]at hx⊢;refine YK ⟨[(1000,1000)],[],[],_,_,_,_⟩ hx rfl rfl ?_ ?_
  ·simp only[okB,go_sem,List.cons_append,List.nil_append];exact⟨rfl,rfl,fun p hp=>by rw[List.mem_singleton.1 hp];rfl⟩
  ·simp only[go_sem,List.cons_append,List.nil_append,Option.getD_some];cases e:ok x with
   |false=>rw[yjU hl e]at hR;subst hR;simp only[go_sem];exact dG (by simp only[go_sem,oS])
   |true=>simp only[go_sem,hw,lM];refine⟨⟨by simp,by omega,by omega⟩,jP [(6,28)] ?_,qi hI e⟩;simp only[go_sem,cN,oS,lA,lC,lN,zA,mA,mC,mN,ak.cells]
 ·intro hI;rw[O8 hI]at hR;subst hR;simp only[UU,go_sem];exact dG (by simp only[go_sem,oS])
end Go.Abs
end
section
namespace Go.Abs
def mulC(k:Int)(c:ak):ak:=⟨c.name,(eF c.n k).1⟩
def mg(k:Int)(c:ak):Bool:=(eF c.n k).2
def aF(a:aH)(k:Int):aH×Bool:=
 if cr a !=0 then(bE,false)else if k==0 then(bE,true)
 else if a.aG.all (mg k)&&(a.c==0||(eF a.c k).2)then(⟨a.aG.map (mulC k),(eF a.c k).1⟩,true)else(bE,false)
theorem Np{n k}(h:aq k=false):eF n k=(0,false):=by unfold eF;rw[h];simp
theorem YW{k}(h:aq k=true):eF 0 k=(0,true):=by unfold eF sO;rw[h];simp[aq]
theorem yZK(k):(eF 0 k).1=0:=by
 cases h:aq k with
 |true=>rw[YW h]
 |false=>rw[Np h]
theorem yWN{l:List ak}{c k}(h:aq k=false):(if l.all (mg k)&&(c==0||(eF c k).2)then((⟨l.map (mulC k),(eF c k).1⟩,true):aH×Bool)else(bE,false))=(bE,(l.length:Int)==0&&c==0):=by
 cases l with
 |nil=>
  by_cases hc:c=0
  ·subst hc;rw[Np h];rfl
  ·have:(c==0)=false:=by simpa using hc
   rw[Np h,this];rfl
 |cons x l=>
  have:mg k x=false:=by unfold mg;rw[Np h]
  rw[List.all_cons,this];have h2:(((x::l).length:Int)==0)=false:=by simp;omega
  rw[h2];rfl
theorem yV0{l:List ak}{c k}(h:aq k=true):(l.all (mg k)&&(c==0||(eF c k).2))=((eF c k).2&&l.all (mg k)):=by
 have:(c==0||(eF c k).2)=(eF c k).2:=by
  by_cases hc:c=0
  ·subst hc;rw[YW h];rfl
  ·have:(c==0)=false:=by simpa using hc
   rw[this,Bool.false_or]
 rw[this,Bool.and_comm]
variable{E:ax}(Z:Sys E)
include Z
set_option maxHeartbeats 1000000 in
theorem HA(a)(k):E.C Bs [.agg a.cells,.one (.int .i64 k)] (lv (aF a k)):=by
 have h1:=GF Z a;have h2:=yu Z k;have h3:=TP Z a.c k;have h4:=fun hl=>R8 Z Hx (.int .i64 k) (mulC k) (mg k) a.aG hl fun x _=>yq1 Z x k;refine Z.Bs _ _ ⟨bn rfl,?_⟩;generalize hR:aF a k=R;unfold aF at hR;obtain⟨l,c⟩:=a;simp only[aH.cells,jK]at*
 try unfold lv
 try simp only[aH.cells]
 simp only[zYx,go_sem];refine aR h1 ?_;cases c0:(cr ⟨l,c⟩ !=0)with
 |true=>rw[c0]at hR;subst hR;simp only[c0,go_sem];try exact⟨rfl,rfl⟩
 |false=>
 have sY:=Bn (a:=⟨l,c⟩) (by simpa using c0);simp only at sY;simp only[c0,go_sem]at hR⊢;cases c1:(k==0)with
 |true=>rw[c1]at hR;subst hR;simp only[go_sem];try exact⟨rfl,rfl⟩
 |false=>
 simp only[c1,go_sem]at hR⊢;refine aR h2 ?_;cases c2:aq k with
 |false=>rw[yWN c2]at hR;subst hR;simp only[go_sem];exact⟨⟨rfl,rfl⟩,rfl,rfl⟩
 |true=>
  rw[yV0 c2]at hR;simp only[go_sem];refine aR h3 ?_;simp only[go_sem];refine Ss ⟨[(1000,3)],[],[],_,_,_,_⟩ (h4 (by omega)) rfl rfl ?_ ?_
  ·simp only[okB,go_sem,List.cons_append,List.nil_append];exact⟨rfl,rfl,fun p hp=>by rw[List.mem_singleton.1 hp];rfl⟩
  ·simp only[go_sem,List.cons_append,List.nil_append,Option.getD_some];unfold nW;cases e1:(eF c k).2<;>cases e2:l.all (mg k)<;>rw[e1,e2]at hR<;>subst hR<;>simp[bE]
set_option maxHeartbeats 1000000 in
theorem zJl(a)(k):E.C UH [.agg a.cells,.one (.int .i64 k)] (lv (aF a k)):=by
 have h1:=UL Z a;have h3:=fun n=>yZX Z n k;refine Z.UH _ _ ⟨bn rfl,?_⟩;generalize hR:aF a k=R;unfold aF at hR;obtain⟨l,c⟩:=a;simp only[aH.cells,jK]at*
 try unfold lv
 try simp only[aH.cells]
 simp only[zJb,go_sem];refine aR h1 ?_;cases c0:(cr ⟨l,c⟩ !=0)with
 |true=>rw[c0]at hR;subst hR;simp only[c0,go_sem];try exact⟨rfl,rfl⟩
 |false=>
 have sY:=Bn (a:=⟨l,c⟩) (by simpa using c0);simp only at sY;simp only[c0,go_sem]at hR⊢;cases c1:(k==0)with
 |true=>rw[c1]at hR;subst hR;simp only[go_sem];try exact⟨rfl,rfl⟩
 |false=>
 simp only[c1,go_sem]at hR⊢;refine AE fun K hK=>?_;refine gU l (fun done=>∀y∈done,mg k y=true) (fun done rest=>⟨[(7,.d (.int .i64 done.length)),(1,.d (.int .i64 k)),(2,.ptr 2 0),(4,.ptr 4 0),(6,.ptr 6 0)],
  [(6,[.own 6 2 ((done.map (mulC k)).map ak.cells),.d (.int .i64 0)]),(4,[.full [],.d (.int .i64 0)]),(2,[.d (.aw (l.map ak.cells)),.d (.int .i64 c)])],[(6,true)]⟩) ?_ (by simp) ?_ ?_
 ·exact Gz 6 0 6 2 _ [] [(6,6)] rfl rfl (by simp) rfl (by simp only[jz,go_sem,cN,oS,mN,lN,nZ];try rfl)
 ·intro done x r hl hI;have bf:=gw hl;have hx:=h3 x.n;have yy:done.length<l.length:=by rw[hl];simp
  have hw:IntKind.i64.wrap ((done.length:Int)+1)=((done.length+1:Nat):Int):=gn (by omega);simp only[zjx,go_sem,getD_at hl,bf,ak.cells];intro _;refine aR hx ?_;cases e:(eF x.n k).2 with
  |false=>have e':mg k x=false:=e;rw[yjU hl e']at hR;subst hR;simp only[go_sem,hK];try exact⟨rfl,rfl⟩
  |true=>have e':mg k x=true:=e;simp only[go_sem,hw,getD_at hl,bf,ak.cells,lM];refine⟨⟨by simp,by omega,by omega⟩,jP [(6,52)] ?_,qi hI e'⟩;simp only[go_sem,cN,oS,lA,lC,lN,zA,mA,mC,mN,ak.cells,mulC];try rfl
 ·intro hI;rw[O8 hI]at hR;simp only[zjx,go_sem,hK];intro _;cases c2:(c==0)with
  |true=>
   have yj:c=0:=by simpa using c2
   subst yj;rw[yZK]at hR;subst hR;simp only[bne,c2,go_sem];try exact⟨rfl,rfl⟩
  |false=>
   simp only[c2,go_sem,Bool.false_or]at hR;simp only[bne,c2,go_sem];refine aR (h3 c) ?_;cases e:(eF c k).2 with
   |false=>rw[e]at hR;subst hR;simp only[go_sem];try exact⟨rfl,rfl⟩
   |true=>rw[e]at hR;subst hR;simp only[go_sem];try exact⟨rfl,rfl⟩
def gA(g:Int)(c:ak):ak:=⟨c.name,c.n.tdiv g⟩
end Go.Abs
end
section
namespace Go.Abs
theorem Sl{a b}(hb:b≠0):0<eJ a b:=by unfold eJ;have:=Nat.gcd_pos_of_pos_right a.natAbs (show 0<b.natAbs by omega);omega
theorem ZA:∀{l} {g},g≠0∨l≠[]→(∀c∈l,c.n≠0)→g≠0→0<dZ g l∨dZ g l=g
 |[],g,_,_,_=>.inr rfl
 |c::l,g,_,h,hg=>by
  have h1:eJ g c.n≠0:=by have:=Sl (a:=g) (h c (by simp));omega
  rcases ZA (l:=l) (.inl h1) (fun c' hc=>h c' (by simp[hc])) h1 with h2|h2
  ·exact .inl h2
  ·refine .inl ?_;show 0<dZ (eJ g c.n) l;rw[h2];exact Sl (h c (by simp))
theorem qB{c l}(h:∀x∈c::l,x.n≠0):0<dZ 0 (c::l):=by
 have h0:=Sl (a:=0) (h c (by simp));have:dZ 0 (c::l)=dZ (eJ 0 c.n) l:=rfl;rw[this];rcases ZA (l:=l) (.inl (show eJ 0 c.n≠0 by omega)) (fun x hx=>h x (by simp[hx])) (by omega)with h2|h2
 ·exact h2
 ·omega
def px(r:Row):Row:=
 if cr r.wk !=0 then r
 else if(r.wk.aG.length:Int)==0 then Ay (r.wk.c==0||(!r.eq&&decide (r.wk.c<0)))
 else if r.eq&&r.wk.c.tmod (dZ 0 r.wk.aG) !=0 then Ay false
 else⟨⟨r.wk.aG.map (gA (dZ 0 r.wk.aG)),-(-r.wk.c/dZ 0 r.wk.aG)⟩,r.eq⟩
theorem ywe{n g:Int}(h:aq n=true)(hg:0<g):IntKind.i64.wrap (n.tdiv g)=n.tdiv g:=by have hb:=TM n hg;have:=(Oo n).1 h;exact i64_in _ (by omega)
variable{E:ax}(Z:Sys E)
include Z
theorem ywS(x){g}(hg:0<g)(hx:aq x.n=true):E.C CE [] (.bx [.agg (x.cells.map .d),.ptr 1000 0] [(1000,[.d (.int .i64 g)])] [] (.tup [.agg (gA g x).cells,.one (.bool true)]) [(1000,[.d (.int .i64 g)])] []):=by
 refine Z.CE _ _ ⟨bn rfl,bn rfl,rfl,?_⟩;have hq:=ywe hx hg;have h0:(g≠0)=True:=eq_true (by omega);simp only[ak.cells,gA]at*
 simp only[UB,go_sem,mC,mN,hq,h0];exact dG (by simp only[go_sem,oS])
theorem zVe(l:List ak){g}(hg:0<g)(hl:l.length≤1000)(hr:∀c∈l,aq c.n=true):E.C Ed [.one (.aw (l.map ak.cells)),.one (.int .i64 g)] (.one (.aw ((l.map (gA g)).map ak.cells))):=by
 have h4:=R8 Z CE (.int .i64 g) (gA g) (fun _=>true) l hl fun x hx=>ywS Z x hg (hr x hx);have he:nW (gA g) (fun _=>true) l=(l.map (gA g),true):=by unfold nW;rw[O8 (fun _ _=>rfl)];rfl
 rw[he]at h4;refine Z.Ed _ _ ⟨bn rfl,?_⟩;simp only[Ud,go_sem];refine Ss ⟨[(1000,3)],[],[],_,_,_,_⟩ h4 rfl rfl ?_ ?_
 ·simp only[okB,go_sem,List.cons_append,List.nil_append];exact⟨rfl,rfl,fun p hp=>by rw[List.mem_singleton.1 hp];rfl⟩
 ·simp only[go_sem,List.cons_append,List.nil_append,Option.getD_some]
end Go.Abs
end
section
namespace Go.Abs
theorem yyd{a g}(hg:0<g): -(eG a)-1≤a/g∧a/g≤eG a:=by have h1:=Tr (a:=a) hg;have h2:=TM a hg;split at h1<;>omega
variable{E:ax}(Z:Sys E)
include Z
set_option maxHeartbeats 2000000 in
theorem zQY(r)(h0:cr r.wk=0):E.C F6 [.agg r.cells] (.agg (px r).cells):=by
 have h1:=GF Z r.wk;have sY:=Bn h0;have yf:=O9 h0;have⟨tH,yb⟩:=GC h0;have hv:=fun b=>zVf Z b;have IZ:=zq6 Z r.wk 0 (by decide) yf;have yd:=KM (g:=0) (by decide) yf;generalize hR:px r=R;unfold px at hR;rw[h0]at h1 hR;obtain⟨⟨l,c⟩,eq⟩:=r;refine Z.F6 _ _ ⟨bn rfl,?_⟩;simp only[Row.cells,aH.cells]at*
 simp only[zYy,go_sem];refine aR h1 ?_;simp only[go_sem,bne,Int.reduceBEq]at hR⊢;intro _;cases c1:((l.length:Int)==0)with
 |true=>rw[c1]at hR;simp only[if_true]at hR;simp only[go_sem];refine aR (hv _) ?_;simp only[go_sem,←hR]
 |false=>
  rw[c1]at hR;have sK:l≠[]:=by rintro rfl;simp at c1
  have hg:0<dZ 0 l:=by
   cases l with
   |nil=>exact absurd rfl sK
   |cons x l=>exact qB fun y hy=>(LJ tH y hy).2
  simp only[go_sem]at hR⊢;refine aR IZ ?_;generalize dZ 0 l=g at*
  have h0':(g≠0)=True:=eq_true (by omega);rw[sL]at yb yd;have xP:IntKind.i64.wrap (0-c)= -c:=(i64_in _ (by omega)).trans (by omega);have hd:=yZO Z (a:= -c) hg;have Mk:uj (-c) g=(-c/g,true):=by unfold uj;rw[(sL _).2 (show-1000000000000≤-c∧-c≤1000000000000 by omega),(sL _).2 yd,show(g==0)=false by simp;omega];rfl
  rw[Mk]at hd;have hb:=yyd (a:= -c) hg;have ki:eG (-c)≤1000000000000:=(Oo _).1 ((sL _).2 (by omega));have qV:IntKind.i64.wrap (0- -c/g)= -(-c/g):=(i64_in _ (by omega)).trans (by omega);have Da:=zVe Z l hg (by omega) yf;simp only[jK]at hd;simp only[go_sem,h0'];cases c2:(eq&&c.tmod g !=0)with
  |true=>have yL:=c2;simp only[bne]at yL;rw[if_pos yL]at hR;subst hR;simp only[go_sem];refine aR (hv _) ?_;simp only[go_sem]
  |false=>have yL:=c2;simp only[bne]at yL;rw[if_neg (by rw[yL];decide)]at hR;subst hR;simp only[go_sem,xP];refine aR hd ?_;simp only[go_sem];refine aR Da ?_;simp only[go_sem,qV]
end Go.Abs
end
section
namespace Go.Abs
def uM:aH:=⟨[],1⟩
theorem LH:cr bE=0:=by decide
def DS:Row:=⟨bE,false⟩
def xT(f:aH)(s:Int):Row×Bool:=
 if s== -1 then(px ⟨(cf f uM).1,false⟩,(cf f uM).2)
 else if s==0 then(px ⟨(cf f bE).1,true⟩,(cf f bE).2)
 else if s==1 then(if(aF f (-1)).2 then(px ⟨(cf (aF f (-1)).1 uM).1,false⟩,(cf (aF f (-1)).1 uM).2)else(DS,false))
 else(DS,false)
def oE(p:aH×Int):List Row:=if(xT p.1 p.2).2 then[(xT p.1 p.2).1]else[]
def Ak(f:List aH)(signs:List Int):List Row:=(f.zip signs).flatMap oE
theorem yWB(x):cr (jL x).1=0:=by
 unfold jL;cases h:(cr x !=0)with
 |true=>exact LH
 |false=>simpa using h
theorem Vw(a b):cr (cf a b).1=0:=by
 unfold cf;split
 ·exact LH
 ·exact yWB _
theorem yzR{α β:Type}(f:List α)(s:List β):((f.zip s).length:Int)=if(s.length:Int)<(f.length:Int)then(s.length:Int)else(f.length:Int):=by
 rw[List.length_zip];split<;>omega
theorem HZ{α β:Type}:∀{f} {s} {d r} {x:α×β},f.zip s=d++x::r→∃fd fr sd sr,f=fd++x.1::fr∧s=sd++x.2::sr∧fd.length=d.length∧sd.length=d.length
 |[],_,d,r,x,h=>by simp at h
 |a::f,[],d,r,x,h=>by simp at h
 |a::f,b::s,[],r,x,h=>by simp only[List.zip_cons_cons,List.nil_append,List.cons.injEq]at h;obtain⟨rfl,_⟩:=h;exact⟨[],f,[],s,rfl,rfl,rfl,rfl⟩
 |a::f,b::s,y::d,r,x,h=>by simp only[List.zip_cons_cons,List.cons_append,List.cons.injEq]at h;obtain⟨fd,fr,sd,sr,h1,h2,h3,h4⟩:=HZ h.2;exact⟨a::fd,fr,b::sd,sr,by rw[h1];rfl,by rw[h2];rfl,by simp[h3],by simp[h4]⟩
theorem yWF(p):(oE p).length≤1:=by unfold oE;split<;>simp
theorem yqP(l:List (aH×Int)):(l.flatMap oE).length≤l.length:=by
 induction l with
 |nil=>simp
 |cons x l ih=>have:=yWF x;simp only[List.flatMap_cons,lA,lC];omega
def J3(r:Row×Bool):CV:=.tup [.agg r.1.cells,.one (.bool r.2)]
variable{E:ax}(Z:Sys E)
include Z
set_option maxHeartbeats 2000000 in
theorem yww(f)(s):E.C KZ [.agg f.cells,.one (.int .i64 s)] (J3 (xT f s)):=by
 have h1:=fun b=>CA Z f b;have h2:=HA Z f (-1);have h3:=fun a b=>CA Z a b;have h4:=fun a b e=>zQY Z ⟨(cf a b).1,e⟩ (Vw a b);generalize hR:xT f s=R;unfold xT at hR;refine Z.KZ _ _ ⟨bn rfl,?_⟩;have WK:=h1 uM;have WJ:=h1 bE;have WM:=fun a=>h3 a uM;have hn:bE.aG=[]:=rfl;have ho:uM.aG=[]:=rfl;have A6:bE.c=0:=rfl;have E7:uM.c=1:=rfl;simp only[Row.cells,aH.cells,lv]at*
 simp only[hn,ho,A6,E7,mN]at WK WJ WM;simp only[zVN,go_sem];cases c1:(s== -1)with
 |true=>rw[c1]at hR;simp only[if_true]at hR;subst hR;simp only[go_sem];refine aR WK ?_;simp only[go_sem];refine aR (h4 _ _ _) ?_;simp only[go_sem];try exact⟨⟨rfl,rfl,rfl⟩,rfl⟩
 |false=>
  rw[c1]at hR;simp only[go_sem];cases c2:(s==0)with
  |true=>rw[c2]at hR;simp only[go_sem,if_true]at hR;subst hR;simp only[go_sem];refine aR WJ ?_;simp only[go_sem];refine aR (h4 _ _ _) ?_;simp only[go_sem];try exact⟨⟨rfl,rfl,rfl⟩,rfl⟩
  |false=>
   rw[c2]at hR;simp only[go_sem];cases c3:(s==1)with
   |false=>rw[c3]at hR;simp only[go_sem]at hR;subst hR;simp only[go_sem];exact⟨rfl,rfl,rfl⟩
   |true=>
    rw[c3]at hR;simp only[go_sem,if_true]at hR;simp only[go_sem];refine aR h2 ?_;simp only[go_sem];cases c4:(aF f (-1)).2 with
    |false=>rw[c4]at hR;simp only[go_sem]at hR;subst hR;simp only[go_sem];exact⟨rfl,rfl,rfl⟩
    |true=>rw[c4]at hR;simp only[if_true]at hR;subst hR;simp only[go_sem];refine aR (WM _) ?_;simp only[go_sem];refine aR (h4 _ _ _) ?_;simp only[go_sem];try exact⟨⟨rfl,rfl,rfl⟩,rfl⟩
set_option maxHeartbeats 2000000 in
theorem zZp(f)(signs)(hf:f.length≤1000):E.C KU [.one (.aw (f.map aH.cells)),.one (.aw (signs.map eT))] (.one (.aw ((Ak f signs).map Row.cells))):=by
 have h1:=fun f s=>yww Z f s;refine Z.KU _ _ ⟨bn rfl,?_⟩;unfold Ak;simp only[J3]at h1;simp only[zW5,go_sem];intro _ _;rw[←yzR];have Fk:(f.zip signs).length≤1000:=by rw[List.length_zip];omega
 generalize hz:f.zip signs=zs at*
 refine gU zs (fun _=>True) (fun done rest=>⟨[(14,.d (.int .i64 done.length)),(13,.d (.int .i64 zs.length)),(0,.d (.aw (f.map aH.cells))),(1,.d (.aw (signs.map eT))),(5,.own 5 3 ((done.flatMap oE).map Row.cells))],[],[(5,true)]⟩) ?_ trivial ?_ ?_
 ·exact Bp 5 5 3 [] [(5,5)] rfl (by simp) rfl (by simp only[jz,go_sem,cN,oS,List.flatMap_nil,mN,lN,nZ])
 ·intro done x r hl _;have bf:=gw hl;have hw:IntKind.i64.wrap ((done.length:Int)+1)=((done.length+1:Nat):Int):=gn (by omega);obtain⟨fd,fr,sd,sr,e1,e2,e3,e4⟩:=HZ (hz.trans hl);have hx:=u4 (f:=aH.cells) e1 e3;have hy:=u4 (f:=eT) e2 e4;have l1:((done.length:Int)<(f.length:Int))=True:=eq_true (by rw[e1,←e3];simp;omega);have l2:((done.length:Int)<(signs.length:Int))=True:=eq_true (by rw[e2,←e4];simp;omega);have yy:done.length<zs.length:=by rw[hl];simp
  have Mz:=yqP done;have h1:=h1 x.1 x.2;have MD:(done++[x]).flatMap oE=done.flatMap oE++oE x:=by simp
  rw[MD];unfold oE at*
  simp only[aH.cells,eT,Row.cells]at*
  simp only[Uo,go_sem,hx,hy,bf,l1,l2];refine aR h1 ?_;cases c:(xT x.1 x.2).2 with
  |true=>simp only[go_sem,hw,lM];refine⟨⟨by simp,by omega,by omega⟩,jP [(5,33)] ?_⟩;simp only[go_sem,cN,oS,lA,lC,lN,zA,mA,mC,mN,Row.cells,if_true]
  |false=>simp only[go_sem,hw,lM];exact jP [(5,5)] (by simp only[go_sem,cN,oS,lA,lC,lN,zA,mA,mC,mN,List.append_nil])
 ·intro _;simp only[Uo,go_sem]
end Go.Abs
end
section
namespace Go.Abs
theorem yxU(n:Nat):Lib.itoa (n:Int)=Lib.decDigits n:=by unfold Lib.itoa;rw[if_neg (by omega)];rfl
theorem itoa_neg{n}(h:n<0):Lib.itoa n=45::Lib.decDigits n.natAbs:=by unfold Lib.itoa;rw[if_pos h]
theorem zW0(n)(h:n≤9223372036854775807):(Lib.decDigits n).length≤21:=by
 have:=Lib.itoa_length_le (n:Int) (by omega) (by omega)
 rwa [yxU]at this
theorem xab:∀n:Nat,n<10→List.drop n ((48:UInt8)::List.take n [49,50,51,52,53,54,55,56,57])=[UInt8.ofNat (48+n)]:=by decide+kernel
theorem CZ{n}(h:n<10):Lib.decDigits n=[UInt8.ofNat (48+n)]:=by rw[Lib.decDigits,dif_pos h]
theorem ED{n}(h:¬n<10):Lib.decDigits n=Lib.decDigits (n/10)++[UInt8.ofNat (48+n%10)]:=by rw[Lib.decDigits,dif_neg h]
def lR(n:Int):Int:=if n<0 then n else 1-n
def pT(a b:Int):Int:=if a==0||b==0 then 0 else if a==1&&b==1 then 1 else-1
def p7(b:Bool):Int:=if b then 1 else 0
def rL(n:Int):Prop:= -1≤n∧n≤1
theorem R6(b):rL (p7 b):=by cases b<;>simp[p7,rL]
theorem Hm(a b):rL (pT a b):=by
 unfold pT rL;split
 ·omega
 ·split<;>omega
theorem LP{n}(h:rL n):rL (lR n):=by unfold lR rL at*;split<;>omega
variable{E:ax}(Z:Sys E)
include Z
theorem zXl(n:Nat):n≤9223372036854775807→E.C HI [.one (.int .i64 n)] (.one (.str (Lib.decDigits n))):=by
 induction n using Nat.strongRecOn with
 |ind n ih=>
  intro hn;refine Z.HI _ _ ⟨bn rfl,?_⟩;have h0:decide ((n:Int)<0)=false:=by simp
  by_cases h:n<10
  ·have hw:IntKind.i64.wrap ((n:Int)+1)=((n+1:Nat):Int):=gn (by omega);have bf:decide ((n:Int)<10)=true:=by simp;omega
   rw[CZ h];simp only[zwN,go_sem,h0,bf,hw];exact⟨⟨by omega,by omega⟩,xab n h⟩
  ·have bf:decide ((n:Int)<10)=false:=by simp;omega
   have h1:=ih (n/10) (by omega) (by omega);have h2:=ih (n%10) (by omega) (by omega);have hd:(n:Int).tdiv 10=((n/10:Nat):Int):=rfl;have hm:(n:Int).tmod 10=((n%10:Nat):Int):=rfl;have hwd:IntKind.i64.wrap ((n/10:Nat):Int)=((n/10:Nat):Int):=i64_in _ (by omega);have l1:=zW0 (n/10) (by omega);rw[ED h,←CZ (n:=n%10) (by omega)];have l2:=zW0 (n%10) (by omega);simp only[zwN,go_sem,h0,bf,hd,hm,hwd];refine⟨by omega,?_⟩;refine aR h1 ?_;simp only[go_sem];refine⟨by omega,?_⟩;refine aR h2 ?_;simp only[go_sem];omega
theorem zqH(n)(h1: -9223372036854775808≤n)(h2:n≤9223372036854775807):E.C HI [.one (.int .i64 n)] (.one (.str (Lib.itoa n))):=by
 by_cases h:0≤n
 ·have:=zXl Z n.toNat (by omega)
  rwa [Int.toNat_of_nonneg h,←yxU,Int.toNat_of_nonneg h]at this
 ·refine Z.HI _ _ ⟨bn rfl,?_⟩;rw[itoa_neg (by omega)];have h0:decide (n<0)=true:=decide_eq_true (by omega);by_cases h3: -10<n
  ·have h4:decide (n> -10)=true:=decide_eq_true h3;have hw:IntKind.i64.wrap (0-n)=((n.natAbs:Nat):Int):=(i64_in _ (by omega)).trans (by omega);have hd:=zXl Z n.natAbs (by omega);have l1:=zW0 n.natAbs (by omega);simp only[zwN,go_sem,h0,h4,hw];refine aR hd ?_;simp only[go_sem,lC,lN,List.singleton_append];omega
  ·have h4:decide (n> -10)=false:=decide_eq_false h3;have hq:n.tdiv 10= -((n.natAbs/10:Nat):Int):=by
    have:n= -((n.natAbs:Nat):Int):=by omega
    rw[this,Int.neg_tdiv];simp<;>rfl
   have hm:n.tmod 10= -((n.natAbs%10:Nat):Int):=by
    have:n= -((n.natAbs:Nat):Int):=by omega
    rw[this,Int.neg_tmod];simp<;>rfl
   have xP:IntKind.i64.wrap (-((n.natAbs/10:Nat):Int))= -((n.natAbs/10:Nat):Int):=i64_in _ (by omega);have qV:IntKind.i64.wrap (0- -((n.natAbs/10:Nat):Int))=((n.natAbs/10:Nat):Int):=(i64_in _ (by omega)).trans (by omega);have OQ:IntKind.i64.wrap (0- -((n.natAbs%10:Nat):Int))=((n.natAbs%10:Nat):Int):=(i64_in _ (by omega)).trans (by omega);have C9:=zXl Z (n.natAbs/10) (by omega);have sx:=zXl Z (n.natAbs%10) (by omega);have l1:=zW0 (n.natAbs/10) (by omega);have l2:=zW0 (n.natAbs%10) (by omega);rw[ED (n:=n.natAbs) (by omega),←CZ (n:=n.natAbs%10) (by omega)];simp only[zwN,go_sem,h0,h4,hq,hm,xP,qV,OQ];refine⟨by omega,?_⟩;refine aR C9 ?_;simp only[go_sem,hq,hm,xP,qV,OQ];refine⟨by omega,by omega,?_⟩;refine aR sx ?_;simp only[go_sem,lC,lN,List.singleton_append,List.cons_append];omega
theorem zJ2(b):E.C F8 [.one (.bool b)] (.one (.int .i64 (p7 b))):=by refine Z.F8 _ _ ⟨bn rfl,?_⟩;cases b<;>simp only[zYv,go_sem]<;>rfl
theorem zJq{n}(h:rL n):E.C Bq [.one (.int .i64 n)] (.one (.int .i64 (lR n))):=by
 refine Z.Bq _ _ ⟨bn rfl,?_⟩;have hw:IntKind.i64.wrap (1-n)=1-n:=i64_in _ (by unfold rL at h;omega);unfold lR;simp only[zZ3,go_sem];cases c:decide (n<0)with
 |true=>simp only[go_sem];rw[if_pos (by simpa using c)]
 |false=>simp only[go_sem,hw];rw[if_neg (by simpa using c)]
theorem yxs(a b):E.C FZ [.one (.int .i64 a),.one (.int .i64 b)] (.one (.int .i64 (pT a b))):=by refine Z.FZ _ _ ⟨bn rfl,?_⟩;unfold pT;cases c1:(a==0)<;>cases c2:(b==0)<;>cases c3:(a==1)<;>cases c4:(b==1)<;>simp only[zW6,go_sem,c1,c2,c3,c4]<;>try rfl
end Go.Abs
end
section
namespace Go.Abs
def oF(n:Int):Bool:=decide (n≥-1)&&decide (n≤1)
def gP(name:aD):Nat→List Int→Option Int
 |_,[]=>none
 |i,s::r=>if Lib.itoa (i:Int)==name&&oF s then some s else gP name (i+1) r
def pO(signs:List Int):List Pred→Option Int
 |[k0,k1]=>if k0.same (.mk 3 k0.name 0 [])&&k1.same (.mk 1 [] 0 [])then gP k0.name 0 signs else none
 |_=>none
def BL(n:Int):Prop:= -9223372036854775808≤n∧n≤9223372036854775807
def fu(E:ax):Prop:=∀n:Int,BL n→E.C strconv_Itoa [.one (.int .i64 n)] (.one (.str (Lib.itoa n)))
def wB(E:ax):Prop:=∀s:aD,s.length≤1073741824→∃(n:Int) (e:Bool),BL n∧E.C strconv_Atoi [.one (.str s)] (.tup [.one (.int .i64 n),.one (if e then .oA else .anyI)])∧∀m:Nat,(m:Int)≤9223372036854775807→s=Lib.itoa (m:Int)→n=m∧e=true
theorem zWt{name:aD}:∀{i} {l},(∀k,k<l.length→(Lib.itoa ((i+k:Nat):Int)==name)=true→oF (l.getD k 0)=false)→gP name i l=none
 |_,[],_=>rfl
 |i,s::r,h=>by
  rw[gP];have h0:=h 0 (by simp);rw[if_neg,zWt (i:=i+1) (l:=r)]
  ·intro k hk hn;have:=h (k+1) (by simp;omega) (by rw[←hn];congr 3;omega);simpa using this
  ·intro hc;simp only[Bool.and_eq_true]at hc;have:=h0 (by simpa using hc.1);simp at this;rw[this]at hc;exact absurd hc.2 (by decide)
theorem Zg{name:aD}:∀{i} {l} {k},k<l.length→(Lib.itoa ((i+k:Nat):Int)==name)=true→oF (l.getD k 0)=true→(∀j,j<k→(Lib.itoa ((i+j:Nat):Int)==name)=false)→gP name i l=some (l.getD k 0)
 |_,[],_,hk,_,_,_=>by simp at hk
 |i,s::r,0,_,h1,h2,_=>by
  rw[gP,if_pos]
  ·rfl
  ·simp only[Bool.and_eq_true];exact⟨by simpa using h1,by simpa using h2⟩
 |i,s::r,k+1,hk,h1,h2,h3=>by
  have h0:=h3 0 (by omega);rw[gP,if_neg]
  ·rw[Zg (i:=i+1) (l:=r) (k:=k) (by simpa using hk) (by rw[←h1];congr 3;omega) (by simpa using h2)]
   ·simp
   ·intro j hj;have:=h3 (j+1) (by omega);rw[←this];congr 3;omega
  ·simp only[Bool.and_eq_true];rintro⟨h,_⟩;simp at h0;exact h0 (by simpa using h)
theorem yXW{name:aD}{signs}{n:Int}{e}(hlen:(signs.length:Int)≤9223372036854775807)(hn:∀m:Nat,(m:Int)≤9223372036854775807→name=Lib.itoa (m:Int)→n=m∧e=true):
  gP name 0 signs=if e&&(Lib.itoa n==name)&&decide (0≤n)&&decide (n<signs.length)&&oF (signs.getD n.toNat 0)then some (signs.getD n.toNat 0)else none:=by
 by_cases hc:(e&&(Lib.itoa n==name)&&decide (0≤n)&&decide (n<signs.length)&&oF (signs.getD n.toNat 0))=true
 ·rw[if_pos hc];simp only[Bool.and_eq_true,decide_eq_true_eq,beq_iff_eq]at hc;obtain⟨⟨⟨⟨_,h1⟩,h2⟩,h3⟩,h4⟩:=hc;refine Zg (by omega) ?_ h4 ?_
  ·rw[zA,Int.toNat_of_nonneg h2,h1];simp
  ·intro j hj;rw[zA];cases hb:(Lib.itoa (j:Int)==name)with
   |false=>rfl
   |true=>have:=(hn j (by omega) (by simpa using(beq_iff_eq.1 hb).symm)).1;omega
 ·rw[if_neg hc];refine zWt fun k hk hb=>?_;rw[zA]at hb;obtain⟨rfl,rfl⟩:=hn k (by omega) (beq_iff_eq.1 hb).symm;cases h4:oF (signs.getD k 0)with
  |false=>rfl
  |true=>refine absurd ?_ hc;simp only[Bool.and_eq_true,decide_eq_true_eq,beq_iff_eq];exact⟨⟨⟨⟨trivial,beq_iff_eq.1 hb⟩,by omega⟩,by omega⟩,by simpa using h4⟩
def Dy(r:Option Int):CV:=.tup [.one (.int .i64 (r.getD 0)),.one (.bool r.isSome)]
def Aw:Pred:=.mk 1 [] 0 []
def Ax(s:aD):Pred:=.mk 3 s 0 []
theorem bM(o)(s:aD)(n)(ks):(Pred.mk o s n ks).cells=[.int .i64 o,.str s,.int .i64 n,.aw (ks.map Pred.cells)]:=by rw[Pred.bm];rfl
theorem yXk(signs:List Int)(k):(signs.map eT).getD k []=[]∨(signs.map eT).getD k []=[.int .i64 (signs.getD k 0)]:=by
 rw[List.getD_eq_getElem?_getD,List.getD_eq_getElem?_getD,List.getElem?_map];cases signs[k]? with
 |none=>exact .inl rfl
 |some x=>exact .inr rfl
theorem ykf{signs:List Int}{k}(h:k<signs.length):(signs.map eT).getD k []=[.int .i64 (signs.getD k 0)]:=by rw[List.getD_eq_getElem?_getD,List.getD_eq_getElem?_getD,List.getElem?_map,List.getElem?_eq_getElem h];rfl
variable{E:ax}(Z:Sys E)
include Z
set_option maxHeartbeats 2000000 in
theorem yxu(hA:wB E)(hI:fu E)(o)(nm:aD)(n)(ks)(signs)(cU:∀k∈ks,k.name.length≤1073741824)(kC:signs.length≤1000):E.C K4 [.agg (Pred.mk o nm n ks).cells,.one (.aw (signs.map eT))] (Dy (pO signs ks)):=by
 refine Z.K4 _ _ ?_;generalize hR:pO signs ks=R;unfold pO at hR;rcases ks with _|⟨a,_|⟨b,_|⟨c,r⟩⟩⟩
 ·simp only at hR;subst hR;refine⟨bn rfl,?_⟩;have h2:((0:Int) !=2)=true:=rfl;simp only[KX,go_sem,bM,mN,lN,nZ,h2];refine⟨.one (.bool false),?_⟩;simp only[go_sem,mN,lN,nZ,h2];try refine⟨.one (.bool false),?_⟩
  try simp only[go_sem,mN,lN,nZ,h2]
  try exact⟨rfl,rfl⟩
 ·simp only at hR;subst hR;have ha:=Pred.bm a;refine⟨bn rfl,?_⟩;have h2:((1:Int) !=2)=true:=rfl;simp only[KX,go_sem,bM,mC,mN,lC,lN,zA,Int.natCast_one,h2,ha];refine⟨.one (.bool false),?_⟩;simp only[go_sem,mC,mN,lC,lN,zA,Int.natCast_one,h2,ha];try refine⟨.one (.bool false),?_⟩
  try simp only[go_sem,mC,mN,lC,lN,zA,Int.natCast_one,h2,ha]
  try exact⟨rfl,rfl⟩
 ·have h1:=CO Z a (Ax a.name);have h3:=CO Z b Aw;have ha:=Pred.bm a;have hb:=Pred.bm b;obtain⟨m,e,hm,xt,Fg⟩:=hA a.name (cU a (by simp));have hit:=hI m hm;simp only[Ax,Aw,bM,mN,ha,hb]at h1 h3;refine⟨bn rfl,?_⟩;have h2:((2:Int) !=2)=false:=rfl;simp only[KX,go_sem,bM,mC,mN,lC,lN,zA,Nat.reduceAdd,Int.cast_ofNat_Int,h2,ha,hb];refine⟨by simp,by simp,?_⟩;refine aR h1 ?_;cases c1:a.same (Ax a.name)with
  |false=>simp only[Ax]at c1;simp only[c1,go_sem]at hR;subst hR;simp only[c1,go_sem];refine⟨.one (.bool false),?_⟩;simp only[go_sem];exact⟨rfl,rfl⟩
  |true=>
   simp only[Ax]at c1;simp only[go_sem,c1];refine⟨by simp,?_⟩;refine aR h3 ?_;cases c2:b.same Aw with
   |false=>simp only[Aw]at c2;simp only[c1,c2,go_sem]at hR;subst hR;simp only[c2,go_sem];exact⟨rfl,rfl⟩
   |true=>
    simp only[Aw]at c2;simp only[c1,c2,go_sem]at hR;simp only[c2,go_sem,ha];refine⟨by simp,?_⟩;refine aR xt ?_;have cB:=yXk signs m.toNat;rw[yXW (by omega) Fg]at hR;cases e with
    |false=>
     have xF:R=none:=by rw[←hR];rfl
     subst xF;simp only[go_sem];refine⟨.one (.str []),?_⟩;rcases cB with cB|cB
     ·simp only[go_sem,ha,cB];exact⟨rfl,rfl⟩
     ·simp only[go_sem,ha,cB];exact⟨rfl,rfl⟩
    |true=>
     simp only[go_sem];refine aR hit ?_;cases c3:(Lib.itoa m==a.name)with
     |false=>
      have xF:R=none:=by rw[←hR,c3];rfl
      subst xF;rcases cB with cB|cB
      ·simp only[go_sem,ha,cB,c3];exact⟨by simp,rfl,rfl⟩
      ·simp only[go_sem,ha,cB,c3];exact⟨by simp,rfl,rfl⟩
     |true=>
      cases c4:decide (m<0)with
      |true=>
       have L1:decide (0≤m)=false:=decide_eq_false (by have:=of_decide_eq_true c4;omega);have xF:R=none:=by rw[←hR,c3,L1];rfl
       subst xF;rcases cB with cB|cB
       ·simp only[go_sem,ha,cB,c3,c4];exact⟨by simp,rfl,rfl⟩
       ·simp only[go_sem,ha,cB,c3,c4];exact⟨by simp,rfl,rfl⟩
      |false=>
       have EA:0≤m:=by have:=of_decide_eq_false c4;omega
       have L1:decide (0≤m)=true:=decide_eq_true EA;cases c5:decide (m≥(signs.length:Int))with
       |true=>
        have Pw:decide (m<(signs.length:Int))=false:=decide_eq_false (by have:=of_decide_eq_true c5;omega);have xF:R=none:=by rw[←hR,c3,L1,Pw];rfl
        subst xF;rcases cB with cB|cB
        ·simp only[go_sem,ha,cB,c3,c4,c5];exact⟨by simp,rfl,rfl⟩
        ·simp only[go_sem,ha,cB,c3,c4,c5];exact⟨by simp,rfl,rfl⟩
       |false=>
        have CX:m<(signs.length:Int):=by have:=of_decide_eq_false c5;omega
        have Pw:decide (m<(signs.length:Int))=true:=decide_eq_true CX;have cB:=ykf (signs:=signs) (k:=m.toNat) (by omega);rw[c3,L1,Pw]at hR;generalize signs.getD m.toNat 0=x at*
        unfold oF at hR;have l1:(m<(signs.length:Int))=True:=eq_true CX;cases c6:decide (x< -1)with
        |true=>
         have L2:decide (x≥-1)=false:=decide_eq_false (by have:=of_decide_eq_true c6;omega);rw[L2]at hR;have xF:R=none:=by rw[←hR];rfl
         subst xF;simp only[go_sem,ha,cB,c3,c4,c5,c6];exact⟨by simp,⟨EA,CX⟩,rfl,rfl⟩
        |false=>
         have L2:decide (x≥-1)=true:=decide_eq_true (by have:=of_decide_eq_false c6;omega);cases c7:decide (x>1)with
         |true=>
          have Px:decide (x≤1)=false:=decide_eq_false (by have:=of_decide_eq_true c7;omega);rw[L2,Px]at hR;have xF:R=none:=by rw[←hR];rfl
          subst xF;simp only[go_sem,ha,cB,c3,c4,c5,c6,c7];exact⟨by simp,⟨EA,CX⟩,⟨EA,CX⟩,rfl,rfl⟩
         |false=>
          have Px:decide (x≤1)=true:=decide_eq_true (by have:=of_decide_eq_false c7;omega);rw[L2,Px]at hR;have xF:R=some x:=by rw[←hR];rfl
          subst xF;simp only[go_sem,ha,cB,c3,c4,c5,c6,c7];exact⟨by simp,⟨EA,CX⟩,⟨EA,CX⟩,⟨EA,CX⟩,rfl,rfl⟩
 ·simp only at hR;subst hR;refine⟨bn rfl,?_⟩;have ha:=Pred.bm a;have hb:=Pred.bm b;have h2:(((a::b::c::r).length:Int) !=2)=true:=by simp<;>omega
  generalize mQ:a::b::c::r=ks at*
  have GO:(ks.map Pred.cells).getD 0 []=a.cells:=by rw[←mQ];rfl
  have rT:(ks.map Pred.cells).getD 1 []=b.cells:=by rw[←mQ];rfl
  simp only[KX,go_sem,bM,h2,GO,rT,ha,hb];refine⟨.one (.bool false),?_⟩;simp only[go_sem,h2,GO,rT,ha,hb];try refine⟨.one (.bool false),?_⟩
  try simp only[go_sem,h2,GO,rT,ha,hb]
  try exact⟨rfl,rfl⟩
end Go.Abs
end
