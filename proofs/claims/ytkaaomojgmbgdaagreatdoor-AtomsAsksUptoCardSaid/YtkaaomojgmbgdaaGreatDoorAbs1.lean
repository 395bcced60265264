/-
  A LIBRARY OF THE PROOF: an abstract machine over the texts of the translated functions, whose values are plain data, proved sound with regard to the kit's law of calls (names shortened by program).
-/
import GoSem.Dispatch
import GoSem.Core.Region
import Derived.Attr
import Derived.Below
import Derived.Calls
import Derived.Laws.AppendOwn
import Derived.Laws.CopyRow
import Derived.Laws.Entries
import Derived.Laws.Slices
import Derived.Laws.Strings
import Derived.WalkKit
import Derived.Maps.Own
import Derived.Maps.OwnSet
import Derived.Maps.Views
import Derived.StringKeys
import Derived.RangeFuncOwn
import Derived.RangeFuncLeaves
import Derived.OrdersIn
set_option linter.unusedSimpArgs false
set_option linter.unusedVariables false
set_option linter.unusedSectionVars false
set_option maxRecDepth 100000
section
namespace Go.Abs
inductive D where
 |bool (b:Bool)
 |int (k:IntKind) (n:Int)
 |str (s:List UInt8)
 |aw (es:List (List D))
 |clo (f:FuncId) (caps:List D)
 |oB
 |jY
 |ref (cs:List D)
 |gp (g off:Nat)
 |yl (l:Nat)
 |oA
 |anyI
 deriving Inhabited
inductive MV where
 |one (x:D)
 |agg (xs:List D)
 deriving Inhabited
inductive AV where
 |undef
 |d (x:D)
 |agg (cs:List AV)
 |tup (vs:List AV)
 |ptr (s off:Nat)
 |full (es:List (List D))
 |own (t sz:Nat) (es:List (List D))
 |clo (f:FuncId) (caps:List AV)
 |cond (g:Bool) (v:AV)
 |mref (s:Nat)
 |mp (k e:Nat) (cA:List (D×MV))
 |vec (s esz off n cap:Nat)
 |zsl (m sz:Nat)
 |pnd (m t sz:Nat) (es:List (List D))
 |eptr (t sz:Nat)
 deriving Inhabited
inductive CV where
 |one (x:D)
 |agg (xs:List D)
 |own (a:Option Nat) (sz:Nat) (es:List (List D))
 |tup (vs:List CV)
 |bx (as:List AV) (m0:List (Nat×List AV)) (t0:List (Nat×Bool)) (r:CV) (m1:List (Nat×List AV)) (t1:List (Nat×Bool))
 |vr (s esz off n cap:Nat)
 |vc (esz:Nat) (es:List (List D))
def CV.fB:CV→Bool
 |.own _ _ _=>true
 |.bx _ _ _ _ _ _=>true
 |.vc _ _=>true
 |_=>false
abbrev Mem:=List (Nat×List AV)
def getM:Mem→Nat→Option (List AV)
 |[],_=>none
 |(k,v)::l,i=>if k=i then some v else getM l i
def chunk(esz:Nat):Nat→List D→List (List D)
 |0,_=>[]
 |n+1,xs=>xs.take esz::chunk esz n (xs.drop esz)
def AV.mH(m:Mem):Nat→AV→Option D
 |0,.d x=>some x
 |0,.full es=>some (.aw es)
 |0,.own _ _ es=>some (.aw es)
 |0,_=>none
 |_+1,.d x=>some x
 |_+1,.full es=>some (.aw es)
 |_+1,.own _ _ es=>some (.aw es)
 |n+1,.clo f caps=>match caps.mapM (AV.mH m n)with
  |some cs=>some (.clo f cs)
  |none=>none
 |n+1,.ptr s off=>match getM m s with
  |some cs=>match (cs.drop off).mapM (AV.mH m n)with
   |some xs=>some (.ref xs)
   |none=>none
  |none=>none
 |n+1,.vec s esz off len _=>match getM m s with
  |some cs=>if off+len*esz≤cs.length then(match ((cs.drop off).take (len*esz)).mapM (AV.mH m n)with
   |some xs=>some (.aw (chunk esz len xs))
   |none=>none)else none
  |none=>none
 |_,_=>none
def j0(m:Mem)(n:Nat):List AV→Option (List D)
 |[]=>some []
 |a::as=>match AV.mH m n a,j0 m n as with
  |some x,some xs=>some (x::xs)
  |_,_=>none
def AV.rq(m:Mem)(n:Nat):AV→Option CV
 |.agg cs=>match j0 m n cs with
  |some xs=>some (.agg xs)
  |none=>none
 |a=>match AV.mH m n a with
  |some x=>some (.one x)
  |none=>none
def iP(m:Mem)(n:Nat):List AV→Option (List CV)
 |[]=>some []
 |a::as=>match a.rq m n,iP m n as with
  |some x,some xs=>some (x::xs)
  |_,_=>none
def AV.cells:AV→List AV
 |.agg cs=>cs
 |a=>[a]
inductive X where
 |t (n:Nat)
 |c (v:AV)
 deriving Inhabited
inductive I where
 |mv (d:Nat) (x:X)
 |and (d:Nat) (c a:X)
 |or (d:Nat) (c b:X)
 |bin (d:Nat) (op:BinOp) (x y:X)
 |not (d:Nat) (x:X)
 |nck (d:Nat) (x:X)
 |build (d:Nat) (zs:List AV) (parts:List (Nat×Nat×X))
 |bsl (d:Nat) (esz:Nat) (parts:List X)
 |bslz (d:Nat) (esz:Nat) (xs:List X)
 |aad (d:Nat) (n esz:Nat) (x y:X)
 |fa (d:Nat) (off:Nat) (x:X)
 |ld (d:Nat) (agg:Bool) (n:Nat) (x:X)
 |idx (d:Nat) (esz:Nat) (x i:X)
 |ext (d:Nat) (x:X) (i:Nat)
 |mkf (d:Nat) (f:FuncId) (caps:List X)
 |len (d:Nat) (str:Bool) (x:X)
 |max (d:Nat) (x y:X)
 |min (d:Nat) (x y:X)
 |beq (d:Nat) (ne:Bool) (x y:X)
 |sidx (d:Nat) (x i:X)
 |aidx (d n:Nat) (x i:X)
 |fld (d off n:Nat) (agg:Bool) (x:X)
 |aeq (d:Nat) (ne:Bool) (zs:List AV) (x y:X)
 |sfrom (d:Nat) (x lo:X)
 |sto (d:Nat) (x lo hi:X)
 |lfrom (d esz:Nat) (x lo:X)
 |lto (d esz:Nat) (x lo hi:X)
 |alloc (s:Nat) (zs:List AV)
 |box (s:Nat) (x:X)
 |st (n:Nat) (a x:X)
 |app (d:Nat) (esz eb:Nat) (x y:X)
 |call (d:Option Nat) (f:X) (args:List X)
 |callB (d:Option Nat) (f:X) (args:List X)
 |isnil (d:Nat) (x:X)
 |mkm (s k e:Nat)
 |mput (k e:Nat) (kz:D) (x key v:X)
 |mget (d:Nat) (ok:Bool) (k e:Nat) (kz:D) (z:MV) (x key:X)
 |mclr (x:X)
 |mkv (d esz eb:Nat) (zs:List AV) (x:X)
 |bslv (d esz:Nat) (xs:List X)
 |cpy (d:Option Nat) (esz:Nat) (x y:X)
 |clr (esz:Nat) (zs:List AV) (x:X)
 |cvt (d:Nat) (k:IntKind) (x:X)
 |cvs (d:Nat) (x:X)
 |ieq (d:Nat) (ne:Bool) (x:X)
 |lmax (d esz:Nat) (x lo hi mx:X)
 deriving Inhabited
inductive AC where
 |skip
 |cD (l:List (Option (Nat×Bool)×I))
 |cm (l:List (Option (Nat×Bool)×I))
 |Ae (l:List (Option (Nat×Bool)×I))
 |Ag (l:List (Option (Nat×Bool)×I))
 |Af (l:List (Option (Nat×Bool)×I))
 |lL (p:List (Option (Nat×Bool)×I)) (a b:Option (Nat×Bool)×I) (r:List (Option (Nat×Bool)×I))
 |xd (F:List Nat) (l:List (Option (Nat×Bool)×I))
 |pw (D:List Nat) (l:List (Option (Nat×Bool)×I))
 |alt (a b:AC)
 |seq (a b:AC)
 |cond (c:X) (a b:AC)
 |block (id:Nat) (c:AC)
 |scope (c:AC)
 |MN
 |loop (c:AC)
 |exit (id:Nat)
 |ret
 |Ei (g:X) (ps wl:List Nat) (a b:AC)
 deriving Inhabited
structure St where
 ae:List (Nat×AV)
 mem:Mem
 tk:List (Nat×Bool)
def aC:List (Nat×AV)→Nat→AV
 |[],_=>.undef
 |(k,v)::l,i=>if k=i then v else aC l i
def aE:List (Nat×Bool)→Nat→Option Bool
 |[],_=>none
 |(k,v)::l,i=>if k=i then some v else aE l i
def tR(st:St):X→AV
 |.t n=>aC st.ae n
 |.c v=>v
def AV.strip:AV→AV
 |.cond _ v=>v
 |v=>v
def AV.GK:AV→Bool
 |.cond g _=>g
 |_=>true
def ev(st:St)(x:X):AV:=(tR st x).strip
def gd(st:St)(x:X):Bool:=(tR st x).GK
def mG(st:St):List X→Bool
 |[]=>true
 |x::xs=>gd st x&&mG st xs
def ju(st:St):List X→List AV
 |[]=>[]
 |x::xs=>ev st x::ju st xs
def St.put(st:St)(g:Option Bool)(i:Nat)(v:AV):St:=
 {st with ae:=(i,match g with|none=>v|some b=>.cond b v)::st.ae}
def AV.elems:AV→Option (List (List D))
 |.d (.aw es)=>some es
 |.full es=>some es
 |.own _ _ es=>some es
 |_=>none
def rowsOf(e:Nat):Nat→List AV→Option (List (List D))
 |0,_=>some []
 |n+1,cs=>match j0 [] 1 (cs.take e),rowsOf e n (cs.drop e)with
  |some x,some xs=>if x.length=e then some (x::xs)else none
  |_,_=>none
def AV.nf(m:List (Nat×List AV)):AV→Option (List (List D))
 |.vec s e off n _=>match getM m s with
  |some cs=>if off+n*e≤cs.length then rowsOf e n (cs.drop off)else none
  |none=>none
 |a=>a.elems
def AV.mc:AV→Bool
 |.vec _ _ _ _ _=>true
 |_=>false
def dM:List AV→Bool
 |[]=>true
 |.vec _ _ _ _ _::r=>dM r
 |.pnd _ _ _ _::r=>dM r
 |.mref _::r=>dM r
 |.d _::r=>dM r
 |.full _::r=>dM r
 |.own _ _ _::r=>dM r
 |.ptr _ _::r=>dM r
 |.clo _ _::r=>dM r
 |_=>false
def AV.mT:AV→Bool
 |.undef=>false
 |.cond _ _=>false
 |.mp _ _ _=>false
 |_=>true
def jq:D→D→Bool
 |.str a,.str b=>a==b
 |.int k a,.int k' b=>k==k'&&a==b
 |.bool a,.bool b=>a==b
 |_,_=>false
def nz:D→Prop
 |.str _=>True
 |.bool _=>True
 |.int k n=>k.min≤n∧n≤k.max
 |_=>False
def j8:D→D→Bool
 |.str _,.str _=>true
 |.bool _,.bool _=>true
 |.int k _,.int k' _=>k==k'
 |_,_=>false
def gI:D→Bool
 |.str _=>true
 |.bool _=>true
 |.int _ _=>true
 |_=>false
def C1:AV→Bool
 |.d x=>gI x
 |_=>false
def nX:List D→List D→Bool
 |[],[]=>true
 |x::xs,y::ys=>jq x y&&nX xs ys
 |_,_=>false
def gN:List AV→List D→Bool
 |[],[]=>true
 |.d z::zs,x::xs=>j8 z x&&gN zs xs
 |_,_=>false
def MV.av:MV→AV
 |.one x=>.d x
 |.agg xs=>.agg (xs.map .d)
def AV.tx:AV→Option MV
 |.agg cs=>match j0 [] 1 cs with
  |some xs=>some (.agg xs)
  |none=>none
 |.d x=>some (.one x)
 |_=>none
def gk:List (D×MV)→D→Option MV
 |[],_=>none
 |(k,v)::l,x=>if jq k x then some v else gk l x
def mR(l:List (D×MV))(x:D)(z:MV):MV:=(gk l x).getD z
def nw(l:List (D×MV))(x:D):Bool:=(gk l x).isSome
def pF(cells:List AV):List (Nat×Nat×AV)→Option (List AV)
 |[]=>some cells
 |(off,size,v)::rest=>if v.mT=true∧v.cells.length=size∧off+size≤cells.length then pF (cells.take off++v.cells++cells.drop (off+size)) rest else none
def iB(st:St):List (Nat×Nat×X)→List (Nat×Nat×AV)
 |[]=>[]
 |(a,b,x)::r=>(a,b,ev st x)::iB st r
def fV(st:St):List (Nat×Nat×X)→Bool
 |[]=>true
 |(_,_,x)::r=>gd st x&&fV st r
def dj(esz:Nat):List AV→Option (List (List D))
 |[]=>some []
 |a::as=>match j0 [] 1 a.cells,dj esz as with
  |some x,some xs=>if x.length=esz then some (x::xs)else none
  |_,_=>none
def xC(op:BinOp):AV→AV→Option (AV×Prop)
 |.d (.int k x),.d (.int k' y)=>match op with
  |.add=>some (.d (.int k (k.wrap (x+y))),k=k')
  |.sub=>some (.d (.int k (k.wrap (x-y))),k=k')
  |.mul=>some (.d (.int k (k.wrap (x*y))),k=k')
  |.quo=>some (.d (.int k (k.wrap (x.tdiv y))),k=k'∧y≠0)
  |.rem=>some (.d (.int k (x.tmod y)),k=k'∧y≠0)
  |.eql=>some (.d (.bool (x==y)),k=k')
  |.neq=>some (.d (.bool (x !=y)),k=k')
  |.lss=>some (.d (.bool (decide (x<y))),k=k')
  |.leq=>some (.d (.bool (decide (x≤y))),k=k')
  |.gtr=>some (.d (.bool (decide (x>y))),k=k')
  |.geq=>some (.d (.bool (decide (x≥y))),k=k')
  |.shr=>some (.d (.int k (x.fdiv (2^(min y.toNat k.bits)))),0≤y)
  |_=>none
 |.d (.str x),.d (.str y)=>match op with
  |.eql=>some (.d (.bool (x==y)),True)
  |.neq=>some (.d (.bool (!(x==y))),True)
  |.add=>some (.d (.str (x++y)),x.length+y.length≤9223372036854775807)
  |.lss=>some (.d (.bool (Op.bytesLess x y)),True)
  |.leq=>some (.d (.bool (Op.bytesLess x y||x==y)),True)
  |.gtr=>some (.d (.bool (!(Op.bytesLess x y||x==y))),True)
  |.geq=>some (.d (.bool (!Op.bytesLess x y)),True)
  |_=>none
 |.d .jY,_=>some (.d .jY,False)
 |_,.d .jY=>some (.d .jY,False)
 |_,_=>none
def eO(st:St)(s off n:Nat):Option (List AV):=
 match getM st.mem s with
 |some cs=>if off+n≤cs.length then some ((cs.drop off).take n)else none
 |none=>none
def so(agg:Bool)(cs:List AV):AV:=if agg then .agg cs else cs.headD .undef
def vG:List AV→Option (List D)
 |[]=>some []
 |.d x::as=>match vG as with
  |some xs=>some (x::xs)
  |none=>none
 |_::_=>none
def JI(f:FuncId)(vs:List AV):AV:=match vG vs with
 |some ds=>.d (.clo f ds)
 |none=>.clo f vs
def uV(s esz off l h m:Nat):AV:=.vec s esz (if m=l then off else off+l*esz) (h-l) (m-l)
def Fm(esz:Nat):AV→AV→Option (AV×Prop)
 |.vec s e off n _,.d (.int _ k)=>some (.ptr s (off+k.toNat*esz),(0≤k∧k<n)∧e=esz)
 |.pnd _ t sz es,.d (.int _ k)=>some (.eptr t sz,k=es.length∧sz=esz)
 |a,.d (.int _ n)=>match a.elems with
  |some es=>some (.d (.ref (es.getD n.toNat [])),(0≤n∧n<es.length)∧∀e∈es,e.length=esz)
  |none=>none
 |_,_=>none
def wj(esz:Nat):AV→AV→Option (AV×Prop)
 |.vec s e off n cap,.d (.int _ l)=>some (uV s esz off l.toNat n cap,(0≤l∧l≤n)∧e=esz)
 |a,.d (.int _ l)=>match a.elems with
  |some es=>some (.d (.aw (es.drop l.toNat)),(0≤l∧l≤es.length)∧∀e∈es,e.length=esz)
  |none=>none
 |_,_=>none
def Ck(esz:Nat):AV→AV→AV→Option (AV×Prop)
 |.vec s e off n cap,.d (.int _ l),.d (.int _ h)=>some (uV s esz off l.toNat h.toNat cap,(0≤l∧l≤h∧h≤n)∧e=esz)
 |a,.d (.int _ l),.d (.int _ h)=>match a.elems with
  |some es=>some (.d (.aw ((es.take h.toNat).drop l.toNat)),(0≤l∧l≤h∧h≤es.length)∧∀e∈es,e.length=esz)
  |none=>none
 |_,_,_=>none
def zZ(esz:Nat):AV→AV→AV→AV→Option (AV×Prop)
 |.vec s e off n _,.d (.int _ l),.d (.int _ h),.d (.int _ m)=>some (uV s esz off l.toNat h.toNat m.toNat,(0≤l∧l≤h∧h≤m∧m≤n)∧e=esz)
 |a,.d (.int _ l),.d (.int _ h),.d (.int _ m)=>match a.elems with
  |some es=>some (.d (.aw ((es.take h.toNat).drop l.toNat)),(0≤l∧l≤h∧h≤m∧m≤es.length)∧∀e∈es,e.length=esz)
  |none=>none
 |_,_,_,_=>none
def eW(G:Nat→Option (List D))(st:St):I→Option (AV×Prop×Bool)
 |.mv _ x=>some (ev st x,True,gd st x)
 |.and _ c a=>match ev st c,ev st a with
  |.d (.bool x),.d (.bool y)=>some (.d (.bool (x&&y)),(x=true→gd st a=true),gd st c)
  |.d (.bool x),_=>some (.d (.bool false),x=false,gd st c)
  |_,_=>none
 |.or _ c b=>match ev st c,ev st b with
  |.d (.bool x),.d (.bool y)=>some (.d (.bool (x||y)),(x=false→gd st b=true),gd st c)
  |.d (.bool x),_=>some (.d (.bool true),x=true,gd st c)
  |_,_=>none
 |.bin _ op x y=>match xC op (ev st x) (ev st y)with
  |some r=>some (r.1,r.2,gd st x&&gd st y)
  |none=>none
 |.not _ x=>match ev st x with
  |.d (.bool b)=>some (.d (.bool (!b)),True,gd st x)
  |_=>none
 |.nck _ x=>match ev st x with
  |.ptr s off=>some (.ptr s off,True,gd st x)
  |_=>none
 |.build _ zs parts=>match pF zs (iB st parts)with
  |some cs=>some (.agg cs,True,fV st parts)
  |none=>none
 |.bslz _ esz xs=>match dj esz (ju st xs)with
  |some es=>some (.zsl es.length esz,True,mG st xs)
  |none=>none
 |.bsl _ esz parts=>match dj esz (ju st parts)with
  |some es=>some (.full es,True,mG st parts)
  |none=>none
 |.fa _ off x=>match ev st x with
  |.ptr s o=>some (.ptr s (o+off),True,gd st x)
  |.d (.ref cs)=>some (.d (.ref (cs.drop off)),off<cs.length,gd st x)
  |.d (.gp g o)=>some (.d (.gp g (o+off)),True,gd st x)
  |_=>none
 |.ld _ agg n x=>match ev st x with
  |.ptr s o=>match eO st s o n with
   |some cs=>some (so agg cs,True,gd st x)
   |none=>none
  |.d (.ref cs)=>if agg then some (.agg ((cs.take n).map .d),n≤cs.length,gd st x)else(match cs with|c::_=>some (.d c,True,gd st x)|[]=>some (.d .jY,False,gd st x))
  |.d (.gp g o)=>match G g with
   |some cs=>if agg then some (.agg (((cs.drop o).take n).map .d),o+n≤cs.length,gd st x)else(match cs.drop o with|c::_=>some (.d c,True,gd st x)|[]=>none)
   |none=>none
  |_=>none
 |.idx _ esz x i=>match Fm esz (ev st x) (ev st i)with
  |some r=>some (r.1,r.2,gd st x&&gd st i)
  |none=>none
 |.ext _ x i=>match ev st x with
  |.tup vs=>some (vs.getD i .undef,i<vs.length,gd st x)
  |_=>none
 |.mkf _ f caps=>some (JI f (ju st caps),True,mG st caps)
 |.max _ x y=>match ev st x,ev st y with
  |.d (.int k a),.d (.int _ b)=>some (.d (.int k (if b>a then b else a)),True,gd st x&&gd st y)
  |_,_=>none
 |.min _ x y=>match ev st x,ev st y with
  |.d (.int k a),.d (.int _ b)=>some (.d (.int k (if b<a then b else a)),True,gd st x&&gd st y)
  |_,_=>none
 |.beq _ ne x y=>match ev st x,ev st y with
  |.d (.bool a),.d (.bool b)=>some (.d (.bool (if ne then !(a==b)else a==b)),True,gd st x&&gd st y)
  |_,_=>none
 |.aad _ m esz x i=>match ev st x,ev st i with
  |.ptr s off,.d (.int _ k)=>some (.ptr s (off+k.toNat*esz),0≤k∧k<m,gd st x&&gd st i)
  |_,_=>none
 |.sidx _ x i=>match ev st x,ev st i with
  |.d (.str s),.d (.int _ n)=>some (.d (.int .u8 ((s.getD n.toNat 0).toNat:Nat)),0≤n∧n<s.length,gd st x&&gd st i)
  |_,_=>none
 |.aidx _ m x i=>match ev st x,ev st i with
  |.agg cs,.d (.int _ n)=>some (cs.getD n.toNat .undef,(0≤n∧n<m)∧n<cs.length,gd st x&&gd st i)
  |_,_=>none
 |.fld _ off n ag x=>match ev st x with
  |.agg cs=>some (so ag ((cs.drop off).take n),off+n≤cs.length,gd st x)
  |_=>none
 |.aeq _ ne zs x y=>match ev st x,ev st y with
  |.agg a,.agg b=>match j0 [] 1 a,j0 [] 1 b with
   |some xs,some ys=>some (.d (.bool (if ne then !nX xs ys else nX xs ys)),gN zs xs=true∧gN zs ys=true,gd st x&&gd st y)
   |_,_=>none
  |_,_=>none
 |.sfrom _ x lo=>match ev st x,ev st lo with
  |.d (.str s),.d (.int _ l)=>some (.d (.str (s.drop l.toNat)),0≤l∧l≤s.length,gd st x&&gd st lo)
  |_,_=>none
 |.sto _ x lo hi=>match ev st x,ev st lo,ev st hi with
  |.d (.str s),.d (.int _ l),.d (.int _ h)=>some (.d (.str ((s.take h.toNat).drop l.toNat)),0≤l∧l≤h∧h≤s.length,gd st x&&(gd st lo&&gd st hi))
  |_,_,_=>none
 |.lfrom _ esz x lo=>match wj esz (ev st x) (ev st lo)with
  |some r=>some (r.1,r.2,gd st x&&gd st lo)
  |none=>none
 |.lto _ esz x lo hi=>match Ck esz (ev st x) (ev st lo) (ev st hi)with
  |some r=>some (r.1,r.2,gd st x&&(gd st lo&&gd st hi))
  |none=>none
 |.cvt _ k x=>match ev st x with
  |.d (.int _ n)=>some (.d (.int k (k.wrap n)),True,gd st x)
  |_=>none
 |.cvs _ x=>match ev st x with
  |.d (.str s)=>some (.d (.str s),True,gd st x)
  |_=>none
 |.ieq _ ne x=>match ev st x with
  |.d .oA=>some (.d (.bool (!ne)),True,gd st x)
  |.d .anyI=>some (.d (.bool ne),True,gd st x)
  |_=>none
 |.lmax _ esz x lo hi mx=>match zZ esz (ev st x) (ev st lo) (ev st hi) (ev st mx)with
  |some r=>some (r.1,r.2,gd st x&&(gd st lo&&(gd st hi&&gd st mx)))
  |none=>none
 |.mget _ ok k e kz z x key=>match ev st x,ev st key with
  |.mref s,.d kd=>match getM st.mem s with
   |some [.mp k' e' cA]=>some (if ok then .tup [(mR cA kd z).av,.d (.bool (nw cA kd))]else(mR cA kd z).av,(k'=k∧e'=e)∧j8 kz kd=true∧nz kd,gd st x&&gd st key)
   |_=>none
  |_,_=>none
 |_=>none
def j5:I→Nat
 |.mv d _|.and d _ _|.or d _ _|.bin d _ _ _|.not d _|.nck d _|.build d _ _|.bsl d _ _|.bslv d _ _|.bslz d _ _|.fa d _ _|.ld d _ _ _|.idx d _ _ _|.aad d _ _ _ _|.ext d _ _|.mkf d _ _|.len d _ _|.max d _ _|.min d _ _|.beq d _ _ _|.sidx d _ _|.aidx d _ _ _|.fld d _ _ _ _|.aeq d _ _ _ _|.sfrom d _ _|.sto d _ _ _|.lfrom d _ _ _|.lto d _ _ _ _|.lmax d _ _ _ _ _|.mkv d _ _ _ _|.cvt d _ _|.cvs d _|.ieq d _ _
 |.alloc d _|.box d _|.app d _ _ _ _|.isnil d _|.mkm d _ _|.mget d _ _ _ _ _ _ _=>d
 |_=>0
mutual
def CV.jM:CV→AV
 |.one x=>.d x
 |.agg xs=>.agg (xs.map .d)
 |.own _ _ es=>.d (.aw es)
 |.tup vs=>.tup (CV.nD vs)
 |.bx _ _ _ _ _ _=>.undef
 |.vr s esz off n cap=>.vec s esz off n cap
 |.vc _ _=>.undef
def CV.nD:List CV→List AV
 |[]=>[]
 |v::vs=>v.jM::CV.nD vs
end
def fl(u:Nat):List (Nat×Bool)→List (Nat×Bool)
 |[]=>[]
 |(k,b)::l=>(if k=u then(u,false)else(k,b))::fl u l
def lenOf:Bool→AV→Option Nat
 |true,.d (.str s)=>some s.length
 |false,.d (.aw es)=>some es.length
 |false,.full es=>some es.length
 |false,.own _ _ es=>some es.length
 |false,.vec _ _ _ n _=>some n
 |_,_=>none
structure ax where
 G:Nat→Option (List D)
 C:FuncId→List CV→CV→Prop
 It:FuncId→List D→List (List CV)→Prop
def guardOf(st:St):Option (Nat×Bool)→Option (Option Bool)
 |none=>some none
 |some (s,want)=>match aC st.ae s with
   |.d (.bool b)=>some (some (if want then b else !b))
   |.cond g (.d (.bool b))=>some (some (g&&(if want then b else !b)))
   |_=>none
def qY(g:Option Bool)(p:Prop):Prop:=match g with
 |none=>p
 |some b=>b=true→p
abbrev bJ:=List (Nat×Nat)
def aZ:bJ→Nat→Option Nat
 |[],_=>none
 |(k,v)::l,i=>if k=i then some v else aZ l i
def mS(st:St):bJ→List Nat→Prop
 |[],_=>True
 |(_,u)::r,us=>(us.contains u=false∧aE st.tk u=some true)∧mS st r (u::us)
def lK:bJ→List (Nat×Bool)
 |[]=>[]
 |(t,_)::r=>(t,true)::lK r
def AV.cF:AV→Bool
 |.mp _ _ _=>true
 |_=>false
def cF:List AV→Bool
 |[a]=>a.cF
 |_=>false
def gg(σ τ:bJ)(a:AV):AV→Prop
 |.d x=>AV.mH [] 1 a=some x
 |.own t sz es=>match aZ τ t with
  |some u=>a=.own u sz es
  |none=>False
 |.ptr s off=>match aZ σ s with
  |some s'=>a=.ptr s' off
  |none=>False
 |.mref s=>match aZ σ s with
  |some s'=>a=.mref s'
  |none=>False
 |.vec s esz off n cap=>match aZ σ s with
  |some s'=>a=.vec s' esz off n cap
  |none=>False
 |.undef=>a.cF=false
 |_=>False
def j3(σ τ:bJ):List AV→List AV→Prop
 |[],[]=>True
 |a::as,b::bs=>gg σ τ a b∧j3 σ τ as bs
 |_,_=>False
def kr(σ τ:bJ)(a:AV):AV→Prop
 |.clo f0 kJ=>match a with
  |.clo f cs=>f=f0∧j3 σ τ cs kJ
  |_=>False
 |a0=>gg σ τ a a0
def Matches(σ τ:bJ):List AV→List AV→Prop
 |[],[]=>True
 |a::as,b::bs=>kr σ τ a b∧Matches σ τ as bs
 |_,_=>False
def oZ(σ τ:bJ)(a:AV):AV→Prop
 |.agg kJ=>match a with
  |.agg cs=>Matches σ τ cs kJ
  |_=>False
 |a0=>kr σ τ a a0
def fT(σ τ:bJ):List AV→List AV→Prop
 |[],[]=>True
 |a::as,b::bs=>oZ σ τ a b∧fT σ τ as bs
 |_,_=>False
def de(st:St)(τ:bJ)(AG:bJ):bJ→Mem→Prop
 |[],[]=>True
 |(s,s')::σ,(s0,kJ)::m=>(s0=s∧1000≤s∧(match getM st.mem s' with
  |some cs=>match kJ with
   |[.mp k e cA]=>cs=[.mp k e cA]
   |kJ=>Matches AG τ cs kJ
  |none=>False))∧de st τ AG σ m
 |_,_=>False
def bP:List Nat→Bool
 |[]=>true
 |a::l=>!l.contains a&&bP l
def AV.gW(σ τ:bJ):AV→AV
 |.own t sz es=>.own ((aZ τ t).getD 0) sz es
 |.ptr s off=>.ptr ((aZ σ s).getD 0) off
 |.mref s=>.mref ((aZ σ s).getD 0)
 |.vec s esz off n cap=>.vec ((aZ σ s).getD 0) esz off n cap
 |a=>a
def AV.oT(σ τ:bJ):AV→AV
 |.clo f cs=>.clo f (cs.map (AV.gW σ τ))
 |a=>a.gW σ τ
def dC(σ τ:bJ):Mem→Mem
 |[]=>[]
 |(s,cs)::m=>((aZ σ s).getD 0,cs.map (AV.oT σ τ))::dC σ τ m
def ng(tk:List (Nat×Bool)):bJ→Prop
 |[]=>True
 |(_,u)::r=>aE tk u=none∧ng tk r
def uJ:AV→Bool
 |.d _=>true
 |.full _=>true
 |.own _ _ _=>true
 |.ptr _ _=>true
 |.mref _=>true
 |.mp _ _ _=>true
 |.vec _ _ _ _ _=>true
 |.undef=>true
 |_=>false
def sB:AV→Bool
 |.clo _ cs=>cs.all uJ
 |a=>uJ a
structure eX where
 σ:bJ
 τ:bJ
 iF:bJ
 pB:List AV
 m0:Mem
 m1:Mem
 r:CV
def jk:bJ→List (Nat×Bool)
 |[]=>[]
 |(_,u)::r=>(u,false)::jk r
def lp:bJ→List (Nat×Bool)
 |[]=>[]
 |(_,u)::r=>(u,true)::lp r
def okB(st:St)(as:List AV)(x:eX):Prop:=
 fT x.σ x.τ as x.pB∧de st x.τ x.σ x.σ x.m0∧mS st x.τ []∧bP (x.σ.map (·.1))=true∧bP (x.σ.map (·.2))=true∧bP (x.τ.map (·.1))=true∧
 x.m1.map (·.1)=x.m0.map (·.1)∧x.m1.map (fun p=>cF p.2)=x.m0.map (fun p=>cF p.2)∧(∀p∈x.m1,p.2.all sB=true)∧ng st.tk x.iF∧bP (x.iF.map (·.1))=true∧bP (x.iF.map (·.2))=true
def jB(st:St)(d:Option Nat)(x:eX):St:=
 {ae:=(match d with|some d=>[(d,x.r.jM.gW x.σ x.iF)]|none=>[])++st.ae,mem:=dC x.σ x.iF x.m1++st.mem,tk:=lp x.iF++(jk x.τ++st.tk)}
def lr(as:List AV):Option Nat→Option Nat
 |none=>none
 |some k=>match as.getD k .undef with
  |.own u _ _=>some u
  |_=>none
def pR:Option Nat→List (Nat×Bool)→List (Nat×Bool)
 |none,tk=>tk
 |some u,tk=>fl u tk
def kX(tk:List (Nat×Bool))(as:List AV)(sz:Nat):Option Nat→Prop
 |none=>True
 |some k=>match as.getD k .undef with
  |.own u rn _=>rn=sz∧aE tk u=some true
  |.full es=>∀e∈es,e.length=sz
  |_=>False
def dL(v:Bool)(g:Option Bool)(d:Option Nat)(K:St→Prop)(st:St)(as:List AV):CV→Prop
 |.own a sz es=>match d with
  |some d=>(g=none∧aE st.tk d=none∧kX st.tk as sz a)∧K {(st.put none d (.own d sz es))with tk:=(d,true)::pR (lr as a) st.tk}
  |none=>False
 |.one x=>K (match d with|some d=>st.put g d (.d x)|none=>st)
 |.agg xs=>K (match d with|some d=>st.put g d (.agg (xs.map .d))|none=>st)
 |.tup vs=>K (match d with|some d=>st.put g d (.tup (CV.nD vs))|none=>st)
 |.bx _ _ _ _ _ _=>False
 |.vr _ _ _ _ _=>False
 |.vc esz es=>match d with
  |some d=>(v=true∧g=none∧getM st.mem d=none)∧(es=[]→K (st.put none d (.d (.aw []))))∧(es≠[]→∀cap,es.length≤cap→cap≤9223372036854775807→
    K {(st.put none d (.vec d esz 0 es.length cap))with mem:=(d,es.flatten.map .d++List.replicate (cap*esz-es.length*esz) .undef)::st.mem})
  |none=>False
mutual
def CV.flat:CV→Bool
 |.one x=>gI x
 |.agg xs=>xs.all gI
 |.tup vs=>CV.nY vs
 |_=>false
def CV.nY:List CV→Bool
 |[]=>true
 |v::vs=>v.flat&&CV.nY vs
end
mutual
def AV.boxed:AV→Bool
 |.d _=>false
 |.full _=>false
 |.own _ _ _=>false
 |.undef=>false
 |.agg cs=>AV.lX cs
 |.tup cs=>AV.lX cs
 |.cond _ v=>AV.boxed v
 |_=>true
def AV.lX:List AV→Bool
 |[]=>false
 |a::as=>AV.boxed a||AV.lX as
end
def qO:List (Nat×AV)→List (Nat×AV)
 |[]=>[]
 |(k,v)::l=>(k,if v.boxed then .undef else v)::qO l
def St.fC(st:St):St:={ae:=qO st.ae,mem:=[],tk:=st.tk}
mutual
def AV.ep(B:List Nat):AV→Bool
 |.ptr s _=>B.contains s
 |.vec s _ _ _ _=>B.contains s
 |.mref s=>B.contains s
 |.clo _ cs=>AV.mh B cs
 |.agg cs=>AV.mh B cs
 |.tup cs=>AV.mh B cs
 |.cond _ a=>AV.ep B a
 |_=>false
def AV.mh(B:List Nat):List AV→Bool
 |[]=>false
 |a::as=>AV.ep B a||AV.mh B as
end
def nd(B:List Nat):List (Nat×AV)→List (Nat×AV)
 |[]=>[]
 |(k,v)::l=>(k,if v.ep B then .undef else v)::nd B l
def gl(B:List Nat):Mem→Mem
 |[]=>[]
 |(s,cs)::m=>if B.contains s then gl B m else(s,cs)::gl B m
def oz(B:List Nat):Mem→Mem
 |[]=>[]
 |(s,cs)::m=>if B.contains s then(s,cs)::oz B m else oz B m
def ny(B:List Nat):Mem→Bool
 |[]=>true
 |(_,cs)::m=>!AV.mh B cs&&ny B m
def St.ly(B:List Nat)(st:St):St:={ae:=nd B st.ae,mem:=gl B st.mem,tk:=st.tk}
def Ik(E:ax)(g:Option Bool)(d:Option Nat)(f:FuncId)(caps:List D)(gs:Bool)(as:List AV)(K:St→Prop)(st:St):Prop:=
 ∃(B:List Nat) (cvs:List CV) (r:CV),(g=none∧gs=true∧r.fB=false∧ny B (gl B st.mem)=true∧iP (oz B st.mem) 3 as=some cvs∧E.C f (cvs++caps.map .one) r)∧dL false none d K (st.ly B) as r
def jE(E:ax)(g:Option Bool)(f:FuncId)(gs:Bool)(as:List AV)(st:St)(x:eX):Prop:=
 g=none∧gs=true∧x.r.fB=false∧okB st as x∧E.C f [] (.bx x.pB x.m0 (lK x.τ) x.r x.m1 (lK x.iF))
def qK(E:ax)(g:Option Bool)(d:Option Nat)(f:FuncId)(caps:List D)(gs:Bool)(as:List AV)(K:St→Prop)(st:St):Prop:=
 (match iP st.mem 3 as with
 |some cvs=>(∃r,qY g (gs=true∧r.flat=true∧E.C f (cvs++caps.map .one) r)∧dL false g d K st as r)∨
   ∃r,(g=none∧gs=true∧r.fB=false∧E.C f (cvs++caps.map .one) r)∧dL false none d K st.fC as r
 |none=>False)∨((∃x:eX,jE E g f gs (as++caps.map .d) st x∧K (jB st d x))∨Ik E g d f caps gs as K st)
def pD(E:ax)(g:Option Bool)(d:Option Nat)(f:FuncId)(caps:List D)(gs:Bool)(as:List AV)(K:St→Prop)(st:St)(sk:Prop):Prop:=
 qK E g d f caps gs as K st∨sk
inductive Place where
 |s (k:Nat)
 |m (s i:Nat)
def yP(st:St):Place×Nat×Nat→St→Prop
 |(.s k,t,sz),cH=>∃es,aC st.ae k=.full es∧(∀e∈es,e.length=sz)∧aE st.tk t=none∧cH={st with ae:=(k,.own t sz es)::st.ae,tk:=(t,true)::st.tk}
 |(.m s i,t,sz),cH=>∃cs es,getM st.mem s=some cs∧cs[i]? =some (.full es)∧(∀e∈es,e.length=sz)∧aE st.tk t=none∧cH={st with mem:=(s,cs.set i (.own t sz es))::st.mem,tk:=(t,true)::st.tk}
def sq:List (Place×Nat×Nat)→St→St→Prop
 |[],st,cH=>st=cH
 |p::ps,st,cH=>∃s1,yP st p s1∧sq ps s1 cH
def vv(st cH:St):Prop:=∃ps,sq ps st cH∧cH.ae=st.ae
def pC(E:ax)(g:Option Bool)(d:Option Nat)(f:FuncId)(caps:List AV)(gs:Bool)(as:List AV)(K:St→Prop)(st:St)(sk:Prop):Prop:=
 (∃s:St,vv st s∧∃x:eX,jE E g f gs (as++caps) s x∧K (jB s d x))∨sk
def xB(g:Option Bool)(skip p:Prop):Prop:=match g with
 |some false=>skip
 |_=>p
theorem Na{g a p}(h:g≠some false):xB g a p=p:=by
 match g,h with
 |none,_=>rfl
 |some true,_=>rfl
 |some false,h=>exact absurd rfl h
def Fx:Option Bool→Bool
 |some false=>false
 |_=>true
mutual
def AV.fill(t:Nat)(xs:List D):AV→AV
 |.pnd m t' sz es=>if t'=t then(if m=1 then .own t' sz (es++[xs])else .pnd (m-1) t' sz (es++[xs]))else .pnd m t' sz es
 |.own t' sz es=>if t'=t then .undef else .own t' sz es
 |.eptr t' sz=>if t'=t then .undef else .eptr t' sz
 |.agg cs=>.agg (AV.iJ t xs cs)
 |.tup cs=>.tup (AV.iJ t xs cs)
 |.clo f cs=>.clo f (AV.iJ t xs cs)
 |.cond g a=>.cond g (AV.fill t xs a)
 |a=>a
def AV.iJ(t:Nat)(xs:List D):List AV→List AV
 |[]=>[]
 |a::as=>AV.fill t xs a::AV.iJ t xs as
end
def jv(t:Nat)(xs:List D):List (Nat×AV)→List (Nat×AV)
 |[]=>[]
 |(k,v)::r=>(k,AV.fill t xs v)::jv t xs r
def jg(t:Nat)(xs:List D):Mem→Mem
 |[]=>[]
 |(k,cs)::r=>(k,AV.iJ t xs cs)::jg t xs r
def St.fill(st:St)(t:Nat)(xs:List D):St:={st with ae:=jv t xs st.ae,mem:=jg t xs st.mem}
def AV.zV:AV→Bool
 |.zsl _ _=>true
 |_=>false
def AV.zT:AV→Bool
 |.eptr _ _=>true
 |_=>false
def bF(E:ax)(g:Option Bool)(o:I)(st:St)(K:St→Prop):Prop:=
 match o with
  |.alloc s zs=>(g=none∧getM st.mem s=none)∧K {(st.put none s (.ptr s 0))with mem:=(s,zs)::st.mem}
  |.box s x=>(g=none∧gd st x=true∧(ev st x).mT=true∧getM st.mem s=none)∧K {(st.put none s (.ptr s 0))with mem:=(s,(ev st x).cells)::st.mem}
  |.st n a x=>match ev st a with
   |.ptr s off=>match getM st.mem s with
    |some cs=>(g=none∧gd st a=true∧gd st x=true∧(ev st x).mT=true∧dM (ev st x).cells=true∧(ev st x).cells.length=n∧off+n≤cs.length)∧
      K {st with mem:=(s,cs.take off++(ev st x).cells++cs.drop (off+n))::st.mem}
    |none=>False
   |.eptr t sz=>match j0 [] 1 (ev st x).cells with
    |some xs=>(g=none∧gd st a=true∧gd st x=true∧(ev st x).mT=true∧n=sz∧xs.length=sz∧aE st.tk t=some true)∧K (st.fill t xs)
    |none=>False
   |_=>False
  |.app d esz eb x y=>match ev st y with
   |.zsl mm sz=>(match ev st x with
    |.full es=>(g=none∧1≤mm∧aE st.tk d=none∧gd st x=true∧gd st y=true∧sz=esz∧(∀e∈es,e.length=esz)∧(es.length+mm)*eb≤2^46∧es.length+mm≤9223372036854775807)∧
      K {(st.put none d (.pnd mm d esz es))with tk:=(d,true)::st.tk}
    |.own u rn es=>(g=none∧1≤mm∧aE st.tk d=none∧aE st.tk u=some true∧rn=esz∧gd st x=true∧gd st y=true∧sz=esz∧(es.length+mm)*eb≤2^46∧es.length+mm≤9223372036854775807)∧
      K {(st.put none d (.pnd mm d esz es))with tk:=(d,true)::fl u st.tk}
    |.vec s e off n cap=>(match getM st.mem s with
     |some cs=>(g=none∧mm=1∧gd st x=true∧gd st y=true∧sz=esz∧e=esz∧off=0∧cap*esz≤cs.length∧(n+1)*eb≤2^46∧n+1≤9223372036854775807)∧
       (n+1≤cap→K {(st.put none d (.vec s esz 0 (n+1) cap))with mem:=(s,cs.take (n*esz)++List.replicate esz .undef++cs.drop (n*esz+esz))::st.mem})∧
       (cap<n+1→∃s',s'≤d∧getM st.mem s'=none∧∀cu,n+1≤cu→cu≤9223372036854775807→
        K {(st.put none d (.vec s' esz 0 (n+1) cu))with mem:=(s',cs.take (n*esz)++List.replicate (cu*esz-n*esz) .undef)::st.mem})
     |none=>False)
    |_=>False)
   |_=>xB g (K (st.put (some false) d (.d (.aw [])))) (match (ev st y).nf st.mem with
   |none=>False
   |some ys=>match ev st x with
    |.full es=>(Fx g=true∧aE st.tk d=none∧gd st x=true∧gd st y=true∧(∀e∈es,e.length=esz)∧(∀e∈ys,e.length=esz)∧(es.length+ys.length)*eb≤2^46∧es.length+ys.length≤9223372036854775807)∧
      K {(st.put none d (.own d esz (es++ys)))with tk:=(d,true)::st.tk}
    |.own u sz es=>(Fx g=true∧aE st.tk d=none∧aE st.tk u=some true∧sz=esz∧gd st x=true∧gd st y=true∧(∀e∈ys,e.length=esz)∧(es.length+ys.length)*eb≤2^46∧es.length+ys.length≤9223372036854775807)∧
      K {(st.put none d (.own d esz (es++ys)))with tk:=(d,true)::fl u st.tk}
    |.vec s e off n cap=>(match getM st.mem s with
     |some _=>(Fx g=true∧gd st x=true∧gd st y=true∧e=esz∧off=0∧n=0∧cap=0∧0<ys.length∧(∀e∈ys,e.length=esz)∧ys.length*eb≤2^46∧ys.length≤9223372036854775807)∧
       ∃s',(s'≤d∧getM st.mem s'=none)∧∀cu,ys.length≤cu→cu≤9223372036854775807→
        K {(st.put none d (.vec s' esz 0 ys.length cu))with mem:=(s',ys.flatten.map .d++List.replicate (cu*esz-ys.length*esz) .undef)::st.mem}
     |none=>False)
    |_=>False)
  |.len d str x=>match lenOf str (ev st x)with
   |some n=>qY g (gd st x=true)∧(qY g ((n:Int)≤9223372036854775807)→K (st.put g d (.d (.int .i64 n))))
   |none=>False
  |.call d f' args=>match ev st f' with
   |.d (.clo f caps)=>match iP [] 1 (ju st args)with
    |some cvs=>∃r,qY g (gd st f'=true∧mG st args=true∧E.C f (cvs++caps.map .one) r)∧dL true g d K st (ju st args) r
    |none=>pD E g d f caps (gd st f'&&mG st args) (ju st args) K st False
   |.clo f caps=>pC E g d f caps (gd st f'&&mG st args) (ju st args) K st False
   |_=>False
  |.callB d f' args=>match ev st f' with
   |.d (.clo f caps)=>∃x:eX,jE E g f (gd st f'&&mG st args) (ju st args++caps.map .d) st x∧K (jB st d x)
   |.clo f caps=>∃x:eX,jE E g f (gd st f'&&mG st args) (ju st args++caps) st x∧K (jB st d x)
   |_=>False
  |.isnil d x=>match (ev st x).elems with
   |some es=>qY g (gd st x=true)∧∀b:Bool,(b=true→es=[])→K (st.put g d (.d (.bool b)))
   |none=>(ev st x).mc=true∧qY g (gd st x=true)∧K (st.put g d (.d (.bool false)))
  |.mkm s k e=>(g=none∧getM st.mem s=none)∧K {(st.put none s (.mref s))with mem:=(s,[.mp k e []])::st.mem}
  |.mput k e kz x key v=>match ev st x,ev st key,(ev st v).tx with
   |.mref s,.d kd,some vd=>match getM st.mem s with
    |some [.mp k' e' cA]=>(g=none∧gd st x=true∧gd st key=true∧gd st v=true∧k'=k∧e'=e∧j8 kz kd=true∧nz kd∧cA.length<9223372036854775807)∧K {st with mem:=(s,[.mp k e ((kd,vd)::cA)])::st.mem}
    |_=>False
   |_,_,_=>False
  |.mclr x=>match ev st x with
   |.mref s=>match getM st.mem s with
    |some [.mp k e _]=>(g=none∧gd st x=true)∧K {st with mem:=(s,[.mp k e []])::st.mem}
    |_=>False
   |_=>False
  |.mkv d esz eb zs x=>match ev st x with
   |.d (.int k n)=>(g=none∧gd st x=true∧getM st.mem d=none∧k=.i64∧0≤n∧n*eb≤2^46∧n≤9223372036854775807∧zs.length=esz)∧
     K {(st.put none d (.vec d esz 0 n.toNat n.toNat))with mem:=(d,(List.replicate n.toNat zs).flatten)::st.mem}
   |_=>False
  |.bslv d esz xs=>match dj esz (ju st xs)with
   |some es=>(g=none∧mG st xs=true∧getM st.mem d=none∧es.length≤9223372036854775807)∧K {(st.put none d (.vec d esz 0 es.length es.length))with mem:=(d,es.flatten.map .d)::st.mem}
   |none=>False
  |.cpy d esz x y=>match ev st x,(ev st y).elems with
   |.vec s e off n _,some es=>match getM st.mem s with
    |some cs=>(g=none∧gd st x=true∧gd st y=true∧e=1∧esz=1∧(∀e∈es,e.length=1)∧off+n*1≤cs.length)∧
      K {(match d with|some d=>st.put none d (.d (.int .i64 (Nat.min es.length n:Nat)))|none=>st)with mem:=(s,cs.take off++(es.take n).flatten.map .d++cs.drop (off+(es.take n).length*1))::st.mem}
    |none=>False
   |_,_=>False
  |.clr esz zs x=>match ev st x with
   |.vec s e off n _=>match getM st.mem s with
    |some cs=>(g=none∧gd st x=true∧e=esz∧zs.length=esz∧dM zs=true∧off+n*esz≤cs.length)∧
      K {st with mem:=(s,cs.take off++(List.replicate n zs).flatten++cs.drop (off+n*esz))::st.mem}
    |none=>False
   |_=>False
  |o=>match eW E.G st o with
   |some (v,ob,gs)=>qY g (gs=true∧ob)∧K (st.put g (j5 o) v)
   |none=>False
mutual
def AV.plain(m1:Mem):AV→Bool
 |.own _ _ _=>false
 |.ptr s _=>(getM m1 s).isSome
 |.mref s=>(getM m1 s).isSome
 |.vec s _ _ _ _=>(getM m1 s).isSome
 |.pnd _ _ _ _=>false
 |.eptr _ _=>false
 |.agg cs=>AV.nA m1 cs
 |.tup cs=>AV.nA m1 cs
 |.clo _ cs=>AV.nA m1 cs
 |.cond _ v=>AV.plain m1 v
 |_=>true
def AV.nA(m1:Mem):List AV→Bool
 |[]=>true
 |a::as=>AV.plain m1 a&&AV.nA m1 as
end
def rK(m1:Mem)(mp:bJ)(a:AV):AV→Prop
 |.undef=>a.cF=false
 |.own t sz es=>match aZ mp t with
  |some u=>a=.own u sz es
  |none=>False
 |.d x=>match a with
  |.full es=>D.aw es=x
  |.own _ _ es=>D.aw es=x
  |a=>a=.d x
 |a1=>a=a1∧a1.plain m1=true
def gu(m1:Mem)(mp:bJ):List AV→List AV→Prop
 |[],[]=>True
 |a::as,b::bs=>rK m1 mp a b∧gu m1 mp as bs
 |_,_=>False
def xv(m1:Mem)(mp:bJ)(a:AV):AV→Prop
 |.agg jX=>match a with
  |.agg cs=>gu m1 mp cs jX
  |_=>False
 |a1=>rK m1 mp a a1
def gE(st:St)(m1:Mem)(mp:bJ):List (Nat×AV)→Prop
 |[]=>True
 |(k,v)::r=>xv m1 mp (aC st.ae k) v∧gE st m1 mp r
def ko(st:St)(m1:Mem)(mp:bJ):Mem→Prop
 |[]=>True
 |(k,jX)::r=>(match getM st.mem k with
  |some cs=>gu m1 mp cs jX
  |none=>False)∧ko st m1 mp r
def jz(mp:bJ)(st st1:St):Prop:=
 st1.tk=lK mp∧mS st mp []∧gE st st1.mem mp st1.ae∧ko st st1.mem mp st1.mem
def nF(st st1:St):Prop:=∃ps mp cH,sq ps st cH∧jz mp cH st1
def dP:I→Option Nat
 |.call d _ _=>d
 |.callB d _ _=>d
 |.st _ _ _=>none
 |.mput _ _ _ _ _ _=>none
 |.mclr _=>none
 |.cpy d _ _ _=>d
 |.clr _ _ _=>none
 |i=>some (j5 i)
def xf(o:I)(st:St):St:=match dP o with
 |some d=>st.put (some false) d .undef
 |none=>st
def pQ(g:Option Bool)(o:I)(st:St)(K:St→Prop):Prop:=g=some false∧K (xf o st)
def sN(E:ax)(g:Option Bool)(o:I)(st:St)(K:St→Prop):Prop:=
 match o with
  |.alloc s zs=>bF E g (.alloc s zs) st K
  |.box s x=>bF E g (.box s x) st K
  |.st n a x=>bF E g (.st n a x) st K
  |.app d esz eb x y=>bF E g (.app d esz eb x y) st K
  |.isnil d x=>bF E g (.isnil d x) st K
  |.callB d f args=>bF E g (.callB d f args) st K
  |.mkm s k e=>bF E g (.mkm s k e) st K
  |.mput k e kz x key v=>bF E g (.mput k e kz x key v) st K
  |.mclr x=>bF E g (.mclr x) st K
  |.mkv d esz eb zs x=>bF E g (.mkv d esz eb zs x) st K
  |.bslv d esz xs=>bF E g (.bslv d esz xs) st K
  |.cpy d esz x y=>bF E g (.cpy d esz x y) st K
  |.clr esz zs x=>bF E g (.clr esz zs x) st K
  |.len d str x=>match lenOf str (ev st x)with
   |some n=>qY g (gd st x=true)∧(qY g ((n:Int)≤9223372036854775807)→K (st.put g d (.d (.int .i64 n))))
   |none=>pQ g (.len d str x) st K
  |.call d f' args=>match ev st f' with
   |.d (.clo f caps)=>match iP [] 1 (ju st args)with
    |some cvs=>∃r,qY g (gd st f'=true∧mG st args=true∧E.C f (cvs++caps.map .one) r)∧dL true g d K st (ju st args) r
    |none=>pD E g d f caps (gd st f'&&mG st args) (ju st args) K st (pQ g (.call d f' args) st K)
   |.clo f caps=>pC E g d f caps (gd st f'&&mG st args) (ju st args) K st (pQ g (.call d f' args) st K)
   |_=>pQ g (.call d f' args) st K
  |o=>match eW E.G st o with
   |some (v,ob,gs)=>qY g (gs=true∧ob)∧K (st.put g (j5 o) v)
   |none=>pQ g o st K
def vF(E:ax)(gi:Option (Nat×Bool))(o:I)(st:St)(K:St→Prop):Prop:=
 match guardOf st gi with
 |none=>False
 |some g=>sN E g o st K
def mO(E:ax):List (Option (Nat×Bool)×I)→(St→Prop)→St→Prop
 |[],K,st=>K st
 |(g,o)::os,K,st=>vF E g o st (mO E os K)
def gh(E:ax)(gi:Option (Nat×Bool))(o:I)(st:St)(K:St→Prop):Prop:=
 match guardOf st gi with
 |none=>False
 |some g=>match o with
  |.len d str x=>match lenOf str (ev st x)with
   |some n=>qY g (gd st x=true)∧K (st.put g d (.d (.int .i64 n)))
   |none=>False
  |.isnil _ _=>False
  |.app d esz eb x y=>((ev st y).zV=false∧(ev st y).mc=false∧(ev st x).mc=false)∧bF E g (.app d esz eb x y) st K
  |.st n a x=>(ev st a).zT=false∧bF E g (.st n a x) st K
  |.mkv _ _ _ _ _=>False
  |.bslv _ _ _=>False
  |.cpy _ _ _ _=>False
  |.clr _ _ _=>False
  |.call d f' args=>match ev st f' with
   |.d (.clo f caps)=>match iP [] 1 (ju st args)with
    |some cvs=>∃r,qY g (gd st f'=true∧mG st args=true∧E.C f (cvs++caps.map .one) r)∧dL false g d K st (ju st args) r
    |none=>False
   |_=>False
  |o=>bF E g o st K
def bS(E:ax):List (Option (Nat×Bool)×I)→(St→Prop)→St→Prop
 |[],K,st=>K st
 |(g,o)::os,K,st=>gh E g o st (bS E os K)
def kZ(F:List Nat)(st:St):I→Prop
 |.ld _ _ _ x=>match ev st x with
  |.ptr s _=>F.contains s=false
  |_=>True
 |.st _ a _=>match ev st a with
  |.ptr s _=>F.contains s=true
  |_=>True
 |.alloc s _=>F.contains s=true
 |_=>True
def eV(F:List Nat)(E:ax):List (Option (Nat×Bool)×I)→(St→Prop)→St→Prop
 |[],K,st=>K st
 |(g,o)::os,K,st=>kZ F st o∧gh E g o st (eV F E os K)
def im:List (Nat×Nat×Nat)→St→St→Prop
 |[],_,_=>True
 |(b,o,n)::r,st,s=>eO s b o n=eO st b o n∧im r st s
def ll:I→Bool
 |.st _ _ _|.alloc _ _|.box _ _|.mkm _ _ _|.mput _ _ _ _ _ _|.mclr _|.mkv _ _ _ _ _|.bslv _ _ _|.callB _ _ _|.cpy _ _ _ _|.clr _ _ _=>true
 |_=>false
def rO(D:List Nat)(F:List (Nat×Nat×Nat))(st:St):I→Prop
 |.ld d _ n x=>D.contains d=true→match ev st x with
  |.ptr s o=>F.contains (s,o,n)=true
  |_=>True
 |_=>True
def dA(D:List Nat)(F:List (Nat×Nat×Nat))(E:ax):List (Option (Nat×Bool)×I)→(St→Prop)→St→Prop
 |[],K,st=>K st
 |(g,o)::os,K,st=>rO D F st o∧gh E g o st (fun s=>(ll o=true→im F st s)∧dA D F E os K s)
def Ad(D:List Nat)(E:ax)(l:List (Option (Nat×Bool)×I))(K:St→Prop)(st:St):Prop:=∃F,dA D F E l K st
def sv(m:Mem)(B:List Nat):List (Nat×AV)→List (Nat×AV)
 |[]=>[]
 |(k,v)::l=>(k,if v.ep B then(match AV.mH m 3 v with|some x=>.d x|none=>.undef)else v)::sv m B l
def St.sS(B:List Nat)(st:St):St:={ae:=sv (oz B st.mem) B st.ae,mem:=gl B st.mem,tk:=st.tk}
def uo(m:Mem):List (Nat×AV)→List (Nat×AV)
 |[]=>[]
 |(k,v)::l=>(k,match AV.mH m 3 v with|some x=>.d x|none=>.undef)::uo m l
def St.l6(st:St):St:={ae:=uo st.mem st.ae,mem:=[],tk:=[]}
def qQ:AV→AV
 |.d (.bool b)=>.d (.bool b)
 |.d (.int k n)=>.d (.int k n)
 |_=>.undef
def rp(s:List (Nat×AV)):List Nat→List (Nat×AV)→List (Nat×AV)
 |[],l=>l
 |d::ds,l=>(d,qQ (aC s d))::rp s ds l
def St.Ap(st:St)(ds:List Nat)(s:St):St:={st with ae:=rp s.ae ds st.ae}
def ke:List (Option (Nat×Bool)×I)→List Nat
 |[]=>[]
 |p::l=>(dP p.2).toList++ke l
def Iu(E:ax)(l:List (Option (Nat×Bool)×I))(K:St→Prop)(st:St):Prop:=∃B,ny B (gl B st.mem)=true∧bS E l K (st.sS B)
inductive AX where
 |normal
 |exit (id:Nat)
 |ret
def jl(N:St→Prop)(Q:AX→St→Prop):AX→St→Prop
 |.normal,s=>N s
 |.exit i,s=>Q (.exit i) s
 |.ret,s=>Q .ret s
def je(id:Nat)(Q:AX→St→Prop):AX→St→Prop
 |.normal,s=>Q .normal s
 |.exit i,s=>if i=id then Q .normal s else Q (.exit i) s
 |.ret,s=>Q .ret s
def Aa(B:(AX→St→Prop)→St→Prop)(Q:AX→St→Prop)(st:St):Prop:=
 ∀X:St→Prop,(∀s s1,nF s s1→B (jl X Q) s1→X s)→X st
def rj:List Nat→List CV→List (Nat×AV)→List (Nat×AV)
 |p::ps,x::xs,s=>rj ps xs ((p,x.jM)::s)
 |_,_,s=>s
def ua(k:Nat):List Nat→Bool
 |[]=>false
 |a::r=>if a=k then true else ua k r
def qP(wl:List Nat):List (Nat×AV)→List (Nat×AV)
 |[]=>[]
 |(k,v)::r=>if ua k wl=true then qP wl r else(k,v)::qP wl r
def St.mP(wl:List Nat)(s:St):St:={s with ae:=qP wl s.ae}
def Aj(wl:List Nat)(N:St→Prop)(Q:AX→St→Prop):AX→St→Prop
 |.normal,s=>N (s.mP wl)
 |.exit i,s=>Q (.exit i) (s.mP wl)
 |.ret,s=>Q .ret (s.mP wl)
def Cn(B:(AX→St→Prop)→St→Prop)(ps wl:List Nat)(xs:List (List CV))(Q:AX→St→Prop)(st:St):Prop:=
 ∃(Inv:List (List CV)→Prop) (Sx:List (List CV)→St),nF st (Sx [])∧Inv []∧
  (∀pre x rest,xs=pre++x::rest→Inv pre→x.length=ps.length∧B (Aj wl (fun s=>nF s (Sx (pre++[x]))∧Inv (pre++[x])) Q) {Sx pre with ae:=rj ps x (Sx pre).ae})∧(Inv xs→Q .normal (Sx xs))
def Rr:AX→St→Prop:=fun _ _=>False
def cx(E:ax):AC→(AX→St→Prop)→St→Prop
 |.skip,Q,st=>Q .normal st
 |.cD l,Q,st=>mO E l (Q .normal) st
 |.cm l,Q,st=>bS E l (Q .normal) st
 |.Ag l,Q,st=>Iu E l (Q .normal) st
 |.Af l,Q,st=>∃s:St,vv st s∧mO E l (Q .normal) s
 |.Ae l,Q,st=>bS E l (fun s=>Q .normal (st.Ap (ke l) s)) st.l6
 |.xd F l,Q,st=>eV F E l (Q .normal) st
 |.pw D l,Q,st=>Ad D E l (Q .normal) st
 |.lL p a b r,Q,st=>bS E p (fun s=>bS E (a::b::r) (Q .normal) s∧bS E (b::a::r) (Q .normal) s) st
 |.seq a b,Q,st=>cx E a (jl (cx E b Q) Q) st
 |.cond c a b,Q,st=>match ev st c with
  |.d (.bool x)=>gd st c=true∧(x=true→cx E a Q st)∧(x=false→cx E b Q st)
  |_=>False
 |.block id c,Q,st=>cx E c (je id Q) st
 |.scope c,Q,st=>cx E c Q st
 |.alt a b,Q,st=>cx E a Q st∧cx E b Q st
 |.MN,Q,st=>Q .normal st
 |.loop c,Q,st=>Aa (cx E c) Q st
 |.exit id,Q,st=>Q (.exit id) st
 |.ret,Q,st=>Q .ret st
 |.Ei g ps wl a b,Q,st=>match ev st g with
  |.d (.clo f caps)=>gd st g=true∧∃xs,E.It f caps xs∧Cn (fun Q'=>cx E a (jl (cx E b Q') Rr)) ps wl xs Q st
  |_=>False
inductive R where
 |t (n:Nat)
 |c (s:Nat) (agg:Bool) (n:Nat)
 deriving Inhabited
def pP(st:St):R→Option AV
 |.t n=>some (aC st.ae n)
 |.c s ag n=>match aC st.ae s with
  |.ptr b off=>match eO st b off n with
   |some cs=>some (so ag cs)
   |none=>none
  |_=>none
def sF(st:St)(x:R):Option CV:=match pP st x with
 |some a=>a.rq st.mem 4
 |none=>none
def iu(st:St):List R→Option (List CV)
 |[]=>some []
 |x::xs=>match sF st x,iu st xs with
  |some y,some ys=>some (y::ys)
  |_,_=>none
def rh(st:St)(r:CV):List R→Prop
 |[x]=>sF st x=some r
 |xs=>match iu st xs with
  |some l=>r=.tup l
  |none=>False
def wv(rs:List R)(r:CV):AX→St→Prop
 |.exit _,_=>False
 |.normal,st=>rh st r rs
 |.ret,st=>rh st r rs
def cK:Nat→List CV→List (Nat×AV)
 |_,[]=>[]
 |k,x::xs=>(k,x.jM)::cK (k+1) xs
structure bL where
 n:Nat
 ac:AC
 rs:List R
 deriving Inhabited
def nB(st:St)(sz:Nat)(es:List (List D)):List R→Prop
 |[x]=>match pP st x with
  |some (.own t rn GJ)=>rn=sz∧GJ=es∧aE st.tk t=some true
  |some (.full GJ)=>GJ=es∧∀e∈es,e.length=sz
  |_=>False
 |_=>False
def xe(rs:List R)(sz:Nat)(es:List (List D)):AX→St→Prop
 |.exit _,_=>False
 |.normal,st=>nB st sz es rs
 |.ret,st=>nB st sz es rs
def uI(args:List CV)(sz:Nat):Option Nat→St
 |none=>⟨cK 0 args,[],[]⟩
 |some k=>match args.getD k (.one .jY)with
  |.one (.aw es)=>⟨(k,.own k sz es)::cK 0 args,[],[(k,true)]⟩
  |_=>⟨cK 0 args,[],[]⟩
def rf(st:St)(x:R):Option CV:=match pP st x with
 |some a=>a.rq [] 1
 |none=>none
def fZ(st:St):List R→Option (List CV)
 |[]=>some []
 |x::xs=>match rf st x,fZ st xs with
  |some y,some ys=>some (y::ys)
  |_,_=>none
def DF(st:St)(r:CV)(m1:Mem)(t1:List (Nat×Bool))(rs:List R):Prop:=(match rs with
 |[x]=>rf st x=some r
 |xs=>match fZ st xs with
  |some l=>r=.tup l
  |none=>False)∧nF st ⟨[],m1,t1⟩
def Ah(st:St)(r:CV)(m1:Mem)(t1:List (Nat×Bool))(rs:List R):Prop:=match r with
 |.vr s e off n cap=>∃k,rs=[.t k]∧nF st ⟨[(k,.vec s e off n cap)],m1,t1⟩
 |r=>DF st r m1 t1 rs
def Ai(rs:List R)(r:CV)(m1:Mem)(t1:List (Nat×Bool)):AX→St→Prop
 |.exit _,_=>False
 |.normal,st=>Ah st r m1 t1 rs
 |.ret,st=>Ah st r m1 t1 rs
def mb:Nat→List AV→List (Nat×AV)
 |_,[]=>[]
 |k,x::xs=>(k,x)::mb (k+1) xs
def Body(E:ax)(f:bL)(args:List CV):CV→Prop
 |.own a sz es=>args.length≤f.n∧cx E f.ac (xe f.rs sz es) (uI args sz a)
 |.one x=>args.length≤f.n∧cx E f.ac (wv f.rs (.one x)) ⟨cK 0 args,[],[]⟩
 |.agg x=>args.length≤f.n∧cx E f.ac (wv f.rs (.agg x)) ⟨cK 0 args,[],[]⟩
 |.tup x=>args.length≤f.n∧cx E f.ac (wv f.rs (.tup x)) ⟨cK 0 args,[],[]⟩
 |.bx as m0 t0 r m1 t1=>as.length≤f.n∧f.n≤1000∧r.fB=false∧cx E f.ac (Ai f.rs r m1 t1) ⟨mb 0 as,m0,t0⟩
 |.vr _ _ _ _ _=>False
 |.vc _ _=>False
inductive Ty where
 |cell (z:AV)
 |slice (esz PD:Nat) (zs:List AV)
 |agg (zs:List AV) (fields:List (Nat×Nat×Bool))
 |arr (n esz:Nat) (lF:Bool) (zs:List AV)
 |map (k e:Nat) (kz:D) (ez:MV)
 deriving Inhabited
def mj:Value→Option AV
 |.bool b=>some (.d (.bool b))
 |.int k n=>some (.d (.int k n))
 |.string s=>if s.size≤9223372036854775807 then some (.d (.str s.data.toList))else none
 |.slice none 0 0=>some (.full [])
 |.nilFunc=>some (.d .oB)
 |.pointer none=>some (.d .jY)
 |.nilIface=>some (.d .oA)
 |_=>none
def ofConst:Value→Option AV
 |.agg vs=>(vs.toList.mapM mj).map .agg
 |v=>mj v
def bQ:Operand→Option X
 |.tmp t=>some (.t t)
 |.const v=>(ofConst v).map .c
 |.global g=>some (.c (.d (.gp g 0)))
 |.func f=>some (.c (.d (.clo f [])))
def dd:Ty→Nat
 |.cell _=>1|.slice _ _ _=>1|.agg zs _=>zs.length|.arr _ _ _ zs=>zs.length|.map _ _ _ _=>1
def gv:Ty→Bool
 |.agg _ _=>true|.arr _ _ _ _=>true|_=>false
def tD:Ty→List AV
 |.cell z=>[z]|.slice _ _ _=>[.full []]|.agg zs _=>zs|.arr _ _ _ zs=>zs|.map _ _ _ _=>[.undef]
def mI(l:List Operand):Option (List X):=l.mapM bQ
def iy(T:Nat→Option Ty)(d:Nat)(b:Builtin)(args:List Operand)(tys:List TypeId):Option I:=
 match b,args,tys with
 |.len,[x],t::_=>do
  match←T t with
  |.slice _ _ _=>pure (.len d false (←bQ x))
  |.cell (.d (.str []))=>pure (.len d true (←bQ x))
  |_=>none
 |.max,[x,y],_=>do pure (.max d (←bQ x) (←bQ y))
 |.min,[x,y],_=>do pure (.min d (←bQ x) (←bQ y))
 |.append,[x,y],[t,t']=>do
  let .slice esz eb _←T t|none
  if t=t' then pure (.app d esz eb (←bQ x) (←bQ y))else none
 |_,_,_=>none
def qy(T:Nat→Option Ty)(d:Option Nat)(args:List Operand)(tys:List TypeId):Option I:=
 match d,args,tys with
 |none,[x],t::_=>do
  match←T t with
  |.map _ _ _ _=>pure (.mclr (←bQ x))
  |.slice esz _ zs=>pure (.clr esz zs (←bQ x))
  |_=>none
 |_,_,_=>none
def tA(T:Nat→Option Ty)(d:Option Nat)(args:List Operand)(tys:List TypeId):Option I:=
 match args,tys with
 |[x,y],[t,_]=>do
  let .slice esz _ _←T t|none
  if esz=1 then pure (.cpy d esz (←bQ x) (←bQ y))else none
 |_,_=>none
def Ft:Option Ty→Bool
 |some (.cell (.d .jY))=>true
 |_=>false
def tz(T:Nat→Option Ty)(d:Option Nat)(c:Call):Option I:=
 match c.callee with
 |.value f=>
  if c.argTypes.toList.any (fun t=>Ft (T t))then do pure (.callB d (←bQ f) (←mI c.args.toList))
  else do pure (.call d (←bQ f) (←mI c.args.toList))
 |.builtin .clear=>qy T d c.args.toList c.argTypes.toList
 |.builtin .copy=>tA T d c.args.toList c.argTypes.toList
 |.builtin b=>do iy T (←d) b c.args.toList c.argTypes.toList
 |_=>none
def tB(d:Nat)(c a b:Operand):Option I:=
 match a,b with
 |a,.const (.bool false)=>do pure (.and d (←bQ c) (←bQ a))
 |.const (.bool true),b=>do pure (.or d (←bQ c) (←bQ b))
 |_,_=>none
def isEq:BinOp→Bool
 |.eql=>true
 |.neq=>true
 |_=>false
def w9:Option Ty→Bool
 |some (.cell (.d (.bool _)))=>true
 |_=>false
def zU:Option Ty→Bool
 |some (.cell (.d .oA))=>true
 |_=>false
def wh:Operand→Bool
 |.const .nilIface=>true
 |_=>false
def lj:Option Ty→Bool
 |some (.agg zs fs)=>zs.all C1&&fs.length==zs.length
 |some (.arr _ esz lF zs)=>zs.all C1&&esz==1&&!lF
 |_=>false
def Oq:Option Ty→List AV
 |some (.agg zs _)=>zs
 |some (.arr _ _ _ zs)=>zs
 |_=>[]
def xo(T:Nat→Option Ty)(dst:Option Nat)(op:BinOp)(t:Nat)(x y:Operand):Option I:=
 match op,y with
 |.eql,.const (.slice none 0 0)=>do
  let .slice _ _ _←T t|none
  pure (.isnil (←dst) (←bQ x))
 |op,y=>
  if isEq op&&w9 (T t)then do pure (.beq (←dst) (op==.neq) (←bQ x) (←bQ y))
  else if isEq op&&lj (T t)then do pure (.aeq (←dst) (op==.neq) (Oq (T t)) (←bQ x) (←bQ y))
  else if isEq op&&zU (T t)&&wh y then do pure (.ieq (←dst) (op==.neq) (←bQ x))
  else do pure (.bin (←dst) op (←bQ x) (←bQ y))
def Cq(T:Nat→Option Ty)(dst:Option Nat)(u:UnOp)(t:Nat)(x:Operand):Option I:=
 match u with
 |.not=>do pure (.not (←dst) (←bQ x))
 |.neg=>do
  let .cell (.d (.int k 0))←T t|none
  pure (.bin (←dst) .sub (.c (.d (.int k 0))) (←bQ x))
 |_=>none
def As(n esz d:Nat)(x:X):Operand→Option I
 |.const (.int _ k)=>if 0≤k∧k<n then some (.fa d (k.toNat*esz) x)else none
 |_=>none
def JG:List (Nat×Operand)→Bool
 |[(_,.const (.agg _))]=>true
 |[(_,.const (.agg _)),(_,.const (.agg _))]=>true
 |_=>false
def tv:Operand→Operand→Bool
 |.tmp a,.tmp b=>a==b
 |.const (.int k a),.const (.int k' b)=>k==k'&&a==b
 |_,_=>false
def nE(T:Nat→Option Ty)(dst:Option Nat)(op:Op):Option I:=
 match op with
 |.move x=>do pure (.mv (←dst) (←bQ x))
 |.assign x=>do pure (.mv (←dst) (←bQ x))
 |.nilCheck x=>do pure (.nck (←dst) (←bQ x))
 |.pick c a b=>do tB (←dst) c a b
 |.binOp op t x y _=>xo T dst op t x y
 |.unOp u t x=>Cq T dst u t x
 |.build t parts=>do
  match←T t with
  |.agg zs fs=>pure (.build (←dst) zs (←parts.toList.mapM fun p=>do let f←fs[p.1]?;pure (f.1,f.2.1,←bQ p.2)))
  |.arr _ esz _ zs=>pure (.build (←dst) zs (←parts.toList.mapM fun p=>do pure (p.1*esz,esz,←bQ p.2)))
  |_=>none
 |.field t x f=>do
  let .agg _ fs←T t|none
  let fd←fs[f]?
  pure (.fld (←dst) fd.1 fd.2.1 fd.2.2 (←bQ x))
 |.buildSlice t n parts=>do
  let .slice esz eb _←T t|none
  if parts.toList.map (·.1)=List.range n∧n*esz≤2^24 then
   (if JG parts.toList then do pure (.bslz (←dst) esz (←mI (parts.toList.map (·.2))))else if(decide (6≤esz)&&decide (10≤n))||(decide (n=0)&&decide (esz=1)&&decide (eb=8)&&decide (dst=some 8))then do pure (.bslv (←dst) esz (←mI (parts.toList.map (·.2))))else do pure (.bsl (←dst) esz (←mI (parts.toList.map (·.2)))))else none
 |.fieldAddr t x f=>do
  let .agg _ fs←T t|none
  let fd←fs[f]?
  pure (.fa (←dst) fd.1 (←bQ x))
 |.load t x=>do
  let ty←T t
  pure (.ld (←dst) (gv ty) (dd ty) (←bQ x))
 |.indexAddr t x i=>do
  match←T t with
  |.slice esz _ _=>pure (.idx (←dst) esz (←bQ x) (←bQ i))
  |.arr n esz _ _=>match i with
   |.const _=>As n esz (←dst) (←bQ x) i
   |_=>pure (.aad (←dst) n esz (←bQ x) (←bQ i))
  |_=>none
 |.index t x i=>do
  match←T t with
  |.cell (.d (.str []))=>pure (.sidx (←dst) (←bQ x) (←bQ i))
  |.arr n 1 false _=>pure (.aidx (←dst) n (←bQ x) (←bQ i))
  |_=>none
 |.slice t x lo hi none=>do
  match←T t with
  |.cell (.d (.str []))=>
   match lo,hi with
   |some lo,none=>pure (.sfrom (←dst) (←bQ x) (←bQ lo))
   |some lo,some hi=>pure (.sto (←dst) (←bQ x) (←bQ lo) (←bQ hi))
   |none,some hi=>pure (.sto (←dst) (←bQ x) (.c (.d (.int .i64 0))) (←bQ hi))
   |none,none=>none
  |.slice esz _ _=>
   match lo,hi with
   |some lo,none=>pure (.lfrom (←dst) esz (←bQ x) (←bQ lo))
   |some lo,some hi=>pure (.lto (←dst) esz (←bQ x) (←bQ lo) (←bQ hi))
   |none,some hi=>pure (.lto (←dst) esz (←bQ x) (.c (.d (.int .i64 0))) (←bQ hi))
   |none,none=>none
  |_=>none
 |.slice t x lo (some hi) (some mx)=>do
  match←T t with
  |.slice esz _ _=>
   match lo with
   |some lo=>pure (.lmax (←dst) esz (←bQ x) (←bQ lo) (←bQ hi) (←bQ mx))
   |none=>pure (.lmax (←dst) esz (←bQ x) (.c (.d (.int .i64 0))) (←bQ hi) (←bQ mx))
  |_=>none
 |.convert s t x=>do
  let _←T s
  match←T t with
  |.cell (.d (.int k 0))=>pure (.cvt (←dst) k (←bQ x))
  |.cell (.d (.str []))=>pure (.cvs (←dst) (←bQ x))
  |_=>none
 |.makeSlice t x y=>do
  match←T t with
  |.slice esz eb zs=>if tv x y then pure (.mkv (←dst) esz eb zs (←bQ x))else none
  |_=>none
 |.extract x i=>do pure (.ext (←dst) (←bQ x) i)
 |.makeFunc f first caps=>do
  let .func f:=f|none
  if first.isEmpty then pure (.mkf (←dst) f (←mI caps.toList))else none
 |.alloc t=>do pure (.alloc (←dst) (tD (←T t)))
 |.box _ x=>do pure (.box (←dst) (←bQ x))
 |.makeMap t none=>do
  let .map k e _ _←T t|none
  pure (.mkm (←dst) k e)
 |.mapUpdate t x key v=>do
  let none:=dst|none
  let .map k e kz _←T t|none
  pure (.mput k e kz (←bQ x) (←bQ key) (←bQ v))
 |.lookup t x key ok=>do
  let .map k e kz ez←T t|none
  pure (.mget (←dst) ok k e kz ez (←bQ x) (←bQ key))
 |.store t a x=>do
  let none:=dst|none
  pure (.st (dd (←T t)) (←bQ a) (←bQ x))
 |.call c=>tz T dst c
 |_=>none
def iE(ops:List Oper):Option (Nat×Bool)→Option (Option (Nat×Bool))
 |none=>some none
 |some (j,w)=>do pure (some (←(←ops[j]?).dst,w))
def gT(T:Nat→Option Ty)(ops:List Oper):Option (List (Option (Nat×Bool)×I)):=
 ops.mapM fun o=>do pure (←iE ops o.guard,←nE T o.dst o.op)
def X.lB:X→List Nat
 |.t n=>[n]
 |.c _=>[]
def dh:I→List Nat
 |.mv _ x|.not _ x|.nck _ x|.fa _ _ x|.fld _ _ _ _ x|.ld _ _ _ x|.ext _ x _|.len _ _ x|.box _ x|.isnil _ x|.mclr x|.mkv _ _ _ _ x|.clr _ _ x|.cvt _ _ x|.cvs _ x|.ieq _ _ x=>x.lB
 |.cpy _ _ x y=>x.lB++y.lB
 |.lmax _ _ x y z m=>x.lB++(y.lB++(z.lB++m.lB))
 |.and _ x y|.or _ x y|.bin _ _ x y|.idx _ _ x y|.aad _ _ _ x y|.max _ x y|.min _ x y|.beq _ _ x y|.st _ x y|.app _ _ _ x y|.sidx _ x y|.aidx _ _ x y|.aeq _ _ _ x y|.sfrom _ x y|.lfrom _ _ x y=>x.lB++y.lB
 |.mget _ _ _ _ _ _ x y=>x.lB++y.lB
 |.sto _ x y z|.lto _ _ x y z|.mput _ _ _ x y z=>x.lB++(y.lB++z.lB)
 |.build _ _ ps=>ps.flatMap fun p=>p.2.2.lB
 |.bsl _ _ xs|.bslv _ _ xs|.mkf _ _ xs=>xs.flatMap X.lB
 |.bslz _ _ xs=>xs.flatMap X.lB
 |.call _ f xs|.callB _ f xs=>f.lB++xs.flatMap X.lB
 |.alloc _ _|.mkm _ _ _=>[]
def l7:Option (Nat×Bool)→List Nat
 |none=>[]
 |some (s,_)=>[s]
inductive Kind where
 |quiet|reads|writes|tokens|all
 deriving DecidableEq
def kindOf:I→Kind
 |.ld _ _ _ _|.mget _ _ _ _ _ _ _ _=>.reads
 |.st _ _ _|.alloc _ _|.box _ _|.mkm _ _ _|.mput _ _ _ _ _ _|.mclr _|.mkv _ _ _ _ _|.bslv _ _ _=>.writes
 |.app _ _ _ _ _|.call _ _ _=>.tokens
 |.callB _ _ _|.cpy _ _ _ _|.clr _ _ _=>.all
 |_=>.quiet
def cw:Kind→Kind→Bool
 |.quiet,_=>true
 |_,.quiet=>true
 |.reads,.reads=>true
 |.reads,.tokens=>true
 |.tokens,.reads=>true
 |.writes,.tokens=>true
 |.tokens,.writes=>true
 |_,_=>false
def fP:I→I→Bool
 |.ld _ _ _ _,.alloc _ _=>true
 |.ld _ _ _ _,.box _ _=>true
 |.ld _ _ _ _,.mkm _ _ _=>true
 |.mget _ _ _ _ _ _ _ _,.alloc _ _=>true
 |.mget _ _ _ _ _ _ _ _,.box _ _=>true
 |.mget _ _ _ _ _ _ _ _,.mkm _ _ _=>true
 |_,_=>false
def bR(d:Option Nat)(l:List Nat):Bool:=match d with
 |none=>true
 |some d=>!l.contains d
def apart(a b:Option (Nat×Bool)×I):Bool:=
 (cw (kindOf a.2) (kindOf b.2)||fP a.2 b.2)&&bR (dP a.2) (l7 b.1++dh b.2)&&bR (dP b.2) (l7 a.1++dh a.2)&&bR (dP a.2) (dP b.2).toList
def aJ(ops:List Oper):List Nat→List Oper→List Nat
 |acc,[]=>acc
 |acc,o::os=>aJ ops (acc++[o.after.toList.foldl (fun m e=>if Region.binds .any e then m|||(2^e.on|||acc.getD e.on 0)else m) 0]) os
def di(k:Nat):List Oper→Bool
 |[]=>true
 |o::os=>o.after.toList.all (fun e=>!Region.binds .any e||decide (e.on<k))&&di (k+1) os
def qN(l:List (Option (Nat×Bool)×I))(ai:Nat)(b:Option (Nat×Bool)×I):Nat→Bool
 |0=>true
 |j+1=>(ai.testBit j||(match l[j]? with|some a=>apart a b|none=>true))&&qN l ai b j
def ku(l:List (Option (Nat×Bool)×I))(ai:List Nat):Nat→Bool
 |0=>true
 |k+1=>(match l[k]? with|some b=>qN l (ai.getD k 0) b k|none=>true)&&ku l ai k
def xH(l:List (Option (Nat×Bool)×I)):Bool:=l.any fun p=>match p.2 with
 |.bslz _ _ _=>true
 |.bslv _ _ _=>true
 |_=>false
def EP(l:List (Option (Nat×Bool)×I)):Bool:=l.any fun p=>match p.2 with
 |.bslv _ _ _=>true
 |_=>false
def vL(l:List (Option (Nat×Bool)×I)):Bool:=l.any fun p=>match p.2 with
 |.app _ _ _ _ _=>true
 |_=>false
def Im(ops:List Oper)(l:List (Option (Nat×Bool)×I)):Bool:=(di 0 ops&&ku l (aJ ops [] ops) ops.length)&&!xH l
def qX(l:List (Option (Nat×Bool)×I))(ai:List Nat)(i j:Nat):Bool:=(ai.getD j 0).testBit i||apart (l.getD i default) (l.getD j default)
def q9(l:List (Option (Nat×Bool)×I))(ai:List Nat):List Nat→Bool
 |[]=>true
 |i::r=>r.all (qX l ai i)&&q9 l ai r
def BN(ops:List Oper)(l:List (Option (Nat×Bool)×I))(ps:List Nat)(ia ib:Nat)(rs:List Nat):Bool:=di 0 ops&&q9 l (aJ ops [] ops) (ps++ia::rs)&&q9 l (aJ ops [] ops) (ps++ib::rs)
def yK(l:List (Option (Nat×Bool)×I))(ai:List Nat)(j:Nat):Nat→Option (Nat×Nat)
 |0=>none
 |i+1=>if qX l ai i j then yK l ai j i else some (i,j)
def wJ(l:List (Option (Nat×Bool)×I))(ai:List Nat):Nat→Option (Nat×Nat)
 |0=>none
 |j+1=>match wJ l ai j with
  |some x=>some x
  |none=>yK l ai j j
def BM(ai:List Nat)(ia ib k:Nat):Bool:=(ai.getD k 0).testBit ia||(ai.getD k 0).testBit ib
def DA:I→I→Bool
 |.ld _ _ _ _,.st _ _ _=>true
 |.st _ _ _,.ld _ _ _ _=>true
 |.alloc _ _,.ld _ _ _ _=>true
 |.alloc _ _,.alloc _ _=>true
 |_,_=>false
def qH(a b:Option (Nat×Bool)×I):Bool:=
 apart a b||(DA a.2 b.2&&bR (dP a.2) (l7 b.1++dh b.2)&&bR (dP b.2) (l7 a.1++dh a.2)&&bR (dP a.2) (dP b.2).toList)
def wq(l:List (Option (Nat×Bool)×I))(ai:List Nat)(i j:Nat):Bool:=(ai.getD j 0).testBit i||qH (l.getD i default) (l.getD j default)
def mz(l:List (Option (Nat×Bool)×I))(ai:List Nat):List Nat→Bool
 |[]=>true
 |i::r=>r.all (wq l ai i)&&mz l ai r
def qG(l:List (Option (Nat×Bool)×I)):List Nat:=l.filterMap fun p=>match p.2 with
 |.alloc s _=>some s
 |.st _ (.t s) _=>some s
 |_=>none
def JZ(ops:List Oper)(l:List (Option (Nat×Bool)×I)):Option AC:=
 if di 0 ops&&mz l (aJ ops [] ops) (List.range ops.length)then some (.xd (qG l) l)else none
def xS(ops:List Oper)(l:List (Option (Nat×Bool)×I)):Option AC:=
 match wJ l (aJ ops [] ops) ops.length with
 |none=>none
 |some (ia,ib)=>
  let ps:=(List.range ops.length).filter fun k=>k !=ia&&k !=ib&&!BM (aJ ops [] ops) ia ib k
  let rs:=(List.range ops.length).filter fun k=>k !=ia&&k !=ib&&BM (aJ ops [] ops) ia ib k
  if ia<ops.length&&ib<ops.length&&ia !=ib&&BN ops l ps ia ib rs then some (.lL (ps.map fun i=>l.getD i default) (l.getD ia default) (l.getD ib default) (rs.map fun i=>l.getD i default))else none
def uL(N:Nat)(ops:List Oper):Bool:=ops.all fun o=>match o.dst with|some d=>decide (d<N)|none=>true
def AC.oJ:AC→List Nat
 |.cD l=>l.filterMap fun p=>dP p.2
 |.cm l=>l.filterMap fun p=>dP p.2
 |.Ag l=>l.filterMap fun p=>dP p.2
 |.Af l=>l.filterMap fun p=>dP p.2
 |.Ae l=>l.filterMap fun p=>dP p.2
 |.lL p a b r=>(p++a::b::r).filterMap fun p=>dP p.2
 |.xd _ l=>l.filterMap fun p=>dP p.2
 |.pw _ l=>l.filterMap fun p=>dP p.2
 |.seq a b=>a.oJ++b.oJ
 |.cond _ a b=>a.oJ++b.oJ
 |.block _ c=>c.oJ
 |.scope c=>c.oJ
 |.alt a b=>a.oJ++b.oJ
 |.loop c=>c.oJ
 |.Ei _ ps _ a b=>ps++(a.oJ++b.oJ)
 |_=>[]
def re(ai:List Nat)(listed:Nat)(n:Nat):List Nat:=(List.range n).filter fun k=>!listed.testBit k&&(ai.getD k 0&&&listed)==ai.getD k 0
def bo(l:List (Option (Nat×Bool)×I))(ai:List Nat):Nat→Nat→AC
 |0,_=>.skip
 |f+1,listed=>match re ai listed l.length with
  |[]=>.skip
  |i::is=>is.foldl (fun a k=>.alt a (.seq (.cD [l.getD k default]) (bo l ai f (listed|||2^k)))) (.seq (.cD [l.getD i default]) (bo l ai f (listed|||2^i)))
def yR(l:List (Option (Nat×Bool)×I))(ai:List Nat):Nat→Option Nat
 |0=>none
 |k+1=>if !(xH l&&vL (l.take k))&&!EP (l.take k)&&ku (l.take k) ai k&&((List.range l.length).filter (fun j=>decide (k≤j))).all (fun j=>(ai.getD j 0&&&(2^k-1))==2^k-1)&&decide (l.length≤k+5)then some k else yR l ai k
def JV(ops:List Oper)(l:List (Option (Nat×Bool)×I)):Option AC:=
 match yR l (aJ ops [] ops) (l.length+1)with
 |some k=>
  let ac:=AC.scope (.seq (.cm (l.take k)) (bo l (aJ ops [] ops) (l.length-k) (2^k-1)))
  if di 0 ops&&decide (k≤l.length)&&ku (l.take k) (aJ ops [] ops) k&&((List.range l.length).filter (fun j=>decide (k≤j))).all (fun j=>((aJ ops [] ops).getD j 0&&&(2^k-1))==2^k-1)&&(l.filterMap fun p=>dP p.2).all (fun d=>ac.oJ.contains d)then some ac else none
 |none=>none
def DB(D:List Nat):I→I→Bool
 |.ld d _ _ _,.callB _ _ _=>D.contains d
 |.callB _ _ _,.ld d _ _ _=>D.contains d
 |.callB _ _ _,.alloc _ _=>true
 |_,_=>false
def pd(D:List Nat)(a b:Option (Nat×Bool)×I):Bool:=
 apart a b||(DB D a.2 b.2&&bR (dP a.2) (l7 b.1++dh b.2)&&bR (dP b.2) (l7 a.1++dh a.2)&&bR (dP a.2) (dP b.2).toList)
def tt(D:List Nat)(l:List (Option (Nat×Bool)×I))(ai:List Nat)(i j:Nat):Bool:=(ai.getD j 0).testBit i||pd D (l.getD i default) (l.getD j default)
def j9(D:List Nat)(l:List (Option (Nat×Bool)×I))(ai:List Nat):List Nat→Bool
 |[]=>true
 |i::r=>r.all (tt D l ai i)&&j9 D l ai r
def Cg:I→Bool
 |.callB _ _ _=>true
 |_=>false
def Dx(l:List (Option (Nat×Bool)×I))(ai:List Nat):List Nat:=(List.range l.length).filterMap fun j=>match (l.getD j default).2 with
 |.ld d _ _ _=>if(List.range l.length).any (fun i=>Cg (l.getD i default).2&&!(ai.getD j 0).testBit i&&!(ai.getD i 0).testBit j)then some d else none
 |_=>none
def wI(D:List Nat)(l:List (Option (Nat×Bool)×I))(ai:List Nat):Nat→Option Nat
 |0=>none
 |k+1=>if decide (k≤l.length)&&!(xH l&&vL (l.take k))&&!EP (l.take k)&&j9 D l ai (List.range k)&&((List.range l.length).filter (fun j=>decide (k≤j))).all (fun j=>(ai.getD j 0&&&(2^k-1))==2^k-1)&&decide (l.length≤k+9)then some k else wI D l ai k
def JW(ops:List Oper)(l:List (Option (Nat×Bool)×I)):Option AC:=
 let D:=Dx l (aJ ops [] ops)
 match wI D l (aJ ops [] ops) (l.length+1)with
 |some k=>
  let ac:=AC.scope (.seq (.pw D (l.take k)) (bo l (aJ ops [] ops) (l.length-k) (2^k-1)))
  if di 0 ops&&decide (k≤l.length)&&j9 D l (aJ ops [] ops) (List.range k)&&((List.range l.length).filter (fun j=>decide (k≤j))).all (fun j=>((aJ ops [] ops).getD j 0&&&(2^k-1))==2^k-1)&&(l.filterMap fun p=>dP p.2).all (fun d=>ac.oJ.contains d)then some ac else none
 |none=>none
def JL(D:List Nat)(ops:List Oper)(l:List (Option (Nat×Bool)×I))(ai:List Nat)(k c:Nat):Bool:=
 di 0 ops&&decide (k≤l.length)&&decide (k≤c)&&decide (c<l.length)&&j9 D l ai (List.range k++[c])&&(match (l.getD c default).2 with|.bin _ _ _ _=>true|_=>false)&&
  ((List.range l.length).filter (fun j=>decide (k≤j)&&j !=c)).all (fun j=>(ai.getD j 0&&&(2^k-1))==2^k-1)
def yJ(D:List Nat)(l:List (Option (Nat×Bool)×I))(ai:List Nat)(k c:Nat):AC:=
 .scope (.seq (.pw D (l.take k)) (.alt (bo l ai (l.length-k) (2^k-1)) (.seq (.cm [l.getD c default]) (bo l ai (l.length-k-1) ((2^k-1)|||2^c)))))
def yU(D:List Nat)(ops:List Oper)(l:List (Option (Nat×Bool)×I))(ai:List Nat):Nat→Option (Nat×Nat)
 |0=>none
 |k+1=>if !(xH l&&vL (l.take k))&&!EP (l.take k)&&decide (l.length≤k+9)then(match (List.range l.length).find? (fun c=>JL D ops l ai k c)with
  |some c=>some (k,c)
  |none=>yU D ops l ai k)else yU D ops l ai k
def JX(ops:List Oper)(l:List (Option (Nat×Bool)×I)):Option AC:=
 let D:=Dx l (aJ ops [] ops)
 match yU D ops l (aJ ops [] ops) (l.length+1)with
 |some (k,c)=>if JL D ops l (aJ ops [] ops) k c&&(l.filterMap fun p=>dP p.2).all (fun d=>(yJ D l (aJ ops [] ops) k c).oJ.contains d)then some (yJ D l (aJ ops [] ops) k c)else none
 |none=>none
def DO(l:List (Option (Nat×Bool)×I)):Bool:=match l.getLast? with
 |some (none,.call _ (.t _) [_,_,_])=>true
 |some (none,.call _ (.t _) [_])=>true
 |_=>false
def JY(ops:List Oper)(l:List (Option (Nat×Bool)×I))(k:Nat):Option AC:=
 let ac:=AC.scope (.seq (.cm (l.take k)) (bo l (aJ ops [] ops) (l.length-k) (2^k-1)))
 if di 0 ops&&decide (k≤l.length)&&ku (l.take k) (aJ ops [] ops) k&&((List.range l.length).filter (fun j=>decide (k≤j))).all (fun j=>((aJ ops [] ops).getD j 0&&&(2^k-1))==2^k-1)&&(l.filterMap fun p=>dP p.2).all (fun d=>ac.oJ.contains d)then some ac else none
def Ac(ops:List Oper)(l:List (Option (Nat×Bool)×I)):Option AC:=match (if DO l then JY ops l (l.length-1)else none)with
 |some ac=>some ac
 |none=>match (if xH l then none else xS ops l)with
 |some ac=>some ac
 |none=>match (if xH l then none else JZ ops l)with
  |some ac=>some ac
  |none=>match JV ops l with
   |some ac=>some ac
   |none=>match JW ops l with
    |some ac=>some ac
    |none=>JX ops l
def Fq:I→Bool
 |.call _ _ _=>true
 |_=>false
def JF:I→Bool
 |.ld _ false 1 _=>true
 |_=>false
def JE:I→Bool
 |.beq _ _ _ _=>true
 |_=>false
def Ke(l:List (Option (Nat×Bool)×I)):Bool:=decide ((l.filter fun p=>Fq p.2).length=2)&&decide ((l.filter fun p=>JF p.2).length=2)&&l.any (fun p=>JE p.2)&&decide (l.length≤12)
def Ch:Option (Nat×Bool)×I→Bool
 |(some _,.call _ _ _)=>true
 |_=>false
def Kc(l:List (Option (Nat×Bool)×I)):Bool:=decide ((l.filter Ch).length=2)&&decide (l.length=19)
def zS:I→Bool
 |.callB _ _ _=>true
 |_=>false
def Fp:I→Bool
 |.app _ _ _ _ _=>true
 |_=>false
def Fs:I→Bool
 |.idx _ _ _ _=>true
 |_=>false
def Kd(l:List (Option (Nat×Bool)×I)):Bool:=l.any (fun p=>zS p.2)&&l.any (fun p=>Fp p.2)&&!l.any (fun p=>Fs p.2)
def AC.jI:AC→Bool
 |.seq a b=>a.jI&&b.jI
 |.cond _ a b=>a.jI&&b.jI
 |.block _ c=>c.jI
 |.scope c=>c.jI
 |.alt a b=>a.jI&&b.jI
 |.loop c=>c.jI
 |.Ei _ _ _ _ _=>false
 |_=>true
def tr(T:Nat→Option Ty)(N:Nat):Code→Option AC
 |.skip=>some .skip
 |.region _ ops draw=>do
  let l←gT T ops.toList
  if uL N ops.toList then(if draw then(if Im ops.toList l&&!DO l then(if Ke l then some (.Ag l)else if Kc l then some (.Ae l)else some (.cm l))else Ac ops.toList l)else(if Kd l then some (.Af l)else some (.cD l)))else none
 |.seq a b=>do pure (.seq (←tr T N a) (←tr T N b))
 |.cond c a b=>do pure (.cond (←bQ c) (←tr T N a) (←tr T N b))
 |.block id c=>do pure (.block id (←tr T N c))
 |.scope c=>do pure (.scope (←tr T N c))
 |.label _=>some .MN
 |.loop c=>do pure (.loop (←tr T N c))
 |.exit id=>some (.exit id)
 |.ret=>some .ret
 |.rangeFunc g ps assign body=>do
  let g←bQ g;let a←tr T N assign;let b←tr T N body
  if(a.jI&&b.jI&&ps.toList.all (fun p=>decide (p<N)))=true then some (.Ei g ps.toList (ps.toList++(a.oJ++b.oJ)) a b)else none
 |_=>none
def iS(T:Nat→Option Ty):ResultVar→Option R
 |.tmp t=>some (.t t)
 |.cell a t=>do let ty←T t;pure (.c a (gv ty) (dd ty))
def kT(T:Nat→Option Ty)(fn:Func):Option bL:=do
 if fn.name== "runtime.NumGoroutine" then none else
 let cd←fn.body
 pure ⟨fn.ntmps,←tr T fn.ntmps cd,←fn.results.toList.mapM (iS T)⟩
end Go.Abs
end
section
namespace Go.Abs
theorem yJh{E:ax}{g st o}{K K':St→Prop}(hk:∀s,K s→K' s)
  (h:match eW E.G st o with|some (v,ob,gs)=>qY g (gs=true∧ob)∧K (st.put g (j5 o) v)|none=>False):
  match eW E.G st o with|some (v,ob,gs)=>qY g (gs=true∧ob)∧K' (st.put g (j5 o) v)|none=>False:=by
 cases hv:eW E.G st o with
 |none=>simp[hv]at h
 |some r=>simp only[hv]at h⊢;exact⟨h.1,hk _ h.2⟩
theorem Hl{v g d K K' st as r}(hk:∀s,K s→K' s)(h:dL v g d K st as r):dL v g d K' st as r:=by
 cases r with
 |own a sz es=>
  cases d with
  |none=>exact h
  |some d=>exact⟨h.1,hk _ h.2⟩
 |one x=>exact hk _ h
 |agg x=>exact hk _ h
 |tup x=>exact hk _ h
 |bx=>exact h
 |vr=>exact h
 |vc=>
  cases d with
  |none=>exact h
  |some d=>exact⟨h.1,fun e=>hk _ (h.2.1 e),fun e c h1 h2=>hk _ (h.2.2 e c h1 h2)⟩
theorem yKJ{g d K st as r}(h:dL false g d K st as r):dL true g d K st as r:=by
 cases r<;>first|exact h|(cases d<;>first|exact h.elim|exact absurd h.1.1 (by simp))
theorem yvH{E g d f caps gs as K K' st}(hk:∀s,K s→K' s)(h:qK E g d f caps gs as K st):qK E g d f caps gs as K' st:=by
 unfold qK at*
 rcases h with h|⟨x,h1,h2⟩|⟨B,cvs,r,h1,h2⟩
 ·split at h
  ·rcases h with⟨r,h1,h2⟩|⟨r,h1,h2⟩
   ·exact .inl (.inl ⟨r,h1,Hl hk h2⟩)
   ·exact .inl (.inr ⟨r,h1,Hl hk h2⟩)
  ·exact h.elim
 ·exact .inr (.inl ⟨x,h1,hk _ h2⟩)
 ·exact .inr (.inr ⟨B,cvs,r,h1,Hl hk h2⟩)
theorem SY{E g d f caps gs as K K' st sk J5}(hk:∀s,K s→K' s)(hs:sk→J5)(h:pD E g d f caps gs as K st sk):pD E g d f caps gs as K' st J5:=h.imp (yvH hk) hs
theorem yKL{E g d f caps gs as K st sk}(h:pD E g d f caps gs as K st sk):pD E g d f caps gs as K st False∨sk:=h.imp .inl id
theorem SX{E g d f caps gs as K K' st sk J5}(hk:∀s,K s→K' s)(hs:sk→J5)(h:pC E g d f caps gs as K st sk):pC E g d f caps gs as K' st J5:=h.imp (fun⟨s,h0,x,h1,h2⟩=>⟨s,h0,x,h1,hk _ h2⟩) hs
theorem yKI{E g d f caps gs as K st sk}(h:pC E g d f caps gs as K st sk):pC E g d f caps gs as K st False∨sk:=h.imp .inl id
theorem NO{E g o st K K'}(hk:∀s,K s→K' s)(h:bF E g o st K):bF E g o st K':=by
 cases o<;>simp only[bF]at h⊢;case alloc=>exact⟨h.1,hk _ h.2⟩
 case box=>exact⟨h.1,hk _ h.2⟩
 case st n a x=>
  split at h<;>try exact h.elim
  ·split at h<;>try exact h.elim
   exact⟨h.1,hk _ h.2⟩
  ·split at h<;>try exact h.elim
   exact⟨h.1,hk _ h.2⟩
 case app d esz eb x y=>
  split at h
  ·split at h<;>try exact h.elim
   ·exact⟨h.1,hk _ h.2⟩
   ·exact⟨h.1,hk _ h.2⟩
   ·split at h<;>try exact h.elim
    refine⟨h.1,fun e=>hk _ (h.2.1 e),fun e=>?_⟩;obtain⟨s',h1,h2,h3⟩:=h.2.2 e;exact⟨s',h1,h2,fun c h4 h5=>hk _ (h3 c h4 h5)⟩
  unfold xB at h⊢;split at h
  ·exact hk _ h
  ·split at h<;>try exact h.elim
   split at h<;>try exact h.elim
   ·exact⟨h.1,hk _ h.2⟩
   ·exact⟨h.1,hk _ h.2⟩
   ·split at h<;>try exact h.elim
    obtain⟨h1,s',h2,h3⟩:=h;exact⟨h1,s',h2,fun c a b=>hk _ (h3 c a b)⟩
 case len d str x=>
  split at h<;>try exact h.elim
  exact⟨h.1,fun hb=>hk _ (h.2 hb)⟩
 case call d f args=>
  split at h<;>try exact h.elim
  ·split at h
   ·obtain⟨r,h1,h2⟩:=h;exact⟨r,h1,Hl hk h2⟩
   ·exact SY hk (fun h=>h) h
  ·exact SX hk (fun h=>h) h
 case callB d f args=>
  split at h<;>try exact h.elim
  all_goals
   obtain⟨x,h1,h2⟩:=h;exact⟨x,h1,hk _ h2⟩
 case isnil d x=>
  split at h
  ·exact⟨h.1,fun b hb=>hk _ (h.2 b hb)⟩
  ·exact⟨h.1,h.2.1,hk _ h.2.2⟩
 case mkm=>exact⟨h.1,hk _ h.2⟩
 case mput k e kz x key v=>
  split at h<;>try exact h.elim
  split at h<;>try exact h.elim
  exact⟨h.1,hk _ h.2⟩
 case mclr x=>
  split at h<;>try exact h.elim
  split at h<;>try exact h.elim
  exact⟨h.1,hk _ h.2⟩
 case mkv=>
  split at h<;>try exact h.elim
  exact⟨h.1,hk _ h.2⟩
 case bslv=>
  split at h<;>try exact h.elim
  exact⟨h.1,hk _ h.2⟩
 case cpy=>
  split at h<;>try exact h.elim
  split at h<;>try exact h.elim
  exact⟨h.1,hk _ h.2⟩
 case clr=>
  split at h<;>try exact h.elim
  split at h<;>try exact h.elim
  exact⟨h.1,hk _ h.2⟩
 case mv=>exact⟨h.1,hk _ h.2⟩
 case mkf=>exact⟨h.1,hk _ h.2⟩
 all_goals exact yJh hk h
theorem YU{E g o st K}:sN E g o st K→bF E g o st K∨pQ g o st K:=by
 intro h;cases o<;>simp only[sN]at h<;>try (first|exact .inl h|skip)
 case len d str x=>
  split at h
  ·rename_i n hn;left;simp only[bF,hn];exact h
  ·exact .inr h
 case call d f args=>
  split at h
  ·rename_i f' caps hf;split at h
   ·rename_i cvs hc;left;simp only[bF,hf,hc];exact h
   ·rename_i hc;rcases yKL h with h|h
    ·left;simp only[bF,hf,hc];exact h
    ·exact .inr h
  ·rename_i f' caps hf;rcases yKI h with h|h
   ·left;simp only[bF,hf];exact h
   ·exact .inr h
  ·exact .inr h
 all_goals
  split at h
  ·rename_i v ob gs hv;left;simp only[bF,hv];exact h
  ·exact .inr h
theorem yQZ{E:ax}{g st o K}
  (h:match eW E.G st o with|some (v,ob,gs)=>qY g (gs=true∧ob)∧K (st.put g (j5 o) v)|none=>False):
  match eW E.G st o with|some (v,ob,gs)=>qY g (gs=true∧ob)∧K (st.put g (j5 o) v)|none=>pQ g o st K:=by
 cases hv:eW E.G st o with
 |none=>simp[hv]at h
 |some r=>simp only[hv]at h;exact h
theorem yJZ{E g o st K}(h:bF E g o st K):sN E g o st K:=by
 cases o<;>simp only[sN]<;>try exact h
 case len d str x=>
  simp only[bF]at h;split at h
  ·rename_i n hn;exact h
  ·exact h.elim
 case call d f args=>
  simp only[bF]at h;split at h
  ·rename_i f' caps hf;split at h
   ·rename_i cvs hc;exact h
   ·exact SY (fun _ h=>h) (fun h=>h.elim) h
  ·exact SX (fun _ h=>h) (fun h=>h.elim) h
  ·exact h.elim
 all_goals first
  |exact⟨h.1,h.2⟩
  |exact yQZ h
theorem yYx{E g o st K K'}(hk:∀s,K s→K' s)(h:sN E g o st K):sN E g o st K':=by
 cases o<;>simp only[sN]at h⊢;case len d str x=>
  split at h
  ·rename_i n hn;exact⟨h.1,fun hb=>hk _ (h.2 hb)⟩
  ·exact⟨h.1,hk _ h.2⟩
 case call d f args=>
  split at h
  ·rename_i f' caps hf;split at h
   ·rename_i cvs hc;obtain⟨r,h1,h2⟩:=h;exact⟨r,h1,Hl hk h2⟩
   ·exact SY hk (fun h=>⟨h.1,hk _ h.2⟩) h
  ·exact SX hk (fun h=>⟨h.1,hk _ h.2⟩) h
  ·exact⟨h.1,hk _ h.2⟩
 all_goals first
  |exact NO hk h
  |(split at h
    ·exact⟨h.1,hk _ h.2⟩
    ·exact⟨h.1,hk _ h.2⟩)
theorem yKs{E g o st K K'}(hk:∀s,K s→K' s)(h:vF E g o st K):vF E g o st K':=by
 unfold vF at*
 split at h
 ·exact h
 ·exact yYx hk h
theorem ywt{E}(l){st K K'}(hk:∀s,K s→K' s)(h:mO E l K st):mO E l K' st:=by
 induction l generalizing st with
 |nil=>exact hk _ h
 |cons o os ih=>exact yKs (fun s hs=>ih hs) h
theorem AD{E g o st K K'}(hk:∀s,K s→K' s)(h:gh E g o st K):gh E g o st K':=by
 unfold gh at*
 split at h
 ·exact h
 ·split at h
  ·split at h<;>try exact h.elim
   exact⟨h.1,hk _ h.2⟩
  ·exact h.elim
  ·exact⟨h.1,NO hk h.2⟩
  ·exact⟨h.1,NO hk h.2⟩
  ·exact h.elim
  ·exact h.elim
  ·exact h.elim
  ·exact h.elim
  ·split at h<;>try exact h.elim
   split at h<;>try exact h.elim
   obtain⟨r,h1,h2⟩:=h;exact⟨r,h1,Hl hk h2⟩
  ·exact NO hk h
theorem xW{E}(l){st K K'}(hk:∀s,K s→K' s)(h:bS E l K st):bS E l K' st:=by
 induction l generalizing st with
 |nil=>exact hk _ h
 |cons o os ih=>exact AD (fun s hs=>ih hs) h
theorem FQ{N N' Q Q'}(hn:∀s,N s→N' s)(hq:∀e s,Q e s→Q' e s):∀e s,jl N Q e s→jl N' Q' e s:=by
 intro e s h;cases e<;>simp only[jl]at h⊢<;>first|exact hn _ h|exact hq _ _ h
theorem Tx{F E}:∀(l) {st} {K K'},(∀s,K s→K' s)→eV F E l K st→eV F E l K' st
 |[],_,_,_,hk,h=>hk _ h
 |(_,_)::os,_,_,_,hk,h=>⟨h.1,AD (fun _ hs=>Tx os hk hs) h.2⟩
theorem KL{D F E}:∀(l) {st} {K K'},(∀s,K s→K' s)→dA D F E l K st→dA D F E l K' st
 |[],_,_,_,hk,h=>hk _ h
 |(_,_)::os,_,_,_,hk,h=>⟨h.1,AD (fun _ hs=>⟨hs.1,KL os hk hs.2⟩) h.2⟩
theorem yvx{id Q Q'}(hq:∀e s,Q e s→Q' e s):∀e s,je id Q e s→je id Q' e s:=by
 intro e s h;cases e<;>simp only[je]at h⊢
 ·exact hq _ _ h
 ·split at h<;>rename_i hi<;>simp only[hi,if_true,if_false]<;>exact hq _ _ h
 ·exact hq _ _ h
theorem yZH{B}(hB:∀Q Q':AX→St→Prop,(∀e s,Q e s→Q' e s)→∀s,B Q s→B Q' s){Q Q'}(hq:∀e s,Q e s→Q' e s)
  {st} (h:Aa B Q st):Aa B Q' st:=
 fun X hX=>h X fun s s1 he hb=>hX s s1 he (hB _ _ (FQ (fun _ h=>h) hq) _ hb)
theorem Ng{E}(c):∀{Q Q'} (_:∀e s,Q e s→Q' e s) {st} (_:cx E c Q st),cx E c Q' st:=by
 induction c with
 |skip=>exact fun hq _ h=>hq _ _ h
 |cD l=>exact fun hq _ h=>ywt l (fun s=>hq _ s) h
 |cm l=>exact fun hq _ h=>xW l (fun s=>hq _ s) h
 |Ae l=>exact fun hq _ h=>xW l (fun s=>hq _ _) h
 |Ag l=>exact fun hq _ ⟨B,h1,h2⟩=>⟨B,h1,xW l (fun s=>hq _ s) h2⟩
 |Af l=>exact fun hq _ ⟨s,h1,h2⟩=>⟨s,h1,ywt l (fun s=>hq _ s) h2⟩
 |xd F l=>exact fun hq _ h=>Tx l (fun s=>hq _ s) h
 |pw D l=>exact fun hq _ ⟨F,h⟩=>⟨F,KL l (fun s=>hq _ s) h⟩
 |lL p a b r=>exact fun hq _ h=>xW p (fun s hs=>⟨xW _ (fun s=>hq _ s) hs.1,xW _ (fun s=>hq _ s) hs.2⟩) h
 |seq a b my nM=>exact fun hq _ h=>my (FQ (fun s hs=>nM hq hs) hq) h
 |cond c a b my nM=>
  intro Q Q' hq st h;simp only[cx]at h⊢;split at h<;>try exact h.elim
  exact⟨h.1,fun hx=>my hq (h.2.1 hx),fun hx=>nM hq (h.2.2 hx)⟩
 |block id c ih=>exact fun hq _ h=>ih (yvx hq) h
 |scope c ih=>exact fun hq _ h=>ih hq h
 |alt a b my nM=>exact fun hq _ h=>⟨my hq h.1,nM hq h.2⟩
 |MN=>exact fun hq _ h=>hq _ _ h
 |loop c ih=>exact fun hq st h=>yZH (B:=cx E c) (fun _ _ hh _ hs=>ih hh hs) hq h
 |exit id=>exact fun hq _ h=>hq _ _ h
 |ret=>exact fun hq _ h=>hq _ _ h
 |Ei g ps wl a b my nM=>
  intro Q Q' hq st h;simp only[cx]at h⊢;split at h<;>try exact h.elim
  obtain⟨h1,xs,h2,Inv,Sx,h3,hi,h4,h5⟩:=h;refine⟨h1,xs,h2,Inv,Sx,h3,hi,fun pre x rest hx hp=>⟨(h4 pre x rest hx hp).1,?_⟩,fun ef=>hq _ _ (h5 ef)⟩;refine my (FQ (fun s hs=>nM ?_ hs) fun _ _ h=>h) (h4 pre x rest hx hp).2;intro e s he;cases e with
  |normal=>exact he
  |exit i=>exact hq _ _ he
  |ret=>exact hq _ _ he
theorem SD{E c Q st s1}(he:nF st s1)(h:cx E c (jl (cx E (.loop c) Q) Q) s1):cx E (.loop c) Q st:=
 fun X hX=>hX _ _ he (Ng c (FQ (fun _ hs=>hs X hX) fun _ _ h=>h) h)
theorem gU{E c Q}{α:Type}(l)(I:List α→Prop)(S:List α→List α→St){st}(h0:nF st (S [] l))(hi:I [])
  (zJ:∀done x r,l=done++x::r→I done→cx E c (jl (fun s=>nF s (S (done++[x]) r)∧I (done++[x])) Q) (S done (x::r)))
  (Qj:I l→cx E c (jl (fun _=>False) Q) (S l [])):cx E (.loop c) Q st:=by
 have key:∀(rest done:List α) {st:St},l=done++rest→nF st (S done rest)→I done→cx E (.loop c) Q st:=by
  intro rest;induction rest with
  |nil=>
   intro done st hl h0 hi;obtain rfl:l=done:=by simpa using hl
   exact SD h0 (Ng c (FQ (fun _ h=>h.elim) fun _ _ h=>h) (Qj hi))
  |cons x r ih=>intro done st hl h0 hi;refine SD h0 (Ng c (FQ (fun s h=>?_) fun _ _ h=>h) (zJ done x r hl hi));exact ih (done++[x]) (by simp[hl]) h.1 h.2
 exact key l [] rfl h0 hi
end Go.Abs
end
section
namespace Go.Abs
open Go.RowKit
abbrev Safe:=Nat→Nat→Prop
mutual
def dR(w:World)(S:Safe):D→Value→Prop
 |.bool b,v=>v=.bool b
 |.int k n,v=>v=.int k n
 |.str s,v=>∃x:ByteArray,v=.string x∧x.data.toList=s∧x.size≤9223372036854775807
 |.aw es,v=>∃(base:Option Addr) (cap:Nat),v=.slice base es.length cap∧es.length≤cap∧cap≤9223372036854775807∧(base=none→cap=0)∧
   ∀a,base=some a→(cap≠0→a.spot=none)∧(∃sz,∀e∈es,e.length=sz)∧bY w S a.block a.off es
 |.clo f caps,v=>∃cs:Array Value,v=.func (.func f) #[] cs∧aS w S caps cs.toList
 |.oB,v=>v=.nilFunc
 |.jY,v=>v=.pointer none
 |.ref cs,v=>∃b o,v=.pointer (some ⟨b,o,none⟩)∧aP w S b o cs
 |.gp g off,v=>v=.pointer (some ⟨g,off,none⟩)
 |.yl l,v=>v=.func (.yield l) #[] #[]
 |.oA,v=>v=.nilIface
 |.anyI,v=>∃(t:TypeId) (u:Value),v=.iface t u
def aP(w:World)(S:Safe):Nat→Nat→List D→Prop
 |_,_,[]=>True
 |b,o,d::ds=>(S b o∧∃v,w.cell? ⟨b,o,none⟩=some v∧dR w S d v)∧aP w S b (o+1) ds
def bY(w:World)(S:Safe):Nat→Nat→List (List D)→Prop
 |_,_,[]=>True
 |b,o,e::es=>aP w S b o e∧bY w S b (o+e.length) es
def aS(w:World)(S:Safe):List D→List Value→Prop
 |[],vs=>vs=[]
 |d::ds,vs=>∃v r,vs=v::r∧dR w S d v∧aS w S ds r
end
def aY(w:World)(S:Safe)(w':World)(S':Safe):Prop:=∀b o,S b o→S' b o∧w'.cell? ⟨b,o,none⟩=w.cell? ⟨b,o,none⟩
theorem aY.refl(w)(S):aY w S w S:=fun _ _ h=>⟨h,rfl⟩
theorem aY.trans{w w' X3 S S' Wr}(h:aY w S w' S')(h':aY w' S' X3 Wr):aY w S X3 Wr:=
 fun b o hs=>⟨(h' b o (h b o hs).1).1,((h' b o (h b o hs).1).2).trans (h b o hs).2⟩
mutual
theorem dR.keep{w w':World}{S S':Safe}(hk:aY w S w' S'):∀(d:D) (v:Value),dR w S d v→dR w' S' d v
 |.bool _,_,h=>h
 |.int _ _,_,h=>h
 |.str _,_,h=>h
 |.aw es,_,⟨base,cap,h1,h2,h3,h4,h5⟩=>⟨base,cap,h1,h2,h3,h4,fun a ha=>⟨(h5 a ha).1,(h5 a ha).2.1,bY.keep hk _ _ es (h5 a ha).2.2⟩⟩
 |.clo _ caps,_,⟨cs,h1,h2⟩=>⟨cs,h1,aS.keep hk caps _ h2⟩
 |.oB,_,h=>h
 |.jY,_,h=>h
 |.ref cs,_,⟨b,o,h1,h2⟩=>⟨b,o,h1,aP.keep hk b o cs h2⟩
 |.gp _ _,_,h=>h
 |.yl _,_,h=>h
 |.oA,_,h=>h
 |.anyI,_,h=>h
theorem aP.keep{w w':World}{S S':Safe}(hk:aY w S w' S'):∀(b o:Nat) (ds:List D),aP w S b o ds→aP w' S' b o ds
 |_,_,[],_=>trivial
 |b,o,d::ds,⟨⟨hs,v,hc,hr⟩,h2⟩=>⟨⟨(hk b o hs).1,v,((hk b o hs).2).trans hc,dR.keep hk d v hr⟩,aP.keep hk b (o+1) ds h2⟩
theorem bY.keep{w w':World}{S S':Safe}(hk:aY w S w' S'):∀(b o:Nat) (es:List (List D)),bY w S b o es→bY w' S' b o es
 |_,_,[],_=>trivial
 |b,o,e::es,⟨h1,h2⟩=>⟨aP.keep hk b o e h1,bY.keep hk b (o+e.length) es h2⟩
theorem aS.keep{w w':World}{S S':Safe}(hk:aY w S w' S'):∀(ds:List D) (vs:List Value),aS w S ds vs→aS w' S' ds vs
 |[],_,h=>h
 |d::ds,_,⟨v,r,h1,h2,h3⟩=>⟨v,r,h1,dR.keep hk d v h2,aS.keep hk ds r h3⟩
end
theorem dR.one{w S}:∀{d} {v},dR w S d v→v.oneCell'=true
 |.bool _,_,h=>by rw[h];rfl
 |.int _ _,_,h=>by rw[h];rfl
 |.str _,_,⟨_,h,_⟩=>by rw[h];rfl
 |.aw _,_,⟨_,_,h,_⟩=>by rw[h];rfl
 |.clo _ _,_,⟨_,h,_⟩=>by rw[h];rfl
 |.oB,_,h=>by rw[h];rfl
 |.jY,_,h=>by rw[h];rfl
 |.ref _,_,⟨_,_,h,_⟩=>by rw[h];rfl
 |.gp _ _,_,h=>by rw[h];rfl
 |.yl _,_,h=>by rw[h];rfl
 |.oA,_,h=>by rw[h];rfl
 |.anyI,_,⟨_,_,h⟩=>by rw[h];rfl
structure bW where
 box:Nat→Option Nat
 tok:Nat→Option (Option Addr×Nat×Nat×Nat)
 cO:Nat→Option Nat
mutual
def ay(w:World)(S:Safe)(ρ:bW):AV→Value→Prop
 |.undef,_=>True
 |.d x,v=>dR w S x v
 |.agg cs,v=>∃vs:Array Value,v=.agg vs∧af w S ρ cs vs.toList
 |.tup cs,v=>∃vs:Array Value,v=.tuple vs∧af w S ρ cs vs.toList
 |.ptr s off,v=>∃b,ρ.box s=some b∧v=.pointer (some ⟨b,off,none⟩)
 |.full es,v=>dR w S (.aw es) v∧∃base n,v=.slice base n n
 |.own t sz es,v=>dR w S (.aw es) v∧(∀e∈es,e.length=sz)∧∃base n cap,ρ.tok t=some (base,n,cap,sz)∧v=.slice base n cap
 |.clo f caps,v=>∃cs:Array Value,v=.func (.func f) #[] cs∧af w S ρ caps cs.toList
 |.cond g a,v=>(g=true→ay w S ρ a v)∧(g=false→v=undef)
 |.mref s,v=>∃b,ρ.cO s=some b∧v=.map (some b)
 |.mp _ _ _,_=>False
 |.zsl m sz,v=>∃ys:List (List D),(ys.length=m∧∀e∈ys,e.length=sz)∧dR w S (.aw ys) v
 |.pnd m t sz es,v=>(1≤m∧∀e∈es,e.length=sz)∧∃base n cap,ρ.tok t=some (base,n,cap,sz)∧dR w S (.aw es) (.slice base n cap)∧n+m≤cap∧v=.slice base (n+m) cap
 |.eptr t sz,v=>∃(a:Addr) (n cap:Nat),ρ.tok t=some (some a,n,cap,sz)∧n+1≤cap∧v=.pointer (some (a.add (n*sz)))
 |.vec s _ off n cap,v=>n≤cap∧cap≤9223372036854775807∧∃b,ρ.box s=some b∧v=.slice (some ⟨b,off,none⟩) n cap
def af(w:World)(S:Safe)(ρ:bW):List AV→List Value→Prop
 |[],vs=>vs=[]
 |a::as,vs=>∃v r,vs=v::r∧ay w S ρ a v∧af w S ρ as r
end
def bW.le(ρ bu:bW):Prop:=(∀s b,ρ.box s=some b→bu.box s=some b)∧(∀t x,ρ.tok t=some x→bu.tok t=some x)∧(∀s b,ρ.cO s=some b→bu.cO s=some b)
theorem bW.le_refl(ρ:bW):ρ.le ρ:=⟨fun _ _ h=>h,fun _ _ h=>h,fun _ _ h=>h⟩
mutual
theorem ay.keep{w w':World}{S S':Safe}{ρ bu:bW}(hk:aY w S w' S')(lI:ρ.le bu):∀(a:AV) (v:Value),ay w S ρ a v→ay w' S' bu a v
 |.undef,_,_=>trivial
 |.d x,_,h=>dR.keep hk x _ h
 |.agg cs,_,⟨vs,h1,h2⟩=>⟨vs,h1,af.keep hk lI cs _ h2⟩
 |.tup cs,_,⟨vs,h1,h2⟩=>⟨vs,h1,af.keep hk lI cs _ h2⟩
 |.ptr _ _,_,⟨b,h1,h2⟩=>⟨b,lI.1 _ _ h1,h2⟩
 |.full _,_,⟨h1,h2⟩=>⟨dR.keep hk _ _ h1,h2⟩
 |.own _ _ _,_,⟨h1,h2,base,n,cap,h3,h4⟩=>⟨dR.keep hk _ _ h1,h2,base,n,cap,lI.2.1 _ _ h3,h4⟩
 |.clo _ caps,_,⟨cs,h1,h2⟩=>⟨cs,h1,af.keep hk lI caps _ h2⟩
 |.cond _ a,_,⟨h1,h2⟩=>⟨fun hg=>ay.keep hk lI a _ (h1 hg),h2⟩
 |.mref _,_,⟨b,h1,h2⟩=>⟨b,lI.2.2 _ _ h1,h2⟩
 |.zsl _ _,_,⟨e,h1,h2⟩=>⟨e,h1,dR.keep hk _ _ h2⟩
 |.pnd _ _ _ _,_,⟨h1,base,n,cap,h2,h3,h4⟩=>⟨h1,base,n,cap,lI.2.1 _ _ h2,dR.keep hk _ _ h3,h4⟩
 |.eptr _ _,_,⟨b,n,cap,h2,h3⟩=>⟨b,n,cap,lI.2.1 _ _ h2,h3⟩
 |.vec _ _ _ _ _,_,⟨h0,h1,b,h2,h3⟩=>⟨h0,h1,b,lI.1 _ _ h2,h3⟩
theorem af.keep{w w':World}{S S':Safe}{ρ bu:bW}(hk:aY w S w' S')(lI:ρ.le bu):∀(as:List AV) (vs:List Value),af w S ρ as vs→af w' S' bu as vs
 |[],_,h=>h
 |a::as,_,⟨v,r,h1,h2,h3⟩=>⟨v,r,h1,ay.keep hk lI a v h2,af.keep hk lI as r h3⟩
end
end Go.Abs
end
section
namespace Go.Abs
open Go.RowKit
def pq:D→Lit
 |.bool b=>.bool b
 |.int k n=>.int k n
 |.str s=>.string s
 |_=>.bool false
def sy:Value→Option (DataW Value×List MemPlace):=fun v=>some (.held v,[])
def wo:List (D×Value)→DataW Value
 |[]=>.map []
 |(k,v)::l=>(wo l).put (pq k) (.held v)
theorem Zj{a b}(ha:gI a=true)(hb:gI b=true):pq a=pq b↔a=b:=by
 cases a<;>simp only[gI,Bool.false_eq_true]at ha<;>cases b<;>simp only[gI,Bool.false_eq_true]at hb<;>simp[pq]
theorem NI{a b}(ha:gI a=true)(hb:gI b=true):jq a b=true↔a=b:=by
 cases a<;>simp only[gI,Bool.false_eq_true]at ha<;>cases b<;>simp only[gI,Bool.false_eq_true]at hb<;>simp[jq]
theorem Zk(a):WideAt.IsKeyLit (pq a):=by cases a<;>simp[pq,WideAt.IsKeyLit]
theorem Tl:∀l:List (D×Value),Maps.IsMap (wo l)
 |[]=>Maps.isMap_empty
 |(_,_)::l=>(Tl l).put _ _
def lV(w:World)(S:Safe):MV→Value→Prop
 |.one x,v=>dR w S x v
 |.agg xs,v=>∃cs,v=.agg cs∧aS w S xs cs.toList
theorem lV.keep{w w' S S'}(hk:aY w S w' S'):∀{x} {v},lV w S x v→lV w' S' x v
 |.one _,_,h=>dR.keep hk _ _ h
 |.agg _,_,⟨cs,h1,h2⟩=>⟨cs,h1,aS.keep hk _ _ h2⟩
def mM(w:World)(S:Safe):List (D×MV)→List (D×Value)→Prop
 |[],l=>l=[]
 |(k,x)::cA,l=>∃v r,l=(k,v)::r∧gI k=true∧lV w S x v∧mM w S cA r
theorem mM.keep{w w' S S'}(hk:aY w S w' S'):∀{cA} {l},mM w S cA l→mM w' S' cA l
 |[],_,h=>h
 |(_,_)::_,_,⟨v,r,h1,h2,h3,h4⟩=>⟨v,r,h1,h2,lV.keep hk h3,mM.keep hk h4⟩
theorem yyM{w S x}(hx:gI x=true){z vz}(hz:lV w S z vz):∀{cA} {l},mM w S cA l→∃v,(wo l).atKey (pq x) (.held vz)=.held v∧lV w S (mR cA x z) v
 |[],_,h=>by simp only[mM]at h;subst h;exact⟨vz,rfl,hz⟩
 |(k,y)::cA,_,⟨v,l,h,hk,hv,hl⟩=>by
  subst h;obtain⟨v',h1,h2⟩:=yyM hx hz hl;simp only[wo,mR,gk];by_cases he:jq k x=true
  ·rw[if_pos he];have:=(NI hk hx).1 he;subst this;rw[Maps.atKey_put_same (Tl l) (Zk k)];exact⟨v,rfl,hv⟩
  ·rw[if_neg he];have b6:pq x≠pq k:=fun e=>he ((NI hk hx).2 ((Zj hk hx).1 e.symm));rw[Maps.atKey_put_other b6];exact⟨v',h1,h2⟩
theorem Zm{w S x}(hx:gI x=true):∀{cA} {l},mM w S cA l→Maps.has (wo l) (pq x)=nw cA x
 |[],_,h=>by simp only[mM]at h;subst h;rfl
 |(k,y)::cA,_,⟨v,l,h,hk,hv,hl⟩=>by
  subst h;have ih:=Zm hx hl;simp only[wo,nw,gk];by_cases he:jq k x=true
  ·rw[if_pos he];have:=(NI hk hx).1 he;subst this;rw[Maps.has_put_same (Tl l) (Zk k)];rfl
  ·rw[if_neg he];have b6:pq x≠pq k:=fun e=>he ((NI hk hx).2 ((Zj hk hx).1 e.symm));rw[Maps.has_put_other b6];exact ih
theorem ZG{v v' ps}(h:sy v=some (.held v',ps)):v=v':=by
 simp only[sy,Option.some.injEq,Prod.mk.injEq,DataW.held.injEq]at h;exact h.1
def nS(P:Program)(w:World)(S:Safe)(b k _e:Nat)(cA:List (D×MV)):Prop:=∃l,mM w S cA l∧w.ownsMap P k sy b cA.length (wo l)
theorem nS.obj{P w S b k e cA}(h:nS P w S b k e cA):∃es clock,w.heap[b]? =some (Obj.map es clock):=by
 obtain⟨_,_,es,clock,hb,_⟩:=h;exact⟨es,clock,hb⟩
theorem nS.lt{P w S b k e cA}(h:nS P w S b k e cA):b<w.heap.size:=by obtain⟨_,_,h⟩:=h;exact h.lt
theorem nS.to{P w w' S S' b k e cA}(h:nS P w S b k e cA)(hk:aY w S w' S')(hw:w'.heap[b]? =w.heap[b]?):nS P w' S' b k e cA:=by obtain⟨l,h1,es,clock,hb,h2⟩:=h;exact⟨l,h1.keep hk,es,clock,hw.trans hb,h2⟩
structure jA(P:Program)(k0:Nat→Prop)(w:World)(S:Safe)(ρ:bW)(m:Mem):Prop where
 at':∀s k e cA,getM m s=some [.mp k e cA]→∃b,ρ.cO s=some b∧ρ.box s=none∧k0 b∧nS P w S b k e cA
 inj:∀s s' b,ρ.cO s=some b→ρ.cO s'=some b→s=s'
 new:∀s,getM m s=none→ρ.cO s=none
 lt:∀s b,ρ.cO s=some b→b<w.heap.size
 apart:∀s b,ρ.box s=some b→ρ.cO s=none
def gF(w w':World):Prop:=w.heap.size≤w'.heap.size∧∀(b:Nat) (es:Array MapEntry) (clock:Nat),w.heap[b]? =some (Obj.map es clock)→w'.heap[b]? =w.heap[b]?
theorem jA.to{P k0 w w' S S' ρ m}(h:jA P k0 w S ρ m)(hk:aY w S w' S')(hw:gF w w'):jA P k0 w' S' ρ m:=
 {at':=fun s k e cA hs=>by obtain⟨b,h1,h2,h3,h4⟩:=h.at' s k e cA hs;obtain⟨es,clock,hb⟩:=h4.obj;exact⟨b,h1,h2,h3,h4.to hk (hw.2 b es clock hb)⟩
  inj:=h.inj,new:=h.new,lt:=fun s b hs=>Nat.lt_of_lt_of_le (h.lt s b hs) hw.1,apart:=h.apart}
theorem gF.refl(w):gF w w:=⟨Nat.le_refl _,fun _ _ _ _=>rfl⟩
theorem gF.below{w w'}(h:Below w.heap.size w w'):gF w w':=⟨h.size,fun b _ _ hb=>h.block b (Array.getElem?_eq_some_iff.1 hb).1⟩
theorem gF.setRow{w b cur new e fr}(hh:w.heap[b]? =some (Obj.cells cur e fr)):gF w (w.setRow b new):=⟨by simp[World.setRow],fun b' es clock hb=>by
 have:b'≠b:=fun e=>by subst e;rw[hh]at hb;cases hb
 exact setRow_other w b b' new this⟩
theorem xr{cs}:cF cs=true↔∃k e cA,cs=[.mp k e cA]:=by
 constructor
 ·intro h;unfold cF at h;split at h
  ·rename_i a;cases a<;>simp[AV.cF]at h;exact⟨_,_,_,rfl⟩
  ·cases h
 ·rintro⟨k,e,cA,rfl⟩;rfl
theorem af.iW{w S ρ cs vs}(h:af w S ρ cs vs):cF cs=false:=by
 cases hm:cF cs with
 |false=>rfl
 |true=>obtain⟨k,e,cA,rfl⟩:=xr.1 hm;obtain⟨v,r,_,h1,_⟩:=h;exact h1.elim
theorem jA.cons{P k0 w S ρ m}(h:jA P k0 w S ρ m){s cs}(hc:cF cs=false):jA P k0 w S ρ ((s,cs)::m):=
 {at':=fun s' k e cA hs=>by
    simp only[getM]at hs;split at hs
    ·cases hs;cases hc
    ·exact h.at' s' k e cA hs
  inj:=h.inj
  new:=fun s' hs=>by
   simp only[getM]at hs;split at hs
   ·cases hs
   ·exact h.new s' hs
  lt:=h.lt,apart:=h.apart}
theorem jA.RD{P k0 w S ρ bu m}(h:jA P k0 w S ρ m)(hm:bu.cO=ρ.cO)(hb:∀s b,bu.box s=some b→ρ.cO s=none):jA P k0 w S bu m:=
 {at':=fun s k e cA hs=>by
    obtain⟨b,h1,h2,h3⟩:=h.at' s k e cA hs;have hn:bu.box s=none:=by
     cases nL:bu.box s with
     |none=>rfl
     |some b'=>rw[hb s b' nL]at h1;cases h1
    exact⟨b,by rw[hm];exact h1,hn,h3⟩
  inj:=fun s s' b h1 h2=>h.inj s s' b (by rw[←hm];exact h1) (by rw[←hm];exact h2)
  new:=fun s hs=>by rw[hm];exact h.new s hs
  lt:=fun s b hs=>h.lt s b (by rw[←hm];exact hs)
  apart:=fun s b hs=>by rw[hm];exact hb s b hs}
end Go.Abs
end
section
namespace Go.Abs
open Go.RowKit
def FM:AV→Value→Bool
 |.d (.bool b),.bool b'=>b==b'
 |.d (.int k n),.int k' n'=>k==k'&&n==n'
 |.d (.str []),.string s=>s.size==0
 |.full [],.slice none 0 0=>true
 |.d .oB,.nilFunc=>true
 |.d .jY,.pointer none=>true
 |.d .oA,.nilIface=>true
 |.undef,.map none=>true
 |_,_=>false
def p8:List AV→List Value→Bool
 |[],[]=>true
 |a::as,v::vs=>FM a v&&p8 as vs
 |_,_=>false
def gQ(P:Program)(t:TypeId):Bool:=match P.underlying t with
 |some (.struct _)=>false
 |some (.array _ _)=>false
 |some _=>true
 |none=>false
def fi(P:Program):List Field→List (Nat×Nat×Bool)→Bool
 |[],[]=>true
 |f::fs,(off,sz,ag)::gs=>f.offset==off&&(match P.info? f.type with|some i=>i.size==sz&&sz !=0|none=>false)&&(gQ P f.type==!ag)&&(P.underlying f.type).isSome&&fi P fs gs
 |_,_=>false
def sI(P:Program)(t:TypeId):AV→Bool
 |.d (.int k _)=>(match P.underlying t with|some (.int k')=>k==k'|_=>false)
 |.d (.str _)=>(match P.underlying t with|some .string=>true|_=>false)
 |.d (.bool _)=>(match P.underlying t with|some .bool=>true|_=>false)
 |.d .oA=>(match P.underlying t with|some (.interface _)=>true|_=>false)
 |_=>true
def jF(P:Program)(t:TypeId):D→Bool
 |.int k _=>(match P.underlying t with|some (.int k')=>k==k'|_=>false)
 |.str _=>(match P.underlying t with|some .string=>true|_=>false)
 |.bool _=>(match P.underlying t with|some .bool=>true|_=>false)
 |_=>false
def zD:D→Value→Bool
 |.bool b,.bool b'=>b==b'
 |.int k n,.int k' n'=>k==k'&&n==n'
 |.str [],.string s=>s.size==0
 |.aw [],.slice none 0 0=>true
 |.oB,.nilFunc=>true
 |.jY,.pointer none=>true
 |.oA,.nilIface=>true
 |_,_=>false
def Nc:List D→List Value→Bool
 |[],[]=>true
 |a::as,v::vs=>zD a v&&Nc as vs
 |_,_=>false
def S6:MV→Value→Bool
 |.one x,v=>zD x v
 |.agg xs,.agg vs=>Nc xs vs.toList
 |_,_=>false
theorem Yj(w)(S){a v}(h:zD a v=true):dR w S a v:=by
 unfold zD at h;split at h
 ·simp at h;subst h;rfl
 ·simp at h;obtain⟨rfl,rfl⟩:=h;rfl
 ·simp only[beq_iff_eq]at h;obtain rfl:=ByteArray.size_eq_zero_iff.1 h;exact⟨_,rfl,rfl,by simp⟩
 ·exact⟨none,0,rfl,Nat.le_refl _,by omega,fun _=>rfl,fun a ha=>by cases ha⟩
 ·rfl
 ·rfl
 ·rfl
 ·cases h
theorem Yt(w)(S):∀{as} {vs},Nc as vs=true→aS w S as vs
 |[],[],_=>rfl
 |a::as,v::vs,h=>by simp only[Nc,Bool.and_eq_true]at h;exact⟨v,vs,rfl,Yj w S h.1,Yt w S h.2⟩
 |[],_::_,h=>by cases h
 |_::_,[],h=>by cases h
theorem yQ1(w)(S){x v}(h:S6 x v=true):lV w S x v:=by
 unfold S6 at h;split at h
 ·exact Yj w S h
 ·exact⟨_,rfl,Yt w S h⟩
 ·cases h
def BO(P:Program):Nat→List Field→List AV→Bool
 |_,[],[]=>true
 |k,f::fs,.d z::zs=>f.name != "_"&&f.offset==k&&jF P f.type z&&BO P (k+1) fs zs
 |_,_,_=>false
def sR(P:Program)(t:TypeId):AV→Bool
 |.d z=>jF P t z
 |_=>false
def yS(P:Program)(t:TypeId)(zs:List AV):Bool:=!P.eqGuardType P.depth t&&(match P.underlying t with
 |some (.struct fields)=>!P.stoodInHeld t&&BO P 0 fields.toList zs
 |some (.array m e)=>zs.length==m&&zs.all (sR P e)&&(P.info? e).isSome&&P.cellsOf e==1
 |_=>false)
def aK(P:Program)(t:TypeId):Ty→Bool
 |.cell z=>sI P t z&&gQ P t&&(match P.info? t with|some i=>(match i.zero with|some v=>FM z v|none=>false)&&i.size==1|none=>false)
 |.slice esz eb zs=>(match P.underlying t,P.info? t with
  |some (.slice e),some i=>(match i.zero with|some v=>FM (.full []) v|none=>false)&&i.size==1&&
   (match P.info? e with|some ie=>ie.size==esz&&ie.bytes==eb&&esz !=0&&(match ie.zero with|some z=>z.cells.size==esz&&(zs.isEmpty||p8 zs z.cells.toList)|none=>false)|none=>false)
  |_,_=>false)
 |.agg zs fs=>(!lj (some (.agg zs fs))||yS P t zs)&&(match P.underlying t,P.info? t with
  |some (.struct fields),some i=>(match i.zero with|some (.agg vs)=>p8 zs vs.toList|_=>false)&&i.size==zs.length&&fi P fields.toList fs
  |_,_=>false)
 |.map k e kz ez=>jF P k kz&&(match P.underlying t,P.info? t,P.info? e with
  |some (.map k' e'),some i,some ie=>k'==k&&e'==e&&i.size==1&&(match i.zero with|some (.map none)=>true|_=>false)&&(match ie.zero with|some v=>S6 ez v|none=>false)
  |_,_,_=>false)
 |.arr n esz lF zs=>(!lj (some (.arr n esz lF zs))||yS P t zs)&&(match P.underlying t,P.info? t with
  |some (.array m e),some i=>m==n&&(match i.zero with|some (.agg vs)=>p8 zs vs.toList|_=>false)&&i.size==zs.length&&(match P.info? e with|some ie=>ie.size==esz|none=>false)&&(gQ P e==!lF)&&(P.underlying e).isSome
  |_,_=>false)
abbrev TL:=List (Nat×Ty)
def l8:TL→Nat→Option Ty
 |[],_=>none
 |(k,v)::l,i=>if k=i then some v else l8 l i
def wF(P:Program):TL→Bool
 |[]=>true
 |(t,ty)::l=>aK P t ty&&wF P l
theorem K1{P}:∀{l} {t} {ty},wF P l=true→l8 l t=some ty→aK P t ty=true
 |[],_,_,_,h=>by simp[l8]at h
 |(k,v)::l,t,ty,hc,h=>by
  simp only[wF,Bool.and_eq_true]at hc;simp only[l8]at h;split at h
  ·rename_i hk;subst hk;cases h;exact hc.1
  ·exact K1 hc.2 h
theorem Yy(w)(S)(ρ):ay w S ρ (.full []) (.slice none 0 0):=
 ⟨⟨none,0,rfl,Nat.le_refl _,by omega,fun _=>rfl,fun a ha=>by cases ha⟩,none,0,rfl⟩
theorem yQ2(w)(S)(ρ){a v}(h:FM a v=true):ay w S ρ a v:=by
 unfold FM at h;split at h
 ·simp at h;subst h;rfl
 ·simp at h;obtain⟨rfl,rfl⟩:=h;rfl
 ·simp only[beq_iff_eq]at h;obtain rfl:=ByteArray.size_eq_zero_iff.1 h;exact⟨_,rfl,rfl,by simp⟩
 ·exact Yy w S ρ
 ·rfl
 ·rfl
 ·rfl
 ·trivial
 ·cases h
theorem G6(w)(S)(ρ):∀{as} {vs},p8 as vs=true→af w S ρ as vs
 |[],[],_=>rfl
 |a::as,v::vs,h=>by simp only[p8,Bool.and_eq_true]at h;exact⟨v,vs,rfl,yQ2 w S ρ h.1,G6 w S ρ h.2⟩
 |[],_::_,h=>by simp[p8]at h
 |_::_,[],h=>by simp[p8]at h
theorem zJi(w)(S)(ρ){v a}(h:mj v=some a):ay w S ρ a v:=by
 unfold mj at h;split at h
 ·cases h;rfl
 ·cases h;rfl
 ·split at h
  ·rename_i hs;cases h;exact⟨_,rfl,rfl,hs⟩
  ·cases h
 ·cases h;exact Yy w S ρ
 ·cases h;rfl
 ·cases h;rfl
 ·cases h;rfl
 ·cases h
theorem zKA(w)(S)(ρ):∀{vs} {as},vs.mapM mj=some as→af w S ρ as vs
 |[],as,h=>by simp at h;subst h;rfl
 |v::vs,as,h=>by simp only[List.mapM_cons,Option.bind_eq_bind,Option.bind_eq_some_iff,Option.pure_def,Option.some.injEq]at h;obtain⟨a,h1,bs,h2,rfl⟩:=h;exact⟨v,vs,rfl,zJi w S ρ h1,zKA w S ρ h2⟩
theorem yja(w)(S)(ρ){v a}(h:ofConst v=some a):ay w S ρ a v:=by
 unfold ofConst at h;split at h
 ·rename_i vs;rw[Option.map_eq_some_iff]at h;obtain⟨as,h1,rfl⟩:=h;exact⟨vs,rfl,zKA w S ρ h1⟩
 ·exact zJi w S ρ h
def nx:Obj→Bool
 |.cells _ _ _=>false
 |.map _ _=>false
 |_=>true
structure Ctx where
 P:Program
 G:Nat→Option (List D)
 w0:World
 S0:Safe
 N:Nat
 kp:Nat→Bool:=fun _=>false
 t0:Array Value:=#[]
 ob:List (Nat×Obj):=[]
 ds:List Deferred:=[]
 kx:Option (World×Safe):=none
 X:List Nat:=[]
 mB:List (Nat×Nat):=[]
 fI:List (Nat×Nat):=[]
def Ctx.Own(c:Ctx)(b:Nat):Prop:=c.w0.heap.size≤b∨(b∈c.X∧c.P.globals.size≤b)
theorem Ctx.G3{c:Ctx}(h:c.X=[]){b}(ho:c.Own b):c.w0.heap.size≤b:=by
 rcases ho with ho|⟨ho,_⟩
 ·exact ho
 ·rw[h]at ho;cases ho
structure dK(own:Nat→Prop)(w0 w:World):Prop where
 os:w.os=w0.os
 tape:w.tape=w0.tape
 output:w.output=w0.output
 size:w0.heap.size≤w.heap.size
 block:∀k,¬own k→w.heap[k]? =w0.heap[k]?
abbrev kn(c:Ctx)(w:World):Prop:=dK c.Own c.w0 w
theorem yyV{c:Ctx}{k}(h:¬c.Own k):k<c.w0.heap.size:=Nat.lt_of_not_le fun hk=>h (.inl hk)
theorem dK.refl(c):kn c c.w0:=⟨rfl,rfl,rfl,Nat.le_refl _,fun _ _=>rfl⟩
theorem dK.grow{c w w'}(h:kn c w)(hb:Below w.heap.size w w'):kn c w':=
 ⟨hb.os.trans h.os,hb.tape.trans h.tape,hb.output.trans h.output,Nat.le_trans h.size hb.size,fun k hk=>(hb.block k (Nat.lt_of_lt_of_le (yyV hk) h.size)).trans (h.block k hk)⟩
theorem dK.grown{c w w' row}(h:kn c w)(hg:w.grownBy w' row)(hr:∀k,row=some k→c.Own k):kn c w':=
 ⟨hg.os.trans h.os,hg.tape.trans h.tape,hg.output.trans h.output,Nat.le_trans h.size hg.size,fun k hk=>(hg.block k (Nat.lt_of_lt_of_le (yyV hk) h.size) (fun e=>hk (hr k e.symm))).trans (h.block k hk)⟩
theorem dK.below{c w}(h:kn c w)(hX:c.X=[]):Below c.w0.heap.size c.w0 w:=
 ⟨h.os,h.tape,h.output,h.size,fun k hk=>h.block k fun ho=>by have:=Ctx.G3 hX ho;omega⟩
def Ctx.D(c:Ctx)(d:Nat):Prop:=d<c.N∧c.kp d=false
def Ie(c:Ctx)(w:World)(S:Safe)(ρ:bW)(tk:List (Nat×Bool))(t:Nat)(x:Option Addr×Nat×Nat×Nat):Prop:=
 x.2.1=x.2.2.1∨∃b,x.1=some ⟨b,0,none⟩∧c.Own b∧(∃cur e,w.heap[b]? =some (.cells cur e (0,0))∧cur.size=x.2.2.1*x.2.2.2)∧x.2.1≤x.2.2.1∧x.2.2.1≤9223372036854775807∧
   (∀o,x.2.1*x.2.2.2≤o→¬S b o)∧(∀s,ρ.box s≠some b)∧∀t' b' y,t'≠t→aE tk t'=some true→ρ.tok t'=some (some ⟨b',0,none⟩,y)→y.1≠y.2.1→b'≠b
def Exact(P:Program)(G:Nat→Option (List D))(w:World):Prop:=
 P.globals.size≤w.heap.size∧∀g cs,g<P.globals.size→G g=some cs→cs≠[]→∃(vs:Array Value) (e:TypeId) (fr:Nat×Nat),w.heap[g]? =some (.cells vs e fr)∧vs.size=cs.length
theorem Exact.to{P G w w'}(h:Exact P G w)(hb:Below w.heap.size w w'):Exact P G w':=
 ⟨Nat.le_trans h.1 hb.size,fun g cs hg hG b6=>by obtain⟨vs,e,fr,h1,h2⟩:=h.2 g cs hg hG b6;exact⟨vs,e,fr,by rw[hb.block g (Nat.lt_of_lt_of_le hg h.1)];exact h1,h2⟩⟩
def pb(c:Ctx)(ρ:bW):Prop:=(∀p∈c.mB,c.N≤p.1∧∀b,ρ.box p.1=some b→b=p.2)∧∀p∈c.fI,c.N≤p.1∧∀b,ρ.cO p.1=some b→b=p.2
theorem pb.sub{c ρ bu}(h:pb c ρ)(hb:∀s b,bu.box s=some b→s<c.N∨ρ.box s=some b)(hm:∀s b,bu.cO s=some b→s<c.N∨ρ.cO s=some b):pb c bu:=
 ⟨fun p hp=>⟨(h.1 p hp).1,fun b e=>by
  have:=(h.1 p hp).1;rcases hb _ _ e with h1|h1
  ·omega
  ·exact(h.1 p hp).2 b h1⟩,fun p hp=>⟨(h.2 p hp).1,fun b e=>by
  have:=(h.2 p hp).1;rcases hm _ _ e with h1|h1
  ·omega
  ·exact(h.2 p hp).2 b h1⟩⟩
theorem pb.nil{c ρ}(h1:c.mB=[])(h2:c.fI=[]):pb c ρ:=⟨fun p hp=>(by rw[h1]at hp;cases hp),fun p hp=>(by rw[h2]at hp;cases hp)⟩
structure aN(c:Ctx)(st:St)(tmps:Array Value)(w:World)(S:Safe)(ρ:bW):Prop where
 size:tmps.size=c.N
 ae:∀k,ay w S ρ (aC st.ae k) (tmps.getD k undef)
 mem:∀s cs,getM st.mem s=some cs→cF cs=false→∃b vs e,ρ.box s=some b∧c.Own b∧w.heap[b]? =some (.cells vs e (0,0))∧af w S ρ cs vs.toList∧∀o,¬S b o
 inj:∀s s' b,ρ.box s=some b→ρ.box s'=some b→s=s'
 aQ:∀s,getM st.mem s=none→ρ.box s=none
 cL:jA c.P c.Own w S ρ st.mem
 tok:∀t,aE st.tk t=some true→∃x,ρ.tok t=some x∧Ie c w S ρ st.tk t x
 aV:∀t,aE st.tk t=none→ρ.tok t=none
 below:kn c w
 fX:∀b o,c.S0 b o→S b o
 new:∀b o,S b o→c.S0 b o∨c.Own b
 live:∀b o,S b o→∃v,w.cell? ⟨b,o,none⟩=some v
 b5:∀g cs,c.G g=some cs→aP w S g 0 cs
 fx:∀k,c.kp k=true→tmps.getD k undef=c.t0.getD k undef
 eH:∀p∈c.ob,w.heap[p.1]? =some p.2∧nx p.2=true
 keeps:∀p,c.kx=some p→aY p.1 p.2 w S
 ex:Exact c.P c.G c.w0
 pins:pb c ρ
variable{c:Ctx}{st:St}{tmps:Array Value}{w:World}{S:Safe}{ρ:bW}
theorem aN.exact(h:aN c st tmps w S ρ):Exact c.P c.G w:=
 ⟨Nat.le_trans h.ex.1 h.below.size,fun g cs hg hG b6=>by
  obtain⟨vs,e,fr,h1,h2⟩:=h.ex.2 g cs hg hG b6;refine⟨vs,e,fr,?_,h2⟩;rw[h.below.block g fun ho=>?_]
  ·exact h1
  ·rcases ho with ho|⟨_,ho⟩
   ·have:=h.ex.1;omega
   ·omega⟩
theorem qh{w:World}{b o v}(h:w.cell? ⟨b,o,none⟩=some v):b<w.heap.size:=World.block_lt_of_cell? w ⟨b,o,none⟩ h
theorem aN.iW(h:aN c st tmps w S ρ){s b cs}(hb:ρ.box s=some b)(hs:getM st.mem s=some cs):cF cs=false:=by
 cases hm:cF cs with
 |false=>rfl
 |true=>obtain⟨k,e,cA,rfl⟩:=xr.1 hm;obtain⟨_,_,h2,_⟩:=h.cL.at' s k e cA hs;rw[hb]at h2;cases h2
theorem aN.grow(h:aN c st tmps w S ρ){w' S'}(hb:Below w.heap.size w w')(hS:∀b o,S b o→S' b o)(uv:∀b o,S' b o→S b o∨w.heap.size≤b)
  (hl:∀b o,S' b o→∃v,w'.cell? ⟨b,o,none⟩=some v):aN c st tmps w' S' ρ:=by
 have hk:aY w S w' S':=fun b o hs=>by obtain⟨v,hv⟩:=h.live b o hs;exact⟨hS b o hs,hb.cell (p:=⟨b,o,none⟩) (qh hv)⟩
 have kv:∀b x,w.heap[b]? =some x→w'.heap[b]? =some x:=fun b x hx=>by rw[hb.block b (Array.getElem?_eq_some_iff.1 hx).1,hx]
 have fk:∀b x o,w.heap[b]? =some x→¬S b o→¬S' b o:=fun b x o hx hn hs=>by
  rcases uv b o hs with h1|h1
  ·exact hn h1
  ·have:=(Array.getElem?_eq_some_iff.1 hx).1;omega
 refine{size:=h.size,ae:=fun k=>(h.ae k).keep hk ρ.le_refl,mem:=?_,inj:=h.inj,aQ:=h.aQ,cL:=h.cL.to hk (.below hb),tok:=?_,aV:=h.aV,
        below:=h.below.grow hb,fX:=fun b o hs=>hS b o (h.fX b o hs),new:=?_,live:=hl,b5:=fun g cs hg=>aP.keep hk g 0 cs (h.b5 g cs hg),fx:=h.fx,ex:=h.ex,eH:=fun p hp=>⟨kv _ _ (h.eH p hp).1,(h.eH p hp).2⟩,keeps:=fun p hp=>(h.keeps p hp).trans hk,pins:=h.pins}
 ·intro s cs hs fG;obtain⟨b,vs,e,h1,h2,h3,h4,h6⟩:=h.mem s cs hs fG;exact⟨b,vs,e,h1,h2,kv _ _ h3,af.keep hk ρ.le_refl cs _ h4,fun o=>fk b _ o h3 (h6 o)⟩
 ·intro t ht;obtain⟨x,h1,h2⟩:=h.tok t ht;refine⟨x,h1,?_⟩;rcases h2 with h2|⟨b,g0,g1,⟨cur,e,g2,g3⟩,g4,g5,g7,g8,g9⟩
  ·exact .inl h2
  ·exact .inr ⟨b,g0,g1,⟨cur,e,kv _ _ g2,g3⟩,g4,g5,fun o ho=>fk b _ o g2 (g7 o ho),g8,g9⟩
 ·intro b o hs;rcases uv b o hs with h1|h1
  ·exact h.new b o h1
  ·exact .inr (.inl (Nat.le_trans h.below.size h1))
theorem aN.put(h:aN c st tmps w S ρ){d}(hD:c.D d){a v}(hv:ay w S ρ a v)(g)(hg:∀b,g=some b→b=false→v=undef):
  aN c (st.put g d a) (tmps.setIfInBounds d v) w S ρ:=by
 have hd:=hD.1;have AK:∀k,c.kp k=true→(tmps.setIfInBounds d v).getD k undef=c.t0.getD k undef:=by
  intro k hk;have b6:¬d=k:=by intro e;have h2:=hD.2;rw[e,hk]at h2;cases h2
  refine Eq.trans ?_ (h.fx k hk);simp[Array.getD_eq_getD_getElem?,b6]
 refine{h with size:=by simp[h.size],ae:=fun k=>?_,fx:=AK};simp only[St.put,aC];by_cases hk:d=k
 ·subst hk;rw[if_pos rfl];have:(tmps.setIfInBounds d v).getD d undef=v:=by simp[Array.getD_eq_getD_getElem?,h.size,hd]
  rw[this];cases g with
  |none=>exact hv
  |some b=>exact⟨fun _=>hv,fun hb=>hg b rfl hb⟩
 ·rw[if_neg hk];have:(tmps.setIfInBounds d v).getD k undef=tmps.getD k undef:=by simp[Array.getD_eq_getD_getElem?,hk]
  rw[this];exact h.ae k
theorem aN.Cm(h:aN c st tmps w S ρ){d}(hD:c.D d)(a):aN c (st.put (some false) d a) (tmps.setIfInBounds d undef) w S ρ:=by
 have hd:=hD.1;have AK:∀k,c.kp k=true→(tmps.setIfInBounds d undef).getD k undef=c.t0.getD k undef:=by
  intro k hk;have b6:¬d=k:=by intro e;have h2:=hD.2;rw[e,hk]at h2;cases h2
  refine Eq.trans ?_ (h.fx k hk);simp[Array.getD_eq_getD_getElem?,b6]
 refine{h with size:=by simp[h.size],ae:=fun k=>?_,fx:=AK};simp only[St.put,aC];by_cases hk:d=k
 ·subst hk;rw[if_pos rfl];have:(tmps.setIfInBounds d undef).getD d undef=undef:=by simp[Array.getD_eq_getD_getElem?,h.size,hd]
  rw[this];exact⟨fun hh=>by simp at hh,fun _=>rfl⟩
 ·rw[if_neg hk];have:(tmps.setIfInBounds d undef).getD k undef=tmps.getD k undef:=by simp[Array.getD_eq_getD_getElem?,hk]
  rw[this];exact h.ae k
theorem ay.strip{a v}(h:ay w S ρ a v)(hg:a.GK=true):ay w S ρ a.strip v:=by
 cases a<;>first|exact h|exact h.1 hg
theorem aN.ev(h:aN c st tmps w S ρ){x x'}(hx:bQ x=some x')(hg:gd st x'=true){ds}:ay w S ρ (ev st x') ((⟨tmps,ds⟩:Act).eval x):=by
 refine ay.strip ?_ hg;cases x with
 |tmp t=>simp[bQ]at hx;subst hx;exact h.ae t
 |const v=>simp only[bQ,Option.map_eq_some_iff]at hx;obtain⟨a,ha,rfl⟩:=hx;exact yja w S ρ ha
 |global g=>simp[bQ]at hx;subst hx;rfl
 |func f=>simp[bQ]at hx;subst hx;exact⟨#[],rfl,rfl⟩
end Go.Abs
end
section
namespace Go.Abs
open Go.RowKit
variable{c:Ctx}{st:St}{tmps:Array Value}{w:World}{S:Safe}{ρ:bW}
theorem Yw(h:aN c st tmps w S ρ){o x x' ds}(ho:o.op=.move x∨o.op=.assign x)(hx:bQ x=some x')(hg:gd st x'=true):
  ∃cv,(execOp (Act.eval ⟨tmps,ds⟩) o).run c.P w=.ok (.value cv) w∧ay w S ρ (ev st x') cv:=by
 refine⟨_,?_,h.ev hx hg (ds:=ds)⟩;unfold execOp;rcases ho with ho|ho<;>simp only[ho]<;>rfl
theorem mn{P s w w' v}(h:s.run P w=.ok v w'):(do pure (Next.value (←s)):Sem Next).run P w=.ok (.value v) w':=by
 simp[h]
theorem yQx(h:aN c st tmps w S ρ){o x y x' ds}(ho:o.op=.pick x y (.const (.bool false)))(hx:bQ x=some x')
  {p} (hp:ev st x'=.d (.bool p)) (hg:gd st x'=true) (jx:p=false):
  ∃cv,(execOp (Act.eval ⟨tmps,ds⟩) o).run c.P w=.ok (.value cv) w∧ay w S ρ (.d (.bool false)) cv:=by
 have e1:=h.ev hx hg (ds:=ds);rw[hp]at e1;refine⟨_,?_,rfl⟩;unfold execOp;simp only[ho];simp only[ay,dR]at e1;rw[e1];subst jx;simp[asBool,Act.eval]
theorem xzt(h:aN c st tmps w S ρ){o x y x' ds}(ho:o.op=.pick x (.const (.bool true)) y)(hx:bQ x=some x')
  {p} (hp:ev st x'=.d (.bool p)) (hg:gd st x'=true) (jx:p=true):
  ∃cv,(execOp (Act.eval ⟨tmps,ds⟩) o).run c.P w=.ok (.value cv) w∧ay w S ρ (.d (.bool true)) cv:=by
 have e1:=h.ev hx hg (ds:=ds);rw[hp]at e1;refine⟨_,?_,rfl⟩;unfold execOp;simp only[ho];simp only[ay,dR]at e1;rw[e1];subst jx;simp[asBool,Act.eval]
theorem xzb(h:aN c st tmps w S ρ){o x y x' y' ds}(ho:o.op=.pick x y (.const (.bool false)))(hx:bQ x=some x')(hy:bQ y=some y')
  {p q} (hp:ev st x'=.d (.bool p)) (hq:ev st y'=.d (.bool q)) (hg:gd st x'=true) (jx:p=true→gd st y'=true):
  ∃cv,(execOp (Act.eval ⟨tmps,ds⟩) o).run c.P w=.ok (.value cv) w∧ay w S ρ (.d (.bool (p&&q))) cv:=by
 have e1:=h.ev hx hg (ds:=ds);rw[hp]at e1;refine⟨_,?_,rfl⟩;unfold execOp;simp only[ho];simp only[ay,dR]at e1;rw[e1];cases p with
 |false=>simp[asBool,Act.eval]
 |true=>have e2:=h.ev hy (jx rfl) (ds:=ds);rw[hq]at e2;simp only[ay,dR]at e2;simp[asBool,e2]
theorem JR(h:aN c st tmps w S ρ){o x y x' y' ds}(ho:o.op=.pick x (.const (.bool true)) y)(hx:bQ x=some x')(hy:bQ y=some y')
  {p q} (hp:ev st x'=.d (.bool p)) (hq:ev st y'=.d (.bool q)) (hg:gd st x'=true) (jx:p=false→gd st y'=true):
  ∃cv,(execOp (Act.eval ⟨tmps,ds⟩) o).run c.P w=.ok (.value cv) w∧ay w S ρ (.d (.bool (p||q))) cv:=by
 have e1:=h.ev hx hg (ds:=ds);rw[hp]at e1;refine⟨_,?_,rfl⟩;unfold execOp;simp only[ho];simp only[ay,dR]at e1;rw[e1];cases p with
 |true=>simp[asBool,Act.eval]
 |false=>have e2:=h.ev hy (jx rfl) (ds:=ds);rw[hq]at e2;simp only[ay,dR]at e2;simp[asBool,e2]
theorem xzd(h:aN c st tmps w S ρ){o op t t' x y x' y' ds}(ho:o.op=.binOp op t x y t')(hx:bQ x=some x')(hy:bQ y=some y')
  (hg:gd st x'=true) (jx:gd st y'=true) {r} (hr:xC op (ev st x') (ev st y')=some r) (cZ:r.2):
  ∃cv,(execOp (Act.eval ⟨tmps,ds⟩) o).run c.P w=.ok (.value cv) w∧ay w S ρ r.1 cv:=by
 have e1:=h.ev hx hg (ds:=ds);have e2:=h.ev hy jx (ds:=ds);unfold execOp;simp only[ho];unfold xC at hr;split at hr
 ·rename_i k p k' q hp hq;rw[hp]at e1;rw[hq]at e2;simp only[ay,dR]at e1 e2;split at hr<;>cases hr<;>simp only at cZ;case h_12=>refine⟨_,mn (v:=_) (w':=w) ?_,rfl⟩;rw[e1,e2];simp[eqGuard_at_int,binOp,Op.shift,Int.not_lt.2 cZ]
  case h_4|h_5=>obtain⟨rfl,cZ⟩:=cZ;refine⟨_,mn (v:=_) (w':=w) ?_,rfl⟩;rw[e1,e2];simp[eqGuard_at_int,binOp,Op.intDiv,cZ]
  all_goals (subst cZ;refine⟨_,mn (v:=_) (w':=w) ?_,rfl⟩;rw[e1,e2];simp[eqGuard_at_int,binOp,Op.intArith,Op.intCmp])
 ·rename_i p q hp hq;rw[hp]at e1;rw[hq]at e2;obtain⟨bx,e1,rfl,l1⟩:=e1;obtain⟨xD,e2,rfl,l2⟩:=e2;split at hr<;>cases hr;case h_3=>
   refine⟨_,mn (v:=.string (bx++xD)) (w':=w) ?_,⟨_,rfl,by simp,?_⟩⟩
   ·rw[e1,e2];have:¬(((bx.size+xD.size:Nat):Int)>IntKind.i64.max):=by simp at cZ;simp[IntKind.max_i64];omega
    simp only[eqGuard_at_string,binOp,Op.stringOp,Sem.run_bind,Sem.run_pure,Result.andThen_ok];rw[if_neg this];rfl
   ·simp at cZ;simp;omega
  all_goals
   refine⟨_,mn (v:=_) (w':=w) ?_,rfl⟩;rw[e1,e2];simp[eqGuard_at_string,binOp,Op.stringOp,ByteArray.toList_eq]
 ·cases hr;exact cZ.elim
 ·cases hr;exact cZ.elim
 ·cases hr
theorem xzs(h:aN c st tmps w S ρ){o t x x' ds}(ho:o.op=.unOp .not t x)(hx:bQ x=some x')(hg:gd st x'=true){b}(hb:ev st x'=.d (.bool b)):
  ∃cv,(execOp (Act.eval ⟨tmps,ds⟩) o).run c.P w=.ok (.value cv) w∧ay w S ρ (.d (.bool (!b))) cv:=by
 have e1:=h.ev hx hg (ds:=ds);rw[hb]at e1;simp only[ay,dR]at e1;refine⟨.bool (!b),?_,rfl⟩;unfold execOp;simp only[ho];rw[e1];simp[Op.unary]
theorem xzq(h:aN c st tmps w S ρ){o x x' ds}(ho:o.op=.nilCheck x)(hx:bQ x=some x')(hg:gd st x'=true){s off}(hb:ev st x'=.ptr s off):
  ∃cv,(execOp (Act.eval ⟨tmps,ds⟩) o).run c.P w=.ok (.value cv) w∧ay w S ρ (.ptr s off) cv:=by
 have e1:=h.ev hx hg (ds:=ds);rw[hb]at e1;obtain⟨b,h1,h2⟩:=id e1;refine⟨_,?_,e1⟩;unfold execOp;simp only[ho];rw[h2];simp
theorem xzr(h:aN c st tmps w S ρ){o t x x' ds k}(ho:o.op=.unOp .neg t x)(hx:bQ x=some x')(hg:gd st x'=true){r}(hr:xC .sub (.d (.int k 0)) (ev st x')=some r)(cZ:r.2):
  ∃cv,(execOp (Act.eval ⟨tmps,ds⟩) o).run c.P w=.ok (.value cv) w∧ay w S ρ r.1 cv:=by
 have e1:=h.ev hx hg (ds:=ds);unfold execOp;simp only[ho];unfold xC at hr;split at hr
 ·rename_i k1 p k' q hp hq;cases hp;rw[hq]at e1;simp only[ay,dR]at e1;cases hr;simp only at cZ;subst cZ;refine⟨_,mn (v:=_) (w':=w) ?_,rfl⟩;rw[e1];simp[Op.unary,Op.intArith]
 ·rename_i hp _;cases hp
 ·rename_i hp;cases hp
 ·cases hr;exact cZ.elim
 ·cases hr
theorem xzi(h:aN c st tmps w S ρ){o x x' ds i}(ho:o.op=.extract x i)(hx:bQ x=some x')(hg:gd st x'=true){vs}(hb:ev st x'=.tup vs)(hi:i<vs.length):
  ∃cv,(execOp (Act.eval ⟨tmps,ds⟩) o).run c.P w=.ok (.value cv) w∧ay w S ρ (vs.getD i .undef) cv:=by
 have e1:=h.ev hx hg (ds:=ds);rw[hb]at e1;obtain⟨cs,e1,e2⟩:=e1;have key:∀(vs:List AV) (l:List Value) (i:Nat),i<vs.length→af w S ρ vs l→∃v,l[i]? =some v∧ay w S ρ (vs.getD i .undef) v:=by
  intro vs;induction vs with
  |nil=>intro l i hi;simp at hi
  |cons a as ih=>
   intro l i hi ⟨v,r,hl,h1,h2⟩;subst hl;cases i with
   |zero=>exact⟨v,rfl,h1⟩
   |succ i=>simpa using ih r i (by simpa using hi) h2
 obtain⟨v,hv,hr⟩:=key vs cs.toList i hi e2;refine⟨v,?_,hr⟩;have tg:cs[i]? =some v:=by simpa using hv
 unfold execOp;simp only[ho];rw[e1];simp[Instr.extract,tg]
theorem aN.ju(h:aN c st tmps w S ρ){ds}:∀{xs} {DP},mI xs=some DP→mG st DP=true→af w S ρ (ju st DP) (xs.map (Act.eval ⟨tmps,ds⟩))
 |[],DP,hx,_=>by simp[mI]at hx;subst hx;rfl
 |x::xs,DP,hx,hg=>by simp only[mI,List.mapM_cons,Option.bind_eq_bind,Option.bind_eq_some_iff,Option.pure_def,Option.some.injEq]at hx;obtain⟨a,ha,as,has,rfl⟩:=hx;simp only[mG,Bool.and_eq_true]at hg;exact⟨_,_,rfl,h.ev ha hg.1,aN.ju h has hg.2⟩
theorem YN{w S ρ}:∀{as} {ds} {vs},vG as=some ds→af w S ρ as vs→aS w S ds vs
 |[],_,_,h,hr=>by simp only[vG,Option.some.injEq]at h;subst h;exact hr
 |.d x::as,ds,vs,h,hr=>by
  simp only[vG]at h;cases h1:vG as with
  |none=>rw[h1]at h;cases h
  |some xs=>rw[h1]at h;simp only[Option.some.injEq]at h;subst h;obtain⟨v,r,e,g1,g2⟩:=hr;exact⟨v,r,e,g1,YN h1 g2⟩
theorem yQr{w S ρ f vs v}(h:ay w S ρ (.clo f vs) v):ay w S ρ (JI f vs) v:=by
 unfold JI;split
 ·rename_i ds hd;obtain⟨cs,h1,h2⟩:=h;exact⟨cs,h1,YN hd h2⟩
 ·exact h
theorem xzn(h:aN c st tmps w S ρ){o f caps xs ds}(ho:o.op=.makeFunc (.func f) #[] caps)(hx:mI caps.toList=some xs)(hg:mG st xs=true):
  ∃cv,(execOp (Act.eval ⟨tmps,ds⟩) o).run c.P w=.ok (.value cv) w∧ay w S ρ (JI f (ju st xs)) cv:=by
 refine⟨.func (.func f) #[] (caps.map (Act.eval ⟨tmps,ds⟩)),?_,yQr ⟨_,rfl,?_⟩⟩
 ·unfold execOp;simp[ho,Instr.makeFunc]
 ·simpa using h.ju hx hg
theorem xzl(h:aN c st tmps w S ρ){o x y x' y' ds tys}(ho:o.op=.call {callee:=.builtin .max,args:=#[x,y],argTypes:=tys})(hx:bQ x=some x')(hy:bQ y=some y')
  (hg:gd st x'=true) (jx:gd st y'=true) {k k'} {p q} (hp:ev st x'=.d (.int k p)) (hq:ev st y'=.d (.int k' q)):
  ∃cv,(execOp (Act.eval ⟨tmps,ds⟩) o).run c.P w=.ok (.value cv) w∧ay w S ρ (.d (.int k (if q>p then q else p))) cv:=by
 have e1:=h.ev hx hg (ds:=ds);have e2:=h.ev hy jx (ds:=ds);rw[hp]at e1;rw[hq]at e2;simp only[ay,dR]at e1 e2;refine⟨.int k (if q>p then q else p),?_,rfl⟩;unfold execOp;simp[ho,resolve,invoke,builtin,Builtin.max_,e1,e2,Builtin.max2]
theorem xzm(h:aN c st tmps w S ρ){o x y x' y' ds tys}(ho:o.op=.call {callee:=.builtin .min,args:=#[x,y],argTypes:=tys})(hx:bQ x=some x')(hy:bQ y=some y')
  (hg:gd st x'=true) (jx:gd st y'=true) {k k'} {p q} (hp:ev st x'=.d (.int k p)) (hq:ev st y'=.d (.int k' q)):
  ∃cv,(execOp (Act.eval ⟨tmps,ds⟩) o).run c.P w=.ok (.value cv) w∧ay w S ρ (.d (.int k (if q<p then q else p))) cv:=by
 have e1:=h.ev hx hg (ds:=ds);have e2:=h.ev hy jx (ds:=ds);rw[hp]at e1;rw[hq]at e2;simp only[ay,dR]at e1 e2;refine⟨.int k (if q<p then q else p),?_,rfl⟩;unfold execOp;simp[ho,resolve,invoke,builtin,Builtin.min_,e1,e2,Builtin.min2]
theorem yXE{y}(h:wh y=true):y=.const .nilIface:=by
 unfold wh at h;split at h
 ·rfl
 ·cases h
theorem Yb(h:aN c st tmps w S ρ){o op t t' ms}(hu:c.P.underlying t=some (.interface ms)){x x' ds}(ho:o.op=.binOp op t x (.const .nilIface) t')(he:isEq op=true)(hx:bQ x=some x')
  (hg:gd st x'=true) {p:Bool} (hp:ev st x'=.d (if p then .oA else .anyI)):
  ∃cv,(execOp (Act.eval ⟨tmps,ds⟩) o).run c.P w=.ok (.value cv) w∧ay w S ρ (.d (.bool (if p then !(op==.neq)else op==.neq))) cv:=by
 have e1:=h.ev hx hg (ds:=ds);rw[hp]at e1;have heq:∀v,v=(Act.eval ⟨tmps,ds⟩) x→(Op.equal t v .nilIface).run c.P w=.ok p w:=by
  intro v hv;unfold Op.equal;have:Op.maxDepth=(Op.maxDepth-1)+1:=by decide
  rw[this];unfold Op.equalIn;cases p with
  |true=>have e1:_=Value.nilIface:=e1;rw[hv,e1];simp[run_underlying hu]
  |false=>obtain⟨t1,u1,e1⟩:=e1;rw[hv,e1];simp[run_underlying hu]
 refine⟨_,?_,rfl⟩;unfold execOp;simp only[ho];refine mn (v:=_) (w':=w) ?_;have heq:=heq _ rfl;have rB:(eqGuard op t x (.const .nilIface) (Act.eval ⟨tmps,ds⟩ x) .nilIface).run c.P w=.ok () w:=by
  unfold eqGuard;cases p with
  |true=>have e1:_=Value.nilIface:=e1;rw[e1];cases op<;>simp
  |false=>obtain⟨t1,u1,e1⟩:=e1;rw[e1];cases op<;>simp
 have j6:(Act.eval ⟨tmps,ds⟩ (.const .nilIface))=.nilIface:=rfl;rw[j6];cases p with
 |true=>have e1:_=Value.nilIface:=e1;rw[e1]at heq rB⊢;cases op<;>simp[isEq]at he<;>simp[rB,binOp,heq]
 |false=>obtain⟨t1,u1,e1⟩:=e1;rw[e1]at heq rB⊢;cases op<;>simp[isEq]at he<;>simp[rB,binOp,heq]
theorem xzc(h:aN c st tmps w S ρ){o op t t'}(hu:c.P.underlying t=some .bool){x y x' y' ds}(ho:o.op=.binOp op t x y t')(he:isEq op=true)(hx:bQ x=some x')(hy:bQ y=some y')
  (hg:gd st x'=true) (jx:gd st y'=true) {p q} (hp:ev st x'=.d (.bool p)) (hq:ev st y'=.d (.bool q)):
  ∃cv,(execOp (Act.eval ⟨tmps,ds⟩) o).run c.P w=.ok (.value cv) w∧ay w S ρ (.d (.bool (if op==.neq then !(p==q)else p==q))) cv:=by
 have e1:=h.ev hx hg (ds:=ds);have e2:=h.ev hy jx (ds:=ds);rw[hp]at e1;rw[hq]at e2;simp only[ay,dR]at e1 e2;have heq:(Op.equal t (.bool p) (.bool q)).run c.P w=.ok (p==q) w:=by
  unfold Op.equal;have:Op.maxDepth=(Op.maxDepth-1)+1:=by decide
  rw[this];unfold Op.equalIn;simp[run_underlying hu]
 refine⟨_,?_,rfl⟩;unfold execOp;simp only[ho];refine mn (v:=_) (w':=w) ?_;rw[e1,e2];cases op<;>simp[isEq]at he<;>simp[eqGuard_at_bool,binOp,heq]
theorem Zh{b a v n}(h:ay w S ρ a v)(hn:lenOf b a=some n):(n:Int)≤9223372036854775807:=by
 unfold lenOf at hn;split at hn<;>cases hn
 ·obtain⟨x,_,rfl,hx⟩:=h;simp;omega
 ·obtain⟨_,cap,_,h2,h3,_⟩:=h;omega
 ·obtain⟨⟨_,cap,_,h2,h3,_⟩,_⟩:=h;omega
 ·obtain⟨⟨_,cap,_,h2,h3,_⟩,_⟩:=h;omega
 ·obtain⟨h1,h2,_⟩:=h;omega
end Go.Abs
end
section
namespace Go.Abs
open Go.RowKit
variable{c:Ctx}{st:St}{tmps:Array Value}{w:World}{S:Safe}{ρ:bW}
theorem af.length:∀{as} {l},af w S ρ as l→l.length=as.length
 |[],_,h=>by simp[af]at h;subst h;rfl
 |a::as,_,⟨v,r,h,_,h2⟩=>by subst h;simp[af.length h2]
theorem af.drop:∀{as} {l} (n),af w S ρ as l→af w S ρ (as.drop n) (l.drop n)
 |[],_,n,h=>by simp[af]at h;subst h;simp[af]
 |a::as,_,0,h=>h
 |a::as,_,n+1,⟨v,r,h,_,h2⟩=>by subst h;simpa using af.drop n h2
theorem af.take:∀{as} {l} (n),af w S ρ as l→af w S ρ (as.take n) (l.take n)
 |[],_,n,h=>by simp[af]at h;subst h;simp[af]
 |a::as,_,0,h=>by simp[af]
 |a::as,_,n+1,⟨v,r,h,h1,h2⟩=>by subst h;exact⟨v,_,rfl,h1,af.take n h2⟩
theorem af.append:∀{as bs} {l k},af w S ρ as l→af w S ρ bs k→af w S ρ (as++bs) (l++k)
 |[],_,_,_,h,h'=>by simp[af]at h;subst h;simpa using h'
 |a::as,bs,_,k,⟨v,r,h,h1,h2⟩,h'=>by subst h;exact⟨v,_,rfl,h1,af.append h2 h'⟩
theorem aS.r9:∀{ds} {l},aS w S ds l→af w S ρ (ds.map .d) l
 |[],_,h=>h
 |d::ds,_,⟨v,r,h,h1,h2⟩=>⟨v,r,h,h1,aS.r9 h2⟩
theorem aS.length:∀{ds} {l},aS w S ds l→l.length=ds.length
 |[],_,h=>by simp[aS]at h;subst h;rfl
 |a::as,_,⟨v,r,h,_,h2⟩=>by subst h;simp[aS.length h2]
theorem aS.xc:∀{ds} {l},aS w S ds l→∀u∈l,u.oneCell'=true
 |[],_,h=>by simp[aS]at h;subst h;simp
 |a::as,_,⟨v,r,h,h1,h2⟩=>by
  subst h;intro u hu;rcases List.mem_cons.1 hu with rfl|hu
  ·exact h1.one
  ·exact aS.xc h2 u hu
theorem aS.append:∀{as bs} {l k},aS w S as l→aS w S bs k→aS w S (as++bs) (l++k)
 |[],_,_,_,h,h'=>by simp[aS]at h;subst h;simpa using h'
 |a::as,bs,_,k,⟨v,r,h,h1,h2⟩,h'=>by subst h;exact⟨v,_,rfl,h1,aS.append h2 h'⟩
theorem aP.drop:∀{ds} {b o} (n),aP w S b o ds→aP w S b (o+n) (ds.drop n)
 |[],_,_,n,_=>by simp[aP]
 |d::ds,_,_,0,h=>h
 |d::ds,b,o,n+1,h=>by have:=aP.drop n h.2;rw[show o+(n+1)=o+1+n by omega];exact this
theorem aP.take:∀{ds} {b o} (n),aP w S b o ds→aP w S b o (ds.take n)
 |[],_,_,n,_=>by simp[aP]
 |d::ds,_,_,0,h=>by simp[aP]
 |d::ds,b,o,n+1,h=>⟨h.1,aP.take n h.2⟩
theorem aP.append:∀{ds es} {b o},aP w S b o ds→aP w S b (o+ds.length) es→aP w S b o (ds++es)
 |[],_,_,_,_,h=>h
 |d::ds,es,b,o,h,h'=>⟨h.1,aP.append h.2 (by rw[show o+1+ds.length=o+(d::ds).length by simp;omega];exact h')⟩
theorem aP.values:∀{ds} {b o},aP w S b o ds→∃l:List Value,aS w S ds l∧(∀j v,l[j]? =some v→w.cell? ⟨b,o+j,none⟩=some v∧S b (o+j))
 |[],_,_,_=>⟨[],rfl,by simp⟩
 |d::ds,b,o,⟨⟨hs,v,hc,hr⟩,h2⟩=>by
  obtain⟨l,h3,h4⟩:=aP.values h2;refine⟨v::l,⟨v,l,rfl,hr,h3⟩,fun j u hj=>?_⟩;cases j with
  |zero=>simp at hj;subst hj;exact⟨hc,hs⟩
  |succ j=>have:=h4 j u (by simpa using hj);rwa [show o+1+j=o+(j+1) by omega]at this
theorem aP.Ct:∀{ds} {l} {b o},aS w S ds l→(∀j v,l[j]? =some v→w.cell? ⟨b,o+j,none⟩=some v∧S b (o+j))→aP w S b o ds
 |[],_,_,_,_,_=>trivial
 |d::ds,_,b,o,⟨v,r,h,h1,h2⟩,hc=>by
  subst h;refine⟨⟨(hc 0 v rfl).2,v,(hc 0 v rfl).1,h1⟩,aP.Ct h2 fun j u hj=>?_⟩;have:=hc (j+1) u (by simpa using hj)
  rwa [show o+(j+1)=o+1+j by omega]at this
theorem bY.get:∀{es} {b o sz} (i),(∀e∈es,e.length=sz)→bY w S b o es→i<es.length→aP w S b (o+i*sz) (es.getD i [])
 |[],_,_,_,i,_,_,h=>by simp at h
 |e::es,b,o,sz,0,_,h,_=>by simpa using h.1
 |e::es,b,o,sz,i+1,hl,h,hi=>by have:=bY.get i (fun x hx=>hl x (by simp[hx])) h.2 (by simpa using hi);rw[hl e (by simp)]at this;rw[show o+(i+1)*sz=o+sz+i*sz by rw[Nat.succ_mul];omega];simpa using this
theorem bY.flat:∀{es} {b o},bY w S b o es↔aP w S b o es.flatten
 |[],_,_=>by simp[bY,aP]
 |e::es,b,o=>by
  simp only[bY,List.flatten_cons];constructor
  ·rintro⟨h1,h2⟩;exact aP.append h1 (bY.flat.1 h2)
  ·intro h;refine⟨?_,bY.flat.2 ?_⟩
   ·have:=aP.take e.length h;simpa using this
   ·have:=aP.drop e.length h;simpa using this
theorem GD{α:Type}{sz}:∀{es:List (List α)},(∀e∈es,e.length=sz)→es.flatten.length=es.length*sz
 |[],_=>by simp
 |e::es,h=>by rw[List.flatten_cons,List.length_append,h e (by simp),GD fun x hx=>h x (by simp[hx]),List.length_cons,Nat.succ_mul];omega
def Through(w:World)(S:Safe)(ρ:bW)(m:Mem):Prop:=∀s cs,getM m s=some cs→cF cs=false→∃b l,ρ.box s=some b∧af w S ρ cs l∧∀j v,l[j]? =some v→w.cell? ⟨b,j,none⟩=some v∧S b j
theorem xX:Through w S ρ []:=fun s cs h=>by simp[getM]at h
theorem Nl{f}(hf:∀a v x,ay w S ρ a v→f a=some x→dR w S x v):∀{as} {l} {xs},af w S ρ as l→as.mapM f=some xs→aS w S xs l
 |[],_,xs,h,hx=>by simp at hx;subst hx;exact h
 |a::as,_,xs,⟨v,r,h,h1,h2⟩,hx=>by simp only[List.mapM_cons,Option.bind_eq_bind,Option.bind_eq_some_iff,Option.pure_def,Option.some.injEq]at hx;obtain⟨x,Ra,ys,jT,rfl⟩:=hx;exact⟨v,r,h,hf a v x h1 Ra,Nl hf h2 jT⟩
theorem TW(esz):∀(n) (xs),(chunk esz n xs).length=n
 |0,_=>rfl
 |n+1,xs=>by simp[chunk,TW esz n]
theorem zWY(esz):∀(n) (xs),xs.length=n*esz→(chunk esz n xs).flatten=xs
 |0,xs,h=>by simp at h;subst h;rfl
 |n+1,xs,h=>by
  have:(xs.drop esz).length=n*esz:=by rw[List.length_drop,h,Nat.succ_mul];omega
  simp only[chunk,List.flatten_cons,zWY esz n _ this,List.take_append_drop]
theorem Z2(esz):∀(n) (xs),xs.length=n*esz→∀e∈chunk esz n xs,e.length=esz
 |0,_,_,e,he=>by simp[chunk]at he
 |n+1,xs,h,e,he=>by
  have h1:(xs.drop esz).length=n*esz:=by rw[List.length_drop,h,Nat.succ_mul];omega
  simp only[chunk,List.mem_cons]at he;rcases he with rfl|he
  ·rw[List.length_take,h,Nat.succ_mul];omega
  ·exact Z2 esz n _ h1 e he
theorem mapM_length{f}:∀{as:List AV} {xs:List D},as.mapM f=some xs→xs.length=as.length
 |[],xs,h=>by simp at h;subst h;rfl
 |a::as,xs,h=>by simp only[List.mapM_cons,Option.bind_eq_bind,Option.bind_eq_some_iff,Option.pure_def,Option.some.injEq]at h;obtain⟨x,_,ys,jT,rfl⟩:=h;simp[mapM_length jT]
theorem G2{m}(hm:Through w S ρ m):∀(n) (a) (v) (x),ay w S ρ a v→AV.mH m n a=some x→dR w S x v:=by
 intro n;induction n with
 |zero=>intro a v x h hx;cases a<;>simp[AV.mH]at hx<;>subst hx<;>first|exact h|exact h.1
 |succ n ih=>
  intro a v x h hx;cases a<;>simp only[AV.mH,Option.some.injEq,reduceCtorEq]at hx;case d=>subst hx;exact h
  case full=>subst hx;exact h.1
  case own=>subst hx;exact h.1
  case clo f caps=>
   obtain⟨cs,h1,h2⟩:=h;split at hx
   ·rename_i ys jT;cases hx;exact⟨cs,h1,Nl (fun a v x=>ih a v x) h2 jT⟩
   ·cases hx
  case ptr s off=>
   obtain⟨b,h1,h2⟩:=h;split at hx
   ·rename_i cs dU;split at hx
    ·rename_i ys jT;cases hx;cases sZ:cF cs with
     |true=>
      obtain⟨k,e,cA,rfl⟩:=xr.1 sZ;cases off with
      |zero=>simp[AV.mH]at jT;cases n<;>simp[AV.mH]at jT
      |succ off=>simp at jT;subst jT;exact⟨b,_,h2,trivial⟩
     |false=>
     obtain⟨b',l,h3,h4,h5⟩:=hm s cs dU sZ;obtain rfl:=Option.some.inj (h1.symm.trans h3);refine⟨b,off,h2,aP.Ct (Nl (fun a v x=>ih a v x) (af.drop off h4) jT) fun j v hj=>?_⟩;have:=h5 (off+j) v (by simpa using hj);exact this
    ·cases hx
   ·cases hx
  case vec s esz off len cap=>
   obtain⟨k1,k2,b,h1,h2⟩:=h;split at hx
   ·rename_i cs dU;split at hx
    ·rename_i hle;split at hx
     ·rename_i ys jT;cases hx;have Du:ys.length=len*esz:=by rw[mapM_length jT,List.length_take,List.length_drop];omega
      refine⟨some ⟨b,off,none⟩,cap,by rw[TW];exact h2,by rw[TW];exact k1,k2,fun e=>(by cases e),?_⟩
      rintro a ha
      cases ha;refine⟨fun _=>rfl,⟨esz,Z2 esz len ys Du⟩,bY.flat.2 ?_⟩;rw[zWY esz len ys Du];cases sZ:cF cs with
      |true=>
       obtain⟨k,e,cA,rfl⟩:=xr.1 sZ;cases zQ:((List.drop off [AV.mp k e cA]).take (len*esz))with
       |nil=>rw[zQ]at jT;simp at jT;subst jT;trivial
       |cons q qs=>
        exfalso;rw[zQ]at jT;have:q=AV.mp k e cA:=by
         have hm:q∈(List.drop off [AV.mp k e cA]).take (len*esz):=by rw[zQ];simp
         have:=List.mem_of_mem_drop (List.mem_of_mem_take hm);simpa using this
        subst this;simp only[List.mapM_cons,Option.bind_eq_bind,Option.bind_eq_some_iff]at jT;obtain⟨x,Ra,_⟩:=jT;cases n<;>simp[AV.mH]at Ra
      |false=>
      obtain⟨b',l,h3,h4,h5⟩:=hm s cs dU sZ;obtain rfl:=Option.some.inj (h1.symm.trans h3);refine aP.Ct (Nl (fun a v x=>ih a v x) (af.take _ (af.drop off h4)) jT) fun j v hj=>?_;have tW:l[off+j]? =some v:=by
       rw[List.getElem?_take]at hj;split at hj
       ·simpa using hj
       ·cases hj
      exact h5 (off+j) v tW
     ·cases hx
    ·cases hx
   ·cases hx
theorem Cx{m}(hm:Through w S ρ m)(n):∀{as} {l} {xs},af w S ρ as l→j0 m n as=some xs→aS w S xs l
 |[],_,xs,h,hx=>by simp[j0]at hx;subst hx;exact h
 |a::as,_,xs,⟨v,r,h,h1,h2⟩,hx=>by
  simp only[j0]at hx;split at hx
  ·rename_i y ys hy jT;cases hx;exact⟨v,r,h,G2 hm n a v y h1 hy,Cx hm n h2 jT⟩
  ·cases hx
theorem Z1{a v}(h:ay w S ρ a v)(ha:a≠.undef)(hc:∀g x,a≠.cond g x):af w S ρ a.cells v.cells.toList:=by
 cases a<;>simp only[AV.cells];case undef=>exact(ha rfl).elim
 case cond g x=>exact(hc g x rfl).elim
 case agg cs=>obtain⟨vs,rfl,h⟩:=h;exact h
 case d x=>have:=dR.one h;cases v<;>simp[Value.oneCell']at this<;>exact⟨_,_,rfl,h,rfl⟩
 case tup cs=>obtain⟨vs,rfl,h⟩:=h;exact⟨_,_,rfl,⟨vs,rfl,h⟩,rfl⟩
 case ptr=>obtain⟨b,h1,rfl⟩:=h;exact⟨_,_,rfl,⟨b,h1,rfl⟩,rfl⟩
 case full=>obtain⟨h1,base,n,rfl⟩:=h;exact⟨_,_,rfl,⟨h1,base,n,rfl⟩,rfl⟩
 case own=>obtain⟨h1,h2,base,n,cap,h3,rfl⟩:=h;exact⟨_,_,rfl,⟨h1,h2,base,n,cap,h3,rfl⟩,rfl⟩
 case clo=>obtain⟨cs,rfl,h⟩:=h;exact⟨_,_,rfl,⟨cs,rfl,h⟩,rfl⟩
 case mref=>obtain⟨b,h1,rfl⟩:=h;exact⟨_,_,rfl,⟨b,h1,rfl⟩,rfl⟩
 case mp=>exact h.elim
 case vec=>obtain⟨k1,k2,b,h1,rfl⟩:=h;exact⟨_,_,rfl,⟨k1,k2,b,h1,rfl⟩,rfl⟩
 case zsl=>obtain⟨e,h1,base,cap,rfl,h3⟩:=h;exact⟨_,_,rfl,⟨e,h1,base,cap,rfl,h3⟩,rfl⟩
 case pnd=>obtain⟨h1,base,n,cap,h2,h3,h4,rfl⟩:=h;exact⟨_,_,rfl,⟨h1,base,n,cap,h2,h3,h4,rfl⟩,rfl⟩
 case eptr=>obtain⟨b,n,cap,h2,h3,rfl⟩:=h;exact⟨_,_,rfl,⟨b,n,cap,h2,h3,rfl⟩,rfl⟩
end Go.Abs
end
section
namespace Go.Abs
open Go.RowKit
variable{c:Ctx}{st:St}{tmps:Array Value}{w:World}{S:Safe}{ρ:bW}
theorem addr_add(b o n):(⟨b,o,none⟩:Addr).add n=⟨b,o+n,none⟩:=by unfold Addr.add;split<;>simp_all
theorem Ny{P t}(w){ag}(h:gQ P t=!ag)(hs:(P.underlying t).isSome=true):(isAgg t).run P w=.ok ag w:=by
 unfold gQ at h;cases hu:P.underlying t with
 |none=>simp[hu]at hs
 |some d=>simp only[hu]at h;simp only[isAgg,Sem.run_bind,run_underlying hu,Result.andThen_ok];cases d<;>cases ag<;>first|rfl|exact Bool.noConfusion (show true=false from h)|exact Bool.noConfusion (show false=true from h)
theorem run_sizeOf{P t i}(h:P.info? t=some i)(w):(sizeOf t).run P w=.ok i.size w:=by simp[sizeOf,typeInfo,h]
theorem Ki{P t i v}(h:P.info? t=some i)(hz:i.zero=some v)(w):(zeroValue t).run P w=.ok v w:=by simp[zeroValue,typeInfo,h,hz]
theorem FP{P t ty}(h:aK P t ty=true):∃i v,P.info? t=some i∧i.zero=some v∧i.size=dd ty∧gQ P t=!gv ty∧(P.underlying t).isSome=true∧p8 (tD ty) v.cells.toList=true:=by
 cases ty with
 |cell z=>
  simp only[aK,Bool.and_eq_true]at h;obtain⟨⟨h0,h1⟩,h2⟩:=h;have hu:(P.underlying t).isSome=true:=by unfold gQ at h1;cases hu:P.underlying t<;>simp_all
  cases hi:P.info? t with
  |none=>simp[hi]at h2
  |some i=>
   simp only[hi,Bool.and_eq_true,beq_iff_eq]at h2;cases hz:i.zero with
   |none=>simp[hz]at h2
   |some v=>
    simp only[hz]at h2;refine⟨i,v,rfl,hz,h2.2,by simp[h1,gv],hu,?_⟩;have:v.cells.toList=[v]:=by have h3:=h2.1;unfold FM at h3;split at h3<;>first|rfl|simp at h3
    simp[tD,this,p8,h2.1]
 |slice esz eb zs=>
  simp only[aK]at h;split at h
  ·rename_i e i hu hi;simp only[Bool.and_eq_true,beq_iff_eq]at h;obtain⟨⟨h1,h2⟩,h3⟩:=h;cases hz:i.zero with
   |none=>simp[hz]at h1
   |some v=>
    simp only[hz]at h1;refine⟨i,v,hi,hz,h2,by simp[gQ,hu,gv],by simp[hu],?_⟩;have:v.cells.toList=[v]:=by unfold FM at h1;split at h1<;>first|rfl|simp at h1
    simp[tD,this,p8,h1]
  ·cases h
 |agg zs fs=>
  simp only[aK,Bool.and_eq_true]at h;obtain⟨_,h⟩:=h;split at h
  ·rename_i fields i hu hi;simp only[Bool.and_eq_true,beq_iff_eq]at h;obtain⟨⟨h1,h2⟩,h3⟩:=h;split at h1
   ·rename_i vs hz;exact⟨i,.agg vs,hi,hz,h2,by simp[gQ,hu,gv],by simp[hu],h1⟩
   ·cases h1
  ·cases h
 |map k e kz ez=>
  simp only[aK,Bool.and_eq_true]at h;obtain⟨_,h⟩:=h;split at h
  ·rename_i k' e' i ie hu hi fp;simp only[Bool.and_eq_true,beq_iff_eq]at h;obtain⟨⟨⟨h0,h1⟩,h2⟩,h3⟩:=h;split at h2
   ·rename_i hz;exact⟨i,.map none,hi,hz,h1,by simp[gQ,hu,gv],by simp[hu],rfl⟩
   ·cases h2
  ·cases h
 |arr n esz lF zs=>
  simp only[aK,Bool.and_eq_true]at h;obtain⟨_,h⟩:=h;split at h
  ·rename_i m e i hu hi;simp only[Bool.and_eq_true,beq_iff_eq]at h;obtain⟨⟨⟨⟨⟨h0,h1⟩,h2⟩,h3⟩,h4⟩,h5⟩:=h;split at h1
   ·rename_i vs hz;exact⟨i,.agg vs,hi,hz,h2,by simp[gQ,hu,gv],by simp[hu],h1⟩
   ·cases h1
  ·cases h
theorem yzC{P t ty}(h:aK P t ty=true){b o l}(hl:l.length=dd ty)(hc:∀j v,l[j]? =some v→w.cell? ⟨b,o+j,none⟩=some v):
  ∃v,(loadVar t ⟨b,o,none⟩).run P w=.ok v w∧(if gv ty then v=.agg l.toArray else l=[v]):=by
 obtain⟨i,z,hi,_,cU,B5,hu,_⟩:=FP h;simp only[loadVar,Sem.run_bind,Ny w B5 hu,Result.andThen_ok];cases pg:gv ty with
 |true=>have:=run_loadCells_list (P:=P) w ⟨b,o,none⟩ l (fun j v hj=>by rw[addr_add];exact hc j v hj);exact⟨.agg l.toArray,by simp[run_sizeOf hi,cU,←hl,this],rfl⟩
 |false=>
  have h1:dd ty=1:=by cases ty<;>simp_all[gv,dd]
  obtain⟨v,rfl⟩:=List.length_eq_one_iff.1 (hl.trans h1);refine⟨v,?_,rfl⟩;have:=hc 0 v rfl;simp only[Nat.add_zero]at this;simp[this]
theorem JQ(h:aN c st tmps w S ρ){o t ty}(ht:aK c.P t ty=true){x x' ds}(ho:o.op=.load t x)(hx:bQ x=some x')(hg:gd st x'=true)
  {r} (hr:eW c.G st (.ld 0 (gv ty) (dd ty) x')=some r) (cZ:r.2.1):
  ∃cv,(execOp (Act.eval ⟨tmps,ds⟩) o).run c.P w=.ok (.value cv) w∧ay w S ρ r.1 cv:=by
 have e1:=h.ev hx hg (ds:=ds);have fin:∀(b off:Nat) (l:List Value) (as:List AV),af w S ρ as l→l.length=dd ty→(∀j v,l[j]? =some v→w.cell? ⟨b,off+j,none⟩=some v)→
   (Act.eval ⟨tmps,ds⟩ x)=.pointer (some ⟨b,off,none⟩)→∃cv,(execOp (Act.eval ⟨tmps,ds⟩) o).run c.P w=.ok (.value cv) w∧ay w S ρ (so (gv ty) as) cv:=by
  intro b off l as xN hlen hc hv;obtain⟨v,aB,lD⟩:=yzC (w:=w) ht hlen hc;refine⟨v,?_,?_⟩
  ·unfold execOp;simp only[ho,hv];simp[Instr.loadAt,Instr.sureAddr,aB]
  ·cases pg:gv ty with
   |true=>simp only[pg,if_true]at lD;subst lD;exact⟨_,rfl,by simpa using xN⟩
   |false=>
    simp only[pg,Bool.false_eq_true,if_false]at lD;subst lD;cases as with
    |nil=>simp[af]at xN
    |cons a as=>obtain⟨v',r',h1,h2,h3⟩:=xN;cases h1;exact h2
 simp only[eW]at hr;split at hr
 ·rename_i s off j6;rw[j6]at e1;obtain⟨b,hb,hv⟩:=e1;split at hr
  ·rename_i cs dU;cases hr;unfold eO at dU;split at dU
   ·rename_i bx oe;split at dU
    ·rename_i bf;cases dU;obtain⟨b',vs,e,h1,h2,h3,h4,h6⟩:=h.mem s bx oe (h.iW hb oe);obtain rfl:=Option.some.inj (hb.symm.trans h1);have hlen:=af.length h4;refine fin b off _ _ (af.take (dd ty) (af.drop off h4)) (by simp at hlen⊢;omega) (fun j v hj=>?_) hv;rw[List.getElem?_take]at hj;split at hj
     ·simp only[List.getElem?_drop]at hj;simp[World.cell?,h3];simpa using hj
     ·cases hj
    ·cases dU
   ·cases dU
  ·cases hr
 ·rename_i cs j6;rw[j6]at e1;obtain⟨b,off,hv,dU⟩:=e1;obtain⟨l,l9,fE⟩:=aP.values dU;cases pg:gv ty with
  |true=>
   simp only[pg,if_true]at hr;cases hr;simp only at cZ;have xN:=af.take (ρ:=ρ) (dd ty) (aS.r9 (ρ:=ρ) l9);have:=fin b off (l.take (dd ty)) _ xN (by have:=aS.length l9;simp;omega) (fun j v hj=>by
    rw[List.getElem?_take]at hj;split at hj
    ·exact(fE j v hj).1
    ·cases hj) hv
   rw[pg]at this;rw[←List.map_take]at this;exact this
  |false=>
   simp only[pg,Bool.false_eq_true,if_false]at hr;cases cs with
   |nil=>cases hr;exact cZ.elim
   |cons d ds'=>
    cases hr;obtain⟨v,r',h1,h2,h3⟩:=l9;subst h1;have cU:dd ty=1:=by cases ty<;>simp_all[gv,dd]
    have:=fin b off [v] [.d d] ⟨v,[],rfl,h2,rfl⟩ (by simp[cU]) (fun j u hj=>by
     cases j with
     |zero=>simp at hj;subst hj;exact(fE 0 v rfl).1
     |succ j=>simp at hj) hv
    rw[pg]at this;exact this
 ·rename_i g off j6;rw[j6]at e1;split at hr
  ·rename_i cs dU;have pj:=h.b5 g cs dU;have Qs:=aP.drop off pj;obtain⟨l,l9,fE⟩:=aP.values Qs;simp only[Nat.zero_add]at fE;cases pg:gv ty with
   |true=>
    simp only[pg,if_true]at hr;cases hr;simp only at cZ;have xN:=af.take (ρ:=ρ) (dd ty) (aS.r9 (ρ:=ρ) l9);have:=fin g off (l.take (dd ty)) _ xN (by have:=aS.length l9;simp at this⊢;omega) (fun j v hj=>by
     rw[List.getElem?_take]at hj;split at hj
     ·exact(fE j v hj).1
     ·cases hj) e1
    rw[pg]at this;rw[←List.map_take]at this;exact this
   |false=>
    simp only[pg,Bool.false_eq_true,if_false]at hr;split at hr
    ·rename_i d ds' B0;cases hr;rw[B0]at l9;obtain⟨v,r',h1,h2,h3⟩:=l9;subst h1;have cU:dd ty=1:=by cases ty<;>simp_all[gv,dd]
     have:=fin g off [v] [.d d] ⟨v,[],rfl,h2,rfl⟩ (by simp[cU]) (fun j u hj=>by
      cases j with
      |zero=>simp at hj;subst hj;exact(fE 0 v rfl).1
      |succ j=>simp at hj) e1
     rw[pg]at this;exact this
    ·cases hr
  ·cases hr
 ·cases hr
theorem TZ{P}:∀{fs} {gs} {i:Nat} {g},fi P fs gs=true→gs[i]? =some g→
  ∃f ti,fs[i]? =some f∧f.offset=g.1∧P.info? f.type=some ti∧ti.size=g.2.1∧ti.size≠0∧gQ P f.type=!g.2.2∧(P.underlying f.type).isSome=true
 |[],[],i,g,_,h=>by simp at h
 |f::fs,(off,sz,ag)::gs,i,g,hk,h=>by
  simp only[fi,Bool.and_eq_true,beq_iff_eq]at hk;obtain⟨⟨⟨⟨h1,h2⟩,h3⟩,h4⟩,h5⟩:=hk;cases i with
  |zero=>
   simp at h;subst h;cases hi:P.info? f.type with
   |none=>simp[hi]at h2
   |some ti=>simp only[hi,Bool.and_eq_true,beq_iff_eq,bne_iff_ne]at h2;exact⟨f,ti,rfl,h1,hi,h2.1,by rw[h2.1];exact h2.2,h3,h4⟩
  |succ i=>simpa using TZ h5 (by simpa using h)
 |[],_::_,_,_,h,_=>by simp[fi]at h
 |_::_,[],_,_,h,_=>by simp[fi]at h
theorem SG{P t zs fs}(h:aK P t (.agg zs fs)=true):∃fields,P.underlying t=some (.struct fields)∧fi P fields.toList fs=true:=by
 simp only[aK,Bool.and_eq_true]at h;obtain⟨_,h⟩:=h;split at h
 ·rename_i fields i hu hi;simp only[Bool.and_eq_true]at h;exact⟨fields,hu,h.2⟩
 ·cases h
theorem JN(h:aN c st tmps w S ρ){o t zs fs}(ht:aK c.P t (.agg zs fs)=true){x x' i fd ds}
  (ho:o.op=.fieldAddr t x i) (hx:bQ x=some x') (EV:fs[i]? =some fd) (hg:gd st x'=true) {r} (hr:eW c.G st (.fa 0 fd.1 x')=some r) (cZ:r.2.1):
  ∃cv,(execOp (Act.eval ⟨tmps,ds⟩) o).run c.P w=.ok (.value cv) w∧ay w S ρ r.1 cv:=by
 have e1:=h.ev hx hg (ds:=ds);obtain⟨fields,hu,wN⟩:=SG ht;obtain⟨f,ti,hf,Ca,xO,_,Mv,_,_⟩:=TZ wN EV;have A3:fields[i]? =some f:=by simpa using hf
 have run:∀b off,(Act.eval ⟨tmps,ds⟩ x)=.pointer (some ⟨b,off,none⟩)→(execOp (Act.eval ⟨tmps,ds⟩) o).run c.P w=.ok (.value (.pointer (some ⟨b,off+fd.1,none⟩))) w:=by intro b off hv;unfold execOp;simp only[ho,hv];simp[Instr.fieldAt,run_underlying hu,A3,Instr.sureAddr,fieldPlace,run_sizeOf xO,Mv,addr_add,Ca]
 simp only[eW]at hr;split at hr
 ·rename_i s off j6;cases hr;rw[j6]at e1;obtain⟨b,hb,hv⟩:=e1;exact⟨_,run b off hv,b,hb,rfl⟩
 ·rename_i cs j6;cases hr;rw[j6]at e1;obtain⟨b,off,hv,dU⟩:=e1;exact⟨_,run b off hv,b,_,rfl,aP.drop fd.1 dU⟩
 ·rename_i g off j6;cases hr;rw[j6]at e1;exact⟨_,run g off e1,rfl⟩
 ·cases hr
theorem FU{a v es}(h:ay w S ρ a v)(he:a.elems=some es):dR w S (.aw es) v:=by
 unfold AV.elems at he;split at he<;>cases he
 ·exact h
 ·exact h.1
 ·exact h.1
theorem tO{P t esz eb zs}(h:aK P t (.slice esz eb zs)=true):∃e ie z,P.underlying t=some (.slice e)∧P.info? e=some ie∧ie.size=esz∧ie.bytes=eb∧esz≠0∧ie.zero=some z∧z.cells.size=esz:=by
 simp only[aK]at h;split at h
 ·rename_i e i hu hi;simp only[Bool.and_eq_true]at h;obtain⟨⟨h1,h2⟩,h3⟩:=h;cases fp:P.info? e with
  |none=>simp[fp]at h3
  |some ie=>
   simp only[fp,Bool.and_eq_true,beq_iff_eq,bne_iff_ne]at h3;obtain⟨⟨⟨g1,g2⟩,g3⟩,g4⟩:=h3;cases hz:ie.zero with
   |none=>simp[hz]at g4
   |some z=>simp only[hz,Bool.and_eq_true,beq_iff_eq]at g4;exact⟨e,ie,z,hu,fp,g1,g2,g3,hz,g4.1⟩
 ·cases h
theorem yzE{P t e esz eb zs ie z}(h:aK P t (.slice esz eb zs)=true)(hu:P.underlying t=some (.slice e))(hi:P.info? e=some ie)(hz:ie.zero=some z)(b6:zs≠[]):p8 zs z.cells.toList=true:=by
 simp only[aK,hu]at h;split at h
 ·rename_i e' i lQ vf;cases lQ;simp only[Bool.and_eq_true,hi,hz,Bool.or_eq_true,List.isEmpty_iff]at h;exact h.2.2.2.resolve_left b6
 ·cases h
theorem xzk(h:aN c st tmps w S ρ){o t esz eb zs}(ht:aK c.P t (.slice esz eb zs)=true){x y x' y' ds}
  (ho:o.op=.indexAddr t x y) (hx:bQ x=some x') (hy:bQ y=some y') (hg:gd st x'=true) (jx:gd st y'=true) {es} {k} {n}
  (he:(ev st x').elems=some es) (hn:ev st y'=.d (.int k n)) (cZ:(0≤n∧n<es.length)∧∀e∈es,e.length=esz):
  ∃cv,(execOp (Act.eval ⟨tmps,ds⟩) o).run c.P w=.ok (.value cv) w∧ay w S ρ (.d (.ref (es.getD n.toNat []))) cv:=by
 have e1:=FU (h.ev hx hg (ds:=ds)) he;have e2:=h.ev hy jx (ds:=ds);rw[hn]at e2;simp only[ay,dR]at e2;obtain⟨e,ie,z,hu,fp,h1,_,h3,_⟩:=tO ht;obtain⟨base,cap,hv,oO,mu,IJ,IK⟩:=e1;obtain⟨⟨Xy,A6⟩,cT⟩:=cZ;cases base with
 |none=>have:=IJ rfl;omega
 |some a=>obtain⟨gy,_,fW⟩:=IK a rfl;have gy:=gy (by omega);obtain⟨b,off,sp⟩:=a;simp only at gy fW;subst gy;refine⟨.pointer (some ⟨b,off+n.toNat*esz,none⟩),?_,⟨b,_,rfl,bY.get n.toNat cT fW (by omega)⟩⟩;unfold execOp;simp only[ho,hv,e2];simp[Instr.indexAt,asIntOf,run_underlying hu,run_sizeOf fp,h1,addr_add,Xy,A6]
end Go.Abs
end
section
namespace Go.Abs
open Go.RowKit
variable{c:Ctx}{st:St}{tmps:Array Value}{w:World}{S:Safe}{ρ:bW}
theorem Oa{a v}(h:ay w S ρ a v)(hs:a.mT=true):af w S ρ a.cells v.cells.toList:=by
 refine Z1 h ?_ ?_
 ·rintro rfl;cases hs
 ·rintro g x rfl;cases hs
theorem zX3:∀(xs) (k off) (cells:Array Value),off+k+xs.length≤cells.size→
  ((xs.zipIdx k).foldl (fun(cs:Array Value) (p:Value×Nat)=>cs.setIfInBounds (off+p.2) p.1) cells).toList=cells.toList.take (off+k)++xs++cells.toList.drop (off+k+xs.length)
 |[],k,off,cells,_=>by simp
 |x::xs,k,off,cells,h=>by simp only[List.zipIdx_cons,List.foldl_cons];rw[zX3 xs (k+1) off _ (by simp at h⊢;omega)];simp only[Array.toList_setIfInBounds];have e:=list_seg_step cells.toList (off+k) x xs (by simp at h⊢;omega);simpa[Nat.add_assoc]using e
theorem Y4(xs:Array Value)(off)(cells)(h:off+xs.size≤cells.size):
  (xs.zipIdx.foldl (fun(cs:Array Value) (p:Value×Nat)=>cs.setIfInBounds (off+p.2) p.1) cells).toList=cells.toList.take off++xs.toList++cells.toList.drop (off+xs.size):=by
 rw[←Array.foldl_toList,Array.toList_zipIdx];simpa using zX3 xs.toList 0 off cells (by simpa using h)
def nT(w:World)(S:Safe)(ρ:bW)(place:Nat→Option (Nat×Nat)):List (Nat×Nat×AV)→List (Nat×Value)→Prop
 |[],l=>l=[]
 |(off,size,a)::r,l=>∃i v r',l=(i,v)::r'∧place i=some (off,size)∧ay w S ρ a v∧nT w S ρ place r r'
theorem Sk{place}:∀{parts} {l} {cs out} {cells},nT w S ρ place parts l→af w S ρ cs cells.toList→pF cs parts=some out→
  ∃cS,Instr.fill place cells l=some cS∧af w S ρ out cS.toList
 |[],l,cs,out,cells,hp,hc,h=>by simp only[nT]at hp;subst hp;simp only[pF,Option.some.injEq]at h;subst h;exact⟨cells,rfl,hc⟩
 |(off,size,a)::r,l,cs,out,cells,hp,hc,h=>by
  obtain⟨i,v,r',rfl,A7,hv,hr⟩:=hp;simp only[pF]at h;split at h
  ·rename_i pG;obtain⟨v7,hlen,lH⟩:=pG;have Ba:=Oa hv v7;have l1:=af.length Ba;have l2:=af.length hc;simp only[Array.length_toList]at l1 l2;have cU:v.cells.size=size:=by rw[l1,hlen]
   have hf:=Y4 v.cells off cells (by rw[cU,l2];exact lH);obtain⟨cS,h1,h2⟩:=Sk (cells:=v.cells.zipIdx.foldl (fun(cs:Array Value) (p:Value×Nat)=>cs.setIfInBounds (off+p.2) p.1) cells) hr (by rw[hf,cU];exact af.append (af.append (af.take off hc) Ba) (af.drop (off+size) hc)) h;refine⟨cS,?_,h2⟩;simp only[Instr.fill,A7];rw[if_neg (by simp[cU,l2];omega)];exact h1
  ·cases h
theorem zQ2{P}(w):∀(fs) (gs),fi P fs gs=true→
  (fs.mapM fun f=>do pure (f.offset,←sizeOf f.type):Sem (List (Nat×Nat))).run P w=.ok (gs.map fun g=>(g.1,g.2.1)) w
 |[],[],_=>by simp
 |f::fs,(off,sz,ag)::gs,h=>by
  have hh:=h;simp only[fi,Bool.and_eq_true,beq_iff_eq]at h;obtain⟨⟨⟨⟨h1,h2⟩,h3⟩,h4⟩,h5⟩:=h;cases hi:P.info? f.type with
  |none=>simp[hi]at h2
  |some ti=>simp only[hi,Bool.and_eq_true,beq_iff_eq]at h2;have ih:=zQ2 w fs gs h5;simp at ih;simp[List.mapM_cons,run_sizeOf hi,ih,h1,h2.1]
 |[],_::_,h=>by simp[fi]at h
 |_::_,[],h=>by simp[fi]at h
theorem xp{fs:List (Nat×Nat×Bool)}(h:aN c st tmps w S ρ){ds}:∀{ps:List (Nat×Operand)} {xs},
  (ps.mapM fun p=>do let f←fs[p.1]?;pure (f.1,f.2.1,←bQ p.2))=some xs→fV st xs=true→
  nT w S ρ (fun i=>(fs.map fun g=>(g.1,g.2.1))[i]?) (iB st xs) (ps.map fun p=>(p.1,Act.eval ⟨tmps,ds⟩ p.2))
 |[],xs,hx,_=>by simp at hx;subst hx;rfl
 |(i,x)::ps,xs,hx,hg=>by simp only[List.mapM_cons,Option.bind_eq_bind,Option.bind_eq_some_iff,Option.pure_def,Option.some.injEq]at hx;obtain⟨a,⟨f,hf,x',Fh,rfl⟩,as,has,rfl⟩:=hx;simp only[fV,Bool.and_eq_true]at hg;exact⟨i,_,_,rfl,by simp[hf],h.ev Fh hg.1,xp h has hg.2⟩
theorem yVB(h:aN c st tmps w S ρ){o t zs fs}(ht:aK c.P t (.agg zs fs)=true){parts xs ds}
  (ho:o.op=.build t parts) (hx:(parts.toList.mapM fun p=>do let f←fs[p.1]?;pure (f.1,f.2.1,←bQ p.2))=some xs) (hg:fV st xs=true) {cs} (hr:pF zs (iB st xs)=some cs):
  ∃cv,(execOp (Act.eval ⟨tmps,ds⟩) o).run c.P w=.ok (.value cv) w∧ay w S ρ (.agg cs) cv:=by
 obtain⟨fields,hu,wN⟩:=SG ht;obtain⟨i,z,hi,hz,cU,_,_,JA⟩:=FP ht;obtain⟨cS,h1,h2⟩:=Sk (xp h (ds:=ds) hx hg) (G6 w S ρ JA) hr;refine⟨.agg cS,?_,⟨_,rfl,h2⟩⟩;have hm:=zQ2 (P:=c.P) w fields.toList fs wN;have xJ:(fields.mapM fun f=>do pure (f.offset,←sizeOf f.type):Sem (Array (Nat×Nat))).run c.P w=.ok (fs.map fun g=>(g.1,g.2.1)).toArray w:=by rw[Array.mapM_eq_mapM_toList];simp at hm;simp[hm]
 unfold execOp;simp only[ho];simp only[Instr.build,Sem.run_bind,Ki hi hz,run_underlying hu,Result.andThen_ok,xJ];have uz:Instr.fill (fun x=>(List.map (fun g=>(g.1,g.2.1)) fs).toArray[x]?) z.cells (parts.map fun x=>(x.1,Act.eval ⟨tmps,ds⟩ x.2)).toList=some cS:=by
  rw[←h1];congr 1
  ·funext x;simp
  ·exact Array.toList_map
 simp only[uz];simp
theorem Lc{w:World}{o b k v}(h:w.cell? ⟨b,k,none⟩=some v):(w.alloc o).cell? ⟨b,k,none⟩=some v:=by
 rw[World.cell?_alloc_lt w o (a:=⟨b,k,none⟩) (qh h)];exact h
theorem aN.newRow(h:aN c st tmps w S ρ)(cells)(e):aN c st tmps (w.alloc (.cells cells e)) (fun b o=>S b o∨(b=w.heap.size∧o<cells.size)) ρ:=by
 refine h.grow ((Below.refl _ _).alloc (Nat.le_refl _) _) (fun b o hs=>.inl hs) (fun b o hs=>?_) (fun b o hs=>?_)
 ·rcases hs with hs|⟨rfl,_⟩
  ·exact .inl hs
  ·exact .inr (Nat.le_refl _)
 ·rcases hs with hs|⟨rfl,ho⟩
  ·obtain⟨v,hv⟩:=h.live b o hs;exact⟨v,Lc hv⟩
  ·exact⟨cells[o],by simp[ho]⟩
theorem aN.pv(h:aN c st tmps w S ρ){s}(hs:getM st.mem s=none)(hN:s<c.N){cs cells}(hc:af w S ρ cs cells.toList)(e):
  ∃bu,ρ.le bu∧bu.box s=some w.heap.size∧aN c {st with mem:=(s,cs)::st.mem} tmps (w.alloc (.cells cells e)) S bu:=by
 have hg:=h.grow (w':=w.alloc (.cells cells e)) (S':=S) ((Below.refl _ _).alloc (Nat.le_refl _) _) (fun b o hs=>hs) (fun b o hs=>.inl hs) (fun b o hs=>by
  obtain⟨v,hv⟩:=h.live b o hs;exact⟨v,Lc hv⟩)
 have hle:ρ.le {ρ with box:=fun k=>if k=s then some w.heap.size else ρ.box k}:=by
  refine⟨fun k b hk=>?_,fun _ _ h=>h,fun _ _ h=>h⟩
  by_cases mQ:k=s
  ·subst mQ;rw[h.aQ k hs]at hk;cases hk
  ·simp[mQ,hk]
 have hold:∀k b,ρ.box k=some b→b<w.heap.size:=by
  intro k b hk
  cases hm:getM st.mem k with
  |none=>rw[h.aQ k hm]at hk;cases hk
  |some kt=>
   obtain⟨b',vs,e',g1,_,g3,_⟩:=h.mem k kt hm (h.iW hk hm)
   obtain rfl:=Option.some.inj (hk.symm.trans g1)
   exact(Array.getElem?_eq_some_iff.1 g3).1
 have hk:aY (w.alloc (.cells cells e)) S (w.alloc (.cells cells e)) S:=aY.refl _ _
 have jj:(w.alloc (.cells cells e)).heap[w.heap.size]? =some (.cells cells e (0,0)):=heap_alloc_new w _
 have IB:∀o,¬S w.heap.size o:=fun o fg=>by
  obtain⟨v,hv⟩:=h.live _ o fg;have:=qh hv;omega
 have Mq:aY w S (w.alloc (.cells cells e)) S:=fun b o fg=>by
  obtain⟨v,hv⟩:=h.live _ o fg;exact⟨fg,(Lc hv).trans hv.symm⟩
 refine⟨{ρ with box:=fun k=>if k=s then some w.heap.size else ρ.box k},hle,by simp,?_⟩
 refine{size:=hg.size,ae:=fun k=>(hg.ae k).keep hk hle,mem:=?_,inj:=?_,aQ:=?_,cL:=?_,tok:=?_,aV:=hg.aV,below:=hg.below,fX:=hg.fX,new:=hg.new,live:=hg.live,b5:=hg.b5,fx:=hg.fx,ex:=hg.ex,eH:=hg.eH,keeps:=hg.keeps,pins:=h.pins.sub (fun s' b e=>by
  simp only at e
  by_cases b9:s'=s
  ·exact .inl (b9▸hN)
  ·rw[if_neg b9]at e;exact .inr e) fun _ _ e=>.inr e}
 ·intro k kt dQ fG
  simp only[getM]at dQ
  split at dQ
  ·rename_i mQ
   subst mQ
   cases dQ
   exact⟨w.heap.size,cells,e,by simp,.inl h.below.size,jj,af.keep Mq hle cs _ hc,IB⟩
  ·obtain⟨b,vs,e',g1,g2,g3,g4,g6⟩:=hg.mem k kt dQ fG
   exact⟨b,vs,e',hle.1 _ _ g1,g2,g3,af.keep hk hle kt _ g4,g6⟩
 ·intro k k' b rT lO
  simp only at rT lO
  split at rT<;>split at lO
  ·simp_all
  ·have:=hold k' b lO;cases rT;omega
  ·have:=hold k b rT;cases lO;omega
  ·exact h.inj k k' b rT lO
 ·intro k dQ
  simp only[getM]at dQ
  split at dQ
  ·cases dQ
  ·rename_i mQ
   have:¬k=s:=fun e=>mQ e.symm
   simp[this,h.aQ k dQ]
 ·refine jA.cons ?_ (af.iW hc)
  refine hg.cL.RD rfl fun k b hk=>?_
  simp only at hk
  split at hk
  ·rename_i e;subst e;exact h.cL.new k hs
  ·exact h.cL.apart k b hk
 ·intro t ht
  obtain⟨x,g1,g2⟩:=h.tok t ht
  refine⟨x,g1,?_⟩
  rcases g2 with g2|⟨b,g0,k1,⟨cur,e',k2,rX⟩,k3,k4,k5,k6,k7⟩
  ·exact .inl g2
  ·have bf:=(Array.getElem?_eq_some_iff.1 k2).1
   refine .inr ⟨b,g0,k1,⟨cur,e',by rw[Below.heap_alloc w _ b bf];exact k2,rX⟩,k3,k4,k5,fun k=>?_,k7⟩
   simp only
   split
   ·intro hb
    cases hb
    omega
   ·exact k6 k
end Go.Abs
end
section
namespace Go.Abs
open Go.RowKit
variable{c:Ctx}{st:St}{tmps:Array Value}{w:World}{S:Safe}{ρ:bW}
theorem cell_setRow_other{w:World}{g b o cs}(h:b≠g):(w.setRow g cs).cell? ⟨b,o,none⟩=w.cell? ⟨b,o,none⟩:=
 World.cell?_of_block (w:=w) (setRow_other w g b cs h)
theorem oX{w:World}{b o vs e fr}(h:w.heap[b]? =some (.cells vs e fr)):w.cell? ⟨b,o,none⟩=vs[o]? :=by
 simp[World.cell?,h]
theorem dK.setRow{c w g}(h:kn c w)(ho:c.Own g)(cs):kn c (w.setRow g cs):=
 ⟨h.os,h.tape,h.output,by have:=h.size;simpa[World.setRow]using this,fun k hk=>(setRow_other w g k cs (fun e=>hk (e▸ho))).trans (h.block k hk)⟩
theorem SK:∀{as} {l},af w S ρ as l→dM as=true→∀u∈l,u.oneCell'=true
 |[],_,h,_=>by simp[af]at h;subst h;simp
 |a::as,_,⟨v,r,h,h1,h2⟩,hc=>by
  subst h;intro u hu;rcases List.mem_cons.1 hu with rfl|hu
  ·cases a<;>simp only[dM,Bool.false_eq_true]at hc
   ·exact dR.one h1
   ·obtain⟨b,_,rfl⟩:=h1;rfl
   ·obtain⟨_,b,n,rfl⟩:=h1;rfl
   ·obtain⟨_,_,b,n,cp,_,rfl⟩:=h1;rfl
   ·obtain⟨cs,rfl,_⟩:=h1;rfl
   ·obtain⟨b,_,rfl⟩:=h1;rfl
   ·obtain⟨_,_,b,_,rfl⟩:=h1;rfl
   ·obtain⟨_,base,n,cap,_,_,_,rfl⟩:=h1;rfl
  ·cases a<;>simp only[dM,Bool.false_eq_true]at hc<;>exact SK h2 hc u hu
theorem RP{w:World}{b vs e fr}{p:Nat×Obj}(hh:w.heap[b]? =some (.cells vs e fr))(h:w.heap[p.1]? =some p.2∧nx p.2=true):p.1≠b:=by intro e;obtain⟨h1,h2⟩:=h;rw[e,hh]at h1;rw[←Option.some.inj h1]at h2;cases h2
theorem aN.ri(h:aN c st tmps w S ρ){s b e vs cells}(hb:ρ.box s=some b)(hB:c.Own b)(hh:w.heap[b]? =some (.cells vs e (0,0)))(hS:∀o,¬S b o)
  {cs} (hc:af w S ρ cs cells.toList) (hm:(getM st.mem s).isSome=true):
  aN c {st with mem:=(s,cs)::st.mem} tmps (w.setRow b cells) S ρ:=by
 have hk:aY w S (w.setRow b cells) S:=fun b' o hs=>⟨hs,cell_setRow_other (fun e=>hS o (e▸hs))⟩
 refine{size:=h.size,ae:=fun k=>(h.ae k).keep hk ρ.le_refl,mem:=?_,inj:=h.inj,aQ:=?_,cL:=(h.cL.to hk (.setRow hh)).cons (af.iW hc),tok:=?_,aV:=h.aV,
        below:=h.below.setRow hB _,fX:=h.fX,new:=h.new,live:=fun b' o hs=>?_,b5:=fun g cs hg=>aP.keep hk g 0 cs (h.b5 g cs hg),fx:=h.fx,ex:=h.ex,eH:=fun p hp=>⟨by rw[setRow_other w b p.1 cells (RP hh (h.eH p hp))];exact(h.eH p hp).1,(h.eH p hp).2⟩,keeps:=fun p hp=>(h.keeps p hp).trans hk,pins:=h.pins}
 ·intro k kt dQ fG
  simp only[getM]at dQ
  split at dQ
  ·rename_i mQ
   subst mQ
   cases dQ
   exact⟨b,cells,e,hb,hB,setRow_heap w b vs cells e _ hh,af.keep hk ρ.le_refl cs _ hc,hS⟩
  ·rename_i mQ
   obtain⟨b',Kb,e',g1,g2,g3,g4,g6⟩:=h.mem k kt dQ fG
   have b6:b'≠b:=fun mW=>mQ (h.inj s k b hb (mW▸g1))
   exact⟨b',Kb,e',g1,g2,by rw[setRow_other w b b' cells b6];exact g3,af.keep hk ρ.le_refl kt _ g4,g6⟩
 ·intro k dQ
  simp only[getM]at dQ
  split at dQ
  ·cases dQ
  ·exact h.aQ k dQ
 ·intro t ht
  obtain⟨x,g1,g2⟩:=h.tok t ht
  refine⟨x,g1,?_⟩
  rcases g2 with g2|⟨b',g0,k1,⟨cur,e',k2,rX⟩,k3,k4,k5,k6,k7⟩
  ·exact .inl g2
  ·have b6:b'≠b:=fun mW=>k6 s (mW▸hb)
   exact .inr ⟨b',g0,k1,⟨cur,e',by rw[setRow_other w b b' cells b6];exact k2,rX⟩,k3,k4,k5,k6,k7⟩
 ·obtain⟨v,hv⟩:=h.live b' o hs
  exact⟨v,((hk b' o hs).2).trans hv⟩
theorem JS(h:aN c st tmps w S ρ){o t ty}(ht:aK c.P t ty=true){x y x' y' ds}(ho:o.op=.store t x y)(hx:bQ x=some x')(hy:bQ y=some y')
  {s off} {cs} (hp:ev st x'=.ptr s off) (hm:getM st.mem s=some cs) (hg:gd st x'=true) (jx:gd st y'=true) (v7:(ev st y').mT=true) (h1:dM (ev st y').cells=true)
  (hn:(ev st y').cells.length=dd ty) (lH:off+dd ty≤cs.length):
  ∃w',(execOp (Act.eval ⟨tmps,ds⟩) o).run c.P w=.ok .skip w'∧aN c {st with mem:=(s,cs.take off++(ev st y').cells++cs.drop (off+dd ty))::st.mem} tmps w' S ρ:=by
 have e1:=h.ev hx hg (ds:=ds);rw[hp]at e1;obtain⟨b,hb,hv⟩:=e1;have e2:=Oa (h.ev hy jx (ds:=ds)) v7;have nJ:=SK e2 h1;obtain⟨b',vs,e,g1,g2,g3,g4,g6⟩:=h.mem s cs hm (h.iW hb hm);obtain rfl:=Option.some.inj (hb.symm.trans g1);obtain⟨i,z,hi,_,cU,_,_,_⟩:=FP ht;have l2:=af.length e2;have l4:=af.length g4;simp only[Array.length_toList]at l2 l4;have w6:=run_storeCells_at c.P b off e (Act.eval ⟨tmps,ds⟩ y).cells.toList 0 vs w g3 (by simp;omega) nJ;simp only[Nat.add_zero,Array.length_toList]at w6;refine⟨_,?_,h.ri hb g2 g3 g6 (cells:=(vs.toList.take off++(Act.eval ⟨tmps,ds⟩ y).cells.toList++vs.toList.drop (off+(Act.eval ⟨tmps,ds⟩ y).cells.size)).toArray) ?_ (by simp[hm])⟩
 ·unfold execOp;simp only[ho,hv];simp only[Instr.storeAt,Instr.sureAddr,storeVar,Sem.run_bind,Sem.run_pure,Result.andThen_ok,run_sizeOf hi,cU];rw[if_neg (by rw[l2,hn];simp)];simp only[w6,Sem.run_pure,Sem.run_bind,Result.andThen_ok]
 ·simp only[List.toList_toArray];rw[show(Act.eval ⟨tmps,ds⟩ y).cells.size=dd ty by rw[l2,hn]];exact af.append (af.append (af.take off g4) e2) (af.drop _ g4)
end Go.Abs
end
section
namespace Go.Abs
open Go.RowKit
variable{c:Ctx}{st:St}{tmps:Array Value}{w:World}{S:Safe}{ρ:bW}
theorem Gv{es base n cap}(h:dR w S (.aw es) (.slice base n cap)):
  n=es.length∧n≤cap∧cap≤9223372036854775807∧(base=none→cap=0)∧
  ∃l,aS w S es.flatten l∧∀a,base=some a→(cap≠0→a.spot=none)∧(∀j v,l[j]? =some v→w.cell? (a.add j)=some v∧S a.block (a.off+j)):=by
 obtain⟨CU,cu,h1,h2,h3,h4,h5⟩:=h;cases h1;refine⟨rfl,h2,h3,h4,?_⟩;cases base with
 |none=>have:es=[]:=List.eq_nil_of_length_eq_zero (by have:=h4 rfl;omega);subst this;exact⟨[],rfl,fun a ha=>by cases ha⟩
 |some a=>
  obtain⟨g1,g2,g3⟩:=h5 a rfl;obtain⟨l,k1,k2⟩:=aP.values (bY.flat.1 g3);refine⟨l,k1,fun a' BS=>?_⟩;cases BS;by_cases yj:cap=0
  ·have:es=[]:=List.eq_nil_of_length_eq_zero (by omega);subst this;simp only[List.flatten_nil,aS]at k1;subst k1;exact⟨fun h=>absurd yj h,fun j v hj=>by simp at hj⟩
  obtain⟨b,off,sp⟩:=a;have g1:=g1 yj;simp only at g1;subst g1;exact⟨fun _=>rfl,fun j v hj=>by rw[addr_add];exact k2 j v hj⟩
theorem zjQ{P}(w)(t ty e)(i)(ht:P.underlying t=some (.slice e))(hi:P.info? e=some i)(base)(n cap)(hn:n≤cap)(gZ)(fK):
  (Builtin.append_ #[t,t] ty #[.slice base n cap,.slice gZ 0 fK]).run P w=.ok (.slice base n cap) w:=by
 cases gZ<;>cases base<;>simp[Builtin.append_,run_underlying ht,sizeOf,typeInfo,hi,Builtin.lenOf,Builtin.firstCells,loadCells,loadCellsFrom,hn,storeCells]
theorem iw{P}(w)(t ty e e')(i)(ht:P.underlying t=some (.slice e))(hi:P.info? e=some i)
  (g wx FE) (cur) (hg:w.heap[g]? =some (.cells cur e' (0,0)))
  (a) (m c) (news) (hl:news.length=m*i.size) (Jb:∀j u,news[j]? =some u→w.cell? (a.add j)=some u) (h1:∀u∈news,u.oneCell'=true)
  (fO:wx+m≤FE) (lH:wx*i.size+news.length≤cur.size):
  (Builtin.append_ #[t,t] ty #[.slice (some ⟨g,0,none⟩) wx FE,.slice (some a) m c]).run P w=
   .ok (.slice (some ⟨g,0,none⟩) (wx+m) FE) (w.setRow g (cur.toList.take (wx*i.size)++news++cur.toList.drop (wx*i.size+news.length)).toArray):=by
 have hf:=run_firstCells_some (P:=P) w i.size m a m c news hl Jb;have w6:=run_storeCells_at P g (wx*i.size) e' news 0 cur w hg (by simpa using lH) h1;simp only[Nat.add_zero]at w6;simp[Builtin.append_,run_underlying ht,sizeOf,typeInfo,hi,Builtin.lenOf,fO,hf,Addr.add_lit,w6]
theorem NG(u t):∀tk,aE (fl u tk) t=if t=u then(aE tk t).map (fun _=>false)else aE tk t
 |[]=>by simp[fl,aE]
 |(k,b)::l=>by
  have ih:=NG u t l;by_cases hk:k=u
  ·subst hk;by_cases ht:k=t
   ·subst ht;simp[fl,aE]
   ·have:¬t=k:=fun e=>ht e.symm;simp only[fl,if_true,aE,if_neg ht,if_neg this]at ih⊢;exact ih
  ·by_cases ht:k=t
   ·subst ht;simp[fl,aE,hk]
   ·simp only[fl,if_neg hk,aE,if_neg ht];exact ih
theorem aN.lq(h:aN c st tmps w S ρ){d}(hd:aE st.tk d=none)(u){tk'}(pL:∀t,aE tk' t=if t=d then some true else if some t=u then(aE st.tk t).map (fun _=>false)else aE st.tk t)
  (x) (hx:x.2.1=x.2.2.1∨∃b,x.1=some ⟨b,0,none⟩∧c.Own b∧(∃cur e,w.heap[b]? =some (.cells cur e (0,0))∧cur.size=x.2.2.1*x.2.2.2)∧x.2.1≤x.2.2.1∧x.2.2.1≤9223372036854775807∧
   (∀o,x.2.1*x.2.2.2≤o→¬S b o)∧(∀s,ρ.box s≠some b)∧∀t' b' y,some t'≠u→aE st.tk t'=some true→ρ.tok t'=some (some ⟨b',0,none⟩,y)→y.1≠y.2.1→b'≠b):
  ∃bu,ρ.le bu∧bu.tok d=some x∧aN c {st with tk:=tk'} tmps w S bu:=by
 have hle:ρ.le {ρ with tok:=fun k=>if k=d then some x else ρ.tok k}:=by
  refine⟨fun _ _ h=>h,fun t y hy=>?_,fun _ _ h=>h⟩;by_cases ht:t=d
  ·subst ht;rw[h.aV t hd]at hy;cases hy
  ·simp[ht,hy]
 have hk:=aY.refl w S;refine⟨_,hle,by simp,?_⟩;refine{size:=h.size,ae:=fun k=>(h.ae k).keep hk hle,mem:=?_,inj:=h.inj,aQ:=h.aQ,cL:=h.cL.RD rfl h.cL.apart,tok:=?_,aV:=?_,below:=h.below,fX:=h.fX,new:=h.new,live:=h.live,b5:=h.b5,fx:=h.fx,ex:=h.ex,eH:=h.eH,keeps:=h.keeps,pins:=h.pins}
 ·intro s cs hs fG;obtain⟨b,vs,e,g1,g2,g3,g4,g6⟩:=h.mem s cs hs fG;exact⟨b,vs,e,g1,g2,g3,af.keep hk hle cs _ g4,g6⟩
 ·intro t ht;simp only at ht;rw[pL t]at ht;by_cases GU:t=d
  ·subst GU;refine⟨x,by simp,?_⟩;rcases hx with hx|⟨b,g0,g1,g2,g3,g4,g5,g6,g7⟩
   ·exact .inl hx
   ·refine .inr ⟨b,g0,g1,g2,g3,g4,g5,g6,fun t' b' y b6 iO eE hy=>?_⟩;simp only at iO eE;rw[pL t',if_neg b6]at iO;rw[if_neg b6]at eE;by_cases hu:some t'=u
    ·rw[if_pos hu]at iO;cases u7:aE st.tk t'<;>simp[u7]at iO
    ·rw[if_neg hu]at iO;exact g7 t' b' y hu iO eE hy
  ·rw[if_neg GU]at ht;by_cases hu:some t=u
   ·rw[if_pos hu]at ht;cases u7:aE st.tk t<;>simp[u7]at ht
   ·rw[if_neg hu]at ht;obtain⟨y,g1,g2⟩:=h.tok t ht;refine⟨y,by simp[GU,g1],?_⟩;by_cases eN:y.2.1=y.2.2.1
    ·exact .inl eN
    rcases g2 with g2|⟨b,k0,k1,k2,k3,k4,k5,k6,k7⟩
    ·exact .inl g2
    ·refine .inr ⟨b,k0,k1,k2,k3,k4,k5,k6,fun t' b' z b6 iO eE hz=>?_⟩;simp only at iO eE;rw[pL t']at iO;by_cases Js:t'=d
     ·subst Js;rw[if_pos rfl]at eE;cases eE;rcases hx with hx|⟨b2,m0,m1,m2,m3,m4,m5,m6,m7⟩
      ·exact absurd hx hz
      ·cases m0;intro mW;subst mW;exact m7 t b' y.2 hu ht (by rw[g1];rw[←k0]) eN rfl
     ·rw[if_neg Js]at iO eE;by_cases lQ:some t'=u
      ·rw[if_pos lQ]at iO;cases u7:aE st.tk t'<;>simp[u7]at iO
      ·rw[if_neg lQ]at iO;exact k7 t' b' z b6 iO eE hz
 ·intro t ht;simp only at ht;rw[pL t]at ht;by_cases GU:t=d
  ·rw[if_pos GU]at ht;cases ht
  ·simp only[if_neg GU]at ht⊢;by_cases hu:some t=u
   ·rw[if_pos hu]at ht;cases u7:aE st.tk t<;>simp[u7]at ht;exact h.aV t u7
   ·rw[if_neg hu]at ht;exact h.aV t ht
end Go.Abs
end
section
namespace Go.Abs
open Go.RowKit
variable{c:Ctx}{st:St}{tmps:Array Value}{w:World}{S:Safe}{ρ:bW}
theorem F7{u t tk}(h:aE (fl u tk) t=some true):aE tk t=some true∧t≠u:=by
 rw[NG]at h;by_cases ht:t=u
 ·rw[if_pos ht]at h;cases hg:aE tk t<;>simp[hg]at h
 ·rw[if_neg ht]at h;exact⟨h,ht⟩
theorem Ow{u t tk}:aE (fl u tk) t=none↔aE tk t=none:=by
 rw[NG];by_cases ht:t=u
 ·rw[if_pos ht];cases hg:aE tk t<;>simp
 ·rw[if_neg ht]
theorem aN.kill(h:aN c st tmps w S ρ)(u):aN c {st with tk:=fl u st.tk} tmps w S ρ:=by
 refine{h with tok:=fun t ht=>?_,aV:=fun t ht=>h.aV t (Ow.1 ht)};obtain⟨x,g1,g2⟩:=h.tok t (F7 ht).1;refine⟨x,g1,?_⟩;rcases g2 with g2|⟨b,k0,k1,k2,k3,k4,k5,k6,k7⟩
 ·exact .inl g2
 ·exact .inr ⟨b,k0,k1,k2,k3,k4,k5,k6,fun t' b' z b6 iO eE hz=>k7 t' b' z b6 (F7 iO).1 eE hz⟩
theorem aN.sJ(h:aN c st tmps w S ρ){b e cur new n n'}(hB:c.Own b)(hh:w.heap[b]? =some (.cells cur e (0,0)))(cU:new.size=cur.size)(hS:∀o,n≤o→¬S b o)
  (ox:∀o,o<n→new[o]? =cur[o]?) (xK:n'≤new.size) (Qe:∀s,ρ.box s≠some b) (eE:∀t' b' y,aE st.tk t'=some true→ρ.tok t'=some (some ⟨b',0,none⟩,y)→y.1≠y.2.1→b'≠b):
  aN c st tmps (w.setRow b new) (fun b' o=>S b' o∨(b'=b∧o<n')) ρ:=by
 have hk:aY w S (w.setRow b new) (fun b' o=>S b' o∨(b'=b∧o<n')):=fun b' o hs=>by
  refine⟨.inl hs,?_⟩;by_cases hb:b'=b
  ·subst hb;have ho:o<n:=by
    rcases Nat.lt_or_ge o n with h1|h1
    ·exact h1
    ·exact absurd hs (hS o h1)
   rw[oX (setRow_heap w b' cur new e _ hh),oX hh,ox o ho]
  ·exact cell_setRow_other hb
 refine{size:=h.size,ae:=fun k=>(h.ae k).keep hk ρ.le_refl,mem:=?_,inj:=h.inj,aQ:=h.aQ,cL:=h.cL.to hk (.setRow hh),tok:=?_,aV:=h.aV,
        below:=h.below.setRow hB _,fX:=fun b' o hs=>.inl (h.fX b' o hs),new:=?_,live:=?_,b5:=fun g cs hg=>aP.keep hk g 0 cs (h.b5 g cs hg),fx:=h.fx,ex:=h.ex,eH:=fun p hp=>⟨by rw[setRow_other w b p.1 new (RP hh (h.eH p hp))];exact(h.eH p hp).1,(h.eH p hp).2⟩,keeps:=fun p hp=>(h.keeps p hp).trans hk,pins:=h.pins}
 ·intro s cs hs fG;obtain⟨b',vs,e',g1,g2,g3,g4,g6⟩:=h.mem s cs hs fG;have b6:b'≠b:=fun mW=>Qe s (mW▸g1);exact⟨b',vs,e',g1,g2,by rw[setRow_other w b b' new b6];exact g3,af.keep hk ρ.le_refl cs _ g4,fun o ho=>by
   rcases ho with ho|⟨hb,_⟩
   ·exact g6 o ho
   ·exact b6 hb⟩
 ·intro t ht;obtain⟨x,g1,g2⟩:=h.tok t ht;refine⟨x,g1,?_⟩;by_cases eN:x.2.1=x.2.2.1
  ·exact .inl eN
  rcases g2 with g2|⟨b',k0,k1,⟨PA,e',k2,rX⟩,k3,k4,k5,k6,k7⟩
  ·exact .inl g2
  ·have b6:b'≠b:=eE t b' x.2 ht (by rw[g1,←k0]) eN;refine .inr ⟨b',k0,k1,⟨PA,e',by rw[setRow_other w b b' new b6];exact k2,rX⟩,k3,k4,fun o ho hs=>?_,k6,k7⟩;rcases hs with hs|⟨hb,_⟩
   ·exact k5 o ho hs
   ·exact b6 hb
 ·intro b' o hs;rcases hs with hs|⟨rfl,_⟩
  ·exact h.new b' o hs
  ·exact .inr hB
 ·intro b' o hs;rcases hs with hs|⟨rfl,ho⟩
  ·obtain⟨v,hv⟩:=h.live b' o hs;exact⟨v,((hk b' o hs).2).trans hv⟩
  ·rw[oX (setRow_heap w b' cur new e _ hh)];exact⟨new[o]'(by omega),by simp⟩
theorem H6{es sz b cap l}(hlen:∀e∈es,e.length=sz)(hl:aS w S es.flatten l)(hc:∀j v,l[j]? =some v→w.cell? ⟨b,j,none⟩=some v∧S b j)(h1:es.length≤cap)(h2:cap≤9223372036854775807):
  dR w S (.aw es) (.slice (some ⟨b,0,none⟩) es.length cap):=by
 refine⟨_,cap,rfl,h1,h2,(fun h=>by cases h),fun a ha=>?_⟩;cases ha;exact⟨fun _=>rfl,⟨sz,hlen⟩,bY.flat.2 (aP.Ct hl fun j v hj=>by rw[Nat.zero_add];exact hc j v hj)⟩
def xx(w:World)(S:Safe)(ys:List (List D))(gZ:Option Addr)(m fK:Nat):Prop:=
 m=ys.length∧m≤fK∧fK≤9223372036854775807∧(gZ=none→fK=0)∧∃l,aS w S ys.flatten l∧∀a,gZ=some a→(fK≠0→a.spot=none)∧(∀j v,l[j]? =some v→w.cell? (a.add j)=some v∧True)
theorem xx.of{ys gZ m fK}(h:dR w S (.aw ys) (.slice gZ m fK)):xx w S ys gZ m fK:=by obtain⟨h1,h2,h3,h4,l,h5,h6⟩:=Gv h;exact⟨h1,h2,h3,h4,l,h5,fun a ha=>⟨(h6 a ha).1,fun j v hj=>⟨((h6 a ha).2 j v hj).1,trivial⟩⟩⟩
theorem yKv(h:aN c st tmps w S ρ){t ty esz eb zs}(ht:aK c.P t (.slice esz eb zs)=true){d}(hd:aE st.tk d=none){es ys base gZ n cap m fK}
  (hv:dR w S (.aw es) (.slice base n cap)) (hy:xx w S ys gZ m fK) (fW:∀e∈es,e.length=esz) (jT:∀e∈ys,e.length=esz) (sW:(es.length+ys.length)*eb≤2^46) (xE:es.length+ys.length≤9223372036854775807)
  (gy:n=cap∨∃b,base=some ⟨b,0,none⟩∧c.Own b∧(∃cur e,w.heap[b]? =some (.cells cur e (0,0))∧cur.size=cap*esz)∧
   (∀o,n*esz≤o→¬S b o)∧(∀s,ρ.box s≠some b)∧∀t' b' y,aE st.tk t'=some true→ρ.tok t'=some (some ⟨b',0,none⟩,y)→y.1≠y.2.1→b'≠b):
  ∃v' w' S' bu,(Builtin.append_ #[t,t] ty #[.slice base n cap,.slice gZ m fK]).run c.P w=.ok v' w'∧aN c {st with tk:=(d,true)::st.tk} tmps w' S' bu∧ay w' S' bu (.own d esz (es++ys)) v':=by
 obtain⟨e,ie,z,hu,fp,q1,q2,q3,q4,q5⟩:=tO ht;obtain⟨rfl,hn,ik,il,l1,l9,vW⟩:=Gv hv;obtain⟨rfl,hm,ya,pK,l2,fE,uA⟩:=hy;have pL:∀t',aE ((d,true)::st.tk) t'=if t'=d then some true else if some t'=(none:Option Nat)then(aE st.tk t').map (fun _=>false)else aE st.tk t':=by
  intro t';simp only[aE];by_cases hh:d=t'
  ·subst hh;simp
  ·have:¬t'=d:=fun e=>hh e.symm;simp[hh,this]
 have cT:∀e∈es++ys,e.length=esz:=fun e he=>(List.mem_append.1 he).elim (fW e) (jT e);have th:l1.length=es.length*esz:=(aS.length l9).trans (GD fW);have j7:l2.length=ys.length*esz:=(aS.length fE).trans (GD jT);by_cases uC:ys.length=0
 ·
  have:ys=[]:=List.eq_nil_of_length_eq_zero uC;subst this;obtain⟨bu,hle,lI,hs⟩:=h.lq hd none pL (base,es.length,cap,esz) (by
   rcases gy with gy|⟨b,k0,k1,k2,k3,k4,k5⟩
   ·exact .inl gy
   ·exact .inr ⟨b,k0,k1,k2,hn,ik,k3,k4,fun t' b' y _ a1 a2 a3=>k5 t' b' y a1 a2 a3⟩)
  refine⟨.slice base es.length cap,w,S,bu,zjQ w t ty e ie hu fp base es.length cap hn gZ fK,hs,?_⟩;simp only[List.append_nil];exact⟨hv,fW,base,es.length,cap,lI,rfl⟩
 ·cases gZ with
  |none=>have:=pK rfl;omega
  |some a2=>
   obtain⟨RE,mu⟩:=uA a2 rfl;by_cases fO:es.length+ys.length≤cap
   ·
    rcases gy with gy|⟨b,k0,k1,⟨cur,e',k2,rX⟩,k3,k4,k5⟩
    ·omega
    ·subst k0;obtain⟨_,oO⟩:=vW _ rfl;have lH:es.length*ie.size+l2.length≤cur.size:=by rw[j7,rX,q1,←Nat.add_mul];exact Nat.mul_le_mul_right _ fO
     have hr:=iw (P:=c.P) w t ty e e' ie hu fp b es.length cap cur k2 a2 ys.length fK l2 (by rw[j7,q1]) (fun j v hj=>(mu j v hj).1) (aS.xc fE) fO lH;rw[q1]at hr lH;have kB:(cur.toList.take (es.length*esz)++l2++cur.toList.drop (es.length*esz+l2.length)).toArray.size=cur.size:=by simp;omega
     have kA:∀o,o<es.length*esz→(cur.toList.take (es.length*esz)++l2++cur.toList.drop (es.length*esz+l2.length)).toArray[o]? =cur[o]? :=by
      intro o ho;have:o<(cur.toList.take (es.length*esz)).length:=by simp;omega
      simp[List.getElem?_append_left this,List.getElem?_take,ho]
     have hs:=h.sJ (n':=(es.length+ys.length)*esz) k1 k2 kB k3 kA (by rw[kB,rX];exact Nat.mul_le_mul_right _ fO) k4 k5;have jj:=setRow_heap w b cur (cur.toList.take (es.length*esz)++l2++cur.toList.drop (es.length*esz+l2.length)).toArray e' _ k2;obtain⟨bu,hle,lI,b9⟩:=hs.lq hd none pL (some ⟨b,0,none⟩,es.length+ys.length,cap,esz) (by
      refine .inr ⟨b,rfl,k1,⟨_,e',jj,kB.trans rX⟩,fO,ik,fun o ho fg=>?_,k4,fun t' b' y _ a1 a2 a3=>k5 t' b' y a1 a2 a3⟩;simp only at ho;rcases fg with fg|⟨_,fg⟩
      ·exact k3 o (Nat.le_trans (Nat.mul_le_mul_right _ (Nat.le_add_right _ _)) ho) fg
      ·omega)
     refine⟨_,_,_,bu,hr,b9,?_,cT,_,_,_,lI,rfl⟩;have E4:aS (w.setRow b (cur.toList.take (es.length*esz)++l2++cur.toList.drop (es.length*esz+l2.length)).toArray) (fun b' o=>S b' o∨(b'=b∧o<(es.length+ys.length)*esz)) (es++ys).flatten (l1++l2):=by
      rw[List.flatten_append];have hk:aY w S (w.setRow b (cur.toList.take (es.length*esz)++l2++cur.toList.drop (es.length*esz+l2.length)).toArray) (fun b' o=>S b' o∨(b'=b∧o<(es.length+ys.length)*esz)):=by
       intro b' o fg;refine⟨.inl fg,?_⟩;by_cases mW:b'=b
       ·subst mW;have ho:o<es.length*esz:=by
         rcases Nat.lt_or_ge o (es.length*esz)with h1|h1
         ·exact h1
         ·exact absurd fg (k3 o h1)
        rw[oX jj,oX k2,kA o ho]
       ·exact cell_setRow_other mW
      exact aS.append (aS.keep hk _ _ l9) (aS.keep hk _ _ fE)
     have:=H6 (cap:=cap) cT E4 (b:=b) (fun j v hj=>?_) (by simpa using fO) ik
     ·simpa using this
     ·rw[oX jj];rcases Nat.lt_or_ge j l1.length with E2|E2
      ·rw[List.getElem?_append_left E2]at hj;have IM:=(oO j v hj).1;rw[addr_add,Nat.zero_add,oX k2]at IM;refine⟨by rw[kA j (by omega)];exact IM,.inr ⟨rfl,?_⟩⟩;rw[Nat.add_mul];omega
      ·have hj2:=hj;rw[List.getElem?_append_right E2]at hj;have bf:j-l1.length<l2.length:=(List.getElem?_eq_some_iff.1 hj).1;refine⟨?_,.inr ⟨rfl,by rw[Nat.add_mul];omega⟩⟩;have t1:(cur.toList.take (es.length*esz)).length=es.length*esz:=by simp;omega
       simp only[List.getElem?_toArray,List.append_assoc];rw[List.getElem?_append_right (by rw[t1];omega),List.getElem?_append_left (by rw[t1];omega),t1,←th];exact hj
   ·
    have pJ:∃v',(Builtin.append_ #[t,t] ty #[.slice base es.length cap,.slice (some a2) ys.length fK]).run c.P w=
      .ok (.slice (some ⟨w.heap.size,0,none⟩) (es.length+ys.length) v') (w.drew.alloc (.cells (l1.toArray++l2.toArray++Builtin.zeroCells z.cells (v'-(es.length+ys.length))) e))∧es.length+ys.length≤v'∧v'≤9223372036854775807:=by
     have sU:(es.length+ys.length)*ie.bytes≤140737488355328:=by rw[q2];omega
     have vm:=grownCap_le_maxLen w (es.length+ys.length) cap e (by unfold maxLen;omega);unfold maxLen at vm;cases base with
     |none=>
      have yj:=il rfl;have h0:es.length=0:=by omega
      have sK:l1=[]:=List.eq_nil_of_length_eq_zero (by rw[th,h0];simp);subst sK;subst yj;have hr:=run_append_nil (P:=c.P) w t ty e ie z hu fp q4 a2 ys.length fK l2 (by rw[j7,q1]) (fun j v hj=>(mu j v hj).1) (by omega) (by omega) (by have:=sU;rw[h0,Nat.zero_add]at this;omega);simp only[h0,Nat.zero_add]at vm⊢;refine⟨_,by simpa using hr,grownCap_ge _ _ _ _,vm⟩
     |some a1=>obtain⟨sp1,oO⟩:=vW a1 rfl;have hr:=run_append_grow (P:=c.P) w t ty e ie z hu fp q4 a1 es.length cap l1 (by rw[th,q1]) (fun j v hj=>(oO j v hj).1) a2 ys.length fK l2 (by rw[j7,q1]) (fun j v hj=>(mu j v hj).1) (by omega) (by omega) (growslice_fits (by omega) sU);exact⟨_,hr,grownCap_ge _ _ _ _,vm⟩
    obtain⟨cu,hr,qt,uB⟩:=pJ;generalize hO:(Obj.cells (l1.toArray++l2.toArray++Builtin.zeroCells z.cells (cu-(es.length+ys.length))) e)=O at hr;have uG:(l1.toArray++l2.toArray++Builtin.zeroCells z.cells (cu-(es.length+ys.length))).size=cu*esz:=by simp only[Array.size_append,List.size_toArray,size_zeroCells,q5,th,j7,←Nat.add_mul];congr 1;omega
    have jj:(w.drew.alloc O).heap[w.heap.size]? =some (.cells (l1.toArray++l2.toArray++Builtin.zeroCells z.cells (cu-(es.length+ys.length))) e (0,0)):=by rw[←hO];exact heap_alloc_new w.drew _
    have iK:Below w.heap.size w (w.drew.alloc O):=((Below.refl _ _).drew).alloc (by simp) _;have hs:=h.grow (w':=w.drew.alloc O) (S':=fun b o=>S b o∨(b=w.heap.size∧o<(es.length+ys.length)*esz)) iK (fun b o hs=>.inl hs) (fun b o hs=>by
      rcases hs with hs|⟨rfl,_⟩
      ·exact .inl hs
      ·exact .inr (Nat.le_refl _)) (fun b o hs=>by
      rcases hs with hs|⟨rfl,ho⟩
      ·obtain⟨v,hv⟩:=h.live b o hs;exact⟨v,(iK.cell (p:=⟨b,o,none⟩) (qh hv)).trans hv⟩
      ·rw[oX jj];have:o<(l1.toArray++l2.toArray++Builtin.zeroCells z.cells (cu-(es.length+ys.length))).size:=by rw[uG];exact Nat.lt_of_lt_of_le ho (Nat.mul_le_mul_right _ qt)
       exact⟨_,Array.getElem?_eq_getElem this⟩)
    have IB:∀o,¬S w.heap.size o:=fun o fg=>by obtain⟨v,hv⟩:=h.live _ o fg;have:=qh hv;omega
    obtain⟨bu,hle,lI,b9⟩:=hs.lq hd none pL (some ⟨w.heap.size,0,none⟩,es.length+ys.length,cu,esz) (by
     refine .inr ⟨w.heap.size,rfl,.inl h.below.size,⟨_,e,jj,uG⟩,qt,uB,fun o ho fg=>?_,fun s lP=>?_,fun t' b' y _ a1 a2 a3=>?_⟩
     ·simp only at ho;rcases fg with fg|⟨_,fg⟩
      ·exact IB o fg
      ·omega
     ·cases xJ:getM st.mem s with
      |none=>rw[h.aQ s xJ]at lP;cases lP
      |some kt=>obtain⟨b',vs,e',g1,_,g3,_⟩:=h.mem s kt xJ (h.iW lP xJ);obtain rfl:=Option.some.inj (lP.symm.trans g1);have:=(Array.getElem?_eq_some_iff.1 g3).1;omega
     ·obtain⟨x,m1,m2⟩:=h.tok t' a1;obtain rfl:=Option.some.inj (a2.symm.trans m1);rcases m2 with m2|⟨b2,m0,_,⟨_,_,m3,_⟩,_⟩
      ·exact absurd m2 a3
      ·cases m0;have:=(Array.getElem?_eq_some_iff.1 m3).1;omega)
    refine⟨_,_,_,bu,hr,b9,?_,cT,_,_,_,lI,rfl⟩;have hk:aY w S (w.drew.alloc O) (fun b o=>S b o∨(b=w.heap.size∧o<(es.length+ys.length)*esz)):=fun b o fg=>by obtain⟨v,hv⟩:=h.live b o fg;exact⟨.inl fg,iK.cell (p:=⟨b,o,none⟩) (qh hv)⟩
    have E4:aS (w.drew.alloc O) (fun b o=>S b o∨(b=w.heap.size∧o<(es.length+ys.length)*esz)) (es++ys).flatten (l1++l2):=by rw[List.flatten_append];exact aS.append (aS.keep hk _ _ l9) (aS.keep hk _ _ fE)
    have:=H6 (cap:=cu) cT E4 (b:=w.heap.size) (fun j v hj=>?_) (by simpa using qt) uB
    ·simpa using this
    ·rw[oX jj];have bf:j<(l1++l2).length:=(List.getElem?_eq_some_iff.1 hj).1;refine⟨?_,.inr ⟨rfl,by rw[Nat.add_mul];simp at bf;omega⟩⟩;rw[Array.getElem?_append_left (by simpa using bf)];simpa using hj
end Go.Abs
end
section
namespace Go.Abs
open Go.RowKit
variable{c:Ctx}{st:St}{tmps:Array Value}{w:World}{S:Safe}{ρ:bW}
mutual
def iT(w:World)(S:Safe):CV→Value→Prop
 |.one x,v=>dR w S x v
 |.agg xs,v=>∃vs:Array Value,v=.agg vs∧aS w S xs vs.toList
 |.own _ _ es,v=>dR w S (.aw es) v
 |.tup cs,v=>∃vs:Array Value,v=.tuple vs∧bA w S cs vs.toList
 |.bx _ _ _ _ _ _,_=>False
 |.vr _ _ _ _ _,_=>False
 |.vc _ _,_=>False
def bA(w:World)(S:Safe):List CV→List Value→Prop
 |[],vs=>vs=[]
 |x::xs,vs=>∃v r,vs=v::r∧iT w S x v∧bA w S xs r
end
def Live(w:World)(S:Safe):Prop:=∀b o,S b o→∃v,w.cell? ⟨b,o,none⟩=some v
def fh(P:Program)(G:Nat→Option (List D))(w:World)(S:Safe):Prop:=(∀g cs,G g=some cs→aP w S g 0 cs)∧Exact P G w
def Enters(P:Program)(f:FuncId):Prop:=∃fn,P.funcs[f]? =some fn∧(fn.name== "runtime.NumGoroutine")=false∧fn.body.isNone=false
def Er(P:Program)(G:Nat→Option (List D))(f:FuncId)(args:List CV)(r:CV):Prop:=
 Enters P f∧∀(w:World) (S:Safe) (aW:Array Value),Live w S→fh P G w S→bA w S args aW.toList→
  Calls P f aW w fun e w'=>∃v S',e=.returned v∧iT w' S' r v∧Below w.heap.size w w'∧(∀b o,S b o→S' b o)∧(∀b o,S' b o→S b o∨w.heap.size≤b)∧Live w' S'
def mZ(P:Program)(w:World)(X:List Nat)(b:Nat):Prop:=w.heap.size≤b∨(b∈X∧P.globals.size≤b)
def Room(own:Nat→Prop)(w:World)(S:Safe)(sz:Nat)(v:Value):Prop:=
 ∃base n cap,v=.slice base n cap∧(n=cap∨∃b,base=some ⟨b,0,none⟩∧own b∧(∃cur e,w.heap[b]? =some (.cells cur e (0,0))∧cur.size=cap*sz)∧n≤cap∧cap≤9223372036854775807∧∀o,n*sz≤o→¬S b o)
def vD(P:Program)(w:World)(S:Safe)(X:List Nat)(args:List CV)(aW:List Value)(sz:Nat):Option Nat→Prop
 |none=>X=[]
 |some k=>∃es v,args[k]? =some (.one (.aw es))∧(∀e∈es,e.length=sz)∧aW[k]? =some v∧Room (fun b=>X=[b]∧P.globals.size≤b) w S sz v
def tF(P:Program)(G:Nat→Option (List D))(f:FuncId)(args:List CV)(a:Option Nat)(sz:Nat)(es:List (List D)):Prop:=
 Enters P f∧∀(w:World) (S:Safe) (aW:Array Value) (X:List Nat),Live w S→fh P G w S→bA w S args aW.toList→vD P w S X args aW.toList sz a→
  Calls P f aW w fun e w'=>∃v S',e=.returned v∧dR w' S' (.aw es) v∧(∀e∈es,e.length=sz)∧Room (mZ P w X) w' S' sz v∧dK (mZ P w X) w w'∧aY w S w' S'∧(∀b o,S' b o→S b o∨mZ P w X b)∧Live w' S'
abbrev sQ(P:Program)(G:Nat→Option (List D))(w:World)(S:Safe)(X:List Nat)(mB fI:List (Nat×Nat))(k:Option (World×Safe)):Ctx:=
 {P:=P,G:=G,w0:=w,S0:=S,N:=0,X:=X,mB:=mB,fI:=fI,kx:=k}
def xy(w:World)(S:Safe)(ρ:bW):CV→Value→Prop
 |.vr s esz off n cap,v=>ay w S ρ (.vec s esz off n cap) v
 |r,v=>iT w S r v
def Et(w w':World)(S':Safe)(esz:Nat)(es:List (List D))(v:Value):Prop:=
 (es=[]∧dR w' S' (.aw []) v)∨(es≠[]∧(∀e∈es,e.length=esz)∧∃b cap vs ev,v=.slice (some ⟨b,0,none⟩) es.length cap∧w.heap.size≤b∧es.length≤cap∧cap≤9223372036854775807∧w'.heap[b]? =some (.cells vs ev (0,0))∧
  vs.size=cap*esz∧aS w' S' es.flatten (vs.toList.take (es.length*esz))∧∀o,¬S' b o)
def Wd(P:Program)(G:Nat→Option (List D))(f:FuncId)(args:List CV)(esz:Nat)(es:List (List D)):Prop:=
 Enters P f∧∀(w:World) (S:Safe) (aW:Array Value),Live w S→fh P G w S→bA w S args aW.toList→
  Calls P f aW w fun e w'=>∃v S',e=.returned v∧Et w w' S' esz es v∧Below w.heap.size w w'∧(∀b o,S b o→S' b o)∧(∀b o,S' b o→S b o∨w.heap.size≤b)∧Live w' S'
def Po(P:Program)(G:Nat→Option (List D))(f:FuncId)(as:List AV)(m0:Mem)(t0:List (Nat×Bool))(r:CV)(m1:Mem)(t1:List (Nat×Bool)):Prop:=
 Enters P f∧∀(w:World) (S:Safe) (aW:Array Value) (X:List Nat) (mB fI:List (Nat×Nat)) (ρ:bW),
  aN (sQ P G w S X mB fI none) ⟨[],m0,t0⟩ #[] w S ρ→(∀p∈mB,1000≤p.1)→(∀p∈fI,1000≤p.1)→(∀s b,ρ.box s=some b→(s,b)∈mB)→(∀s b,ρ.cO s=some b→(s,b)∈fI)→af w S ρ as aW.toList→
  Calls P f aW w fun e w'=>∃v S' bu,e=.returned v∧xy w' S' bu r v∧aN (sQ P G w S X mB fI (some (w,S))) ⟨[],m1,t1⟩ #[] w' S' bu
def Ev(P:Program)(G:Nat→Option (List D))(f:FuncId)(args:List CV):CV→Prop
 |.own a sz es=>tF P G f args a sz es
 |.one x=>Er P G f args (.one x)
 |.agg x=>Er P G f args (.agg x)
 |.tup x=>Er P G f args (.tup x)
 |.bx as m0 t0 r m1 t1=>Po P G f as m0 t0 r m1 t1
 |.vr _ _ _ _ _=>False
 |.vc esz es=>Wd P G f args esz es
theorem Ev.enters{P G f args r}(h:Ev P G f args r):Enters P f:=by
 cases r<;>first|exact h.1|exact h.elim
theorem Ev.data{P G f args r}(hr:r.fB=false)(h:Ev P G f args r):Er P G f args r:=by
 cases r with
 |own a sz es=>cases hr
 |one x=>exact h
 |agg x=>exact h
 |tup x=>exact h
 |bx=>cases hr
 |vr=>exact h.elim
 |vc=>cases hr
mutual
theorem iT.r8:∀{r:CV} {v:Value},iT w S r v→ay w S ρ r.jM v
 |.one _,_,h=>h
 |.agg _,_,⟨vs,h1,h2⟩=>⟨vs,h1,aS.r9 h2⟩
 |.own _ _ _,_,h=>h
 |.tup _,_,⟨vs,h1,h2⟩=>⟨vs,h1,bA.DL h2⟩
 |.bx _ _ _ _ _ _,_,h=>h.elim
 |.vr _ _ _ _ _,_,h=>h.elim
 |.vc _ _,_,h=>h.elim
theorem bA.DL:∀{rs:List CV} {vs:List Value},bA w S rs vs→af w S ρ (CV.nD rs) vs
 |[],_,h=>h
 |_::_,_,⟨v,r,h,h1,h2⟩=>⟨v,r,h,iT.r8 h1,bA.DL h2⟩
end
theorem bA.append:∀{as bs} {l k},bA w S as l→bA w S bs k→bA w S (as++bs) (l++k)
 |[],_,_,_,h,h'=>by simp only[bA]at h;subst h;simpa using h'
 |_::_,_,_,_,⟨v,r,h,h1,h2⟩,h'=>by subst h;exact⟨v,_,rfl,h1,bA.append h2 h'⟩
theorem aS.Aq:∀{ds} {l},aS w S ds l→bA w S (ds.map .one) l
 |[],_,h=>h
 |_::_,_,⟨v,r,h,h1,h2⟩=>⟨v,r,h,h1,aS.Aq h2⟩
theorem Sg{m}(hm:Through w S ρ m)(n){a v r}(h:ay w S ρ a v)(hr:a.rq m n=some r):iT w S r v:=by
 cases a with
 |agg cs=>
  simp only[AV.rq]at hr;split at hr
  ·rename_i xs ef;cases hr;obtain⟨vs,h1,h2⟩:=h;exact⟨vs,h1,Cx hm n h2 ef⟩
  ·cases hr
 |_=>
  simp only[AV.rq]at hr;split at hr
  ·rename_i x hx;cases hr;exact G2 hm n _ _ _ h hx
  ·cases hr
theorem FT{m}(hm:Through w S ρ m)(n):∀{as} {l} {rs},af w S ρ as l→iP m n as=some rs→bA w S rs l
 |[],_,rs,h,hx=>by simp[iP]at hx;subst hx;exact h
 |a::as,_,rs,⟨v,r,h,h1,h2⟩,hx=>by
  simp only[iP]at hx;split at hx
  ·rename_i y ys hy jT;cases hx;exact⟨v,r,h,Sg hm n h1 hy,FT hm n h2 jT⟩
  ·cases hx
theorem YP{esz}:∀{as} {vs} {es} (k) {cells} {pre},af w S ρ as vs→dj esz as=some es→cells.size=(k+vs.length)*esz→aS w S pre.flatten (cells.toList.take (k*esz))→
  ∃cS,Instr.fill (fun i=>some (i*esz,esz)) cells ((vs.zipIdx k).map fun p=>(p.2,p.1))=some cS∧cS.size=cells.size∧aS w S (pre++es).flatten cS.toList
 |[],vs,es,k,cells,pre,h,he,hs,hp=>by simp only[af]at h;subst h;simp only[dj,Option.some.injEq]at he;subst he;refine⟨cells,rfl,rfl,?_⟩;rw[List.append_nil];have:cells.toList.take (k*esz)=cells.toList:=List.take_of_length_le (by simp at hs⊢;omega);rw[this]at hp;exact hp
 |a::as,vs,es,k,cells,pre,⟨v,r,hv,h1,h2⟩,he,hs,hp=>by
  subst hv;simp only[dj]at he;split at he
  ·rename_i x xs hx ef;split at he
   ·rename_i hlen;cases he;have lG:aS w S x v.cells.toList:=by
     have b6:a≠.undef:=by rintro rfl;simp[AV.cells,j0,AV.mH]at hx
     have Xz:∀g y,a≠.cond g y:=by rintro g y rfl;simp[AV.cells,j0,AV.mH]at hx
     exact Cx xX 1 (Z1 h1 b6 Xz) hx
    have l1:v.cells.size=esz:=by have:=aS.length lG;simp at this;omega
    simp only[List.zipIdx_cons,List.map_cons,Instr.fill];have lH:k*esz+v.cells.size≤cells.size:=by rw[hs,l1,List.length_cons,Nat.add_mul,Nat.add_mul];omega
    rw[if_neg (by simp[l1];rw[l1]at lH;omega)];have hf:=Y4 v.cells (k*esz) cells lH;have cU:(v.cells.zipIdx.foldl (fun(cs:Array Value) (p:Value×Nat)=>cs.setIfInBounds (k*esz+p.2) p.1) cells).size=cells.size:=by rw[←Array.length_toList,hf];simp;omega
    obtain⟨cS,g1,g2,g3⟩:=YP (k+1) (cells:=v.cells.zipIdx.foldl (fun(cs:Array Value) (p:Value×Nat)=>cs.setIfInBounds (k*esz+p.2) p.1) cells) (pre:=pre++[x]) h2 ef (by
     rw[cU,hs,List.length_cons];congr 1;omega) (by
     rw[hf,Nat.succ_mul];have t1:(cells.toList.take (k*esz)).length=k*esz:=by simp;omega
     rw[List.append_assoc,List.take_append,List.take_of_length_le (by rw[t1];omega),t1];rw[show k*esz+esz-k*esz=v.cells.toList.length by simp[l1]];rw[List.take_left];rw[List.flatten_append,List.flatten_cons,List.flatten_nil,List.append_nil];exact aS.append hp lG)
    refine⟨cS,g1,g2.trans cU,?_⟩;simpa using g3
   ·cases he
  ·cases he
theorem Yv(h:aN c st tmps w S ρ){o t esz eb n zs}(ht:aK c.P t (.slice esz eb zs)=true){parts xs ds}
  (ho:o.op=.buildSlice t n parts) (hp:parts.toList.map (·.1)=List.range n) (hx:mI (parts.toList.map (·.2))=some xs) (hg:mG st xs=true) {es} (hr:dj esz (ju st xs)=some es) (pk:n*esz≤2^24):
  ∃(cS:Array Value) (e:TypeId),(execOp (Act.eval ⟨tmps,ds⟩) o).run c.P w=.ok (.value (.slice (some ⟨w.heap.size,0,none⟩) n n)) (w.alloc (.cells cS e))∧aS w S es.flatten cS.toList∧cS.size=n*esz∧es.length=n∧(∀e∈es,e.length=esz)∧esz≠0:=by
 obtain⟨e,ie,z,hu,fp,q1,q2,q3,q4,q5⟩:=tO ht;have Jv:=h.ju (ds:=ds) hx hg;have hlen:parts.size=n:=by have:=congrArg List.length hp;simpa using this
 have E9:(parts.map fun x=>(x.1,Act.eval ⟨tmps,ds⟩ x.2)).toList=((((parts.toList.map (·.2)).map (Act.eval ⟨tmps,ds⟩)).zipIdx 0).map fun p=>(p.2,p.1)):=by
  apply List.ext_getElem?;intro i;simp only[Array.toList_map,List.getElem?_map,List.getElem?_zipIdx];have hi:(parts.toList.map (·.1))[i]? =(List.range n)[i]? :=by rw[hp]
  simp only[List.getElem?_map,List.getElem?_range]at hi;cases XA:parts.toList[i]? with
  |none=>simp
  |some p=>
   simp only[XA,Option.map_some]at hi⊢;have gx:i<n:=by have:=(List.getElem?_eq_some_iff.1 XA).1;simp at this;omega
   simp[gx]at hi;simp[hi]
 generalize qC:(if n*esz=0 then(#[]:Array Value)else z.cells)=z0;have BW:((Array.range (n*esz)).map (z0[· %z0.size]!)).size=(0+((parts.toList.map (·.2)).map (Act.eval ⟨tmps,ds⟩)).length)*esz:=by simp[hlen]
 obtain⟨cS,g1,g2,g3⟩:=YP (w:=w) (S:=S) (ρ:=ρ) (esz:=esz) 0 (pre:=[]) Jv hr BW (by simp[aS]);have uy:es.length=n:=by
  have:∀(as:List AV) (es:List (List D)),dj esz as=some es→es.length=as.length:=by
   intro as;induction as with
   |nil=>intro es he;simp[dj]at he;subst he;rfl
   |cons a as ih=>
    intro es he;simp only[dj]at he;split at he
    ·split at he
     ·cases he;simp[ih _ ‹_›]
     ·cases he
    ·cases he
  rw[this _ _ hr];have h1:=af.length Jv;simp only[List.length_map,Array.length_toList]at h1;omega
 have cT:∀e∈es,e.length=esz:=by
  have:∀(as:List AV) (es:List (List D)),dj esz as=some es→∀e∈es,e.length=esz:=by
   intro as;induction as with
   |nil=>intro es he;simp[dj]at he;subst he;simp
   |cons a as ih=>
    intro es he;simp only[dj]at he;split at he
    ·split at he
     ·rename_i hl;cases he;intro e' IQ;rcases List.mem_cons.1 IQ with rfl|IQ
      ·exact hl
      ·exact ih _ ‹_› e' IQ
     ·cases he
    ·cases he
  exact this _ _ hr
 have dU:cS.size=n*esz:=by rw[g2];simp
 refine⟨cS,e,?_,by simpa using g3,dU,uy,cT,q3⟩;unfold execOp;simp only[ho];have fk:¬n*ie.size>2^24:=by rw[q1];omega
 simp only[Instr.buildSlice,Sem.run_bind,run_underlying hu,Result.andThen_ok,run_sizeOf fp];rw[if_neg fk];simp only[Sem.run_bind,Sem.run_pure,Result.andThen_ok];rw[q1,E9];by_cases h0:n*esz=0
 ·have wg:z0=#[]:=by rw[←qC,if_pos h0]
  subst wg;rw[if_pos h0];simp only[Sem.run_bind,Sem.run_pure,Result.andThen_ok];rw[g1];simp[newRow]
 ·have wg:z0=z.cells:=by rw[←qC,if_neg h0]
  subst wg;rw[if_neg h0];simp only[Sem.run_bind,Sem.run_pure,Result.andThen_ok,Ki fp q4];rw[g1];simp[newRow]
theorem Ya(h:aN c st tmps w S ρ){o t esz eb n zs}(ht:aK c.P t (.slice esz eb zs)=true){parts xs ds}
  (ho:o.op=.buildSlice t n parts) (hp:parts.toList.map (·.1)=List.range n) (hx:mI (parts.toList.map (·.2))=some xs) (hg:mG st xs=true) {es} (hr:dj esz (ju st xs)=some es) (pk:n*esz≤2^24):
  ∃cv w' S',(execOp (Act.eval ⟨tmps,ds⟩) o).run c.P w=.ok (.value cv) w'∧aN c st tmps w' S' ρ∧ay w' S' ρ (.full es) cv:=by
 obtain⟨cS,e,aB,g3,dU,uy,cT,q3⟩:=Yv h ht ho hp hx hg hr pk;have hs:=h.newRow cS e;refine⟨.slice (some ⟨w.heap.size,0,none⟩) n n,_,_,aB,hs,?_,_,n,rfl⟩
 ·have hk:aY w S (w.alloc (.cells cS e)) (fun b o=>S b o∨(b=w.heap.size∧o<cS.size)):=fun b o fg=>by obtain⟨v,hv⟩:=h.live b o fg;exact⟨.inl fg,(Lc hv).trans hv.symm⟩
  have hl:=aS.keep hk _ _ g3;have:=H6 (cap:=n) cT hl (b:=w.heap.size) (fun j v hj=>by
   have tW:j<cS.size:=by have:=(List.getElem?_eq_some_iff.1 hj).1;simpa using this
   refine⟨?_,.inr ⟨rfl,tW⟩⟩;simp only[World.cell?_alloc_new];simpa using hj) (by omega) (by have:n≤n*esz:=Nat.le_mul_of_pos_right _ (by omega);omega)
  rw[uy]at this;exact this
theorem Ks{P t s}(ht:aK P t (.cell (.d (.str s)))=true):P.underlying t=some .string:=by simp only[aK,Bool.and_eq_true,sI]at ht;have:=ht.1.1;split at this<;>simp_all
theorem yQJ(h:aN c st tmps w S ρ){o t}(ht:aK c.P t (.cell (.d (.str [])))=true){x y x' y' ds}
  (ho:o.op=.index t x y) (hx:bQ x=some x') (hy:bQ y=some y') (hg:gd st x'=true) (pI:gd st y'=true) {s} {k} {n} (hs:ev st x'=.d (.str s)) (hn:ev st y'=.d (.int k n)) (cZ:0≤n∧n<s.length):
  ∃cv,(execOp (Act.eval ⟨tmps,ds⟩) o).run c.P w=.ok (.value cv) w∧ay w S ρ (.d (.int .u8 ((s.getD n.toNat 0).toNat:Nat))) cv:=by
 have e1:=h.ev hx hg (ds:=ds);have e2:=h.ev hy pI (ds:=ds);rw[hs]at e1;rw[hn]at e2;obtain⟨b,hv,rfl,_⟩:=e1;have e2:Act.eval ⟨tmps,ds⟩ y=.int k n:=e2;have cU:b.size=b.data.toList.length:=by simp
 have hi:0≤n∧n<b.size:=by rw[cU];exact cZ
 refine⟨.int .u8 ((b.data.toList.getD n.toNat 0).toNat:Nat),?_,rfl⟩;unfold execOp;simp only[ho,hv,e2];have:=run_index_string (P:=c.P) (w:=w) t b k n (Ks ht);rw[dif_pos hi]at this;have bf:n.toNat<b.size:=by omega
 have lh:b[n.toNat]=b.data.toList.getD n.toNat 0:=by rw[List.getD_eq_getElem?_getD,List.getElem?_eq_getElem (by simp;omega)];rfl
 rw[lh]at this;simp[this]
theorem yQw(h:aN c st tmps w S ρ){o t m zs}(ht:aK c.P t (.arr m 1 false zs)=true){x y x' y' ds}
  (ho:o.op=.index t x y) (hx:bQ x=some x') (hy:bQ y=some y') (hg:gd st x'=true) (pI:gd st y'=true) {cs} {k} {n} (hs:ev st x'=.agg cs) (hn:ev st y'=.d (.int k n)) (cZ:(0≤n∧n<m)∧n<cs.length):
  ∃cv,(execOp (Act.eval ⟨tmps,ds⟩) o).run c.P w=.ok (.value cv) w∧ay w S ρ (cs.getD n.toNat .undef) cv:=by
 have e1:=h.ev hx hg (ds:=ds);have e2:=h.ev hy pI (ds:=ds);rw[hs]at e1;rw[hn]at e2;obtain⟨vs,hv,hr⟩:=e1;have e2:Act.eval ⟨tmps,ds⟩ y=.int k n:=e2;simp only[aK,Bool.and_eq_true]at ht;obtain⟨_,ht⟩:=ht;split at ht
 ·rename_i m' e i hu hi;simp only[Bool.and_eq_true]at ht;obtain⟨⟨⟨⟨⟨hm,_⟩,_⟩,he⟩,B5⟩,dE⟩:=ht;have hm:m'=m:=by simpa using hm
  subst hm;split at he
  ·rename_i ie fp;have he:ie.size=1:=by simpa using he
   have pg:(isAgg e).run c.P w=.ok false w:=Ny w (by simpa using B5) dE;have hlen:=af.length hr;have bf:n.toNat<vs.size:=by simp at hlen;omega
   obtain⟨v,Q7,lD⟩:∃v,vs[n.toNat]? =some v∧ay w S ρ (cs.getD n.toNat .undef) v:=by
    have h2:n.toNat<cs.length:=by omega
    have:∀{as:List AV} {l:List Value} (i:Nat),af w S ρ as l→i<as.length→∃v,l[i]? =some v∧ay w S ρ (as.getD i .undef) v:=by
     intro as;induction as with
     |nil=>intro l i _ h;simp at h
     |cons a as ih=>
      rintro l i ⟨v,r,rfl,h1,h2⟩ hi
      cases i with
      |zero=>exact⟨v,rfl,h1⟩
      |succ i=>exact ih i h2 (by simpa using hi)
    obtain⟨v,h3,h4⟩:=this n.toNat hr h2;exact⟨v,by simpa using h3,h4⟩
   refine⟨v,?_,lD⟩;unfold execOp;simp only[ho,hv,e2];simp[Instr.index,asIntOf,run_underlying hu,cZ.1,run_sizeOf fp,he,part,pg,Q7]
  ·cases he
 ·cases ht
theorem yVE(h:aN c st tmps w S ρ){o t}(ht:aK c.P t (.cell (.d (.str [])))=true){x y x' y' ds}
  (ho:o.op=.slice t x (some y) none none) (hx:bQ x=some x') (hy:bQ y=some y') (hg:gd st x'=true) (pI:gd st y'=true) {s} {k} {n} (hs:ev st x'=.d (.str s)) (hn:ev st y'=.d (.int k n)) (cZ:0≤n∧n≤s.length):
  ∃cv,(execOp (Act.eval ⟨tmps,ds⟩) o).run c.P w=.ok (.value cv) w∧ay w S ρ (.d (.str (s.drop n.toNat))) cv:=by
 have e1:=h.ev hx hg (ds:=ds);have e2:=h.ev hy pI (ds:=ds);rw[hs]at e1;rw[hn]at e2;obtain⟨b,hv,rfl,hb⟩:=e1;have e2:Act.eval ⟨tmps,ds⟩ y=.int k n:=e2;have cU:b.size=b.data.toList.length:=by simp
 refine⟨.string (b.extract n.toNat b.size),?_,_,rfl,?_,?_⟩
 ·unfold execOp;simp only[ho,hv,e2];simp[Instr.sliceAt,Instr.slice,run_underlying (Ks ht),Instr.sliceBounds,run_sliceBound,e2,cZ.1,(by rw[cU];exact cZ.2:n≤(b.size:Int))]
 ·simp[ByteArray.data_extract];exact List.take_of_length_le (by simp)
 ·simp[ByteArray.size_extract];omega
theorem Yd(h:aN c st tmps w S ρ){o t}(ht:aK c.P t (.cell (.d (.str [])))=true){x z y x' y' z' ds}
  (ho:o.op=.slice t x y (some z) none) (hx:bQ x=some x') (hy:(∃y0,y=some y0∧bQ y0=some y')∨(y=none∧y'=.c (.d (.int .i64 0)))) (hz:bQ z=some z') (hg:gd st x'=true) (pI:gd st y'=true) (EZ:gd st z'=true)
  {s} {k k'} {l m} (hs:ev st x'=.d (.str s)) (hl:ev st y'=.d (.int k l)) (hm:ev st z'=.d (.int k' m)) (cZ:0≤l∧l≤m∧m≤s.length):
  ∃cv,(execOp (Act.eval ⟨tmps,ds⟩) o).run c.P w=.ok (.value cv) w∧ay w S ρ (.d (.str ((s.take m.toNat).drop l.toNat))) cv:=by
 have e1:=h.ev hx hg (ds:=ds);have e3:=h.ev hz EZ (ds:=ds);rw[hs]at e1;rw[hm]at e3;obtain⟨b,hv,rfl,hb⟩:=e1;have e3:Act.eval ⟨tmps,ds⟩ z=.int k' m:=e3;have cU:b.size=b.data.toList.length:=by simp
 have wT:m≤(b.size:Int):=by rw[cU];exact cZ.2.2
 refine⟨.string (b.extract l.toNat m.toNat),?_,_,rfl,?_,?_⟩
 ·unfold execOp;rcases hy with⟨y0,rfl,hy⟩|⟨rfl,rfl⟩
  ·have e2:=h.ev hy pI (ds:=ds);rw[hl]at e2;have e2:Act.eval ⟨tmps,ds⟩ y0=.int k l:=e2;simp only[ho,hv,e3,Option.map_some,e2];simp[Instr.sliceAt,Instr.slice,run_underlying (Ks ht),Instr.sliceBounds,run_sliceBound,cZ.1,(by omega:0≤m),wT,Int.toNat_of_nonneg (by omega:0≤m),cZ.2.1]
  ·simp only[ev,tR,AV.strip,AV.d.injEq,D.int.injEq]at hl;obtain⟨_,rfl⟩:=hl;simp only[ho,hv,e3];simp[Instr.sliceAt,Instr.slice,run_underlying (Ks ht),Instr.sliceBounds,run_sliceBound,e3,(by omega:0≤m),wT]
 ·simp[ByteArray.data_extract,List.drop_take]
 ·simp[ByteArray.size_extract];omega
theorem bY.drop{sz}:∀{es} {b o} (n),(∀e∈es,e.length=sz)→bY w S b o es→bY w S b (o+n*sz) (es.drop n)
 |[],_,_,n,_,_=>by simp[bY]
 |e::es,b,o,0,_,h=>by simpa using h
 |e::es,b,o,n+1,hl,h=>by
  have h2:=bY.drop (es:=es) n (fun e he=>hl e (by simp[he])) h.2;rw[hl e (by simp)]at h2;have e1:o+(n+1)*sz=o+sz+n*sz:=by rw[Nat.succ_mul];omega
  rw[e1];exact h2
theorem bY.take:∀{es} {b o} (n),bY w S b o es→bY w S b o (es.take n)
 |[],_,_,n,_=>by simp[bY]
 |e::es,b,o,0,h=>by simp[bY]
 |e::es,b,o,n+1,h=>⟨h.1,bY.take n h.2⟩
theorem yxb{es esz n cap base}(hr:dR w S (.aw es) (.slice base n cap))(hl:∀e∈es,e.length=esz){l m}(h1:l≤m)(h2:m≤es.length):
  n=es.length∧n≤cap∧dR w S (.aw ((es.take m).drop l)) (sliced base l m cap esz):=by
 obtain⟨CU,cu,hv,oO,mu,IJ,IK⟩:=hr;cases hv;refine⟨rfl,oO,(if cap=l then base else base.map (·.add (l*esz))),cap-l,?_,?_,?_,?_,?_⟩
 ·simp only[sliced,List.length_drop,List.length_take,Nat.min_eq_left h2]
 ·simp only[List.length_drop,List.length_take,Nat.min_eq_left h2];omega
 ·omega
 ·intro h;split at h
  ·omega
  ·have:base=none:=by simpa using h
   have:=IJ this;omega
 ·intro a ha;have cU:∃sz,∀e∈(es.take m).drop l,e.length=sz:=⟨esz,fun e he=>hl e (List.mem_of_mem_take (List.mem_of_mem_drop he))⟩;split at ha
  ·rename_i jn;have il:(es.take m).drop l=[]:=by apply List.drop_of_length_le;simp;omega
   exact⟨fun h=>by omega,cU,by rw[il];trivial⟩
  ·cases base with
   |none=>cases ha
   |some a0=>obtain⟨gy,_,fW⟩:=IK a0 rfl;have gy:=gy (by omega);obtain⟨b,off,sp⟩:=a0;simp only at gy fW;subst gy;simp only[Option.map_some,addr_add,Option.some.injEq]at ha;subst ha;exact⟨fun _=>rfl,cU,bY.drop l (fun e he=>hl e (List.mem_of_mem_take he)) (bY.take m fW)⟩
theorem yVD(h:aN c st tmps w S ρ){o t esz eb zs}(ht:aK c.P t (.slice esz eb zs)=true){x y x' y' ds}
  (ho:o.op=.slice t x (some y) none none) (hx:bQ x=some x') (hy:bQ y=some y') (hg:gd st x'=true) (pI:gd st y'=true) {es} {k} {n} (hs:(ev st x').elems=some es) (hn:ev st y'=.d (.int k n)) (cZ:(0≤n∧n≤es.length)∧∀e∈es,e.length=esz):
  ∃cv,(execOp (Act.eval ⟨tmps,ds⟩) o).run c.P w=.ok (.value cv) w∧ay w S ρ (.d (.aw (es.drop n.toNat))) cv:=by
 have e1:=FU (h.ev hx hg (ds:=ds)) hs;have e2:=h.ev hy pI (ds:=ds);rw[hn]at e2;have e2:Act.eval ⟨tmps,ds⟩ y=.int k n:=e2;obtain⟨e,ie,z,hu,fp,h1,_,h3,_⟩:=tO ht;have tQ:=e1;obtain⟨base,cap,hv,oO,_⟩:=tQ;rw[hv]at e1;have U6:es.length=es.length:=rfl;obtain⟨_,_,aM⟩:=yxb e1 cZ.2 (l:=n.toNat) (m:=es.length) (by omega) (Nat.le_refl _);rw[List.take_length]at aM;refine⟨_,?_,aM⟩;unfold execOp;simp only[ho,hv,e2];simp[Instr.sliceAt,Instr.slice,run_underlying hu,Instr.sliceBounds,run_sliceBound,e2,cZ.1.1,cZ.1.2,run_sizeOf fp,h1,sliced]
theorem Yc(h:aN c st tmps w S ρ){o t esz eb zs}(ht:aK c.P t (.slice esz eb zs)=true){x z y x' y' z' ds}
  (ho:o.op=.slice t x y (some z) none) (hx:bQ x=some x') (hy:(∃y0,y=some y0∧bQ y0=some y')∨(y=none∧y'=.c (.d (.int .i64 0)))) (hz:bQ z=some z') (hg:gd st x'=true) (pI:gd st y'=true) (EZ:gd st z'=true)
  {es} {k k'} {l m} (hs:(ev st x').elems=some es) (hl:ev st y'=.d (.int k l)) (hm:ev st z'=.d (.int k' m)) (cZ:(0≤l∧l≤m∧m≤es.length)∧∀e∈es,e.length=esz):
  ∃cv,(execOp (Act.eval ⟨tmps,ds⟩) o).run c.P w=.ok (.value cv) w∧ay w S ρ (.d (.aw ((es.take m.toNat).drop l.toNat))) cv:=by
 have e1:=FU (h.ev hx hg (ds:=ds)) hs;have e3:=h.ev hz EZ (ds:=ds);rw[hm]at e3;have e3:Act.eval ⟨tmps,ds⟩ z=.int k' m:=e3;obtain⟨e,ie,zz,hu,fp,h1,_,h3,_⟩:=tO ht;have tQ:=e1;obtain⟨base,cap,hv,oO,_⟩:=tQ;rw[hv]at e1;obtain⟨_,_,aM⟩:=yxb e1 cZ.2 (l:=l.toNat) (m:=m.toNat) (by omega) (by omega);have I9:m≤(cap:Int):=by omega
 have uC:0≤m:=by omega
 refine⟨_,?_,aM⟩;unfold execOp;rcases hy with⟨y0,rfl,hy⟩|⟨rfl,rfl⟩
 ·have e2:=h.ev hy pI (ds:=ds);rw[hl]at e2;have e2:Act.eval ⟨tmps,ds⟩ y0=.int k l:=e2;simp only[ho,hv,e3,Option.map_some,e2];simp[Instr.sliceAt,Instr.slice,run_underlying hu,Instr.sliceBounds,run_sliceBound,cZ.1.1,uC,I9,Int.toNat_of_nonneg uC,cZ.1.2.1,run_sizeOf fp,h1,sliced]
 ·simp only[ev,tR,AV.strip,AV.d.injEq,D.int.injEq]at hl;obtain⟨_,rfl⟩:=hl;simp only[ho,hv,e3];simp[Instr.sliceAt,Instr.slice,run_underlying hu,Instr.sliceBounds,run_sliceBound,e3,uC,I9,run_sizeOf fp,h1,sliced]
end Go.Abs
end
section
namespace Go.Abs
open Go.RowKit
open Go.Maps (Keyed)
variable{c:Ctx}{st:St}{tmps:Array Value}{w:World}{S:Safe}{ρ:bW}
theorem S9{P}{t k e:Nat}{kz ez}(h:aK P t (.map k e kz ez)=true):
  P.underlying t=some (.map k e)∧jF P k kz=true∧∃ie v,P.info? e=some ie∧ie.zero=some v∧∀(w) (S),lV w S ez v:=by
 simp only[aK,Bool.and_eq_true]at h;obtain⟨h1,h⟩:=h;split at h
 ·rename_i k' e' i ie hu hi fp;simp only[Bool.and_eq_true,beq_iff_eq]at h;obtain⟨⟨⟨⟨rfl,rfl⟩,_⟩,_⟩,h3⟩:=h;refine⟨hu,h1,ie,?_⟩;split at h3
  ·rename_i v hz;exact⟨v,fp,hz,fun w S=>yQ1 w S h3⟩
  ·cases h3
 ·cases h
theorem yJd{a x v}(hr:ay w S ρ a v)(hx:a.tx=some x):lV w S x v:=by
 unfold AV.tx at hx;split at hx
 ·rename_i cs;split at hx
  ·rename_i xs ef;cases hx;obtain⟨vs,rfl,h2⟩:=hr;exact⟨vs,rfl,Cx (xX) 1 h2 ef⟩
  ·cases hx
 ·cases hx;exact hr
 ·cases hx
theorem MV.Yk{x v}(h:lV w S x v):ay w S ρ x.av v:=by
 cases x with
 |one x=>exact h
 |agg xs=>
  obtain⟨cs,rfl,h2⟩:=h;refine⟨cs,rfl,?_⟩;have:∀{xs:List D} {l:List Value},aS w S xs l→af w S ρ (xs.map .d) l:=by
   intro xs;induction xs with
   |nil=>intro l h;exact h
   |cons x xs ih=>intro l ⟨v,r,e,h1,h2⟩;exact⟨v,r,e,h1,ih h2⟩
  exact this h2
theorem TD{P}{k:Nat}{kz}(h:jF P k kz=true):Keyed P k:=by
 cases kz<;>simp only[jF,Bool.false_eq_true]at h
 ·split at h
  ·rename_i hu;exact Maps.bool_keyed hu
  ·cases h
 ·split at h
  ·rename_i hu;exact Maps.int_keyed hu
  ·cases h
 ·split at h
  ·rename_i hu;exact Maps.string_keyed hu
  ·cases h
theorem X5{P}{k:Nat}{kz kd v}(h:jF P k kz=true)(hl:j8 kz kd=true)(hp:nz kd)(hr:dR w S kd v):keyOf P k v=some (pq kd)∧gI kd=true:=by
 cases kz<;>cases kd<;>simp only[j8,Bool.false_eq_true]at hl<;>simp only[jF]at h
 ·simp only[dR]at hr;subst hr;split at h
  ·rename_i hu;exact⟨Maps.keyOf_bool_mk hu _,rfl⟩
  ·cases h
 ·simp only[dR]at hr;subst hr;rename_i q _ q' n;split at h
  ·rename_i q2 hu;simp only[beq_iff_eq]at h hl;subst h;subst hl;refine⟨Maps.keyOf_int_mk hu ?_,rfl⟩;simp only[nz]at hp;simp[Lit.wf,hp.1,hp.2]
  ·cases h
 ·obtain⟨x,rfl,rfl,hs⟩:=hr;split at h
  ·rename_i hu;exact⟨WideMaps.keyOf_string_mk hu hs,rfl⟩
  ·cases h
theorem aN.Fw(h:aN c st tmps w S ρ){s}(hs:getM st.mem s=none)(hN:s<c.N)(k e):
  ∃bu,ρ.le bu∧bu.cO s=some w.heap.size∧aN c {st with mem:=(s,[.mp k e []])::st.mem} tmps (w.alloc (.map #[] 0)) S bu:=by
 have hg:=h.grow (w':=w.alloc (.map #[] 0)) (S':=S) ((Below.refl _ _).alloc (Nat.le_refl _) _) (fun b o hs=>hs) (fun b o hs=>.inl hs) (fun b o hs=>by obtain⟨v,hv⟩:=h.live b o hs;exact⟨v,Lc hv⟩);have hle:ρ.le {ρ with cO:=fun k=>if k=s then some w.heap.size else ρ.cO k}:=by
  refine⟨fun _ _ h=>h,fun _ _ h=>h,fun k b hk=>?_⟩;by_cases mQ:k=s
  ·subst mQ;rw[h.cL.new k hs]at hk;cases hk
  ·simp[mQ,hk]
 have hold:∀k b,ρ.cO k=some b→(getM st.mem k).isSome=true:=by
  intro k b hk;cases hm:getM st.mem k with
  |none=>rw[h.cL.new k hm]at hk;cases hk
  |some _=>rfl
 have hk:aY (w.alloc (.map #[] 0)) S (w.alloc (.map #[] 0)) S:=aY.refl _ _;refine⟨_,hle,by simp,?_⟩;refine{size:=hg.size,ae:=fun k=>(hg.ae k).keep hk hle,mem:=?_,inj:=hg.inj,aQ:=?_,cL:=?_,tok:=?_,aV:=hg.aV,below:=hg.below,fX:=hg.fX,new:=hg.new,live:=hg.live,b5:=hg.b5,fx:=hg.fx,ex:=hg.ex,eH:=hg.eH,keeps:=hg.keeps,pins:=h.pins.sub (fun _ _ e=>.inr e) (fun s' b e=>by
  simp only at e;by_cases b9:s'=s
  ·exact .inl (b9▸hN)
  ·rw[if_neg b9]at e;exact .inr e)}
 ·intro k' kt dQ fG;simp only[getM]at dQ;split at dQ
  ·cases dQ;cases fG
  ·obtain⟨b,vs,e',g1,g2,g3,g4,g6⟩:=hg.mem k' kt dQ fG;exact⟨b,vs,e',g1,g2,g3,af.keep hk hle kt _ g4,g6⟩
 ·intro k' dQ;simp only[getM]at dQ;split at dQ
  ·cases dQ
  ·exact h.aQ k' dQ
 ·refine{at':=fun k' q q' cA dQ=>?_,inj:=fun k' k'' b h1 h2=>?_,new:=fun k' dQ=>?_,lt:=fun k' b h1=>?_,apart:=fun k' b h1=>?_}
  ·simp only[getM]at dQ;split at dQ
   ·rename_i A9;subst A9;simp only[Option.some.injEq,List.cons.injEq,AV.mp.injEq,and_true]at dQ;obtain⟨rfl,rfl,rfl⟩:=dQ;exact⟨w.heap.size,by simp,h.aQ s hs,.inl h.below.size,⟨[],rfl,World.ownsMap_made w c.P k sy⟩⟩
   ·rename_i A9;obtain⟨b,g1,g2,g3⟩:=hg.cL.at' k' q q' cA dQ;exact⟨b,hle.2.2 _ _ g1,g2,g3⟩
  ·have bf:∀k b,ρ.cO k=some b→b≠w.heap.size:=fun k0 b GO=>by have:=h.cL.lt k0 b GO;omega
   simp only at h1 h2;split at h1<;>split at h2
   ·simp_all
   ·cases h1;exact absurd rfl (bf _ _ h2)
   ·cases h2;exact absurd rfl (bf _ _ h1)
   ·exact h.cL.inj _ _ _ h1 h2
  ·simp only[getM]at dQ;split at dQ
   ·cases dQ
   ·rename_i A9;have:¬k'=s:=fun e=>A9 e.symm;simp[this,h.cL.new k' dQ]
  ·simp only at h1;split at h1
   ·cases h1;exact(World.ownsMap_made w c.P k sy).lt
   ·exact hg.cL.lt _ _ h1
  ·have:¬k'=s:=fun e=>by subst e;rw[h.aQ k' hs]at h1;cases h1
   simp[this,h.cL.apart k' b h1]
 ·intro t ht;obtain⟨x,g1,g2⟩:=hg.tok t ht;exact⟨x,g1,g2⟩
theorem aN.Al(h:aN c st tmps w S ρ){s b k e cA Fu w'}(hb:ρ.cO s=some b)(hs:getM st.mem s=some [.mp k e cA])(hg:w.grownBy w' (some b))(hm:nS c.P w' S b k e Fu):
  aN c {st with mem:=(s,[.mp k e Fu])::st.mem} tmps w' S ρ:=by
 obtain⟨b1,m1,m2,m3,m4⟩:=h.cL.at' s k e cA hs;obtain rfl:=Option.some.inj (hb.symm.trans m1);obtain⟨es0,EC,wT⟩:=m4.obj;have kv:∀b' x,w.heap[b']? =some x→b'≠b→w'.heap[b']? =some x:=fun b' x hx b6=>by rw[hg.block b' (Array.getElem?_eq_some_iff.1 hx).1 (fun e=>b6 (Option.some.inj e)),hx]
 have cB:∀b' o v,w.cell? ⟨b',o,none⟩=some v→b'≠b:=fun b' o v rS e=>by subst e;simp[World.cell?,wT]at rS
 have hk:aY w S w' S:=fun b' o fg=>by obtain⟨v,hv⟩:=h.live b' o fg;exact⟨fg,World.cell?_of_block (w:=w) (hg.block b' (qh hv) (fun e=>cB b' o v hv (Option.some.inj e)))⟩
 refine{size:=h.size,ae:=fun k=>(h.ae k).keep hk ρ.le_refl,mem:=?_,inj:=h.inj,aQ:=?_,cL:=?_,tok:=?_,aV:=h.aV,
        below:=h.below.grown hg (fun k e=>by cases e;exact m3),fX:=h.fX,new:=h.new,live:=fun b' o hs=>?_,b5:=fun g cs hg=>aP.keep hk g 0 cs (h.b5 g cs hg),fx:=h.fx,ex:=h.ex,eH:=fun p hp=>⟨?_,(h.eH p hp).2⟩,keeps:=fun p hp=>(h.keeps p hp).trans hk,pins:=h.pins}
 ·intro k' kt dQ fG;simp only[getM]at dQ;split at dQ
  ·cases dQ;cases fG
  ·obtain⟨b',vs,e',g1,g2,g3,g4,g6⟩:=h.mem k' kt dQ fG;exact⟨b',vs,e',g1,g2,kv _ _ g3 (fun e=>by subst e;rw[wT]at g3;cases g3),af.keep hk ρ.le_refl kt _ g4,g6⟩
 ·intro k' dQ;simp only[getM]at dQ;split at dQ
  ·cases dQ
  ·exact h.aQ k' dQ
 ·refine{at':=fun k' q q' Rn dQ=>?_,inj:=h.cL.inj,new:=fun k' dQ=>?_,lt:=fun k' b' h1=>Nat.lt_of_lt_of_le (h.cL.lt k' b' h1) hg.size,apart:=h.cL.apart}
  ·simp only[getM]at dQ;split at dQ
   ·rename_i A9;subst A9;simp only[Option.some.injEq,List.cons.injEq,AV.mp.injEq,and_true]at dQ;obtain⟨rfl,rfl,rfl⟩:=dQ;exact⟨b,hb,m2,m3,hm⟩
   ·rename_i A9;obtain⟨b',g1,g2,g3,g4⟩:=h.cL.at' k' q q' Rn dQ;have b6:b'≠b:=fun e=>A9 (h.cL.inj _ _ _ hb (e▸g1));exact⟨b',g1,g2,g3,g4.to hk (hg.block b' g4.lt (fun e=>b6 (Option.some.inj e)))⟩
  ·simp only[getM]at dQ;split at dQ
   ·cases dQ
   ·exact h.cL.new k' dQ
 ·intro t ht;obtain⟨x,g1,g2⟩:=h.tok t ht;refine⟨x,g1,?_⟩;rcases g2 with g2|⟨b',g0,k1,⟨cur,e',k2,rX⟩,k3,k4,k5,k6,k7⟩
  ·exact .inl g2
  ·exact .inr ⟨b',g0,k1,⟨cur,e',kv _ _ k2 (fun e=>by subst e;rw[wT]at k2;cases k2),rX⟩,k3,k4,k5,k6,k7⟩
 ·obtain⟨v,hv⟩:=h.live b' o hs;exact⟨v,((hk b' o hs).2).trans hv⟩
 ·have BA:=h.eH p hp;exact kv _ _ BA.1 (fun e=>by rw[e,wT]at BA;rw[←Option.some.inj BA.1]at BA;cases BA.2)
theorem xzo(h:aN c st tmps w S ρ){o t k e ds}(ho:o.op=.makeMap t none){s}(hs:getM st.mem s=none)(hN:s<c.N):
  ∃bu,(execOp (Act.eval ⟨tmps,ds⟩) o).run c.P w=.ok (.value (.map (some w.heap.size))) (w.alloc (.map #[] 0))∧bu.cO s=some w.heap.size∧aN c {st with mem:=(s,[.mp k e []])::st.mem} tmps (w.alloc (.map #[] 0)) S bu:=by
 obtain⟨bu,_,h2,h3⟩:=h.Fw hs hN k e;refine⟨bu,?_,h2,h3⟩;unfold execOp;simp only[ho];simp[run_makeMap]
theorem yQH(h:aN c st tmps w S ρ){o t k e kz ez}(ht:aK c.P t (.map k e kz ez)=true){x y z x' y' z' ds}(ho:o.op=.mapUpdate t x y z)(hx:bQ x=some x')(hy:bQ y=some y')(hz:bQ z=some z')
  {s} {cA} {kd} {vd} (ex:ev st x'=.mref s) (ey:ev st y'=.d kd) (PG:(ev st z').tx=some vd) (hm:getM st.mem s=some [.mp k e cA]) (g1:gd st x'=true) (g2:gd st y'=true) (g3:gd st z'=true)
  (hl:j8 kz kd=true) (hp:nz kd) (hn:cA.length<9223372036854775807):
  ∃w',(execOp (Act.eval ⟨tmps,ds⟩) o).run c.P w=.ok .skip w'∧aN c {st with mem:=(s,[.mp k e ((kd,vd)::cA)])::st.mem} tmps w' S ρ:=by
 obtain⟨hu,hk,_⟩:=S9 ht;have e1:=h.ev hx g1 (ds:=ds);have e2:=h.ev hy g2 (ds:=ds);have e3:=yJd (h.ev hz g3 (ds:=ds)) PG;rw[ex]at e1;rw[ey]at e2;obtain⟨b,hb,hv⟩:=e1;obtain⟨b1,m1,m2,m3,l,m4,m5⟩:=h.cL.at' s k e cA hm;obtain rfl:=Option.some.inj (hb.symm.trans m1);obtain⟨ym,Mo⟩:=X5 hk hl hp e2;obtain⟨w',aB,r1,r2⟩:=m5.update (TD hk) hu hn ym (show sy (Act.eval ⟨tmps,ds⟩ z)=some (.held (Act.eval ⟨tmps,ds⟩ z),[])from rfl);obtain⟨es0,EC,wT⟩:∃es clock,w.heap[b]? =some (Obj.map es clock):=by obtain⟨es,clock,hb,_⟩:=m5;exact⟨es,clock,hb⟩
 have cB:∀b' o v,w.cell? ⟨b',o,none⟩=some v→b'≠b:=fun b' o v rS e=>by subst e;simp[World.cell?,wT]at rS
 have Mq:aY w S w' S:=fun b' o fg=>by obtain⟨v,hv⟩:=h.live b' o fg;exact⟨fg,World.cell?_of_block (w:=w) (r2.block b' (qh hv) (fun e=>cB b' o v hv (Option.some.inj e)))⟩
 refine⟨w',?_,h.Al hb hm r2 ⟨(kd,_)::l,⟨_,_,rfl,Mo,e3.keep Mq,m4.keep Mq⟩,r1⟩⟩;unfold execOp;simp only[ho,hv];simp[aB]
theorem yQF(h:aN c st tmps w S ρ){o t k e k' e' kz ez tys}(ht:aK c.P t (.map k' e' kz ez)=true){x x' ds}(ho:o.op=.call {callee:=.builtin .clear,args:=#[x],argTypes:=(t::tys).toArray})(hd:o.dst=none)(hx:bQ x=some x')
  {s} {cA} (ex:ev st x'=.mref s) (hm:getM st.mem s=some [.mp k e cA]) (g1:gd st x'=true):
  ∃w',(execOp (Act.eval ⟨tmps,ds⟩) o).run c.P w=.ok (.value (.tuple #[])) w'∧aN c {st with mem:=(s,[.mp k e []])::st.mem} tmps w' S ρ:=by
 obtain⟨hu,hk,_⟩:=S9 ht;have e1:=h.ev hx g1 (ds:=ds);rw[ex]at e1;obtain⟨b,hb,hv⟩:=e1;obtain⟨b1,m1,m2,m3,l,m4,m5⟩:=h.cL.at' s k e cA hm;obtain rfl:=Option.some.inj (hb.symm.trans m1);obtain⟨es,clock,wT,_⟩:=id m5;have hg:w.grownBy (ChangeMaps.setBlock w b (.map #[] clock)) (some b):=⟨rfl,rfl,rfl,by simp[ChangeMaps.setBlock],fun i _ hi=>ChangeMaps.heap_setBlock_other wT _ (fun e=>hi (by rw[e]))⟩;refine⟨ChangeMaps.setBlock w b (.map #[] clock),?_,h.Al hb hm hg ⟨[],rfl,#[],clock,ChangeMaps.heap_setBlock_same wT _,⟨by simp,MapKept.stamped_empty clock,by simp⟩,Nat.le_refl _,rfl⟩⟩;unfold execOp;simp[ho,resolve,invoke,builtin,Builtin.clear_,hv,run_underlying hu,MapKept.run_getObj_map wT,MapKept.run_setObj_map _ wT,ChangeMaps.setBlock]
theorem yQG(h:aN c st tmps w S ρ){o t k e kz ez}(ht:aK c.P t (.map k e kz ez)=true){x y x' y' ds ok}(ho:o.op=.lookup t x y ok)(hx:bQ x=some x')(hy:bQ y=some y')
  {r} (hr:eW c.G st (.mget 0 ok k e kz ez x' y')=some r) (cZ:r.2.1) (hg:r.2.2=true):
  ∃cv,(execOp (Act.eval ⟨tmps,ds⟩) o).run c.P w=.ok (.value cv) w∧ay w S ρ r.1 cv:=by
 obtain⟨hu,hk,ie,z,fp,hz,GV⟩:=S9 ht;simp only[eW]at hr;split at hr
 ·rename_i s kd ex ey;split at hr
  ·rename_i k' e' cA hm;cases hr;simp only at cZ hg;obtain⟨⟨rfl,rfl⟩,hl,hp⟩:=cZ;simp only[Bool.and_eq_true]at hg;have e1:=h.ev hx hg.1 (ds:=ds);have e2:=h.ev hy hg.2 (ds:=ds);rw[ex]at e1;rw[ey]at e2;obtain⟨b,hb,hv⟩:=e1;obtain⟨b1,m1,m2,m3,l,m4,m5⟩:=h.cL.at' s k' e' cA hm;obtain rfl:=Option.some.inj (hb.symm.trans m1);obtain⟨ym,Mo⟩:=X5 hk hl hp e2;have JB:(zeroValue e').run c.P w=.ok z w:=by simp[zeroValue,fp,hz,run_typeInfo]
   obtain⟨vr,xt,aM⟩:=yyM Mo (GV w S) m4;cases ok with
   |true=>
    obtain⟨v,ps,aB,lD⟩:=m5.look_ok (TD hk) hu JB (zd:=.held z) (zp:=[]) rfl ym;rw[xt]at lD;obtain rfl:=ZG lD;rw[Zm Mo m4]at aB;refine⟨.tuple #[v,.bool (nw cA kd)],?_,⟨_,rfl,?_⟩⟩
    ·unfold execOp;simp only[ho,hv];simp[aB]
    ·exact⟨_,_,rfl,MV.Yk aM,_,_,rfl,rfl,rfl⟩
   |false=>obtain⟨v,ps,aB,lD⟩:=m5.lookup (TD hk) hu JB (zd:=.held z) (zp:=[]) rfl ym;rw[xt]at lD;obtain rfl:=ZG lD;refine⟨v,?_,MV.Yk aM⟩;unfold execOp;simp only[ho,hv];simp[aB]
  ·cases hr
 ·cases hr
end Go.Abs
end
section
namespace Go.Abs
open Go.RowKit
variable{c:Ctx}{st:St}{tmps:Array Value}{w:World}{S:Safe}{ρ:bW}
theorem aN.Yo(h:aN c st tmps w S ρ){s b}(hb:ρ.box s=some b):b<w.heap.size:=by
 cases hs:getM st.mem s with
 |none=>rw[h.aQ s hs]at hb;cases hb
 |some cs=>obtain⟨b',vs,e,h1,h2,h3,_⟩:=h.mem s cs hs (h.iW hb hs);rw[hb]at h1;cases h1;exact(Array.getElem?_eq_some_iff.1 h3).1
theorem aN.Yh(h:aN c st tmps w S ρ){t b y}(ht:aE st.tk t=some true)(hb:ρ.tok t=some (some ⟨b,0,none⟩,y))(hy:y.1≠y.2.1):b<w.heap.size:=by
 obtain⟨x,h1,h2⟩:=h.tok t ht;rw[hb]at h1;cases h1;rcases h2 with h2|⟨b',k0,_,⟨cur,e,k2,_⟩,_⟩
 ·exact absurd h2 hy
 ·cases k0;exact(Array.getElem?_eq_some_iff.1 k2).1
def Handed(c:Ctx)(st:St)(w:World)(ρ:bW)(b:Nat):Prop:=
 c.Own b∧(∃cur e,w.heap[b]? =some (.cells cur e (0,0)))∧(∀s,ρ.box s≠some b)∧∀t b' y,aE st.tk t=some true→ρ.tok t=some (some ⟨b',0,none⟩,y)→y.1≠y.2.1→b'≠b
theorem aN.Iw(h:aN c st tmps w S ρ){w' S' X}(hX:∀b∈X,Handed c st w ρ b)(hb:dK (mZ c.P w X) w w')(hk:aY w S w' S')(uv:∀b o,S' b o→S b o∨mZ c.P w X b)(hl:Live w' S'):aN c st tmps w' S' ρ:=by
 have kv:∀b x,w.heap[b]? =some x→b∉X→w'.heap[b]? =some x:=fun b x hx hn=>by
  rw[hb.block b (fun ho=>?_),hx]
  rcases ho with ho|⟨ho,_⟩
  ·have:=(Array.getElem?_eq_some_iff.1 hx).1;omega
  ·exact hn ho
 have fk:∀b x o,w.heap[b]? =some x→b∉X→¬S b o→¬S' b o:=fun b x o hx hn jR hs=>by
  rcases uv b o hs with h1|h1|⟨h1,_⟩
  ·exact jR h1
  ·have:=(Array.getElem?_eq_some_iff.1 hx).1;omega
  ·exact hn h1
 have oi:gF w w':=⟨hb.size,fun b es clock hx=>(kv b _ hx (fun hm=>by
  obtain⟨_,⟨cur,e,h2⟩,_⟩:=hX b hm
  rw[hx]at h2;cases h2)).trans hx.symm⟩
 refine{size:=h.size,ae:=fun k=>(h.ae k).keep hk ρ.le_refl,mem:=?_,inj:=h.inj,aQ:=h.aQ,cL:=h.cL.to hk oi,tok:=?_,aV:=h.aV,
        below:=?_,fX:=fun b o hs=>(hk b o (h.fX b o hs)).1,new:=?_,live:=hl,b5:=fun g cs hg=>aP.keep hk g 0 cs (h.b5 g cs hg),fx:=h.fx,ex:=h.ex,eH:=fun p hp=>⟨?_,(h.eH p hp).2⟩,keeps:=fun p hp=>(h.keeps p hp).trans hk,pins:=h.pins}
 ·intro s cs hs fG
  obtain⟨b,vs,e,h1,h2,h3,h4,h6⟩:=h.mem s cs hs fG
  have hn:b∉X:=fun hm=>(hX b hm).2.2.1 s h1
  exact⟨b,vs,e,h1,h2,kv _ _ h3 hn,af.keep hk ρ.le_refl cs _ h4,fun o=>fk b _ o h3 hn (h6 o)⟩
 ·intro t ht
  obtain⟨x,h1,h2⟩:=h.tok t ht
  refine⟨x,h1,?_⟩
  by_cases eN:x.2.1=x.2.2.1
  ·exact .inl eN
  rcases h2 with h2|⟨b,g0,g1,⟨cur,e,g2,g3⟩,g4,g5,g7,g8,g9⟩
  ·exact .inl h2
  ·have hn:b∉X:=fun hm=>(hX b hm).2.2.2 t b x.2 ht (by rw[h1,←g0]) eN rfl
   exact .inr ⟨b,g0,g1,⟨cur,e,kv _ _ g2 hn,g3⟩,g4,g5,fun o ho=>fk b _ o g2 hn (g7 o ho),g8,g9⟩
 ·refine⟨hb.os.trans h.below.os,hb.tape.trans h.below.tape,hb.output.trans h.below.output,Nat.le_trans h.below.size hb.size,fun k jR=>?_⟩
  refine(hb.block k fun ho=>?_).trans (h.below.block k jR)
  rcases ho with ho|⟨ho,_⟩
  ·exact jR (.inl (Nat.le_trans h.below.size ho))
  ·exact jR (hX k ho).1
 ·intro b o hs
  rcases uv b o hs with h1|h1|⟨h1,_⟩
  ·exact h.new b o h1
  ·exact .inr (.inl (Nat.le_trans h.below.size h1))
  ·exact .inr (hX b h1).1
 ·refine kv _ _ (h.eH p hp).1 fun hm=>?_
  obtain⟨_,⟨cur,e,h2⟩,_⟩:=hX _ hm
  have h3:=h.eH p hp
  rw[h2]at h3
  have h4:=Option.some.inj h3.1
  have h5:=h3.2
  rw[←h4]at h5;cases h5
theorem RU{m n}:∀{as} {l} {cvs} {k} {a},af w S ρ as l→iP m n as=some cvs→as.getD k .undef=a→a≠.undef→
  ∃v cv,l[k]? =some v∧ay w S ρ a v∧cvs[k]? =some cv∧a.rq m n=some cv
 |[],l,cvs,k,a,h,hc,ha,b6=>by simp at ha;exact absurd ha.symm b6
 |x::as,l,cvs,k,a,⟨v,r,e,h1,h2⟩,hc,ha,b6=>by
  subst e;simp only[iP]at hc;split at hc
  ·rename_i y ys hy jT;cases hc;cases k with
   |zero=>simp only[List.getD_cons_zero]at ha;subst ha;exact⟨v,y,rfl,h1,rfl,hy⟩
   |succ k=>simp only[List.getD_cons_succ]at ha;exact RU (k:=k) h2 jT ha b6
  ·cases hc
theorem Sc{l r:List Value}{k:Nat}{v}(h:l[k]? =some v):(l++r)[k]? =some v:=by
 rw[List.getElem?_append_left (List.getElem?_eq_some_iff.1 h).1];exact h
theorem RV{l r:List CV}{k:Nat}{v}(h:l[k]? =some v):(l++r)[k]? =some v:=by
 rw[List.getElem?_append_left (List.getElem?_eq_some_iff.1 h).1];exact h
theorem aN.takes(h:aN c st tmps w S ρ){as l cl cvs caps sz a}(hr:af w S ρ as l)(hc:iP [] 1 as=some cvs)(ho:kX st.tk as sz a):
  ∃X,vD c.P w S X (cvs++caps) (l++cl) sz a∧aN c {st with tk:=pR (lr as a) st.tk} tmps w S ρ∧(∀b∈X,Handed c {st with tk:=pR (lr as a) st.tk} w ρ b):=by
 cases a with
 |none=>exact⟨[],rfl,h,fun b hb=>by cases hb⟩
 |some k=>
  simp only[kX,lr]at ho⊢;split at ho
  ·rename_i u rn es hk;obtain⟨rfl,hu⟩:=ho;obtain⟨v,cv,h1,h2,h3,h4⟩:=RU hr hc hk (by simp);simp only[hk,pR];obtain⟨hl,hlen,base,n,cap,eE,hv⟩:=h2;simp only[AV.rq,AV.mH,Option.some.injEq]at h4;subst h4;obtain⟨x,g1,g2⟩:=h.tok u hu;rw[eE]at g1;cases g1;rcases g2 with g2|⟨b,k0,k1,⟨cur,e,k2,rX⟩,k3,k4,k5,k6,k7⟩
   ·exact⟨[],⟨es,v,RV h3,hlen,Sc h1,base,n,cap,hv,.inl g2⟩,h.kill u,fun b hb=>by cases hb⟩
   ·refine⟨[b],⟨es,v,RV h3,hlen,Sc h1,base,n,cap,hv,.inr ⟨b,k0,⟨rfl,?_⟩,⟨cur,e,k2,rX⟩,k3,k4,k5⟩⟩,h.kill u,fun b' hb=>?_⟩
    ·rcases k1 with k1|⟨_,k1⟩
     ·exact Nat.le_trans h.ex.1 k1
     ·exact k1
    ·rw[List.mem_singleton]at hb;subst hb;refine⟨k1,⟨cur,e,k2⟩,k6,fun t Ws y ht hb hy=>?_⟩;obtain⟨vl,mw⟩:=F7 ht;exact k7 t Ws y mw vl hb hy
  ·rename_i es hk;obtain⟨v,cv,h1,h2,h3,h4⟩:=RU hr hc hk (by simp);simp only[hk,pR];obtain⟨hl,base,n,hv⟩:=h2;simp only[AV.rq,AV.mH,Option.some.injEq]at h4;subst h4;exact⟨[],⟨es,v,RV h3,ho,Sc h1,base,n,n,hv,.inl rfl⟩,h,fun b hb=>by cases hb⟩
  ·exact ho.elim
theorem yVh{u tk t}(h:aE tk t=none):aE (pR u tk) t=none:=by
 cases u with
 |none=>exact h
 |some u=>exact Ow.2 h
theorem aN.EG(h:aN c st tmps w S ρ){w' S' X}(hX:∀b∈X,Handed c st w ρ b)(hb:dK (mZ c.P w X) w w')(hk:aY w S w' S')(uv:∀b o,S' b o→S b o∨mZ c.P w X b)(hl:Live w' S')
  {es} {sz} {v} (hv:dR w' S' (.aw es) v) (hlen:∀e∈es,e.length=sz) (fO:Room (mZ c.P w X) w' S' sz v) {d} (hd:aE st.tk d=none):
  ∃bu,aN c {st with tk:=(d,true)::st.tk} tmps w' S' bu∧ay w' S' bu (.own d sz es) v:=by
 have hs:=h.Iw hX hb hk uv hl;obtain⟨base,n,cap,tg,hr⟩:=fO;obtain⟨bu,hle,eE,b9⟩:=hs.lq (d:=d) hd none (tk':=(d,true)::st.tk) (fun t=>by
  simp only[aE,reduceCtorEq,if_false];by_cases ht:d=t
  ·subst ht;simp
  ·rw[if_neg ht,if_neg (fun e=>ht e.symm)]) (base,n,cap,sz) (by
  rcases hr with hr|⟨b,k0,k1,k2,k3,k4,k5⟩
  ·exact .inl hr
  ·refine .inr ⟨b,k0,?_,k2,k3,k4,k5,fun s lP=>?_,fun t b' y _ ht nL hy=>?_⟩
   ·rcases k1 with k1|⟨k1,_⟩
    ·exact .inl (Nat.le_trans h.below.size k1)
    ·exact(hX b k1).1
   ·rcases k1 with k1|⟨k1,_⟩
    ·have:=h.Yo lP;omega
    ·exact(hX b k1).2.2.1 s lP
   ·rcases k1 with k1|⟨k1,_⟩
    ·have:=h.Yh ht nL hy;omega
    ·exact(hX b k1).2.2.2 t b' y ht nL hy)
 exact⟨bu,b9,hv,hlen,base,n,cap,eE,tg⟩
end Go.Abs
end
