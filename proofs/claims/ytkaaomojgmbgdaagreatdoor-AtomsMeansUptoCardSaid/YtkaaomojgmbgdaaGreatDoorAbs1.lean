/-
  A LIBRARY OF THE PROOF: an abstract machine over the texts of the translated functions, whose values are plain data, proved sound with regard to the kit's law of calls (names shortened by program).
-/
import GoSem.Dispatch
import GoSem.Core.Region
import Derived.Attr
import Derived.Below
import Derived.Calls
import Derived.Laws.AppendOwn
import Derived.Laws.CopyRow
import Derived.Laws.Entries
import Derived.Laws.Slices
import Derived.Laws.Strings
import Derived.WalkKit
import Derived.Maps.Own
import Derived.Maps.OwnSet
import Derived.Maps.Views
import Derived.StringKeys
import Derived.RangeFuncOwn
import Derived.RangeFuncLeaves
import Derived.OrdersIn
set_option linter.unusedSimpArgs false
set_option linter.unusedVariables false
set_option linter.unusedSectionVars false
set_option maxRecDepth 100000
section
namespace Go.Abs
inductive D where
 |bool (b:Bool)
 |int (k:IntKind) (n:Int)
 |str (s:List UInt8)
 |lst (es:List (List D))
 |clo (f:FuncId) (caps:List D)
 |nilf
 |nilp
 |ref (cs:List D)
 |gp (g off:Nat)
 |yl (l:Nat)
 |nilI
 |anyI
 deriving Inhabited
inductive MV where
 |one (x:D)
 |agg (xs:List D)
 deriving Inhabited
inductive AV where
 |undef
 |d (x:D)
 |agg (cs:List AV)
 |tup (vs:List AV)
 |ptr (s off:Nat)
 |full (es:List (List D))
 |own (t sz:Nat) (es:List (List D))
 |clo (f:FuncId) (caps:List AV)
 |cond (g:Bool) (v:AV)
 |mref (s:Nat)
 |mp (k e:Nat) (kvs:List (D×MV))
 |vec (s esz off n cap:Nat)
 |zsl (m sz:Nat)
 |pnd (m t sz:Nat) (es:List (List D))
 |eptr (t sz:Nat)
 deriving Inhabited
inductive CV where
 |one (x:D)
 |agg (xs:List D)
 |own (a:Option Nat) (sz:Nat) (es:List (List D))
 |tup (vs:List CV)
 |bx (as:List AV) (m0:List (Nat×List AV)) (t0:List (Nat×Bool)) (r:CV) (m1:List (Nat×List AV)) (t1:List (Nat×Bool))
 |vr (s esz off n cap:Nat)
 |vc (esz:Nat) (es:List (List D))
def CV.isOwn:CV→Bool
 |.own _ _ _=>true
 |.bx _ _ _ _ _ _=>true
 |.vc _ _=>true
 |_=>false
abbrev Mem:=List (Nat×List AV)
def getM:Mem→Nat→Option (List AV)
 |[],_=>none
 |(k,v)::l,i=>if k=i then some v else getM l i
def chunk(esz:Nat):Nat→List D→List (List D)
 |0,_=>[]
 |n+1,xs=>xs.take esz::chunk esz n (xs.drop esz)
def AV.toD(m:Mem):Nat→AV→Option D
 |0,.d x=>some x
 |0,.full es=>some (.lst es)
 |0,.own _ _ es=>some (.lst es)
 |0,_=>none
 |_+1,.d x=>some x
 |_+1,.full es=>some (.lst es)
 |_+1,.own _ _ es=>some (.lst es)
 |n+1,.clo f caps=>match caps.mapM (AV.toD m n)with
  |some cs=>some (.clo f cs)
  |none=>none
 |n+1,.ptr s off=>match getM m s with
  |some cs=>match (cs.drop off).mapM (AV.toD m n)with
   |some xs=>some (.ref xs)
   |none=>none
  |none=>none
 |n+1,.vec s esz off len _=>match getM m s with
  |some cs=>if off+len*esz≤cs.length then(match ((cs.drop off).take (len*esz)).mapM (AV.toD m n)with
   |some xs=>some (.lst (chunk esz len xs))
   |none=>none)else none
  |none=>none
 |_,_=>none
def toDs(m:Mem)(n:Nat):List AV→Option (List D)
 |[]=>some []
 |a::as=>match AV.toD m n a,toDs m n as with
  |some x,some xs=>some (x::xs)
  |_,_=>none
def AV.toCV(m:Mem)(n:Nat):AV→Option CV
 |.agg cs=>match toDs m n cs with
  |some xs=>some (.agg xs)
  |none=>none
 |a=>match AV.toD m n a with
  |some x=>some (.one x)
  |none=>none
def toCVs(m:Mem)(n:Nat):List AV→Option (List CV)
 |[]=>some []
 |a::as=>match a.toCV m n,toCVs m n as with
  |some x,some xs=>some (x::xs)
  |_,_=>none
def AV.cells:AV→List AV
 |.agg cs=>cs
 |a=>[a]
inductive X where
 |t (n:Nat)
 |c (v:AV)
 deriving Inhabited
inductive I where
 |mv (d:Nat) (x:X)
 |and (d:Nat) (c a:X)
 |or (d:Nat) (c b:X)
 |bin (d:Nat) (op:BinOp) (x y:X)
 |not (d:Nat) (x:X)
 |nck (d:Nat) (x:X)
 |build (d:Nat) (zs:List AV) (parts:List (Nat×Nat×X))
 |bsl (d:Nat) (esz:Nat) (parts:List X)
 |bslz (d:Nat) (esz:Nat) (xs:List X)
 |aad (d:Nat) (n esz:Nat) (x y:X)
 |fa (d:Nat) (off:Nat) (x:X)
 |ld (d:Nat) (agg:Bool) (n:Nat) (x:X)
 |idx (d:Nat) (esz:Nat) (x i:X)
 |ext (d:Nat) (x:X) (i:Nat)
 |mkf (d:Nat) (f:FuncId) (caps:List X)
 |len (d:Nat) (str:Bool) (x:X)
 |max (d:Nat) (x y:X)
 |min (d:Nat) (x y:X)
 |beq (d:Nat) (ne:Bool) (x y:X)
 |sidx (d:Nat) (x i:X)
 |aidx (d n:Nat) (x i:X)
 |fld (d off n:Nat) (agg:Bool) (x:X)
 |aeq (d:Nat) (ne:Bool) (zs:List AV) (x y:X)
 |sfrom (d:Nat) (x lo:X)
 |sto (d:Nat) (x lo hi:X)
 |lfrom (d esz:Nat) (x lo:X)
 |lto (d esz:Nat) (x lo hi:X)
 |alloc (s:Nat) (zs:List AV)
 |box (s:Nat) (x:X)
 |st (n:Nat) (a x:X)
 |app (d:Nat) (esz eb:Nat) (x y:X)
 |call (d:Option Nat) (f:X) (args:List X)
 |callB (d:Option Nat) (f:X) (args:List X)
 |isnil (d:Nat) (x:X)
 |mkm (s k e:Nat)
 |mput (k e:Nat) (kz:D) (x key v:X)
 |mget (d:Nat) (ok:Bool) (k e:Nat) (kz:D) (z:MV) (x key:X)
 |mclr (x:X)
 |mkv (d esz eb:Nat) (zs:List AV) (x:X)
 |bslv (d esz:Nat) (xs:List X)
 |cpy (d:Option Nat) (esz:Nat) (x y:X)
 |clr (esz:Nat) (zs:List AV) (x:X)
 |cvt (d:Nat) (k:IntKind) (x:X)
 |cvs (d:Nat) (x:X)
 |ieq (d:Nat) (ne:Bool) (x:X)
 |lmax (d esz:Nat) (x lo hi mx:X)
 deriving Inhabited
inductive AC where
 |skip
 |reg (l:List (Option (Nat×Bool)×I))
 |regd (l:List (Option (Nat×Bool)×I))
 |regq (l:List (Option (Nat×Bool)×I))
 |regz (l:List (Option (Nat×Bool)×I))
 |regv (l:List (Option (Nat×Bool)×I))
 |regd2 (p:List (Option (Nat×Bool)×I)) (a b:Option (Nat×Bool)×I) (r:List (Option (Nat×Bool)×I))
 |regn (F:List Nat) (l:List (Option (Nat×Bool)×I))
 |regk (D:List Nat) (l:List (Option (Nat×Bool)×I))
 |alt (a b:AC)
 |seq (a b:AC)
 |cond (c:X) (a b:AC)
 |block (id:Nat) (c:AC)
 |scope (c:AC)
 |lab
 |loop (c:AC)
 |exit (id:Nat)
 |ret
 |rng (g:X) (ps wl:List Nat) (a b:AC)
 deriving Inhabited
structure St where
 slots:List (Nat×AV)
 mem:Mem
 tk:List (Nat×Bool)
def getS:List (Nat×AV)→Nat→AV
 |[],_=>.undef
 |(k,v)::l,i=>if k=i then v else getS l i
def getT:List (Nat×Bool)→Nat→Option Bool
 |[],_=>none
 |(k,v)::l,i=>if k=i then some v else getT l i
def ev0(st:St):X→AV
 |.t n=>getS st.slots n
 |.c v=>v
def AV.strip:AV→AV
 |.cond _ v=>v
 |v=>v
def AV.grd:AV→Bool
 |.cond g _=>g
 |_=>true
def ev(st:St)(x:X):AV:=(ev0 st x).strip
def gd(st:St)(x:X):Bool:=(ev0 st x).grd
def gds(st:St):List X→Bool
 |[]=>true
 |x::xs=>gd st x&&gds st xs
def evs(st:St):List X→List AV
 |[]=>[]
 |x::xs=>ev st x::evs st xs
def St.put(st:St)(g:Option Bool)(i:Nat)(v:AV):St:=
 {st with slots:=(i,match g with|none=>v|some b=>.cond b v)::st.slots}
def AV.elems:AV→Option (List (List D))
 |.d (.lst es)=>some es
 |.full es=>some es
 |.own _ _ es=>some es
 |_=>none
def rowsOf(e:Nat):Nat→List AV→Option (List (List D))
 |0,_=>some []
 |n+1,cs=>match toDs [] 1 (cs.take e),rowsOf e n (cs.drop e)with
  |some x,some xs=>if x.length=e then some (x::xs)else none
  |_,_=>none
def AV.elemsM(m:List (Nat×List AV)):AV→Option (List (List D))
 |.vec s e off n _=>match getM m s with
  |some cs=>if off+n*e≤cs.length then rowsOf e n (cs.drop off)else none
  |none=>none
 |a=>a.elems
def AV.isVec:AV→Bool
 |.vec _ _ _ _ _=>true
 |_=>false
def cells1:List AV→Bool
 |[]=>true
 |.vec _ _ _ _ _::r=>cells1 r
 |.pnd _ _ _ _::r=>cells1 r
 |.mref _::r=>cells1 r
 |.d _::r=>cells1 r
 |.full _::r=>cells1 r
 |.own _ _ _::r=>cells1 r
 |.ptr _ _::r=>cells1 r
 |.clo _ _::r=>cells1 r
 |_=>false
def AV.solid:AV→Bool
 |.undef=>false
 |.cond _ _=>false
 |.mp _ _ _=>false
 |_=>true
def keyEq:D→D→Bool
 |.str a,.str b=>a==b
 |.int k a,.int k' b=>k==k'&&a==b
 |.bool a,.bool b=>a==b
 |_,_=>false
def plainD:D→Prop
 |.str _=>True
 |.bool _=>True
 |.int k n=>k.min≤n∧n≤k.max
 |_=>False
def likeD:D→D→Bool
 |.str _,.str _=>true
 |.bool _,.bool _=>true
 |.int k _,.int k' _=>k==k'
 |_,_=>false
def flatD:D→Bool
 |.str _=>true
 |.bool _=>true
 |.int _ _=>true
 |_=>false
def flatA:AV→Bool
 |.d x=>flatD x
 |_=>false
def eqDs:List D→List D→Bool
 |[],[]=>true
 |x::xs,y::ys=>keyEq x y&&eqDs xs ys
 |_,_=>false
def likeDs:List AV→List D→Bool
 |[],[]=>true
 |.d z::zs,x::xs=>likeD z x&&likeDs zs xs
 |_,_=>false
def MV.av:MV→AV
 |.one x=>.d x
 |.agg xs=>.agg (xs.map .d)
def AV.toMV:AV→Option MV
 |.agg cs=>match toDs [] 1 cs with
  |some xs=>some (.agg xs)
  |none=>none
 |.d x=>some (.one x)
 |_=>none
def mapGet:List (D×MV)→D→Option MV
 |[],_=>none
 |(k,v)::l,x=>if keyEq k x then some v else mapGet l x
def mapAt(l:List (D×MV))(x:D)(z:MV):MV:=(mapGet l x).getD z
def mapHas(l:List (D×MV))(x:D):Bool:=(mapGet l x).isSome
def fillA(cells:List AV):List (Nat×Nat×AV)→Option (List AV)
 |[]=>some cells
 |(off,size,v)::rest=>if v.solid=true∧v.cells.length=size∧off+size≤cells.length then fillA (cells.take off++v.cells++cells.drop (off+size)) rest else none
def evParts(st:St):List (Nat×Nat×X)→List (Nat×Nat×AV)
 |[]=>[]
 |(a,b,x)::r=>(a,b,ev st x)::evParts st r
def gdParts(st:St):List (Nat×Nat×X)→Bool
 |[]=>true
 |(_,_,x)::r=>gd st x&&gdParts st r
def toElems(esz:Nat):List AV→Option (List (List D))
 |[]=>some []
 |a::as=>match toDs [] 1 a.cells,toElems esz as with
  |some x,some xs=>if x.length=esz then some (x::xs)else none
  |_,_=>none
def binA(op:BinOp):AV→AV→Option (AV×Prop)
 |.d (.int k x),.d (.int k' y)=>match op with
  |.add=>some (.d (.int k (k.wrap (x+y))),k=k')
  |.sub=>some (.d (.int k (k.wrap (x-y))),k=k')
  |.mul=>some (.d (.int k (k.wrap (x*y))),k=k')
  |.quo=>some (.d (.int k (k.wrap (x.tdiv y))),k=k'∧y≠0)
  |.rem=>some (.d (.int k (x.tmod y)),k=k'∧y≠0)
  |.eql=>some (.d (.bool (x==y)),k=k')
  |.neq=>some (.d (.bool (x !=y)),k=k')
  |.lss=>some (.d (.bool (decide (x<y))),k=k')
  |.leq=>some (.d (.bool (decide (x≤y))),k=k')
  |.gtr=>some (.d (.bool (decide (x>y))),k=k')
  |.geq=>some (.d (.bool (decide (x≥y))),k=k')
  |.shr=>some (.d (.int k (x.fdiv (2^(min y.toNat k.bits)))),0≤y)
  |_=>none
 |.d (.str x),.d (.str y)=>match op with
  |.eql=>some (.d (.bool (x==y)),True)
  |.neq=>some (.d (.bool (!(x==y))),True)
  |.add=>some (.d (.str (x++y)),x.length+y.length≤9223372036854775807)
  |.lss=>some (.d (.bool (Op.bytesLess x y)),True)
  |.leq=>some (.d (.bool (Op.bytesLess x y||x==y)),True)
  |.gtr=>some (.d (.bool (!(Op.bytesLess x y||x==y))),True)
  |.geq=>some (.d (.bool (!Op.bytesLess x y)),True)
  |_=>none
 |.d .nilp,_=>some (.d .nilp,False)
 |_,.d .nilp=>some (.d .nilp,False)
 |_,_=>none
def rdMem(st:St)(s off n:Nat):Option (List AV):=
 match getM st.mem s with
 |some cs=>if off+n≤cs.length then some ((cs.drop off).take n)else none
 |none=>none
def asOne(agg:Bool)(cs:List AV):AV:=if agg then .agg cs else cs.headD .undef
def dsOf:List AV→Option (List D)
 |[]=>some []
 |.d x::as=>match dsOf as with
  |some xs=>some (x::xs)
  |none=>none
 |_::_=>none
def mkC(f:FuncId)(vs:List AV):AV:=match dsOf vs with
 |some ds=>.d (.clo f ds)
 |none=>.clo f vs
def vecTo(s esz off l h m:Nat):AV:=.vec s esz (if m=l then off else off+l*esz) (h-l) (m-l)
def idxA(esz:Nat):AV→AV→Option (AV×Prop)
 |.vec s e off n _,.d (.int _ k)=>some (.ptr s (off+k.toNat*esz),(0≤k∧k<n)∧e=esz)
 |.pnd _ t sz es,.d (.int _ k)=>some (.eptr t sz,k=es.length∧sz=esz)
 |a,.d (.int _ n)=>match a.elems with
  |some es=>some (.d (.ref (es.getD n.toNat [])),(0≤n∧n<es.length)∧∀e∈es,e.length=esz)
  |none=>none
 |_,_=>none
def lfromA(esz:Nat):AV→AV→Option (AV×Prop)
 |.vec s e off n cap,.d (.int _ l)=>some (vecTo s esz off l.toNat n cap,(0≤l∧l≤n)∧e=esz)
 |a,.d (.int _ l)=>match a.elems with
  |some es=>some (.d (.lst (es.drop l.toNat)),(0≤l∧l≤es.length)∧∀e∈es,e.length=esz)
  |none=>none
 |_,_=>none
def ltoA(esz:Nat):AV→AV→AV→Option (AV×Prop)
 |.vec s e off n cap,.d (.int _ l),.d (.int _ h)=>some (vecTo s esz off l.toNat h.toNat cap,(0≤l∧l≤h∧h≤n)∧e=esz)
 |a,.d (.int _ l),.d (.int _ h)=>match a.elems with
  |some es=>some (.d (.lst ((es.take h.toNat).drop l.toNat)),(0≤l∧l≤h∧h≤es.length)∧∀e∈es,e.length=esz)
  |none=>none
 |_,_,_=>none
def lmaxA(esz:Nat):AV→AV→AV→AV→Option (AV×Prop)
 |.vec s e off n _,.d (.int _ l),.d (.int _ h),.d (.int _ m)=>some (vecTo s esz off l.toNat h.toNat m.toNat,(0≤l∧l≤h∧h≤m∧m≤n)∧e=esz)
 |a,.d (.int _ l),.d (.int _ h),.d (.int _ m)=>match a.elems with
  |some es=>some (.d (.lst ((es.take h.toNat).drop l.toNat)),(0≤l∧l≤h∧h≤m∧m≤es.length)∧∀e∈es,e.length=esz)
  |none=>none
 |_,_,_,_=>none
def opv(G:Nat→Option (List D))(st:St):I→Option (AV×Prop×Bool)
 |.mv _ x=>some (ev st x,True,gd st x)
 |.and _ c a=>match ev st c,ev st a with
  |.d (.bool x),.d (.bool y)=>some (.d (.bool (x&&y)),(x=true→gd st a=true),gd st c)
  |.d (.bool x),_=>some (.d (.bool false),x=false,gd st c)
  |_,_=>none
 |.or _ c b=>match ev st c,ev st b with
  |.d (.bool x),.d (.bool y)=>some (.d (.bool (x||y)),(x=false→gd st b=true),gd st c)
  |.d (.bool x),_=>some (.d (.bool true),x=true,gd st c)
  |_,_=>none
 |.bin _ op x y=>match binA op (ev st x) (ev st y)with
  |some r=>some (r.1,r.2,gd st x&&gd st y)
  |none=>none
 |.not _ x=>match ev st x with
  |.d (.bool b)=>some (.d (.bool (!b)),True,gd st x)
  |_=>none
 |.nck _ x=>match ev st x with
  |.ptr s off=>some (.ptr s off,True,gd st x)
  |_=>none
 |.build _ zs parts=>match fillA zs (evParts st parts)with
  |some cs=>some (.agg cs,True,gdParts st parts)
  |none=>none
 |.bslz _ esz xs=>match toElems esz (evs st xs)with
  |some es=>some (.zsl es.length esz,True,gds st xs)
  |none=>none
 |.bsl _ esz parts=>match toElems esz (evs st parts)with
  |some es=>some (.full es,True,gds st parts)
  |none=>none
 |.fa _ off x=>match ev st x with
  |.ptr s o=>some (.ptr s (o+off),True,gd st x)
  |.d (.ref cs)=>some (.d (.ref (cs.drop off)),off<cs.length,gd st x)
  |.d (.gp g o)=>some (.d (.gp g (o+off)),True,gd st x)
  |_=>none
 |.ld _ agg n x=>match ev st x with
  |.ptr s o=>match rdMem st s o n with
   |some cs=>some (asOne agg cs,True,gd st x)
   |none=>none
  |.d (.ref cs)=>if agg then some (.agg ((cs.take n).map .d),n≤cs.length,gd st x)else(match cs with|c::_=>some (.d c,True,gd st x)|[]=>some (.d .nilp,False,gd st x))
  |.d (.gp g o)=>match G g with
   |some cs=>if agg then some (.agg (((cs.drop o).take n).map .d),o+n≤cs.length,gd st x)else(match cs.drop o with|c::_=>some (.d c,True,gd st x)|[]=>none)
   |none=>none
  |_=>none
 |.idx _ esz x i=>match idxA esz (ev st x) (ev st i)with
  |some r=>some (r.1,r.2,gd st x&&gd st i)
  |none=>none
 |.ext _ x i=>match ev st x with
  |.tup vs=>some (vs.getD i .undef,i<vs.length,gd st x)
  |_=>none
 |.mkf _ f caps=>some (mkC f (evs st caps),True,gds st caps)
 |.max _ x y=>match ev st x,ev st y with
  |.d (.int k a),.d (.int _ b)=>some (.d (.int k (if b>a then b else a)),True,gd st x&&gd st y)
  |_,_=>none
 |.min _ x y=>match ev st x,ev st y with
  |.d (.int k a),.d (.int _ b)=>some (.d (.int k (if b<a then b else a)),True,gd st x&&gd st y)
  |_,_=>none
 |.beq _ ne x y=>match ev st x,ev st y with
  |.d (.bool a),.d (.bool b)=>some (.d (.bool (if ne then !(a==b)else a==b)),True,gd st x&&gd st y)
  |_,_=>none
 |.aad _ m esz x i=>match ev st x,ev st i with
  |.ptr s off,.d (.int _ k)=>some (.ptr s (off+k.toNat*esz),0≤k∧k<m,gd st x&&gd st i)
  |_,_=>none
 |.sidx _ x i=>match ev st x,ev st i with
  |.d (.str s),.d (.int _ n)=>some (.d (.int .u8 ((s.getD n.toNat 0).toNat:Nat)),0≤n∧n<s.length,gd st x&&gd st i)
  |_,_=>none
 |.aidx _ m x i=>match ev st x,ev st i with
  |.agg cs,.d (.int _ n)=>some (cs.getD n.toNat .undef,(0≤n∧n<m)∧n<cs.length,gd st x&&gd st i)
  |_,_=>none
 |.fld _ off n ag x=>match ev st x with
  |.agg cs=>some (asOne ag ((cs.drop off).take n),off+n≤cs.length,gd st x)
  |_=>none
 |.aeq _ ne zs x y=>match ev st x,ev st y with
  |.agg a,.agg b=>match toDs [] 1 a,toDs [] 1 b with
   |some xs,some ys=>some (.d (.bool (if ne then !eqDs xs ys else eqDs xs ys)),likeDs zs xs=true∧likeDs zs ys=true,gd st x&&gd st y)
   |_,_=>none
  |_,_=>none
 |.sfrom _ x lo=>match ev st x,ev st lo with
  |.d (.str s),.d (.int _ l)=>some (.d (.str (s.drop l.toNat)),0≤l∧l≤s.length,gd st x&&gd st lo)
  |_,_=>none
 |.sto _ x lo hi=>match ev st x,ev st lo,ev st hi with
  |.d (.str s),.d (.int _ l),.d (.int _ h)=>some (.d (.str ((s.take h.toNat).drop l.toNat)),0≤l∧l≤h∧h≤s.length,gd st x&&(gd st lo&&gd st hi))
  |_,_,_=>none
 |.lfrom _ esz x lo=>match lfromA esz (ev st x) (ev st lo)with
  |some r=>some (r.1,r.2,gd st x&&gd st lo)
  |none=>none
 |.lto _ esz x lo hi=>match ltoA esz (ev st x) (ev st lo) (ev st hi)with
  |some r=>some (r.1,r.2,gd st x&&(gd st lo&&gd st hi))
  |none=>none
 |.cvt _ k x=>match ev st x with
  |.d (.int _ n)=>some (.d (.int k (k.wrap n)),True,gd st x)
  |_=>none
 |.cvs _ x=>match ev st x with
  |.d (.str s)=>some (.d (.str s),True,gd st x)
  |_=>none
 |.ieq _ ne x=>match ev st x with
  |.d .nilI=>some (.d (.bool (!ne)),True,gd st x)
  |.d .anyI=>some (.d (.bool ne),True,gd st x)
  |_=>none
 |.lmax _ esz x lo hi mx=>match lmaxA esz (ev st x) (ev st lo) (ev st hi) (ev st mx)with
  |some r=>some (r.1,r.2,gd st x&&(gd st lo&&(gd st hi&&gd st mx)))
  |none=>none
 |.mget _ ok k e kz z x key=>match ev st x,ev st key with
  |.mref s,.d kd=>match getM st.mem s with
   |some [.mp k' e' kvs]=>some (if ok then .tup [(mapAt kvs kd z).av,.d (.bool (mapHas kvs kd))]else(mapAt kvs kd z).av,(k'=k∧e'=e)∧likeD kz kd=true∧plainD kd,gd st x&&gd st key)
   |_=>none
  |_,_=>none
 |_=>none
def dstOf:I→Nat
 |.mv d _|.and d _ _|.or d _ _|.bin d _ _ _|.not d _|.nck d _|.build d _ _|.bsl d _ _|.bslv d _ _|.bslz d _ _|.fa d _ _|.ld d _ _ _|.idx d _ _ _|.aad d _ _ _ _|.ext d _ _|.mkf d _ _|.len d _ _|.max d _ _|.min d _ _|.beq d _ _ _|.sidx d _ _|.aidx d _ _ _|.fld d _ _ _ _|.aeq d _ _ _ _|.sfrom d _ _|.sto d _ _ _|.lfrom d _ _ _|.lto d _ _ _ _|.lmax d _ _ _ _ _|.mkv d _ _ _ _|.cvt d _ _|.cvs d _|.ieq d _ _
 |.alloc d _|.box d _|.app d _ _ _ _|.isnil d _|.mkm d _ _|.mget d _ _ _ _ _ _ _=>d
 |_=>0
mutual
def CV.toAV0:CV→AV
 |.one x=>.d x
 |.agg xs=>.agg (xs.map .d)
 |.own _ _ es=>.d (.lst es)
 |.tup vs=>.tup (CV.toAV0s vs)
 |.bx _ _ _ _ _ _=>.undef
 |.vr s esz off n cap=>.vec s esz off n cap
 |.vc _ _=>.undef
def CV.toAV0s:List CV→List AV
 |[]=>[]
 |v::vs=>v.toAV0::CV.toAV0s vs
end
def tkKill(u:Nat):List (Nat×Bool)→List (Nat×Bool)
 |[]=>[]
 |(k,b)::l=>(if k=u then(u,false)else(k,b))::tkKill u l
def lenOf:Bool→AV→Option Nat
 |true,.d (.str s)=>some s.length
 |false,.d (.lst es)=>some es.length
 |false,.full es=>some es.length
 |false,.own _ _ es=>some es.length
 |false,.vec _ _ _ n _=>some n
 |_,_=>none
structure AEnv where
 G:Nat→Option (List D)
 C:FuncId→List CV→CV→Prop
 It:FuncId→List D→List (List CV)→Prop
def guardOf(st:St):Option (Nat×Bool)→Option (Option Bool)
 |none=>some none
 |some (s,want)=>match getS st.slots s with
   |.d (.bool b)=>some (some (if want then b else !b))
   |.cond g (.d (.bool b))=>some (some (g&&(if want then b else !b)))
   |_=>none
def onG(g:Option Bool)(p:Prop):Prop:=match g with
 |none=>p
 |some b=>b=true→p
abbrev TMap:=List (Nat×Nat)
def getTM:TMap→Nat→Option Nat
 |[],_=>none
 |(k,v)::l,i=>if k=i then some v else getTM l i
def mpOk(st:St):TMap→List Nat→Prop
 |[],_=>True
 |(_,u)::r,us=>(us.contains u=false∧getT st.tk u=some true)∧mpOk st r (u::us)
def tkOf:TMap→List (Nat×Bool)
 |[]=>[]
 |(t,_)::r=>(t,true)::tkOf r
def AV.isMp:AV→Bool
 |.mp _ _ _=>true
 |_=>false
def isMp:List AV→Bool
 |[a]=>a.isMp
 |_=>false
def Match0(σ τ:TMap)(a:AV):AV→Prop
 |.d x=>AV.toD [] 1 a=some x
 |.own t sz es=>match getTM τ t with
  |some u=>a=.own u sz es
  |none=>False
 |.ptr s off=>match getTM σ s with
  |some s'=>a=.ptr s' off
  |none=>False
 |.mref s=>match getTM σ s with
  |some s'=>a=.mref s'
  |none=>False
 |.vec s esz off n cap=>match getTM σ s with
  |some s'=>a=.vec s' esz off n cap
  |none=>False
 |.undef=>a.isMp=false
 |_=>False
def Match0s(σ τ:TMap):List AV→List AV→Prop
 |[],[]=>True
 |a::as,b::bs=>Match0 σ τ a b∧Match0s σ τ as bs
 |_,_=>False
def Match1(σ τ:TMap)(a:AV):AV→Prop
 |.clo f0 cs0=>match a with
  |.clo f cs=>f=f0∧Match0s σ τ cs cs0
  |_=>False
 |a0=>Match0 σ τ a a0
def Matches(σ τ:TMap):List AV→List AV→Prop
 |[],[]=>True
 |a::as,b::bs=>Match1 σ τ a b∧Matches σ τ as bs
 |_,_=>False
def MatchV(σ τ:TMap)(a:AV):AV→Prop
 |.agg cs0=>match a with
  |.agg cs=>Matches σ τ cs cs0
  |_=>False
 |a0=>Match1 σ τ a a0
def MatchVs(σ τ:TMap):List AV→List AV→Prop
 |[],[]=>True
 |a::as,b::bs=>MatchV σ τ a b∧MatchVs σ τ as bs
 |_,_=>False
def MatchMem(st:St)(τ:TMap)(σ0:TMap):TMap→Mem→Prop
 |[],[]=>True
 |(s,s')::σ,(s0,cs0)::m=>(s0=s∧1000≤s∧(match getM st.mem s' with
  |some cs=>match cs0 with
   |[.mp k e kvs]=>cs=[.mp k e kvs]
   |cs0=>Matches σ0 τ cs cs0
  |none=>False))∧MatchMem st τ σ0 σ m
 |_,_=>False
def noTwice:List Nat→Bool
 |[]=>true
 |a::l=>!l.contains a&&noTwice l
def AV.ren0(σ τ:TMap):AV→AV
 |.own t sz es=>.own ((getTM τ t).getD 0) sz es
 |.ptr s off=>.ptr ((getTM σ s).getD 0) off
 |.mref s=>.mref ((getTM σ s).getD 0)
 |.vec s esz off n cap=>.vec ((getTM σ s).getD 0) esz off n cap
 |a=>a
def AV.ren1(σ τ:TMap):AV→AV
 |.clo f cs=>.clo f (cs.map (AV.ren0 σ τ))
 |a=>a.ren0 σ τ
def renMem(σ τ:TMap):Mem→Mem
 |[]=>[]
 |(s,cs)::m=>((getTM σ s).getD 0,cs.map (AV.ren1 σ τ))::renMem σ τ m
def fresh1(tk:List (Nat×Bool)):TMap→Prop
 |[]=>True
 |(_,u)::r=>getT tk u=none∧fresh1 tk r
def keep0:AV→Bool
 |.d _=>true
 |.full _=>true
 |.own _ _ _=>true
 |.ptr _ _=>true
 |.mref _=>true
 |.mp _ _ _=>true
 |.vec _ _ _ _ _=>true
 |.undef=>true
 |_=>false
def keep1:AV→Bool
 |.clo _ cs=>cs.all keep0
 |a=>keep0 a
structure BArgs where
 σ:TMap
 τ:TMap
 τ1:TMap
 as0:List AV
 m0:Mem
 m1:Mem
 r:CV
def killAll:TMap→List (Nat×Bool)
 |[]=>[]
 |(_,u)::r=>(u,false)::killAll r
def newAll:TMap→List (Nat×Bool)
 |[]=>[]
 |(_,u)::r=>(u,true)::newAll r
def okB(st:St)(as:List AV)(x:BArgs):Prop:=
 MatchVs x.σ x.τ as x.as0∧MatchMem st x.τ x.σ x.σ x.m0∧mpOk st x.τ []∧noTwice (x.σ.map (·.1))=true∧noTwice (x.σ.map (·.2))=true∧noTwice (x.τ.map (·.1))=true∧
 x.m1.map (·.1)=x.m0.map (·.1)∧x.m1.map (fun p=>isMp p.2)=x.m0.map (fun p=>isMp p.2)∧(∀p∈x.m1,p.2.all keep1=true)∧fresh1 st.tk x.τ1∧noTwice (x.τ1.map (·.1))=true∧noTwice (x.τ1.map (·.2))=true
def afterB(st:St)(d:Option Nat)(x:BArgs):St:=
 {slots:=(match d with|some d=>[(d,x.r.toAV0.ren0 x.σ x.τ1)]|none=>[])++st.slots,mem:=renMem x.σ x.τ1 x.m1++st.mem,tk:=newAll x.τ1++(killAll x.τ++st.tk)}
def ownTok(as:List AV):Option Nat→Option Nat
 |none=>none
 |some k=>match as.getD k .undef with
  |.own u _ _=>some u
  |_=>none
def tkUse:Option Nat→List (Nat×Bool)→List (Nat×Bool)
 |none,tk=>tk
 |some u,tk=>tkKill u tk
def argOwn(tk:List (Nat×Bool))(as:List AV)(sz:Nat):Option Nat→Prop
 |none=>True
 |some k=>match as.getD k .undef with
  |.own u sz' _=>sz'=sz∧getT tk u=some true
  |.full es=>∀e∈es,e.length=sz
  |_=>False
def callK(v:Bool)(g:Option Bool)(d:Option Nat)(K:St→Prop)(st:St)(as:List AV):CV→Prop
 |.own a sz es=>match d with
  |some d=>(g=none∧getT st.tk d=none∧argOwn st.tk as sz a)∧K {(st.put none d (.own d sz es))with tk:=(d,true)::tkUse (ownTok as a) st.tk}
  |none=>False
 |.one x=>K (match d with|some d=>st.put g d (.d x)|none=>st)
 |.agg xs=>K (match d with|some d=>st.put g d (.agg (xs.map .d))|none=>st)
 |.tup vs=>K (match d with|some d=>st.put g d (.tup (CV.toAV0s vs))|none=>st)
 |.bx _ _ _ _ _ _=>False
 |.vr _ _ _ _ _=>False
 |.vc esz es=>match d with
  |some d=>(v=true∧g=none∧getM st.mem d=none)∧(es=[]→K (st.put none d (.d (.lst []))))∧(es≠[]→∀cap,es.length≤cap→cap≤9223372036854775807→
    K {(st.put none d (.vec d esz 0 es.length cap))with mem:=(d,es.flatten.map .d++List.replicate (cap*esz-es.length*esz) .undef)::st.mem})
  |none=>False
mutual
def CV.flat:CV→Bool
 |.one x=>flatD x
 |.agg xs=>xs.all flatD
 |.tup vs=>CV.flats vs
 |_=>false
def CV.flats:List CV→Bool
 |[]=>true
 |v::vs=>v.flat&&CV.flats vs
end
mutual
def AV.boxed:AV→Bool
 |.d _=>false
 |.full _=>false
 |.own _ _ _=>false
 |.undef=>false
 |.agg cs=>AV.boxeds cs
 |.tup cs=>AV.boxeds cs
 |.cond _ v=>AV.boxed v
 |_=>true
def AV.boxeds:List AV→Bool
 |[]=>false
 |a::as=>AV.boxed a||AV.boxeds as
end
def dropB:List (Nat×AV)→List (Nat×AV)
 |[]=>[]
 |(k,v)::l=>(k,if v.boxed then .undef else v)::dropB l
def St.noBox(st:St):St:={slots:=dropB st.slots,mem:=[],tk:=st.tk}
mutual
def AV.namesIn(B:List Nat):AV→Bool
 |.ptr s _=>B.contains s
 |.vec s _ _ _ _=>B.contains s
 |.mref s=>B.contains s
 |.clo _ cs=>AV.namesL B cs
 |.agg cs=>AV.namesL B cs
 |.tup cs=>AV.namesL B cs
 |.cond _ a=>AV.namesIn B a
 |_=>false
def AV.namesL(B:List Nat):List AV→Bool
 |[]=>false
 |a::as=>AV.namesIn B a||AV.namesL B as
end
def dropIn(B:List Nat):List (Nat×AV)→List (Nat×AV)
 |[]=>[]
 |(k,v)::l=>(k,if v.namesIn B then .undef else v)::dropIn B l
def memOut(B:List Nat):Mem→Mem
 |[]=>[]
 |(s,cs)::m=>if B.contains s then memOut B m else(s,cs)::memOut B m
def memIn(B:List Nat):Mem→Mem
 |[]=>[]
 |(s,cs)::m=>if B.contains s then(s,cs)::memIn B m else memIn B m
def okDrop(B:List Nat):Mem→Bool
 |[]=>true
 |(_,cs)::m=>!AV.namesL B cs&&okDrop B m
def St.someBox(B:List Nat)(st:St):St:={slots:=dropIn B st.slots,mem:=memOut B st.mem,tk:=st.tk}
def callD(E:AEnv)(g:Option Bool)(d:Option Nat)(f:FuncId)(caps:List D)(gs:Bool)(as:List AV)(K:St→Prop)(st:St):Prop:=
 ∃(B:List Nat) (cvs:List CV) (r:CV),(g=none∧gs=true∧r.isOwn=false∧okDrop B (memOut B st.mem)=true∧toCVs (memIn B st.mem) 3 as=some cvs∧E.C f (cvs++caps.map .one) r)∧callK false none d K (st.someBox B) as r
def callB1(E:AEnv)(g:Option Bool)(f:FuncId)(gs:Bool)(as:List AV)(st:St)(x:BArgs):Prop:=
 g=none∧gs=true∧x.r.isOwn=false∧okB st as x∧E.C f [] (.bx x.as0 x.m0 (tkOf x.τ) x.r x.m1 (tkOf x.τ1))
def callWP(E:AEnv)(g:Option Bool)(d:Option Nat)(f:FuncId)(caps:List D)(gs:Bool)(as:List AV)(K:St→Prop)(st:St):Prop:=
 (match toCVs st.mem 3 as with
 |some cvs=>(∃r,onG g (gs=true∧r.flat=true∧E.C f (cvs++caps.map .one) r)∧callK false g d K st as r)∨
   ∃r,(g=none∧gs=true∧r.isOwn=false∧E.C f (cvs++caps.map .one) r)∧callK false none d K st.noBox as r
 |none=>False)∨((∃x:BArgs,callB1 E g f gs (as++caps.map .d) st x∧K (afterB st d x))∨callD E g d f caps gs as K st)
def callW(E:AEnv)(g:Option Bool)(d:Option Nat)(f:FuncId)(caps:List D)(gs:Bool)(as:List AV)(K:St→Prop)(st:St)(sk:Prop):Prop:=
 callWP E g d f caps gs as K st∨sk
inductive Place where
 |s (k:Nat)
 |m (s i:Nat)
def conv1(st:St):Place×Nat×Nat→St→Prop
 |(.s k,t,sz),st'=>∃es,getS st.slots k=.full es∧(∀e∈es,e.length=sz)∧getT st.tk t=none∧st'={st with slots:=(k,.own t sz es)::st.slots,tk:=(t,true)::st.tk}
 |(.m s i,t,sz),st'=>∃cs es,getM st.mem s=some cs∧cs[i]? =some (.full es)∧(∀e∈es,e.length=sz)∧getT st.tk t=none∧st'={st with mem:=(s,cs.set i (.own t sz es))::st.mem,tk:=(t,true)::st.tk}
def convs:List (Place×Nat×Nat)→St→St→Prop
 |[],st,st'=>st=st'
 |p::ps,st,st'=>∃s1,conv1 st p s1∧convs ps s1 st'
def convS(st st':St):Prop:=∃ps,convs ps st st'∧st'.slots=st.slots
def callC(E:AEnv)(g:Option Bool)(d:Option Nat)(f:FuncId)(caps:List AV)(gs:Bool)(as:List AV)(K:St→Prop)(st:St)(sk:Prop):Prop:=
 (∃s:St,convS st s∧∃x:BArgs,callB1 E g f gs (as++caps) s x∧K (afterB s d x))∨sk
def appG(g:Option Bool)(skip p:Prop):Prop:=match g with
 |some false=>skip
 |_=>p
theorem yxq{g a p}(h:g≠some false):appG g a p=p:=by
 match g,h with
 |none,_=>rfl
 |some true,_=>rfl
 |some false,h=>exact absurd rfl h
def onB:Option Bool→Bool
 |some false=>false
 |_=>true
mutual
def AV.fill(t:Nat)(xs:List D):AV→AV
 |.pnd m t' sz es=>if t'=t then(if m=1 then .own t' sz (es++[xs])else .pnd (m-1) t' sz (es++[xs]))else .pnd m t' sz es
 |.own t' sz es=>if t'=t then .undef else .own t' sz es
 |.eptr t' sz=>if t'=t then .undef else .eptr t' sz
 |.agg cs=>.agg (AV.fills t xs cs)
 |.tup cs=>.tup (AV.fills t xs cs)
 |.clo f cs=>.clo f (AV.fills t xs cs)
 |.cond g a=>.cond g (AV.fill t xs a)
 |a=>a
def AV.fills(t:Nat)(xs:List D):List AV→List AV
 |[]=>[]
 |a::as=>AV.fill t xs a::AV.fills t xs as
end
def fillSlots(t:Nat)(xs:List D):List (Nat×AV)→List (Nat×AV)
 |[]=>[]
 |(k,v)::r=>(k,AV.fill t xs v)::fillSlots t xs r
def fillMem(t:Nat)(xs:List D):Mem→Mem
 |[]=>[]
 |(k,cs)::r=>(k,AV.fills t xs cs)::fillMem t xs r
def St.fill(st:St)(t:Nat)(xs:List D):St:={st with slots:=fillSlots t xs st.slots,mem:=fillMem t xs st.mem}
def AV.isZsl:AV→Bool
 |.zsl _ _=>true
 |_=>false
def AV.isEptr:AV→Bool
 |.eptr _ _=>true
 |_=>false
def aopG(E:AEnv)(g:Option Bool)(o:I)(st:St)(K:St→Prop):Prop:=
 match o with
  |.alloc s zs=>(g=none∧getM st.mem s=none)∧K {(st.put none s (.ptr s 0))with mem:=(s,zs)::st.mem}
  |.box s x=>(g=none∧gd st x=true∧(ev st x).solid=true∧getM st.mem s=none)∧K {(st.put none s (.ptr s 0))with mem:=(s,(ev st x).cells)::st.mem}
  |.st n a x=>match ev st a with
   |.ptr s off=>match getM st.mem s with
    |some cs=>(g=none∧gd st a=true∧gd st x=true∧(ev st x).solid=true∧cells1 (ev st x).cells=true∧(ev st x).cells.length=n∧off+n≤cs.length)∧
      K {st with mem:=(s,cs.take off++(ev st x).cells++cs.drop (off+n))::st.mem}
    |none=>False
   |.eptr t sz=>match toDs [] 1 (ev st x).cells with
    |some xs=>(g=none∧gd st a=true∧gd st x=true∧(ev st x).solid=true∧n=sz∧xs.length=sz∧getT st.tk t=some true)∧K (st.fill t xs)
    |none=>False
   |_=>False
  |.app d esz eb x y=>match ev st y with
   |.zsl mm sz=>(match ev st x with
    |.full es=>(g=none∧1≤mm∧getT st.tk d=none∧gd st x=true∧gd st y=true∧sz=esz∧(∀e∈es,e.length=esz)∧(es.length+mm)*eb≤2^46∧es.length+mm≤9223372036854775807)∧
      K {(st.put none d (.pnd mm d esz es))with tk:=(d,true)::st.tk}
    |.own u sz' es=>(g=none∧1≤mm∧getT st.tk d=none∧getT st.tk u=some true∧sz'=esz∧gd st x=true∧gd st y=true∧sz=esz∧(es.length+mm)*eb≤2^46∧es.length+mm≤9223372036854775807)∧
      K {(st.put none d (.pnd mm d esz es))with tk:=(d,true)::tkKill u st.tk}
    |.vec s e off n cap=>(match getM st.mem s with
     |some cs=>(g=none∧mm=1∧gd st x=true∧gd st y=true∧sz=esz∧e=esz∧off=0∧cap*esz≤cs.length∧(n+1)*eb≤2^46∧n+1≤9223372036854775807)∧
       (n+1≤cap→K {(st.put none d (.vec s esz 0 (n+1) cap))with mem:=(s,cs.take (n*esz)++List.replicate esz .undef++cs.drop (n*esz+esz))::st.mem})∧
       (cap<n+1→∃s',s'≤d∧getM st.mem s'=none∧∀cap',n+1≤cap'→cap'≤9223372036854775807→
        K {(st.put none d (.vec s' esz 0 (n+1) cap'))with mem:=(s',cs.take (n*esz)++List.replicate (cap'*esz-n*esz) .undef)::st.mem})
     |none=>False)
    |_=>False)
   |_=>appG g (K (st.put (some false) d (.d (.lst [])))) (match (ev st y).elemsM st.mem with
   |none=>False
   |some ys=>match ev st x with
    |.full es=>(onB g=true∧getT st.tk d=none∧gd st x=true∧gd st y=true∧(∀e∈es,e.length=esz)∧(∀e∈ys,e.length=esz)∧(es.length+ys.length)*eb≤2^46∧es.length+ys.length≤9223372036854775807)∧
      K {(st.put none d (.own d esz (es++ys)))with tk:=(d,true)::st.tk}
    |.own u sz es=>(onB g=true∧getT st.tk d=none∧getT st.tk u=some true∧sz=esz∧gd st x=true∧gd st y=true∧(∀e∈ys,e.length=esz)∧(es.length+ys.length)*eb≤2^46∧es.length+ys.length≤9223372036854775807)∧
      K {(st.put none d (.own d esz (es++ys)))with tk:=(d,true)::tkKill u st.tk}
    |.vec s e off n cap=>(match getM st.mem s with
     |some _=>(onB g=true∧gd st x=true∧gd st y=true∧e=esz∧off=0∧n=0∧cap=0∧0<ys.length∧(∀e∈ys,e.length=esz)∧ys.length*eb≤2^46∧ys.length≤9223372036854775807)∧
       ∃s',(s'≤d∧getM st.mem s'=none)∧∀cap',ys.length≤cap'→cap'≤9223372036854775807→
        K {(st.put none d (.vec s' esz 0 ys.length cap'))with mem:=(s',ys.flatten.map .d++List.replicate (cap'*esz-ys.length*esz) .undef)::st.mem}
     |none=>False)
    |_=>False)
  |.len d str x=>match lenOf str (ev st x)with
   |some n=>onG g (gd st x=true)∧(onG g ((n:Int)≤9223372036854775807)→K (st.put g d (.d (.int .i64 n))))
   |none=>False
  |.call d f' args=>match ev st f' with
   |.d (.clo f caps)=>match toCVs [] 1 (evs st args)with
    |some cvs=>∃r,onG g (gd st f'=true∧gds st args=true∧E.C f (cvs++caps.map .one) r)∧callK true g d K st (evs st args) r
    |none=>callW E g d f caps (gd st f'&&gds st args) (evs st args) K st False
   |.clo f caps=>callC E g d f caps (gd st f'&&gds st args) (evs st args) K st False
   |_=>False
  |.callB d f' args=>match ev st f' with
   |.d (.clo f caps)=>∃x:BArgs,callB1 E g f (gd st f'&&gds st args) (evs st args++caps.map .d) st x∧K (afterB st d x)
   |.clo f caps=>∃x:BArgs,callB1 E g f (gd st f'&&gds st args) (evs st args++caps) st x∧K (afterB st d x)
   |_=>False
  |.isnil d x=>match (ev st x).elems with
   |some es=>onG g (gd st x=true)∧∀b:Bool,(b=true→es=[])→K (st.put g d (.d (.bool b)))
   |none=>(ev st x).isVec=true∧onG g (gd st x=true)∧K (st.put g d (.d (.bool false)))
  |.mkm s k e=>(g=none∧getM st.mem s=none)∧K {(st.put none s (.mref s))with mem:=(s,[.mp k e []])::st.mem}
  |.mput k e kz x key v=>match ev st x,ev st key,(ev st v).toMV with
   |.mref s,.d kd,some vd=>match getM st.mem s with
    |some [.mp k' e' kvs]=>(g=none∧gd st x=true∧gd st key=true∧gd st v=true∧k'=k∧e'=e∧likeD kz kd=true∧plainD kd∧kvs.length<9223372036854775807)∧K {st with mem:=(s,[.mp k e ((kd,vd)::kvs)])::st.mem}
    |_=>False
   |_,_,_=>False
  |.mclr x=>match ev st x with
   |.mref s=>match getM st.mem s with
    |some [.mp k e _]=>(g=none∧gd st x=true)∧K {st with mem:=(s,[.mp k e []])::st.mem}
    |_=>False
   |_=>False
  |.mkv d esz eb zs x=>match ev st x with
   |.d (.int k n)=>(g=none∧gd st x=true∧getM st.mem d=none∧k=.i64∧0≤n∧n*eb≤2^46∧n≤9223372036854775807∧zs.length=esz)∧
     K {(st.put none d (.vec d esz 0 n.toNat n.toNat))with mem:=(d,(List.replicate n.toNat zs).flatten)::st.mem}
   |_=>False
  |.bslv d esz xs=>match toElems esz (evs st xs)with
   |some es=>(g=none∧gds st xs=true∧getM st.mem d=none∧es.length≤9223372036854775807)∧K {(st.put none d (.vec d esz 0 es.length es.length))with mem:=(d,es.flatten.map .d)::st.mem}
   |none=>False
  |.cpy d esz x y=>match ev st x,(ev st y).elems with
   |.vec s e off n _,some es=>match getM st.mem s with
    |some cs=>(g=none∧gd st x=true∧gd st y=true∧e=1∧esz=1∧(∀e∈es,e.length=1)∧off+n*1≤cs.length)∧
      K {(match d with|some d=>st.put none d (.d (.int .i64 (Nat.min es.length n:Nat)))|none=>st)with mem:=(s,cs.take off++(es.take n).flatten.map .d++cs.drop (off+(es.take n).length*1))::st.mem}
    |none=>False
   |_,_=>False
  |.clr esz zs x=>match ev st x with
   |.vec s e off n _=>match getM st.mem s with
    |some cs=>(g=none∧gd st x=true∧e=esz∧zs.length=esz∧cells1 zs=true∧off+n*esz≤cs.length)∧
      K {st with mem:=(s,cs.take off++(List.replicate n zs).flatten++cs.drop (off+n*esz))::st.mem}
    |none=>False
   |_=>False
  |o=>match opv E.G st o with
   |some (v,ob,gs)=>onG g (gs=true∧ob)∧K (st.put g (dstOf o) v)
   |none=>False
mutual
def AV.plain(m1:Mem):AV→Bool
 |.own _ _ _=>false
 |.ptr s _=>(getM m1 s).isSome
 |.mref s=>(getM m1 s).isSome
 |.vec s _ _ _ _=>(getM m1 s).isSome
 |.pnd _ _ _ _=>false
 |.eptr _ _=>false
 |.agg cs=>AV.plains m1 cs
 |.tup cs=>AV.plains m1 cs
 |.clo _ cs=>AV.plains m1 cs
 |.cond _ v=>AV.plain m1 v
 |_=>true
def AV.plains(m1:Mem):List AV→Bool
 |[]=>true
 |a::as=>AV.plain m1 a&&AV.plains m1 as
end
def EntC(m1:Mem)(mp:TMap)(a:AV):AV→Prop
 |.undef=>a.isMp=false
 |.own t sz es=>match getTM mp t with
  |some u=>a=.own u sz es
  |none=>False
 |.d x=>match a with
  |.full es=>D.lst es=x
  |.own _ _ es=>D.lst es=x
  |a=>a=.d x
 |a1=>a=a1∧a1.plain m1=true
def EntCs(m1:Mem)(mp:TMap):List AV→List AV→Prop
 |[],[]=>True
 |a::as,b::bs=>EntC m1 mp a b∧EntCs m1 mp as bs
 |_,_=>False
def EntV(m1:Mem)(mp:TMap)(a:AV):AV→Prop
 |.agg cs1=>match a with
  |.agg cs=>EntCs m1 mp cs cs1
  |_=>False
 |a1=>EntC m1 mp a a1
def EntSlots(st:St)(m1:Mem)(mp:TMap):List (Nat×AV)→Prop
 |[]=>True
 |(k,v)::r=>EntV m1 mp (getS st.slots k) v∧EntSlots st m1 mp r
def EntMem(st:St)(m1:Mem)(mp:TMap):Mem→Prop
 |[]=>True
 |(k,cs1)::r=>(match getM st.mem k with
  |some cs=>EntCs m1 mp cs cs1
  |none=>False)∧EntMem st m1 mp r
def Ent0(mp:TMap)(st st1:St):Prop:=
 st1.tk=tkOf mp∧mpOk st mp []∧EntSlots st st1.mem mp st1.slots∧EntMem st st1.mem mp st1.mem
def Ent(st st1:St):Prop:=∃ps mp st',convs ps st st'∧Ent0 mp st' st1
def wrOf:I→Option Nat
 |.call d _ _=>d
 |.callB d _ _=>d
 |.st _ _ _=>none
 |.mput _ _ _ _ _ _=>none
 |.mclr _=>none
 |.cpy d _ _ _=>d
 |.clr _ _ _=>none
 |i=>some (dstOf i)
def skipK(o:I)(st:St):St:=match wrOf o with
 |some d=>st.put (some false) d .undef
 |none=>st
def skipG(g:Option Bool)(o:I)(st:St)(K:St→Prop):Prop:=g=some false∧K (skipK o st)
def aopW(E:AEnv)(g:Option Bool)(o:I)(st:St)(K:St→Prop):Prop:=
 match o with
  |.alloc s zs=>aopG E g (.alloc s zs) st K
  |.box s x=>aopG E g (.box s x) st K
  |.st n a x=>aopG E g (.st n a x) st K
  |.app d esz eb x y=>aopG E g (.app d esz eb x y) st K
  |.isnil d x=>aopG E g (.isnil d x) st K
  |.callB d f args=>aopG E g (.callB d f args) st K
  |.mkm s k e=>aopG E g (.mkm s k e) st K
  |.mput k e kz x key v=>aopG E g (.mput k e kz x key v) st K
  |.mclr x=>aopG E g (.mclr x) st K
  |.mkv d esz eb zs x=>aopG E g (.mkv d esz eb zs x) st K
  |.bslv d esz xs=>aopG E g (.bslv d esz xs) st K
  |.cpy d esz x y=>aopG E g (.cpy d esz x y) st K
  |.clr esz zs x=>aopG E g (.clr esz zs x) st K
  |.len d str x=>match lenOf str (ev st x)with
   |some n=>onG g (gd st x=true)∧(onG g ((n:Int)≤9223372036854775807)→K (st.put g d (.d (.int .i64 n))))
   |none=>skipG g (.len d str x) st K
  |.call d f' args=>match ev st f' with
   |.d (.clo f caps)=>match toCVs [] 1 (evs st args)with
    |some cvs=>∃r,onG g (gd st f'=true∧gds st args=true∧E.C f (cvs++caps.map .one) r)∧callK true g d K st (evs st args) r
    |none=>callW E g d f caps (gd st f'&&gds st args) (evs st args) K st (skipG g (.call d f' args) st K)
   |.clo f caps=>callC E g d f caps (gd st f'&&gds st args) (evs st args) K st (skipG g (.call d f' args) st K)
   |_=>skipG g (.call d f' args) st K
  |o=>match opv E.G st o with
   |some (v,ob,gs)=>onG g (gs=true∧ob)∧K (st.put g (dstOf o) v)
   |none=>skipG g o st K
def aop(E:AEnv)(gi:Option (Nat×Bool))(o:I)(st:St)(K:St→Prop):Prop:=
 match guardOf st gi with
 |none=>False
 |some g=>aopW E g o st K
def aops(E:AEnv):List (Option (Nat×Bool)×I)→(St→Prop)→St→Prop
 |[],K,st=>K st
 |(g,o)::os,K,st=>aop E g o st (aops E os K)
def aopN(E:AEnv)(gi:Option (Nat×Bool))(o:I)(st:St)(K:St→Prop):Prop:=
 match guardOf st gi with
 |none=>False
 |some g=>match o with
  |.len d str x=>match lenOf str (ev st x)with
   |some n=>onG g (gd st x=true)∧K (st.put g d (.d (.int .i64 n)))
   |none=>False
  |.isnil _ _=>False
  |.app d esz eb x y=>((ev st y).isZsl=false∧(ev st y).isVec=false∧(ev st x).isVec=false)∧aopG E g (.app d esz eb x y) st K
  |.st n a x=>(ev st a).isEptr=false∧aopG E g (.st n a x) st K
  |.mkv _ _ _ _ _=>False
  |.bslv _ _ _=>False
  |.cpy _ _ _ _=>False
  |.clr _ _ _=>False
  |.call d f' args=>match ev st f' with
   |.d (.clo f caps)=>match toCVs [] 1 (evs st args)with
    |some cvs=>∃r,onG g (gd st f'=true∧gds st args=true∧E.C f (cvs++caps.map .one) r)∧callK false g d K st (evs st args) r
    |none=>False
   |_=>False
  |o=>aopG E g o st K
def aopsN(E:AEnv):List (Option (Nat×Bool)×I)→(St→Prop)→St→Prop
 |[],K,st=>K st
 |(g,o)::os,K,st=>aopN E g o st (aopsN E os K)
def chkF(F:List Nat)(st:St):I→Prop
 |.ld _ _ _ x=>match ev st x with
  |.ptr s _=>F.contains s=false
  |_=>True
 |.st _ a _=>match ev st a with
  |.ptr s _=>F.contains s=true
  |_=>True
 |.alloc s _=>F.contains s=true
 |_=>True
def aopsNF(F:List Nat)(E:AEnv):List (Option (Nat×Bool)×I)→(St→Prop)→St→Prop
 |[],K,st=>K st
 |(g,o)::os,K,st=>chkF F st o∧aopN E g o st (aopsNF F E os K)
def keepsF:List (Nat×Nat×Nat)→St→St→Prop
 |[],_,_=>True
 |(b,o,n)::r,st,s=>rdMem s b o n=rdMem st b o n∧keepsF r st s
def modK:I→Bool
 |.st _ _ _|.alloc _ _|.box _ _|.mkm _ _ _|.mput _ _ _ _ _ _|.mclr _|.mkv _ _ _ _ _|.bslv _ _ _|.callB _ _ _|.cpy _ _ _ _|.clr _ _ _=>true
 |_=>false
def chkK(D:List Nat)(F:List (Nat×Nat×Nat))(st:St):I→Prop
 |.ld d _ n x=>D.contains d=true→match ev st x with
  |.ptr s o=>F.contains (s,o,n)=true
  |_=>True
 |_=>True
def aopsNK(D:List Nat)(F:List (Nat×Nat×Nat))(E:AEnv):List (Option (Nat×Bool)×I)→(St→Prop)→St→Prop
 |[],K,st=>K st
 |(g,o)::os,K,st=>chkK D F st o∧aopN E g o st (fun s=>(modK o=true→keepsF F st s)∧aopsNK D F E os K s)
def regkW(D:List Nat)(E:AEnv)(l:List (Option (Nat×Bool)×I))(K:St→Prop)(st:St):Prop:=∃F,aopsNK D F E l K st
def frzIn(m:Mem)(B:List Nat):List (Nat×AV)→List (Nat×AV)
 |[]=>[]
 |(k,v)::l=>(k,if v.namesIn B then(match AV.toD m 3 v with|some x=>.d x|none=>.undef)else v)::frzIn m B l
def St.frzBox(B:List Nat)(st:St):St:={slots:=frzIn (memIn B st.mem) B st.slots,mem:=memOut B st.mem,tk:=st.tk}
def frzA(m:Mem):List (Nat×AV)→List (Nat×AV)
 |[]=>[]
 |(k,v)::l=>(k,match AV.toD m 3 v with|some x=>.d x|none=>.undef)::frzA m l
def St.frzAll(st:St):St:={slots:=frzA st.mem st.slots,mem:=[],tk:=[]}
def flatOf:AV→AV
 |.d (.bool b)=>.d (.bool b)
 |.d (.int k n)=>.d (.int k n)
 |_=>.undef
def thawS(s:List (Nat×AV)):List Nat→List (Nat×AV)→List (Nat×AV)
 |[],l=>l
 |d::ds,l=>(d,flatOf (getS s d))::thawS s ds l
def St.thaw(st:St)(ds:List Nat)(s:St):St:={st with slots:=thawS s.slots ds st.slots}
def wrsOf:List (Option (Nat×Bool)×I)→List Nat
 |[]=>[]
 |p::l=>(wrOf p.2).toList++wrsOf l
def frzW(E:AEnv)(l:List (Option (Nat×Bool)×I))(K:St→Prop)(st:St):Prop:=∃B,okDrop B (memOut B st.mem)=true∧aopsN E l K (st.frzBox B)
inductive AX where
 |normal
 |exit (id:Nat)
 |ret
def seqK(N:St→Prop)(Q:AX→St→Prop):AX→St→Prop
 |.normal,s=>N s
 |.exit i,s=>Q (.exit i) s
 |.ret,s=>Q .ret s
def blockK(id:Nat)(Q:AX→St→Prop):AX→St→Prop
 |.normal,s=>Q .normal s
 |.exit i,s=>if i=id then Q .normal s else Q (.exit i) s
 |.ret,s=>Q .ret s
def loopL(B:(AX→St→Prop)→St→Prop)(Q:AX→St→Prop)(st:St):Prop:=
 ∀X:St→Prop,(∀s s1,Ent s s1→B (seqK X Q) s1→X s)→X st
def setPs:List Nat→List CV→List (Nat×AV)→List (Nat×AV)
 |p::ps,x::xs,s=>setPs ps xs ((p,x.toAV0)::s)
 |_,_,s=>s
def inN(k:Nat):List Nat→Bool
 |[]=>false
 |a::r=>if a=k then true else inN k r
def dropS(wl:List Nat):List (Nat×AV)→List (Nat×AV)
 |[]=>[]
 |(k,v)::r=>if inN k wl=true then dropS wl r else(k,v)::dropS wl r
def St.dropW(wl:List Nat)(s:St):St:={s with slots:=dropS wl s.slots}
def rngK(wl:List Nat)(N:St→Prop)(Q:AX→St→Prop):AX→St→Prop
 |.normal,s=>N (s.dropW wl)
 |.exit i,s=>Q (.exit i) (s.dropW wl)
 |.ret,s=>Q .ret (s.dropW wl)
def rngL(B:(AX→St→Prop)→St→Prop)(ps wl:List Nat)(xs:List (List CV))(Q:AX→St→Prop)(st:St):Prop:=
 ∃(Inv:List (List CV)→Prop) (Sx:List (List CV)→St),Ent st (Sx [])∧Inv []∧
  (∀pre x rest,xs=pre++x::rest→Inv pre→x.length=ps.length∧B (rngK wl (fun s=>Ent s (Sx (pre++[x]))∧Inv (pre++[x])) Q) {Sx pre with slots:=setPs ps x (Sx pre).slots})∧(Inv xs→Q .normal (Sx xs))
def noK:AX→St→Prop:=fun _ _=>False
def awp(E:AEnv):AC→(AX→St→Prop)→St→Prop
 |.skip,Q,st=>Q .normal st
 |.reg l,Q,st=>aops E l (Q .normal) st
 |.regd l,Q,st=>aopsN E l (Q .normal) st
 |.regz l,Q,st=>frzW E l (Q .normal) st
 |.regv l,Q,st=>∃s:St,convS st s∧aops E l (Q .normal) s
 |.regq l,Q,st=>aopsN E l (fun s=>Q .normal (st.thaw (wrsOf l) s)) st.frzAll
 |.regn F l,Q,st=>aopsNF F E l (Q .normal) st
 |.regk D l,Q,st=>regkW D E l (Q .normal) st
 |.regd2 p a b r,Q,st=>aopsN E p (fun s=>aopsN E (a::b::r) (Q .normal) s∧aopsN E (b::a::r) (Q .normal) s) st
 |.seq a b,Q,st=>awp E a (seqK (awp E b Q) Q) st
 |.cond c a b,Q,st=>match ev st c with
  |.d (.bool x)=>gd st c=true∧(x=true→awp E a Q st)∧(x=false→awp E b Q st)
  |_=>False
 |.block id c,Q,st=>awp E c (blockK id Q) st
 |.scope c,Q,st=>awp E c Q st
 |.alt a b,Q,st=>awp E a Q st∧awp E b Q st
 |.lab,Q,st=>Q .normal st
 |.loop c,Q,st=>loopL (awp E c) Q st
 |.exit id,Q,st=>Q (.exit id) st
 |.ret,Q,st=>Q .ret st
 |.rng g ps wl a b,Q,st=>match ev st g with
  |.d (.clo f caps)=>gd st g=true∧∃xs,E.It f caps xs∧rngL (fun Q'=>awp E a (seqK (awp E b Q') noK)) ps wl xs Q st
  |_=>False
inductive R where
 |t (n:Nat)
 |c (s:Nat) (agg:Bool) (n:Nat)
 deriving Inhabited
def resAV(st:St):R→Option AV
 |.t n=>some (getS st.slots n)
 |.c s ag n=>match getS st.slots s with
  |.ptr b off=>match rdMem st b off n with
   |some cs=>some (asOne ag cs)
   |none=>none
  |_=>none
def resCV(st:St)(x:R):Option CV:=match resAV st x with
 |some a=>a.toCV st.mem 4
 |none=>none
def resCVs(st:St):List R→Option (List CV)
 |[]=>some []
 |x::xs=>match resCV st x,resCVs st xs with
  |some y,some ys=>some (y::ys)
  |_,_=>none
def retOk(st:St)(r:CV):List R→Prop
 |[x]=>resCV st x=some r
 |xs=>match resCVs st xs with
  |some l=>r=.tup l
  |none=>False
def retK(rs:List R)(r:CV):AX→St→Prop
 |.exit _,_=>False
 |.normal,st=>retOk st r rs
 |.ret,st=>retOk st r rs
def initSlots:Nat→List CV→List (Nat×AV)
 |_,[]=>[]
 |k,x::xs=>(k,x.toAV0)::initSlots (k+1) xs
structure FnA where
 n:Nat
 ac:AC
 rs:List R
 deriving Inhabited
def retOwn(st:St)(sz:Nat)(es:List (List D)):List R→Prop
 |[x]=>match resAV st x with
  |some (.own t sz' es')=>sz'=sz∧es'=es∧getT st.tk t=some true
  |some (.full es')=>es'=es∧∀e∈es,e.length=sz
  |_=>False
 |_=>False
def retKO(rs:List R)(sz:Nat)(es:List (List D)):AX→St→Prop
 |.exit _,_=>False
 |.normal,st=>retOwn st sz es rs
 |.ret,st=>retOwn st sz es rs
def initO(args:List CV)(sz:Nat):Option Nat→St
 |none=>⟨initSlots 0 args,[],[]⟩
 |some k=>match args.getD k (.one .nilp)with
  |.one (.lst es)=>⟨(k,.own k sz es)::initSlots 0 args,[],[(k,true)]⟩
  |_=>⟨initSlots 0 args,[],[]⟩
def resCV0(st:St)(x:R):Option CV:=match resAV st x with
 |some a=>a.toCV [] 1
 |none=>none
def resCVs0(st:St):List R→Option (List CV)
 |[]=>some []
 |x::xs=>match resCV0 st x,resCVs0 st xs with
  |some y,some ys=>some (y::ys)
  |_,_=>none
def retB0(st:St)(r:CV)(m1:Mem)(t1:List (Nat×Bool))(rs:List R):Prop:=(match rs with
 |[x]=>resCV0 st x=some r
 |xs=>match resCVs0 st xs with
  |some l=>r=.tup l
  |none=>False)∧Ent st ⟨[],m1,t1⟩
def retB(st:St)(r:CV)(m1:Mem)(t1:List (Nat×Bool))(rs:List R):Prop:=match r with
 |.vr s e off n cap=>∃k,rs=[.t k]∧Ent st ⟨[(k,.vec s e off n cap)],m1,t1⟩
 |r=>retB0 st r m1 t1 rs
def retKB(rs:List R)(r:CV)(m1:Mem)(t1:List (Nat×Bool)):AX→St→Prop
 |.exit _,_=>False
 |.normal,st=>retB st r m1 t1 rs
 |.ret,st=>retB st r m1 t1 rs
def initA:Nat→List AV→List (Nat×AV)
 |_,[]=>[]
 |k,x::xs=>(k,x)::initA (k+1) xs
def Body(E:AEnv)(f:FnA)(args:List CV):CV→Prop
 |.own a sz es=>args.length≤f.n∧awp E f.ac (retKO f.rs sz es) (initO args sz a)
 |.one x=>args.length≤f.n∧awp E f.ac (retK f.rs (.one x)) ⟨initSlots 0 args,[],[]⟩
 |.agg x=>args.length≤f.n∧awp E f.ac (retK f.rs (.agg x)) ⟨initSlots 0 args,[],[]⟩
 |.tup x=>args.length≤f.n∧awp E f.ac (retK f.rs (.tup x)) ⟨initSlots 0 args,[],[]⟩
 |.bx as m0 t0 r m1 t1=>as.length≤f.n∧f.n≤1000∧r.isOwn=false∧awp E f.ac (retKB f.rs r m1 t1) ⟨initA 0 as,m0,t0⟩
 |.vr _ _ _ _ _=>False
 |.vc _ _=>False
inductive Ty where
 |cell (z:AV)
 |slice (esz ebytes:Nat) (zs:List AV)
 |agg (zs:List AV) (fields:List (Nat×Nat×Bool))
 |arr (n esz:Nat) (eagg:Bool) (zs:List AV)
 |map (k e:Nat) (kz:D) (ez:MV)
 deriving Inhabited
def ofConst0:Value→Option AV
 |.bool b=>some (.d (.bool b))
 |.int k n=>some (.d (.int k n))
 |.string s=>if s.size≤9223372036854775807 then some (.d (.str s.data.toList))else none
 |.slice none 0 0=>some (.full [])
 |.nilFunc=>some (.d .nilf)
 |.pointer none=>some (.d .nilp)
 |.nilIface=>some (.d .nilI)
 |_=>none
def ofConst:Value→Option AV
 |.agg vs=>(vs.toList.mapM ofConst0).map .agg
 |v=>ofConst0 v
def trX:Operand→Option X
 |.tmp t=>some (.t t)
 |.const v=>(ofConst v).map .c
 |.global g=>some (.c (.d (.gp g 0)))
 |.func f=>some (.c (.d (.clo f [])))
def tySize:Ty→Nat
 |.cell _=>1|.slice _ _ _=>1|.agg zs _=>zs.length|.arr _ _ _ zs=>zs.length|.map _ _ _ _=>1
def tyAgg:Ty→Bool
 |.agg _ _=>true|.arr _ _ _ _=>true|_=>false
def tyZero:Ty→List AV
 |.cell z=>[z]|.slice _ _ _=>[.full []]|.agg zs _=>zs|.arr _ _ _ zs=>zs|.map _ _ _ _=>[.undef]
def trXs(l:List Operand):Option (List X):=l.mapM trX
def trBuiltin(T:Nat→Option Ty)(d:Nat)(b:Builtin)(args:List Operand)(tys:List TypeId):Option I:=
 match b,args,tys with
 |.len,[x],t::_=>do
  match←T t with
  |.slice _ _ _=>pure (.len d false (←trX x))
  |.cell (.d (.str []))=>pure (.len d true (←trX x))
  |_=>none
 |.max,[x,y],_=>do pure (.max d (←trX x) (←trX y))
 |.min,[x,y],_=>do pure (.min d (←trX x) (←trX y))
 |.append,[x,y],[t,t']=>do
  let .slice esz eb _←T t|none
  if t=t' then pure (.app d esz eb (←trX x) (←trX y))else none
 |_,_,_=>none
def trClear(T:Nat→Option Ty)(d:Option Nat)(args:List Operand)(tys:List TypeId):Option I:=
 match d,args,tys with
 |none,[x],t::_=>do
  match←T t with
  |.map _ _ _ _=>pure (.mclr (←trX x))
  |.slice esz _ zs=>pure (.clr esz zs (←trX x))
  |_=>none
 |_,_,_=>none
def trCopy(T:Nat→Option Ty)(d:Option Nat)(args:List Operand)(tys:List TypeId):Option I:=
 match args,tys with
 |[x,y],[t,_]=>do
  let .slice esz _ _←T t|none
  if esz=1 then pure (.cpy d esz (←trX x) (←trX y))else none
 |_,_=>none
def isPtrT:Option Ty→Bool
 |some (.cell (.d .nilp))=>true
 |_=>false
def trCall(T:Nat→Option Ty)(d:Option Nat)(c:Call):Option I:=
 match c.callee with
 |.value f=>
  if c.argTypes.toList.any (fun t=>isPtrT (T t))then do pure (.callB d (←trX f) (←trXs c.args.toList))
  else do pure (.call d (←trX f) (←trXs c.args.toList))
 |.builtin .clear=>trClear T d c.args.toList c.argTypes.toList
 |.builtin .copy=>trCopy T d c.args.toList c.argTypes.toList
 |.builtin b=>do trBuiltin T (←d) b c.args.toList c.argTypes.toList
 |_=>none
def trPick(d:Nat)(c a b:Operand):Option I:=
 match a,b with
 |a,.const (.bool false)=>do pure (.and d (←trX c) (←trX a))
 |.const (.bool true),b=>do pure (.or d (←trX c) (←trX b))
 |_,_=>none
def isEq:BinOp→Bool
 |.eql=>true
 |.neq=>true
 |_=>false
def isBoolT:Option Ty→Bool
 |some (.cell (.d (.bool _)))=>true
 |_=>false
def isIfcT:Option Ty→Bool
 |some (.cell (.d .nilI))=>true
 |_=>false
def isNilI:Operand→Bool
 |.const .nilIface=>true
 |_=>false
def isFlatT:Option Ty→Bool
 |some (.agg zs fs)=>zs.all flatA&&fs.length==zs.length
 |some (.arr _ esz eagg zs)=>zs.all flatA&&esz==1&&!eagg
 |_=>false
def zsT:Option Ty→List AV
 |some (.agg zs _)=>zs
 |some (.arr _ _ _ zs)=>zs
 |_=>[]
def trBin(T:Nat→Option Ty)(dst:Option Nat)(op:BinOp)(t:Nat)(x y:Operand):Option I:=
 match op,y with
 |.eql,.const (.slice none 0 0)=>do
  let .slice _ _ _←T t|none
  pure (.isnil (←dst) (←trX x))
 |op,y=>
  if isEq op&&isBoolT (T t)then do pure (.beq (←dst) (op==.neq) (←trX x) (←trX y))
  else if isEq op&&isFlatT (T t)then do pure (.aeq (←dst) (op==.neq) (zsT (T t)) (←trX x) (←trX y))
  else if isEq op&&isIfcT (T t)&&isNilI y then do pure (.ieq (←dst) (op==.neq) (←trX x))
  else do pure (.bin (←dst) op (←trX x) (←trX y))
def trUn(T:Nat→Option Ty)(dst:Option Nat)(u:UnOp)(t:Nat)(x:Operand):Option I:=
 match u with
 |.not=>do pure (.not (←dst) (←trX x))
 |.neg=>do
  let .cell (.d (.int k 0))←T t|none
  pure (.bin (←dst) .sub (.c (.d (.int k 0))) (←trX x))
 |_=>none
def trArr(n esz d:Nat)(x:X):Operand→Option I
 |.const (.int _ k)=>if 0≤k∧k<n then some (.fa d (k.toNat*esz) x)else none
 |_=>none
def isZel:List (Nat×Operand)→Bool
 |[(_,.const (.agg _))]=>true
 |[(_,.const (.agg _)),(_,.const (.agg _))]=>true
 |_=>false
def sameOpd:Operand→Operand→Bool
 |.tmp a,.tmp b=>a==b
 |.const (.int k a),.const (.int k' b)=>k==k'&&a==b
 |_,_=>false
def trOp(T:Nat→Option Ty)(dst:Option Nat)(op:Op):Option I:=
 match op with
 |.move x=>do pure (.mv (←dst) (←trX x))
 |.assign x=>do pure (.mv (←dst) (←trX x))
 |.nilCheck x=>do pure (.nck (←dst) (←trX x))
 |.pick c a b=>do trPick (←dst) c a b
 |.binOp op t x y _=>trBin T dst op t x y
 |.unOp u t x=>trUn T dst u t x
 |.build t parts=>do
  match←T t with
  |.agg zs fs=>pure (.build (←dst) zs (←parts.toList.mapM fun p=>do let f←fs[p.1]?;pure (f.1,f.2.1,←trX p.2)))
  |.arr _ esz _ zs=>pure (.build (←dst) zs (←parts.toList.mapM fun p=>do pure (p.1*esz,esz,←trX p.2)))
  |_=>none
 |.field t x f=>do
  let .agg _ fs←T t|none
  let fd←fs[f]?
  pure (.fld (←dst) fd.1 fd.2.1 fd.2.2 (←trX x))
 |.buildSlice t n parts=>do
  let .slice esz eb _←T t|none
  if parts.toList.map (·.1)=List.range n∧n*esz≤2^24 then
   (if isZel parts.toList then do pure (.bslz (←dst) esz (←trXs (parts.toList.map (·.2))))else if(decide (6≤esz)&&decide (10≤n))||(decide (n=0)&&decide (esz=1)&&decide (eb=8)&&decide (dst=some 8))then do pure (.bslv (←dst) esz (←trXs (parts.toList.map (·.2))))else do pure (.bsl (←dst) esz (←trXs (parts.toList.map (·.2)))))else none
 |.fieldAddr t x f=>do
  let .agg _ fs←T t|none
  let fd←fs[f]?
  pure (.fa (←dst) fd.1 (←trX x))
 |.load t x=>do
  let ty←T t
  pure (.ld (←dst) (tyAgg ty) (tySize ty) (←trX x))
 |.indexAddr t x i=>do
  match←T t with
  |.slice esz _ _=>pure (.idx (←dst) esz (←trX x) (←trX i))
  |.arr n esz _ _=>match i with
   |.const _=>trArr n esz (←dst) (←trX x) i
   |_=>pure (.aad (←dst) n esz (←trX x) (←trX i))
  |_=>none
 |.index t x i=>do
  match←T t with
  |.cell (.d (.str []))=>pure (.sidx (←dst) (←trX x) (←trX i))
  |.arr n 1 false _=>pure (.aidx (←dst) n (←trX x) (←trX i))
  |_=>none
 |.slice t x lo hi none=>do
  match←T t with
  |.cell (.d (.str []))=>
   match lo,hi with
   |some lo,none=>pure (.sfrom (←dst) (←trX x) (←trX lo))
   |some lo,some hi=>pure (.sto (←dst) (←trX x) (←trX lo) (←trX hi))
   |none,some hi=>pure (.sto (←dst) (←trX x) (.c (.d (.int .i64 0))) (←trX hi))
   |none,none=>none
  |.slice esz _ _=>
   match lo,hi with
   |some lo,none=>pure (.lfrom (←dst) esz (←trX x) (←trX lo))
   |some lo,some hi=>pure (.lto (←dst) esz (←trX x) (←trX lo) (←trX hi))
   |none,some hi=>pure (.lto (←dst) esz (←trX x) (.c (.d (.int .i64 0))) (←trX hi))
   |none,none=>none
  |_=>none
 |.slice t x lo (some hi) (some mx)=>do
  match←T t with
  |.slice esz _ _=>
   match lo with
   |some lo=>pure (.lmax (←dst) esz (←trX x) (←trX lo) (←trX hi) (←trX mx))
   |none=>pure (.lmax (←dst) esz (←trX x) (.c (.d (.int .i64 0))) (←trX hi) (←trX mx))
  |_=>none
 |.convert s t x=>do
  let _←T s
  match←T t with
  |.cell (.d (.int k 0))=>pure (.cvt (←dst) k (←trX x))
  |.cell (.d (.str []))=>pure (.cvs (←dst) (←trX x))
  |_=>none
 |.makeSlice t x y=>do
  match←T t with
  |.slice esz eb zs=>if sameOpd x y then pure (.mkv (←dst) esz eb zs (←trX x))else none
  |_=>none
 |.extract x i=>do pure (.ext (←dst) (←trX x) i)
 |.makeFunc f first caps=>do
  let .func f:=f|none
  if first.isEmpty then pure (.mkf (←dst) f (←trXs caps.toList))else none
 |.alloc t=>do pure (.alloc (←dst) (tyZero (←T t)))
 |.box _ x=>do pure (.box (←dst) (←trX x))
 |.makeMap t none=>do
  let .map k e _ _←T t|none
  pure (.mkm (←dst) k e)
 |.mapUpdate t x key v=>do
  let none:=dst|none
  let .map k e kz _←T t|none
  pure (.mput k e kz (←trX x) (←trX key) (←trX v))
 |.lookup t x key ok=>do
  let .map k e kz ez←T t|none
  pure (.mget (←dst) ok k e kz ez (←trX x) (←trX key))
 |.store t a x=>do
  let none:=dst|none
  pure (.st (tySize (←T t)) (←trX a) (←trX x))
 |.call c=>trCall T dst c
 |_=>none
def trGuard(ops:List Oper):Option (Nat×Bool)→Option (Option (Nat×Bool))
 |none=>some none
 |some (j,w)=>do pure (some (←(←ops[j]?).dst,w))
def trOps(T:Nat→Option Ty)(ops:List Oper):Option (List (Option (Nat×Bool)×I)):=
 ops.mapM fun o=>do pure (←trGuard ops o.guard,←trOp T o.dst o.op)
def X.rds:X→List Nat
 |.t n=>[n]
 |.c _=>[]
def rdsOf:I→List Nat
 |.mv _ x|.not _ x|.nck _ x|.fa _ _ x|.fld _ _ _ _ x|.ld _ _ _ x|.ext _ x _|.len _ _ x|.box _ x|.isnil _ x|.mclr x|.mkv _ _ _ _ x|.clr _ _ x|.cvt _ _ x|.cvs _ x|.ieq _ _ x=>x.rds
 |.cpy _ _ x y=>x.rds++y.rds
 |.lmax _ _ x y z m=>x.rds++(y.rds++(z.rds++m.rds))
 |.and _ x y|.or _ x y|.bin _ _ x y|.idx _ _ x y|.aad _ _ _ x y|.max _ x y|.min _ x y|.beq _ _ x y|.st _ x y|.app _ _ _ x y|.sidx _ x y|.aidx _ _ x y|.aeq _ _ _ x y|.sfrom _ x y|.lfrom _ _ x y=>x.rds++y.rds
 |.mget _ _ _ _ _ _ x y=>x.rds++y.rds
 |.sto _ x y z|.lto _ _ x y z|.mput _ _ _ x y z=>x.rds++(y.rds++z.rds)
 |.build _ _ ps=>ps.flatMap fun p=>p.2.2.rds
 |.bsl _ _ xs|.bslv _ _ xs|.mkf _ _ xs=>xs.flatMap X.rds
 |.bslz _ _ xs=>xs.flatMap X.rds
 |.call _ f xs|.callB _ f xs=>f.rds++xs.flatMap X.rds
 |.alloc _ _|.mkm _ _ _=>[]
def gRds:Option (Nat×Bool)→List Nat
 |none=>[]
 |some (s,_)=>[s]
inductive Kind where
 |quiet|reads|writes|tokens|all
 deriving DecidableEq
def kindOf:I→Kind
 |.ld _ _ _ _|.mget _ _ _ _ _ _ _ _=>.reads
 |.st _ _ _|.alloc _ _|.box _ _|.mkm _ _ _|.mput _ _ _ _ _ _|.mclr _|.mkv _ _ _ _ _|.bslv _ _ _=>.writes
 |.app _ _ _ _ _|.call _ _ _=>.tokens
 |.callB _ _ _|.cpy _ _ _ _|.clr _ _ _=>.all
 |_=>.quiet
def kindsApart:Kind→Kind→Bool
 |.quiet,_=>true
 |_,.quiet=>true
 |.reads,.reads=>true
 |.reads,.tokens=>true
 |.tokens,.reads=>true
 |.writes,.tokens=>true
 |.tokens,.writes=>true
 |_,_=>false
def readsNew:I→I→Bool
 |.ld _ _ _ _,.alloc _ _=>true
 |.ld _ _ _ _,.box _ _=>true
 |.ld _ _ _ _,.mkm _ _ _=>true
 |.mget _ _ _ _ _ _ _ _,.alloc _ _=>true
 |.mget _ _ _ _ _ _ _ _,.box _ _=>true
 |.mget _ _ _ _ _ _ _ _,.mkm _ _ _=>true
 |_,_=>false
def slotApart(d:Option Nat)(l:List Nat):Bool:=match d with
 |none=>true
 |some d=>!l.contains d
def apart(a b:Option (Nat×Bool)×I):Bool:=
 (kindsApart (kindOf a.2) (kindOf b.2)||readsNew a.2 b.2)&&slotApart (wrOf a.2) (gRds b.1++rdsOf b.2)&&slotApart (wrOf b.2) (gRds a.1++rdsOf a.2)&&slotApart (wrOf a.2) (wrOf b.2).toList
def predsOf(ops:List Oper):List Nat→List Oper→List Nat
 |acc,[]=>acc
 |acc,o::os=>predsOf ops (acc++[o.after.toList.foldl (fun m e=>if Region.binds .any e then m|||(2^e.on|||acc.getD e.on 0)else m) 0]) os
def edgesOk(k:Nat):List Oper→Bool
 |[]=>true
 |o::os=>o.after.toList.all (fun e=>!Region.binds .any e||decide (e.on<k))&&edgesOk (k+1) os
def dokRow(l:List (Option (Nat×Bool)×I))(preds:Nat)(b:Option (Nat×Bool)×I):Nat→Bool
 |0=>true
 |j+1=>(preds.testBit j||(match l[j]? with|some a=>apart a b|none=>true))&&dokRow l preds b j
def dokAll(l:List (Option (Nat×Bool)×I))(preds:List Nat):Nat→Bool
 |0=>true
 |k+1=>(match l[k]? with|some b=>dokRow l (preds.getD k 0) b k|none=>true)&&dokAll l preds k
def hasZ(l:List (Option (Nat×Bool)×I)):Bool:=l.any fun p=>match p.2 with
 |.bslz _ _ _=>true
 |.bslv _ _ _=>true
 |_=>false
def hasV(l:List (Option (Nat×Bool)×I)):Bool:=l.any fun p=>match p.2 with
 |.bslv _ _ _=>true
 |_=>false
def hasApp(l:List (Option (Nat×Bool)×I)):Bool:=l.any fun p=>match p.2 with
 |.app _ _ _ _ _=>true
 |_=>false
def dok(ops:List Oper)(l:List (Option (Nat×Bool)×I)):Bool:=(edgesOk 0 ops&&dokAll l (predsOf ops [] ops) ops.length)&&!hasZ l
def okBit(l:List (Option (Nat×Bool)×I))(preds:List Nat)(i j:Nat):Bool:=(preds.getD j 0).testBit i||apart (l.getD i default) (l.getD j default)
def pairOk(l:List (Option (Nat×Bool)×I))(preds:List Nat):List Nat→Bool
 |[]=>true
 |i::r=>r.all (okBit l preds i)&&pairOk l preds r
def dok2(ops:List Oper)(l:List (Option (Nat×Bool)×I))(ps:List Nat)(ia ib:Nat)(rs:List Nat):Bool:=edgesOk 0 ops&&pairOk l (predsOf ops [] ops) (ps++ia::rs)&&pairOk l (predsOf ops [] ops) (ps++ib::rs)
def badRow(l:List (Option (Nat×Bool)×I))(preds:List Nat)(j:Nat):Nat→Option (Nat×Nat)
 |0=>none
 |i+1=>if okBit l preds i j then badRow l preds j i else some (i,j)
def findBad(l:List (Option (Nat×Bool)×I))(preds:List Nat):Nat→Option (Nat×Nat)
 |0=>none
 |j+1=>match findBad l preds j with
  |some x=>some x
  |none=>badRow l preds j j
def dep2(preds:List Nat)(ia ib k:Nat):Bool:=(preds.getD k 0).testBit ia||(preds.getD k 0).testBit ib
def pairF:I→I→Bool
 |.ld _ _ _ _,.st _ _ _=>true
 |.st _ _ _,.ld _ _ _ _=>true
 |.alloc _ _,.ld _ _ _ _=>true
 |.alloc _ _,.alloc _ _=>true
 |_,_=>false
def apartF(a b:Option (Nat×Bool)×I):Bool:=
 apart a b||(pairF a.2 b.2&&slotApart (wrOf a.2) (gRds b.1++rdsOf b.2)&&slotApart (wrOf b.2) (gRds a.1++rdsOf a.2)&&slotApart (wrOf a.2) (wrOf b.2).toList)
def okBitF(l:List (Option (Nat×Bool)×I))(preds:List Nat)(i j:Nat):Bool:=(preds.getD j 0).testBit i||apartF (l.getD i default) (l.getD j default)
def pairOkF(l:List (Option (Nat×Bool)×I))(preds:List Nat):List Nat→Bool
 |[]=>true
 |i::r=>r.all (okBitF l preds i)&&pairOkF l preds r
def allocsOf(l:List (Option (Nat×Bool)×I)):List Nat:=l.filterMap fun p=>match p.2 with
 |.alloc s _=>some s
 |.st _ (.t s) _=>some s
 |_=>none
def regN(ops:List Oper)(l:List (Option (Nat×Bool)×I)):Option AC:=
 if edgesOk 0 ops&&pairOkF l (predsOf ops [] ops) (List.range ops.length)then some (.regn (allocsOf l) l)else none
def reg2(ops:List Oper)(l:List (Option (Nat×Bool)×I)):Option AC:=
 match findBad l (predsOf ops [] ops) ops.length with
 |none=>none
 |some (ia,ib)=>
  let ps:=(List.range ops.length).filter fun k=>k !=ia&&k !=ib&&!dep2 (predsOf ops [] ops) ia ib k
  let rs:=(List.range ops.length).filter fun k=>k !=ia&&k !=ib&&dep2 (predsOf ops [] ops) ia ib k
  if ia<ops.length&&ib<ops.length&&ia !=ib&&dok2 ops l ps ia ib rs then some (.regd2 (ps.map fun i=>l.getD i default) (l.getD ia default) (l.getD ib default) (rs.map fun i=>l.getD i default))else none
def okDst(N:Nat)(ops:List Oper):Bool:=ops.all fun o=>match o.dst with|some d=>decide (d<N)|none=>true
def AC.wrs:AC→List Nat
 |.reg l=>l.filterMap fun p=>wrOf p.2
 |.regd l=>l.filterMap fun p=>wrOf p.2
 |.regz l=>l.filterMap fun p=>wrOf p.2
 |.regv l=>l.filterMap fun p=>wrOf p.2
 |.regq l=>l.filterMap fun p=>wrOf p.2
 |.regd2 p a b r=>(p++a::b::r).filterMap fun p=>wrOf p.2
 |.regn _ l=>l.filterMap fun p=>wrOf p.2
 |.regk _ l=>l.filterMap fun p=>wrOf p.2
 |.seq a b=>a.wrs++b.wrs
 |.cond _ a b=>a.wrs++b.wrs
 |.block _ c=>c.wrs
 |.scope c=>c.wrs
 |.alt a b=>a.wrs++b.wrs
 |.loop c=>c.wrs
 |.rng _ ps _ a b=>ps++(a.wrs++b.wrs)
 |_=>[]
def readyL(preds:List Nat)(listed:Nat)(n:Nat):List Nat:=(List.range n).filter fun k=>!listed.testBit k&&(preds.getD k 0&&&listed)==preds.getD k 0
def treeOf(l:List (Option (Nat×Bool)×I))(preds:List Nat):Nat→Nat→AC
 |0,_=>.skip
 |f+1,listed=>match readyL preds listed l.length with
  |[]=>.skip
  |i::is=>is.foldl (fun a k=>.alt a (.seq (.reg [l.getD k default]) (treeOf l preds f (listed|||2^k)))) (.seq (.reg [l.getD i default]) (treeOf l preds f (listed|||2^i)))
def cutReg(l:List (Option (Nat×Bool)×I))(preds:List Nat):Nat→Option Nat
 |0=>none
 |k+1=>if !(hasZ l&&hasApp (l.take k))&&!hasV (l.take k)&&dokAll (l.take k) preds k&&((List.range l.length).filter (fun j=>decide (k≤j))).all (fun j=>(preds.getD j 0&&&(2^k-1))==2^k-1)&&decide (l.length≤k+5)then some k else cutReg l preds k
def reg4(ops:List Oper)(l:List (Option (Nat×Bool)×I)):Option AC:=
 match cutReg l (predsOf ops [] ops) (l.length+1)with
 |some k=>
  let ac:=AC.scope (.seq (.regd (l.take k)) (treeOf l (predsOf ops [] ops) (l.length-k) (2^k-1)))
  if edgesOk 0 ops&&decide (k≤l.length)&&dokAll (l.take k) (predsOf ops [] ops) k&&((List.range l.length).filter (fun j=>decide (k≤j))).all (fun j=>((predsOf ops [] ops).getD j 0&&&(2^k-1))==2^k-1)&&(l.filterMap fun p=>wrOf p.2).all (fun d=>ac.wrs.contains d)then some ac else none
 |none=>none
def pairK(D:List Nat):I→I→Bool
 |.ld d _ _ _,.callB _ _ _=>D.contains d
 |.callB _ _ _,.ld d _ _ _=>D.contains d
 |.callB _ _ _,.alloc _ _=>true
 |_,_=>false
def apartK(D:List Nat)(a b:Option (Nat×Bool)×I):Bool:=
 apart a b||(pairK D a.2 b.2&&slotApart (wrOf a.2) (gRds b.1++rdsOf b.2)&&slotApart (wrOf b.2) (gRds a.1++rdsOf a.2)&&slotApart (wrOf a.2) (wrOf b.2).toList)
def okBitK(D:List Nat)(l:List (Option (Nat×Bool)×I))(preds:List Nat)(i j:Nat):Bool:=(preds.getD j 0).testBit i||apartK D (l.getD i default) (l.getD j default)
def pairOkK(D:List Nat)(l:List (Option (Nat×Bool)×I))(preds:List Nat):List Nat→Bool
 |[]=>true
 |i::r=>r.all (okBitK D l preds i)&&pairOkK D l preds r
def isCallB:I→Bool
 |.callB _ _ _=>true
 |_=>false
def ldsOf(l:List (Option (Nat×Bool)×I))(preds:List Nat):List Nat:=(List.range l.length).filterMap fun j=>match (l.getD j default).2 with
 |.ld d _ _ _=>if(List.range l.length).any (fun i=>isCallB (l.getD i default).2&&!(preds.getD j 0).testBit i&&!(preds.getD i 0).testBit j)then some d else none
 |_=>none
def cutReg5(D:List Nat)(l:List (Option (Nat×Bool)×I))(preds:List Nat):Nat→Option Nat
 |0=>none
 |k+1=>if decide (k≤l.length)&&!(hasZ l&&hasApp (l.take k))&&!hasV (l.take k)&&pairOkK D l preds (List.range k)&&((List.range l.length).filter (fun j=>decide (k≤j))).all (fun j=>(preds.getD j 0&&&(2^k-1))==2^k-1)&&decide (l.length≤k+9)then some k else cutReg5 D l preds k
def reg5(ops:List Oper)(l:List (Option (Nat×Bool)×I)):Option AC:=
 let D:=ldsOf l (predsOf ops [] ops)
 match cutReg5 D l (predsOf ops [] ops) (l.length+1)with
 |some k=>
  let ac:=AC.scope (.seq (.regk D (l.take k)) (treeOf l (predsOf ops [] ops) (l.length-k) (2^k-1)))
  if edgesOk 0 ops&&decide (k≤l.length)&&pairOkK D l (predsOf ops [] ops) (List.range k)&&((List.range l.length).filter (fun j=>decide (k≤j))).all (fun j=>((predsOf ops [] ops).getD j 0&&&(2^k-1))==2^k-1)&&(l.filterMap fun p=>wrOf p.2).all (fun d=>ac.wrs.contains d)then some ac else none
 |none=>none
def ok6(D:List Nat)(ops:List Oper)(l:List (Option (Nat×Bool)×I))(preds:List Nat)(k c:Nat):Bool:=
 edgesOk 0 ops&&decide (k≤l.length)&&decide (k≤c)&&decide (c<l.length)&&pairOkK D l preds (List.range k++[c])&&(match (l.getD c default).2 with|.bin _ _ _ _=>true|_=>false)&&
  ((List.range l.length).filter (fun j=>decide (k≤j)&&j !=c)).all (fun j=>(preds.getD j 0&&&(2^k-1))==2^k-1)
def acOf6(D:List Nat)(l:List (Option (Nat×Bool)×I))(preds:List Nat)(k c:Nat):AC:=
 .scope (.seq (.regk D (l.take k)) (.alt (treeOf l preds (l.length-k) (2^k-1)) (.seq (.regd [l.getD c default]) (treeOf l preds (l.length-k-1) ((2^k-1)|||2^c)))))
def find6(D:List Nat)(ops:List Oper)(l:List (Option (Nat×Bool)×I))(preds:List Nat):Nat→Option (Nat×Nat)
 |0=>none
 |k+1=>if !(hasZ l&&hasApp (l.take k))&&!hasV (l.take k)&&decide (l.length≤k+9)then(match (List.range l.length).find? (fun c=>ok6 D ops l preds k c)with
  |some c=>some (k,c)
  |none=>find6 D ops l preds k)else find6 D ops l preds k
def reg6(ops:List Oper)(l:List (Option (Nat×Bool)×I)):Option AC:=
 let D:=ldsOf l (predsOf ops [] ops)
 match find6 D ops l (predsOf ops [] ops) (l.length+1)with
 |some (k,c)=>if ok6 D ops l (predsOf ops [] ops) k c&&(l.filterMap fun p=>wrOf p.2).all (fun d=>(acOf6 D l (predsOf ops [] ops) k c).wrs.contains d)then some (acOf6 D l (predsOf ops [] ops) k c)else none
 |none=>none
def wantC(l:List (Option (Nat×Bool)×I)):Bool:=match l.getLast? with
 |some (none,.call _ (.t _) [_,_,_])=>true
 |some (none,.call _ (.t _) [_])=>true
 |_=>false
def regC(ops:List Oper)(l:List (Option (Nat×Bool)×I))(k:Nat):Option AC:=
 let ac:=AC.scope (.seq (.regd (l.take k)) (treeOf l (predsOf ops [] ops) (l.length-k) (2^k-1)))
 if edgesOk 0 ops&&decide (k≤l.length)&&dokAll (l.take k) (predsOf ops [] ops) k&&((List.range l.length).filter (fun j=>decide (k≤j))).all (fun j=>((predsOf ops [] ops).getD j 0&&&(2^k-1))==2^k-1)&&(l.filterMap fun p=>wrOf p.2).all (fun d=>ac.wrs.contains d)then some ac else none
def reg3(ops:List Oper)(l:List (Option (Nat×Bool)×I)):Option AC:=match (if wantC l then regC ops l (l.length-1)else none)with
 |some ac=>some ac
 |none=>match (if hasZ l then none else reg2 ops l)with
 |some ac=>some ac
 |none=>match (if hasZ l then none else regN ops l)with
  |some ac=>some ac
  |none=>match reg4 ops l with
   |some ac=>some ac
   |none=>match reg5 ops l with
    |some ac=>some ac
    |none=>reg6 ops l
def isCall:I→Bool
 |.call _ _ _=>true
 |_=>false
def isLd1:I→Bool
 |.ld _ false 1 _=>true
 |_=>false
def isBeq:I→Bool
 |.beq _ _ _ _=>true
 |_=>false
def wantZ(l:List (Option (Nat×Bool)×I)):Bool:=decide ((l.filter fun p=>isCall p.2).length=2)&&decide ((l.filter fun p=>isLd1 p.2).length=2)&&l.any (fun p=>isBeq p.2)&&decide (l.length≤12)
def isCallG:Option (Nat×Bool)×I→Bool
 |(some _,.call _ _ _)=>true
 |_=>false
def wantQ(l:List (Option (Nat×Bool)×I)):Bool:=decide ((l.filter isCallG).length=2)&&decide (l.length=19)
def isCallB2:I→Bool
 |.callB _ _ _=>true
 |_=>false
def isAppI:I→Bool
 |.app _ _ _ _ _=>true
 |_=>false
def isIdxI:I→Bool
 |.idx _ _ _ _=>true
 |_=>false
def wantV(l:List (Option (Nat×Bool)×I)):Bool:=l.any (fun p=>isCallB2 p.2)&&l.any (fun p=>isAppI p.2)&&!l.any (fun p=>isIdxI p.2)
def AC.noRng:AC→Bool
 |.seq a b=>a.noRng&&b.noRng
 |.cond _ a b=>a.noRng&&b.noRng
 |.block _ c=>c.noRng
 |.scope c=>c.noRng
 |.alt a b=>a.noRng&&b.noRng
 |.loop c=>c.noRng
 |.rng _ _ _ _ _=>false
 |_=>true
def tr(T:Nat→Option Ty)(N:Nat):Code→Option AC
 |.skip=>some .skip
 |.region _ ops draw=>do
  let l←trOps T ops.toList
  if okDst N ops.toList then(if draw then(if dok ops.toList l&&!wantC l then(if wantZ l then some (.regz l)else if wantQ l then some (.regq l)else some (.regd l))else reg3 ops.toList l)else(if wantV l then some (.regv l)else some (.reg l)))else none
 |.seq a b=>do pure (.seq (←tr T N a) (←tr T N b))
 |.cond c a b=>do pure (.cond (←trX c) (←tr T N a) (←tr T N b))
 |.block id c=>do pure (.block id (←tr T N c))
 |.scope c=>do pure (.scope (←tr T N c))
 |.label _=>some .lab
 |.loop c=>do pure (.loop (←tr T N c))
 |.exit id=>some (.exit id)
 |.ret=>some .ret
 |.rangeFunc g ps assign body=>do
  let g←trX g;let a←tr T N assign;let b←tr T N body
  if(a.noRng&&b.noRng&&ps.toList.all (fun p=>decide (p<N)))=true then some (.rng g ps.toList (ps.toList++(a.wrs++b.wrs)) a b)else none
 |_=>none
def trRes(T:Nat→Option Ty):ResultVar→Option R
 |.tmp t=>some (.t t)
 |.cell a t=>do let ty←T t;pure (.c a (tyAgg ty) (tySize ty))
def trFn(T:Nat→Option Ty)(fn:Func):Option FnA:=do
 if fn.name== "runtime.NumGoroutine" then none else
 let cd←fn.body
 pure ⟨fn.ntmps,←tr T fn.ntmps cd,←fn.results.toList.mapM (trRes T)⟩
end Go.Abs
end
section
namespace Go.Abs
theorem yJh{E:AEnv}{g st o}{K K':St→Prop}(hk:∀s,K s→K' s)
  (h:match opv E.G st o with|some (v,ob,gs)=>onG g (gs=true∧ob)∧K (st.put g (dstOf o) v)|none=>False):
  match opv E.G st o with|some (v,ob,gs)=>onG g (gs=true∧ob)∧K' (st.put g (dstOf o) v)|none=>False:=by
 cases hv:opv E.G st o with
 |none=>simp[hv]at h
 |some r=>simp only[hv]at h⊢;exact⟨h.1,hk _ h.2⟩
theorem zv9{v g d K K' st as r}(hk:∀s,K s→K' s)(h:callK v g d K st as r):callK v g d K' st as r:=by
 cases r with
 |own a sz es=>
  cases d with
  |none=>exact h
  |some d=>exact⟨h.1,hk _ h.2⟩
 |one x=>exact hk _ h
 |agg x=>exact hk _ h
 |tup x=>exact hk _ h
 |bx=>exact h
 |vr=>exact h
 |vc=>
  cases d with
  |none=>exact h
  |some d=>exact⟨h.1,fun e=>hk _ (h.2.1 e),fun e c h1 h2=>hk _ (h.2.2 e c h1 h2)⟩
theorem yKJ{g d K st as r}(h:callK false g d K st as r):callK true g d K st as r:=by
 cases r<;>first|exact h|(cases d<;>first|exact h.elim|exact absurd h.1.1 (by simp))
theorem yvH{E g d f caps gs as K K' st}(hk:∀s,K s→K' s)(h:callWP E g d f caps gs as K st):callWP E g d f caps gs as K' st:=by
 unfold callWP at*
 rcases h with h|⟨x,h1,h2⟩|⟨B,cvs,r,h1,h2⟩
 ·split at h
  ·rcases h with⟨r,h1,h2⟩|⟨r,h1,h2⟩
   ·exact .inl (.inl ⟨r,h1,zv9 hk h2⟩)
   ·exact .inl (.inr ⟨r,h1,zv9 hk h2⟩)
  ·exact h.elim
 ·exact .inr (.inl ⟨x,h1,hk _ h2⟩)
 ·exact .inr (.inr ⟨B,cvs,r,h1,zv9 hk h2⟩)
theorem zKZ{E g d f caps gs as K K' st sk sk'}(hk:∀s,K s→K' s)(hs:sk→sk')(h:callW E g d f caps gs as K st sk):callW E g d f caps gs as K' st sk':=h.imp (yvH hk) hs
theorem yKL{E g d f caps gs as K st sk}(h:callW E g d f caps gs as K st sk):callW E g d f caps gs as K st False∨sk:=h.imp .inl id
theorem zKY{E g d f caps gs as K K' st sk sk'}(hk:∀s,K s→K' s)(hs:sk→sk')(h:callC E g d f caps gs as K st sk):callC E g d f caps gs as K' st sk':=h.imp (fun⟨s,h0,x,h1,h2⟩=>⟨s,h0,x,h1,hk _ h2⟩) hs
theorem yKI{E g d f caps gs as K st sk}(h:callC E g d f caps gs as K st sk):callC E g d f caps gs as K st False∨sk:=h.imp .inl id
theorem zWT{E g o st K K'}(hk:∀s,K s→K' s)(h:aopG E g o st K):aopG E g o st K':=by
 cases o<;>simp only[aopG]at h⊢;case alloc=>exact⟨h.1,hk _ h.2⟩
 case box=>exact⟨h.1,hk _ h.2⟩
 case st n a x=>
  split at h<;>try exact h.elim
  ·split at h<;>try exact h.elim
   exact⟨h.1,hk _ h.2⟩
  ·split at h<;>try exact h.elim
   exact⟨h.1,hk _ h.2⟩
 case app d esz eb x y=>
  split at h
  ·split at h<;>try exact h.elim
   ·exact⟨h.1,hk _ h.2⟩
   ·exact⟨h.1,hk _ h.2⟩
   ·split at h<;>try exact h.elim
    refine⟨h.1,fun e=>hk _ (h.2.1 e),fun e=>?_⟩;obtain⟨s',h1,h2,h3⟩:=h.2.2 e;exact⟨s',h1,h2,fun c h4 h5=>hk _ (h3 c h4 h5)⟩
  unfold appG at h⊢;split at h
  ·exact hk _ h
  ·split at h<;>try exact h.elim
   split at h<;>try exact h.elim
   ·exact⟨h.1,hk _ h.2⟩
   ·exact⟨h.1,hk _ h.2⟩
   ·split at h<;>try exact h.elim
    obtain⟨h1,s',h2,h3⟩:=h;exact⟨h1,s',h2,fun c a b=>hk _ (h3 c a b)⟩
 case len d str x=>
  split at h<;>try exact h.elim
  exact⟨h.1,fun hb=>hk _ (h.2 hb)⟩
 case call d f args=>
  split at h<;>try exact h.elim
  ·split at h
   ·obtain⟨r,h1,h2⟩:=h;exact⟨r,h1,zv9 hk h2⟩
   ·exact zKZ hk (fun h=>h) h
  ·exact zKY hk (fun h=>h) h
 case callB d f args=>
  split at h<;>try exact h.elim
  all_goals
   obtain⟨x,h1,h2⟩:=h;exact⟨x,h1,hk _ h2⟩
 case isnil d x=>
  split at h
  ·exact⟨h.1,fun b hb=>hk _ (h.2 b hb)⟩
  ·exact⟨h.1,h.2.1,hk _ h.2.2⟩
 case mkm=>exact⟨h.1,hk _ h.2⟩
 case mput k e kz x key v=>
  split at h<;>try exact h.elim
  split at h<;>try exact h.elim
  exact⟨h.1,hk _ h.2⟩
 case mclr x=>
  split at h<;>try exact h.elim
  split at h<;>try exact h.elim
  exact⟨h.1,hk _ h.2⟩
 case mkv=>
  split at h<;>try exact h.elim
  exact⟨h.1,hk _ h.2⟩
 case bslv=>
  split at h<;>try exact h.elim
  exact⟨h.1,hk _ h.2⟩
 case cpy=>
  split at h<;>try exact h.elim
  split at h<;>try exact h.elim
  exact⟨h.1,hk _ h.2⟩
 case clr=>
  split at h<;>try exact h.elim
  split at h<;>try exact h.elim
  exact⟨h.1,hk _ h.2⟩
 case mv=>exact⟨h.1,hk _ h.2⟩
 case mkf=>exact⟨h.1,hk _ h.2⟩
 all_goals exact yJh hk h
theorem yjW{E g o st K}:aopW E g o st K→aopG E g o st K∨skipG g o st K:=by
 intro h;cases o<;>simp only[aopW]at h<;>try (first|exact .inl h|skip)
 case len d str x=>
  split at h
  ·rename_i n hn;left;simp only[aopG,hn];exact h
  ·exact .inr h
 case call d f args=>
  split at h
  ·rename_i f' caps hf;split at h
   ·rename_i cvs hc;left;simp only[aopG,hf,hc];exact h
   ·rename_i hc;rcases yKL h with h|h
    ·left;simp only[aopG,hf,hc];exact h
    ·exact .inr h
  ·rename_i f' caps hf;rcases yKI h with h|h
   ·left;simp only[aopG,hf];exact h
   ·exact .inr h
  ·exact .inr h
 all_goals
  split at h
  ·rename_i v ob gs hv;left;simp only[aopG,hv];exact h
  ·exact .inr h
theorem yQZ{E:AEnv}{g st o K}
  (h:match opv E.G st o with|some (v,ob,gs)=>onG g (gs=true∧ob)∧K (st.put g (dstOf o) v)|none=>False):
  match opv E.G st o with|some (v,ob,gs)=>onG g (gs=true∧ob)∧K (st.put g (dstOf o) v)|none=>skipG g o st K:=by
 cases hv:opv E.G st o with
 |none=>simp[hv]at h
 |some r=>simp only[hv]at h;exact h
theorem yJZ{E g o st K}(h:aopG E g o st K):aopW E g o st K:=by
 cases o<;>simp only[aopW]<;>try exact h
 case len d str x=>
  simp only[aopG]at h;split at h
  ·rename_i n hn;exact h
  ·exact h.elim
 case call d f args=>
  simp only[aopG]at h;split at h
  ·rename_i f' caps hf;split at h
   ·rename_i cvs hc;exact h
   ·exact zKZ (fun _ h=>h) (fun h=>h.elim) h
  ·exact zKY (fun _ h=>h) (fun h=>h.elim) h
  ·exact h.elim
 all_goals first
  |exact⟨h.1,h.2⟩
  |exact yQZ h
theorem yYx{E g o st K K'}(hk:∀s,K s→K' s)(h:aopW E g o st K):aopW E g o st K':=by
 cases o<;>simp only[aopW]at h⊢;case len d str x=>
  split at h
  ·rename_i n hn;exact⟨h.1,fun hb=>hk _ (h.2 hb)⟩
  ·exact⟨h.1,hk _ h.2⟩
 case call d f args=>
  split at h
  ·rename_i f' caps hf;split at h
   ·rename_i cvs hc;obtain⟨r,h1,h2⟩:=h;exact⟨r,h1,zv9 hk h2⟩
   ·exact zKZ hk (fun h=>⟨h.1,hk _ h.2⟩) h
  ·exact zKY hk (fun h=>⟨h.1,hk _ h.2⟩) h
  ·exact⟨h.1,hk _ h.2⟩
 all_goals first
  |exact zWT hk h
  |(split at h
    ·exact⟨h.1,hk _ h.2⟩
    ·exact⟨h.1,hk _ h.2⟩)
theorem yKs{E g o st K K'}(hk:∀s,K s→K' s)(h:aop E g o st K):aop E g o st K':=by
 unfold aop at*
 split at h
 ·exact h
 ·exact yYx hk h
theorem ywt{E}(l){st K K'}(hk:∀s,K s→K' s)(h:aops E l K st):aops E l K' st:=by
 induction l generalizing st with
 |nil=>exact hk _ h
 |cons o os ih=>exact yKs (fun s hs=>ih hs) h
theorem zxY{E g o st K K'}(hk:∀s,K s→K' s)(h:aopN E g o st K):aopN E g o st K':=by
 unfold aopN at*
 split at h
 ·exact h
 ·split at h
  ·split at h<;>try exact h.elim
   exact⟨h.1,hk _ h.2⟩
  ·exact h.elim
  ·exact⟨h.1,zWT hk h.2⟩
  ·exact⟨h.1,zWT hk h.2⟩
  ·exact h.elim
  ·exact h.elim
  ·exact h.elim
  ·exact h.elim
  ·split at h<;>try exact h.elim
   split at h<;>try exact h.elim
   obtain⟨r,h1,h2⟩:=h;exact⟨r,h1,zv9 hk h2⟩
  ·exact zWT hk h
theorem zyM{E}(l){st K K'}(hk:∀s,K s→K' s)(h:aopsN E l K st):aopsN E l K' st:=by
 induction l generalizing st with
 |nil=>exact hk _ h
 |cons o os ih=>exact zxY (fun s hs=>ih hs) h
theorem zjT{N N' Q Q'}(hn:∀s,N s→N' s)(hq:∀e s,Q e s→Q' e s):∀e s,seqK N Q e s→seqK N' Q' e s:=by
 intro e s h;cases e<;>simp only[seqK]at h⊢<;>first|exact hn _ h|exact hq _ _ h
theorem zWe{F E}:∀(l) {st} {K K'},(∀s,K s→K' s)→aopsNF F E l K st→aopsNF F E l K' st
 |[],_,_,_,hk,h=>hk _ h
 |(_,_)::os,_,_,_,hk,h=>⟨h.1,zxY (fun _ hs=>zWe os hk hs) h.2⟩
theorem zjk{D F E}:∀(l) {st} {K K'},(∀s,K s→K' s)→aopsNK D F E l K st→aopsNK D F E l K' st
 |[],_,_,_,hk,h=>hk _ h
 |(_,_)::os,_,_,_,hk,h=>⟨h.1,zxY (fun _ hs=>⟨hs.1,zjk os hk hs.2⟩) h.2⟩
theorem yvx{id Q Q'}(hq:∀e s,Q e s→Q' e s):∀e s,blockK id Q e s→blockK id Q' e s:=by
 intro e s h;cases e<;>simp only[blockK]at h⊢
 ·exact hq _ _ h
 ·split at h<;>rename_i hi<;>simp only[hi,if_true,if_false]<;>exact hq _ _ h
 ·exact hq _ _ h
theorem yZH{B}(hB:∀Q Q':AX→St→Prop,(∀e s,Q e s→Q' e s)→∀s,B Q s→B Q' s){Q Q'}(hq:∀e s,Q e s→Q' e s)
  {st} (h:loopL B Q st):loopL B Q' st:=
 fun X hX=>h X fun s s1 he hb=>hX s s1 he (hB _ _ (zjT (fun _ h=>h) hq) _ hb)
theorem zJC{E}(c):∀{Q Q'} (_:∀e s,Q e s→Q' e s) {st} (_:awp E c Q st),awp E c Q' st:=by
 induction c with
 |skip=>exact fun hq _ h=>hq _ _ h
 |reg l=>exact fun hq _ h=>ywt l (fun s=>hq _ s) h
 |regd l=>exact fun hq _ h=>zyM l (fun s=>hq _ s) h
 |regq l=>exact fun hq _ h=>zyM l (fun s=>hq _ _) h
 |regz l=>exact fun hq _ ⟨B,h1,h2⟩=>⟨B,h1,zyM l (fun s=>hq _ s) h2⟩
 |regv l=>exact fun hq _ ⟨s,h1,h2⟩=>⟨s,h1,ywt l (fun s=>hq _ s) h2⟩
 |regn F l=>exact fun hq _ h=>zWe l (fun s=>hq _ s) h
 |regk D l=>exact fun hq _ ⟨F,h⟩=>⟨F,zjk l (fun s=>hq _ s) h⟩
 |regd2 p a b r=>exact fun hq _ h=>zyM p (fun s hs=>⟨zyM _ (fun s=>hq _ s) hs.1,zyM _ (fun s=>hq _ s) hs.2⟩) h
 |seq a b iha ihb=>exact fun hq _ h=>iha (zjT (fun s hs=>ihb hq hs) hq) h
 |cond c a b iha ihb=>
  intro Q Q' hq st h;simp only[awp]at h⊢;split at h<;>try exact h.elim
  exact⟨h.1,fun hx=>iha hq (h.2.1 hx),fun hx=>ihb hq (h.2.2 hx)⟩
 |block id c ih=>exact fun hq _ h=>ih (yvx hq) h
 |scope c ih=>exact fun hq _ h=>ih hq h
 |alt a b iha ihb=>exact fun hq _ h=>⟨iha hq h.1,ihb hq h.2⟩
 |lab=>exact fun hq _ h=>hq _ _ h
 |loop c ih=>exact fun hq st h=>yZH (B:=awp E c) (fun _ _ hh _ hs=>ih hh hs) hq h
 |exit id=>exact fun hq _ h=>hq _ _ h
 |ret=>exact fun hq _ h=>hq _ _ h
 |rng g ps wl a b iha ihb=>
  intro Q Q' hq st h;simp only[awp]at h⊢;split at h<;>try exact h.elim
  obtain⟨h1,xs,h2,Inv,Sx,h3,hi,h4,h5⟩:=h;refine⟨h1,xs,h2,Inv,Sx,h3,hi,fun pre x rest hx hp=>⟨(h4 pre x rest hx hp).1,?_⟩,fun hxs=>hq _ _ (h5 hxs)⟩;refine iha (zjT (fun s hs=>ihb ?_ hs) fun _ _ h=>h) (h4 pre x rest hx hp).2;intro e s he;cases e with
  |normal=>exact he
  |exit i=>exact hq _ _ he
  |ret=>exact hq _ _ he
theorem zJ3{E c Q st s1}(he:Ent st s1)(h:awp E c (seqK (awp E (.loop c) Q) Q) s1):awp E (.loop c) Q st:=
 fun X hX=>hX _ _ he (zJC c (zjT (fun _ hs=>hs X hX) fun _ _ h=>h) h)
theorem zzg{E c Q}{α:Type}(l)(I:List α→Prop)(S:List α→List α→St){st}(h0:Ent st (S [] l))(hi:I [])
  (hstep:∀done x r,l=done++x::r→I done→awp E c (seqK (fun s=>Ent s (S (done++[x]) r)∧I (done++[x])) Q) (S done (x::r)))
  (hend:I l→awp E c (seqK (fun _=>False) Q) (S l [])):awp E (.loop c) Q st:=by
 have key:∀(rest done:List α) {st:St},l=done++rest→Ent st (S done rest)→I done→awp E (.loop c) Q st:=by
  intro rest;induction rest with
  |nil=>
   intro done st hl h0 hi;obtain rfl:l=done:=by simpa using hl
   exact zJ3 h0 (zJC c (zjT (fun _ h=>h.elim) fun _ _ h=>h) (hend hi))
  |cons x r ih=>intro done st hl h0 hi;refine zJ3 h0 (zJC c (zjT (fun s h=>?_) fun _ _ h=>h) (hstep done x r hl hi));exact ih (done++[x]) (by simp[hl]) h.1 h.2
 exact key l [] rfl h0 hi
end Go.Abs
end
section
namespace Go.Abs
open Go.RowKit
abbrev Safe:=Nat→Nat→Prop
mutual
def Rep(w:World)(S:Safe):D→Value→Prop
 |.bool b,v=>v=.bool b
 |.int k n,v=>v=.int k n
 |.str s,v=>∃x:ByteArray,v=.string x∧x.data.toList=s∧x.size≤9223372036854775807
 |.lst es,v=>∃(base:Option Addr) (cap:Nat),v=.slice base es.length cap∧es.length≤cap∧cap≤9223372036854775807∧(base=none→cap=0)∧
   ∀a,base=some a→(cap≠0→a.spot=none)∧(∃sz,∀e∈es,e.length=sz)∧RepEs w S a.block a.off es
 |.clo f caps,v=>∃cs:Array Value,v=.func (.func f) #[] cs∧RepL w S caps cs.toList
 |.nilf,v=>v=.nilFunc
 |.nilp,v=>v=.pointer none
 |.ref cs,v=>∃b o,v=.pointer (some ⟨b,o,none⟩)∧RepCs w S b o cs
 |.gp g off,v=>v=.pointer (some ⟨g,off,none⟩)
 |.yl l,v=>v=.func (.yield l) #[] #[]
 |.nilI,v=>v=.nilIface
 |.anyI,v=>∃(t:TypeId) (u:Value),v=.iface t u
def RepCs(w:World)(S:Safe):Nat→Nat→List D→Prop
 |_,_,[]=>True
 |b,o,d::ds=>(S b o∧∃v,w.cell? ⟨b,o,none⟩=some v∧Rep w S d v)∧RepCs w S b (o+1) ds
def RepEs(w:World)(S:Safe):Nat→Nat→List (List D)→Prop
 |_,_,[]=>True
 |b,o,e::es=>RepCs w S b o e∧RepEs w S b (o+e.length) es
def RepL(w:World)(S:Safe):List D→List Value→Prop
 |[],vs=>vs=[]
 |d::ds,vs=>∃v r,vs=v::r∧Rep w S d v∧RepL w S ds r
end
def Keeps(w:World)(S:Safe)(w':World)(S':Safe):Prop:=∀b o,S b o→S' b o∧w'.cell? ⟨b,o,none⟩=w.cell? ⟨b,o,none⟩
theorem Keeps.refl(w)(S):Keeps w S w S:=fun _ _ h=>⟨h,rfl⟩
theorem Keeps.trans{w w' w'' S S' S''}(h:Keeps w S w' S')(h':Keeps w' S' w'' S''):Keeps w S w'' S'':=
 fun b o hs=>⟨(h' b o (h b o hs).1).1,((h' b o (h b o hs).1).2).trans (h b o hs).2⟩
mutual
theorem Rep.keep{w w':World}{S S':Safe}(hk:Keeps w S w' S'):∀(d:D) (v:Value),Rep w S d v→Rep w' S' d v
 |.bool _,_,h=>h
 |.int _ _,_,h=>h
 |.str _,_,h=>h
 |.lst es,_,⟨base,cap,h1,h2,h3,h4,h5⟩=>⟨base,cap,h1,h2,h3,h4,fun a ha=>⟨(h5 a ha).1,(h5 a ha).2.1,RepEs.keep hk _ _ es (h5 a ha).2.2⟩⟩
 |.clo _ caps,_,⟨cs,h1,h2⟩=>⟨cs,h1,RepL.keep hk caps _ h2⟩
 |.nilf,_,h=>h
 |.nilp,_,h=>h
 |.ref cs,_,⟨b,o,h1,h2⟩=>⟨b,o,h1,RepCs.keep hk b o cs h2⟩
 |.gp _ _,_,h=>h
 |.yl _,_,h=>h
 |.nilI,_,h=>h
 |.anyI,_,h=>h
theorem RepCs.keep{w w':World}{S S':Safe}(hk:Keeps w S w' S'):∀(b o:Nat) (ds:List D),RepCs w S b o ds→RepCs w' S' b o ds
 |_,_,[],_=>trivial
 |b,o,d::ds,⟨⟨hs,v,hc,hr⟩,h2⟩=>⟨⟨(hk b o hs).1,v,((hk b o hs).2).trans hc,Rep.keep hk d v hr⟩,RepCs.keep hk b (o+1) ds h2⟩
theorem RepEs.keep{w w':World}{S S':Safe}(hk:Keeps w S w' S'):∀(b o:Nat) (es:List (List D)),RepEs w S b o es→RepEs w' S' b o es
 |_,_,[],_=>trivial
 |b,o,e::es,⟨h1,h2⟩=>⟨RepCs.keep hk b o e h1,RepEs.keep hk b (o+e.length) es h2⟩
theorem RepL.keep{w w':World}{S S':Safe}(hk:Keeps w S w' S'):∀(ds:List D) (vs:List Value),RepL w S ds vs→RepL w' S' ds vs
 |[],_,h=>h
 |d::ds,_,⟨v,r,h1,h2,h3⟩=>⟨v,r,h1,Rep.keep hk d v h2,RepL.keep hk ds r h3⟩
end
theorem Rep.one{w S}:∀{d} {v},Rep w S d v→v.oneCell'=true
 |.bool _,_,h=>by rw[h];rfl
 |.int _ _,_,h=>by rw[h];rfl
 |.str _,_,⟨_,h,_⟩=>by rw[h];rfl
 |.lst _,_,⟨_,_,h,_⟩=>by rw[h];rfl
 |.clo _ _,_,⟨_,h,_⟩=>by rw[h];rfl
 |.nilf,_,h=>by rw[h];rfl
 |.nilp,_,h=>by rw[h];rfl
 |.ref _,_,⟨_,_,h,_⟩=>by rw[h];rfl
 |.gp _ _,_,h=>by rw[h];rfl
 |.yl _,_,h=>by rw[h];rfl
 |.nilI,_,h=>by rw[h];rfl
 |.anyI,_,⟨_,_,h⟩=>by rw[h];rfl
structure Rho where
 box:Nat→Option Nat
 tok:Nat→Option (Option Addr×Nat×Nat×Nat)
 mbox:Nat→Option Nat
mutual
def RepA(w:World)(S:Safe)(ρ:Rho):AV→Value→Prop
 |.undef,_=>True
 |.d x,v=>Rep w S x v
 |.agg cs,v=>∃vs:Array Value,v=.agg vs∧RepAs w S ρ cs vs.toList
 |.tup cs,v=>∃vs:Array Value,v=.tuple vs∧RepAs w S ρ cs vs.toList
 |.ptr s off,v=>∃b,ρ.box s=some b∧v=.pointer (some ⟨b,off,none⟩)
 |.full es,v=>Rep w S (.lst es) v∧∃base n,v=.slice base n n
 |.own t sz es,v=>Rep w S (.lst es) v∧(∀e∈es,e.length=sz)∧∃base n cap,ρ.tok t=some (base,n,cap,sz)∧v=.slice base n cap
 |.clo f caps,v=>∃cs:Array Value,v=.func (.func f) #[] cs∧RepAs w S ρ caps cs.toList
 |.cond g a,v=>(g=true→RepA w S ρ a v)∧(g=false→v=undef)
 |.mref s,v=>∃b,ρ.mbox s=some b∧v=.map (some b)
 |.mp _ _ _,_=>False
 |.zsl m sz,v=>∃ys:List (List D),(ys.length=m∧∀e∈ys,e.length=sz)∧Rep w S (.lst ys) v
 |.pnd m t sz es,v=>(1≤m∧∀e∈es,e.length=sz)∧∃base n cap,ρ.tok t=some (base,n,cap,sz)∧Rep w S (.lst es) (.slice base n cap)∧n+m≤cap∧v=.slice base (n+m) cap
 |.eptr t sz,v=>∃(a:Addr) (n cap:Nat),ρ.tok t=some (some a,n,cap,sz)∧n+1≤cap∧v=.pointer (some (a.add (n*sz)))
 |.vec s _ off n cap,v=>n≤cap∧cap≤9223372036854775807∧∃b,ρ.box s=some b∧v=.slice (some ⟨b,off,none⟩) n cap
def RepAs(w:World)(S:Safe)(ρ:Rho):List AV→List Value→Prop
 |[],vs=>vs=[]
 |a::as,vs=>∃v r,vs=v::r∧RepA w S ρ a v∧RepAs w S ρ as r
end
def Rho.le(ρ ρ':Rho):Prop:=(∀s b,ρ.box s=some b→ρ'.box s=some b)∧(∀t x,ρ.tok t=some x→ρ'.tok t=some x)∧(∀s b,ρ.mbox s=some b→ρ'.mbox s=some b)
theorem Rho.le_refl(ρ:Rho):ρ.le ρ:=⟨fun _ _ h=>h,fun _ _ h=>h,fun _ _ h=>h⟩
mutual
theorem RepA.keep{w w':World}{S S':Safe}{ρ ρ':Rho}(hk:Keeps w S w' S')(hρ:ρ.le ρ'):∀(a:AV) (v:Value),RepA w S ρ a v→RepA w' S' ρ' a v
 |.undef,_,_=>trivial
 |.d x,_,h=>Rep.keep hk x _ h
 |.agg cs,_,⟨vs,h1,h2⟩=>⟨vs,h1,RepAs.keep hk hρ cs _ h2⟩
 |.tup cs,_,⟨vs,h1,h2⟩=>⟨vs,h1,RepAs.keep hk hρ cs _ h2⟩
 |.ptr _ _,_,⟨b,h1,h2⟩=>⟨b,hρ.1 _ _ h1,h2⟩
 |.full _,_,⟨h1,h2⟩=>⟨Rep.keep hk _ _ h1,h2⟩
 |.own _ _ _,_,⟨h1,h2,base,n,cap,h3,h4⟩=>⟨Rep.keep hk _ _ h1,h2,base,n,cap,hρ.2.1 _ _ h3,h4⟩
 |.clo _ caps,_,⟨cs,h1,h2⟩=>⟨cs,h1,RepAs.keep hk hρ caps _ h2⟩
 |.cond _ a,_,⟨h1,h2⟩=>⟨fun hg=>RepA.keep hk hρ a _ (h1 hg),h2⟩
 |.mref _,_,⟨b,h1,h2⟩=>⟨b,hρ.2.2 _ _ h1,h2⟩
 |.zsl _ _,_,⟨e,h1,h2⟩=>⟨e,h1,Rep.keep hk _ _ h2⟩
 |.pnd _ _ _ _,_,⟨h1,base,n,cap,h2,h3,h4⟩=>⟨h1,base,n,cap,hρ.2.1 _ _ h2,Rep.keep hk _ _ h3,h4⟩
 |.eptr _ _,_,⟨b,n,cap,h2,h3⟩=>⟨b,n,cap,hρ.2.1 _ _ h2,h3⟩
 |.vec _ _ _ _ _,_,⟨h0,h1,b,h2,h3⟩=>⟨h0,h1,b,hρ.1 _ _ h2,h3⟩
theorem RepAs.keep{w w':World}{S S':Safe}{ρ ρ':Rho}(hk:Keeps w S w' S')(hρ:ρ.le ρ'):∀(as:List AV) (vs:List Value),RepAs w S ρ as vs→RepAs w' S' ρ' as vs
 |[],_,h=>h
 |a::as,_,⟨v,r,h1,h2,h3⟩=>⟨v,r,h1,RepA.keep hk hρ a v h2,RepAs.keep hk hρ as r h3⟩
end
end Go.Abs
end
section
namespace Go.Abs
open Go.RowKit
def litD:D→Lit
 |.bool b=>.bool b
 |.int k n=>.int k n
 |.str s=>.string s
 |_=>.bool false
def heldR:Value→Option (DataW Value×List MemPlace):=fun v=>some (.held v,[])
def mapV:List (D×Value)→DataW Value
 |[]=>.map []
 |(k,v)::l=>(mapV l).put (litD k) (.held v)
theorem yqD{a b}(ha:flatD a=true)(hb:flatD b=true):litD a=litD b↔a=b:=by
 cases a<;>simp only[flatD,Bool.false_eq_true]at ha<;>cases b<;>simp only[flatD,Bool.false_eq_true]at hb<;>simp[litD]
theorem zKt{a b}(ha:flatD a=true)(hb:flatD b=true):keyEq a b=true↔a=b:=by
 cases a<;>simp only[flatD,Bool.false_eq_true]at ha<;>cases b<;>simp only[flatD,Bool.false_eq_true]at hb<;>simp[keyEq]
theorem yqE(a):WideAt.IsKeyLit (litD a):=by cases a<;>simp[litD,WideAt.IsKeyLit]
theorem zVg:∀l:List (D×Value),Maps.IsMap (mapV l)
 |[]=>Maps.isMap_empty
 |(_,_)::l=>(zVg l).put _ _
def RepMV(w:World)(S:Safe):MV→Value→Prop
 |.one x,v=>Rep w S x v
 |.agg xs,v=>∃cs,v=.agg cs∧RepL w S xs cs.toList
theorem RepMV.keep{w w' S S'}(hk:Keeps w S w' S'):∀{x} {v},RepMV w S x v→RepMV w' S' x v
 |.one _,_,h=>Rep.keep hk _ _ h
 |.agg _,_,⟨cs,h1,h2⟩=>⟨cs,h1,RepL.keep hk _ _ h2⟩
def RepKV(w:World)(S:Safe):List (D×MV)→List (D×Value)→Prop
 |[],l=>l=[]
 |(k,x)::kvs,l=>∃v r,l=(k,v)::r∧flatD k=true∧RepMV w S x v∧RepKV w S kvs r
theorem RepKV.keep{w w' S S'}(hk:Keeps w S w' S'):∀{kvs} {l},RepKV w S kvs l→RepKV w' S' kvs l
 |[],_,h=>h
 |(_,_)::_,_,⟨v,r,h1,h2,h3,h4⟩=>⟨v,r,h1,h2,RepMV.keep hk h3,RepKV.keep hk h4⟩
theorem yyM{w S x}(hx:flatD x=true){z vz}(hz:RepMV w S z vz):∀{kvs} {l},RepKV w S kvs l→∃v,(mapV l).atKey (litD x) (.held vz)=.held v∧RepMV w S (mapAt kvs x z) v
 |[],_,h=>by simp only[RepKV]at h;subst h;exact⟨vz,rfl,hz⟩
 |(k,y)::kvs,_,⟨v,l,h,hk,hv,hl⟩=>by
  subst h;obtain⟨v',h1,h2⟩:=yyM hx hz hl;simp only[mapV,mapAt,mapGet];by_cases he:keyEq k x=true
  ·rw[if_pos he];have:=(zKt hk hx).1 he;subst this;rw[Maps.atKey_put_same (zVg l) (yqE k)];exact⟨v,rfl,hv⟩
  ·rw[if_neg he];have hne:litD x≠litD k:=fun e=>he ((zKt hk hx).2 ((yqD hk hx).1 e.symm));rw[Maps.atKey_put_other hne];exact⟨v',h1,h2⟩
theorem yqG{w S x}(hx:flatD x=true):∀{kvs} {l},RepKV w S kvs l→Maps.has (mapV l) (litD x)=mapHas kvs x
 |[],_,h=>by simp only[RepKV]at h;subst h;rfl
 |(k,y)::kvs,_,⟨v,l,h,hk,hv,hl⟩=>by
  subst h;have ih:=yqG hx hl;simp only[mapV,mapHas,mapGet];by_cases he:keyEq k x=true
  ·rw[if_pos he];have:=(zKt hk hx).1 he;subst this;rw[Maps.has_put_same (zVg l) (yqE k)];rfl
  ·rw[if_neg he];have hne:litD x≠litD k:=fun e=>he ((zKt hk hx).2 ((yqD hk hx).1 e.symm));rw[Maps.has_put_other hne];exact ih
theorem yqp{v v' ps}(h:heldR v=some (.held v',ps)):v=v':=by
 simp only[heldR,Option.some.injEq,Prod.mk.injEq,DataW.held.injEq]at h;exact h.1
def MapAt(P:Program)(w:World)(S:Safe)(b k _e:Nat)(kvs:List (D×MV)):Prop:=∃l,RepKV w S kvs l∧w.ownsMap P k heldR b kvs.length (mapV l)
theorem MapAt.obj{P w S b k e kvs}(h:MapAt P w S b k e kvs):∃es clock,w.heap[b]? =some (Obj.map es clock):=by
 obtain⟨_,_,es,clock,hb,_⟩:=h;exact⟨es,clock,hb⟩
theorem MapAt.lt{P w S b k e kvs}(h:MapAt P w S b k e kvs):b<w.heap.size:=by obtain⟨_,_,h⟩:=h;exact h.lt
theorem MapAt.to{P w w' S S' b k e kvs}(h:MapAt P w S b k e kvs)(hk:Keeps w S w' S')(hw:w'.heap[b]? =w.heap[b]?):MapAt P w' S' b k e kvs:=by obtain⟨l,h1,es,clock,hb,h2⟩:=h;exact⟨l,h1.keep hk,es,clock,hw.trans hb,h2⟩
structure MpsOk(P:Program)(k0:Nat→Prop)(w:World)(S:Safe)(ρ:Rho)(m:Mem):Prop where
 at':∀s k e kvs,getM m s=some [.mp k e kvs]→∃b,ρ.mbox s=some b∧ρ.box s=none∧k0 b∧MapAt P w S b k e kvs
 inj:∀s s' b,ρ.mbox s=some b→ρ.mbox s'=some b→s=s'
 new:∀s,getM m s=none→ρ.mbox s=none
 lt:∀s b,ρ.mbox s=some b→b<w.heap.size
 apart:∀s b,ρ.box s=some b→ρ.mbox s=none
def SameMaps(w w':World):Prop:=w.heap.size≤w'.heap.size∧∀(b:Nat) (es:Array MapEntry) (clock:Nat),w.heap[b]? =some (Obj.map es clock)→w'.heap[b]? =w.heap[b]?
theorem MpsOk.to{P k0 w w' S S' ρ m}(h:MpsOk P k0 w S ρ m)(hk:Keeps w S w' S')(hw:SameMaps w w'):MpsOk P k0 w' S' ρ m:=
 {at':=fun s k e kvs hs=>by obtain⟨b,h1,h2,h3,h4⟩:=h.at' s k e kvs hs;obtain⟨es,clock,hb⟩:=h4.obj;exact⟨b,h1,h2,h3,h4.to hk (hw.2 b es clock hb)⟩
  inj:=h.inj,new:=h.new,lt:=fun s b hs=>Nat.lt_of_lt_of_le (h.lt s b hs) hw.1,apart:=h.apart}
theorem SameMaps.refl(w):SameMaps w w:=⟨Nat.le_refl _,fun _ _ _ _=>rfl⟩
theorem SameMaps.below{w w'}(h:Below w.heap.size w w'):SameMaps w w':=⟨h.size,fun b _ _ hb=>h.block b (Array.getElem?_eq_some_iff.1 hb).1⟩
theorem SameMaps.setRow{w b cur new e fr}(hh:w.heap[b]? =some (Obj.cells cur e fr)):SameMaps w (w.setRow b new):=⟨by simp[World.setRow],fun b' es clock hb=>by
 have:b'≠b:=fun e=>by subst e;rw[hh]at hb;cases hb
 exact setRow_other w b b' new this⟩
theorem zxX{cs}:isMp cs=true↔∃k e kvs,cs=[.mp k e kvs]:=by
 constructor
 ·intro h;unfold isMp at h;split at h
  ·rename_i a;cases a<;>simp[AV.isMp]at h;exact⟨_,_,_,rfl⟩
  ·cases h
 ·rintro⟨k,e,kvs,rfl⟩;rfl
theorem RepAs.noMp{w S ρ cs vs}(h:RepAs w S ρ cs vs):isMp cs=false:=by
 cases hm:isMp cs with
 |false=>rfl
 |true=>obtain⟨k,e,kvs,rfl⟩:=zxX.1 hm;obtain⟨v,r,_,h1,_⟩:=h;exact h1.elim
theorem MpsOk.cons{P k0 w S ρ m}(h:MpsOk P k0 w S ρ m){s cs}(hc:isMp cs=false):MpsOk P k0 w S ρ ((s,cs)::m):=
 {at':=fun s' k e kvs hs=>by
    simp only[getM]at hs;split at hs
    ·cases hs;cases hc
    ·exact h.at' s' k e kvs hs
  inj:=h.inj
  new:=fun s' hs=>by
   simp only[getM]at hs;split at hs
   ·cases hs
   ·exact h.new s' hs
  lt:=h.lt,apart:=h.apart}
theorem MpsOk.rho{P k0 w S ρ ρ' m}(h:MpsOk P k0 w S ρ m)(hm:ρ'.mbox=ρ.mbox)(hb:∀s b,ρ'.box s=some b→ρ.mbox s=none):MpsOk P k0 w S ρ' m:=
 {at':=fun s k e kvs hs=>by
    obtain⟨b,h1,h2,h3⟩:=h.at' s k e kvs hs;have hn:ρ'.box s=none:=by
     cases hb':ρ'.box s with
     |none=>rfl
     |some b'=>rw[hb s b' hb']at h1;cases h1
    exact⟨b,by rw[hm];exact h1,hn,h3⟩
  inj:=fun s s' b h1 h2=>h.inj s s' b (by rw[←hm];exact h1) (by rw[←hm];exact h2)
  new:=fun s hs=>by rw[hm];exact h.new s hs
  lt:=fun s b hs=>h.lt s b (by rw[←hm];exact hs)
  apart:=fun s b hs=>by rw[hm];exact hb s b hs}
end Go.Abs
end
section
namespace Go.Abs
open Go.RowKit
def zOk:AV→Value→Bool
 |.d (.bool b),.bool b'=>b==b'
 |.d (.int k n),.int k' n'=>k==k'&&n==n'
 |.d (.str []),.string s=>s.size==0
 |.full [],.slice none 0 0=>true
 |.d .nilf,.nilFunc=>true
 |.d .nilp,.pointer none=>true
 |.d .nilI,.nilIface=>true
 |.undef,.map none=>true
 |_,_=>false
def zOks:List AV→List Value→Bool
 |[],[]=>true
 |a::as,v::vs=>zOk a v&&zOks as vs
 |_,_=>false
def notAgg(P:Program)(t:TypeId):Bool:=match P.underlying t with
 |some (.struct _)=>false
 |some (.array _ _)=>false
 |some _=>true
 |none=>false
def fieldsOk(P:Program):List Field→List (Nat×Nat×Bool)→Bool
 |[],[]=>true
 |f::fs,(off,sz,ag)::gs=>f.offset==off&&(match P.info? f.type with|some i=>i.size==sz&&sz !=0|none=>false)&&(notAgg P f.type==!ag)&&(P.underlying f.type).isSome&&fieldsOk P fs gs
 |_,_=>false
def undOk(P:Program)(t:TypeId):AV→Bool
 |.d (.int k _)=>(match P.underlying t with|some (.int k')=>k==k'|_=>false)
 |.d (.str _)=>(match P.underlying t with|some .string=>true|_=>false)
 |.d (.bool _)=>(match P.underlying t with|some .bool=>true|_=>false)
 |.d .nilI=>(match P.underlying t with|some (.interface _)=>true|_=>false)
 |_=>true
def flatU(P:Program)(t:TypeId):D→Bool
 |.int k _=>(match P.underlying t with|some (.int k')=>k==k'|_=>false)
 |.str _=>(match P.underlying t with|some .string=>true|_=>false)
 |.bool _=>(match P.underlying t with|some .bool=>true|_=>false)
 |_=>false
def zD:D→Value→Bool
 |.bool b,.bool b'=>b==b'
 |.int k n,.int k' n'=>k==k'&&n==n'
 |.str [],.string s=>s.size==0
 |.lst [],.slice none 0 0=>true
 |.nilf,.nilFunc=>true
 |.nilp,.pointer none=>true
 |.nilI,.nilIface=>true
 |_,_=>false
def zDs:List D→List Value→Bool
 |[],[]=>true
 |a::as,v::vs=>zD a v&&zDs as vs
 |_,_=>false
def zMV:MV→Value→Bool
 |.one x,v=>zD x v
 |.agg xs,.agg vs=>zDs xs vs.toList
 |_,_=>false
theorem yJV(w)(S){a v}(h:zD a v=true):Rep w S a v:=by
 unfold zD at h;split at h
 ·simp at h;subst h;rfl
 ·simp at h;obtain⟨rfl,rfl⟩:=h;rfl
 ·simp only[beq_iff_eq]at h;obtain rfl:=ByteArray.size_eq_zero_iff.1 h;exact⟨_,rfl,rfl,by simp⟩
 ·exact⟨none,0,rfl,Nat.le_refl _,by omega,fun _=>rfl,fun a ha=>by cases ha⟩
 ·rfl
 ·rfl
 ·rfl
 ·cases h
theorem yKf(w)(S):∀{as} {vs},zDs as vs=true→RepL w S as vs
 |[],[],_=>rfl
 |a::as,v::vs,h=>by simp only[zDs,Bool.and_eq_true]at h;exact⟨v,vs,rfl,yJV w S h.1,yKf w S h.2⟩
 |[],_::_,h=>by cases h
 |_::_,[],h=>by cases h
theorem yQ1(w)(S){x v}(h:zMV x v=true):RepMV w S x v:=by
 unfold zMV at h;split at h
 ·exact yJV w S h
 ·exact⟨_,rfl,yKf w S h⟩
 ·cases h
def eqFs(P:Program):Nat→List Field→List AV→Bool
 |_,[],[]=>true
 |k,f::fs,.d z::zs=>f.name != "_"&&f.offset==k&&flatU P f.type z&&eqFs P (k+1) fs zs
 |_,_,_=>false
def flatUA(P:Program)(t:TypeId):AV→Bool
 |.d z=>flatU P t z
 |_=>false
def eqOk(P:Program)(t:TypeId)(zs:List AV):Bool:=!P.eqGuardType P.depth t&&(match P.underlying t with
 |some (.struct fields)=>!P.stoodInHeld t&&eqFs P 0 fields.toList zs
 |some (.array m e)=>zs.length==m&&zs.all (flatUA P e)&&(P.info? e).isSome&&P.cellsOf e==1
 |_=>false)
def chkTy(P:Program)(t:TypeId):Ty→Bool
 |.cell z=>undOk P t z&&notAgg P t&&(match P.info? t with|some i=>(match i.zero with|some v=>zOk z v|none=>false)&&i.size==1|none=>false)
 |.slice esz eb zs=>(match P.underlying t,P.info? t with
  |some (.slice e),some i=>(match i.zero with|some v=>zOk (.full []) v|none=>false)&&i.size==1&&
   (match P.info? e with|some ie=>ie.size==esz&&ie.bytes==eb&&esz !=0&&(match ie.zero with|some z=>z.cells.size==esz&&(zs.isEmpty||zOks zs z.cells.toList)|none=>false)|none=>false)
  |_,_=>false)
 |.agg zs fs=>(!isFlatT (some (.agg zs fs))||eqOk P t zs)&&(match P.underlying t,P.info? t with
  |some (.struct fields),some i=>(match i.zero with|some (.agg vs)=>zOks zs vs.toList|_=>false)&&i.size==zs.length&&fieldsOk P fields.toList fs
  |_,_=>false)
 |.map k e kz ez=>flatU P k kz&&(match P.underlying t,P.info? t,P.info? e with
  |some (.map k' e'),some i,some ie=>k'==k&&e'==e&&i.size==1&&(match i.zero with|some (.map none)=>true|_=>false)&&(match ie.zero with|some v=>zMV ez v|none=>false)
  |_,_,_=>false)
 |.arr n esz eagg zs=>(!isFlatT (some (.arr n esz eagg zs))||eqOk P t zs)&&(match P.underlying t,P.info? t with
  |some (.array m e),some i=>m==n&&(match i.zero with|some (.agg vs)=>zOks zs vs.toList|_=>false)&&i.size==zs.length&&(match P.info? e with|some ie=>ie.size==esz|none=>false)&&(notAgg P e==!eagg)&&(P.underlying e).isSome
  |_,_=>false)
abbrev TL:=List (Nat×Ty)
def getTy:TL→Nat→Option Ty
 |[],_=>none
 |(k,v)::l,i=>if k=i then some v else getTy l i
def chkTL(P:Program):TL→Bool
 |[]=>true
 |(t,ty)::l=>chkTy P t ty&&chkTL P l
theorem zqM{P}:∀{l} {t} {ty},chkTL P l=true→getTy l t=some ty→chkTy P t ty=true
 |[],_,_,_,h=>by simp[getTy]at h
 |(k,v)::l,t,ty,hc,h=>by
  simp only[chkTL,Bool.and_eq_true]at hc;simp only[getTy]at h;split at h
  ·rename_i hk;subst hk;cases h;exact hc.1
  ·exact zqM hc.2 h
theorem yX4(w)(S)(ρ):RepA w S ρ (.full []) (.slice none 0 0):=
 ⟨⟨none,0,rfl,Nat.le_refl _,by omega,fun _=>rfl,fun a ha=>by cases ha⟩,none,0,rfl⟩
theorem yQ2(w)(S)(ρ){a v}(h:zOk a v=true):RepA w S ρ a v:=by
 unfold zOk at h;split at h
 ·simp at h;subst h;rfl
 ·simp at h;obtain⟨rfl,rfl⟩:=h;rfl
 ·simp only[beq_iff_eq]at h;obtain rfl:=ByteArray.size_eq_zero_iff.1 h;exact⟨_,rfl,rfl,by simp⟩
 ·exact yX4 w S ρ
 ·rfl
 ·rfl
 ·rfl
 ·trivial
 ·cases h
theorem zXM(w)(S)(ρ):∀{as} {vs},zOks as vs=true→RepAs w S ρ as vs
 |[],[],_=>rfl
 |a::as,v::vs,h=>by simp only[zOks,Bool.and_eq_true]at h;exact⟨v,vs,rfl,yQ2 w S ρ h.1,zXM w S ρ h.2⟩
 |[],_::_,h=>by simp[zOks]at h
 |_::_,[],h=>by simp[zOks]at h
theorem zJi(w)(S)(ρ){v a}(h:ofConst0 v=some a):RepA w S ρ a v:=by
 unfold ofConst0 at h;split at h
 ·cases h;rfl
 ·cases h;rfl
 ·split at h
  ·rename_i hs;cases h;exact⟨_,rfl,rfl,hs⟩
  ·cases h
 ·cases h;exact yX4 w S ρ
 ·cases h;rfl
 ·cases h;rfl
 ·cases h;rfl
 ·cases h
theorem zKA(w)(S)(ρ):∀{vs} {as},vs.mapM ofConst0=some as→RepAs w S ρ as vs
 |[],as,h=>by simp at h;subst h;rfl
 |v::vs,as,h=>by simp only[List.mapM_cons,Option.bind_eq_bind,Option.bind_eq_some_iff,Option.pure_def,Option.some.injEq]at h;obtain⟨a,h1,bs,h2,rfl⟩:=h;exact⟨v,vs,rfl,zJi w S ρ h1,zKA w S ρ h2⟩
theorem yja(w)(S)(ρ){v a}(h:ofConst v=some a):RepA w S ρ a v:=by
 unfold ofConst at h;split at h
 ·rename_i vs;rw[Option.map_eq_some_iff]at h;obtain⟨as,h1,rfl⟩:=h;exact⟨vs,rfl,zKA w S ρ h1⟩
 ·exact zJi w S ρ h
def noData:Obj→Bool
 |.cells _ _ _=>false
 |.map _ _=>false
 |_=>true
structure Ctx where
 P:Program
 G:Nat→Option (List D)
 w0:World
 S0:Safe
 N:Nat
 kp:Nat→Bool:=fun _=>false
 t0:Array Value:=#[]
 ob:List (Nat×Obj):=[]
 ds:List Deferred:=[]
 kx:Option (World×Safe):=none
 X:List Nat:=[]
 pin:List (Nat×Nat):=[]
 mpin:List (Nat×Nat):=[]
def Ctx.Own(c:Ctx)(b:Nat):Prop:=c.w0.heap.size≤b∨(b∈c.X∧c.P.globals.size≤b)
theorem Ctx.zVm{c:Ctx}(h:c.X=[]){b}(ho:c.Own b):c.w0.heap.size≤b:=by
 rcases ho with ho|⟨ho,_⟩
 ·exact ho
 ·rw[h]at ho;cases ho
structure BelowO(own:Nat→Prop)(w0 w:World):Prop where
 os:w.os=w0.os
 tape:w.tape=w0.tape
 output:w.output=w0.output
 size:w0.heap.size≤w.heap.size
 block:∀k,¬own k→w.heap[k]? =w0.heap[k]?
abbrev BelowC(c:Ctx)(w:World):Prop:=BelowO c.Own c.w0 w
theorem yyV{c:Ctx}{k}(h:¬c.Own k):k<c.w0.heap.size:=Nat.lt_of_not_le fun hk=>h (.inl hk)
theorem BelowO.refl(c):BelowC c c.w0:=⟨rfl,rfl,rfl,Nat.le_refl _,fun _ _=>rfl⟩
theorem BelowO.grow{c w w'}(h:BelowC c w)(hb:Below w.heap.size w w'):BelowC c w':=
 ⟨hb.os.trans h.os,hb.tape.trans h.tape,hb.output.trans h.output,Nat.le_trans h.size hb.size,fun k hk=>(hb.block k (Nat.lt_of_lt_of_le (yyV hk) h.size)).trans (h.block k hk)⟩
theorem BelowO.grown{c w w' row}(h:BelowC c w)(hg:w.grownBy w' row)(hr:∀k,row=some k→c.Own k):BelowC c w':=
 ⟨hg.os.trans h.os,hg.tape.trans h.tape,hg.output.trans h.output,Nat.le_trans h.size hg.size,fun k hk=>(hg.block k (Nat.lt_of_lt_of_le (yyV hk) h.size) (fun e=>hk (hr k e.symm))).trans (h.block k hk)⟩
theorem BelowO.below{c w}(h:BelowC c w)(hX:c.X=[]):Below c.w0.heap.size c.w0 w:=
 ⟨h.os,h.tape,h.output,h.size,fun k hk=>h.block k fun ho=>by have:=Ctx.zVm hX ho;omega⟩
def Ctx.D(c:Ctx)(d:Nat):Prop:=d<c.N∧c.kp d=false
def TokOk(c:Ctx)(w:World)(S:Safe)(ρ:Rho)(tk:List (Nat×Bool))(t:Nat)(x:Option Addr×Nat×Nat×Nat):Prop:=
 x.2.1=x.2.2.1∨∃b,x.1=some ⟨b,0,none⟩∧c.Own b∧(∃cur e,w.heap[b]? =some (.cells cur e (0,0))∧cur.size=x.2.2.1*x.2.2.2)∧x.2.1≤x.2.2.1∧x.2.2.1≤9223372036854775807∧
   (∀o,x.2.1*x.2.2.2≤o→¬S b o)∧(∀s,ρ.box s≠some b)∧∀t' b' y,t'≠t→getT tk t'=some true→ρ.tok t'=some (some ⟨b',0,none⟩,y)→y.1≠y.2.1→b'≠b
def Exact(P:Program)(G:Nat→Option (List D))(w:World):Prop:=
 P.globals.size≤w.heap.size∧∀g cs,g<P.globals.size→G g=some cs→cs≠[]→∃(vs:Array Value) (e:TypeId) (fr:Nat×Nat),w.heap[g]? =some (.cells vs e fr)∧vs.size=cs.length
theorem Exact.to{P G w w'}(h:Exact P G w)(hb:Below w.heap.size w w'):Exact P G w':=
 ⟨Nat.le_trans h.1 hb.size,fun g cs hg hG hne=>by obtain⟨vs,e,fr,h1,h2⟩:=h.2 g cs hg hG hne;exact⟨vs,e,fr,by rw[hb.block g (Nat.lt_of_lt_of_le hg h.1)];exact h1,h2⟩⟩
def Pins(c:Ctx)(ρ:Rho):Prop:=(∀p∈c.pin,c.N≤p.1∧∀b,ρ.box p.1=some b→b=p.2)∧∀p∈c.mpin,c.N≤p.1∧∀b,ρ.mbox p.1=some b→b=p.2
theorem Pins.sub{c ρ ρ'}(h:Pins c ρ)(hb:∀s b,ρ'.box s=some b→s<c.N∨ρ.box s=some b)(hm:∀s b,ρ'.mbox s=some b→s<c.N∨ρ.mbox s=some b):Pins c ρ':=
 ⟨fun p hp=>⟨(h.1 p hp).1,fun b e=>by
  have:=(h.1 p hp).1;rcases hb _ _ e with h1|h1
  ·omega
  ·exact(h.1 p hp).2 b h1⟩,fun p hp=>⟨(h.2 p hp).1,fun b e=>by
  have:=(h.2 p hp).1;rcases hm _ _ e with h1|h1
  ·omega
  ·exact(h.2 p hp).2 b h1⟩⟩
theorem Pins.nil{c ρ}(h1:c.pin=[])(h2:c.mpin=[]):Pins c ρ:=⟨fun p hp=>(by rw[h1]at hp;cases hp),fun p hp=>(by rw[h2]at hp;cases hp)⟩
structure Sim(c:Ctx)(st:St)(tmps:Array Value)(w:World)(S:Safe)(ρ:Rho):Prop where
 size:tmps.size=c.N
 slots:∀k,RepA w S ρ (getS st.slots k) (tmps.getD k undef)
 mem:∀s cs,getM st.mem s=some cs→isMp cs=false→∃b vs e,ρ.box s=some b∧c.Own b∧w.heap[b]? =some (.cells vs e (0,0))∧RepAs w S ρ cs vs.toList∧∀o,¬S b o
 inj:∀s s' b,ρ.box s=some b→ρ.box s'=some b→s=s'
 boxNew:∀s,getM st.mem s=none→ρ.box s=none
 mps:MpsOk c.P c.Own w S ρ st.mem
 tok:∀t,getT st.tk t=some true→∃x,ρ.tok t=some x∧TokOk c w S ρ st.tk t x
 tokNew:∀t,getT st.tk t=none→ρ.tok t=none
 below:BelowC c w
 old:∀b o,c.S0 b o→S b o
 new:∀b o,S b o→c.S0 b o∨c.Own b
 live:∀b o,S b o→∃v,w.cell? ⟨b,o,none⟩=some v
 glob:∀g cs,c.G g=some cs→RepCs w S g 0 cs
 fx:∀k,c.kp k=true→tmps.getD k undef=c.t0.getD k undef
 obs:∀p∈c.ob,w.heap[p.1]? =some p.2∧noData p.2=true
 keeps:∀p,c.kx=some p→Keeps p.1 p.2 w S
 ex:Exact c.P c.G c.w0
 pins:Pins c ρ
variable{c:Ctx}{st:St}{tmps:Array Value}{w:World}{S:Safe}{ρ:Rho}
theorem Sim.exact(h:Sim c st tmps w S ρ):Exact c.P c.G w:=
 ⟨Nat.le_trans h.ex.1 h.below.size,fun g cs hg hG hne=>by
  obtain⟨vs,e,fr,h1,h2⟩:=h.ex.2 g cs hg hG hne;refine⟨vs,e,fr,?_,h2⟩;rw[h.below.block g fun ho=>?_]
  ·exact h1
  ·rcases ho with ho|⟨_,ho⟩
   ·have:=h.ex.1;omega
   ·omega⟩
theorem zyu{w:World}{b o v}(h:w.cell? ⟨b,o,none⟩=some v):b<w.heap.size:=World.block_lt_of_cell? w ⟨b,o,none⟩ h
theorem Sim.noMp(h:Sim c st tmps w S ρ){s b cs}(hb:ρ.box s=some b)(hs:getM st.mem s=some cs):isMp cs=false:=by
 cases hm:isMp cs with
 |false=>rfl
 |true=>obtain⟨k,e,kvs,rfl⟩:=zxX.1 hm;obtain⟨_,_,h2,_⟩:=h.mps.at' s k e kvs hs;rw[hb]at h2;cases h2
theorem Sim.grow(h:Sim c st tmps w S ρ){w' S'}(hb:Below w.heap.size w w')(hS:∀b o,S b o→S' b o)(hS':∀b o,S' b o→S b o∨w.heap.size≤b)
  (hl:∀b o,S' b o→∃v,w'.cell? ⟨b,o,none⟩=some v):Sim c st tmps w' S' ρ:=by
 have hk:Keeps w S w' S':=fun b o hs=>by obtain⟨v,hv⟩:=h.live b o hs;exact⟨hS b o hs,hb.cell (p:=⟨b,o,none⟩) (zyu hv)⟩
 have hblk:∀b x,w.heap[b]? =some x→w'.heap[b]? =some x:=fun b x hx=>by rw[hb.block b (Array.getElem?_eq_some_iff.1 hx).1,hx]
 have hnot:∀b x o,w.heap[b]? =some x→¬S b o→¬S' b o:=fun b x o hx hn hs=>by
  rcases hS' b o hs with h1|h1
  ·exact hn h1
  ·have:=(Array.getElem?_eq_some_iff.1 hx).1;omega
 refine{size:=h.size,slots:=fun k=>(h.slots k).keep hk ρ.le_refl,mem:=?_,inj:=h.inj,boxNew:=h.boxNew,mps:=h.mps.to hk (.below hb),tok:=?_,tokNew:=h.tokNew,
        below:=h.below.grow hb,old:=fun b o hs=>hS b o (h.old b o hs),new:=?_,live:=hl,glob:=fun g cs hg=>RepCs.keep hk g 0 cs (h.glob g cs hg),fx:=h.fx,ex:=h.ex,obs:=fun p hp=>⟨hblk _ _ (h.obs p hp).1,(h.obs p hp).2⟩,keeps:=fun p hp=>(h.keeps p hp).trans hk,pins:=h.pins}
 ·intro s cs hs hnm;obtain⟨b,vs,e,h1,h2,h3,h4,h6⟩:=h.mem s cs hs hnm;exact⟨b,vs,e,h1,h2,hblk _ _ h3,RepAs.keep hk ρ.le_refl cs _ h4,fun o=>hnot b _ o h3 (h6 o)⟩
 ·intro t ht;obtain⟨x,h1,h2⟩:=h.tok t ht;refine⟨x,h1,?_⟩;rcases h2 with h2|⟨b,g0,g1,⟨cur,e,g2,g3⟩,g4,g5,g7,g8,g9⟩
  ·exact .inl h2
  ·exact .inr ⟨b,g0,g1,⟨cur,e,hblk _ _ g2,g3⟩,g4,g5,fun o ho=>hnot b _ o g2 (g7 o ho),g8,g9⟩
 ·intro b o hs;rcases hS' b o hs with h1|h1
  ·exact h.new b o h1
  ·exact .inr (.inl (Nat.le_trans h.below.size h1))
theorem Sim.put(h:Sim c st tmps w S ρ){d}(hD:c.D d){a v}(hv:RepA w S ρ a v)(g)(hg:∀b,g=some b→b=false→v=undef):
  Sim c (st.put g d a) (tmps.setIfInBounds d v) w S ρ:=by
 have hd:=hD.1;have hfx:∀k,c.kp k=true→(tmps.setIfInBounds d v).getD k undef=c.t0.getD k undef:=by
  intro k hk;have hne:¬d=k:=by intro e;have h2:=hD.2;rw[e,hk]at h2;cases h2
  refine Eq.trans ?_ (h.fx k hk);simp[Array.getD_eq_getD_getElem?,hne]
 refine{h with size:=by simp[h.size],slots:=fun k=>?_,fx:=hfx};simp only[St.put,getS];by_cases hk:d=k
 ·subst hk;rw[if_pos rfl];have:(tmps.setIfInBounds d v).getD d undef=v:=by simp[Array.getD_eq_getD_getElem?,h.size,hd]
  rw[this];cases g with
  |none=>exact hv
  |some b=>exact⟨fun _=>hv,fun hb=>hg b rfl hb⟩
 ·rw[if_neg hk];have:(tmps.setIfInBounds d v).getD k undef=tmps.getD k undef:=by simp[Array.getD_eq_getD_getElem?,hk]
  rw[this];exact h.slots k
theorem Sim.putSkip(h:Sim c st tmps w S ρ){d}(hD:c.D d)(a):Sim c (st.put (some false) d a) (tmps.setIfInBounds d undef) w S ρ:=by
 have hd:=hD.1;have hfx:∀k,c.kp k=true→(tmps.setIfInBounds d undef).getD k undef=c.t0.getD k undef:=by
  intro k hk;have hne:¬d=k:=by intro e;have h2:=hD.2;rw[e,hk]at h2;cases h2
  refine Eq.trans ?_ (h.fx k hk);simp[Array.getD_eq_getD_getElem?,hne]
 refine{h with size:=by simp[h.size],slots:=fun k=>?_,fx:=hfx};simp only[St.put,getS];by_cases hk:d=k
 ·subst hk;rw[if_pos rfl];have:(tmps.setIfInBounds d undef).getD d undef=undef:=by simp[Array.getD_eq_getD_getElem?,h.size,hd]
  rw[this];exact⟨fun hh=>by simp at hh,fun _=>rfl⟩
 ·rw[if_neg hk];have:(tmps.setIfInBounds d undef).getD k undef=tmps.getD k undef:=by simp[Array.getD_eq_getD_getElem?,hk]
  rw[this];exact h.slots k
theorem RepA.strip{a v}(h:RepA w S ρ a v)(hg:a.grd=true):RepA w S ρ a.strip v:=by
 cases a<;>first|exact h|exact h.1 hg
theorem Sim.ev(h:Sim c st tmps w S ρ){x x'}(hx:trX x=some x')(hg:gd st x'=true){ds}:RepA w S ρ (ev st x') ((⟨tmps,ds⟩:Act).eval x):=by
 refine RepA.strip ?_ hg;cases x with
 |tmp t=>simp[trX]at hx;subst hx;exact h.slots t
 |const v=>simp only[trX,Option.map_eq_some_iff]at hx;obtain⟨a,ha,rfl⟩:=hx;exact yja w S ρ ha
 |global g=>simp[trX]at hx;subst hx;rfl
 |func f=>simp[trX]at hx;subst hx;exact⟨#[],rfl,rfl⟩
end Go.Abs
end
section
namespace Go.Abs
open Go.RowKit
variable{c:Ctx}{st:St}{tmps:Array Value}{w:World}{S:Safe}{ρ:Rho}
theorem yWg(h:Sim c st tmps w S ρ){o x x' ds}(ho:o.op=.move x∨o.op=.assign x)(hx:trX x=some x')(hg:gd st x'=true):
  ∃cv,(execOp (Act.eval ⟨tmps,ds⟩) o).run c.P w=.ok (.value cv) w∧RepA w S ρ (ev st x') cv:=by
 refine⟨_,?_,h.ev hx hg (ds:=ds)⟩;unfold execOp;rcases ho with ho|ho<;>simp only[ho]<;>rfl
theorem run_v{P s w w' v}(h:s.run P w=.ok v w'):(do pure (Next.value (←s)):Sem Next).run P w=.ok (.value v) w':=by
 simp[h]
theorem yQx(h:Sim c st tmps w S ρ){o x y x' ds}(ho:o.op=.pick x y (.const (.bool false)))(hx:trX x=some x')
  {p} (hp:ev st x'=.d (.bool p)) (hg:gd st x'=true) (hg2:p=false):
  ∃cv,(execOp (Act.eval ⟨tmps,ds⟩) o).run c.P w=.ok (.value cv) w∧RepA w S ρ (.d (.bool false)) cv:=by
 have e1:=h.ev hx hg (ds:=ds);rw[hp]at e1;refine⟨_,?_,rfl⟩;unfold execOp;simp only[ho];simp only[RepA,Rep]at e1;rw[e1];subst hg2;simp[asBool,Act.eval]
theorem xzt(h:Sim c st tmps w S ρ){o x y x' ds}(ho:o.op=.pick x (.const (.bool true)) y)(hx:trX x=some x')
  {p} (hp:ev st x'=.d (.bool p)) (hg:gd st x'=true) (hg2:p=true):
  ∃cv,(execOp (Act.eval ⟨tmps,ds⟩) o).run c.P w=.ok (.value cv) w∧RepA w S ρ (.d (.bool true)) cv:=by
 have e1:=h.ev hx hg (ds:=ds);rw[hp]at e1;refine⟨_,?_,rfl⟩;unfold execOp;simp only[ho];simp only[RepA,Rep]at e1;rw[e1];subst hg2;simp[asBool,Act.eval]
theorem xzb(h:Sim c st tmps w S ρ){o x y x' y' ds}(ho:o.op=.pick x y (.const (.bool false)))(hx:trX x=some x')(hy:trX y=some y')
  {p q} (hp:ev st x'=.d (.bool p)) (hq:ev st y'=.d (.bool q)) (hg:gd st x'=true) (hg2:p=true→gd st y'=true):
  ∃cv,(execOp (Act.eval ⟨tmps,ds⟩) o).run c.P w=.ok (.value cv) w∧RepA w S ρ (.d (.bool (p&&q))) cv:=by
 have e1:=h.ev hx hg (ds:=ds);rw[hp]at e1;refine⟨_,?_,rfl⟩;unfold execOp;simp only[ho];simp only[RepA,Rep]at e1;rw[e1];cases p with
 |false=>simp[asBool,Act.eval]
 |true=>have e2:=h.ev hy (hg2 rfl) (ds:=ds);rw[hq]at e2;simp only[RepA,Rep]at e2;simp[asBool,e2]
theorem ok_or(h:Sim c st tmps w S ρ){o x y x' y' ds}(ho:o.op=.pick x (.const (.bool true)) y)(hx:trX x=some x')(hy:trX y=some y')
  {p q} (hp:ev st x'=.d (.bool p)) (hq:ev st y'=.d (.bool q)) (hg:gd st x'=true) (hg2:p=false→gd st y'=true):
  ∃cv,(execOp (Act.eval ⟨tmps,ds⟩) o).run c.P w=.ok (.value cv) w∧RepA w S ρ (.d (.bool (p||q))) cv:=by
 have e1:=h.ev hx hg (ds:=ds);rw[hp]at e1;refine⟨_,?_,rfl⟩;unfold execOp;simp only[ho];simp only[RepA,Rep]at e1;rw[e1];cases p with
 |true=>simp[asBool,Act.eval]
 |false=>have e2:=h.ev hy (hg2 rfl) (ds:=ds);rw[hq]at e2;simp only[RepA,Rep]at e2;simp[asBool,e2]
theorem xzd(h:Sim c st tmps w S ρ){o op t t' x y x' y' ds}(ho:o.op=.binOp op t x y t')(hx:trX x=some x')(hy:trX y=some y')
  (hg:gd st x'=true) (hg2:gd st y'=true) {r} (hr:binA op (ev st x') (ev st y')=some r) (hob:r.2):
  ∃cv,(execOp (Act.eval ⟨tmps,ds⟩) o).run c.P w=.ok (.value cv) w∧RepA w S ρ r.1 cv:=by
 have e1:=h.ev hx hg (ds:=ds);have e2:=h.ev hy hg2 (ds:=ds);unfold execOp;simp only[ho];unfold binA at hr;split at hr
 ·rename_i k p k' q hp hq;rw[hp]at e1;rw[hq]at e2;simp only[RepA,Rep]at e1 e2;split at hr<;>cases hr<;>simp only at hob;case h_12=>refine⟨_,run_v (v:=_) (w':=w) ?_,rfl⟩;rw[e1,e2];simp[eqGuard_at_int,binOp,Op.shift,Int.not_lt.2 hob]
  case h_4|h_5=>obtain⟨rfl,hob⟩:=hob;refine⟨_,run_v (v:=_) (w':=w) ?_,rfl⟩;rw[e1,e2];simp[eqGuard_at_int,binOp,Op.intDiv,hob]
  all_goals (subst hob;refine⟨_,run_v (v:=_) (w':=w) ?_,rfl⟩;rw[e1,e2];simp[eqGuard_at_int,binOp,Op.intArith,Op.intCmp])
 ·rename_i p q hp hq;rw[hp]at e1;rw[hq]at e2;obtain⟨bx,e1,rfl,l1⟩:=e1;obtain⟨by',e2,rfl,l2⟩:=e2;split at hr<;>cases hr;case h_3=>
   refine⟨_,run_v (v:=.string (bx++by')) (w':=w) ?_,⟨_,rfl,by simp,?_⟩⟩
   ·rw[e1,e2];have:¬(((bx.size+by'.size:Nat):Int)>IntKind.i64.max):=by simp at hob;simp[IntKind.max_i64];omega
    simp only[eqGuard_at_string,binOp,Op.stringOp,Sem.run_bind,Sem.run_pure,Result.andThen_ok];rw[if_neg this];rfl
   ·simp at hob;simp;omega
  all_goals
   refine⟨_,run_v (v:=_) (w':=w) ?_,rfl⟩;rw[e1,e2];simp[eqGuard_at_string,binOp,Op.stringOp,ByteArray.toList_eq]
 ·cases hr;exact hob.elim
 ·cases hr;exact hob.elim
 ·cases hr
theorem xzs(h:Sim c st tmps w S ρ){o t x x' ds}(ho:o.op=.unOp .not t x)(hx:trX x=some x')(hg:gd st x'=true){b}(hb:ev st x'=.d (.bool b)):
  ∃cv,(execOp (Act.eval ⟨tmps,ds⟩) o).run c.P w=.ok (.value cv) w∧RepA w S ρ (.d (.bool (!b))) cv:=by
 have e1:=h.ev hx hg (ds:=ds);rw[hb]at e1;simp only[RepA,Rep]at e1;refine⟨.bool (!b),?_,rfl⟩;unfold execOp;simp only[ho];rw[e1];simp[Op.unary]
theorem xzq(h:Sim c st tmps w S ρ){o x x' ds}(ho:o.op=.nilCheck x)(hx:trX x=some x')(hg:gd st x'=true){s off}(hb:ev st x'=.ptr s off):
  ∃cv,(execOp (Act.eval ⟨tmps,ds⟩) o).run c.P w=.ok (.value cv) w∧RepA w S ρ (.ptr s off) cv:=by
 have e1:=h.ev hx hg (ds:=ds);rw[hb]at e1;obtain⟨b,h1,h2⟩:=id e1;refine⟨_,?_,e1⟩;unfold execOp;simp only[ho];rw[h2];simp
theorem xzr(h:Sim c st tmps w S ρ){o t x x' ds k}(ho:o.op=.unOp .neg t x)(hx:trX x=some x')(hg:gd st x'=true){r}(hr:binA .sub (.d (.int k 0)) (ev st x')=some r)(hob:r.2):
  ∃cv,(execOp (Act.eval ⟨tmps,ds⟩) o).run c.P w=.ok (.value cv) w∧RepA w S ρ r.1 cv:=by
 have e1:=h.ev hx hg (ds:=ds);unfold execOp;simp only[ho];unfold binA at hr;split at hr
 ·rename_i k1 p k' q hp hq;cases hp;rw[hq]at e1;simp only[RepA,Rep]at e1;cases hr;simp only at hob;subst hob;refine⟨_,run_v (v:=_) (w':=w) ?_,rfl⟩;rw[e1];simp[Op.unary,Op.intArith]
 ·rename_i hp _;cases hp
 ·rename_i hp;cases hp
 ·cases hr;exact hob.elim
 ·cases hr
theorem xzi(h:Sim c st tmps w S ρ){o x x' ds i}(ho:o.op=.extract x i)(hx:trX x=some x')(hg:gd st x'=true){vs}(hb:ev st x'=.tup vs)(hi:i<vs.length):
  ∃cv,(execOp (Act.eval ⟨tmps,ds⟩) o).run c.P w=.ok (.value cv) w∧RepA w S ρ (vs.getD i .undef) cv:=by
 have e1:=h.ev hx hg (ds:=ds);rw[hb]at e1;obtain⟨cs,e1,e2⟩:=e1;have key:∀(vs:List AV) (l:List Value) (i:Nat),i<vs.length→RepAs w S ρ vs l→∃v,l[i]? =some v∧RepA w S ρ (vs.getD i .undef) v:=by
  intro vs;induction vs with
  |nil=>intro l i hi;simp at hi
  |cons a as ih=>
   intro l i hi ⟨v,r,hl,h1,h2⟩;subst hl;cases i with
   |zero=>exact⟨v,rfl,h1⟩
   |succ i=>simpa using ih r i (by simpa using hi) h2
 obtain⟨v,hv,hr⟩:=key vs cs.toList i hi e2;refine⟨v,?_,hr⟩;have hv':cs[i]? =some v:=by simpa using hv
 unfold execOp;simp only[ho];rw[e1];simp[Instr.extract,hv']
theorem Sim.evs(h:Sim c st tmps w S ρ){ds}:∀{xs} {xs'},trXs xs=some xs'→gds st xs'=true→RepAs w S ρ (evs st xs') (xs.map (Act.eval ⟨tmps,ds⟩))
 |[],xs',hx,_=>by simp[trXs]at hx;subst hx;rfl
 |x::xs,xs',hx,hg=>by simp only[trXs,List.mapM_cons,Option.bind_eq_bind,Option.bind_eq_some_iff,Option.pure_def,Option.some.injEq]at hx;obtain⟨a,ha,as,has,rfl⟩:=hx;simp only[gds,Bool.and_eq_true]at hg;exact⟨_,_,rfl,h.ev ha hg.1,Sim.evs h has hg.2⟩
theorem yj6{w S ρ}:∀{as} {ds} {vs},dsOf as=some ds→RepAs w S ρ as vs→RepL w S ds vs
 |[],_,_,h,hr=>by simp only[dsOf,Option.some.injEq]at h;subst h;exact hr
 |.d x::as,ds,vs,h,hr=>by
  simp only[dsOf]at h;cases h1:dsOf as with
  |none=>rw[h1]at h;cases h
  |some xs=>rw[h1]at h;simp only[Option.some.injEq]at h;subst h;obtain⟨v,r,e,g1,g2⟩:=hr;exact⟨v,r,e,g1,yj6 h1 g2⟩
theorem yQr{w S ρ f vs v}(h:RepA w S ρ (.clo f vs) v):RepA w S ρ (mkC f vs) v:=by
 unfold mkC;split
 ·rename_i ds hd;obtain⟨cs,h1,h2⟩:=h;exact⟨cs,h1,yj6 hd h2⟩
 ·exact h
theorem xzn(h:Sim c st tmps w S ρ){o f caps xs ds}(ho:o.op=.makeFunc (.func f) #[] caps)(hx:trXs caps.toList=some xs)(hg:gds st xs=true):
  ∃cv,(execOp (Act.eval ⟨tmps,ds⟩) o).run c.P w=.ok (.value cv) w∧RepA w S ρ (mkC f (evs st xs)) cv:=by
 refine⟨.func (.func f) #[] (caps.map (Act.eval ⟨tmps,ds⟩)),?_,yQr ⟨_,rfl,?_⟩⟩
 ·unfold execOp;simp[ho,Instr.makeFunc]
 ·simpa using h.evs hx hg
theorem xzl(h:Sim c st tmps w S ρ){o x y x' y' ds tys}(ho:o.op=.call {callee:=.builtin .max,args:=#[x,y],argTypes:=tys})(hx:trX x=some x')(hy:trX y=some y')
  (hg:gd st x'=true) (hg2:gd st y'=true) {k k'} {p q} (hp:ev st x'=.d (.int k p)) (hq:ev st y'=.d (.int k' q)):
  ∃cv,(execOp (Act.eval ⟨tmps,ds⟩) o).run c.P w=.ok (.value cv) w∧RepA w S ρ (.d (.int k (if q>p then q else p))) cv:=by
 have e1:=h.ev hx hg (ds:=ds);have e2:=h.ev hy hg2 (ds:=ds);rw[hp]at e1;rw[hq]at e2;simp only[RepA,Rep]at e1 e2;refine⟨.int k (if q>p then q else p),?_,rfl⟩;unfold execOp;simp[ho,resolve,invoke,builtin,Builtin.max_,e1,e2,Builtin.max2]
theorem xzm(h:Sim c st tmps w S ρ){o x y x' y' ds tys}(ho:o.op=.call {callee:=.builtin .min,args:=#[x,y],argTypes:=tys})(hx:trX x=some x')(hy:trX y=some y')
  (hg:gd st x'=true) (hg2:gd st y'=true) {k k'} {p q} (hp:ev st x'=.d (.int k p)) (hq:ev st y'=.d (.int k' q)):
  ∃cv,(execOp (Act.eval ⟨tmps,ds⟩) o).run c.P w=.ok (.value cv) w∧RepA w S ρ (.d (.int k (if q<p then q else p))) cv:=by
 have e1:=h.ev hx hg (ds:=ds);have e2:=h.ev hy hg2 (ds:=ds);rw[hp]at e1;rw[hq]at e2;simp only[RepA,Rep]at e1 e2;refine⟨.int k (if q<p then q else p),?_,rfl⟩;unfold execOp;simp[ho,resolve,invoke,builtin,Builtin.min_,e1,e2,Builtin.min2]
theorem yXE{y}(h:isNilI y=true):y=.const .nilIface:=by
 unfold isNilI at h;split at h
 ·rfl
 ·cases h
theorem yJH(h:Sim c st tmps w S ρ){o op t t' ms}(hu:c.P.underlying t=some (.interface ms)){x x' ds}(ho:o.op=.binOp op t x (.const .nilIface) t')(he:isEq op=true)(hx:trX x=some x')
  (hg:gd st x'=true) {p:Bool} (hp:ev st x'=.d (if p then .nilI else .anyI)):
  ∃cv,(execOp (Act.eval ⟨tmps,ds⟩) o).run c.P w=.ok (.value cv) w∧RepA w S ρ (.d (.bool (if p then !(op==.neq)else op==.neq))) cv:=by
 have e1:=h.ev hx hg (ds:=ds);rw[hp]at e1;have heq:∀v,v=(Act.eval ⟨tmps,ds⟩) x→(Op.equal t v .nilIface).run c.P w=.ok p w:=by
  intro v hv;unfold Op.equal;have:Op.maxDepth=(Op.maxDepth-1)+1:=by decide
  rw[this];unfold Op.equalIn;cases p with
  |true=>have e1:_=Value.nilIface:=e1;rw[hv,e1];simp[run_underlying hu]
  |false=>obtain⟨t1,u1,e1⟩:=e1;rw[hv,e1];simp[run_underlying hu]
 refine⟨_,?_,rfl⟩;unfold execOp;simp only[ho];refine run_v (v:=_) (w':=w) ?_;have heq:=heq _ rfl;have hgd:(eqGuard op t x (.const .nilIface) (Act.eval ⟨tmps,ds⟩ x) .nilIface).run c.P w=.ok () w:=by
  unfold eqGuard;cases p with
  |true=>have e1:_=Value.nilIface:=e1;rw[e1];cases op<;>simp
  |false=>obtain⟨t1,u1,e1⟩:=e1;rw[e1];cases op<;>simp
 have hev:(Act.eval ⟨tmps,ds⟩ (.const .nilIface))=.nilIface:=rfl;rw[hev];cases p with
 |true=>have e1:_=Value.nilIface:=e1;rw[e1]at heq hgd⊢;cases op<;>simp[isEq]at he<;>simp[hgd,binOp,heq]
 |false=>obtain⟨t1,u1,e1⟩:=e1;rw[e1]at heq hgd⊢;cases op<;>simp[isEq]at he<;>simp[hgd,binOp,heq]
theorem xzc(h:Sim c st tmps w S ρ){o op t t'}(hu:c.P.underlying t=some .bool){x y x' y' ds}(ho:o.op=.binOp op t x y t')(he:isEq op=true)(hx:trX x=some x')(hy:trX y=some y')
  (hg:gd st x'=true) (hg2:gd st y'=true) {p q} (hp:ev st x'=.d (.bool p)) (hq:ev st y'=.d (.bool q)):
  ∃cv,(execOp (Act.eval ⟨tmps,ds⟩) o).run c.P w=.ok (.value cv) w∧RepA w S ρ (.d (.bool (if op==.neq then !(p==q)else p==q))) cv:=by
 have e1:=h.ev hx hg (ds:=ds);have e2:=h.ev hy hg2 (ds:=ds);rw[hp]at e1;rw[hq]at e2;simp only[RepA,Rep]at e1 e2;have heq:(Op.equal t (.bool p) (.bool q)).run c.P w=.ok (p==q) w:=by
  unfold Op.equal;have:Op.maxDepth=(Op.maxDepth-1)+1:=by decide
  rw[this];unfold Op.equalIn;simp[run_underlying hu]
 refine⟨_,?_,rfl⟩;unfold execOp;simp only[ho];refine run_v (v:=_) (w':=w) ?_;rw[e1,e2];cases op<;>simp[isEq]at he<;>simp[eqGuard_at_bool,binOp,heq]
theorem yqB{b a v n}(h:RepA w S ρ a v)(hn:lenOf b a=some n):(n:Int)≤9223372036854775807:=by
 unfold lenOf at hn;split at hn<;>cases hn
 ·obtain⟨x,_,rfl,hx⟩:=h;simp;omega
 ·obtain⟨_,cap,_,h2,h3,_⟩:=h;omega
 ·obtain⟨⟨_,cap,_,h2,h3,_⟩,_⟩:=h;omega
 ·obtain⟨⟨_,cap,_,h2,h3,_⟩,_⟩:=h;omega
 ·obtain⟨h1,h2,_⟩:=h;omega
end Go.Abs
end
section
namespace Go.Abs
open Go.RowKit
variable{c:Ctx}{st:St}{tmps:Array Value}{w:World}{S:Safe}{ρ:Rho}
theorem RepAs.length:∀{as} {l},RepAs w S ρ as l→l.length=as.length
 |[],_,h=>by simp[RepAs]at h;subst h;rfl
 |a::as,_,⟨v,r,h,_,h2⟩=>by subst h;simp[RepAs.length h2]
theorem RepAs.drop:∀{as} {l} (n),RepAs w S ρ as l→RepAs w S ρ (as.drop n) (l.drop n)
 |[],_,n,h=>by simp[RepAs]at h;subst h;simp[RepAs]
 |a::as,_,0,h=>h
 |a::as,_,n+1,⟨v,r,h,_,h2⟩=>by subst h;simpa using RepAs.drop n h2
theorem RepAs.take:∀{as} {l} (n),RepAs w S ρ as l→RepAs w S ρ (as.take n) (l.take n)
 |[],_,n,h=>by simp[RepAs]at h;subst h;simp[RepAs]
 |a::as,_,0,h=>by simp[RepAs]
 |a::as,_,n+1,⟨v,r,h,h1,h2⟩=>by subst h;exact⟨v,_,rfl,h1,RepAs.take n h2⟩
theorem RepAs.append:∀{as bs} {l k},RepAs w S ρ as l→RepAs w S ρ bs k→RepAs w S ρ (as++bs) (l++k)
 |[],_,_,_,h,h'=>by simp[RepAs]at h;subst h;simpa using h'
 |a::as,bs,_,k,⟨v,r,h,h1,h2⟩,h'=>by subst h;exact⟨v,_,rfl,h1,RepAs.append h2 h'⟩
theorem RepL.toAs:∀{ds} {l},RepL w S ds l→RepAs w S ρ (ds.map .d) l
 |[],_,h=>h
 |d::ds,_,⟨v,r,h,h1,h2⟩=>⟨v,r,h,h1,RepL.toAs h2⟩
theorem RepL.length:∀{ds} {l},RepL w S ds l→l.length=ds.length
 |[],_,h=>by simp[RepL]at h;subst h;rfl
 |a::as,_,⟨v,r,h,_,h2⟩=>by subst h;simp[RepL.length h2]
theorem RepL.ones:∀{ds} {l},RepL w S ds l→∀u∈l,u.oneCell'=true
 |[],_,h=>by simp[RepL]at h;subst h;simp
 |a::as,_,⟨v,r,h,h1,h2⟩=>by
  subst h;intro u hu;rcases List.mem_cons.1 hu with rfl|hu
  ·exact h1.one
  ·exact RepL.ones h2 u hu
theorem RepL.append:∀{as bs} {l k},RepL w S as l→RepL w S bs k→RepL w S (as++bs) (l++k)
 |[],_,_,_,h,h'=>by simp[RepL]at h;subst h;simpa using h'
 |a::as,bs,_,k,⟨v,r,h,h1,h2⟩,h'=>by subst h;exact⟨v,_,rfl,h1,RepL.append h2 h'⟩
theorem RepCs.drop:∀{ds} {b o} (n),RepCs w S b o ds→RepCs w S b (o+n) (ds.drop n)
 |[],_,_,n,_=>by simp[RepCs]
 |d::ds,_,_,0,h=>h
 |d::ds,b,o,n+1,h=>by have:=RepCs.drop n h.2;rw[show o+(n+1)=o+1+n by omega];exact this
theorem RepCs.take:∀{ds} {b o} (n),RepCs w S b o ds→RepCs w S b o (ds.take n)
 |[],_,_,n,_=>by simp[RepCs]
 |d::ds,_,_,0,h=>by simp[RepCs]
 |d::ds,b,o,n+1,h=>⟨h.1,RepCs.take n h.2⟩
theorem RepCs.append:∀{ds es} {b o},RepCs w S b o ds→RepCs w S b (o+ds.length) es→RepCs w S b o (ds++es)
 |[],_,_,_,_,h=>h
 |d::ds,es,b,o,h,h'=>⟨h.1,RepCs.append h.2 (by rw[show o+1+ds.length=o+(d::ds).length by simp;omega];exact h')⟩
theorem RepCs.values:∀{ds} {b o},RepCs w S b o ds→∃l:List Value,RepL w S ds l∧(∀j v,l[j]? =some v→w.cell? ⟨b,o+j,none⟩=some v∧S b (o+j))
 |[],_,_,_=>⟨[],rfl,by simp⟩
 |d::ds,b,o,⟨⟨hs,v,hc,hr⟩,h2⟩=>by
  obtain⟨l,h3,h4⟩:=RepCs.values h2;refine⟨v::l,⟨v,l,rfl,hr,h3⟩,fun j u hj=>?_⟩;cases j with
  |zero=>simp at hj;subst hj;exact⟨hc,hs⟩
  |succ j=>have:=h4 j u (by simpa using hj);rwa [show o+1+j=o+(j+1) by omega]at this
theorem RepCs.zkN:∀{ds} {l} {b o},RepL w S ds l→(∀j v,l[j]? =some v→w.cell? ⟨b,o+j,none⟩=some v∧S b (o+j))→RepCs w S b o ds
 |[],_,_,_,_,_=>trivial
 |d::ds,_,b,o,⟨v,r,h,h1,h2⟩,hc=>by
  subst h;refine⟨⟨(hc 0 v rfl).2,v,(hc 0 v rfl).1,h1⟩,RepCs.zkN h2 fun j u hj=>?_⟩;have:=hc (j+1) u (by simpa using hj)
  rwa [show o+(j+1)=o+1+j by omega]at this
theorem RepEs.get:∀{es} {b o sz} (i),(∀e∈es,e.length=sz)→RepEs w S b o es→i<es.length→RepCs w S b (o+i*sz) (es.getD i [])
 |[],_,_,_,i,_,_,h=>by simp at h
 |e::es,b,o,sz,0,_,h,_=>by simpa using h.1
 |e::es,b,o,sz,i+1,hl,h,hi=>by have:=RepEs.get i (fun x hx=>hl x (by simp[hx])) h.2 (by simpa using hi);rw[hl e (by simp)]at this;rw[show o+(i+1)*sz=o+sz+i*sz by rw[Nat.succ_mul];omega];simpa using this
theorem RepEs.flat:∀{es} {b o},RepEs w S b o es↔RepCs w S b o es.flatten
 |[],_,_=>by simp[RepEs,RepCs]
 |e::es,b,o=>by
  simp only[RepEs,List.flatten_cons];constructor
  ·rintro⟨h1,h2⟩;exact RepCs.append h1 (RepEs.flat.1 h2)
  ·intro h;refine⟨?_,RepEs.flat.2 ?_⟩
   ·have:=RepCs.take e.length h;simpa using this
   ·have:=RepCs.drop e.length h;simpa using this
theorem zxb{α:Type}{sz}:∀{es:List (List α)},(∀e∈es,e.length=sz)→es.flatten.length=es.length*sz
 |[],_=>by simp
 |e::es,h=>by rw[List.flatten_cons,List.length_append,h e (by simp),zxb fun x hx=>h x (by simp[hx]),List.length_cons,Nat.succ_mul];omega
def Through(w:World)(S:Safe)(ρ:Rho)(m:Mem):Prop:=∀s cs,getM m s=some cs→isMp cs=false→∃b l,ρ.box s=some b∧RepAs w S ρ cs l∧∀j v,l[j]? =some v→w.cell? ⟨b,j,none⟩=some v∧S b j
theorem zyp:Through w S ρ []:=fun s cs h=>by simp[getM]at h
theorem zJO{f}(hf:∀a v x,RepA w S ρ a v→f a=some x→Rep w S x v):∀{as} {l} {xs},RepAs w S ρ as l→as.mapM f=some xs→RepL w S xs l
 |[],_,xs,h,hx=>by simp at hx;subst hx;exact h
 |a::as,_,xs,⟨v,r,h,h1,h2⟩,hx=>by simp only[List.mapM_cons,Option.bind_eq_bind,Option.bind_eq_some_iff,Option.pure_def,Option.some.injEq]at hx;obtain⟨x,hx1,ys,hys,rfl⟩:=hx;exact⟨v,r,h,hf a v x h1 hx1,zJO hf h2 hys⟩
theorem zYq(esz):∀(n) (xs),(chunk esz n xs).length=n
 |0,_=>rfl
 |n+1,xs=>by simp[chunk,zYq esz n]
theorem zWY(esz):∀(n) (xs),xs.length=n*esz→(chunk esz n xs).flatten=xs
 |0,xs,h=>by simp at h;subst h;rfl
 |n+1,xs,h=>by
  have:(xs.drop esz).length=n*esz:=by rw[List.length_drop,h,Nat.succ_mul];omega
  simp only[chunk,List.flatten_cons,zWY esz n _ this,List.take_append_drop]
theorem ywM(esz):∀(n) (xs),xs.length=n*esz→∀e∈chunk esz n xs,e.length=esz
 |0,_,_,e,he=>by simp[chunk]at he
 |n+1,xs,h,e,he=>by
  have h1:(xs.drop esz).length=n*esz:=by rw[List.length_drop,h,Nat.succ_mul];omega
  simp only[chunk,List.mem_cons]at he;rcases he with rfl|he
  ·rw[List.length_take,h,Nat.succ_mul];omega
  ·exact ywM esz n _ h1 e he
theorem mapM_length{f}:∀{as:List AV} {xs:List D},as.mapM f=some xs→xs.length=as.length
 |[],xs,h=>by simp at h;subst h;rfl
 |a::as,xs,h=>by simp only[List.mapM_cons,Option.bind_eq_bind,Option.bind_eq_some_iff,Option.pure_def,Option.some.injEq]at h;obtain⟨x,_,ys,hys,rfl⟩:=h;simp[mapM_length hys]
theorem zVC{m}(hm:Through w S ρ m):∀(n) (a) (v) (x),RepA w S ρ a v→AV.toD m n a=some x→Rep w S x v:=by
 intro n;induction n with
 |zero=>intro a v x h hx;cases a<;>simp[AV.toD]at hx<;>subst hx<;>first|exact h|exact h.1
 |succ n ih=>
  intro a v x h hx;cases a<;>simp only[AV.toD,Option.some.injEq,reduceCtorEq]at hx;case d=>subst hx;exact h
  case full=>subst hx;exact h.1
  case own=>subst hx;exact h.1
  case clo f caps=>
   obtain⟨cs,h1,h2⟩:=h;split at hx
   ·rename_i ys hys;cases hx;exact⟨cs,h1,zJO (fun a v x=>ih a v x) h2 hys⟩
   ·cases hx
  case ptr s off=>
   obtain⟨b,h1,h2⟩:=h;split at hx
   ·rename_i cs hcs;split at hx
    ·rename_i ys hys;cases hx;cases hmp:isMp cs with
     |true=>
      obtain⟨k,e,kvs,rfl⟩:=zxX.1 hmp;cases off with
      |zero=>simp[AV.toD]at hys;cases n<;>simp[AV.toD]at hys
      |succ off=>simp at hys;subst hys;exact⟨b,_,h2,trivial⟩
     |false=>
     obtain⟨b',l,h3,h4,h5⟩:=hm s cs hcs hmp;obtain rfl:=Option.some.inj (h1.symm.trans h3);refine⟨b,off,h2,RepCs.zkN (zJO (fun a v x=>ih a v x) (RepAs.drop off h4) hys) fun j v hj=>?_⟩;have:=h5 (off+j) v (by simpa using hj);exact this
    ·cases hx
   ·cases hx
  case vec s esz off len cap=>
   obtain⟨k1,k2,b,h1,h2⟩:=h;split at hx
   ·rename_i cs hcs;split at hx
    ·rename_i hle;split at hx
     ·rename_i ys hys;cases hx;have hyl:ys.length=len*esz:=by rw[mapM_length hys,List.length_take,List.length_drop];omega
      refine⟨some ⟨b,off,none⟩,cap,by rw[zYq];exact h2,by rw[zYq];exact k1,k2,fun e=>(by cases e),?_⟩
      rintro a ha
      cases ha;refine⟨fun _=>rfl,⟨esz,ywM esz len ys hyl⟩,RepEs.flat.2 ?_⟩;rw[zWY esz len ys hyl];cases hmp:isMp cs with
      |true=>
       obtain⟨k,e,kvs,rfl⟩:=zxX.1 hmp;cases hys':((List.drop off [AV.mp k e kvs]).take (len*esz))with
       |nil=>rw[hys']at hys;simp at hys;subst hys;trivial
       |cons q qs=>
        exfalso;rw[hys']at hys;have:q=AV.mp k e kvs:=by
         have hm:q∈(List.drop off [AV.mp k e kvs]).take (len*esz):=by rw[hys'];simp
         have:=List.mem_of_mem_drop (List.mem_of_mem_take hm);simpa using this
        subst this;simp only[List.mapM_cons,Option.bind_eq_bind,Option.bind_eq_some_iff]at hys;obtain⟨x,hx1,_⟩:=hys;cases n<;>simp[AV.toD]at hx1
      |false=>
      obtain⟨b',l,h3,h4,h5⟩:=hm s cs hcs hmp;obtain rfl:=Option.some.inj (h1.symm.trans h3);refine RepCs.zkN (zJO (fun a v x=>ih a v x) (RepAs.take _ (RepAs.drop off h4)) hys) fun j v hj=>?_;have hj':l[off+j]? =some v:=by
       rw[List.getElem?_take]at hj;split at hj
       ·simpa using hj
       ·cases hj
      exact h5 (off+j) v hj'
     ·cases hx
    ·cases hx
   ·cases hx
theorem zv6{m}(hm:Through w S ρ m)(n):∀{as} {l} {xs},RepAs w S ρ as l→toDs m n as=some xs→RepL w S xs l
 |[],_,xs,h,hx=>by simp[toDs]at hx;subst hx;exact h
 |a::as,_,xs,⟨v,r,h,h1,h2⟩,hx=>by
  simp only[toDs]at hx;split at hx
  ·rename_i y ys hy hys;cases hx;exact⟨v,r,h,zVC hm n a v y h1 hy,zv6 hm n h2 hys⟩
  ·cases hx
theorem ywL{a v}(h:RepA w S ρ a v)(ha:a≠.undef)(hc:∀g x,a≠.cond g x):RepAs w S ρ a.cells v.cells.toList:=by
 cases a<;>simp only[AV.cells];case undef=>exact(ha rfl).elim
 case cond g x=>exact(hc g x rfl).elim
 case agg cs=>obtain⟨vs,rfl,h⟩:=h;exact h
 case d x=>have:=Rep.one h;cases v<;>simp[Value.oneCell']at this<;>exact⟨_,_,rfl,h,rfl⟩
 case tup cs=>obtain⟨vs,rfl,h⟩:=h;exact⟨_,_,rfl,⟨vs,rfl,h⟩,rfl⟩
 case ptr=>obtain⟨b,h1,rfl⟩:=h;exact⟨_,_,rfl,⟨b,h1,rfl⟩,rfl⟩
 case full=>obtain⟨h1,base,n,rfl⟩:=h;exact⟨_,_,rfl,⟨h1,base,n,rfl⟩,rfl⟩
 case own=>obtain⟨h1,h2,base,n,cap,h3,rfl⟩:=h;exact⟨_,_,rfl,⟨h1,h2,base,n,cap,h3,rfl⟩,rfl⟩
 case clo=>obtain⟨cs,rfl,h⟩:=h;exact⟨_,_,rfl,⟨cs,rfl,h⟩,rfl⟩
 case mref=>obtain⟨b,h1,rfl⟩:=h;exact⟨_,_,rfl,⟨b,h1,rfl⟩,rfl⟩
 case mp=>exact h.elim
 case vec=>obtain⟨k1,k2,b,h1,rfl⟩:=h;exact⟨_,_,rfl,⟨k1,k2,b,h1,rfl⟩,rfl⟩
 case zsl=>obtain⟨e,h1,base,cap,rfl,h3⟩:=h;exact⟨_,_,rfl,⟨e,h1,base,cap,rfl,h3⟩,rfl⟩
 case pnd=>obtain⟨h1,base,n,cap,h2,h3,h4,rfl⟩:=h;exact⟨_,_,rfl,⟨h1,base,n,cap,h2,h3,h4,rfl⟩,rfl⟩
 case eptr=>obtain⟨b,n,cap,h2,h3,rfl⟩:=h;exact⟨_,_,rfl,⟨b,n,cap,h2,h3,rfl⟩,rfl⟩
end Go.Abs
end
section
namespace Go.Abs
open Go.RowKit
variable{c:Ctx}{st:St}{tmps:Array Value}{w:World}{S:Safe}{ρ:Rho}
theorem addr_add(b o n):(⟨b,o,none⟩:Addr).add n=⟨b,o+n,none⟩:=by unfold Addr.add;split<;>simp_all
theorem zKL{P t}(w){ag}(h:notAgg P t=!ag)(hs:(P.underlying t).isSome=true):(isAgg t).run P w=.ok ag w:=by
 unfold notAgg at h;cases hu:P.underlying t with
 |none=>simp[hu]at hs
 |some d=>simp only[hu]at h;simp only[isAgg,Sem.run_bind,run_underlying hu,Result.andThen_ok];cases d<;>cases ag<;>first|rfl|exact Bool.noConfusion (show true=false from h)|exact Bool.noConfusion (show false=true from h)
theorem run_sizeOf{P t i}(h:P.info? t=some i)(w):(sizeOf t).run P w=.ok i.size w:=by simp[sizeOf,typeInfo,h]
theorem zKM{P t i v}(h:P.info? t=some i)(hz:i.zero=some v)(w):(zeroValue t).run P w=.ok v w:=by simp[zeroValue,typeInfo,h,hz]
theorem zZZ{P t ty}(h:chkTy P t ty=true):∃i v,P.info? t=some i∧i.zero=some v∧i.size=tySize ty∧notAgg P t=!tyAgg ty∧(P.underlying t).isSome=true∧zOks (tyZero ty) v.cells.toList=true:=by
 cases ty with
 |cell z=>
  simp only[chkTy,Bool.and_eq_true]at h;obtain⟨⟨h0,h1⟩,h2⟩:=h;have hu:(P.underlying t).isSome=true:=by unfold notAgg at h1;cases hu:P.underlying t<;>simp_all
  cases hi:P.info? t with
  |none=>simp[hi]at h2
  |some i=>
   simp only[hi,Bool.and_eq_true,beq_iff_eq]at h2;cases hz:i.zero with
   |none=>simp[hz]at h2
   |some v=>
    simp only[hz]at h2;refine⟨i,v,rfl,hz,h2.2,by simp[h1,tyAgg],hu,?_⟩;have:v.cells.toList=[v]:=by have h3:=h2.1;unfold zOk at h3;split at h3<;>first|rfl|simp at h3
    simp[tyZero,this,zOks,h2.1]
 |slice esz eb zs=>
  simp only[chkTy]at h;split at h
  ·rename_i e i hu hi;simp only[Bool.and_eq_true,beq_iff_eq]at h;obtain⟨⟨h1,h2⟩,h3⟩:=h;cases hz:i.zero with
   |none=>simp[hz]at h1
   |some v=>
    simp only[hz]at h1;refine⟨i,v,hi,hz,h2,by simp[notAgg,hu,tyAgg],by simp[hu],?_⟩;have:v.cells.toList=[v]:=by unfold zOk at h1;split at h1<;>first|rfl|simp at h1
    simp[tyZero,this,zOks,h1]
  ·cases h
 |agg zs fs=>
  simp only[chkTy,Bool.and_eq_true]at h;obtain⟨_,h⟩:=h;split at h
  ·rename_i fields i hu hi;simp only[Bool.and_eq_true,beq_iff_eq]at h;obtain⟨⟨h1,h2⟩,h3⟩:=h;split at h1
   ·rename_i vs hz;exact⟨i,.agg vs,hi,hz,h2,by simp[notAgg,hu,tyAgg],by simp[hu],h1⟩
   ·cases h1
  ·cases h
 |map k e kz ez=>
  simp only[chkTy,Bool.and_eq_true]at h;obtain⟨_,h⟩:=h;split at h
  ·rename_i k' e' i ie hu hi hie;simp only[Bool.and_eq_true,beq_iff_eq]at h;obtain⟨⟨⟨h0,h1⟩,h2⟩,h3⟩:=h;split at h2
   ·rename_i hz;exact⟨i,.map none,hi,hz,h1,by simp[notAgg,hu,tyAgg],by simp[hu],rfl⟩
   ·cases h2
  ·cases h
 |arr n esz eagg zs=>
  simp only[chkTy,Bool.and_eq_true]at h;obtain⟨_,h⟩:=h;split at h
  ·rename_i m e i hu hi;simp only[Bool.and_eq_true,beq_iff_eq]at h;obtain⟨⟨⟨⟨⟨h0,h1⟩,h2⟩,h3⟩,h4⟩,h5⟩:=h;split at h1
   ·rename_i vs hz;exact⟨i,.agg vs,hi,hz,h2,by simp[notAgg,hu,tyAgg],by simp[hu],h1⟩
   ·cases h1
  ·cases h
theorem yzC{P t ty}(h:chkTy P t ty=true){b o l}(hl:l.length=tySize ty)(hc:∀j v,l[j]? =some v→w.cell? ⟨b,o+j,none⟩=some v):
  ∃v,(loadVar t ⟨b,o,none⟩).run P w=.ok v w∧(if tyAgg ty then v=.agg l.toArray else l=[v]):=by
 obtain⟨i,z,hi,_,hsz,hna,hu,_⟩:=zZZ h;simp only[loadVar,Sem.run_bind,zKL w hna hu,Result.andThen_ok];cases hag:tyAgg ty with
 |true=>have:=run_loadCells_list (P:=P) w ⟨b,o,none⟩ l (fun j v hj=>by rw[addr_add];exact hc j v hj);exact⟨.agg l.toArray,by simp[run_sizeOf hi,hsz,←hl,this],rfl⟩
 |false=>
  have h1:tySize ty=1:=by cases ty<;>simp_all[tyAgg,tySize]
  obtain⟨v,rfl⟩:=List.length_eq_one_iff.1 (hl.trans h1);refine⟨v,?_,rfl⟩;have:=hc 0 v rfl;simp only[Nat.add_zero]at this;simp[this]
theorem ok_ld(h:Sim c st tmps w S ρ){o t ty}(ht:chkTy c.P t ty=true){x x' ds}(ho:o.op=.load t x)(hx:trX x=some x')(hg:gd st x'=true)
  {r} (hr:opv c.G st (.ld 0 (tyAgg ty) (tySize ty) x')=some r) (hob:r.2.1):
  ∃cv,(execOp (Act.eval ⟨tmps,ds⟩) o).run c.P w=.ok (.value cv) w∧RepA w S ρ r.1 cv:=by
 have e1:=h.ev hx hg (ds:=ds);have fin:∀(b off:Nat) (l:List Value) (as:List AV),RepAs w S ρ as l→l.length=tySize ty→(∀j v,l[j]? =some v→w.cell? ⟨b,off+j,none⟩=some v)→
   (Act.eval ⟨tmps,ds⟩ x)=.pointer (some ⟨b,off,none⟩)→∃cv,(execOp (Act.eval ⟨tmps,ds⟩) o).run c.P w=.ok (.value cv) w∧RepA w S ρ (asOne (tyAgg ty) as) cv:=by
  intro b off l as hra hlen hc hv;obtain⟨v,hrun,hv2⟩:=yzC (w:=w) ht hlen hc;refine⟨v,?_,?_⟩
  ·unfold execOp;simp only[ho,hv];simp[Instr.loadAt,Instr.sureAddr,hrun]
  ·cases hag:tyAgg ty with
   |true=>simp only[hag,if_true]at hv2;subst hv2;exact⟨_,rfl,by simpa using hra⟩
   |false=>
    simp only[hag,Bool.false_eq_true,if_false]at hv2;subst hv2;cases as with
    |nil=>simp[RepAs]at hra
    |cons a as=>obtain⟨v',r',h1,h2,h3⟩:=hra;cases h1;exact h2
 simp only[opv]at hr;split at hr
 ·rename_i s off hev;rw[hev]at e1;obtain⟨b,hb,hv⟩:=e1;split at hr
  ·rename_i cs hcs;cases hr;unfold rdMem at hcs;split at hcs
   ·rename_i bx hbx;split at hcs
    ·rename_i hlt;cases hcs;obtain⟨b',vs,e,h1,h2,h3,h4,h6⟩:=h.mem s bx hbx (h.noMp hb hbx);obtain rfl:=Option.some.inj (hb.symm.trans h1);have hlen:=RepAs.length h4;refine fin b off _ _ (RepAs.take (tySize ty) (RepAs.drop off h4)) (by simp at hlen⊢;omega) (fun j v hj=>?_) hv;rw[List.getElem?_take]at hj;split at hj
     ·simp only[List.getElem?_drop]at hj;simp[World.cell?,h3];simpa using hj
     ·cases hj
    ·cases hcs
   ·cases hcs
  ·cases hr
 ·rename_i cs hev;rw[hev]at e1;obtain⟨b,off,hv,hcs⟩:=e1;obtain⟨l,hl1,hl2⟩:=RepCs.values hcs;cases hag:tyAgg ty with
  |true=>
   simp only[hag,if_true]at hr;cases hr;simp only at hob;have hra:=RepAs.take (ρ:=ρ) (tySize ty) (RepL.toAs (ρ:=ρ) hl1);have:=fin b off (l.take (tySize ty)) _ hra (by have:=RepL.length hl1;simp;omega) (fun j v hj=>by
    rw[List.getElem?_take]at hj;split at hj
    ·exact(hl2 j v hj).1
    ·cases hj) hv
   rw[hag]at this;rw[←List.map_take]at this;exact this
  |false=>
   simp only[hag,Bool.false_eq_true,if_false]at hr;cases cs with
   |nil=>cases hr;exact hob.elim
   |cons d ds'=>
    cases hr;obtain⟨v,r',h1,h2,h3⟩:=hl1;subst h1;have hsz:tySize ty=1:=by cases ty<;>simp_all[tyAgg,tySize]
    have:=fin b off [v] [.d d] ⟨v,[],rfl,h2,rfl⟩ (by simp[hsz]) (fun j u hj=>by
     cases j with
     |zero=>simp at hj;subst hj;exact(hl2 0 v rfl).1
     |succ j=>simp at hj) hv
    rw[hag]at this;exact this
 ·rename_i g off hev;rw[hev]at e1;split at hr
  ·rename_i cs hcs;have hgl:=h.glob g cs hcs;have hgl':=RepCs.drop off hgl;obtain⟨l,hl1,hl2⟩:=RepCs.values hgl';simp only[Nat.zero_add]at hl2;cases hag:tyAgg ty with
   |true=>
    simp only[hag,if_true]at hr;cases hr;simp only at hob;have hra:=RepAs.take (ρ:=ρ) (tySize ty) (RepL.toAs (ρ:=ρ) hl1);have:=fin g off (l.take (tySize ty)) _ hra (by have:=RepL.length hl1;simp at this⊢;omega) (fun j v hj=>by
     rw[List.getElem?_take]at hj;split at hj
     ·exact(hl2 j v hj).1
     ·cases hj) e1
    rw[hag]at this;rw[←List.map_take]at this;exact this
   |false=>
    simp only[hag,Bool.false_eq_true,if_false]at hr;split at hr
    ·rename_i d ds' hdr;cases hr;rw[hdr]at hl1;obtain⟨v,r',h1,h2,h3⟩:=hl1;subst h1;have hsz:tySize ty=1:=by cases ty<;>simp_all[tyAgg,tySize]
     have:=fin g off [v] [.d d] ⟨v,[],rfl,h2,rfl⟩ (by simp[hsz]) (fun j u hj=>by
      cases j with
      |zero=>simp at hj;subst hj;exact(hl2 0 v rfl).1
      |succ j=>simp at hj) e1
     rw[hag]at this;exact this
    ·cases hr
  ·cases hr
 ·cases hr
theorem zYu{P}:∀{fs} {gs} {i:Nat} {g},fieldsOk P fs gs=true→gs[i]? =some g→
  ∃f ti,fs[i]? =some f∧f.offset=g.1∧P.info? f.type=some ti∧ti.size=g.2.1∧ti.size≠0∧notAgg P f.type=!g.2.2∧(P.underlying f.type).isSome=true
 |[],[],i,g,_,h=>by simp at h
 |f::fs,(off,sz,ag)::gs,i,g,hk,h=>by
  simp only[fieldsOk,Bool.and_eq_true,beq_iff_eq]at hk;obtain⟨⟨⟨⟨h1,h2⟩,h3⟩,h4⟩,h5⟩:=hk;cases i with
  |zero=>
   simp at h;subst h;cases hi:P.info? f.type with
   |none=>simp[hi]at h2
   |some ti=>simp only[hi,Bool.and_eq_true,beq_iff_eq,bne_iff_ne]at h2;exact⟨f,ti,rfl,h1,hi,h2.1,by rw[h2.1];exact h2.2,h3,h4⟩
  |succ i=>simpa using zYu h5 (by simpa using h)
 |[],_::_,_,_,h,_=>by simp[fieldsOk]at h
 |_::_,[],_,_,h,_=>by simp[fieldsOk]at h
theorem zJX{P t zs fs}(h:chkTy P t (.agg zs fs)=true):∃fields,P.underlying t=some (.struct fields)∧fieldsOk P fields.toList fs=true:=by
 simp only[chkTy,Bool.and_eq_true]at h;obtain⟨_,h⟩:=h;split at h
 ·rename_i fields i hu hi;simp only[Bool.and_eq_true]at h;exact⟨fields,hu,h.2⟩
 ·cases h
theorem ok_fa(h:Sim c st tmps w S ρ){o t zs fs}(ht:chkTy c.P t (.agg zs fs)=true){x x' i fd ds}
  (ho:o.op=.fieldAddr t x i) (hx:trX x=some x') (hfd:fs[i]? =some fd) (hg:gd st x'=true) {r} (hr:opv c.G st (.fa 0 fd.1 x')=some r) (hob:r.2.1):
  ∃cv,(execOp (Act.eval ⟨tmps,ds⟩) o).run c.P w=.ok (.value cv) w∧RepA w S ρ r.1 cv:=by
 have e1:=h.ev hx hg (ds:=ds);obtain⟨fields,hu,hfo⟩:=zJX ht;obtain⟨f,ti,hf,hoff,hti,_,hnz,_,_⟩:=zYu hfo hfd;have hf':fields[i]? =some f:=by simpa using hf
 have run:∀b off,(Act.eval ⟨tmps,ds⟩ x)=.pointer (some ⟨b,off,none⟩)→(execOp (Act.eval ⟨tmps,ds⟩) o).run c.P w=.ok (.value (.pointer (some ⟨b,off+fd.1,none⟩))) w:=by intro b off hv;unfold execOp;simp only[ho,hv];simp[Instr.fieldAt,run_underlying hu,hf',Instr.sureAddr,fieldPlace,run_sizeOf hti,hnz,addr_add,hoff]
 simp only[opv]at hr;split at hr
 ·rename_i s off hev;cases hr;rw[hev]at e1;obtain⟨b,hb,hv⟩:=e1;exact⟨_,run b off hv,b,hb,rfl⟩
 ·rename_i cs hev;cases hr;rw[hev]at e1;obtain⟨b,off,hv,hcs⟩:=e1;exact⟨_,run b off hv,b,_,rfl,RepCs.drop fd.1 hcs⟩
 ·rename_i g off hev;cases hr;rw[hev]at e1;exact⟨_,run g off e1,rfl⟩
 ·cases hr
theorem zjl{a v es}(h:RepA w S ρ a v)(he:a.elems=some es):Rep w S (.lst es) v:=by
 unfold AV.elems at he;split at he<;>cases he
 ·exact h
 ·exact h.1
 ·exact h.1
theorem zzL{P t esz eb zs}(h:chkTy P t (.slice esz eb zs)=true):∃e ie z,P.underlying t=some (.slice e)∧P.info? e=some ie∧ie.size=esz∧ie.bytes=eb∧esz≠0∧ie.zero=some z∧z.cells.size=esz:=by
 simp only[chkTy]at h;split at h
 ·rename_i e i hu hi;simp only[Bool.and_eq_true]at h;obtain⟨⟨h1,h2⟩,h3⟩:=h;cases hie:P.info? e with
  |none=>simp[hie]at h3
  |some ie=>
   simp only[hie,Bool.and_eq_true,beq_iff_eq,bne_iff_ne]at h3;obtain⟨⟨⟨g1,g2⟩,g3⟩,g4⟩:=h3;cases hz:ie.zero with
   |none=>simp[hz]at g4
   |some z=>simp only[hz,Bool.and_eq_true,beq_iff_eq]at g4;exact⟨e,ie,z,hu,hie,g1,g2,g3,hz,g4.1⟩
 ·cases h
theorem yzE{P t e esz eb zs ie z}(h:chkTy P t (.slice esz eb zs)=true)(hu:P.underlying t=some (.slice e))(hi:P.info? e=some ie)(hz:ie.zero=some z)(hne:zs≠[]):zOks zs z.cells.toList=true:=by
 simp only[chkTy,hu]at h;split at h
 ·rename_i e' i hu' hi';cases hu';simp only[Bool.and_eq_true,hi,hz,Bool.or_eq_true,List.isEmpty_iff]at h;exact h.2.2.2.resolve_left hne
 ·cases h
theorem xzk(h:Sim c st tmps w S ρ){o t esz eb zs}(ht:chkTy c.P t (.slice esz eb zs)=true){x y x' y' ds}
  (ho:o.op=.indexAddr t x y) (hx:trX x=some x') (hy:trX y=some y') (hg:gd st x'=true) (hg2:gd st y'=true) {es} {k} {n}
  (he:(ev st x').elems=some es) (hn:ev st y'=.d (.int k n)) (hob:(0≤n∧n<es.length)∧∀e∈es,e.length=esz):
  ∃cv,(execOp (Act.eval ⟨tmps,ds⟩) o).run c.P w=.ok (.value cv) w∧RepA w S ρ (.d (.ref (es.getD n.toNat []))) cv:=by
 have e1:=zjl (h.ev hx hg (ds:=ds)) he;have e2:=h.ev hy hg2 (ds:=ds);rw[hn]at e2;simp only[RepA,Rep]at e2;obtain⟨e,ie,z,hu,hie,h1,_,h3,_⟩:=zzL ht;obtain⟨base,cap,hv,hc1,hc2,hc3,hc4⟩:=e1;obtain⟨⟨hn0,hn1⟩,hall⟩:=hob;cases base with
 |none=>have:=hc3 rfl;omega
 |some a=>obtain⟨hsp,_,hes⟩:=hc4 a rfl;have hsp:=hsp (by omega);obtain⟨b,off,sp⟩:=a;simp only at hsp hes;subst hsp;refine⟨.pointer (some ⟨b,off+n.toNat*esz,none⟩),?_,⟨b,_,rfl,RepEs.get n.toNat hall hes (by omega)⟩⟩;unfold execOp;simp only[ho,hv,e2];simp[Instr.indexAt,asIntOf,run_underlying hu,run_sizeOf hie,h1,addr_add,hn0,hn1]
end Go.Abs
end
section
namespace Go.Abs
open Go.RowKit
variable{c:Ctx}{st:St}{tmps:Array Value}{w:World}{S:Safe}{ρ:Rho}
theorem zZX{a v}(h:RepA w S ρ a v)(hs:a.solid=true):RepAs w S ρ a.cells v.cells.toList:=by
 refine ywL h ?_ ?_
 ·rintro rfl;cases hs
 ·rintro g x rfl;cases hs
theorem zX3:∀(xs) (k off) (cells:Array Value),off+k+xs.length≤cells.size→
  ((xs.zipIdx k).foldl (fun(cs:Array Value) (p:Value×Nat)=>cs.setIfInBounds (off+p.2) p.1) cells).toList=cells.toList.take (off+k)++xs++cells.toList.drop (off+k+xs.length)
 |[],k,off,cells,_=>by simp
 |x::xs,k,off,cells,h=>by simp only[List.zipIdx_cons,List.foldl_cons];rw[zX3 xs (k+1) off _ (by simp at h⊢;omega)];simp only[Array.toList_setIfInBounds];have e:=list_seg_step cells.toList (off+k) x xs (by simp at h⊢;omega);simpa[Nat.add_assoc]using e
theorem yka(xs:Array Value)(off)(cells)(h:off+xs.size≤cells.size):
  (xs.zipIdx.foldl (fun(cs:Array Value) (p:Value×Nat)=>cs.setIfInBounds (off+p.2) p.1) cells).toList=cells.toList.take off++xs.toList++cells.toList.drop (off+xs.size):=by
 rw[←Array.foldl_toList,Array.toList_zipIdx];simpa using zX3 xs.toList 0 off cells (by simpa using h)
def PartsOk(w:World)(S:Safe)(ρ:Rho)(place:Nat→Option (Nat×Nat)):List (Nat×Nat×AV)→List (Nat×Value)→Prop
 |[],l=>l=[]
 |(off,size,a)::r,l=>∃i v r',l=(i,v)::r'∧place i=some (off,size)∧RepA w S ρ a v∧PartsOk w S ρ place r r'
theorem yxH{place}:∀{parts} {l} {cs out} {cells},PartsOk w S ρ place parts l→RepAs w S ρ cs cells.toList→fillA cs parts=some out→
  ∃cells',Instr.fill place cells l=some cells'∧RepAs w S ρ out cells'.toList
 |[],l,cs,out,cells,hp,hc,h=>by simp only[PartsOk]at hp;subst hp;simp only[fillA,Option.some.injEq]at h;subst h;exact⟨cells,rfl,hc⟩
 |(off,size,a)::r,l,cs,out,cells,hp,hc,h=>by
  obtain⟨i,v,r',rfl,hpl,hv,hr⟩:=hp;simp only[fillA]at h;split at h
  ·rename_i hcond;obtain⟨hsol,hlen,hfit⟩:=hcond;have hvc:=zZX hv hsol;have l1:=RepAs.length hvc;have l2:=RepAs.length hc;simp only[Array.length_toList]at l1 l2;have hsz:v.cells.size=size:=by rw[l1,hlen]
   have hf:=yka v.cells off cells (by rw[hsz,l2];exact hfit);obtain⟨cells',h1,h2⟩:=yxH (cells:=v.cells.zipIdx.foldl (fun(cs:Array Value) (p:Value×Nat)=>cs.setIfInBounds (off+p.2) p.1) cells) hr (by rw[hf,hsz];exact RepAs.append (RepAs.append (RepAs.take off hc) hvc) (RepAs.drop (off+size) hc)) h;refine⟨cells',?_,h2⟩;simp only[Instr.fill,hpl];rw[if_neg (by simp[hsz,l2];omega)];exact h1
  ·cases h
theorem zQ2{P}(w):∀(fs) (gs),fieldsOk P fs gs=true→
  (fs.mapM fun f=>do pure (f.offset,←sizeOf f.type):Sem (List (Nat×Nat))).run P w=.ok (gs.map fun g=>(g.1,g.2.1)) w
 |[],[],_=>by simp
 |f::fs,(off,sz,ag)::gs,h=>by
  have hh:=h;simp only[fieldsOk,Bool.and_eq_true,beq_iff_eq]at h;obtain⟨⟨⟨⟨h1,h2⟩,h3⟩,h4⟩,h5⟩:=h;cases hi:P.info? f.type with
  |none=>simp[hi]at h2
  |some ti=>simp only[hi,Bool.and_eq_true,beq_iff_eq]at h2;have ih:=zQ2 w fs gs h5;simp at ih;simp[List.mapM_cons,run_sizeOf hi,ih,h1,h2.1]
 |[],_::_,h=>by simp[fieldsOk]at h
 |_::_,[],h=>by simp[fieldsOk]at h
theorem trParts{fs:List (Nat×Nat×Bool)}(h:Sim c st tmps w S ρ){ds}:∀{ps:List (Nat×Operand)} {xs},
  (ps.mapM fun p=>do let f←fs[p.1]?;pure (f.1,f.2.1,←trX p.2))=some xs→gdParts st xs=true→
  PartsOk w S ρ (fun i=>(fs.map fun g=>(g.1,g.2.1))[i]?) (evParts st xs) (ps.map fun p=>(p.1,Act.eval ⟨tmps,ds⟩ p.2))
 |[],xs,hx,_=>by simp at hx;subst hx;rfl
 |(i,x)::ps,xs,hx,hg=>by simp only[List.mapM_cons,Option.bind_eq_bind,Option.bind_eq_some_iff,Option.pure_def,Option.some.injEq]at hx;obtain⟨a,⟨f,hf,x',hx',rfl⟩,as,has,rfl⟩:=hx;simp only[gdParts,Bool.and_eq_true]at hg;exact⟨i,_,_,rfl,by simp[hf],h.ev hx' hg.1,trParts h has hg.2⟩
theorem yVB(h:Sim c st tmps w S ρ){o t zs fs}(ht:chkTy c.P t (.agg zs fs)=true){parts xs ds}
  (ho:o.op=.build t parts) (hx:(parts.toList.mapM fun p=>do let f←fs[p.1]?;pure (f.1,f.2.1,←trX p.2))=some xs) (hg:gdParts st xs=true) {cs} (hr:fillA zs (evParts st xs)=some cs):
  ∃cv,(execOp (Act.eval ⟨tmps,ds⟩) o).run c.P w=.ok (.value cv) w∧RepA w S ρ (.agg cs) cv:=by
 obtain⟨fields,hu,hfo⟩:=zJX ht;obtain⟨i,z,hi,hz,hsz,_,_,hzs⟩:=zZZ ht;obtain⟨cells',h1,h2⟩:=yxH (trParts h (ds:=ds) hx hg) (zXM w S ρ hzs) hr;refine⟨.agg cells',?_,⟨_,rfl,h2⟩⟩;have hm:=zQ2 (P:=c.P) w fields.toList fs hfo;have hm':(fields.mapM fun f=>do pure (f.offset,←sizeOf f.type):Sem (Array (Nat×Nat))).run c.P w=.ok (fs.map fun g=>(g.1,g.2.1)).toArray w:=by rw[Array.mapM_eq_mapM_toList];simp at hm;simp[hm]
 unfold execOp;simp only[ho];simp only[Instr.build,Sem.run_bind,zKM hi hz,run_underlying hu,Result.andThen_ok,hm'];have hfill:Instr.fill (fun x=>(List.map (fun g=>(g.1,g.2.1)) fs).toArray[x]?) z.cells (parts.map fun x=>(x.1,Act.eval ⟨tmps,ds⟩ x.2)).toList=some cells':=by
  rw[←h1];congr 1
  ·funext x;simp
  ·exact Array.toList_map
 simp only[hfill];simp
theorem zwJ{w:World}{o b k v}(h:w.cell? ⟨b,k,none⟩=some v):(w.alloc o).cell? ⟨b,k,none⟩=some v:=by
 rw[World.cell?_alloc_lt w o (a:=⟨b,k,none⟩) (zyu h)];exact h
theorem Sim.newRow(h:Sim c st tmps w S ρ)(cells)(e):Sim c st tmps (w.alloc (.cells cells e)) (fun b o=>S b o∨(b=w.heap.size∧o<cells.size)) ρ:=by
 refine h.grow ((Below.refl _ _).alloc (Nat.le_refl _) _) (fun b o hs=>.inl hs) (fun b o hs=>?_) (fun b o hs=>?_)
 ·rcases hs with hs|⟨rfl,_⟩
  ·exact .inl hs
  ·exact .inr (Nat.le_refl _)
 ·rcases hs with hs|⟨rfl,ho⟩
  ·obtain⟨v,hv⟩:=h.live b o hs;exact⟨v,zwJ hv⟩
  ·exact⟨cells[o],by simp[ho]⟩
theorem Sim.newBox(h:Sim c st tmps w S ρ){s}(hs:getM st.mem s=none)(hN:s<c.N){cs cells}(hc:RepAs w S ρ cs cells.toList)(e):
  ∃ρ',ρ.le ρ'∧ρ'.box s=some w.heap.size∧Sim c {st with mem:=(s,cs)::st.mem} tmps (w.alloc (.cells cells e)) S ρ':=by
 have hg:=h.grow (w':=w.alloc (.cells cells e)) (S':=S) ((Below.refl _ _).alloc (Nat.le_refl _) _) (fun b o hs=>hs) (fun b o hs=>.inl hs) (fun b o hs=>by
  obtain⟨v,hv⟩:=h.live b o hs;exact⟨v,zwJ hv⟩)
 have hle:ρ.le {ρ with box:=fun k=>if k=s then some w.heap.size else ρ.box k}:=by
  refine⟨fun k b hk=>?_,fun _ _ h=>h,fun _ _ h=>h⟩
  by_cases hks:k=s
  ·subst hks;rw[h.boxNew k hs]at hk;cases hk
  ·simp[hks,hk]
 have hold:∀k b,ρ.box k=some b→b<w.heap.size:=by
  intro k b hk
  cases hm:getM st.mem k with
  |none=>rw[h.boxNew k hm]at hk;cases hk
  |some cs'=>
   obtain⟨b',vs,e',g1,_,g3,_⟩:=h.mem k cs' hm (h.noMp hk hm)
   obtain rfl:=Option.some.inj (hk.symm.trans g1)
   exact(Array.getElem?_eq_some_iff.1 g3).1
 have hk:Keeps (w.alloc (.cells cells e)) S (w.alloc (.cells cells e)) S:=Keeps.refl _ _
 have hnew:(w.alloc (.cells cells e)).heap[w.heap.size]? =some (.cells cells e (0,0)):=heap_alloc_new w _
 have hSn:∀o,¬S w.heap.size o:=fun o hso=>by
  obtain⟨v,hv⟩:=h.live _ o hso;have:=zyu hv;omega
 have hkw:Keeps w S (w.alloc (.cells cells e)) S:=fun b o hso=>by
  obtain⟨v,hv⟩:=h.live _ o hso;exact⟨hso,(zwJ hv).trans hv.symm⟩
 refine⟨{ρ with box:=fun k=>if k=s then some w.heap.size else ρ.box k},hle,by simp,?_⟩
 refine{size:=hg.size,slots:=fun k=>(hg.slots k).keep hk hle,mem:=?_,inj:=?_,boxNew:=?_,mps:=?_,tok:=?_,tokNew:=hg.tokNew,below:=hg.below,old:=hg.old,new:=hg.new,live:=hg.live,glob:=hg.glob,fx:=hg.fx,ex:=hg.ex,obs:=hg.obs,keeps:=hg.keeps,pins:=h.pins.sub (fun s' b e=>by
  simp only at e
  by_cases hs':s'=s
  ·exact .inl (hs'▸hN)
  ·rw[if_neg hs']at e;exact .inr e) fun _ _ e=>.inr e}
 ·intro k cs' hkm hnm
  simp only[getM]at hkm
  split at hkm
  ·rename_i hks
   subst hks
   cases hkm
   exact⟨w.heap.size,cells,e,by simp,.inl h.below.size,hnew,RepAs.keep hkw hle cs _ hc,hSn⟩
  ·obtain⟨b,vs,e',g1,g2,g3,g4,g6⟩:=hg.mem k cs' hkm hnm
   exact⟨b,vs,e',hle.1 _ _ g1,g2,g3,RepAs.keep hk hle cs' _ g4,g6⟩
 ·intro k k' b hk1 hk2
  simp only at hk1 hk2
  split at hk1<;>split at hk2
  ·simp_all
  ·have:=hold k' b hk2;cases hk1;omega
  ·have:=hold k b hk1;cases hk2;omega
  ·exact h.inj k k' b hk1 hk2
 ·intro k hkm
  simp only[getM]at hkm
  split at hkm
  ·cases hkm
  ·rename_i hks
   have:¬k=s:=fun e=>hks e.symm
   simp[this,h.boxNew k hkm]
 ·refine MpsOk.cons ?_ (RepAs.noMp hc)
  refine hg.mps.rho rfl fun k b hk=>?_
  simp only at hk
  split at hk
  ·rename_i e;subst e;exact h.mps.new k hs
  ·exact h.mps.apart k b hk
 ·intro t ht
  obtain⟨x,g1,g2⟩:=h.tok t ht
  refine⟨x,g1,?_⟩
  rcases g2 with g2|⟨b,g0,k1,⟨cur,e',k2,k2'⟩,k3,k4,k5,k6,k7⟩
  ·exact .inl g2
  ·have hlt:=(Array.getElem?_eq_some_iff.1 k2).1
   refine .inr ⟨b,g0,k1,⟨cur,e',by rw[Below.heap_alloc w _ b hlt];exact k2,k2'⟩,k3,k4,k5,fun k=>?_,k7⟩
   simp only
   split
   ·intro hb
    cases hb
    omega
   ·exact k6 k
end Go.Abs
end
section
namespace Go.Abs
open Go.RowKit
variable{c:Ctx}{st:St}{tmps:Array Value}{w:World}{S:Safe}{ρ:Rho}
theorem cell_setRow_other{w:World}{g b o cs}(h:b≠g):(w.setRow g cs).cell? ⟨b,o,none⟩=w.cell? ⟨b,o,none⟩:=
 World.cell?_of_block (w:=w) (setRow_other w g b cs h)
theorem zzm{w:World}{b o vs e fr}(h:w.heap[b]? =some (.cells vs e fr)):w.cell? ⟨b,o,none⟩=vs[o]? :=by
 simp[World.cell?,h]
theorem BelowO.setRow{c w g}(h:BelowC c w)(ho:c.Own g)(cs):BelowC c (w.setRow g cs):=
 ⟨h.os,h.tape,h.output,by have:=h.size;simpa[World.setRow]using this,fun k hk=>(setRow_other w g k cs (fun e=>hk (e▸ho))).trans (h.block k hk)⟩
theorem zK2:∀{as} {l},RepAs w S ρ as l→cells1 as=true→∀u∈l,u.oneCell'=true
 |[],_,h,_=>by simp[RepAs]at h;subst h;simp
 |a::as,_,⟨v,r,h,h1,h2⟩,hc=>by
  subst h;intro u hu;rcases List.mem_cons.1 hu with rfl|hu
  ·cases a<;>simp only[cells1,Bool.false_eq_true]at hc
   ·exact Rep.one h1
   ·obtain⟨b,_,rfl⟩:=h1;rfl
   ·obtain⟨_,b,n,rfl⟩:=h1;rfl
   ·obtain⟨_,_,b,n,cp,_,rfl⟩:=h1;rfl
   ·obtain⟨cs,rfl,_⟩:=h1;rfl
   ·obtain⟨b,_,rfl⟩:=h1;rfl
   ·obtain⟨_,_,b,_,rfl⟩:=h1;rfl
   ·obtain⟨_,base,n,cap,_,_,_,rfl⟩:=h1;rfl
  ·cases a<;>simp only[cells1,Bool.false_eq_true]at hc<;>exact zK2 h2 hc u hu
theorem yWc{w:World}{b vs e fr}{p:Nat×Obj}(hh:w.heap[b]? =some (.cells vs e fr))(h:w.heap[p.1]? =some p.2∧noData p.2=true):p.1≠b:=by intro e;obtain⟨h1,h2⟩:=h;rw[e,hh]at h1;rw[←Option.some.inj h1]at h2;cases h2
theorem Sim.setBox(h:Sim c st tmps w S ρ){s b e vs cells}(hb:ρ.box s=some b)(hB:c.Own b)(hh:w.heap[b]? =some (.cells vs e (0,0)))(hS:∀o,¬S b o)
  {cs} (hc:RepAs w S ρ cs cells.toList) (hm:(getM st.mem s).isSome=true):
  Sim c {st with mem:=(s,cs)::st.mem} tmps (w.setRow b cells) S ρ:=by
 have hk:Keeps w S (w.setRow b cells) S:=fun b' o hs=>⟨hs,cell_setRow_other (fun e=>hS o (e▸hs))⟩
 refine{size:=h.size,slots:=fun k=>(h.slots k).keep hk ρ.le_refl,mem:=?_,inj:=h.inj,boxNew:=?_,mps:=(h.mps.to hk (.setRow hh)).cons (RepAs.noMp hc),tok:=?_,tokNew:=h.tokNew,
        below:=h.below.setRow hB _,old:=h.old,new:=h.new,live:=fun b' o hs=>?_,glob:=fun g cs hg=>RepCs.keep hk g 0 cs (h.glob g cs hg),fx:=h.fx,ex:=h.ex,obs:=fun p hp=>⟨by rw[setRow_other w b p.1 cells (yWc hh (h.obs p hp))];exact(h.obs p hp).1,(h.obs p hp).2⟩,keeps:=fun p hp=>(h.keeps p hp).trans hk,pins:=h.pins}
 ·intro k cs' hkm hnm
  simp only[getM]at hkm
  split at hkm
  ·rename_i hks
   subst hks
   cases hkm
   exact⟨b,cells,e,hb,hB,setRow_heap w b vs cells e _ hh,RepAs.keep hk ρ.le_refl cs _ hc,hS⟩
  ·rename_i hks
   obtain⟨b',vs',e',g1,g2,g3,g4,g6⟩:=h.mem k cs' hkm hnm
   have hne:b'≠b:=fun hbb=>hks (h.inj s k b hb (hbb▸g1))
   exact⟨b',vs',e',g1,g2,by rw[setRow_other w b b' cells hne];exact g3,RepAs.keep hk ρ.le_refl cs' _ g4,g6⟩
 ·intro k hkm
  simp only[getM]at hkm
  split at hkm
  ·cases hkm
  ·exact h.boxNew k hkm
 ·intro t ht
  obtain⟨x,g1,g2⟩:=h.tok t ht
  refine⟨x,g1,?_⟩
  rcases g2 with g2|⟨b',g0,k1,⟨cur,e',k2,k2'⟩,k3,k4,k5,k6,k7⟩
  ·exact .inl g2
  ·have hne:b'≠b:=fun hbb=>k6 s (hbb▸hb)
   exact .inr ⟨b',g0,k1,⟨cur,e',by rw[setRow_other w b b' cells hne];exact k2,k2'⟩,k3,k4,k5,k6,k7⟩
 ·obtain⟨v,hv⟩:=h.live b' o hs
  exact⟨v,((hk b' o hs).2).trans hv⟩
theorem ok_st(h:Sim c st tmps w S ρ){o t ty}(ht:chkTy c.P t ty=true){x y x' y' ds}(ho:o.op=.store t x y)(hx:trX x=some x')(hy:trX y=some y')
  {s off} {cs} (hp:ev st x'=.ptr s off) (hm:getM st.mem s=some cs) (hg:gd st x'=true) (hg2:gd st y'=true) (hsol:(ev st y').solid=true) (h1:cells1 (ev st y').cells=true)
  (hn:(ev st y').cells.length=tySize ty) (hfit:off+tySize ty≤cs.length):
  ∃w',(execOp (Act.eval ⟨tmps,ds⟩) o).run c.P w=.ok .skip w'∧Sim c {st with mem:=(s,cs.take off++(ev st y').cells++cs.drop (off+tySize ty))::st.mem} tmps w' S ρ:=by
 have e1:=h.ev hx hg (ds:=ds);rw[hp]at e1;obtain⟨b,hb,hv⟩:=e1;have e2:=zZX (h.ev hy hg2 (ds:=ds)) hsol;have h1':=zK2 e2 h1;obtain⟨b',vs,e,g1,g2,g3,g4,g6⟩:=h.mem s cs hm (h.noMp hb hm);obtain rfl:=Option.some.inj (hb.symm.trans g1);obtain⟨i,z,hi,_,hsz,_,_,_⟩:=zZZ ht;have l2:=RepAs.length e2;have l4:=RepAs.length g4;simp only[Array.length_toList]at l2 l4;have hst:=run_storeCells_at c.P b off e (Act.eval ⟨tmps,ds⟩ y).cells.toList 0 vs w g3 (by simp;omega) h1';simp only[Nat.add_zero,Array.length_toList]at hst;refine⟨_,?_,h.setBox hb g2 g3 g6 (cells:=(vs.toList.take off++(Act.eval ⟨tmps,ds⟩ y).cells.toList++vs.toList.drop (off+(Act.eval ⟨tmps,ds⟩ y).cells.size)).toArray) ?_ (by simp[hm])⟩
 ·unfold execOp;simp only[ho,hv];simp only[Instr.storeAt,Instr.sureAddr,storeVar,Sem.run_bind,Sem.run_pure,Result.andThen_ok,run_sizeOf hi,hsz];rw[if_neg (by rw[l2,hn];simp)];simp only[hst,Sem.run_pure,Sem.run_bind,Result.andThen_ok]
 ·simp only[List.toList_toArray];rw[show(Act.eval ⟨tmps,ds⟩ y).cells.size=tySize ty by rw[l2,hn]];exact RepAs.append (RepAs.append (RepAs.take off g4) e2) (RepAs.drop _ g4)
end Go.Abs
end
section
namespace Go.Abs
open Go.RowKit
variable{c:Ctx}{st:St}{tmps:Array Value}{w:World}{S:Safe}{ρ:Rho}
theorem zk8{es base n cap}(h:Rep w S (.lst es) (.slice base n cap)):
  n=es.length∧n≤cap∧cap≤9223372036854775807∧(base=none→cap=0)∧
  ∃l,RepL w S es.flatten l∧∀a,base=some a→(cap≠0→a.spot=none)∧(∀j v,l[j]? =some v→w.cell? (a.add j)=some v∧S a.block (a.off+j)):=by
 obtain⟨base',cap',h1,h2,h3,h4,h5⟩:=h;cases h1;refine⟨rfl,h2,h3,h4,?_⟩;cases base with
 |none=>have:es=[]:=List.eq_nil_of_length_eq_zero (by have:=h4 rfl;omega);subst this;exact⟨[],rfl,fun a ha=>by cases ha⟩
 |some a=>
  obtain⟨g1,g2,g3⟩:=h5 a rfl;obtain⟨l,k1,k2⟩:=RepCs.values (RepEs.flat.1 g3);refine⟨l,k1,fun a' ha'=>?_⟩;cases ha';by_cases hc0:cap=0
  ·have:es=[]:=List.eq_nil_of_length_eq_zero (by omega);subst this;simp only[List.flatten_nil,RepL]at k1;subst k1;exact⟨fun h=>absurd hc0 h,fun j v hj=>by simp at hj⟩
  obtain⟨b,off,sp⟩:=a;have g1:=g1 hc0;simp only at g1;subst g1;exact⟨fun _=>rfl,fun j v hj=>by rw[addr_add];exact k2 j v hj⟩
theorem zjQ{P}(w)(t ty e)(i)(ht:P.underlying t=some (.slice e))(hi:P.info? e=some i)(base)(n cap)(hn:n≤cap)(base2)(cap2):
  (Builtin.append_ #[t,t] ty #[.slice base n cap,.slice base2 0 cap2]).run P w=.ok (.slice base n cap) w:=by
 cases base2<;>cases base<;>simp[Builtin.append_,run_underlying ht,sizeOf,typeInfo,hi,Builtin.lenOf,Builtin.firstCells,loadCells,loadCellsFrom,hn,storeCells]
theorem run_append_room'{P}(w)(t ty e e')(i)(ht:P.underlying t=some (.slice e))(hi:P.info? e=some i)
  (g sLen sCap) (cur) (hg:w.heap[g]? =some (.cells cur e' (0,0)))
  (a) (m c) (news) (hl:news.length=m*i.size) (hnews:∀j u,news[j]? =some u→w.cell? (a.add j)=some u) (h1:∀u∈news,u.oneCell'=true)
  (hroom:sLen+m≤sCap) (hfit:sLen*i.size+news.length≤cur.size):
  (Builtin.append_ #[t,t] ty #[.slice (some ⟨g,0,none⟩) sLen sCap,.slice (some a) m c]).run P w=
   .ok (.slice (some ⟨g,0,none⟩) (sLen+m) sCap) (w.setRow g (cur.toList.take (sLen*i.size)++news++cur.toList.drop (sLen*i.size+news.length)).toArray):=by
 have hf:=run_firstCells_some (P:=P) w i.size m a m c news hl hnews;have hst:=run_storeCells_at P g (sLen*i.size) e' news 0 cur w hg (by simpa using hfit) h1;simp only[Nat.add_zero]at hst;simp[Builtin.append_,run_underlying ht,sizeOf,typeInfo,hi,Builtin.lenOf,hroom,hf,Addr.add_lit,hst]
theorem zKm(u t):∀tk,getT (tkKill u tk) t=if t=u then(getT tk t).map (fun _=>false)else getT tk t
 |[]=>by simp[tkKill,getT]
 |(k,b)::l=>by
  have ih:=zKm u t l;by_cases hk:k=u
  ·subst hk;by_cases ht:k=t
   ·subst ht;simp[tkKill,getT]
   ·have:¬t=k:=fun e=>ht e.symm;simp only[tkKill,if_true,getT,if_neg ht,if_neg this]at ih⊢;exact ih
  ·by_cases ht:k=t
   ·subst ht;simp[tkKill,getT,hk]
   ·simp only[tkKill,if_neg hk,getT,if_neg ht];exact ih
theorem Sim.newTok(h:Sim c st tmps w S ρ){d}(hd:getT st.tk d=none)(u){tk'}(htk:∀t,getT tk' t=if t=d then some true else if some t=u then(getT st.tk t).map (fun _=>false)else getT st.tk t)
  (x) (hx:x.2.1=x.2.2.1∨∃b,x.1=some ⟨b,0,none⟩∧c.Own b∧(∃cur e,w.heap[b]? =some (.cells cur e (0,0))∧cur.size=x.2.2.1*x.2.2.2)∧x.2.1≤x.2.2.1∧x.2.2.1≤9223372036854775807∧
   (∀o,x.2.1*x.2.2.2≤o→¬S b o)∧(∀s,ρ.box s≠some b)∧∀t' b' y,some t'≠u→getT st.tk t'=some true→ρ.tok t'=some (some ⟨b',0,none⟩,y)→y.1≠y.2.1→b'≠b):
  ∃ρ',ρ.le ρ'∧ρ'.tok d=some x∧Sim c {st with tk:=tk'} tmps w S ρ':=by
 have hle:ρ.le {ρ with tok:=fun k=>if k=d then some x else ρ.tok k}:=by
  refine⟨fun _ _ h=>h,fun t y hy=>?_,fun _ _ h=>h⟩;by_cases ht:t=d
  ·subst ht;rw[h.tokNew t hd]at hy;cases hy
  ·simp[ht,hy]
 have hk:=Keeps.refl w S;refine⟨_,hle,by simp,?_⟩;refine{size:=h.size,slots:=fun k=>(h.slots k).keep hk hle,mem:=?_,inj:=h.inj,boxNew:=h.boxNew,mps:=h.mps.rho rfl h.mps.apart,tok:=?_,tokNew:=?_,below:=h.below,old:=h.old,new:=h.new,live:=h.live,glob:=h.glob,fx:=h.fx,ex:=h.ex,obs:=h.obs,keeps:=h.keeps,pins:=h.pins}
 ·intro s cs hs hnm;obtain⟨b,vs,e,g1,g2,g3,g4,g6⟩:=h.mem s cs hs hnm;exact⟨b,vs,e,g1,g2,g3,RepAs.keep hk hle cs _ g4,g6⟩
 ·intro t ht;simp only at ht;rw[htk t]at ht;by_cases htd:t=d
  ·subst htd;refine⟨x,by simp,?_⟩;rcases hx with hx|⟨b,g0,g1,g2,g3,g4,g5,g6,g7⟩
   ·exact .inl hx
   ·refine .inr ⟨b,g0,g1,g2,g3,g4,g5,g6,fun t' b' y hne ht' htok hy=>?_⟩;simp only at ht' htok;rw[htk t',if_neg hne]at ht';rw[if_neg hne]at htok;by_cases hu:some t'=u
    ·rw[if_pos hu]at ht';cases hgt:getT st.tk t'<;>simp[hgt]at ht'
    ·rw[if_neg hu]at ht';exact g7 t' b' y hu ht' htok hy
  ·rw[if_neg htd]at ht;by_cases hu:some t=u
   ·rw[if_pos hu]at ht;cases hgt:getT st.tk t<;>simp[hgt]at ht
   ·rw[if_neg hu]at ht;obtain⟨y,g1,g2⟩:=h.tok t ht;refine⟨y,by simp[htd,g1],?_⟩;by_cases hfull:y.2.1=y.2.2.1
    ·exact .inl hfull
    rcases g2 with g2|⟨b,k0,k1,k2,k3,k4,k5,k6,k7⟩
    ·exact .inl g2
    ·refine .inr ⟨b,k0,k1,k2,k3,k4,k5,k6,fun t' b' z hne ht' htok hz=>?_⟩;simp only at ht' htok;rw[htk t']at ht';by_cases htd':t'=d
     ·subst htd';rw[if_pos rfl]at htok;cases htok;rcases hx with hx|⟨b2,m0,m1,m2,m3,m4,m5,m6,m7⟩
      ·exact absurd hx hz
      ·cases m0;intro hbb;subst hbb;exact m7 t b' y.2 hu ht (by rw[g1];rw[←k0]) hfull rfl
     ·rw[if_neg htd']at ht' htok;by_cases hu':some t'=u
      ·rw[if_pos hu']at ht';cases hgt:getT st.tk t'<;>simp[hgt]at ht'
      ·rw[if_neg hu']at ht';exact k7 t' b' z hne ht' htok hz
 ·intro t ht;simp only at ht;rw[htk t]at ht;by_cases htd:t=d
  ·rw[if_pos htd]at ht;cases ht
  ·simp only[if_neg htd]at ht⊢;by_cases hu:some t=u
   ·rw[if_pos hu]at ht;cases hgt:getT st.tk t<;>simp[hgt]at ht;exact h.tokNew t hgt
   ·rw[if_neg hu]at ht;exact h.tokNew t ht
end Go.Abs
end
section
namespace Go.Abs
open Go.RowKit
variable{c:Ctx}{st:St}{tmps:Array Value}{w:World}{S:Safe}{ρ:Rho}
theorem zxe{u t tk}(h:getT (tkKill u tk) t=some true):getT tk t=some true∧t≠u:=by
 rw[zKm]at h;by_cases ht:t=u
 ·rw[if_pos ht]at h;cases hg:getT tk t<;>simp[hg]at h
 ·rw[if_neg ht]at h;exact⟨h,ht⟩
theorem zvm{u t tk}:getT (tkKill u tk) t=none↔getT tk t=none:=by
 rw[zKm];by_cases ht:t=u
 ·rw[if_pos ht];cases hg:getT tk t<;>simp
 ·rw[if_neg ht]
theorem Sim.kill(h:Sim c st tmps w S ρ)(u):Sim c {st with tk:=tkKill u st.tk} tmps w S ρ:=by
 refine{h with tok:=fun t ht=>?_,tokNew:=fun t ht=>h.tokNew t (zvm.1 ht)};obtain⟨x,g1,g2⟩:=h.tok t (zxe ht).1;refine⟨x,g1,?_⟩;rcases g2 with g2|⟨b,k0,k1,k2,k3,k4,k5,k6,k7⟩
 ·exact .inl g2
 ·exact .inr ⟨b,k0,k1,k2,k3,k4,k5,k6,fun t' b' z hne ht' htok hz=>k7 t' b' z hne (zxe ht').1 htok hz⟩
theorem Sim.writeFree(h:Sim c st tmps w S ρ){b e cur new n n'}(hB:c.Own b)(hh:w.heap[b]? =some (.cells cur e (0,0)))(hsz:new.size=cur.size)(hS:∀o,n≤o→¬S b o)
  (hsame:∀o,o<n→new[o]? =cur[o]?) (hn':n'≤new.size) (hbox:∀s,ρ.box s≠some b) (htok:∀t' b' y,getT st.tk t'=some true→ρ.tok t'=some (some ⟨b',0,none⟩,y)→y.1≠y.2.1→b'≠b):
  Sim c st tmps (w.setRow b new) (fun b' o=>S b' o∨(b'=b∧o<n')) ρ:=by
 have hk:Keeps w S (w.setRow b new) (fun b' o=>S b' o∨(b'=b∧o<n')):=fun b' o hs=>by
  refine⟨.inl hs,?_⟩;by_cases hb:b'=b
  ·subst hb;have ho:o<n:=by
    rcases Nat.lt_or_ge o n with h1|h1
    ·exact h1
    ·exact absurd hs (hS o h1)
   rw[zzm (setRow_heap w b' cur new e _ hh),zzm hh,hsame o ho]
  ·exact cell_setRow_other hb
 refine{size:=h.size,slots:=fun k=>(h.slots k).keep hk ρ.le_refl,mem:=?_,inj:=h.inj,boxNew:=h.boxNew,mps:=h.mps.to hk (.setRow hh),tok:=?_,tokNew:=h.tokNew,
        below:=h.below.setRow hB _,old:=fun b' o hs=>.inl (h.old b' o hs),new:=?_,live:=?_,glob:=fun g cs hg=>RepCs.keep hk g 0 cs (h.glob g cs hg),fx:=h.fx,ex:=h.ex,obs:=fun p hp=>⟨by rw[setRow_other w b p.1 new (yWc hh (h.obs p hp))];exact(h.obs p hp).1,(h.obs p hp).2⟩,keeps:=fun p hp=>(h.keeps p hp).trans hk,pins:=h.pins}
 ·intro s cs hs hnm;obtain⟨b',vs,e',g1,g2,g3,g4,g6⟩:=h.mem s cs hs hnm;have hne:b'≠b:=fun hbb=>hbox s (hbb▸g1);exact⟨b',vs,e',g1,g2,by rw[setRow_other w b b' new hne];exact g3,RepAs.keep hk ρ.le_refl cs _ g4,fun o ho=>by
   rcases ho with ho|⟨hb,_⟩
   ·exact g6 o ho
   ·exact hne hb⟩
 ·intro t ht;obtain⟨x,g1,g2⟩:=h.tok t ht;refine⟨x,g1,?_⟩;by_cases hfull:x.2.1=x.2.2.1
  ·exact .inl hfull
  rcases g2 with g2|⟨b',k0,k1,⟨cur',e',k2,k2'⟩,k3,k4,k5,k6,k7⟩
  ·exact .inl g2
  ·have hne:b'≠b:=htok t b' x.2 ht (by rw[g1,←k0]) hfull;refine .inr ⟨b',k0,k1,⟨cur',e',by rw[setRow_other w b b' new hne];exact k2,k2'⟩,k3,k4,fun o ho hs=>?_,k6,k7⟩;rcases hs with hs|⟨hb,_⟩
   ·exact k5 o ho hs
   ·exact hne hb
 ·intro b' o hs;rcases hs with hs|⟨rfl,_⟩
  ·exact h.new b' o hs
  ·exact .inr hB
 ·intro b' o hs;rcases hs with hs|⟨rfl,ho⟩
  ·obtain⟨v,hv⟩:=h.live b' o hs;exact⟨v,((hk b' o hs).2).trans hv⟩
  ·rw[zzm (setRow_heap w b' cur new e _ hh)];exact⟨new[o]'(by omega),by simp⟩
theorem zvg{es sz b cap l}(hlen:∀e∈es,e.length=sz)(hl:RepL w S es.flatten l)(hc:∀j v,l[j]? =some v→w.cell? ⟨b,j,none⟩=some v∧S b j)(h1:es.length≤cap)(h2:cap≤9223372036854775807):
  Rep w S (.lst es) (.slice (some ⟨b,0,none⟩) es.length cap):=by
 refine⟨_,cap,rfl,h1,h2,(fun h=>by cases h),fun a ha=>?_⟩;cases ha;exact⟨fun _=>rfl,⟨sz,hlen⟩,RepEs.flat.2 (RepCs.zkN hl fun j v hj=>by rw[Nat.zero_add];exact hc j v hj)⟩
def RdsL(w:World)(S:Safe)(ys:List (List D))(base2:Option Addr)(m cap2:Nat):Prop:=
 m=ys.length∧m≤cap2∧cap2≤9223372036854775807∧(base2=none→cap2=0)∧∃l,RepL w S ys.flatten l∧∀a,base2=some a→(cap2≠0→a.spot=none)∧(∀j v,l[j]? =some v→w.cell? (a.add j)=some v∧True)
theorem RdsL.of{ys base2 m cap2}(h:Rep w S (.lst ys) (.slice base2 m cap2)):RdsL w S ys base2 m cap2:=by obtain⟨h1,h2,h3,h4,l,h5,h6⟩:=zk8 h;exact⟨h1,h2,h3,h4,l,h5,fun a ha=>⟨(h6 a ha).1,fun j v hj=>⟨((h6 a ha).2 j v hj).1,trivial⟩⟩⟩
theorem yKv(h:Sim c st tmps w S ρ){t ty esz eb zs}(ht:chkTy c.P t (.slice esz eb zs)=true){d}(hd:getT st.tk d=none){es ys base base2 n cap m cap2}
  (hv:Rep w S (.lst es) (.slice base n cap)) (hy:RdsL w S ys base2 m cap2) (hes:∀e∈es,e.length=esz) (hys:∀e∈ys,e.length=esz) (hbytes:(es.length+ys.length)*eb≤2^46) (h63:es.length+ys.length≤9223372036854775807)
  (hsp:n=cap∨∃b,base=some ⟨b,0,none⟩∧c.Own b∧(∃cur e,w.heap[b]? =some (.cells cur e (0,0))∧cur.size=cap*esz)∧
   (∀o,n*esz≤o→¬S b o)∧(∀s,ρ.box s≠some b)∧∀t' b' y,getT st.tk t'=some true→ρ.tok t'=some (some ⟨b',0,none⟩,y)→y.1≠y.2.1→b'≠b):
  ∃v' w' S' ρ',(Builtin.append_ #[t,t] ty #[.slice base n cap,.slice base2 m cap2]).run c.P w=.ok v' w'∧Sim c {st with tk:=(d,true)::st.tk} tmps w' S' ρ'∧RepA w' S' ρ' (.own d esz (es++ys)) v':=by
 obtain⟨e,ie,z,hu,hie,q1,q2,q3,q4,q5⟩:=zzL ht;obtain⟨rfl,hn,hcap,hnil,l1,hl1,hl1c⟩:=zk8 hv;obtain⟨rfl,hm,hcap2,hnil2,l2,hl2,hl2c⟩:=hy;have htk:∀t',getT ((d,true)::st.tk) t'=if t'=d then some true else if some t'=(none:Option Nat)then(getT st.tk t').map (fun _=>false)else getT st.tk t':=by
  intro t';simp only[getT];by_cases hh:d=t'
  ·subst hh;simp
  ·have:¬t'=d:=fun e=>hh e.symm;simp[hh,this]
 have hall:∀e∈es++ys,e.length=esz:=fun e he=>(List.mem_append.1 he).elim (hes e) (hys e);have len1:l1.length=es.length*esz:=(RepL.length hl1).trans (zxb hes);have len2:l2.length=ys.length*esz:=(RepL.length hl2).trans (zxb hys);by_cases hm0:ys.length=0
 ·
  have:ys=[]:=List.eq_nil_of_length_eq_zero hm0;subst this;obtain⟨ρ',hle,hρ,hs⟩:=h.newTok hd none htk (base,es.length,cap,esz) (by
   rcases hsp with hsp|⟨b,k0,k1,k2,k3,k4,k5⟩
   ·exact .inl hsp
   ·exact .inr ⟨b,k0,k1,k2,hn,hcap,k3,k4,fun t' b' y _ a1 a2 a3=>k5 t' b' y a1 a2 a3⟩)
  refine⟨.slice base es.length cap,w,S,ρ',zjQ w t ty e ie hu hie base es.length cap hn base2 cap2,hs,?_⟩;simp only[List.append_nil];exact⟨hv,hes,base,es.length,cap,hρ,rfl⟩
 ·cases base2 with
  |none=>have:=hnil2 rfl;omega
  |some a2=>
   obtain⟨sp2,hc2⟩:=hl2c a2 rfl;by_cases hroom:es.length+ys.length≤cap
   ·
    rcases hsp with hsp|⟨b,k0,k1,⟨cur,e',k2,k2'⟩,k3,k4,k5⟩
    ·omega
    ·subst k0;obtain⟨_,hc1⟩:=hl1c _ rfl;have hfit:es.length*ie.size+l2.length≤cur.size:=by rw[len2,k2',q1,←Nat.add_mul];exact Nat.mul_le_mul_right _ hroom
     have hr:=run_append_room' (P:=c.P) w t ty e e' ie hu hie b es.length cap cur k2 a2 ys.length cap2 l2 (by rw[len2,q1]) (fun j v hj=>(hc2 j v hj).1) (RepL.ones hl2) hroom hfit;rw[q1]at hr hfit;have hnewsz:(cur.toList.take (es.length*esz)++l2++cur.toList.drop (es.length*esz+l2.length)).toArray.size=cur.size:=by simp;omega
     have hcut:∀o,o<es.length*esz→(cur.toList.take (es.length*esz)++l2++cur.toList.drop (es.length*esz+l2.length)).toArray[o]? =cur[o]? :=by
      intro o ho;have:o<(cur.toList.take (es.length*esz)).length:=by simp;omega
      simp[List.getElem?_append_left this,List.getElem?_take,ho]
     have hs:=h.writeFree (n':=(es.length+ys.length)*esz) k1 k2 hnewsz k3 hcut (by rw[hnewsz,k2'];exact Nat.mul_le_mul_right _ hroom) k4 k5;have hnew:=setRow_heap w b cur (cur.toList.take (es.length*esz)++l2++cur.toList.drop (es.length*esz+l2.length)).toArray e' _ k2;obtain⟨ρ',hle,hρ,hs'⟩:=hs.newTok hd none htk (some ⟨b,0,none⟩,es.length+ys.length,cap,esz) (by
      refine .inr ⟨b,rfl,k1,⟨_,e',hnew,hnewsz.trans k2'⟩,hroom,hcap,fun o ho hso=>?_,k4,fun t' b' y _ a1 a2 a3=>k5 t' b' y a1 a2 a3⟩;simp only at ho;rcases hso with hso|⟨_,hso⟩
      ·exact k3 o (Nat.le_trans (Nat.mul_le_mul_right _ (Nat.le_add_right _ _)) ho) hso
      ·omega)
     refine⟨_,_,_,ρ',hr,hs',?_,hall,_,_,_,hρ,rfl⟩;have hlA:RepL (w.setRow b (cur.toList.take (es.length*esz)++l2++cur.toList.drop (es.length*esz+l2.length)).toArray) (fun b' o=>S b' o∨(b'=b∧o<(es.length+ys.length)*esz)) (es++ys).flatten (l1++l2):=by
      rw[List.flatten_append];have hk:Keeps w S (w.setRow b (cur.toList.take (es.length*esz)++l2++cur.toList.drop (es.length*esz+l2.length)).toArray) (fun b' o=>S b' o∨(b'=b∧o<(es.length+ys.length)*esz)):=by
       intro b' o hso;refine⟨.inl hso,?_⟩;by_cases hbb:b'=b
       ·subst hbb;have ho:o<es.length*esz:=by
         rcases Nat.lt_or_ge o (es.length*esz)with h1|h1
         ·exact h1
         ·exact absurd hso (k3 o h1)
        rw[zzm hnew,zzm k2,hcut o ho]
       ·exact cell_setRow_other hbb
      exact RepL.append (RepL.keep hk _ _ hl1) (RepL.keep hk _ _ hl2)
     have:=zvg (cap:=cap) hall hlA (b:=b) (fun j v hj=>?_) (by simpa using hroom) hcap
     ·simpa using this
     ·rw[zzm hnew];rcases Nat.lt_or_ge j l1.length with hj1|hj1
      ·rw[List.getElem?_append_left hj1]at hj;have hcj:=(hc1 j v hj).1;rw[addr_add,Nat.zero_add,zzm k2]at hcj;refine⟨by rw[hcut j (by omega)];exact hcj,.inr ⟨rfl,?_⟩⟩;rw[Nat.add_mul];omega
      ·have hj2:=hj;rw[List.getElem?_append_right hj1]at hj;have hlt:j-l1.length<l2.length:=(List.getElem?_eq_some_iff.1 hj).1;refine⟨?_,.inr ⟨rfl,by rw[Nat.add_mul];omega⟩⟩;have t1:(cur.toList.take (es.length*esz)).length=es.length*esz:=by simp;omega
       simp only[List.getElem?_toArray,List.append_assoc];rw[List.getElem?_append_right (by rw[t1];omega),List.getElem?_append_left (by rw[t1];omega),t1,←len1];exact hj
   ·
    have hgrow:∃v',(Builtin.append_ #[t,t] ty #[.slice base es.length cap,.slice (some a2) ys.length cap2]).run c.P w=
      .ok (.slice (some ⟨w.heap.size,0,none⟩) (es.length+ys.length) v') (w.drew.alloc (.cells (l1.toArray++l2.toArray++Builtin.zeroCells z.cells (v'-(es.length+ys.length))) e))∧es.length+ys.length≤v'∧v'≤9223372036854775807:=by
     have hb48:(es.length+ys.length)*ie.bytes≤140737488355328:=by rw[q2];omega
     have hz':=grownCap_le_maxLen w (es.length+ys.length) cap e (by unfold maxLen;omega);unfold maxLen at hz';cases base with
     |none=>
      have hc0:=hnil rfl;have h0:es.length=0:=by omega
      have hl0:l1=[]:=List.eq_nil_of_length_eq_zero (by rw[len1,h0];simp);subst hl0;subst hc0;have hr:=run_append_nil (P:=c.P) w t ty e ie z hu hie q4 a2 ys.length cap2 l2 (by rw[len2,q1]) (fun j v hj=>(hc2 j v hj).1) (by omega) (by omega) (by have:=hb48;rw[h0,Nat.zero_add]at this;omega);simp only[h0,Nat.zero_add]at hz'⊢;refine⟨_,by simpa using hr,grownCap_ge _ _ _ _,hz'⟩
     |some a1=>obtain⟨sp1,hc1⟩:=hl1c a1 rfl;have hr:=run_append_grow (P:=c.P) w t ty e ie z hu hie q4 a1 es.length cap l1 (by rw[len1,q1]) (fun j v hj=>(hc1 j v hj).1) a2 ys.length cap2 l2 (by rw[len2,q1]) (fun j v hj=>(hc2 j v hj).1) (by omega) (by omega) (growslice_fits (by omega) hb48);exact⟨_,hr,grownCap_ge _ _ _ _,hz'⟩
    obtain⟨cap',hr,hge,hle63⟩:=hgrow;generalize hO:(Obj.cells (l1.toArray++l2.toArray++Builtin.zeroCells z.cells (cap'-(es.length+ys.length))) e)=O at hr;have hsize:(l1.toArray++l2.toArray++Builtin.zeroCells z.cells (cap'-(es.length+ys.length))).size=cap'*esz:=by simp only[Array.size_append,List.size_toArray,size_zeroCells,q5,len1,len2,←Nat.add_mul];congr 1;omega
    have hnew:(w.drew.alloc O).heap[w.heap.size]? =some (.cells (l1.toArray++l2.toArray++Builtin.zeroCells z.cells (cap'-(es.length+ys.length))) e (0,0)):=by rw[←hO];exact heap_alloc_new w.drew _
    have hbel:Below w.heap.size w (w.drew.alloc O):=((Below.refl _ _).drew).alloc (by simp) _;have hs:=h.grow (w':=w.drew.alloc O) (S':=fun b o=>S b o∨(b=w.heap.size∧o<(es.length+ys.length)*esz)) hbel (fun b o hs=>.inl hs) (fun b o hs=>by
      rcases hs with hs|⟨rfl,_⟩
      ·exact .inl hs
      ·exact .inr (Nat.le_refl _)) (fun b o hs=>by
      rcases hs with hs|⟨rfl,ho⟩
      ·obtain⟨v,hv⟩:=h.live b o hs;exact⟨v,(hbel.cell (p:=⟨b,o,none⟩) (zyu hv)).trans hv⟩
      ·rw[zzm hnew];have:o<(l1.toArray++l2.toArray++Builtin.zeroCells z.cells (cap'-(es.length+ys.length))).size:=by rw[hsize];exact Nat.lt_of_lt_of_le ho (Nat.mul_le_mul_right _ hge)
       exact⟨_,Array.getElem?_eq_getElem this⟩)
    have hSn:∀o,¬S w.heap.size o:=fun o hso=>by obtain⟨v,hv⟩:=h.live _ o hso;have:=zyu hv;omega
    obtain⟨ρ',hle,hρ,hs'⟩:=hs.newTok hd none htk (some ⟨w.heap.size,0,none⟩,es.length+ys.length,cap',esz) (by
     refine .inr ⟨w.heap.size,rfl,.inl h.below.size,⟨_,e,hnew,hsize⟩,hge,hle63,fun o ho hso=>?_,fun s hsb=>?_,fun t' b' y _ a1 a2 a3=>?_⟩
     ·simp only at ho;rcases hso with hso|⟨_,hso⟩
      ·exact hSn o hso
      ·omega
     ·cases hm':getM st.mem s with
      |none=>rw[h.boxNew s hm']at hsb;cases hsb
      |some cs'=>obtain⟨b',vs,e',g1,_,g3,_⟩:=h.mem s cs' hm' (h.noMp hsb hm');obtain rfl:=Option.some.inj (hsb.symm.trans g1);have:=(Array.getElem?_eq_some_iff.1 g3).1;omega
     ·obtain⟨x,m1,m2⟩:=h.tok t' a1;obtain rfl:=Option.some.inj (a2.symm.trans m1);rcases m2 with m2|⟨b2,m0,_,⟨_,_,m3,_⟩,_⟩
      ·exact absurd m2 a3
      ·cases m0;have:=(Array.getElem?_eq_some_iff.1 m3).1;omega)
    refine⟨_,_,_,ρ',hr,hs',?_,hall,_,_,_,hρ,rfl⟩;have hk:Keeps w S (w.drew.alloc O) (fun b o=>S b o∨(b=w.heap.size∧o<(es.length+ys.length)*esz)):=fun b o hso=>by obtain⟨v,hv⟩:=h.live b o hso;exact⟨.inl hso,hbel.cell (p:=⟨b,o,none⟩) (zyu hv)⟩
    have hlA:RepL (w.drew.alloc O) (fun b o=>S b o∨(b=w.heap.size∧o<(es.length+ys.length)*esz)) (es++ys).flatten (l1++l2):=by rw[List.flatten_append];exact RepL.append (RepL.keep hk _ _ hl1) (RepL.keep hk _ _ hl2)
    have:=zvg (cap:=cap') hall hlA (b:=w.heap.size) (fun j v hj=>?_) (by simpa using hge) hle63
    ·simpa using this
    ·rw[zzm hnew];have hlt:j<(l1++l2).length:=(List.getElem?_eq_some_iff.1 hj).1;refine⟨?_,.inr ⟨rfl,by rw[Nat.add_mul];simp at hlt;omega⟩⟩;rw[Array.getElem?_append_left (by simpa using hlt)];simpa using hj
end Go.Abs
end
section
namespace Go.Abs
open Go.RowKit
variable{c:Ctx}{st:St}{tmps:Array Value}{w:World}{S:Safe}{ρ:Rho}
mutual
def RepC(w:World)(S:Safe):CV→Value→Prop
 |.one x,v=>Rep w S x v
 |.agg xs,v=>∃vs:Array Value,v=.agg vs∧RepL w S xs vs.toList
 |.own _ _ es,v=>Rep w S (.lst es) v
 |.tup cs,v=>∃vs:Array Value,v=.tuple vs∧RepCL w S cs vs.toList
 |.bx _ _ _ _ _ _,_=>False
 |.vr _ _ _ _ _,_=>False
 |.vc _ _,_=>False
def RepCL(w:World)(S:Safe):List CV→List Value→Prop
 |[],vs=>vs=[]
 |x::xs,vs=>∃v r,vs=v::r∧RepC w S x v∧RepCL w S xs r
end
def Live(w:World)(S:Safe):Prop:=∀b o,S b o→∃v,w.cell? ⟨b,o,none⟩=some v
def GlobOk(P:Program)(G:Nat→Option (List D))(w:World)(S:Safe):Prop:=(∀g cs,G g=some cs→RepCs w S g 0 cs)∧Exact P G w
def Enters(P:Program)(f:FuncId):Prop:=∃fn,P.funcs[f]? =some fn∧(fn.name== "runtime.NumGoroutine")=false∧fn.body.isNone=false
def EvD(P:Program)(G:Nat→Option (List D))(f:FuncId)(args:List CV)(r:CV):Prop:=
 Enters P f∧∀(w:World) (S:Safe) (cargs:Array Value),Live w S→GlobOk P G w S→RepCL w S args cargs.toList→
  Calls P f cargs w fun e w'=>∃v S',e=.returned v∧RepC w' S' r v∧Below w.heap.size w w'∧(∀b o,S b o→S' b o)∧(∀b o,S' b o→S b o∨w.heap.size≤b)∧Live w' S'
def OwnX(P:Program)(w:World)(X:List Nat)(b:Nat):Prop:=w.heap.size≤b∨(b∈X∧P.globals.size≤b)
def Room(own:Nat→Prop)(w:World)(S:Safe)(sz:Nat)(v:Value):Prop:=
 ∃base n cap,v=.slice base n cap∧(n=cap∨∃b,base=some ⟨b,0,none⟩∧own b∧(∃cur e,w.heap[b]? =some (.cells cur e (0,0))∧cur.size=cap*sz)∧n≤cap∧cap≤9223372036854775807∧∀o,n*sz≤o→¬S b o)
def TakesX(P:Program)(w:World)(S:Safe)(X:List Nat)(args:List CV)(cargs:List Value)(sz:Nat):Option Nat→Prop
 |none=>X=[]
 |some k=>∃es v,args[k]? =some (.one (.lst es))∧(∀e∈es,e.length=sz)∧cargs[k]? =some v∧Room (fun b=>X=[b]∧P.globals.size≤b) w S sz v
def EvOwn(P:Program)(G:Nat→Option (List D))(f:FuncId)(args:List CV)(a:Option Nat)(sz:Nat)(es:List (List D)):Prop:=
 Enters P f∧∀(w:World) (S:Safe) (cargs:Array Value) (X:List Nat),Live w S→GlobOk P G w S→RepCL w S args cargs.toList→TakesX P w S X args cargs.toList sz a→
  Calls P f cargs w fun e w'=>∃v S',e=.returned v∧Rep w' S' (.lst es) v∧(∀e∈es,e.length=sz)∧Room (OwnX P w X) w' S' sz v∧BelowO (OwnX P w X) w w'∧Keeps w S w' S'∧(∀b o,S' b o→S b o∨OwnX P w X b)∧Live w' S'
abbrev ctxB(P:Program)(G:Nat→Option (List D))(w:World)(S:Safe)(X:List Nat)(pin mpin:List (Nat×Nat))(k:Option (World×Safe)):Ctx:=
 {P:=P,G:=G,w0:=w,S0:=S,N:=0,X:=X,pin:=pin,mpin:=mpin,kx:=k}
def RepR(w:World)(S:Safe)(ρ:Rho):CV→Value→Prop
 |.vr s esz off n cap,v=>RepA w S ρ (.vec s esz off n cap) v
 |r,v=>RepC w S r v
def NewRow(w w':World)(S':Safe)(esz:Nat)(es:List (List D))(v:Value):Prop:=
 (es=[]∧Rep w' S' (.lst []) v)∨(es≠[]∧(∀e∈es,e.length=esz)∧∃b cap vs ev,v=.slice (some ⟨b,0,none⟩) es.length cap∧w.heap.size≤b∧es.length≤cap∧cap≤9223372036854775807∧w'.heap[b]? =some (.cells vs ev (0,0))∧
  vs.size=cap*esz∧RepL w' S' es.flatten (vs.toList.take (es.length*esz))∧∀o,¬S' b o)
def EvV(P:Program)(G:Nat→Option (List D))(f:FuncId)(args:List CV)(esz:Nat)(es:List (List D)):Prop:=
 Enters P f∧∀(w:World) (S:Safe) (cargs:Array Value),Live w S→GlobOk P G w S→RepCL w S args cargs.toList→
  Calls P f cargs w fun e w'=>∃v S',e=.returned v∧NewRow w w' S' esz es v∧Below w.heap.size w w'∧(∀b o,S b o→S' b o)∧(∀b o,S' b o→S b o∨w.heap.size≤b)∧Live w' S'
def EvB(P:Program)(G:Nat→Option (List D))(f:FuncId)(as:List AV)(m0:Mem)(t0:List (Nat×Bool))(r:CV)(m1:Mem)(t1:List (Nat×Bool)):Prop:=
 Enters P f∧∀(w:World) (S:Safe) (cargs:Array Value) (X:List Nat) (pin mpin:List (Nat×Nat)) (ρ:Rho),
  Sim (ctxB P G w S X pin mpin none) ⟨[],m0,t0⟩ #[] w S ρ→(∀p∈pin,1000≤p.1)→(∀p∈mpin,1000≤p.1)→(∀s b,ρ.box s=some b→(s,b)∈pin)→(∀s b,ρ.mbox s=some b→(s,b)∈mpin)→RepAs w S ρ as cargs.toList→
  Calls P f cargs w fun e w'=>∃v S' ρ',e=.returned v∧RepR w' S' ρ' r v∧Sim (ctxB P G w S X pin mpin (some (w,S))) ⟨[],m1,t1⟩ #[] w' S' ρ'
def Ev(P:Program)(G:Nat→Option (List D))(f:FuncId)(args:List CV):CV→Prop
 |.own a sz es=>EvOwn P G f args a sz es
 |.one x=>EvD P G f args (.one x)
 |.agg x=>EvD P G f args (.agg x)
 |.tup x=>EvD P G f args (.tup x)
 |.bx as m0 t0 r m1 t1=>EvB P G f as m0 t0 r m1 t1
 |.vr _ _ _ _ _=>False
 |.vc esz es=>EvV P G f args esz es
theorem Ev.enters{P G f args r}(h:Ev P G f args r):Enters P f:=by
 cases r<;>first|exact h.1|exact h.elim
theorem Ev.data{P G f args r}(hr:r.isOwn=false)(h:Ev P G f args r):EvD P G f args r:=by
 cases r with
 |own a sz es=>cases hr
 |one x=>exact h
 |agg x=>exact h
 |tup x=>exact h
 |bx=>cases hr
 |vr=>exact h.elim
 |vc=>cases hr
mutual
theorem RepC.toAV:∀{r:CV} {v:Value},RepC w S r v→RepA w S ρ r.toAV0 v
 |.one _,_,h=>h
 |.agg _,_,⟨vs,h1,h2⟩=>⟨vs,h1,RepL.toAs h2⟩
 |.own _ _ _,_,h=>h
 |.tup _,_,⟨vs,h1,h2⟩=>⟨vs,h1,RepCL.toAVs h2⟩
 |.bx _ _ _ _ _ _,_,h=>h.elim
 |.vr _ _ _ _ _,_,h=>h.elim
 |.vc _ _,_,h=>h.elim
theorem RepCL.toAVs:∀{rs:List CV} {vs:List Value},RepCL w S rs vs→RepAs w S ρ (CV.toAV0s rs) vs
 |[],_,h=>h
 |_::_,_,⟨v,r,h,h1,h2⟩=>⟨v,r,h,RepC.toAV h1,RepCL.toAVs h2⟩
end
theorem RepCL.append:∀{as bs} {l k},RepCL w S as l→RepCL w S bs k→RepCL w S (as++bs) (l++k)
 |[],_,_,_,h,h'=>by simp only[RepCL]at h;subst h;simpa using h'
 |_::_,_,_,_,⟨v,r,h,h1,h2⟩,h'=>by subst h;exact⟨v,_,rfl,h1,RepCL.append h2 h'⟩
theorem RepL.toCL:∀{ds} {l},RepL w S ds l→RepCL w S (ds.map .one) l
 |[],_,h=>h
 |_::_,_,⟨v,r,h,h1,h2⟩=>⟨v,r,h,h1,RepL.toCL h2⟩
theorem ywn{m}(hm:Through w S ρ m)(n){a v r}(h:RepA w S ρ a v)(hr:a.toCV m n=some r):RepC w S r v:=by
 cases a with
 |agg cs=>
  simp only[AV.toCV]at hr;split at hr
  ·rename_i xs hxs;cases hr;obtain⟨vs,h1,h2⟩:=h;exact⟨vs,h1,zv6 hm n h2 hxs⟩
  ·cases hr
 |_=>
  simp only[AV.toCV]at hr;split at hr
  ·rename_i x hx;cases hr;exact zVC hm n _ _ _ h hx
  ·cases hr
theorem zjV{m}(hm:Through w S ρ m)(n):∀{as} {l} {rs},RepAs w S ρ as l→toCVs m n as=some rs→RepCL w S rs l
 |[],_,rs,h,hx=>by simp[toCVs]at hx;subst hx;exact h
 |a::as,_,rs,⟨v,r,h,h1,h2⟩,hx=>by
  simp only[toCVs]at hx;split at hx
  ·rename_i y ys hy hys;cases hx;exact⟨v,r,h,ywn hm n h1 hy,zjV hm n h2 hys⟩
  ·cases hx
theorem yj9{esz}:∀{as} {vs} {es} (k) {cells} {pre},RepAs w S ρ as vs→toElems esz as=some es→cells.size=(k+vs.length)*esz→RepL w S pre.flatten (cells.toList.take (k*esz))→
  ∃cells',Instr.fill (fun i=>some (i*esz,esz)) cells ((vs.zipIdx k).map fun p=>(p.2,p.1))=some cells'∧cells'.size=cells.size∧RepL w S (pre++es).flatten cells'.toList
 |[],vs,es,k,cells,pre,h,he,hs,hp=>by simp only[RepAs]at h;subst h;simp only[toElems,Option.some.injEq]at he;subst he;refine⟨cells,rfl,rfl,?_⟩;rw[List.append_nil];have:cells.toList.take (k*esz)=cells.toList:=List.take_of_length_le (by simp at hs⊢;omega);rw[this]at hp;exact hp
 |a::as,vs,es,k,cells,pre,⟨v,r,hv,h1,h2⟩,he,hs,hp=>by
  subst hv;simp only[toElems]at he;split at he
  ·rename_i x xs hx hxs;split at he
   ·rename_i hlen;cases he;have hcells:RepL w S x v.cells.toList:=by
     have hne:a≠.undef:=by rintro rfl;simp[AV.cells,toDs,AV.toD]at hx
     have hnc:∀g y,a≠.cond g y:=by rintro g y rfl;simp[AV.cells,toDs,AV.toD]at hx
     exact zv6 zyp 1 (ywL h1 hne hnc) hx
    have l1:v.cells.size=esz:=by have:=RepL.length hcells;simp at this;omega
    simp only[List.zipIdx_cons,List.map_cons,Instr.fill];have hfit:k*esz+v.cells.size≤cells.size:=by rw[hs,l1,List.length_cons,Nat.add_mul,Nat.add_mul];omega
    rw[if_neg (by simp[l1];rw[l1]at hfit;omega)];have hf:=yka v.cells (k*esz) cells hfit;have hsz:(v.cells.zipIdx.foldl (fun(cs:Array Value) (p:Value×Nat)=>cs.setIfInBounds (k*esz+p.2) p.1) cells).size=cells.size:=by rw[←Array.length_toList,hf];simp;omega
    obtain⟨cells',g1,g2,g3⟩:=yj9 (k+1) (cells:=v.cells.zipIdx.foldl (fun(cs:Array Value) (p:Value×Nat)=>cs.setIfInBounds (k*esz+p.2) p.1) cells) (pre:=pre++[x]) h2 hxs (by
     rw[hsz,hs,List.length_cons];congr 1;omega) (by
     rw[hf,Nat.succ_mul];have t1:(cells.toList.take (k*esz)).length=k*esz:=by simp;omega
     rw[List.append_assoc,List.take_append,List.take_of_length_le (by rw[t1];omega),t1];rw[show k*esz+esz-k*esz=v.cells.toList.length by simp[l1]];rw[List.take_left];rw[List.flatten_append,List.flatten_cons,List.flatten_nil,List.append_nil];exact RepL.append hp hcells)
    refine⟨cells',g1,g2.trans hsz,?_⟩;simpa using g3
   ·cases he
  ·cases he
theorem yWK(h:Sim c st tmps w S ρ){o t esz eb n zs}(ht:chkTy c.P t (.slice esz eb zs)=true){parts xs ds}
  (ho:o.op=.buildSlice t n parts) (hp:parts.toList.map (·.1)=List.range n) (hx:trXs (parts.toList.map (·.2))=some xs) (hg:gds st xs=true) {es} (hr:toElems esz (evs st xs)=some es) (hsmall:n*esz≤2^24):
  ∃(cells':Array Value) (e:TypeId),(execOp (Act.eval ⟨tmps,ds⟩) o).run c.P w=.ok (.value (.slice (some ⟨w.heap.size,0,none⟩) n n)) (w.alloc (.cells cells' e))∧RepL w S es.flatten cells'.toList∧cells'.size=n*esz∧es.length=n∧(∀e∈es,e.length=esz)∧esz≠0:=by
 obtain⟨e,ie,z,hu,hie,q1,q2,q3,q4,q5⟩:=zzL ht;have hvs:=h.evs (ds:=ds) hx hg;have hlen:parts.size=n:=by have:=congrArg List.length hp;simpa using this
 have hparts:(parts.map fun x=>(x.1,Act.eval ⟨tmps,ds⟩ x.2)).toList=((((parts.toList.map (·.2)).map (Act.eval ⟨tmps,ds⟩)).zipIdx 0).map fun p=>(p.2,p.1)):=by
  apply List.ext_getElem?;intro i;simp only[Array.toList_map,List.getElem?_map,List.getElem?_zipIdx];have hi:(parts.toList.map (·.1))[i]? =(List.range n)[i]? :=by rw[hp]
  simp only[List.getElem?_map,List.getElem?_range]at hi;cases hpi:parts.toList[i]? with
  |none=>simp
  |some p=>
   simp only[hpi,Option.map_some]at hi⊢;have hin:i<n:=by have:=(List.getElem?_eq_some_iff.1 hpi).1;simp at this;omega
   simp[hin]at hi;simp[hi]
 generalize hz0:(if n*esz=0 then(#[]:Array Value)else z.cells)=z0;have hcells0:((Array.range (n*esz)).map (z0[· %z0.size]!)).size=(0+((parts.toList.map (·.2)).map (Act.eval ⟨tmps,ds⟩)).length)*esz:=by simp[hlen]
 obtain⟨cells',g1,g2,g3⟩:=yj9 (w:=w) (S:=S) (ρ:=ρ) (esz:=esz) 0 (pre:=[]) hvs hr hcells0 (by simp[RepL]);have helen:es.length=n:=by
  have:∀(as:List AV) (es:List (List D)),toElems esz as=some es→es.length=as.length:=by
   intro as;induction as with
   |nil=>intro es he;simp[toElems]at he;subst he;rfl
   |cons a as ih=>
    intro es he;simp only[toElems]at he;split at he
    ·split at he
     ·cases he;simp[ih _ ‹_›]
     ·cases he
    ·cases he
  rw[this _ _ hr];have h1:=RepAs.length hvs;simp only[List.length_map,Array.length_toList]at h1;omega
 have hall:∀e∈es,e.length=esz:=by
  have:∀(as:List AV) (es:List (List D)),toElems esz as=some es→∀e∈es,e.length=esz:=by
   intro as;induction as with
   |nil=>intro es he;simp[toElems]at he;subst he;simp
   |cons a as ih=>
    intro es he;simp only[toElems]at he;split at he
    ·split at he
     ·rename_i hl;cases he;intro e' he';rcases List.mem_cons.1 he' with rfl|he'
      ·exact hl
      ·exact ih _ ‹_› e' he'
     ·cases he
    ·cases he
  exact this _ _ hr
 have hcs:cells'.size=n*esz:=by rw[g2];simp
 refine⟨cells',e,?_,by simpa using g3,hcs,helen,hall,q3⟩;unfold execOp;simp only[ho];have hnot:¬n*ie.size>2^24:=by rw[q1];omega
 simp only[Instr.buildSlice,Sem.run_bind,run_underlying hu,Result.andThen_ok,run_sizeOf hie];rw[if_neg hnot];simp only[Sem.run_bind,Sem.run_pure,Result.andThen_ok];rw[q1,hparts];by_cases h0:n*esz=0
 ·have hz1:z0=#[]:=by rw[←hz0,if_pos h0]
  subst hz1;rw[if_pos h0];simp only[Sem.run_bind,Sem.run_pure,Result.andThen_ok];rw[g1];simp[newRow]
 ·have hz1:z0=z.cells:=by rw[←hz0,if_neg h0]
  subst hz1;rw[if_neg h0];simp only[Sem.run_bind,Sem.run_pure,Result.andThen_ok,zKM hie q4];rw[g1];simp[newRow]
theorem yJG(h:Sim c st tmps w S ρ){o t esz eb n zs}(ht:chkTy c.P t (.slice esz eb zs)=true){parts xs ds}
  (ho:o.op=.buildSlice t n parts) (hp:parts.toList.map (·.1)=List.range n) (hx:trXs (parts.toList.map (·.2))=some xs) (hg:gds st xs=true) {es} (hr:toElems esz (evs st xs)=some es) (hsmall:n*esz≤2^24):
  ∃cv w' S',(execOp (Act.eval ⟨tmps,ds⟩) o).run c.P w=.ok (.value cv) w'∧Sim c st tmps w' S' ρ∧RepA w' S' ρ (.full es) cv:=by
 obtain⟨cells',e,hrun,g3,hcs,helen,hall,q3⟩:=yWK h ht ho hp hx hg hr hsmall;have hs:=h.newRow cells' e;refine⟨.slice (some ⟨w.heap.size,0,none⟩) n n,_,_,hrun,hs,?_,_,n,rfl⟩
 ·have hk:Keeps w S (w.alloc (.cells cells' e)) (fun b o=>S b o∨(b=w.heap.size∧o<cells'.size)):=fun b o hso=>by obtain⟨v,hv⟩:=h.live b o hso;exact⟨.inl hso,(zwJ hv).trans hv.symm⟩
  have hl:=RepL.keep hk _ _ g3;have:=zvg (cap:=n) hall hl (b:=w.heap.size) (fun j v hj=>by
   have hj':j<cells'.size:=by have:=(List.getElem?_eq_some_iff.1 hj).1;simpa using this
   refine⟨?_,.inr ⟨rfl,hj'⟩⟩;simp only[World.cell?_alloc_new];simpa using hj) (by omega) (by have:n≤n*esz:=Nat.le_mul_of_pos_right _ (by omega);omega)
  rw[helen]at this;exact this
theorem zXb{P t s}(ht:chkTy P t (.cell (.d (.str s)))=true):P.underlying t=some .string:=by simp only[chkTy,Bool.and_eq_true,undOk]at ht;have:=ht.1.1;split at this<;>simp_all
theorem yQJ(h:Sim c st tmps w S ρ){o t}(ht:chkTy c.P t (.cell (.d (.str [])))=true){x y x' y' ds}
  (ho:o.op=.index t x y) (hx:trX x=some x') (hy:trX y=some y') (hg:gd st x'=true) (hg':gd st y'=true) {s} {k} {n} (hs:ev st x'=.d (.str s)) (hn:ev st y'=.d (.int k n)) (hob:0≤n∧n<s.length):
  ∃cv,(execOp (Act.eval ⟨tmps,ds⟩) o).run c.P w=.ok (.value cv) w∧RepA w S ρ (.d (.int .u8 ((s.getD n.toNat 0).toNat:Nat))) cv:=by
 have e1:=h.ev hx hg (ds:=ds);have e2:=h.ev hy hg' (ds:=ds);rw[hs]at e1;rw[hn]at e2;obtain⟨b,hv,rfl,_⟩:=e1;have e2:Act.eval ⟨tmps,ds⟩ y=.int k n:=e2;have hsz:b.size=b.data.toList.length:=by simp
 have hi:0≤n∧n<b.size:=by rw[hsz];exact hob
 refine⟨.int .u8 ((b.data.toList.getD n.toNat 0).toNat:Nat),?_,rfl⟩;unfold execOp;simp only[ho,hv,e2];have:=run_index_string (P:=c.P) (w:=w) t b k n (zXb ht);rw[dif_pos hi]at this;have hlt:n.toNat<b.size:=by omega
 have hget:b[n.toNat]=b.data.toList.getD n.toNat 0:=by rw[List.getD_eq_getElem?_getD,List.getElem?_eq_getElem (by simp;omega)];rfl
 rw[hget]at this;simp[this]
theorem yQw(h:Sim c st tmps w S ρ){o t m zs}(ht:chkTy c.P t (.arr m 1 false zs)=true){x y x' y' ds}
  (ho:o.op=.index t x y) (hx:trX x=some x') (hy:trX y=some y') (hg:gd st x'=true) (hg':gd st y'=true) {cs} {k} {n} (hs:ev st x'=.agg cs) (hn:ev st y'=.d (.int k n)) (hob:(0≤n∧n<m)∧n<cs.length):
  ∃cv,(execOp (Act.eval ⟨tmps,ds⟩) o).run c.P w=.ok (.value cv) w∧RepA w S ρ (cs.getD n.toNat .undef) cv:=by
 have e1:=h.ev hx hg (ds:=ds);have e2:=h.ev hy hg' (ds:=ds);rw[hs]at e1;rw[hn]at e2;obtain⟨vs,hv,hr⟩:=e1;have e2:Act.eval ⟨tmps,ds⟩ y=.int k n:=e2;simp only[chkTy,Bool.and_eq_true]at ht;obtain⟨_,ht⟩:=ht;split at ht
 ·rename_i m' e i hu hi;simp only[Bool.and_eq_true]at ht;obtain⟨⟨⟨⟨⟨hm,_⟩,_⟩,he⟩,hna⟩,hsome⟩:=ht;have hm:m'=m:=by simpa using hm
  subst hm;split at he
  ·rename_i ie hie;have he:ie.size=1:=by simpa using he
   have hag:(isAgg e).run c.P w=.ok false w:=zKL w (by simpa using hna) hsome;have hlen:=RepAs.length hr;have hlt:n.toNat<vs.size:=by simp at hlen;omega
   obtain⟨v,hv1,hv2⟩:∃v,vs[n.toNat]? =some v∧RepA w S ρ (cs.getD n.toNat .undef) v:=by
    have h2:n.toNat<cs.length:=by omega
    have:∀{as:List AV} {l:List Value} (i:Nat),RepAs w S ρ as l→i<as.length→∃v,l[i]? =some v∧RepA w S ρ (as.getD i .undef) v:=by
     intro as;induction as with
     |nil=>intro l i _ h;simp at h
     |cons a as ih=>
      rintro l i ⟨v,r,rfl,h1,h2⟩ hi
      cases i with
      |zero=>exact⟨v,rfl,h1⟩
      |succ i=>exact ih i h2 (by simpa using hi)
    obtain⟨v,h3,h4⟩:=this n.toNat hr h2;exact⟨v,by simpa using h3,h4⟩
   refine⟨v,?_,hv2⟩;unfold execOp;simp only[ho,hv,e2];simp[Instr.index,asIntOf,run_underlying hu,hob.1,run_sizeOf hie,he,part,hag,hv1]
  ·cases he
 ·cases ht
theorem yVE(h:Sim c st tmps w S ρ){o t}(ht:chkTy c.P t (.cell (.d (.str [])))=true){x y x' y' ds}
  (ho:o.op=.slice t x (some y) none none) (hx:trX x=some x') (hy:trX y=some y') (hg:gd st x'=true) (hg':gd st y'=true) {s} {k} {n} (hs:ev st x'=.d (.str s)) (hn:ev st y'=.d (.int k n)) (hob:0≤n∧n≤s.length):
  ∃cv,(execOp (Act.eval ⟨tmps,ds⟩) o).run c.P w=.ok (.value cv) w∧RepA w S ρ (.d (.str (s.drop n.toNat))) cv:=by
 have e1:=h.ev hx hg (ds:=ds);have e2:=h.ev hy hg' (ds:=ds);rw[hs]at e1;rw[hn]at e2;obtain⟨b,hv,rfl,hb⟩:=e1;have e2:Act.eval ⟨tmps,ds⟩ y=.int k n:=e2;have hsz:b.size=b.data.toList.length:=by simp
 refine⟨.string (b.extract n.toNat b.size),?_,_,rfl,?_,?_⟩
 ·unfold execOp;simp only[ho,hv,e2];simp[Instr.sliceAt,Instr.slice,run_underlying (zXb ht),Instr.sliceBounds,run_sliceBound,e2,hob.1,(by rw[hsz];exact hob.2:n≤(b.size:Int))]
 ·simp[ByteArray.data_extract];exact List.take_of_length_le (by simp)
 ·simp[ByteArray.size_extract];omega
theorem yJJ(h:Sim c st tmps w S ρ){o t}(ht:chkTy c.P t (.cell (.d (.str [])))=true){x z y x' y' z' ds}
  (ho:o.op=.slice t x y (some z) none) (hx:trX x=some x') (hy:(∃y0,y=some y0∧trX y0=some y')∨(y=none∧y'=.c (.d (.int .i64 0)))) (hz:trX z=some z') (hg:gd st x'=true) (hg':gd st y'=true) (hg'':gd st z'=true)
  {s} {k k'} {l m} (hs:ev st x'=.d (.str s)) (hl:ev st y'=.d (.int k l)) (hm:ev st z'=.d (.int k' m)) (hob:0≤l∧l≤m∧m≤s.length):
  ∃cv,(execOp (Act.eval ⟨tmps,ds⟩) o).run c.P w=.ok (.value cv) w∧RepA w S ρ (.d (.str ((s.take m.toNat).drop l.toNat))) cv:=by
 have e1:=h.ev hx hg (ds:=ds);have e3:=h.ev hz hg'' (ds:=ds);rw[hs]at e1;rw[hm]at e3;obtain⟨b,hv,rfl,hb⟩:=e1;have e3:Act.eval ⟨tmps,ds⟩ z=.int k' m:=e3;have hsz:b.size=b.data.toList.length:=by simp
 have hmb:m≤(b.size:Int):=by rw[hsz];exact hob.2.2
 refine⟨.string (b.extract l.toNat m.toNat),?_,_,rfl,?_,?_⟩
 ·unfold execOp;rcases hy with⟨y0,rfl,hy⟩|⟨rfl,rfl⟩
  ·have e2:=h.ev hy hg' (ds:=ds);rw[hl]at e2;have e2:Act.eval ⟨tmps,ds⟩ y0=.int k l:=e2;simp only[ho,hv,e3,Option.map_some,e2];simp[Instr.sliceAt,Instr.slice,run_underlying (zXb ht),Instr.sliceBounds,run_sliceBound,hob.1,(by omega:0≤m),hmb,Int.toNat_of_nonneg (by omega:0≤m),hob.2.1]
  ·simp only[ev,ev0,AV.strip,AV.d.injEq,D.int.injEq]at hl;obtain⟨_,rfl⟩:=hl;simp only[ho,hv,e3];simp[Instr.sliceAt,Instr.slice,run_underlying (zXb ht),Instr.sliceBounds,run_sliceBound,e3,(by omega:0≤m),hmb]
 ·simp[ByteArray.data_extract,List.drop_take]
 ·simp[ByteArray.size_extract];omega
theorem RepEs.drop{sz}:∀{es} {b o} (n),(∀e∈es,e.length=sz)→RepEs w S b o es→RepEs w S b (o+n*sz) (es.drop n)
 |[],_,_,n,_,_=>by simp[RepEs]
 |e::es,b,o,0,_,h=>by simpa using h
 |e::es,b,o,n+1,hl,h=>by
  have h2:=RepEs.drop (es:=es) n (fun e he=>hl e (by simp[he])) h.2;rw[hl e (by simp)]at h2;have e1:o+(n+1)*sz=o+sz+n*sz:=by rw[Nat.succ_mul];omega
  rw[e1];exact h2
theorem RepEs.take:∀{es} {b o} (n),RepEs w S b o es→RepEs w S b o (es.take n)
 |[],_,_,n,_=>by simp[RepEs]
 |e::es,b,o,0,h=>by simp[RepEs]
 |e::es,b,o,n+1,h=>⟨h.1,RepEs.take n h.2⟩
theorem yxb{es esz n cap base}(hr:Rep w S (.lst es) (.slice base n cap))(hl:∀e∈es,e.length=esz){l m}(h1:l≤m)(h2:m≤es.length):
  n=es.length∧n≤cap∧Rep w S (.lst ((es.take m).drop l)) (sliced base l m cap esz):=by
 obtain⟨base',cap',hv,hc1,hc2,hc3,hc4⟩:=hr;cases hv;refine⟨rfl,hc1,(if cap=l then base else base.map (·.add (l*esz))),cap-l,?_,?_,?_,?_,?_⟩
 ·simp only[sliced,List.length_drop,List.length_take,Nat.min_eq_left h2]
 ·simp only[List.length_drop,List.length_take,Nat.min_eq_left h2];omega
 ·omega
 ·intro h;split at h
  ·omega
  ·have:base=none:=by simpa using h
   have:=hc3 this;omega
 ·intro a ha;have hsz:∃sz,∀e∈(es.take m).drop l,e.length=sz:=⟨esz,fun e he=>hl e (List.mem_of_mem_take (List.mem_of_mem_drop he))⟩;split at ha
  ·rename_i hcl;have hnil:(es.take m).drop l=[]:=by apply List.drop_of_length_le;simp;omega
   exact⟨fun h=>by omega,hsz,by rw[hnil];trivial⟩
  ·cases base with
   |none=>cases ha
   |some a0=>obtain⟨hsp,_,hes⟩:=hc4 a0 rfl;have hsp:=hsp (by omega);obtain⟨b,off,sp⟩:=a0;simp only at hsp hes;subst hsp;simp only[Option.map_some,addr_add,Option.some.injEq]at ha;subst ha;exact⟨fun _=>rfl,hsz,RepEs.drop l (fun e he=>hl e (List.mem_of_mem_take he)) (RepEs.take m hes)⟩
theorem yVD(h:Sim c st tmps w S ρ){o t esz eb zs}(ht:chkTy c.P t (.slice esz eb zs)=true){x y x' y' ds}
  (ho:o.op=.slice t x (some y) none none) (hx:trX x=some x') (hy:trX y=some y') (hg:gd st x'=true) (hg':gd st y'=true) {es} {k} {n} (hs:(ev st x').elems=some es) (hn:ev st y'=.d (.int k n)) (hob:(0≤n∧n≤es.length)∧∀e∈es,e.length=esz):
  ∃cv,(execOp (Act.eval ⟨tmps,ds⟩) o).run c.P w=.ok (.value cv) w∧RepA w S ρ (.d (.lst (es.drop n.toNat))) cv:=by
 have e1:=zjl (h.ev hx hg (ds:=ds)) hs;have e2:=h.ev hy hg' (ds:=ds);rw[hn]at e2;have e2:Act.eval ⟨tmps,ds⟩ y=.int k n:=e2;obtain⟨e,ie,z,hu,hie,h1,_,h3,_⟩:=zzL ht;have e1':=e1;obtain⟨base,cap,hv,hc1,_⟩:=e1';rw[hv]at e1;have hel:es.length=es.length:=rfl;obtain⟨_,_,hrep⟩:=yxb e1 hob.2 (l:=n.toNat) (m:=es.length) (by omega) (Nat.le_refl _);rw[List.take_length]at hrep;refine⟨_,?_,hrep⟩;unfold execOp;simp only[ho,hv,e2];simp[Instr.sliceAt,Instr.slice,run_underlying hu,Instr.sliceBounds,run_sliceBound,e2,hob.1.1,hob.1.2,run_sizeOf hie,h1,sliced]
theorem yJI(h:Sim c st tmps w S ρ){o t esz eb zs}(ht:chkTy c.P t (.slice esz eb zs)=true){x z y x' y' z' ds}
  (ho:o.op=.slice t x y (some z) none) (hx:trX x=some x') (hy:(∃y0,y=some y0∧trX y0=some y')∨(y=none∧y'=.c (.d (.int .i64 0)))) (hz:trX z=some z') (hg:gd st x'=true) (hg':gd st y'=true) (hg'':gd st z'=true)
  {es} {k k'} {l m} (hs:(ev st x').elems=some es) (hl:ev st y'=.d (.int k l)) (hm:ev st z'=.d (.int k' m)) (hob:(0≤l∧l≤m∧m≤es.length)∧∀e∈es,e.length=esz):
  ∃cv,(execOp (Act.eval ⟨tmps,ds⟩) o).run c.P w=.ok (.value cv) w∧RepA w S ρ (.d (.lst ((es.take m.toNat).drop l.toNat))) cv:=by
 have e1:=zjl (h.ev hx hg (ds:=ds)) hs;have e3:=h.ev hz hg'' (ds:=ds);rw[hm]at e3;have e3:Act.eval ⟨tmps,ds⟩ z=.int k' m:=e3;obtain⟨e,ie,zz,hu,hie,h1,_,h3,_⟩:=zzL ht;have e1':=e1;obtain⟨base,cap,hv,hc1,_⟩:=e1';rw[hv]at e1;obtain⟨_,_,hrep⟩:=yxb e1 hob.2 (l:=l.toNat) (m:=m.toNat) (by omega) (by omega);have hmc:m≤(cap:Int):=by omega
 have hm0:0≤m:=by omega
 refine⟨_,?_,hrep⟩;unfold execOp;rcases hy with⟨y0,rfl,hy⟩|⟨rfl,rfl⟩
 ·have e2:=h.ev hy hg' (ds:=ds);rw[hl]at e2;have e2:Act.eval ⟨tmps,ds⟩ y0=.int k l:=e2;simp only[ho,hv,e3,Option.map_some,e2];simp[Instr.sliceAt,Instr.slice,run_underlying hu,Instr.sliceBounds,run_sliceBound,hob.1.1,hm0,hmc,Int.toNat_of_nonneg hm0,hob.1.2.1,run_sizeOf hie,h1,sliced]
 ·simp only[ev,ev0,AV.strip,AV.d.injEq,D.int.injEq]at hl;obtain⟨_,rfl⟩:=hl;simp only[ho,hv,e3];simp[Instr.sliceAt,Instr.slice,run_underlying hu,Instr.sliceBounds,run_sliceBound,e3,hm0,hmc,run_sizeOf hie,h1,sliced]
end Go.Abs
end
section
namespace Go.Abs
open Go.RowKit
open Go.Maps (Keyed)
variable{c:Ctx}{st:St}{tmps:Array Value}{w:World}{S:Safe}{ρ:Rho}
theorem zQ3{P}{t k e:Nat}{kz ez}(h:chkTy P t (.map k e kz ez)=true):
  P.underlying t=some (.map k e)∧flatU P k kz=true∧∃ie v,P.info? e=some ie∧ie.zero=some v∧∀(w) (S),RepMV w S ez v:=by
 simp only[chkTy,Bool.and_eq_true]at h;obtain⟨h1,h⟩:=h;split at h
 ·rename_i k' e' i ie hu hi hie;simp only[Bool.and_eq_true,beq_iff_eq]at h;obtain⟨⟨⟨⟨rfl,rfl⟩,_⟩,_⟩,h3⟩:=h;refine⟨hu,h1,ie,?_⟩;split at h3
  ·rename_i v hz;exact⟨v,hie,hz,fun w S=>yQ1 w S h3⟩
  ·cases h3
 ·cases h
theorem yJd{a x v}(hr:RepA w S ρ a v)(hx:a.toMV=some x):RepMV w S x v:=by
 unfold AV.toMV at hx;split at hx
 ·rename_i cs;split at hx
  ·rename_i xs hxs;cases hx;obtain⟨vs,rfl,h2⟩:=hr;exact⟨vs,rfl,zv6 (zyp) 1 h2 hxs⟩
  ·cases hx
 ·cases hx;exact hr
 ·cases hx
theorem MV.yJs{x v}(h:RepMV w S x v):RepA w S ρ x.av v:=by
 cases x with
 |one x=>exact h
 |agg xs=>
  obtain⟨cs,rfl,h2⟩:=h;refine⟨cs,rfl,?_⟩;have:∀{xs:List D} {l:List Value},RepL w S xs l→RepAs w S ρ (xs.map .d) l:=by
   intro xs;induction xs with
   |nil=>intro l h;exact h
   |cons x xs ih=>intro l ⟨v,r,e,h1,h2⟩;exact⟨v,r,e,h1,ih h2⟩
  exact this h2
theorem zWj{P}{k:Nat}{kz}(h:flatU P k kz=true):Keyed P k:=by
 cases kz<;>simp only[flatU,Bool.false_eq_true]at h
 ·split at h
  ·rename_i hu;exact Maps.bool_keyed hu
  ·cases h
 ·split at h
  ·rename_i hu;exact Maps.int_keyed hu
  ·cases h
 ·split at h
  ·rename_i hu;exact Maps.string_keyed hu
  ·cases h
theorem yJA{P}{k:Nat}{kz kd v}(h:flatU P k kz=true)(hl:likeD kz kd=true)(hp:plainD kd)(hr:Rep w S kd v):keyOf P k v=some (litD kd)∧flatD kd=true:=by
 cases kz<;>cases kd<;>simp only[likeD,Bool.false_eq_true]at hl<;>simp only[flatU]at h
 ·simp only[Rep]at hr;subst hr;split at h
  ·rename_i hu;exact⟨Maps.keyOf_bool_mk hu _,rfl⟩
  ·cases h
 ·simp only[Rep]at hr;subst hr;rename_i q _ q' n;split at h
  ·rename_i q2 hu;simp only[beq_iff_eq]at h hl;subst h;subst hl;refine⟨Maps.keyOf_int_mk hu ?_,rfl⟩;simp only[plainD]at hp;simp[Lit.wf,hp.1,hp.2]
  ·cases h
 ·obtain⟨x,rfl,rfl,hs⟩:=hr;split at h
  ·rename_i hu;exact⟨WideMaps.keyOf_string_mk hu hs,rfl⟩
  ·cases h
theorem Sim.newMap(h:Sim c st tmps w S ρ){s}(hs:getM st.mem s=none)(hN:s<c.N)(k e):
  ∃ρ',ρ.le ρ'∧ρ'.mbox s=some w.heap.size∧Sim c {st with mem:=(s,[.mp k e []])::st.mem} tmps (w.alloc (.map #[] 0)) S ρ':=by
 have hg:=h.grow (w':=w.alloc (.map #[] 0)) (S':=S) ((Below.refl _ _).alloc (Nat.le_refl _) _) (fun b o hs=>hs) (fun b o hs=>.inl hs) (fun b o hs=>by obtain⟨v,hv⟩:=h.live b o hs;exact⟨v,zwJ hv⟩);have hle:ρ.le {ρ with mbox:=fun k=>if k=s then some w.heap.size else ρ.mbox k}:=by
  refine⟨fun _ _ h=>h,fun _ _ h=>h,fun k b hk=>?_⟩;by_cases hks:k=s
  ·subst hks;rw[h.mps.new k hs]at hk;cases hk
  ·simp[hks,hk]
 have hold:∀k b,ρ.mbox k=some b→(getM st.mem k).isSome=true:=by
  intro k b hk;cases hm:getM st.mem k with
  |none=>rw[h.mps.new k hm]at hk;cases hk
  |some _=>rfl
 have hk:Keeps (w.alloc (.map #[] 0)) S (w.alloc (.map #[] 0)) S:=Keeps.refl _ _;refine⟨_,hle,by simp,?_⟩;refine{size:=hg.size,slots:=fun k=>(hg.slots k).keep hk hle,mem:=?_,inj:=hg.inj,boxNew:=?_,mps:=?_,tok:=?_,tokNew:=hg.tokNew,below:=hg.below,old:=hg.old,new:=hg.new,live:=hg.live,glob:=hg.glob,fx:=hg.fx,ex:=hg.ex,obs:=hg.obs,keeps:=hg.keeps,pins:=h.pins.sub (fun _ _ e=>.inr e) (fun s' b e=>by
  simp only at e;by_cases hs':s'=s
  ·exact .inl (hs'▸hN)
  ·rw[if_neg hs']at e;exact .inr e)}
 ·intro k' cs' hkm hnm;simp only[getM]at hkm;split at hkm
  ·cases hkm;cases hnm
  ·obtain⟨b,vs,e',g1,g2,g3,g4,g6⟩:=hg.mem k' cs' hkm hnm;exact⟨b,vs,e',g1,g2,g3,RepAs.keep hk hle cs' _ g4,g6⟩
 ·intro k' hkm;simp only[getM]at hkm;split at hkm
  ·cases hkm
  ·exact h.boxNew k' hkm
 ·refine{at':=fun k' q q' kvs hkm=>?_,inj:=fun k' k'' b h1 h2=>?_,new:=fun k' hkm=>?_,lt:=fun k' b h1=>?_,apart:=fun k' b h1=>?_}
  ·simp only[getM]at hkm;split at hkm
   ·rename_i hss;subst hss;simp only[Option.some.injEq,List.cons.injEq,AV.mp.injEq,and_true]at hkm;obtain⟨rfl,rfl,rfl⟩:=hkm;exact⟨w.heap.size,by simp,h.boxNew s hs,.inl h.below.size,⟨[],rfl,World.ownsMap_made w c.P k heldR⟩⟩
   ·rename_i hss;obtain⟨b,g1,g2,g3⟩:=hg.mps.at' k' q q' kvs hkm;exact⟨b,hle.2.2 _ _ g1,g2,g3⟩
  ·have hlt:∀k b,ρ.mbox k=some b→b≠w.heap.size:=fun k0 b hk0=>by have:=h.mps.lt k0 b hk0;omega
   simp only at h1 h2;split at h1<;>split at h2
   ·simp_all
   ·cases h1;exact absurd rfl (hlt _ _ h2)
   ·cases h2;exact absurd rfl (hlt _ _ h1)
   ·exact h.mps.inj _ _ _ h1 h2
  ·simp only[getM]at hkm;split at hkm
   ·cases hkm
   ·rename_i hss;have:¬k'=s:=fun e=>hss e.symm;simp[this,h.mps.new k' hkm]
  ·simp only at h1;split at h1
   ·cases h1;exact(World.ownsMap_made w c.P k heldR).lt
   ·exact hg.mps.lt _ _ h1
  ·have:¬k'=s:=fun e=>by subst e;rw[h.boxNew k' hs]at h1;cases h1
   simp[this,h.mps.apart k' b h1]
 ·intro t ht;obtain⟨x,g1,g2⟩:=hg.tok t ht;exact⟨x,g1,g2⟩
theorem Sim.setMap(h:Sim c st tmps w S ρ){s b k e kvs kvs' w'}(hb:ρ.mbox s=some b)(hs:getM st.mem s=some [.mp k e kvs])(hg:w.grownBy w' (some b))(hm:MapAt c.P w' S b k e kvs'):
  Sim c {st with mem:=(s,[.mp k e kvs'])::st.mem} tmps w' S ρ:=by
 obtain⟨b1,m1,m2,m3,m4⟩:=h.mps.at' s k e kvs hs;obtain rfl:=Option.some.inj (hb.symm.trans m1);obtain⟨es0,clock0,hmb⟩:=m4.obj;have hblk:∀b' x,w.heap[b']? =some x→b'≠b→w'.heap[b']? =some x:=fun b' x hx hne=>by rw[hg.block b' (Array.getElem?_eq_some_iff.1 hx).1 (fun e=>hne (Option.some.inj e)),hx]
 have hcell:∀b' o v,w.cell? ⟨b',o,none⟩=some v→b'≠b:=fun b' o v hcc e=>by subst e;simp[World.cell?,hmb]at hcc
 have hk:Keeps w S w' S:=fun b' o hso=>by obtain⟨v,hv⟩:=h.live b' o hso;exact⟨hso,World.cell?_of_block (w:=w) (hg.block b' (zyu hv) (fun e=>hcell b' o v hv (Option.some.inj e)))⟩
 refine{size:=h.size,slots:=fun k=>(h.slots k).keep hk ρ.le_refl,mem:=?_,inj:=h.inj,boxNew:=?_,mps:=?_,tok:=?_,tokNew:=h.tokNew,
        below:=h.below.grown hg (fun k e=>by cases e;exact m3),old:=h.old,new:=h.new,live:=fun b' o hs=>?_,glob:=fun g cs hg=>RepCs.keep hk g 0 cs (h.glob g cs hg),fx:=h.fx,ex:=h.ex,obs:=fun p hp=>⟨?_,(h.obs p hp).2⟩,keeps:=fun p hp=>(h.keeps p hp).trans hk,pins:=h.pins}
 ·intro k' cs' hkm hnm;simp only[getM]at hkm;split at hkm
  ·cases hkm;cases hnm
  ·obtain⟨b',vs,e',g1,g2,g3,g4,g6⟩:=h.mem k' cs' hkm hnm;exact⟨b',vs,e',g1,g2,hblk _ _ g3 (fun e=>by subst e;rw[hmb]at g3;cases g3),RepAs.keep hk ρ.le_refl cs' _ g4,g6⟩
 ·intro k' hkm;simp only[getM]at hkm;split at hkm
  ·cases hkm
  ·exact h.boxNew k' hkm
 ·refine{at':=fun k' q q' kvs2 hkm=>?_,inj:=h.mps.inj,new:=fun k' hkm=>?_,lt:=fun k' b' h1=>Nat.lt_of_lt_of_le (h.mps.lt k' b' h1) hg.size,apart:=h.mps.apart}
  ·simp only[getM]at hkm;split at hkm
   ·rename_i hss;subst hss;simp only[Option.some.injEq,List.cons.injEq,AV.mp.injEq,and_true]at hkm;obtain⟨rfl,rfl,rfl⟩:=hkm;exact⟨b,hb,m2,m3,hm⟩
   ·rename_i hss;obtain⟨b',g1,g2,g3,g4⟩:=h.mps.at' k' q q' kvs2 hkm;have hne:b'≠b:=fun e=>hss (h.mps.inj _ _ _ hb (e▸g1));exact⟨b',g1,g2,g3,g4.to hk (hg.block b' g4.lt (fun e=>hne (Option.some.inj e)))⟩
  ·simp only[getM]at hkm;split at hkm
   ·cases hkm
   ·exact h.mps.new k' hkm
 ·intro t ht;obtain⟨x,g1,g2⟩:=h.tok t ht;refine⟨x,g1,?_⟩;rcases g2 with g2|⟨b',g0,k1,⟨cur,e',k2,k2'⟩,k3,k4,k5,k6,k7⟩
  ·exact .inl g2
  ·exact .inr ⟨b',g0,k1,⟨cur,e',hblk _ _ k2 (fun e=>by subst e;rw[hmb]at k2;cases k2),k2'⟩,k3,k4,k5,k6,k7⟩
 ·obtain⟨v,hv⟩:=h.live b' o hs;exact⟨v,((hk b' o hs).2).trans hv⟩
 ·have hp1:=h.obs p hp;exact hblk _ _ hp1.1 (fun e=>by rw[e,hmb]at hp1;rw[←Option.some.inj hp1.1]at hp1;cases hp1.2)
theorem xzo(h:Sim c st tmps w S ρ){o t k e ds}(ho:o.op=.makeMap t none){s}(hs:getM st.mem s=none)(hN:s<c.N):
  ∃ρ',(execOp (Act.eval ⟨tmps,ds⟩) o).run c.P w=.ok (.value (.map (some w.heap.size))) (w.alloc (.map #[] 0))∧ρ'.mbox s=some w.heap.size∧Sim c {st with mem:=(s,[.mp k e []])::st.mem} tmps (w.alloc (.map #[] 0)) S ρ':=by
 obtain⟨ρ',_,h2,h3⟩:=h.newMap hs hN k e;refine⟨ρ',?_,h2,h3⟩;unfold execOp;simp only[ho];simp[run_makeMap]
theorem yQH(h:Sim c st tmps w S ρ){o t k e kz ez}(ht:chkTy c.P t (.map k e kz ez)=true){x y z x' y' z' ds}(ho:o.op=.mapUpdate t x y z)(hx:trX x=some x')(hy:trX y=some y')(hz:trX z=some z')
  {s} {kvs} {kd} {vd} (ex:ev st x'=.mref s) (ey:ev st y'=.d kd) (ez':(ev st z').toMV=some vd) (hm:getM st.mem s=some [.mp k e kvs]) (g1:gd st x'=true) (g2:gd st y'=true) (g3:gd st z'=true)
  (hl:likeD kz kd=true) (hp:plainD kd) (hn:kvs.length<9223372036854775807):
  ∃w',(execOp (Act.eval ⟨tmps,ds⟩) o).run c.P w=.ok .skip w'∧Sim c {st with mem:=(s,[.mp k e ((kd,vd)::kvs)])::st.mem} tmps w' S ρ:=by
 obtain⟨hu,hk,_⟩:=zQ3 ht;have e1:=h.ev hx g1 (ds:=ds);have e2:=h.ev hy g2 (ds:=ds);have e3:=yJd (h.ev hz g3 (ds:=ds)) ez';rw[ex]at e1;rw[ey]at e2;obtain⟨b,hb,hv⟩:=e1;obtain⟨b1,m1,m2,m3,l,m4,m5⟩:=h.mps.at' s k e kvs hm;obtain rfl:=Option.some.inj (hb.symm.trans m1);obtain⟨hkey,hkf⟩:=yJA hk hl hp e2;obtain⟨w',hrun,r1,r2⟩:=m5.update (zWj hk) hu hn hkey (show heldR (Act.eval ⟨tmps,ds⟩ z)=some (.held (Act.eval ⟨tmps,ds⟩ z),[])from rfl);obtain⟨es0,clock0,hmb⟩:∃es clock,w.heap[b]? =some (Obj.map es clock):=by obtain⟨es,clock,hb,_⟩:=m5;exact⟨es,clock,hb⟩
 have hcell:∀b' o v,w.cell? ⟨b',o,none⟩=some v→b'≠b:=fun b' o v hcc e=>by subst e;simp[World.cell?,hmb]at hcc
 have hkw:Keeps w S w' S:=fun b' o hso=>by obtain⟨v,hv⟩:=h.live b' o hso;exact⟨hso,World.cell?_of_block (w:=w) (r2.block b' (zyu hv) (fun e=>hcell b' o v hv (Option.some.inj e)))⟩
 refine⟨w',?_,h.setMap hb hm r2 ⟨(kd,_)::l,⟨_,_,rfl,hkf,e3.keep hkw,m4.keep hkw⟩,r1⟩⟩;unfold execOp;simp only[ho,hv];simp[hrun]
theorem yQF(h:Sim c st tmps w S ρ){o t k e k' e' kz ez tys}(ht:chkTy c.P t (.map k' e' kz ez)=true){x x' ds}(ho:o.op=.call {callee:=.builtin .clear,args:=#[x],argTypes:=(t::tys).toArray})(hd:o.dst=none)(hx:trX x=some x')
  {s} {kvs} (ex:ev st x'=.mref s) (hm:getM st.mem s=some [.mp k e kvs]) (g1:gd st x'=true):
  ∃w',(execOp (Act.eval ⟨tmps,ds⟩) o).run c.P w=.ok (.value (.tuple #[])) w'∧Sim c {st with mem:=(s,[.mp k e []])::st.mem} tmps w' S ρ:=by
 obtain⟨hu,hk,_⟩:=zQ3 ht;have e1:=h.ev hx g1 (ds:=ds);rw[ex]at e1;obtain⟨b,hb,hv⟩:=e1;obtain⟨b1,m1,m2,m3,l,m4,m5⟩:=h.mps.at' s k e kvs hm;obtain rfl:=Option.some.inj (hb.symm.trans m1);obtain⟨es,clock,hmb,_⟩:=id m5;have hg:w.grownBy (ChangeMaps.setBlock w b (.map #[] clock)) (some b):=⟨rfl,rfl,rfl,by simp[ChangeMaps.setBlock],fun i _ hi=>ChangeMaps.heap_setBlock_other hmb _ (fun e=>hi (by rw[e]))⟩;refine⟨ChangeMaps.setBlock w b (.map #[] clock),?_,h.setMap hb hm hg ⟨[],rfl,#[],clock,ChangeMaps.heap_setBlock_same hmb _,⟨by simp,MapKept.stamped_empty clock,by simp⟩,Nat.le_refl _,rfl⟩⟩;unfold execOp;simp[ho,resolve,invoke,builtin,Builtin.clear_,hv,run_underlying hu,MapKept.run_getObj_map hmb,MapKept.run_setObj_map _ hmb,ChangeMaps.setBlock]
theorem yQG(h:Sim c st tmps w S ρ){o t k e kz ez}(ht:chkTy c.P t (.map k e kz ez)=true){x y x' y' ds ok}(ho:o.op=.lookup t x y ok)(hx:trX x=some x')(hy:trX y=some y')
  {r} (hr:opv c.G st (.mget 0 ok k e kz ez x' y')=some r) (hob:r.2.1) (hg:r.2.2=true):
  ∃cv,(execOp (Act.eval ⟨tmps,ds⟩) o).run c.P w=.ok (.value cv) w∧RepA w S ρ r.1 cv:=by
 obtain⟨hu,hk,ie,z,hie,hz,hzr⟩:=zQ3 ht;simp only[opv]at hr;split at hr
 ·rename_i s kd ex ey;split at hr
  ·rename_i k' e' kvs hm;cases hr;simp only at hob hg;obtain⟨⟨rfl,rfl⟩,hl,hp⟩:=hob;simp only[Bool.and_eq_true]at hg;have e1:=h.ev hx hg.1 (ds:=ds);have e2:=h.ev hy hg.2 (ds:=ds);rw[ex]at e1;rw[ey]at e2;obtain⟨b,hb,hv⟩:=e1;obtain⟨b1,m1,m2,m3,l,m4,m5⟩:=h.mps.at' s k' e' kvs hm;obtain rfl:=Option.some.inj (hb.symm.trans m1);obtain⟨hkey,hkf⟩:=yJA hk hl hp e2;have hzz:(zeroValue e').run c.P w=.ok z w:=by simp[zeroValue,hie,hz,run_typeInfo]
   obtain⟨vr,hat,hrep⟩:=yyM hkf (hzr w S) m4;cases ok with
   |true=>
    obtain⟨v,ps,hrun,hv2⟩:=m5.look_ok (zWj hk) hu hzz (zd:=.held z) (zp:=[]) rfl hkey;rw[hat]at hv2;obtain rfl:=yqp hv2;rw[yqG hkf m4]at hrun;refine⟨.tuple #[v,.bool (mapHas kvs kd)],?_,⟨_,rfl,?_⟩⟩
    ·unfold execOp;simp only[ho,hv];simp[hrun]
    ·exact⟨_,_,rfl,MV.yJs hrep,_,_,rfl,rfl,rfl⟩
   |false=>obtain⟨v,ps,hrun,hv2⟩:=m5.lookup (zWj hk) hu hzz (zd:=.held z) (zp:=[]) rfl hkey;rw[hat]at hv2;obtain rfl:=yqp hv2;refine⟨v,?_,MV.yJs hrep⟩;unfold execOp;simp only[ho,hv];simp[hrun]
  ·cases hr
 ·cases hr
end Go.Abs
end
section
namespace Go.Abs
open Go.RowKit
variable{c:Ctx}{st:St}{tmps:Array Value}{w:World}{S:Safe}{ρ:Rho}
theorem Sim.yJw(h:Sim c st tmps w S ρ){s b}(hb:ρ.box s=some b):b<w.heap.size:=by
 cases hs:getM st.mem s with
 |none=>rw[h.boxNew s hs]at hb;cases hb
 |some cs=>obtain⟨b',vs,e,h1,h2,h3,_⟩:=h.mem s cs hs (h.noMp hb hs);rw[hb]at h1;cases h1;exact(Array.getElem?_eq_some_iff.1 h3).1
theorem Sim.yJR(h:Sim c st tmps w S ρ){t b y}(ht:getT st.tk t=some true)(hb:ρ.tok t=some (some ⟨b,0,none⟩,y))(hy:y.1≠y.2.1):b<w.heap.size:=by
 obtain⟨x,h1,h2⟩:=h.tok t ht;rw[hb]at h1;cases h1;rcases h2 with h2|⟨b',k0,_,⟨cur,e,k2,_⟩,_⟩
 ·exact absurd h2 hy
 ·cases k0;exact(Array.getElem?_eq_some_iff.1 k2).1
def Handed(c:Ctx)(st:St)(w:World)(ρ:Rho)(b:Nat):Prop:=
 c.Own b∧(∃cur e,w.heap[b]? =some (.cells cur e (0,0)))∧(∀s,ρ.box s≠some b)∧∀t b' y,getT st.tk t=some true→ρ.tok t=some (some ⟨b',0,none⟩,y)→y.1≠y.2.1→b'≠b
theorem Sim.growX(h:Sim c st tmps w S ρ){w' S' X}(hX:∀b∈X,Handed c st w ρ b)(hb:BelowO (OwnX c.P w X) w w')(hk:Keeps w S w' S')(hS':∀b o,S' b o→S b o∨OwnX c.P w X b)(hl:Live w' S'):Sim c st tmps w' S' ρ:=by
 have hblk:∀b x,w.heap[b]? =some x→b∉X→w'.heap[b]? =some x:=fun b x hx hn=>by
  rw[hb.block b (fun ho=>?_),hx]
  rcases ho with ho|⟨ho,_⟩
  ·have:=(Array.getElem?_eq_some_iff.1 hx).1;omega
  ·exact hn ho
 have hnot:∀b x o,w.heap[b]? =some x→b∉X→¬S b o→¬S' b o:=fun b x o hx hn hno hs=>by
  rcases hS' b o hs with h1|h1|⟨h1,_⟩
  ·exact hno h1
  ·have:=(Array.getElem?_eq_some_iff.1 hx).1;omega
  ·exact hn h1
 have hmap:SameMaps w w':=⟨hb.size,fun b es clock hx=>(hblk b _ hx (fun hm=>by
  obtain⟨_,⟨cur,e,h2⟩,_⟩:=hX b hm
  rw[hx]at h2;cases h2)).trans hx.symm⟩
 refine{size:=h.size,slots:=fun k=>(h.slots k).keep hk ρ.le_refl,mem:=?_,inj:=h.inj,boxNew:=h.boxNew,mps:=h.mps.to hk hmap,tok:=?_,tokNew:=h.tokNew,
        below:=?_,old:=fun b o hs=>(hk b o (h.old b o hs)).1,new:=?_,live:=hl,glob:=fun g cs hg=>RepCs.keep hk g 0 cs (h.glob g cs hg),fx:=h.fx,ex:=h.ex,obs:=fun p hp=>⟨?_,(h.obs p hp).2⟩,keeps:=fun p hp=>(h.keeps p hp).trans hk,pins:=h.pins}
 ·intro s cs hs hnm
  obtain⟨b,vs,e,h1,h2,h3,h4,h6⟩:=h.mem s cs hs hnm
  have hn:b∉X:=fun hm=>(hX b hm).2.2.1 s h1
  exact⟨b,vs,e,h1,h2,hblk _ _ h3 hn,RepAs.keep hk ρ.le_refl cs _ h4,fun o=>hnot b _ o h3 hn (h6 o)⟩
 ·intro t ht
  obtain⟨x,h1,h2⟩:=h.tok t ht
  refine⟨x,h1,?_⟩
  by_cases hfull:x.2.1=x.2.2.1
  ·exact .inl hfull
  rcases h2 with h2|⟨b,g0,g1,⟨cur,e,g2,g3⟩,g4,g5,g7,g8,g9⟩
  ·exact .inl h2
  ·have hn:b∉X:=fun hm=>(hX b hm).2.2.2 t b x.2 ht (by rw[h1,←g0]) hfull rfl
   exact .inr ⟨b,g0,g1,⟨cur,e,hblk _ _ g2 hn,g3⟩,g4,g5,fun o ho=>hnot b _ o g2 hn (g7 o ho),g8,g9⟩
 ·refine⟨hb.os.trans h.below.os,hb.tape.trans h.below.tape,hb.output.trans h.below.output,Nat.le_trans h.below.size hb.size,fun k hno=>?_⟩
  refine(hb.block k fun ho=>?_).trans (h.below.block k hno)
  rcases ho with ho|⟨ho,_⟩
  ·exact hno (.inl (Nat.le_trans h.below.size ho))
  ·exact hno (hX k ho).1
 ·intro b o hs
  rcases hS' b o hs with h1|h1|⟨h1,_⟩
  ·exact h.new b o h1
  ·exact .inr (.inl (Nat.le_trans h.below.size h1))
  ·exact .inr (hX b h1).1
 ·refine hblk _ _ (h.obs p hp).1 fun hm=>?_
  obtain⟨_,⟨cur,e,h2⟩,_⟩:=hX _ hm
  have h3:=h.obs p hp
  rw[h2]at h3
  have h4:=Option.some.inj h3.1
  have h5:=h3.2
  rw[←h4]at h5;cases h5
theorem yYC{m n}:∀{as} {l} {cvs} {k} {a},RepAs w S ρ as l→toCVs m n as=some cvs→as.getD k .undef=a→a≠.undef→
  ∃v cv,l[k]? =some v∧RepA w S ρ a v∧cvs[k]? =some cv∧a.toCV m n=some cv
 |[],l,cvs,k,a,h,hc,ha,hne=>by simp at ha;exact absurd ha.symm hne
 |x::as,l,cvs,k,a,⟨v,r,e,h1,h2⟩,hc,ha,hne=>by
  subst e;simp only[toCVs]at hc;split at hc
  ·rename_i y ys hy hys;cases hc;cases k with
   |zero=>simp only[List.getD_cons_zero]at ha;subst ha;exact⟨v,y,rfl,h1,rfl,hy⟩
   |succ k=>simp only[List.getD_cons_succ]at ha;exact yYC (k:=k) h2 hys ha hne
  ·cases hc
theorem yvq{l r:List Value}{k:Nat}{v}(h:l[k]? =some v):(l++r)[k]? =some v:=by
 rw[List.getElem?_append_left (List.getElem?_eq_some_iff.1 h).1];exact h
theorem yYX{l r:List CV}{k:Nat}{v}(h:l[k]? =some v):(l++r)[k]? =some v:=by
 rw[List.getElem?_append_left (List.getElem?_eq_some_iff.1 h).1];exact h
theorem Sim.takes(h:Sim c st tmps w S ρ){as l cl cvs caps sz a}(hr:RepAs w S ρ as l)(hc:toCVs [] 1 as=some cvs)(ho:argOwn st.tk as sz a):
  ∃X,TakesX c.P w S X (cvs++caps) (l++cl) sz a∧Sim c {st with tk:=tkUse (ownTok as a) st.tk} tmps w S ρ∧(∀b∈X,Handed c {st with tk:=tkUse (ownTok as a) st.tk} w ρ b):=by
 cases a with
 |none=>exact⟨[],rfl,h,fun b hb=>by cases hb⟩
 |some k=>
  simp only[argOwn,ownTok]at ho⊢;split at ho
  ·rename_i u sz' es hk;obtain⟨rfl,hu⟩:=ho;obtain⟨v,cv,h1,h2,h3,h4⟩:=yYC hr hc hk (by simp);simp only[hk,tkUse];obtain⟨hl,hlen,base,n,cap,htok,hv⟩:=h2;simp only[AV.toCV,AV.toD,Option.some.injEq]at h4;subst h4;obtain⟨x,g1,g2⟩:=h.tok u hu;rw[htok]at g1;cases g1;rcases g2 with g2|⟨b,k0,k1,⟨cur,e,k2,k2'⟩,k3,k4,k5,k6,k7⟩
   ·exact⟨[],⟨es,v,yYX h3,hlen,yvq h1,base,n,cap,hv,.inl g2⟩,h.kill u,fun b hb=>by cases hb⟩
   ·refine⟨[b],⟨es,v,yYX h3,hlen,yvq h1,base,n,cap,hv,.inr ⟨b,k0,⟨rfl,?_⟩,⟨cur,e,k2,k2'⟩,k3,k4,k5⟩⟩,h.kill u,fun b' hb=>?_⟩
    ·rcases k1 with k1|⟨_,k1⟩
     ·exact Nat.le_trans h.ex.1 k1
     ·exact k1
    ·rw[List.mem_singleton]at hb;subst hb;refine⟨k1,⟨cur,e,k2⟩,k6,fun t b'' y ht hb hy=>?_⟩;obtain⟨ht1,ht2⟩:=zxe ht;exact k7 t b'' y ht2 ht1 hb hy
  ·rename_i es hk;obtain⟨v,cv,h1,h2,h3,h4⟩:=yYC hr hc hk (by simp);simp only[hk,tkUse];obtain⟨hl,base,n,hv⟩:=h2;simp only[AV.toCV,AV.toD,Option.some.injEq]at h4;subst h4;exact⟨[],⟨es,v,yYX h3,ho,yvq h1,base,n,n,hv,.inl rfl⟩,h,fun b hb=>by cases hb⟩
  ·exact ho.elim
theorem yVh{u tk t}(h:getT tk t=none):getT (tkUse u tk) t=none:=by
 cases u with
 |none=>exact h
 |some u=>exact zvm.2 h
theorem Sim.gotOwn(h:Sim c st tmps w S ρ){w' S' X}(hX:∀b∈X,Handed c st w ρ b)(hb:BelowO (OwnX c.P w X) w w')(hk:Keeps w S w' S')(hS':∀b o,S' b o→S b o∨OwnX c.P w X b)(hl:Live w' S')
  {es} {sz} {v} (hv:Rep w' S' (.lst es) v) (hlen:∀e∈es,e.length=sz) (hroom:Room (OwnX c.P w X) w' S' sz v) {d} (hd:getT st.tk d=none):
  ∃ρ',Sim c {st with tk:=(d,true)::st.tk} tmps w' S' ρ'∧RepA w' S' ρ' (.own d sz es) v:=by
 have hs:=h.growX hX hb hk hS' hl;obtain⟨base,n,cap,hv',hr⟩:=hroom;obtain⟨ρ',hle,htok,hs'⟩:=hs.newTok (d:=d) hd none (tk':=(d,true)::st.tk) (fun t=>by
  simp only[getT,reduceCtorEq,if_false];by_cases ht:d=t
  ·subst ht;simp
  ·rw[if_neg ht,if_neg (fun e=>ht e.symm)]) (base,n,cap,sz) (by
  rcases hr with hr|⟨b,k0,k1,k2,k3,k4,k5⟩
  ·exact .inl hr
  ·refine .inr ⟨b,k0,?_,k2,k3,k4,k5,fun s hsb=>?_,fun t b' y _ ht hb' hy=>?_⟩
   ·rcases k1 with k1|⟨k1,_⟩
    ·exact .inl (Nat.le_trans h.below.size k1)
    ·exact(hX b k1).1
   ·rcases k1 with k1|⟨k1,_⟩
    ·have:=h.yJw hsb;omega
    ·exact(hX b k1).2.2.1 s hsb
   ·rcases k1 with k1|⟨k1,_⟩
    ·have:=h.yJR ht hb' hy;omega
    ·exact(hX b k1).2.2.2 t b' y ht hb' hy)
 exact⟨ρ',hs',hv,hlen,base,n,cap,htok,hv'⟩
end Go.Abs
end
