import Derived.Orders
import Derived.WalkKit
import Derived.ChangeKeysEq
import Derived.DeepKeys3
open Nat renaming beq→ae,eq_of_beq_eq_true→ag,ble→ai,blt→ar,lt_of_succ_lt_succ→aw,le_trans→a6,zero_lt_succ→a8,succ_lt_succ→ba,testBit→bc,noConfusion→be,le_refl→bj
open List renaming getElem?_eq_getElem→bm,replicate→bx,getD_eq_getElem?_getD→cb
open BitVec renaming ofInt→cf
open Bool renaming and_eq_true→ch
section
namespace Go.Am
inductive PV where
 |bK
 |sc (v:Value)
 |pp (off:Nat) (cells:List PV)
 |ps (len sz:Nat) (cells:List PV)
 |mW (t:TypeId) (v:PV)
 deriving Inhabited
inductive AV where
 |aj
 |p (v:PV)
 |os (tok:Option Nat) (len sz:Nat) (cells:List PV)
 |mp (b off:Nat)
 |ms (b off len sz:Nat) (cap:Option Nat)
 |fn (f:Fn) (first captured:List AV)
 |agg (cells:List AV)
 |aA (vs:List AV)
 |mW (t:TypeId) (v:AV)
 |vm (b:Nat)
 |vy (b:Nat)
 deriving Inhabited
inductive aG where
 |map (keys:List Value) (VI:List Nat) (clock:Nat)
 |J4
 |shut
 |loop (f:FuncId) (ps:Array Tmp) (assign body:Code) (state:LoopState) (pending:Option Code)
 |iter (s:ByteArray) (pos:Nat)
 |gr (t:TypeId) (q:Bool)
 |J5 (keys:List Value)
 |opq
 |Sr (s:ByteArray) (pos:Nat) (more:Bool)
 |stk (t:TypeId) (pre:List Value)
 |gb (t:TypeId)
 |smap (ns:List ByteArray)
 deriving Inhabited
inductive aU where
 |free
 |dead
 |pc (cells:List PV)
 |ac (cells:List AV)
 |tok
 |ob (k:aG) (vals:List AV)
 deriving Inhabited
abbrev Mem:=List aU
abbrev sA:=List (Nat×AV)
abbrev mX:=List (Nat×aU)
abbrev sI (k:IntKind) (n:Int):AV:= .p (.sc (.int k n))
abbrev sB (b:Bool):AV:= .p (.sc (.bool b))
def look:sA→Nat→AV
 |[],_=> .aj
 |(k,v)::r,i=>cond (ae k i) v (look r i)
def eH:Value→AV
 |.slice none 0 0=> .os none 0 0 []
 |v=> .p (.sc v)
def Se:Value→AV
 |.agg cs=> .agg (cs.toList.map eH)
 |.tuple vs=> .aA (vs.toList.map eH)
 |v=>eH v
def Mn:AV→Option Value
 |.p (.sc v)=>some v
 |_=>none
def wj:List AV→Option (List Value)
 |[]=>some []
 |a::r=>match Mn a,wj r with
  |some v,some vs=>some (v::vs)
  |_,_=>none
def J6:AV→Option Value
 |.p (.sc v)=>some v
 |.agg l=>(wj l).map fun vs=> .agg vs.toArray
 |.aA l=>(wj l).map fun vs=> .tuple vs.toArray
 |_=>none
def lN:AV→Bool
 |.p .bK=>false
 |.p (.sc v)=>v.oneCell'
 |.p _ | .os .. | .mp .. | .ms .. | .fn .. | .mW .. | .vm _ | .vy _=>true
 |_=>false
def jD:List AV→Bool
 |[]=>true
 |a::r=>lN a&&jD r
def cellsOf:AV→List AV×Bool
 |.agg l=>(l,jD l)
 |v=>([v],lN v)
def J7:AV→Option PV
 |.p v=>some v
 |.os _ len sz cells=>some (.ps len sz cells)
 |_=>none
def mL:List AV→Option (List PV)
 |[]=>some []
 |a::r=>match J7 a,mL r with
  |some v,some vs=>some (v::vs)
  |_,_=>none
def qw:List AV→Bool
 |[]=>true
 |.p _::r=>qw r
 |_::_=>false
def mO:AV→PV
 |.p v=>v
 |_=> .bK
def J8 (l:List AV):Option (List PV):=cond (qw l) (some (l.map mO)) none
def Dj (l:List AV):aU:=
 match J8 l with
 |some vs=> .pc vs
 |none=> .ac l
def cZ {α:Type} (l:List α) (off:Nat):List α→List α
 |[]=>l
 |v::r=>cZ (l.set off v) (off+1) r
def mP {α:Type} (d:α) (l:List α) (off:Nat):Nat→List α
 |0=>[]
 |n+1=>l.getD off d::mP d l (off+1) n
def gN {α:Type} (P:Program):Sem α→Option α
 |.pure a=>some a
 |.program k=>gN P (k P)
 |.mark _ k=>gN P k
 |_=>none
def tY (ρ:Operand→AV):List Operand→Bool
 |[]=>true
 |x::r=>(J6 (ρ x)).isSome&&tY ρ r
def scalar (P:Program) (ρ:Operand→AV) (o:Oper):Option AV:=
 cond (tY ρ o.op.operands.toList)
  (match gN P (execOp (fun x=>(J6 (ρ x)).getD undef) o) with
    |some (.value v)=>some (Se v)
    |_=>none)
  none
def fZ (P:Program) (t:TypeId):Option Nat:=(P.info? t).map (·.size)
def Ss (P:Program) (t:TypeId):Option Bool:=
 match P.underlying t with
 |some (.struct _) | some (.array _ _)=>some true
 |some _=>some false
 |none=>none
def isInt (k:IntKind):PV→Bool
 |.sc (.int j _)=>j==k
 |_=>false
def az:PV→Int
 |.sc (.int _ n)=>n
 |_=>0
def isBool:PV→Bool
 |.sc (.bool _)=>true
 |_=>false
def bu:PV→Bool
 |.sc (.bool b)=>b
 |_=>false
def isStr:PV→Bool
 |.sc (.string _)=>true
 |_=>false
def bI:PV→ByteArray
 |.sc (.string s)=>s
 |_=> .empty
def bB:PV→Bool
 |.ps .. =>true
 |_=>false
def aD:PV→Nat
 |.ps len _ _=>len
 |_=>0
def bh:PV→Nat
 |.ps _ sz _=>sz
 |_=>0
def au:PV→List PV
 |.ps _ _ cs=>cs
 |_=>[]
def isOk:PV→Bool
 |.bK=>false
 |_=>true
def gD (d:Option TypeDesc) (c:PV):PV×Bool:=
 match d with
 |some (.int k)=>(.sc (.int k (az c)),isInt k c)
 |some .bool=>(.sc (.bool (bu c)),isBool c)
 |some .string=>(.sc (.string (bI c)),isStr c)
 |some (.slice _)=>(.ps (aD c) (bh c) (au c),bB c)
 |_=>(c,isOk c)
def bC (d:Option TypeDesc):AV→AV×Bool
 |.p c=>(.p (gD d c).1,(gD d c).2)
 |v=>(v,true)
def vu (P:Program):Nat→TypeId→List (Option TypeDesc)
 |0,_=>[]
 |n+1,t=>match P.underlying t with
  |some (.struct fs)=>fs.toList.flatMap fun f=>vu P n f.type
  |some (.array k e)=>(bx k (vu P n e)).flatten
  |d=>[d]
def qx:List (Option TypeDesc)→List AV→List AV×Bool
 |d::ds,a::r=>((bC d a).1::(qx ds r).1,(bC d a).2&&(qx ds r).2)
 |[],[]=>([],true)
 |_,_=>([],false)
def lO (rd:Nat→aU) (a:AV) (n:Nat):Option (List AV×Bool):=
 match a with
 |.p (.pp off cs)=>some ((mP .bK cs off n).map .p,true)
 |.mp b off=>match rd b with
  |.pc l=>some ((mP .bK l off n).map .p,true)
  |.ac l=>some (mP .aj l off n,ai (off+n) l.length)
  |.ob (.gr _ _) l=>some (mP .aj l off n,ai (off+n) l.length)
  |.ob (.stk _ pre) l=>some (mP .aj l (off-pre.length) n,ai pre.length off&&ai (off-pre.length+n) l.length)
  |_=>none
 |_=>none
def kL (P:Program) (rd:Nat→aU) (t:TypeId) (a:AV):Option (AV×Bool):=
 match Ss P t,fZ P t with
 |some true,some n=>(lO rd a n).map fun r=>(.agg (qx (vu P 20 t) r.1).1,r.2&&(qx (vu P 20 t) r.1).2)
 |some false,some _=>match lO rd a 1 with
  |some ([v],ok)=>some ((bC (P.underlying t) v).1,ok&&(bC (P.underlying t) v).2)
  |_=>none
 |_,_=>none
def Dk:AV→AV
 |.os _ len sz cs=> .p (.ps len sz cs)
 |v=>v
def Mp (q:Bool) (vs:List AV):List AV:=cond q (vs.map Dk) vs
def qy (b:aU) (off:Nat) (vs:List AV):Option (aU×Bool):=
 match b with
 |.pc l=>match J8 vs with
  |some aJ=>some (.pc (cZ l off aJ),ai (off+vs.length) l.length)
  |none=>some (.ac (cZ (l.map .p) off vs),ai (off+vs.length) l.length)
 |.ac l=>some (.ac (cZ l off vs),ai (off+vs.length) l.length)
 |.ob (.gr t q) l=>some (.ob (.gr t q) (cZ l off (Mp q vs)),ai (off+vs.length) l.length)
 |.ob (.stk t pre) l=>some (.ob (.stk t pre) (cZ l (off-pre.length) vs),ai pre.length off&&ai (off-pre.length+vs.length) l.length)
 |_=>none
abbrev j8:=Option (AV×mX×Bool)
def qz (P:Program) (rd:Nat→aU) (t:TypeId) (a v:AV):j8:=
 match a,fZ P t with
 |.mp b off,some n=>match qy (rd b) off (cellsOf v).1 with
  |some (b',ok)=>some (.aA [],[(b,b')],ok&&(cellsOf v).2&&ae (cellsOf v).1.length n)
  |none=>none
 |_,_=>none
def checked (l:List AV):Option (List AV):=cond (jD l) (some l) none
def zeroCells (P:Program) (t:TypeId):Option (List AV):=
 match(P.info? t).bind (·.zero) with
 |some (.agg cs)=>checked (cs.toList.map eH)
 |some v=>checked [eH v]
 |none=>none
def BS (P:Program) (br:Nat) (t:TypeId):j8:=
 (zeroCells P t).map fun l=>(.mp br 0,[(br,Dj l)],true)
def wk (P:Program) (br:Nat) (t:TypeId):j8:=
 (zeroCells P t).map fun l=>(.mp br 0,[(br,.ob (.gr t false) l)],true)
def Mq (br:Nat) (v:AV):j8:=some (.mp br 0,[(br,Dj (cellsOf v).1)],(cellsOf v).2)
def tZ (place:Nat→Option (Nat×Nat)) (cells:List AV):List (Nat×AV)→Option (List AV×Bool)
 |[]=>some (cells,true)
 |(i,v)::r=>match place i with
  |some (off,size)=>match tZ place (cZ cells off (cellsOf v).1) r with
   |some (cs,ok)=>some (cs,(cellsOf v).2&&ae (cellsOf v).1.length size&&ai (off+size) cells.length&&ok)
   |none=>none
  |none=>none
def placesOf (P:Program):List Field→Option (List (Nat×Nat))
 |[]=>some []
 |f::r=>match fZ P f.type,placesOf P r with
  |some n,some l=>some ((f.offset,n)::l)
  |_,_=>none
def vv (P:Program) (t:TypeId) (parts:List (Nat×AV)):Option (AV×Bool):=
 match zeroCells P t,P.underlying t with
 |some z,some (.struct fields)=>match placesOf P fields.toList with
  |some pl=>(tZ (fun i=>pl[i]?) z parts).map fun r=>(.agg r.1,r.2)
  |none=>none
 |some z,some (.array _ elem)=>match fZ P elem with
  |some size=>(tZ (fun i=>some (i*size,size)) z parts).map fun r=>(.agg r.1,r.2)
  |none=>none
 |_,_=>none
def dn {α:Type} (z:List α):Nat→List α
 |0=>[]
 |n+1=>z++dn z n
def zeros (P:Program) (elem:TypeId) (n:Nat):Option (List AV):=
 match fZ P elem,zeroCells P elem with
 |some size,some z=>cond (ae z.length size&&ai 1 size) (match z with
  |[v]=>some (bx n v)
  |z=>some (dn z n)) none
 |_,_=>none
def Mr (P:Program) (elem:TypeId) (n:Nat):Option aU:=
 match fZ P elem,zeroCells P elem with
 |some size,some z=>cond (ae z.length size&&ai 1 size) (match J8 z with
  |some [v]=>some (.pc (bx n v))
  |some z=>some (.pc (dn z n))
  |none=>some (.ac (dn z n))) none
 |_,_=>none
def FR (P:Program) (elem:TypeId) (wr:Bool) (cells:List AV):Option (List PV):=
 match wr,P.underlying elem with
 |true,some (.int .u8)=>none
 |_,_=>mL cells
def lP (P:Program) (wr:Bool) (br:Nat) (t:TypeId) (len:Nat) (parts:List (Nat×AV)):j8:=
 match P.underlying t with
 |some (.slice elem)=>match fZ P elem,zeros P elem len with
  |some size,some z=>match tZ (fun i=>some (i*size,size)) z parts with
   |some (cells,ok)=>match wr,FR P elem wr cells with
    |false,some aJ=>some (.os none len size aJ,[],ok&&ai (len*size) 16777216)
    |true,some aJ=>some (.ms br 0 len size none,[(br,.ob (.gr elem true) (aJ.map .p))],ok&&ai (len*size) 16777216)
    |_,none=>some (.ms br 0 len size (some len),[(br,Dj cells)],ok&&ai (len*size) 16777216)
   |none=>none
  |_,_=>none
 |_=>none
def ef:Nat:=70368744177664
def m0 (P:Program) (br:Nat) (t:TypeId) (len cap:AV):j8:=
 match P.underlying t,len,cap with
 |some (.slice elem),.p (.sc (.int _ l)),.p (.sc (.int _ c))=>match P.info? elem,Mr P elem c.toNat with
  |some info,some bS=>some (.ms br 0 l.toNat info.size (some c.toNat),[(br,bS)],
    decide (0≤l)&&decide (l≤c)&&ai c.toNat ef&&ai (info.bytes*c.toNat) ef)
  |_,_=>none
 |_,_,_=>none
set_option linter.unusedVariables false in
def pK (P:Program) (t:TypeId) (len cap:AV):j8:=none
def lQ:AV→Nat→Option AV
 |.p (.pp off cs),n=>some (.p (.pp (off+n) cs))
 |.mp b off,n=>some (.mp b (off+n))
 |_,_=>none
def kj (P:Program) (t:TypeId) (x:AV) (f:Nat):Option AV:=
 match P.underlying t with
 |some (.struct fields)=>match fields[f]? with
  |some fd=>match fZ P fd.type with
   |some n=>cond (ai 1 n) (lQ x fd.offset) none
   |none=>none
  |none=>none
 |_=>none
def partOf (P:Program) (t:TypeId) (cs:List AV) (off:Nat):Option (AV×Bool):=
 match Ss P t,fZ P t with
 |some true,some n=>some (.agg (mP .aj cs off n),ai (off+n) cs.length)
 |some false,some _=>some (cs.getD off .aj,ar off cs.length)
 |_,_=>none
def vw (P:Program) (t:TypeId) (x:AV) (f:Nat):Option (AV×Bool):=
 match P.underlying t,x with
 |some (.struct fields),.agg cs=>match fields[f]? with
  |some fd=>partOf P fd.type cs fd.offset
  |none=>none
 |_,_=>none
def bp (i:Int) (len:Nat):Bool:=decide (0≤i)&&decide (i<len)
def ko (P:Program) (t:TypeId) (x i:AV):Option (AV×Bool):=
 match i,P.underlying t with
 |.p (.sc (.int _ n)),some (.array len elem)=>match fZ P elem with
  |some size=>(lQ x (n.toNat*size)).map fun v=>(v,bp n len)
  |none=>none
 |.p (.sc (.int _ n)),some (.slice elem)=>match fZ P elem,x with
  |some size,.p (.ps len sz cs)=>some (.p (.pp (n.toNat*size) cs),bp n len&&ae sz size)
  |some size,.os _ len sz cs=>some (.p (.pp (n.toNat*size) cs),bp n len&&ae sz size)
  |some size,.ms b off len sz _=>some (.mp b (off+n.toNat*size),bp n len&&ae sz size)
  |_,_=>none
 |_,_=>none
def vA (P:Program) (t:TypeId) (x i:AV):Option (AV×Bool):=
 match x,i with
 |.agg cs,.p (.sc (.int _ n))=>match P.underlying t with
  |some (.array len elem)=>match fZ P elem,partOf P elem cs (n.toNat*(fZ P elem).getD 0) with
   |some _,some (v,ok)=>some (v,bp n len&&ok)
   |_,_=>none
  |_=>none
 |.p (.sc (.string s)),.p (.sc (.int _ n))=>match P.underlying t with
  |some .string=>some (sI .u8 (s.data.toList.getD n.toNat 0).toNat,bp n s.data.toList.length)
  |_=>none
 |_,_=>none
def bound (ρ:Operand→AV) (x:Option Operand) (dflt:Nat):Option (Nat×Bool):=
 match x with
 |none=>some (dflt,true)
 |some x=>match ρ x with
  |.p (.sc (.int _ n))=>some (n.toNat,decide (0≤n))
  |_=>none
def cut {α:Type} (cs:List α) (lo hi:Option Nat):List α:=
 match lo,hi with
 |none,none=>cs
 |some l,none=>cs.drop l
 |none,some h=>cs.take h
 |some l,some h=>(cs.take h).drop l
def times (x:Option Operand) (n sz:Nat):Option Nat:=x.map fun _=>n*sz
def og (P:Program) (ρ:Operand→AV) (t:TypeId) (x:AV) (low high mx:Option Operand):Option (AV×Bool):=
 match P.underlying t with
 |some (.array n elem)=>match fZ P elem,bound ρ low 0,bound ρ high n,mx,x with
  |some size,some (l,a),some (h,b),none,.mp i off=>some (.ms i (cond (ae n l) off (off+l*size)) (h-l) size (some (n-l)),a&&b&&ai l h&&ai h n)
  |_,_,_,_,_=>none
 |some (.slice elem)=>match fZ P elem,bound ρ low 0,x with
  |some size,some (l,a),.p (.ps len sz cs)=>match bound ρ high len,mx with
   |some (h,b),none=>some (.p (.ps (h-l) size (cut cs (times low l size) (times high h size))),a&&b&&ai l h&&ai h len&&ae sz size)
   |some (h,b),some m=>match bound ρ (some m) 0 with
    |some (m,c)=>some (.os none (h-l) size (cut cs (times low l size) (times high h size)),a&&b&&c&&ai l h&&ai h len&&ae m h&&(high.isSome&&ae sz size))
    |none=>none
   |_,_=>none
  |some size,some (l,a),.os tok len sz cs=>match bound ρ high len,mx with
   |some (h,b),none=>match high with
    |none=>some (.os tok (h-l) size (cut cs (times low l size) none),a&&b&&ai l h&&(ae sz size||(ae len 0&&(ai 1 size&&tok.isNone))))
    |some _=>match tok,ae h len with
     |none,true=>some (.os none (h-l) size (cut cs (times low l size) (some (h*size))),a&&b&&ai l h&&ai h len&&(ae sz size||(ae len 0&&ai 1 size)))
     |_,_=>some (.p (.ps (h-l) size (cut cs (times low l size) (some (h*size)))),a&&b&&ai l h&&ai h len&&(ae sz size||(ae len 0&&ai 1 size)))
   |some (h,b),some m=>match bound ρ (some m) 0 with
    |some (m,c)=>some (.os none (h-l) size (cut cs (times low l size) (times high h size)),a&&b&&c&&ai l h&&ai h len&&ae m h&&(high.isSome&&(ae sz size||(ae len 0&&ai 1 size))))
    |none=>none
   |_,_=>none
  |some size,some (l,a),.ms i off len sz none=>match bound ρ high len,mx with
   |some (h,b),none=>some (.ms i (off+l*size) (h-l) size none,a&&b&&ai l h&&ai h len&&ae sz size&&(ae l 0||ar l len))
   |some (h,b),some m=>match bound ρ (some m) 0 with
    |some (m,c)=>some (.ms i (cond (ae m l) off (off+l*size)) (h-l) size (some (m-l)),a&&b&&c&&ai l h&&ai h m&&ai m len&&(high.isSome&&ae sz size))
    |none=>none
   |_,_=>none
  |some size,some (l,a),.ms i off len sz (some cap)=>match bound ρ high len,mx with
   |some (h,b),none=>some (.ms i (cond (ae cap l) off (off+l*size)) (h-l) size (some (cap-l)),a&&b&&ai l h&&ai h cap&&ae sz size)
   |_,_=>none
  |_,_,_=>none
 |some .string=>match bound ρ low 0,x,mx with
  |some (l,a),.p (.sc (.string s)),none=>match bound ρ high s.data.toList.length with
   |some (h,b)=>some (.p (.sc (.string (s.extract l h))),a&&b&&ai l h&&ai h s.data.toList.length)
   |none=>none
  |_,_,_=>none
 |_=>none
def byteOf:PV→UInt8
 |.sc (.int .u8 n)=>UInt8.ofNat n.toNat
 |_=>0
def isByte:PV→Bool
 |.sc (.int .u8 _)=>true
 |_=>false
def lR (b:UInt8):PV:= .sc (.int .u8 b.toNat)
def contents (rd:Nat→aU) (sz:Nat):AV→Option (Nat×List PV×Bool)
 |.p (.ps len s cs)=>some (len,cs,ae s sz||(ae len 0&&ai 1 sz))
 |.os _ len s cs=>some (len,cs,ae s sz||(ae len 0&&ai 1 sz))
 |.ms b off len s (some _)=>match rd b with
  |.pc l=>some (len,(l.drop off).take (len*sz),ae s sz&&ai (off+len*sz) l.length)
  |.ac l=>(mL ((l.drop off).take (len*sz))).map fun aJ=>(len,aJ,ae s sz&&ai (off+len*sz) l.length)
  |.ob (.gr _ true) l=>some (len,((l.drop off).take (len*sz)).map mO,qw ((l.drop off).take (len*sz))&&(ae s sz&&ai (off+len*sz) l.length))
  |.ob (.gr _ false) l=>(mL ((l.drop off).take (len*sz))).map fun aJ=>(len,aJ,ae s sz&&ai (off+len*sz) l.length)
  |_=>none
 |.ms b off len s none=>match rd b with
  |.ob (.gr _ true) l=>some (len,((l.drop off).take (len*sz)).map mO,qw ((l.drop off).take (len*sz))&&(ae s sz&&ai (off+len*sz) l.length))
  |.ob (.gr _ false) l=>(mL ((l.drop off).take (len*sz))).map fun aJ=>(len,aJ,ae s sz&&ai (off+len*sz) l.length)
  |.ob (.gb _) l=>some (len,((l.drop off).take (len*sz)).map mO,qw ((l.drop off).take (len*sz))&&(ae s sz&&ai (off+len*sz) l.length))
  |_=>none
 |.p (.sc (.string s))=>some (s.data.toList.length,s.data.toList.map lR,ae sz 1)
 |_=>none
def convertOp (P:Program) (rd:Nat→aU) (br:Nat) (ρ:Operand→AV) (o:Oper) (src dst:TypeId) (x:AV):j8:=
 match P.underlying dst,x with
 |some (.int k),.p (.sc (.int _ n))=>match P.underlying src with
  |some _=>some (sI k (k.wrap n),[],true)
  |none=>none
 |some .string,.p (.sc (.string s))=>match P.underlying src with
  |some .string=>some (.p (.sc (.string s)),[],true)
  |_=>none
 |some (.slice e),.p (.sc (.string s))=>match P.underlying src,P.underlying e with
  |some .string,some (.int .u8)=>some (.os (some br) s.data.toList.length 1 (s.data.toList.map lR),[(br,.tok)],true)
  |_,_=>none
 |some (.slice e),.ms b off len sz (some _)=>match P.underlying src,P.underlying e,rd b with
  |some (.slice _),some (.int .u8),.pc l=>some (.p (.ps len 1 ((l.drop off).take len)),[(b,.dead)],ae src dst&&(ae sz 1&&ai (off+len) l.length))
  |_,_,_=>none
 |some .unsafePointer,.mp b off=>match P.underlying src,rd b with
  |some (.pointer t),.ob (.gr _ _) l=>match P.info? t with
   |some j=>some (.mp b off,[],ai 1 j.size&&ar off l.length)
   |none=>none
  |_,_=>none
 |some (.pointer u),.mp b 0=>match P.underlying src,rd b with
  |some .unsafePointer,.ob (.gr t _) l=>match P.info? u with
   |some _=>some (.mp b 0,[],ae t u&&(ai 1 (P.cellsOf u)&&ai (P.cellsOf u) l.length))
   |none=>none
  |_,_=>none
 |some .string,x=>match P.underlying src with
  |some (.slice e)=>match P.underlying e with
   |some (.int .u8)=>match contents rd 1 x with
    |some (_,aJ,ok)=>some (.p (.sc (.string ⟨(aJ.map byteOf).toArray⟩)),[],ok&&aJ.all isByte)
    |none=>none
   |_=>none
  |_=>none
 |_,_=>(scalar P ρ o).map fun v=>(v,[],true)
def kq:AV→Bool
 |.p (.sc (.pointer none)) | .p (.sc .nilFunc) | .p (.sc .nilIface)=>true
 |_=>false
def kr:AV→Bool
 |.p (.pp ..) | .mp .. | .fn .. | .p (.mW ..) | .mW .. =>true
 |_=>false
def FT (op:BinOp) (k:IntKind) (x:Int) (yk:IntKind) (y:Int):Option (Value×Bool):=
 match op with
 |.add=>some (.int k (k.wrap (x+y)),k==yk)
 |.sub=>some (.int k (k.wrap (x-y)),k==yk)
 |.mul=>some (.int k (k.wrap (x*y)),k==yk)
 |.quo=>some (.int k (k.wrap (x.tdiv y)),k==yk && !(y==0))
 |.rem=>some (.int k (x.tmod y),k==yk && !(y==0))
 |.and=>some (.int k (k.wrap (cf k.bits x&&&cf k.bits y).toNat),k==yk)
 |.or=>some (.int k (k.wrap (cf k.bits x|||cf k.bits y).toNat),k==yk)
 |.xor=>some (.int k (k.wrap (cf k.bits x ^^^ cf k.bits y).toNat),k==yk)
 |.andNot=>some (.int k (k.wrap (cf k.bits x &&& ~~~cf k.bits y).toNat),k==yk)
 |.shl=>some (.int k (k.wrap (x*2 ^ min y.toNat k.bits)),decide (0≤y))
 |.shr=>some (.int k (x.fdiv (2 ^ min y.toNat k.bits)),decide (0≤y))
 |.eql=>some (.bool (x==y),k==yk)
 |.neq=>some (.bool (x != y),k==yk)
 |.lss=>some (.bool (x<y),k==yk)
 |.leq=>some (.bool (x≤y),k==yk)
 |.gtr=>some (.bool (x>y),k==yk)
 |.geq=>some (.bool (x≥y),k==yk)
def FU (op:BinOp) (x y:ByteArray):Option (Value×Bool):=
 match op with
 |.add=>some (.string (x++y),ai (x.data.toList.length+y.data.toList.length) ef)
 |.eql=>some (.bool (x.data.toList==y.data.toList),true)
 |.neq=>some (.bool (!(x.data.toList==y.data.toList)),true)
 |.lss=>some (.bool (Op.bytesLess x.data.toList y.data.toList),true)
 |_=>none
def gO (P:Program):Nat→List Field→List AV→List AV→Option Bool
 |_,[],[],[]=>some true
 |i,f::fs,x::xs,y::ys=>match P.underlying f.type,x,y with
  |some (.int _),.p (.sc (.int k a)),.p (.sc (.int k' b))=>cond (k==k'&&ae f.offset i&&f.name != "_" && P.plainKey f.type) ((gO P (i+1) fs xs ys).map fun r=>(a==b)&&r) none
  |some .bool,.p (.sc (.bool a)),.p (.sc (.bool b))=>cond (ae f.offset i&&f.name != "_" && P.plainKey f.type) ((gO P (i+1) fs xs ys).map fun r=>(a==b)&&r) none
  |some .string,.p (.sc (.string a)),.p (.sc (.string b))=>cond (ae f.offset i&&f.name != "_" && P.plainKey f.type) ((gO P (i+1) fs xs ys).map fun r=>(a.data.toList==b.data.toList)&&r) none
  |_,_,_=>none
 |_,_,_,_=>none
def Dl (P:Program) (t:TypeId) (x y:AV):Option Bool:=match x,y with
 |.agg xs,.agg ys=>match P.underlying t with
  |some (.struct fs)=>cond (!P.stoodInHeld t && !P.eqGuardType P.depth t) (gO P 0 fs.toList xs ys) none
  |_=>none
 |_,_=>none
def HP (P:Program) (o:Oper) (x y:AV):Option Bool:=match o.op with
 |.binOp _ t _ _ _=>Dl P t x y
 |_=>none
def qA (P:Program) (ρ:Operand→AV) (o:Oper) (op:BinOp) (x y:AV):Option (AV×Bool):=
 match x,y with
 |.p (.sc (.int k a)),.p (.sc (.int k' b))=>(FT op k a k' b).map fun r=>(.p (.sc r.1),r.2)
 |.p (.sc (.string a)),.p (.sc (.string b))=>(FU op a b).map fun r=>(.p (.sc r.1),r.2)
 |x,y=>match op with
  |.eql=>match HP P o x y with
   |some b=>some (sB b,true)
   |none=>cond ((kq x&&kr y)||(kr x&&kq y)) none ((scalar P ρ o).map fun v=>(v,true))
  |.neq=>match HP P o x y with
   |some b=>some (sB !b,true)
   |none=>cond ((kq x&&kr y)||(kr x&&kq y)) none ((scalar P ρ o).map fun v=>(v,true))
  |_=>none
def wm (P:Program) (ρ:Operand→AV) (o:Oper) (op:UnOp) (x:AV):Option (AV×Bool):=
 match op,x with
 |.not,.p (.sc (.bool b))=>some (sB !b,true)
 |.neg,.p (.sc (.int k n))=>some (sI k (k.wrap (0-n)),true)
 |_,_=>(scalar P ρ o).map fun v=>(v,true)
def oh (rd:Nat→aU) (br:Nat):Option Nat→Option mX
 |none=>some [(br,.tok)]
 |some t=>match rd t with
  |.tok=>some [(t,.dead),(br,.tok)]
  |_=>none
def iL (P:Program) (rd:Nat→aU) (br:Nat) (argTypes:Array TypeId) (s x:AV):j8:=
 match argTypes[0]?,argTypes[1]? with
 |some sType,some xType=>match P.underlying sType,P.underlying xType with
  |some (.slice _),some (.int _)=>none
  |some (.slice elem),some _=>match P.info? elem,zeroCells P elem with
   |some info,some z=>match contents rd info.size x,s with
    |some (n,aJ,ok),.os tok len sz cs=>(oh rd br tok).map fun us=>(.os (some br) (len+n) info.size (cs++aJ),us,
      ok&&(ae sz info.size||(ae len 0&&tok.isNone))&&ai 1 info.size&&ae z.length info.size&&ai ((len+n)*info.bytes) ef&&ai (len+n) ef)
    |_,_=>none
   |_,_=>none
  |_,_=>none
 |_,_=>none
def jx:aU→Option (List AV)
 |.pc l=>some (l.map .p)
 |.ac l=>some l
 |.ob (.gr _ _) l=>some l
 |_=>none
def cO (rd:Nat→aU) (sz:Nat) (x:AV):Option (Nat×List AV×Bool):=
 match contents rd sz x with
 |some (n,aJ,ok)=>some (n,aJ.map .p,ok)
 |none=>match x with
  |.ms b off len s (some _)=>match rd b with
   |.ac l=>some (len,((l.drop off).take (len*sz)).map Dk,ae s sz&&ai (off+len*sz) l.length)
   |_=>none
  |_=>none
def jE (rd:Nat→aU) (sz:Nat) (x:AV):Bool:=(contents rd sz x).isSome
def aa6:aU→Bool
 |.pc _=>true
 |.ob (.gr _ q) _=>q
 |_=>false
def aa7:Option TypeDesc→Bool
 |some (.int .u8)=>true
 |_=>false
def aa8:AV→Bool
 |.p v=>isByte v
 |_=>false
def allBy:List AV→Bool
 |[]=>true
 |a::r=>aa8 a&&allBy r
def fB (P:Program) (rd:Nat→aU) (br:Nat) (argTypes:Array TypeId) (s x:AV):j8:=
 match argTypes[0]?,argTypes[1]? with
 |some sType,some xType=>match P.underlying sType,P.underlying xType with
  |some (.slice _),some (.int _)=>none
  |some (.slice elem),some _=>match P.info? elem,zeroCells P elem with
   |some info,some z=>match cO rd info.size x with
    |some (n,aJ,ok)=>
     let fits:=fun(len:Nat)=>ok&&(ai 1 info.size&&(ae z.length info.size&&(ai ((len+n)*info.bytes) ef&&ai (len+n) ef)))
     match s with
     |.ms b 0 len sz none=>match rd b with
      |.ob (.gr t q) l=>some (.ms br 0 (len+n) sz none,[(b,.dead),(br,.ob (.gr t (q&&jE rd info.size x)) (l.take (len*sz)++aJ))],fits len&&(ae sz info.size&&(ai (len*sz) l.length&&ae t elem)))
      |.ob (.gb t) l=>some (.ms br 0 (len+n) sz none,[(b,.dead),(br,.ob (.gb t) (l++aJ))],fits len&&(ae sz info.size&&(ae (len*sz) l.length&&(ae t elem&&(ae info.size 1&&(allBy z&&allBy aJ))))))
      |.ob (.stk t pre) l=>some (.ms br 0 (len+n) sz none,[(b,.dead),(br,.ob (.stk t pre) (l.take (len*sz-pre.length)++aJ))],fits len&&(ae sz info.size&&(ai (len*sz) (pre.length+l.length)&&(ae t elem&&ai pre.length (len*sz)))))
      |_=>none
     |.os none len sz cells=>match ae n 0 with
      |true=>some (.os none len sz cells,[],fits len)
      |false=>match aa7 (P.underlying elem) with
       |true=>some (.ms br 0 (len+n) info.size none,[(br,.ob (.gb elem) (cells.map .p++aJ))],fits len&&((ae sz info.size||(ae len 0&&ai 1 info.size))&&(allBy (cells.map .p)&&(ae info.size 1&&(allBy z&&allBy aJ)))))
       |false=>some (.ms br 0 (len+n) info.size none,[(br,.ob (.gr elem (jE rd info.size x)) (cells.map .p++aJ))],fits len&&(ae sz info.size||(ae len 0&&ai 1 info.size)))
     |.ms b 0 len sz (some cap)=>match jx (rd b) with
      |some l=>cond (ai (len+n) cap)
       (match qy (rd b) (len*sz) (aJ) with
         |some (b',ok')=>some (.ms b 0 (len+n) sz (some cap),[(b,b')],fits len&&(ok'&&ae sz info.size))
         |none=>none)
       (some (.ms br 0 (len+n) sz none,[(br,.ob (.gr elem (aa6 (rd b)&&jE rd info.size x)) (l.take (len*sz)++aJ))],fits len&&(ae sz info.size&&ai (len*sz) l.length)))
      |none=>none
     |_=>none
    |none=>none
   |_,_=>none
  |_,_=>none
 |_,_=>none
def m5:AV→AV
 |.p (.ps 0 0 _)=> .os none 0 0 []
 |v=>v
def Wj:AV→Bool
 |.ms .. =>true
 |_=>false
set_option linter.unusedVariables false in
def sC (P:Program) (rd:Nat→aU) (argTypes:Array TypeId) (d s:AV):j8:=none
def Ms (P:Program) (argTypes:Array TypeId) (x:AV):Option AV:=
 match argTypes[0]? with
 |some t=>match P.underlying t,x with
  |some (.slice _),.p (.ps len _ _)=>some (sI .i64 len)
  |some (.slice _),.os _ len _ _=>some (sI .i64 len)
  |some (.slice _),.ms _ _ len _ _=>some (sI .i64 len)
  |some .string,.p (.sc (.string s))=>some (sI .i64 s.data.toList.length)
  |some (.array n _),_=>some (sI .i64 n)
  |_,_=>none
 |none=>none
def Mt (P:Program) (argTypes:Array TypeId) (x:AV):Option AV:=
 match argTypes[0]? with
 |some t=>match P.underlying t,x with
  |some (.slice _),.ms _ _ _ _ (some cap)=>some (sI .i64 cap)
  |some (.slice _),.os none len _ _=>some (sI .i64 len)
  |some (.slice _),.p (.ps 0 0 _)=>some (sI .i64 0)
  |_,_=>none
 |none=>none
set_option linter.unusedVariables false in
def m6 (P:Program) (t:TypeId) (x:AV):Option AV:=none
def jF (P:Program) (ρ:Operand→AV) (o:Oper) (x:AV):Option AV:=
 match x with
 |.p (.pp off cs)=>some (.p (.pp off cs))
 |.mp b off=>some (.mp b off)
 |.fn (.func f) a b=>some (.fn (.func f) a b)
 |_=>scalar P ρ o
def jj (r:Option AV):j8:=r.map fun v=>(v,[],true)
def gP (r:Option (AV×Bool)):j8:=r.map fun v=>(v.1,[],v.2)
def BT (j k:IntKind):Bool:=j==k
def vB:List UInt8→List UInt8→Bool
 |[],[]=>true
 |a::r,b::s=>ae a.toNat b.toNat&&vB r s
 |_,_=>false
def dD:Bool→Bool→Bool
 |true,true=>true
 |false,false=>true
 |_,_=>false
def J9:Value→Value→Bool
 |.int j a,.int k b=>BT j k&&decide (a=b)
 |.bool a,.bool b=>dD a b
 |.string a,.string b=>vB a.data.toList b.data.toList
 |.pointer none,.pointer none=>true
 |.slice none 0 0,.slice none 0 0=>true
 |.map none,.map none=>true
 |.nilFunc,.nilFunc=>true
 |.nilIface,.nilIface=>true
 |_,_=>false
def Mu:List Value→List Value→Bool
 |[],[]=>true
 |a::r,b::s=>J9 a b&&Mu r s
 |_,_=>false
mutual
def oL:PV→PV→Bool
 |.bK,.bK=>true
 |.sc v,.sc u=>J9 v u
 |.pp o l,.pp q m=>ae o q&&wo l m
 |.ps n z l,.ps k y m=>ae n k&&(ae z y&&wo l m)
 |.mW t v,.mW s u=>ae t s&&oL v u
 |_,_=>false
def wo:List PV→List PV→Bool
 |[],[]=>true
 |a::r,b::s=>oL a b&&wo r s
 |_,_=>false
end
def eqO:Option Nat→Option Nat→Bool
 |none,none=>true
 |some a,some b=>ae a b
 |_,_=>false
mutual
def dy:AV→AV→Bool
 |.aj,.aj=>true
 |.p v,.p u=>oL v u
 |.os t n z l,.os s k y m=>eqO t s&&(ae n k&&(ae z y&&wo l m))
 |.mp b o,.mp c q=>ae b c&&ae o q
 |.ms b o n z k,.ms c q m y j=>ae b c&&(ae o q&&(ae n m&&(ae z y&&eqO k j)))
 |.fn (.func f) l m,.fn (.func g) k n=>ae f g&&(jG l k&&jG m n)
 |.agg l,.agg m=>jG l m
 |.aA l,.aA m=>jG l m
 |.mW t v,.mW s u=>ae t s&&dy v u
 |.vm b,.vm c=>ae b c
 |.vy b,.vy c=>ae b c
 |_,_=>false
def jG:List AV→List AV→Bool
 |[],[]=>true
 |a::r,b::s=>dy a b&&jG r s
 |_,_=>false
end
def Mv (a b:Value):Bool:=
 match a,b with
 |.agg x,.agg y=>Mu x.toList y.toList
 |_,_=>false
def BU:List Value→List Value→Bool
 |[],[]=>true
 |a::r,b::s=>Mv a b&&BU r s
 |_,_=>false
def BV:List Nat→List Nat→Bool
 |[],[]=>true
 |a::r,b::s=>ae a b&&BV r s
 |_,_=>false
def HQ:aU→aU→Bool
 |.free,.free=>true
 |.dead,.dead=>true
 |.tok,.tok=>true
 |.pc l,.pc m=>wo l m
 |.ac l,.ac m=>jG l m
 |.ob (.gr t q) l,.ob (.gr u r) m=>ae t u&&(dD q r&&jG l m)
 |.ob (.gb t) l,.ob (.gb u) m=>ae t u&&jG l m
 |.ob .opq [],.ob .opq []=>true
 |.ob (.map ks bs c) l,.ob (.map js ds d) m=>Mu ks js&&(BV bs ds&&(ae c d&&jG l m))
 |.ob (.J5 ks) l,.ob (.J5 js) m=>BU ks js&&jG l m
 |_,_=>false
def qB:Mem→Mem→Bool
 |[],[]=>true
 |a::r,b::s=>HQ a b&&qB r s
 |_,_=>false
def HR (P:Program) (t:TypeId):Option AV:=match P.info? t with
 |some i=>i.zero.map Se
 |none=>none
def plainKey:TypeDesc→Value→Bool
 |.int k,.int k' _=>k==k'
 |.string,.string _=>true
 |.bool,.bool _=>true
 |_,_=>false
def oP (d:TypeDesc) (k:Value):List Value→List AV→List Nat→Option (Option AV)
 |[],[],[]=>some none
 |k'::ks,v::vs,_::bs=>match Instr.sameNow d k k' with
  |some true=>some (some v)
  |some false=>oP d k ks vs bs
  |none=>none
 |_,_,_=>none
def mapOf (rd:Nat→aU):AV→Option (List Value×List AV×List Nat)
 |.p (.sc (.map none))=>some ([],[],[])
 |.vm b=>match rd b with
  |.ob (.map ks bs _) vs=>some (ks,vs,bs)
  |_=>none
 |_=>none
def VJ (P:Program) (kt:TypeId):Bool:=
 (match P.underlying kt with | some (.array _ _) | some (.struct _)=>true | _=>false)&&(P.keyTypeAt 20 kt&&P.tiled 20 kt)
def FV (rd:Nat→aU):AV→Option (List Value×List AV)
 |.vm b=>match rd b with
  |.ob (.J5 ks) vs=>some (ks,vs)
  |_=>none
 |_=>none
set_option linter.unusedVariables false in
def vC (P:Program) (rd:Nat→aU) (t:TypeId) (m k:AV) (ok:Bool):Option AV:=none
set_option linter.unusedVariables false in
def hY (P:Program) (rd:Nat→aU) (t:TypeId) (m k v:AV):j8:=none
def Ag (P:Program) (br:Nat) (t:TypeId):j8:=
 match P.underlying t with
 |some (.map kt _)=>match VJ P kt with
  |true=>some (.vm br,[(br,.ob (.J5 []) [])],true)
  |false=>some (.vm br,[(br,.ob (.map [] [] 0) [])],true)
 |_=>some (.vm br,[(br,.ob (.map [] [] 0) [])],true)
def kW (P:Program) (rd:Nat→aU) (t:TypeId) (m k:AV) (ok:Bool):Option AV:=
 match k with
 |.p (.sc key)=>match P.underlying t with
  |some (.map kt et)=>match P.underlying kt,HR P et,mapOf rd m with
   |some d,some z,some (ks,vs,bs)=>cond (plainKey d key) (match oP d key ks vs bs with
    |some (some v)=>some (cond ok (.aA [v,sB true]) v)
    |some none=>some (cond ok (.aA [z,sB false]) z)
    |none=>none) none
   |_,_,_=>none
  |_=>none
 |.agg _=>vC P rd t m k ok
 |_=>none
def wq (d:TypeDesc) (k:Value) (v:AV):List Value→List AV→List Nat→Option (Option (List AV))
 |[],[],[]=>some none
 |k'::ks,u::vs,_::bs=>match Instr.sameNow d k k' with
  |some true=>some (some (v::vs))
  |some false=>match wq d k v ks vs bs with
   |some (some l)=>some (some (u::l))
   |some none=>some none
   |none=>none
  |none=>none
 |_,_,_=>none
def gE (P:Program) (rd:Nat→aU) (t:TypeId) (m k v:AV):j8:=
 match m,k with
 |.vm b,.p (.sc key)=>match P.underlying t,rd b with
  |some (.map kt _),.ob (.map ks bs clock) vs=>match P.underlying kt with
   |some d=>cond (plainKey d key) (match wq d key v ks vs bs with
    |some (some l)=>some (.aA [],[(b,.ob (.map ks bs clock) l)],true)
    |some none=>some (.aA [],[(b,.ob (.map (ks++[key]) (bs++[clock]) (clock+1)) (vs++[v]))],true)
    |none=>none) none
   |none=>none
  |_,_=>none
 |.vm _,.agg _=>hY P rd t m k v
 |_,_=>none
def fX (ns:List ByteArray) (s:ByteArray):Bool:=ns.any fun x=>x.data.toList==s.data.toList
def qC (ns:List ByteArray) (s:ByteArray):List ByteArray:=cond (fX ns s) ns (ns++[s])
def pM (rd:Nat→aU):AV→Option (List ByteArray)
 |.vm b=>match rd b with
  |.ob (.smap ns) _=>some ns
  |_=>none
 |_=>none
def qD (P:Program) (t:TypeId):Bool:=match P.underlying t with
 |some (.map kt et)=>match P.underlying kt,HR P et with
  |some .string,some (.p (.sc (.bool false)))=>true
  |_,_=>false
 |_=>false
def wu (P:Program) (br:Nat) (t:TypeId):j8:=
 match qD P t with
 |true=>some (.vm br,[(br,.ob (.smap []) [])],true)
 |false=>none
def sD (P:Program) (rd:Nat→aU) (t:TypeId) (m k:AV) (ok:Bool):Option AV:=
 match pM rd m with
 |some ns=>match k with
  |.p (.sc (.string s))=>match qD P t with
   |true=>some (cond ok (.aA [sB (fX ns s),sB (fX ns s)]) (sB (fX ns s)))
   |false=>none
  |_=>none
 |none=>kW P rd t m k ok
def wv (P:Program) (rd:Nat→aU) (t:TypeId) (m k v:AV):j8:=
 match pM rd m with
 |some ns=>match m,k,v with
  |.vm b,.p (.sc (.string s)),.p (.sc (.bool true))=>match qD P t with
   |true=>some (.aA [],[(b,.ob (.smap (qC ns s)) [])],true)
   |false=>none
  |_,_,_=>none
 |none=>gE P rd t m k v
def isNil:AV→Bool
 |.p (.sc (.pointer none)) | .p (.sc (.map none)) | .p (.sc .nilFunc) | .p (.sc .nilIface)=>true
 |_=>false
def isRef:AV→Bool
 |.p (.pp ..) | .mp .. | .vm _ | .fn .. | .p (.mW ..) | .mW .. =>true
 |_=>false
def HS (x y:AV):Bool:=(isNil x&&isRef y)||(isRef x&&isNil y)
def Ah (d:TypeDesc) (x y:AV):Bool:=
 match d with
 |.pointer _=>match y with
  |.p (.sc (.pointer none))=>match x with
   |.p (.pp ..) | .mp .. =>true
   |_=>false
  |_=>false
 |.map _ _=>match y with
  |.p (.sc (.map none))=>match x with
   |.vm _=>true
   |_=>false
  |_=>false
 |_=>false
def HT (P:Program) (op:BinOp) (t:TypeId) (x y:AV):j8:=
 match P.underlying t with
 |some d=>match Ah d x y||Ah d y x,op with
  |true,.eql=>some (sB false,[],true)
  |true,.neq=>some (sB true,[],true)
  |_,_=>none
 |none=>none
def BW:AV→AV→Bool
 |.mp b o,.mp c q=>ae b c&&ae o q
 |_,_=>false
set_option linter.unusedVariables false in
def om (P:Program) (op:BinOp) (t:TypeId):j8:=none
def sE:Operand→Bool
 |.const (.slice none _ _)=>true
 |_=>false
def HU:AV→Option Bool
 |.p (.ps len sz _)=>cond (ai 1 len) (some false) (cond (ae sz 0) (some true) none)
 |.os _ len sz _=>cond (ai 1 len) (some false) (cond (ae sz 0) (some true) none)
 |.ms .. =>some false
 |_=>none
def vD (P:Program) (op:BinOp) (t:TypeId) (x:AV):j8:=
 match P.underlying t with
 |some (.slice _)=>match HU x,op with
  |some b,.eql=>some (sB b,[],true)
  |some b,.neq=>some (sB (!b),[],true)
  |_,_=>none
 |_=>none
def BX (P:Program) (br:Nat) (t:TypeId) (x:AV):j8:=
 match P.underlying t,x with
 |some .string,.p (.sc (.string s))=>some (.mp br 0,[(br,.ob (.iter s 0) [])],true)
 |_,_=>none
def FW (rd:Nat→aU) (it:AV):Bool→j8
 |true=>match it with
  |.mp b 0=>match rd b with
   |.ob (.iter s pos) _=>match ar pos s.size with
    |true=>match Utf8.decode s pos with
     |(c,width)=>some (.aA [sB true,sI .i64 pos,sI .i32 c],[(b,.ob (.iter s (pos+width)) [])],true)
    |false=>some (.aA [sB false],[],true)
   |.ob (.Sr s pos more) _=>match more with
    |true=>some (.aA [sB true,sI .i64 pos,sI .i32 (Utf8.decode s pos).1],[(b,.ob (.iter s (pos+(Utf8.decode s pos).2)) [])],true)
    |false=>some (.aA [sB false],[],true)
   |_=>none
  |_=>none
 |false=>none
set_option linter.unusedVariables false in
def m7 (x:AV):j8:=none
def Wk (rd:Nat→aU):AV→Option (Nat×TypeId×List AV)
 |.mp b 0=>match rd b with
  |.ob (.gr t _) l=>some (b,t,l)
  |_=>none
 |_=>none
set_option linter.unusedVariables false in
def eL (P:Program) (rd:Nat→aU) (argTypes:List TypeId) (x n:AV):j8:=none
def Ka (mn:Bool):List AV→Option AV
 |[.p (.sc (.int k a)),.p (.sc (.int _ b))]=>some (.p (.sc (.int k (cond mn (min a b) (max a b)))))
 |_=>none
def jH (P:Program) (ρ:Operand→AV) (o:Oper) (mn:Bool) (l:List Operand):Option AV:=
 match Ka mn (l.map ρ) with
 |some v=>some v
 |none=>scalar P ρ o
set_option linter.unusedVariables false in
def wz (P:Program) (t:TypeId) (x:AV) (ok:Bool):Option AV:=none
def uc (P:Program) (rd:Nat→aU) (wr:Bool) (br:Nat) (ρ:Operand→AV) (o:Oper):j8:=
 match o.op with
 |.move x | .assign x=>some (ρ x,[],true)
 |.pick c a b=>match ρ c with
  |.p (.sc (.bool t))=>some (cond t (ρ a) (ρ b),[],true)
  |_=>none
 |.alloc t=>match wr with
  |true=>wk P br t
  |false=>BS P br t
 |.box _ v=>Mq br (ρ v)
 |.build t parts=>gP (vv P t (parts.toList.map fun q=>(q.1,ρ q.2)))
 |.buildSlice t len parts=>lP P wr br t len (parts.toList.map fun q=>(q.1,ρ q.2))
 |.load t a=>gP (kL P rd t (ρ a))
 |.store t a v=>qz P rd t (ρ a) (ρ v)
 |.nilCheck x=>jj (jF P ρ o (ρ x))
 |.binOp op t x y _=>match sE y with
  |true=>vD P op t (ρ x)
  |false=>match HS (ρ x) (ρ y) with
   |true=>HT P op t (ρ x) (ρ y)
   |false=>match BW (ρ x) (ρ y) with
    |true=>om P op t
    |false=>gP (qA P ρ o op (ρ x) (ρ y))
 |.range t x=>BX P br t (ρ x)
 |.next x s=>FW rd (ρ x) s
 |.makeMap t none=>match wr with
  |true=>wu P br t
  |false=>Ag P br t
 |.lookup t x i ok=>jj (sD P rd t (ρ x) (ρ i) ok)
 |.mapUpdate t x k v=>wv P rd t (ρ x) (ρ k) (ρ v)
 |.insert t x k v=>wv P rd t (ρ x) (ρ k) (ρ v)
 |.unOp op _ x=>gP (wm P ρ o op (ρ x))
 |.convert src dst x=>convertOp P rd br ρ o src dst (ρ x)
 |.makeInterface t x=>jj (m6 P t (ρ x))
 |.makeFunc f first captured=>some (.fn f (first.toList.map ρ) (captured.toList.map ρ),[],true)
 |.makeSlice t l c=>match wr with
  |true=>pK P t (ρ l) (ρ c)
  |false=>m0 P br t (ρ l) (ρ c)
 |.slice t x lo hi mx=>gP (og P ρ t (ρ x) lo hi mx)
 |.fieldAddr t x f=>jj (kj P t (ρ x) f)
 |.field t x f=>gP (vw P t (ρ x) f)
 |.indexAddr t x i=>gP (ko P t (ρ x) (ρ i))
 |.index t x i=>gP (vA P t (ρ x) (ρ i))
 |.extract x i=>match ρ x with
  |.aA vs=>jj vs[i]?
  |_=>none
 |.typeAssert x _ t ok=>jj (wz P t (ρ x) ok)
 |.call c=>match c.callee,c.args.toList with
  |.builtin .append,[s,x]=>match Wj (ρ s)||wr with
   |true=>fB P rd br c.argTypes (m5 (ρ s)) (ρ x)
   |false=>iL P rd br c.argTypes (m5 (ρ s)) (ρ x)
  |.builtin .copy,[d,s]=>sC P rd c.argTypes (ρ d) (ρ s)
  |.builtin .len,[x]=>jj (Ms P c.argTypes (ρ x))
  |.builtin .cap,[x]=>jj (Mt P c.argTypes (ρ x))
  |.builtin .unsafeSliceData,[x]=>m7 (ρ x)
  |.builtin .unsafeString,[x,n]=>eL P rd c.argTypes.toList (ρ x) (ρ n)
  |.builtin .min,l=>jj (jH P ρ o true l)
  |.builtin .max,l=>jj (jH P ρ o false l)
  |_,_=>none
 |_=>none
def makes (o:Oper):Bool:=
 match o.op with
 |.alloc _ | .box .. | .buildSlice .. | .makeSlice .. | .convert .. | .makeMap .. | .range .. =>true
 |.call c=>match c.callee with
  |.builtin .append=>true
  |_=>false
 |_=>false
def apply (m:Mem):mX→Mem
 |[]=>m
 |(i,b)::r=>apply (m.set i b) r
mutual
def refs:AV→List Nat
 |.os (some t) _ _ _=>[t]
 |.mp b _=>[b]
 |.ms b _ _ _ _=>[b]
 |.vm b=>[b]
 |.vy b=>[b]
 |.fn _ first captured=>hJ first++hJ captured
 |.agg l=>hJ l
 |.aA l=>hJ l
 |.mW _ v=>refs v
 |_=>[]
def hJ:List AV→List Nat
 |[]=>[]
 |a::r=>refs a++hJ r
end
def Ai:aU→List Nat
 |.ac l=>hJ l
 |.ob (.gr _ true) _=>[]
 |.ob (.gb _) _=>[]
 |.ob _ l=>hJ l
 |_=>[]
def has (l:List Nat) (i:Nat):Bool:=
 match l with
 |[]=>false
 |j::r=>cond (ae j i) true (has r i)
def ia (ord:List Nat):List Nat→List Nat
 |[]=>ord
 |i::r=>ia (cond (has ord i) ord (ord++[i])) r
def reach (m:Mem):Nat→List Nat→Nat→List Nat
 |0,ord,_=>ord
 |f+1,ord,k=>match ord[k]? with
  |none=>ord
  |some i=>reach m f (ia ord (Ai (m.getD i .dead))) (k+1)
mutual
def jk (ρ:Nat→Option Nat):AV→AV
 |.os (some t) len sz cs=>match ρ t with
  |some t=> .os (some t) len sz cs
  |none=> .p (.ps len sz cs)
 |.mp b off=>match ρ b with
  |some b=> .mp b off
  |none=> .aj
 |.ms b off len sz cap=>match ρ b with
  |some b=> .ms b off len sz cap
  |none=> .aj
 |.vm b=>match ρ b with
  |some b=> .vm b
  |none=> .aj
 |.vy b=>match ρ b with
  |some b=> .vy b
  |none=> .aj
 |.fn f first captured=> .fn f (eR ρ first) (eR ρ captured)
 |.agg l=> .agg (eR ρ l)
 |.aA l=> .aA (eR ρ l)
 |.mW t v=> .mW t (jk ρ v)
 |v=>v
def eR (ρ:Nat→Option Nat):List AV→List AV
 |[]=>[]
 |a::r=>jk ρ a::eR ρ r
end
def aa:AV→AV
 |.p v=> .p v
 |_=> .aj
def gd (ρ:Nat→Option Nat):aU→aU
 |.ac l=> .ac (eR ρ l)
 |.ob (.gr t true) l=> .ob (.gr t true) (l.map aa)
 |.ob (.gb t) l=> .ob (.gb t) (l.map aa)
 |.ob k l=> .ob k (eR ρ l)
 |b=>b
def idx (ord:List Nat) (i:Nat):Option Nat:=
 match ord with
 |[]=>none
 |j::r=>cond (ae i j) (some 0) ((idx r i).map (· + 1))
def pack (m:Mem) (ord:List Nat):Mem:=ord.map fun i=>gd (idx ord) (m.getD i .dead)
def upTo:Nat→List Nat
 |0=>[]
 |n+1=>upTo n++[n]
def close (m:Mem) (fix:Nat) (vs:List AV):List Nat:=reach m (m.length+1) (ia (upTo fix) (hJ vs)) 0
inductive Mark where
 |range (b:Nat)
 |late (f:FuncId) (first caps:List (Nat×Nat))
inductive VK where
 |call
 |round (i:Nat)
 |late
structure St where
 tm:sA
 nt:Nat
 mem:Mem
 fix:Nat
 cw:List Mark:=[]
 b9:VK:= .call
inductive It where
 |code (i:Nat) (c:Code)
 |ops (bZ:Nat) (ops:Array Oper) (k:Nat) (sure:Bool)
 |inBlock (id:Nat)
 |inLoop (i:Nat) (b:Code)
 |inScope (b:Code)
 |forget (k:List Nat)
 |fin
 |begin
 |zz (u:AV)
 |gQ (u:AV)
 |leave
structure cm where
 f:FuncId
 todo:List It
 st:St
inductive Out where
 |ret (v:AV) (m:Mem)
 |zw (v:AV) (m:Mem)
inductive Ev where
 |next (c:cm)
 |must (b:Bool) (c:cm)
 |call (g:FuncId) (args:List AV) (m:Mem) (ord:List Nat) (dst:Option Tmp) (c:cm)
 |test (b:Bool) (yes no:cm)
 |round (args:List AV) (m:Mem) (ord:List Nat) (dst:Option Tmp) (c:cm)
 |range (g:FuncId) (args:List AV) (m:Mem) (ord:List Nat) (L:Nat) (c:cm)
 |draw (bZ:Nat) (ops:Array Oper) (c:cm)
 |fork (l:List cm)
 |late (g:FuncId) (args:List AV) (m:Mem) (ord:List Nat) (pv:Option AV) (c:cm)
 |done (o:Out)
 |fail
structure Env where
 cQ:Nat→Option (List PV)
 wr:FuncId→Nat→Bool
 keep:FuncId→Nat→Option (List Nat)
 told:FuncId→Nat→Option AV:=fun _ _=>none
def ev (E:Env) (tm:sA):Operand→AV
 |.tmp t=>look tm t
 |.const v=>Se v
 |.global g=>match E.cQ g with
  |some cs=> .p (.pp 0 cs)
  |none=> .p (.sc (.pointer (some ⟨g,0,none⟩)))
 |.func f=> .fn (.func f) [] []
def forget (keep:List Nat) (st:St):St:=
 match st.cw,st.b9 with
 |[],.call=>
  let vs:=keep.map (look st.tm)
  let ord:=close st.mem st.fix vs
  {tm:=keep.zip (eR (idx ord) vs),nt:=st.nt,mem:=pack st.mem ord,fix:=st.fix,b9:= .call}
 |_,_=>st
def iD (keep:Option (List Nat)) (st:St):St:=
 match keep with
 |some keep=>forget keep st
 |none=>st
def eS (keep:Option (List Nat)) (k:List It):List It:=
 match keep with
 |some keep=> .forget keep::k
 |none=>k
def put (st:St) (dst:Option Tmp) (v:AV):St:=
 match dst with
 |some d=>{st with tm:=(d,v)::st.tm}
 |none=>st
def fits (st:St) (dst:Option Tmp):Bool:=
 match dst with
 |some d=>ar d st.nt
 |none=>true
def bw (ord:List Nat) (n:Nat) (j:Nat):Option Nat:=
 match ord[j]? with
 |some i=>some i
 |none=>some (n+(j-ord.length))
def dr (ρ:Nat→Option Nat):List Nat→Mem→Mem→Mem
 |i::ord,b::m1,m=>dr ρ ord m1 (m.set i (gd ρ b))
 |_,m1,m=>m++m1.map (gd ρ)
def back (ord:List Nat) (dst:Option Tmp) (st:St) (v:AV) (m1:Mem):St:=
 put {st with mem:=dr (bw ord st.mem.length) ord m1 st.mem} dst (jk (bw ord st.mem.length) v)
def target (ρ:Operand→AV) (o:Oper):Option (FuncId×List AV):=
 match o.op with
 |.call c=>match c.callee with
  |.value f=>match ρ f with
   |.fn (.func f) first captured=>some (f,first++c.args.toList.map ρ++captured)
   |_=>none
  |_=>none
 |_=>none
def vE (ρ:Operand→AV) (o:Oper):Option (List AV):=
 match o.op with
 |.call c=>match c.callee with
  |.value f=>match ρ f with
   |.vy b=>some (.vy b::c.args.toList.map ρ)
   |_=>none
  |_=>none
 |_=>none
def dQ (st:St) (f:FuncId) (ps:Array Tmp) (as bd:Code):Mem:=
 (st.mem++[.ob .J4 []])++[.ob (.loop f ps as bd .ready none) ((upTo st.nt).map (look st.tm))]
def gh (m:Mem) (L:Nat):Option (Mem×Option Code):=
 match m.getD L .dead with
 |.ob (.loop f ps as bd st pd) vals=>match st with
  |.busy=>none
  |_=>some (m.set L (.ob (.loop f ps as bd .exhausted pd) vals),pd)
 |_=>none
def behind (c:cm) (m:Mem) (pd:Option Code):cm:=
 {c with todo:=match pd with
    |some code=> .code 0 code::c.todo
    |none=>c.todo,st:={c.st with mem:=m}}
inductive Want where
 |yes | no | ask (d:Nat) (b want:Bool) | lost
def ep (ops:Array Oper) (tm:sA) (o:Oper):Want:=
 match o.guard with
 |none=> .yes
 |some (j,want)=>match ops[j]? with
  |some oj=>match oj.dst with
   |some d=>match look tm d with
    |.p (.sc (.bool b))=> .ask d b want
    |.aA _=> .no
    |_=> .lost
   |none=> .no
  |none=> .no
def reserve (o:Oper) (m:Mem):Mem:=cond (makes o) (m++[.free]) m
def nodes:Code→Nat
 |.seq a b=>nodes a+nodes b
 |.cond _ a b=>1+nodes a+nodes b
 |.block _ b=>nodes b
 |.scope b=>nodes b
 |.loop b=>1+nodes b
 |_=>0
def ig (P:Program) (st:St):List ResultVar→Option (List AV×Bool)
 |[]=>some ([],true)
 |.tmp t::r=>(ig P st r).map fun q=>(look st.tm t::q.1,q.2)
 |.cell a t::r=>match kL P (fun i=>st.mem.getD i .dead) t (look st.tm a),ig P st r with
  |some (v,ok),some (vs,oks)=>some (v::vs,ok&&oks)
  |_,_=>none
def one:List AV→AV
 |[v]=>v
 |vs=> .aA vs
def freeze (m:Mem) (kept:List Nat):AV→AV×Bool×List Nat
 |.ms b off len sz (some cap)=>cond (has kept b||ae len 0) (.ms b off len sz (some cap),true,[]) (match m.getD b .dead with
  |.pc l=>(.p (.ps len sz ((l.drop off).take (len*sz))),ai (off+len*sz) l.length&&ai 1 sz,[b])
  |_=>(.ms b off len sz (some cap),true,[]))
 |v=>(v,true,[])
def gw (m:Mem) (kept:List Nat):List AV→List AV×Bool×List Nat
 |[]=>([],true,[])
 |v::r=>((freeze m kept v).1::(gw m kept r).1,(freeze m kept v).2.1&&(gw m kept r).2.1,(freeze m kept v).2.2++(gw m kept r).2.2)
def iM (l:List Nat) (n:Nat):Bool:=
 match l with
 |[]=>true
 |i::r=>ar i n&&iM r n
def BY (l ord:List Nat):Bool:=
 match l with
 |[]=>true
 |i::r=> !has ord i&&BY r ord
def lS (P:Program) (c:cm):Ev:=
 match P.funcs[c.f]? with
 |some fn=>match ig P c.st fn.results.toList with
  |some (vs,ok)=>
   let fz:=gw c.st.mem (close c.st.mem c.st.fix []) vs
   let v:=one fz.1
   let ord:=close c.st.mem c.st.fix [v]
   .must (ok&&fz.2.1&&BY fz.2.2 ord) {c with todo:=[.fin],st:={c.st with tm:=[(0,jk (idx ord) v)],nt:=0,mem:=pack c.st.mem ord}}
  |none=> .fail
 |none=> .fail
def lT:List Mark→Mem→Option Mem
 |[],m=>some m
 |.late .. :: _,_=>none
 |.range b::r,m=>match m.getD b .dead with
  |.ob .J4 []=>lT r (m.set b (.ob .shut []))
  |_=>none
def mps (l:List (Nat×Nat)):List AV:=l.map fun q=> .mp q.1 q.2
def BZ (c:cm) (pv:Option AV) (g:FuncId) (first caps:List (Nat×Nat)):Ev:=
 let args:=mps first++mps caps
 let ord:=close c.st.mem 0 (pv.toList++args)
 cond (iM ord c.st.mem.length) (.late g (eR (idx ord) args) (pack c.st.mem ord) ord (pv.map (jk (idx ord))) {c with todo:=[.leave],st:={c.st with cw:=[]}}) .fail
def wA (P:Program) (c:cm) (u:AV):Ev:=
 match c.st.b9 with
 |.round _=> .fail
 |_=>match c.st.cw with
  |[]=>match P.funcs[c.f]? with
   |some _=>
    let ord:=close c.st.mem c.st.fix [u]
    .next {c with todo:=[.zz (jk (idx ord) u)],st:={c.st with tm:=[],nt:=0,mem:=pack c.st.mem ord}}
   |none=> .fail
  |[.late g first caps]=>BZ c (some u) g first caps
  |_=> .fail
def ending (P:Program) (c:cm):Ev:=
 match c.st.cw with
 |[]=>lS P c
 |[.late g first caps]=>BZ c none g first caps
 |mk=>match lT mk c.st.mem with
  |some m=>lS P {c with st:={c.st with mem:=m,cw:=[]}}
  |none=> .fail
def HV (P:Program) (f:FuncId):Bool:=
 match P.funcs[f]? with
 |some fn=>fn.body.isNone&&(decide (fn.name = "internal/abi.NoEscape")&&decide (fn.origin = ""))
 |none=>false
def Mw (P:Program) (ρ:Operand→AV) (o:Oper):Option AV:=
 match o.op with
 |.call c=>match c.callee,c.args.toList with
  |.value f,[x]=>match ρ f with
   |.fn (.func g) [] []=>cond (HV P g) (some (ρ x)) none
   |_=>none
  |_,_=>none
 |_=>none
def Aj:List AV→Option (List (Nat×Nat))
 |[]=>some []
 |.mp b off::r=>match Aj r with
  |some l=>some ((b,off)::l)
  |none=>none
 |_::_=>none
def Ak:AV→Bool
 |.mW .. | .p (.mW ..)=>true
 |_=>false
def Mx (E:Env) (c:cm) (o:Oper) (k:List It):Ev:=
 match o.op with
 |.panic x=>cond (Ak (ev E c.st.tm x)) (.next {c with todo:=[.gQ (ev E c.st.tm x)]}) .fail
 |.call d=>match d.callee,d.args.toList with
  |.builtin .panic,[x]=>cond (Ak (ev E c.st.tm x)) (.next {c with todo:=[.gQ (ev E c.st.tm x)]}) .fail
  |_,_=> .fail
 |.defer d=>match c.st.b9,c.st.cw,d.callee with
  |.round _,_,_=> .fail
  |_,[],.value f=>match ev E c.st.tm f with
   |.fn (.func g) first captured=>match Aj (first++d.args.toList.map (ev E c.st.tm)),Aj captured with
    |some l,some m=> .must (fits c.st o.dst) {c with todo:=k,st:=put {c.st with cw:=[.late g l m]} o.dst (.aA [])}
    |_,_=> .fail
   |_=> .fail
  |_,_,_=> .fail
 |_=> .fail
def Dm:AV→Bool
 |.p (.ps ..) | .os .. =>true
 |_=>false
def VL:BinOp→Bool
 |.eql | .neq=>true
 |_=>false
def Dn:Option TypeDesc→Bool
 |some (.slice _)=>true
 |_=>false
def FX (P:Program) (ρ:Operand→AV) (o:Oper):Bool:=
 match o.op with
 |.binOp op t x y _=>sE y&&(VL op&&(Dm (ρ x)&&Dn (P.underlying t)))
 |_=>false
def My (P:Program) (E:Env) (c:cm) (_rid:Nat) (o:Oper) (k:List It):Ev:=
 match target (ev E c.st.tm) o with
 |some (g,args)=>
  match Mw P (ev E c.st.tm) o with
  |some v=> .must (fits c.st o.dst) {c with todo:=k,st:=put c.st o.dst v}
  |none=>
   let ord:=close c.st.mem 0 args
   cond (fits c.st o.dst&&iM ord c.st.mem.length) (.call g (eR (idx ord) args) (pack c.st.mem ord) ord o.dst {c with todo:=k}) .fail
 |none=>match vE (ev E c.st.tm) o with
  |some args=>
   let ord:=close c.st.mem 0 args
   cond (fits c.st o.dst&&iM ord c.st.mem.length) (.round (eR (idx ord) args) (pack c.st.mem ord) ord o.dst {c with todo:=k}) .fail
  |none=>
   let m:=reserve o c.st.mem
   match uc P (fun i=>m.getD i .dead) (E.wr c.f (o.dst.getD 0)) c.st.mem.length (ev E c.st.tm) o with
   |some (v,us,ok)=> .must (ok&&fits c.st o.dst) {c with todo:=k,st:=put {c.st with mem:=apply m us} o.dst v}
   |none=>match FX P (ev E c.st.tm) o with
    |true=>cond (fits c.st o.dst) (.fork [{c with todo:=k,st:=put c.st o.dst (sB true)},{c with todo:=k,st:=put c.st o.dst (sB false)}]) .fail
    |false=>Mx E c o k
def fC:Option Code→LoopState
 |none=> .ready
 |some _=> .done
def m8 (c:cm) (i:Nat) (jump:Option Code):Ev:=
 match c.st.mem.getD i .dead with
 |.ob (.loop f ps as bd _ _) vals=>
  let m:=c.st.mem.set i (.ob (.loop f ps as bd (fC jump) jump) vals)
  let ord:=close m c.st.fix []
  cond (ar i c.st.fix) (.next {c with todo:=[.fin],st:={c.st with tm:=[(0,sB jump.isNone)],nt:=0,mem:=pack m ord}}) .fail
 |_=> .fail
def wB (c:cm) (i:Nat) (k:List It):Ev:=
 match c.st.mem.getD i .dead with
 |.ob (.loop f ps as bd .ready pd) vals=> .next {c with todo:=k,st:={c.st with mem:=c.st.mem.set i (.ob (.loop f ps as bd .busy pd) vals)}}
 |_=> .fail
def HW (E:Env) (c:cm) (x:Operand) (ps:Array Tmp) (as bd:Code) (k:List It):Ev:=
 match ev E c.st.tm x with
 |.fn (.func g) first captured=>
  let m:=dQ c.st c.f ps as bd
  let args:=first++[.vy (c.st.mem.length+1)]++captured
  let ord:=close m 0 args
  cond (iM ord m.length) (.range g (eR (idx ord) args) (pack m ord) ord (c.st.mem.length+1) {c with todo:=k,st:={c.st with mem:=m,cw:= .range c.st.mem.length::c.st.cw}}) .fail
 |_=> .fail
def cg (id:Nat):List It→Option (List It)
 |[]=>none
 |.inBlock id'::k=>cond (ae id' id) (some k) (cg id k)
 |_::k=>cg id k
def eM (l:Nat):List It→Option (List It)
 |[]=>none
 |.inScope b::k=>match findLabel b l with
  |some rest=>some (.code 0 rest :: .inScope b::k)
  |none=>eM l k
 |_::k=>eM l k
def gx (o:Oper):Bool:=
 match o.op with
 |.move _ | .assign _ | .pick .. | .build .. | .load .. | .nilCheck _ | .binOp .. | .unOp .. | .convert .. | .makeInterface .. | .makeFunc .. | .slice .. | .fieldAddr .. | .field .. | .indexAddr .. | .index .. | .extract .. =>true
 |.call c=>match c.callee with
  |.builtin .len | .builtin .min | .builtin .max=>true
  |_=>false
 |_=>false
def pN (acc:List Nat) (o:Oper):Nat:=o.after.toList.foldl (fun s e=>cond (Region.binds .any e) (s|||(2 ^ e.on|||acc.getD e.on 0)) s) 0
def masks (acc:List Nat):List Oper→List Nat
 |[]=>acc
 |o::r=>masks (acc++[pN acc o]) r
def vF (x:Nat):Nat→Bool
 |0=>true
 |n+1=>bc x n&&vF x n
def sF (ops:Array Oper):Bool:=
 (match ops[ops.size-1]? with
   |some o=>o.guard.isNone&&match o.op with
    |.call c=>match c.callee with
     |.value _=>true
     |_=>false
    |.panic _ | .defer _=>true
    |_=>false
   |none=>false)&&vF ((masks [] ops.toList).getD (ops.size-1) 0) (ops.size-1)
def gy (ops:Array Oper):Nat:=cond (sF ops) (ops.size-1) ops.size
def iq (bZ:Nat) (ops:Array Oper) (k:List It):List It:=cond (sF ops) (.ops bZ ops (ops.size-1) false::k) k
def slots (ops:Array Oper) (o:Oper):List Nat:=
 (match o.guard with
   |some (j,_)=>match ops[j]? with
    |some oj=>oj.dst.toList
    |none=>[]
   |none=>[])++o.op.operands.toList.filterMap fun
    |.tmp t=>some t
    |_=>none
def meet (a b:List Nat):Bool:=a.any fun i=>b.any fun j=>ae i j
def pO (ops:Array Oper) (L:List Nat) (i:Nat) (o:Oper) (j:Nat) (p:Oper):Bool:=
 !meet o.dst.toList p.dst.toList&&(bc (L.getD i 0) j||(!meet p.dst.toList (slots ops o) && !meet o.dst.toList (slots ops p)))
def vG (ops:Array Oper) (L:List Nat) (i:Nat) (o:Oper):Nat→List Oper→Bool
 |_,[]=>true
 |j,p::r=>pO ops L i o j p&&vG ops L i o (j+1) r
def jI (q:Oper→Bool) (ops:Array Oper) (L:List Nat):Nat→List Oper→List Oper→Bool
 |_,_,[]=>true
 |i,mQ,o::r=>q o&&(o.after.toList.all fun e=> !Region.binds .any e||ar e.on i)&&vG ops L i o 0 mQ&&jI q ops L (i+1) (mQ++[o]) r
def kA (P:Program) (E:Env) (rd:Nat→aU) (wr:Bool) (br:Nat) (ops:Array Oper):List Oper→St→Option (St×Bool)
 |[],st=>some (st,true)
 |o::r,st=>
  let skip:=match kA P E rd wr br ops r (put st o.dst (.aA [])) with
   |some (st',ok)=>some (st',fits st o.dst&&ok)
   |none=>none
  let qE:=match uc P rd wr br (ev E st.tm) o with
   |some (v,[],ok)=>match kA P E rd wr br ops r (put st o.dst v) with
    |some (st',ok')=>some (st',ok&&(fits st o.dst&&ok'))
    |none=>none
   |_=>none
  match ep ops st.tm o with
  |.yes=>qE
  |.no=>skip
  |.ask _ b want=>match b==want with
   |true=>qE
   |false=>skip
  |.lost=>none
def Mz (E:Env) (f:Nat) (ops:Array Oper):Bool:=ops.toList.all fun o=>(E.told f (o.dst.getD 0)).isNone
def wC (P:Program) (E:Env) (f _rid:Nat) (ops:Array Oper) (st:St):Option (St×Bool):=
 let m:=st.mem++[.free]
 match cond (ops.toList.all gx&&Mz E f ops) (kA P E (fun i=>m.getD i .dead) false st.mem.length ops ops.toList {st with mem:=m}) none with
 |some (st',ok)=>some (st',ok&&(jI gx ops (masks [] ops.toList) 0 [] ops.toList&&(P.follows .mixedOrders || !Region.departs ops)))
 |none=>none
def HX (P:Program) (E:Env) (f:FuncId) (ops:Array Oper) (i:Nat) (st:St):Option St:=
 match ops[i]? with
 |none=>none
 |some o=>match ep ops st.tm o with
  |.yes=>
   let m:=reserve o st.mem
   match uc P (fun i=>m.getD i .dead) (E.wr f (o.dst.getD 0)) st.mem.length (ev E st.tm) o with
   |some (v,us,ok)=>cond (ok&&fits st o.dst) (some (put {st with mem:=apply m us} o.dst v)) none
   |none=>none
  |_=>none
def Su (a b:sA):List Nat→Bool
 |[]=>true
 |k::r=>dy (look a k) (look b k)&&Su a b r
def Wl (s t:St):Bool:=ae s.nt t.nt&&(ae s.fix t.fix&&(HQ (s.mem.getLastD .dead) (t.mem.getLastD .dead)&&(qB s.mem t.mem&&Su s.tm t.tm (s.tm.map (·.1)++t.tm.map (·.1)))))
def vH:List Bool→List Bool→Bool
 |[],[]=>true
 |a::r,b::s=>dD a b&&vH r s
 |_,_=>false
abbrev Pt:=Array Bool×St
def aa9 (p q:Pt):Bool:=vH p.1.toList q.1.toList&&Wl p.2 q.2
def Dp (q:Pt):List Pt→Bool
 |[]=>false
 |p::r=>aa9 q p||Dp q r
def Dq (q:Pt) (l:List Pt):List Pt:=cond (Dp q l) l (q::l)
def qF (P:Program) (E:Env) (f:FuncId) (ops:Array Oper) (q:Pt):List Nat→List Pt→Option (List Pt)
 |[],l=>some l
 |i::r,l=>match HX P E f ops i q.2 with
  |some st=>qF P E f ops q r (Dq (q.1.setIfInBounds i true,st) l)
  |none=>none
def level (P:Program) (E:Env) (f:FuncId) (ops:Array Oper):List Pt→List Pt→Option (List Pt)
 |[],l=>some l
 |q::r,l=>match Region.ready .any ops q.1 with
  |[]=>level P E f ops r (Dq q l)
  |is=>match qF P E f ops q is l with
   |some l=>level P E f ops r l
   |none=>none
def levels (P:Program) (E:Env) (f:FuncId) (ops:Array Oper):Nat→List Pt→Option (List Pt)
 |0,l=>some l
 |n+1,l=>match level P E f ops l [] with
  |some l=>levels P E f ops n l
  |none=>none
def MA (b:Bool) (o:Oper):Bool:=
 match o.op with
 |.store _ _ (.const (.bool c))=>c==b
 |_=>false
def MB (ops:Array Oper):Bool:=
 match ops.toList with
 |[_,o,p,_]=>MA true o&&MA false p
 |_=>false
def MC (P:Program) (ops:Array Oper):Bool:=
 ai ops.size 16&&ops.toList.any fun o=>match o.op with
  |.insert t _ _ _=>match P.underlying t with
   |some (.map kt _)=>VJ P kt
   |_=>false
  |_=>false
def B0 (P:Program) (E:Env) (f:FuncId) (ops:Array Oper) (st:St):Option (List St):=
 cond ((MB ops||MC P ops)&&(P.follows .mixedOrders || !Region.departs ops)) ((levels P E f ops ops.size [(Array.replicate ops.size false,st)]).map fun l=>l.map (·.2)) none
def step (P:Program) (E:Env) (c:cm):Ev:=
 match c.todo with
 |[]=>match c.st.b9 with
  |.round i=>m8 c i none
  |_=>ending P c
 |.fin::_=> .done (.ret (look c.st.tm 0) c.st.mem)
 |.zz u::_=> .done (.zw u c.st.mem)
 |.gQ u::_=>wA P c u
 |.leave::_=>lS P c
 |.begin::k=>match c.st.b9 with
  |.round i=>wB c i k
  |_=> .fail
 |.code _ .ret::_=>match c.st.b9 with
  |.round i=>m8 c i (some .ret)
  |_=>ending P c
 |.code _ .skip::k=> .next {c with todo:=k}
 |.code _ (.region id ops false)::k=> .next {c with todo:= .ops id ops 0 false::k}
 |.code _ (.region id ops true)::k=>match wC P E c.f id ops c.st with
  |some (st,ok)=> .must ok {c with todo:=k,st:={st with cw:=c.st.cw,b9:=c.st.b9}}
  |none=>match B0 P E c.f ops c.st with
   |some l=> .fork (l.map fun st=>{c with todo:=k,st:={st with cw:=c.st.cw,b9:=c.st.b9}})
   |none=> .draw id ops {c with todo:=iq id ops k}
 |.code i (.seq a b)::k=> .next {c with todo:= .code i a :: .code (i+nodes a) b::k}
 |.code i (.cond x a b)::k=>match ev E c.st.tm x with
  |.p (.sc (.bool t))=> .test t {c with todo:= .code (i+1) a::eS (E.keep c.f (2*i)) k} {c with todo:= .code (i+1+nodes a) b::eS (E.keep c.f (2*i)) k}
  |_=> .fail
 |.code i (.block id b)::k=> .next {c with todo:= .code i b :: .inBlock id::k}
 |.code i (.loop b)::k=> .next {c with todo:= .code (i+1) b :: .inLoop i b::eS (E.keep c.f (2*i+1)) k,st:=iD (E.keep c.f (2*i)) c.st}
 |.code _ (.exit id)::k=>match cg id k with
  |some k=> .next {c with todo:=k}
  |none=>match c.st.b9 with
   |.round i=>m8 c i (some (.exit id))
   |_=> .fail
 |.code i (.scope b)::k=> .next {c with todo:= .code i b :: .inScope b::k}
 |.inScope _::k=> .next {c with todo:=k}
 |.code _ (.label _)::k=> .next {c with todo:=k}
 |.code _ (.goto l)::k=>match eM l k with
  |some k=> .next {c with todo:=k}
  |none=> .fail
 |.code _ (.rangeFunc x ps as bd)::k=>match c.st.b9 with
  |.call=>HW E c x ps as bd k
  |_=> .fail
 |.code _ _::_=> .fail
 |.inBlock _::k=> .next {c with todo:=k}
 |.inLoop i b::k=> .next {c with todo:= .code (i+1) b :: .inLoop i b::k,st:=iD (E.keep c.f (2*i)) c.st}
 |.forget keep::k=> .next {c with todo:=k,st:=forget keep c.st}
 |.ops bZ ops i sure::k=>match ops[i]? with
  |none=> .next {c with todo:=k}
  |some o=>match ep ops c.st.tm o with
   |.yes=>My P E c bZ o (.ops bZ ops (i+1) false::k)
   |.no=>cond (fits c.st o.dst) (.next {c with todo:= .ops bZ ops (i+1) false::k,st:=put c.st o.dst (.aA [])}) .fail
   |.ask d b want=>match sure with
    |false=> .test b {c with todo:= .ops bZ ops i true::k,st:=put c.st (some d) (sB true)} {c with todo:= .ops bZ ops i true::k,st:=put c.st (some d) (sB false)}
    |true=>match b==want with
     |true=>My P E c bZ o (.ops bZ ops (i+1) false::k)
     |false=>cond (fits c.st o.dst) (.next {c with todo:= .ops bZ ops (i+1) false::k,st:=put c.st o.dst (.aA [])}) .fail
   |.lost=> .fail
structure bE where
 g:FuncId
 args:List AV
 m:Mem
 v:AV
 m':Mem
def same (b b':Bool):Bool:=match b' with
 |true=>b
 |false=> !b
structure gF where
 v:AV
 us:mX
 fp:List Nat
 ld:Nat→aU→Bool
def Wm (P:Program) (ρ:Operand→AV) (o:Oper) (v:AV) (b:Nat) (x:aU):Bool:=
 match o.op with
 |.load t a=>match ρ a with
  |.mp c off=>ae c b&&(match kL P (fun _=>x) t (.mp c off) with
   |some (v',ok)=>ok&&dy v' v
   |none=>false)
  |_=>false
 |_=>false
def wD:mX→Nat→Option aU
 |[],_=>none
 |(i,x)::r,b=>match wD r b with
  |some y=>some y
  |none=>cond (ae i b) (some x) none
def afe:mX→Bool
 |[]=>true
 |_=>false
def Al (o:Oper):Bool:=gx o||match o.op with
 |.alloc _ | .box .. | .buildSlice .. | .makeSlice .. | .store .. | .makeMap .. | .lookup .. | .mapUpdate .. | .insert .. =>true
 |.call c=>match c.callee with
  |.builtin .append | .builtin .copy | .builtin .unsafeSliceData | .builtin .unsafeString=>true
  |_=>false
 |_=>false
def Kb (ρ:Operand→AV) (o:Oper):List Nat:=
 match o.op with
 |.load _ a=>refs (ρ a)
 |.store _ a _=>refs (ρ a)
 |.convert _ _ x=>refs (ρ x)
 |.lookup _ x _ _=>refs (ρ x)
 |.mapUpdate _ x _ _=>refs (ρ x)
 |.insert _ x _ _=>refs (ρ x)
 |.call c=>match c.callee with
  |.builtin .append | .builtin .copy | .builtin .unsafeString=>hJ (c.args.toList.map ρ)
  |_=>[]
 |_=>[]
def cV (n:Nat):Mem:=bx n .free
def oo (N nx:Nat) (ord:List Nat) (v:AV) (m1:Mem):gF:=
 let Sv:=ord++List.range' nx (m1.length-ord.length)
 ⟨jk (bw Sv N) v,Sv.zip (m1.map (gd (bw Sv N))),Sv,fun _ _=>false⟩
def oq (P:Program) (E:Env) (f _rid:Nat) (O:FuncId→List AV→Mem→Option (AV×Mem)) (nx:Nat) (o:Oper) (st:St):Option (gF×Nat×Bool):=
 match target (ev E st.tm) o with
 |some (g,args)=>
  let ord:=close st.mem 0 args
  match O g (eR (idx ord) args) (pack st.mem ord) with
  |some (v,m1)=>some (oo st.mem.length nx ord v m1,nx+(m1.length-ord.length),ai ord.length m1.length&&(iM ord nx&&ai (nx+(m1.length-ord.length)) st.mem.length))
  |none=>none
 |none=>match uc P (fun i=>st.mem.getD i .dead) (E.wr f (o.dst.getD 0)) nx (ev E st.tm) o with
  |some (v,us,ok)=>some (⟨v,us,us.map (·.1)++(Kb (ev E st.tm) o++cond (makes o) [nx] []),Wm P (ev E st.tm) o v⟩,cond (makes o) (nx+1) nx,
    ok&&(Al o&&(iM (us.map (·.1)) (cond (makes o) (nx+1) nx)&&ai (cond (makes o) (nx+1) nx) st.mem.length)))
  |none=>none
def HY (t:Option AV) (r:Option (gF×Nat×Bool)):Option (gF×Nat×Bool):=
 match t with
 |none=>r
 |some v=>match r with
  |some (d,nx,ok)=>some (⟨v,d.us,d.fp,d.ld⟩,nx,ok&&dy d.v v)
  |none=>none
def iX (P:Program) (E:Env) (f bZ:Nat) (O:FuncId→List AV→Mem→Option (AV×Mem)) (nx:Nat) (o:Oper) (st:St):Option (gF×Nat×Bool):=
 HY (E.told f (o.dst.getD 0)) (oq P E f bZ O nx o st)
def hU (P:Program) (E:Env) (f bZ:Nat) (O:FuncId→List AV→Mem→Option (AV×Mem)) (ops:Array Oper):List Oper→Nat→St→Option (St×Nat×List gF×Bool)
 |[],nx,st=>some (st,nx,[],true)
 |o::r,nx,st=>
  let skip:=match hU P E f bZ O ops r nx (put st o.dst (.aA [])) with
   |some (st',oQ,ds,ok)=>some (st',oQ,⟨.aA [],[],[],fun _ _=>false⟩::ds,fits st o.dst&&ok)
   |none=>none
  let qE:=match iX P E f bZ O nx o st with
   |some (d,jJ,ok)=>match hU P E f bZ O ops r jJ (put {st with mem:=apply st.mem d.us} o.dst d.v) with
    |some (st',oQ,ds,ok')=>some (st',oQ,d::ds,ok&&(fits st o.dst&&ok'))
    |none=>none
   |none=>none
  match ep ops st.tm o with
  |.yes=>qE
  |.no=>skip
  |.ask _ b want=>match b==want with
   |true=>qE
   |false=>skip
  |.lost=>none
def B1 (d e:gF):Bool:=afe e.us&&(d.us.map (·.1)).all fun b=> !has e.fp b||(match wD d.us b with
 |some x=>e.ld b x
 |none=>false)
def B2 (L:List Nat) (i:Nat) (d:gF) (j:Nat) (e:gF):Bool:=bc (L.getD i 0) j||(!meet (e.us.map (·.1)) d.fp&&(!meet (d.us.map (·.1)) e.fp||B1 d e))
def qG (L:List Nat) (i:Nat) (d:gF):Nat→List gF→Bool
 |_,[]=>true
 |j,e::r=>B2 L i d j e&&qG L i d (j+1) r
def wE (L:List Nat):Nat→List gF→List gF→Bool
 |_,_,[]=>true
 |i,mQ,d::r=>qG L i d 0 mQ&&wE L (i+1) (mQ++[d]) r
def vI:Mem→Bool
 |[]=>true
 |.free::r=>vI r
 |_::_=>false
def jK (P:Program) (E:Env) (f bZ:Nat) (O:FuncId→List AV→Mem→Option (AV×Mem)) (ops:Array Oper) (st:St):Option (St×Bool):=
 match hU P E f bZ O ops (ops.toList.take (gy ops)) st.mem.length {st with mem:=st.mem++cV (60+ops.size)} with
 |some (st',nx,ds,ok)=>some ({st' with mem:=st'.mem.take nx},ok&&(jI (fun _=>true) ops (masks [] ops.toList) 0 [] ops.toList&&(wE (masks [] ops.toList) 0 [] ds &&
   (vI (st'.mem.drop nx)&&(ai st.mem.length nx&&(P.follows .mixedOrders || !Region.departs ops))))))
 |none=>none
def init (P:Program) (g:FuncId) (args:List AV) (m:Mem):Option cm:=
 match P.funcs[g]? with
 |some fn=>match fn.body with
  |some c=>some {f:=g,todo:=[.code 0 c],st:={tm:=(upTo args.length).zip args,nt:=max fn.ntmps args.length,mem:=m,fix:=m.length}}
  |none=>none
 |none=>none
def FY (tm:sA):List Nat→List AV→sA
 |d::ds,v::vs=>FY ((d,v)::tm) ds vs
 |_,_=>tm
def Dr (args:List AV) (m:Mem):Option cm:=
 match args with
 |.vy i::xs=>match m.getD i .dead with
  |.ob (.loop f ps as bd _ _) vals=>cond (ae xs.length ps.toList.length&&iM ps.toList vals.length)
   (some {f:=f,todo:=[.code 0 as,.begin,.code 0 bd],st:={tm:=FY ((upTo vals.length).zip vals) ps.toList xs,nt:=vals.length,mem:=m,fix:=m.length,b9:= .round i}}) none
  |_=>none
 |_=>none
def lU:List bE→FuncId→List AV→Mem→Option (AV×Mem)
 |[],_,_,_=>none
 |q::r,g,args,m=>cond (ae q.g g&&(jG args q.args&&qB m q.m)) (some (q.v,q.m')) (lU r g args m)
def Ds:Out→Out→Bool
 |.ret v m,.ret u n=>dy v u&&qB m n
 |.zw v m,.zw u n=>dy v u&&qB m n
 |_,_=>false
def agree:List (Option Out)→Option Out
 |[]=>none
 |[o]=>o
 |o::r=>match o,agree r with
  |some o,some p=>cond (Ds o p) (some p) none
  |_,_=>none
def isRec (o:Oper):Bool:=
 match o.op,o.guard with
 |.call c,none=>match c.callee,c.args.toList with
  |.builtin .recover,[]=>true
  |_,_=>false
 |_,_=>false
def wF:Nat→List It→Option (List It)
 |0,_=>none
 |n+1,todo=>match todo with
  |.ops bZ ops i sure::k=>some (.ops bZ ops i sure::k)
  |.code i (.seq a b)::k=>wF n (.code i a :: .code (i+nodes a) b::k)
  |.code _ (.region id ops false)::k=>wF n (.ops id ops 0 false::k)
  |.code i (.scope b)::k=>wF n (.code i b :: .inScope b::k)
  |.code i (.block id b)::k=>wF n (.code i b :: .inBlock id::k)
  |_=>none
def VM (pv:Option AV) (c:cm):Option cm:=
 match c.todo with
 |.ops bZ ops i _::k=>match ops[i]? with
  |some o=>cond (isRec o&&fits c.st o.dst) (some {c with todo:= .ops bZ ops (i+1) false::k,st:=put c.st o.dst (pv.getD (.p (.sc .nilIface)))}) none
  |none=>none
 |_=>none
def Dt (P:Program) (g:FuncId) (args:List AV) (m:Mem) (pv:Option AV):Option cm:=
 match init P g args m with
 |some c=>match wF 20 c.todo with
  |some t=>VM pv {c with todo:=t,st:={c.st with b9:= .late}}
  |none=>none
 |none=>none
def m9 (ord:List Nat) (c:cm) (u:AV) (m1:Mem):cm:=
 {c with todo:=[.gQ (jk (bw ord c.st.mem.length) u)],st:=back ord none c.st (.aA []) m1}
def exec (P:Program) (E:Env) (K:List bE):Nat→cm→Option Out
 |0,_=>none
 |n+1,c=>match step P E c with
  |.next c=>exec P E K n c
  |.must b c=>cond b (exec P E K n c) none
  |.test b y z=>match b with
   |true=>exec P E K n y
   |false=>exec P E K n z
  |.call g args m ord dst c=>match lU K g args m with
   |some (v,m1)=>exec P E K n {c with st:=back ord dst c.st v m1}
   |none=>match init P g args m with
    |some ci=>match exec P E K n ci with
     |some (.ret v m1)=>exec P E K n {c with st:=back ord dst c.st v m1}
     |some (.zw u m1)=>exec P E K n (m9 ord c u m1)
     |none=>none
    |none=>none
  |.late g args m ord pv c=>match Dt P g args m pv with
   |some ci=>match exec P E K n ci with
    |some (.ret _ m1)=>exec P E K n {c with st:=back ord none c.st (.aA []) m1}
    |_=>none
   |none=>none
  |.round args m ord dst c=>match Dr args m with
   |some ci=>match exec P E K n ci with
    |some (.ret v m1)=>exec P E K n {c with st:=back ord dst c.st v m1}
    |_=>none
   |none=>none
  |.range g args m ord L c=>match init P g args m with
   |some ci=>match exec P E K n ci with
    |some (.ret v m1)=>match gh (back ord none c.st v m1).mem L with
     |some (m2,pd)=>exec P E K n (behind c m2 pd)
     |none=>none
    |_=>none
   |none=>none
  |.draw bZ ops c=>match jK P E c.f bZ (fun g args m=>match lU K g args m with
     |some r=>some r
     |none=>match init P g args m with
      |some ci=>match exec P E K n ci with
       |some (.ret v m1)=>some (v,m1)
       |_=>none
      |none=>none) ops c.st with
   |some (st,ok)=>cond ok (exec P E K n {c with st:={st with cw:=c.st.cw,b9:=c.st.b9}}) none
   |none=>none
  |.fork l=>agree (l.map (exec P E K n))
  |.done o=>some o
  |.fail=>none
def Du (P:Program) (E:Env) (K:List bE) (n:Nat) (g:FuncId) (args:List AV) (m:Mem):Option Out:=
 match init P g args m with
 |some c=>exec P E K n c
 |none=>none
inductive Ans where
 |test (b:Bool)
 |call (v:AV) (m:Mem)
 |go
 |stop
inductive Fin where
 |out (o:Out)
 |at(c:cm)
open Go.RowKit
structure Gh where
 bS:Nat→Option Nat
 lo:Nat→Nat
 hi:Nat→Nat
 pure:Nat→Nat→Prop
def bH {α β:Type} (r:α→β→Prop):List α→List β→Prop
 |[],[]=>True
 |a::l,b::m=>r a b∧bH r l m
 |_,_=>False
section all2
variable {α β γ:Type} {r:α→β→Prop}
theorem bH.len : ∀{l:List α} {m:List β},bH r l m→l.length=m.length
 |[],[],_=>rfl
 |_::_,_::_,h=>congrArg (· + 1) (bH.len h.2)
 |[],_::_,h=>h.elim
 |_::_,[],h=>h.elim
theorem bH.mono {s:α→β→Prop} (hrs : ∀a b,r a b→s a b) : ∀{l:List α} {m:List β},bH r l m→bH s l m
 |[],[],_=>trivial
 |_::_,_::_,h=>⟨hrs _ _ h.1,bH.mono hrs h.2⟩
 |[],_::_,h=>h.elim
 |_::_,[],h=>h.elim
theorem bH.mem {s:α→β→Prop} : ∀{l:List α} {m:List β},(∀a b,a∈l→r a b→s a b)→bH r l m→bH s l m
 |[],[],_,_=>trivial
 |_::_,_::_,hrs,h=>⟨hrs _ _ (.head _) h.1,bH.mem (fun a b ha=>hrs a b (.tail _ ha)) h.2⟩
 |[],_::_,_,h=>h.elim
 |_::_,[],_,h=>h.elim
theorem bH.get : ∀{l:List α} {m:List β},bH r l m → ∀i (h:i<l.length) (h':i<m.length),r l[i] m[i]
 |_::_,_::_,h,0,_,_=>h.1
 |_::_,_::_,h,i+1,hi,hj=>bH.get h.2 i (aw hi) (aw hj)
 |[],[],_,_,h,_=>absurd h (Nat.not_lt_zero _)
 |[],_::_,h,_,_,_=>h.elim
 |_::_,[],h,_,_,_=>h.elim
theorem bH.dF : ∀{l:List α} {m:List β},l.length=m.length→(∀i (h:i<l.length) (h':i<m.length),r l[i] m[i])→bH r l m
 |[],[],_,_=>trivial
 |_::_,_::_,hl,h=>⟨h 0 (a8 _) (a8 _),bH.dF (Nat.succ.inj hl) fun i hi hj=>h (i+1) (ba hi) (ba hj)⟩
 |[],_::_,hl,_=>be hl
 |_::_,[],hl,_=>be hl
theorem bH.append : ∀{l l':List α} {m m':List β},bH r l m→bH r l' m'→bH r (l++l') (m++m')
 |[],_,[],_,_,h=>h
 |_::_,_,_::_,_,h,h'=>⟨h.1,bH.append h.2 h'⟩
 |[],_,_::_,_,h,_=>h.elim
 |_::_,_,[],_,h,_=>h.elim
theorem bH.drop : ∀{l:List α} {m:List β} (n:Nat),bH r l m→bH r (l.drop n) (m.drop n)
 |_,_,0,h=>h
 |[],[],_+1,_=>trivial
 |_::_,_::_,n+1,h=>bH.drop n h.2
 |[],_::_,_+1,h=>h.elim
 |_::_,[],_+1,h=>h.elim
theorem bH.take : ∀{l:List α} {m:List β} (n:Nat),bH r l m→bH r (l.take n) (m.take n)
 |[],[],0,_=>trivial
 |_::_,_::_,0,_=>trivial
 |[],[],_+1,_=>trivial
 |_::_,_::_,n+1,h=>⟨h.1,bH.take n h.2⟩
 |[],_::_,_,h=>h.elim
 |_::_,[],_,h=>h.elim
theorem bH.set : ∀{l:List α} {m:List β} (n:Nat) {a:α} {b:β},bH r l m→r a b→bH r (l.set n a) (m.set n b)
 |[],[],_,_,_,_,_=>trivial
 |_::_,_::_,0,_,_,h,hab=>⟨hab,h.2⟩
 |_::_,_::_,n+1,_,_,h,hab=>⟨h.1,bH.set n h.2 hab⟩
 |[],_::_,_,_,_,h,_=>h.elim
 |_::_,[],_,_,_,h,_=>h.elim
theorem bH.get? {l:List α} {m:List β} (h:bH r l m) {i:Nat} {a:α} (ha:l[i]? = some a) : ∃b,m[i]? = some b∧r a b:=by
 obtain⟨hi,rfl⟩:=List.getElem?_eq_some_iff.1 ha
 have hm:=h.len
 exact⟨m[i],bm (by omega),h.get i hi (by omega)⟩
theorem bH.getD {l:List α} {m:List β} (h:bH r l m) {i:Nat} (hi:i<l.length) (d:α) (e:β):r (l.getD i d) (m.getD i e):=by
 have hm:=h.len
 rw[cb,cb,bm hi,bm (by omega:i<m.length)]
 exact h.get i hi (by omega)
end all2
inductive VP (g:Gh) (w:World):PV→Value→Prop
 |sc (v:Value):VP g w (.sc v) v
 |pp (off:Nat) (cells:List PV) (b o:Nat) (f:Nat→Value) (hp : ∀k,k<cells.length→g.pure b (o+k)∧w.cell? ⟨b,o+k,none⟩=some (f k)∧(f k).oneCell'=true)
   (hv : ∀k (h:k<cells.length),VP g w cells[k] (f k)):VP g w (.pp off cells) (.pointer (some ⟨b,o+off,none⟩))
 |ps (len sz:Nat) (cells:List PV) (b o cap:Nat) (f:Nat→Value) (hl:cells.length=len*sz) (hc:len≤cap) (hz:1≤sz)
   (hp : ∀k,k<cells.length→g.pure b (o+k)∧w.cell? ⟨b,o+k,none⟩=some (f k)∧(f k).oneCell'=true)
   (hv : ∀k (h:k<cells.length),VP g w cells[k] (f k)):VP g w (.ps len sz cells) (.slice (some ⟨b,o,none⟩) len cap)
 |pP (sz:Nat) (a:Option Addr) (cap:Nat) (hz:1≤sz∨(a=none∧cap=0)):VP g w (.ps 0 sz []) (.slice a 0 cap)
 |mW (t:TypeId) (v:PV) (cv:Value) (h:VP g w v cv):VP g w (.mW t v) (.iface t cv)
inductive VA (g:Gh) (w:World):AV→Value→Prop
 |aj (v:Value):VA g w .aj v
 |p (v:PV) (cv:Value) (h:VP g w v cv):VA g w (.p v) cv
 |os (tok:Option Nat) (len sz:Nat) (cells:List PV) (a:Option Addr) (cap:Nat) (h:VP g w (.ps len sz cells) (.slice a len cap))
   (hr:cap=len ∨ ∃t b o,tok=some t∧a=some ⟨b,o,none⟩∧g.bS t=some b∧g.lo t=o+len*sz∧g.hi t=o+cap*sz∧len≤cap):VA g w (.os tok len sz cells) (.slice a len cap)
 |mp (b off c:Nat) (h:g.bS b=some c):VA g w (.mp b off) (.pointer (some ⟨c,off,none⟩))
 |ms (b off len sz cap c:Nat) (h:g.bS b=some c) (hc:len≤cap):VA g w (.ms b off len sz (some cap)) (.slice (some ⟨c,off,none⟩) len cap)
 |mg (b off len sz cap c:Nat) (h:g.bS b=some c) (hc:len≤cap) (hh:off+cap*sz≤g.hi b):VA g w (.ms b off len sz none) (.slice (some ⟨c,off,none⟩) len cap)
 |fn (f:Fn) (l k:List AV) (fa ca:Array Value) (hl:l.length=fa.toList.length) (hk:k.length=ca.toList.length)
   (h : ∀i (h:i<l.length) (h':i<fa.toList.length),VA g w l[i] fa.toList[i]) (h2 : ∀i (h:i<k.length) (h':i<ca.toList.length),VA g w k[i] ca.toList[i]):VA g w (.fn f l k) (.func f fa ca)
 |agg (l:List AV) (cs:Array Value) (hl:l.length=cs.toList.length) (h : ∀i (h:i<l.length) (h':i<cs.toList.length),VA g w l[i] cs.toList[i]):VA g w (.agg l) (.agg cs)
 |aA (l:List AV) (cs:Array Value) (hl:l.length=cs.toList.length) (h : ∀i (h:i<l.length) (h':i<cs.toList.length),VA g w l[i] cs.toList[i]):VA g w (.aA l) (.tuple cs)
 |mW (t:TypeId) (v:AV) (cv:Value) (h:VA g w v cv):VA g w (.mW t v) (.iface t cv)
 |vm (b c:Nat) (h:g.bS b=some c):VA g w (.vm b) (.map (some c))
 |vy (b c:Nat) (h:g.bS b=some c):VA g w (.vy b) (.func (.yield c) #[] #[])
abbrev cA (g:Gh) (w:World):List AV→List Value→Prop:=bH (VA g w)
abbrev HZ (g:Gh) (w:World):List PV→List Value→Prop:=bH (VP g w)
theorem VA.zA {g:Gh} {w:World} {l:List AV} {cs:Array Value}:VA g w (.agg l) (.agg cs)↔cA g w l cs.toList:=
 ⟨fun h=>by cases h with | agg _ _ hl h=>exact bH.dF hl h,fun h=> .agg l cs h.len fun i a b=>h.get i a b⟩
theorem VA.mR {g:Gh} {w:World} {l:List AV} {cs:Array Value}:VA g w (.aA l) (.tuple cs)↔cA g w l cs.toList:=
 ⟨fun h=>by cases h with | aA _ _ hl h=>exact bH.dF hl h,fun h=> .aA l cs h.len fun i a b=>h.get i a b⟩
theorem VA.pv {g:Gh} {w:World} {v:PV} {cv:Value}:VA g w (.p v) cv↔VP g w v cv:=
 ⟨fun h=>by cases h with | p _ _ h=>exact h,.p v cv⟩
theorem VA.fns {g:Gh} {w:World} {f:Fn} {l k:List AV} {cv:Value}:VA g w (.fn f l k) cv ↔ ∃fa ca:Array Value,cv = .func f fa ca∧cA g w l fa.toList∧cA g w k ca.toList:=
 ⟨fun h=>by cases h with | fn _ _ _ fa ca hl hk h h2=>exact⟨fa,ca,rfl,bH.dF hl h,bH.dF hk h2⟩,
  fun⟨fa,ca,e,h,h2⟩=>e ▸ .fn f l k fa ca h.len h2.len (fun i a b=>h.get i a b) fun i a b=>h2.get i a b⟩
theorem VP.bK {g:Gh} {w:World} {cv:Value} (h:VP g w .bK cv):False:=by cases h
structure Ext (g:Gh) (w:World) (g':Gh) (w':World):Prop where
 bS : ∀i c,g.bS i=some c→g'.bS i=some c∧g'.lo i=g.lo i∧g'.hi i=g.hi i
 pure : ∀c o,g.pure c o→g'.pure c o∧w'.cell? ⟨c,o,none⟩=w.cell? ⟨c,o,none⟩
theorem Ext.refl (g:Gh) (w:World):Ext g w g w:=⟨fun _ _ h=>⟨h,rfl,rfl⟩,fun _ _ h=>⟨h,rfl⟩⟩
theorem Ext.trans {g g' g'':Gh} {w w' w'':World} (h:Ext g w g' w') (k:Ext g' w' g'' w''):Ext g w g'' w'':=
 ⟨fun i c e=>⟨(k.bS i c (h.bS i c e).1).1,(k.bS i c (h.bS i c e).1).2.1.trans (h.bS i c e).2.1,(k.bS i c (h.bS i c e).1).2.2.trans (h.bS i c e).2.2⟩,
  fun c o e=>⟨(k.pure c o (h.pure c o e).1).1,(k.pure c o (h.pure c o e).1).2.trans (h.pure c o e).2⟩⟩
theorem VP.mono {g g':Gh} {w w':World} (e : ∀c o,g.pure c o→g'.pure c o∧w'.cell? ⟨c,o,none⟩=w.cell? ⟨c,o,none⟩) {v:PV} {cv:Value} (h:VP g w v cv):VP g' w' v cv:=by
 induction h with
 |sc v=>exact .sc v
 |pp off cells b o f hp hv ih=>exact .pp off cells b o f (fun k hk=>⟨(e _ _ (hp k hk).1).1,(e _ _ (hp k hk).1).2.trans (hp k hk).2.1,(hp k hk).2.2⟩) ih
 |ps len sz cells b o cap f hl hc hz hp hv ih=>exact .ps len sz cells b o cap f hl hc hz (fun k hk=>⟨(e _ _ (hp k hk).1).1,(e _ _ (hp k hk).1).2.trans (hp k hk).2.1,(hp k hk).2.2⟩) ih
 |pP sz a cap hz=>exact .pP sz a cap hz
 |mW t v cv h ih=>exact .mW t v cv ih
theorem VA.mono {g g':Gh} {w w':World} (e:Ext g w g' w') {v:AV} {cv:Value} (h:VA g w v cv):VA g' w' v cv:=by
 induction h with
 |aj v=>exact .aj v
 |p v cv h=>exact .p v cv (h.mono e.pure)
 |os tok len sz cells a cap h hr=>
  refine .os tok len sz cells a cap (h.mono e.pure) (hr.imp id ?_)
  rintro ⟨t,b,o,rfl,rfl,hb,hlo,hhi,hc⟩
  exact⟨t,b,o,rfl,rfl,(e.bS t b hb).1,(e.bS t b hb).2.1.trans hlo,(e.bS t b hb).2.2.trans hhi,hc⟩
 |mp b off c h=>exact .mp b off c (e.bS b c h).1
 |ms b off len sz cap c h hc=>exact .ms b off len sz cap c (e.bS b c h).1 hc
 |mg b off len sz cap c h hc hh=>exact .mg b off len sz cap c (e.bS b c h).1 hc (by rw[(e.bS b c h).2.2];exact hh)
 |fn f l k fa ca hl hk h h2 ih ih2=>exact .fn f l k fa ca hl hk ih ih2
 |agg l cs hl h ih=>exact .agg l cs hl ih
 |aA l cs hl h ih=>exact .aA l cs hl ih
 |mW t v cv h ih=>exact .mW t v cv ih
 |vm b c h=>exact .vm b c (e.bS b c h).1
 |vy b c h=>exact .vy b c (e.bS b c h).1
theorem cA.mono {g g':Gh} {w w':World} (e:Ext g w g' w') {l:List AV} {cs:List Value} (h:cA g w l cs):cA g' w' l cs:=bH.mono (fun _ _=>VA.mono e) h
def FZ (g:Gh) (w:World) (l:List AV) (cs:List Value):Prop:=cA g w l cs ∧ ∀v∈cs,v.oneCell'=true
theorem FZ.mono {g g':Gh} {w w':World} (e:Ext g w g' w') {l:List AV} {cs:List Value} (h:FZ g w l cs):FZ g' w' l cs:=⟨h.1.mono e,h.2⟩
def aU.cells?:aU→Option (List AV)
 |.pc l=>some (l.map .p)
 |.ac l=>some l
 |_=>none
def aU.dz:aU→Bool
 |.pc _ | .ac _ | .tok | .ob .. =>true
 |_=>false
def fD (g:Gh) (m:Mem) (c:Nat):Prop:= ∃i b,m[i]? = some b∧b.dz=true∧g.bS i=some c
def entriesOf:List Value→List Value→List Nat→List MapEntry
 |k::ks,v::vs,b::bs=>{key:=k,val:=v,born:=b}::entriesOf ks vs bs
 |_,_,_=>[]
def aG.is:aG→Obj→List Value→Prop
 |.map keys VI clock,ob,vs=>ob = .map (entriesOf keys vs VI).toArray clock
 |.J4,ob,vs=>ob = .deferred (some [])∧vs=[]
 |.shut,ob,vs=>ob = .deferred none∧vs=[]
 |.opq,_,vs=>vs=[]
 |.gr t _,ob,vs=> ∃cs e n,ob = .cells cs e n∧e=t∧n.2≤n.1∧vs=cs.toList.take vs.length∧vs.length≤cs.size ∧ ∀v∈cs.toList,v.oneCell'=true
 |.stk t pre,ob,vs=> ∃cs e n,ob = .cells cs e n∧e=t∧n.2≤n.1∧pre++vs=cs.toList.take (pre.length+vs.length)∧pre.length+vs.length≤cs.size ∧ ∀v∈cs.toList,v.oneCell'=true
 |.gb t,ob,vs=> ∃cs e n,ob = .cells cs e n∧e=t∧n.2≤n.1∧vs=cs.toList.take vs.length∧vs.length≤cs.size∧(∀v∈cs.toList,∃k,v = .int .u8 k)∧cs.size≤9223372036854775807
 |.iter s pos,ob,vs=>ob = .stringIter s pos∧vs=[]
 |.Sr s pos more,ob,vs=>ob = .stringIter s pos∧vs=[]∧ar pos s.size=more
 |.smap ns,ob,vs=>vs=[] ∧ ∃bs clock,ob = .map (entriesOf (ns.map .string) (ns.map fun _=> .bool true) bs).toArray clock∧bs.length=ns.length
 |.J5 keys,ob,vs=> ∃es clock bs,ob = .map es clock∧keys.length=vs.length∧bs.length=vs.length∧es.toList.Perm (entriesOf keys vs bs)
 |.loop f ps a b st pd,ob,vs=> ∃D,ob = .loop {state:=st,pending:=pd,fn:=f,tmps:=vs.toArray,params:=ps,assign:=a,body:=b,defers:=D}
def aG.room:aG→Obj→Nat→Prop
 |.gr _ _,.cells cs _ _,h=>cs.size=h
 |.stk _ _,.cells cs _ _,h=>cs.size=h
 |.gb _,.cells cs _ _,h=>cs.size=h
 |_,_,_=>True
structure Rel (g:Gh) (m:Mem) (w:World):Prop where
 vJ : ∀i,m.length≤i→g.bS i=none
 free : ∀i,m[i]? = some .free→g.bS i=none
 cells : ∀i b l,m[i]? = some b→b.cells?=some l → ∃c cs e n,g.bS i=some c∧w.heap[c]? = some (.cells cs e n)∧n.2≤n.1∧FZ g w l cs.toList ∧ ∀o,¬g.pure c o
 tok : ∀i c,m[i]? = some .tok→g.bS i=some c → ∃cs e n,w.heap[c]? = some (.cells cs e n)∧g.hi i≤cs.size∧(n.2≤n.1∨g.hi i≤n.1) ∧ ∀o,g.lo i≤o→o<g.hi i → ¬g.pure c o
 inj : ∀i j b b' c,m[i]? = some b→m[j]? = some b'→b.dz=true→b'.dz=true→g.bS i=some c→g.bS j=some c→i=j
 there : ∀c o,g.pure c o → ∃v,w.cell? ⟨c,o,none⟩=some v
 obs : ∀i k l,m[i]? = some (.ob k l) → ∃c ob vs,g.bS i=some c∧w.heap[c]? = some ob∧cA g w l vs∧k.is ob vs∧(∀o,¬g.pure c o)∧k.room ob (g.hi i)
theorem Rel.kX {g:Gh} {m:Mem} {w:World} (h:Rel g m w) {c:Nat} (ho:fD g m c):c<w.heap.size:=by
 obtain⟨i,b,hi,hb,hc⟩:=ho
 have lt : ∀{o:Obj},w.heap[c]? = some o→c<w.heap.size:=fun e=>by
  rcases Nat.lt_or_ge c w.heap.size with h | h
  · exact h
  · simp[Array.getElem?_eq_none h] at e
 cases b with
 |free=>simp[aU.dz] at hb
 |dead=>simp[aU.dz] at hb
 |pc l=>obtain⟨c',cs,e,n,h1,h2,_⟩:=h.cells i _ _ hi rfl;rw[hc] at h1;cases h1;exact lt h2
 |ac l=>obtain⟨c',cs,e,n,h1,h2,_⟩:=h.cells i _ _ hi rfl;rw[hc] at h1;cases h1;exact lt h2
 |tok=>obtain⟨cs,e,n,h2,_⟩:=h.tok i c hi hc;exact lt h2
 |ob k l=>obtain⟨c',ob,vs,h1,h2,_⟩:=h.obs i _ _ hi;rw[hc] at h1;cases h1;exact lt h2
theorem Rel.lV {g:Gh} {m:Mem} {w:World} (h:Rel g m w) {c o:Nat} (hp:g.pure c o):c<w.heap.size:=by
 obtain⟨v,hv⟩:=h.there c o hp
 exact World.block_lt_of_cell? (h:=hv)
structure dc (g:Gh) (m:Mem) (w:World) (g':Gh) (m':Mem) (w':World):Prop where
 size:w.heap.size≤w'.heap.size
 keep : ∀c,c<w.heap.size → ¬fD g m c→w'.heap[c]? = w.heap[c]?
 pure : ∀c o,g.pure c o→g'.pure c o∧w'.cell? ⟨c,o,none⟩=w.cell? ⟨c,o,none⟩
 fresh : ∀c o,g'.pure c o→g.pure c o∨fD g m c∨w.heap.size≤c
 owned : ∀c,fD g' m' c→fD g m c∨w.heap.size≤c
 os:w'.os=w.os
 tape:w'.tape=w.tape
 output:w'.output=w.output
theorem dc.refl (g:Gh) (m:Mem) (w:World):dc g m w g m w:=⟨bj _,fun _ _ _=>rfl,fun _ _ h=>⟨h,rfl⟩,fun _ _ h=> .inl h,fun _ h=> .inl h,rfl,rfl,rfl⟩
theorem dc.trans {g g' g'':Gh} {m m' m'':Mem} {w w' w'':World} (h:dc g m w g' m' w') (k:dc g' m' w' g'' m'' w''):dc g m w g'' m'' w'' where
 size:=a6 h.size k.size
 keep c hc hn:=(k.keep c (Nat.lt_of_lt_of_le hc h.size) fun ho=>(h.owned c ho).elim hn fun hh=>absurd hc (Nat.not_lt.2 hh)).trans (h.keep c hc hn)
 pure c o hp:=⟨(k.pure c o (h.pure c o hp).1).1,(k.pure c o (h.pure c o hp).1).2.trans (h.pure c o hp).2⟩
 fresh c o hp:=by
  rcases k.fresh c o hp with h1 | h1 | h1
  · exact h.fresh c o h1
  · exact .inr (h.owned c h1)
  · exact .inr (.inr (a6 h.size h1))
 owned c ho:=by
  rcases k.owned c ho with h1 | h1
  · exact h.owned c h1
  · exact .inr (a6 h.size h1)
 os:=k.os.trans h.os
 tape:=k.tape.trans h.tape
 output:=k.output.trans h.output
theorem dc.less {g:Gh} {m m':Mem} {w:World} (h : ∀c,fD g m' c→fD g m c):dc g m w g m' w:=
 ⟨bj _,fun _ _ _=>rfl,fun _ _ h=>⟨h,rfl⟩,fun _ _ h=> .inl h,fun c ho=> .inl (h c ho),rfl,rfl,rfl⟩
end Go.Am
end
section
namespace Go.Am
theorem wG : ∀{a b:List UInt8},vB a b=true→a=b
 |[],[],_=>rfl
 |x::r,y::s,h=>by
  simp only[vB,ch] at h
  rw[wG h.2,UInt8.toNat_inj.1 (ag h.1)]
 |[],_::_,h=>by cases h
 |_::_,[],h=>by cases h
theorem MD {a b:Value} (h:J9 a b=true):a=b:=by
 unfold J9 at h
 split at h
 · simp only[ch,BT,beq_iff_eq,decide_eq_true_eq] at h
   rw[h.1,h.2]
 · rename_i a b
   cases a<;>cases b<;>first
    |rfl
    |cases h
 · rename_i a b
   have:=wG h
   cases a with
   |mk a=>cases b with
    |mk b=>
     congr 1
     congr 1
     exact Array.toList_inj.1 this
 all_goals first
  |rfl
  |cases h
mutual
theorem B3 : ∀{a b:PV},oL a b=true→a=b
 |.bK,b,h=>by cases b<;>first | rfl | cases h
 |.sc v,b,h=>by
  cases b<;>first
   |cases h
   |exact congrArg _ (MD h)
 |.pp o l,b,h=>by
  cases b with
  |pp q m=>
   simp only[oL,ch] at h
   rw[ag h.1,ng h.2]
  |_=>cases h
 |.ps n z l,b,h=>by
  cases b with
  |ps k y m=>
   simp only[oL,ch] at h
   rw[ag h.1,ag h.2.1,ng h.2.2]
  |_=>cases h
 |.mW t v,b,h=>by
  cases b with
  |mW s u=>
   simp only[oL,ch] at h
   rw[ag h.1,B3 h.2]
  |_=>cases h
theorem ng : ∀{a b:List PV},wo a b=true→a=b
 |[],b,h=>by cases b<;>first | rfl | cases h
 |x::r,b,h=>by
  cases b with
  |nil=>cases h
  |cons y s=>
   simp only[wo,ch] at h
   rw[B3 h.1,ng h.2]
end
theorem ME {a b:Option Nat} (h:eqO a b=true):a=b:=by
 cases a<;>cases b<;>first
  |rfl
  |cases h
  |exact congrArg _ (ag h)
mutual
theorem kB : ∀{a b:AV},dy a b=true→a=b
 |.aj,b,h=>by cases b<;>first | rfl | cases h
 |.p v,b,h=>by
  cases b<;>first
   |cases h
   |exact congrArg _ (B3 h)
 |.os t n z l,b,h=>by
  cases b with
  |os s k y m=>
   simp only[dy,ch] at h
   rw[ME h.1,ag h.2.1,ag h.2.2.1,ng h.2.2.2]
  |_=>cases h
 |.mp x o,b,h=>by
  cases b with
  |mp c q=>
   simp only[dy,ch] at h
   rw[ag h.1,ag h.2]
  |_=>cases h
 |.ms x o n z k,b,h=>by
  cases b with
  |ms c q m y j=>
   simp only[dy,ch] at h
   rw[ag h.1,ag h.2.1,ag h.2.2.1,ag h.2.2.2.1,ME h.2.2.2.2]
  |_=>cases h
 |.fn f l m,b,h=>by
  cases b with
  |fn g k n=>
   cases f<;>cases g<;>first
    |cases h
    |(simp only[dy,ch] at h
      rw[ag h.1,fE h.2.1,fE h.2.2])
  |_=>cases f<;>cases h
 |.agg l,b,h=>by
  cases b<;>first
   |cases h
   |exact congrArg _ (fE h)
 |.aA l,b,h=>by
  cases b<;>first
   |cases h
   |exact congrArg _ (fE h)
 |.mW t v,b,h=>by
  cases b with
  |mW s u=>
   simp only[dy,ch] at h
   rw[ag h.1,kB h.2]
  |_=>cases h
 |.vm x,b,h=>by
  cases b<;>first
   |cases h
   |exact congrArg _ (ag h)
 |.vy x,b,h=>by
  cases b<;>first
   |cases h
   |exact congrArg _ (ag h)
theorem fE : ∀{a b:List AV},jG a b=true→a=b
 |[],b,h=>by cases b<;>first | rfl | cases h
 |x::r,b,h=>by
  cases b with
  |nil=>cases h
  |cons y s=>
   simp only[jG,ch] at h
   rw[kB h.1,fE h.2]
end
theorem B4 : ∀{a b:List Value},Mu a b=true→a=b
 |[],b,h=>by cases b<;>first | rfl | cases h
 |x::r,b,h=>by
  cases b with
  |nil=>cases h
  |cons y s=>
   simp only[Mu,ch] at h
   rw[MD h.1,B4 h.2]
theorem MF {a b:Value} (h:Mv a b=true):a=b:=by
 unfold Mv at h
 split at h
 · rw[Array.toList_inj.1 (B4 h)]
 · cases h
theorem An : ∀{a b:List Value},BU a b=true→a=b
 |[],b,h=>by cases b<;>first | rfl | cases h
 |x::r,b,h=>by
  cases b with
  |nil=>cases h
  |cons y s=>
   simp only[BU,ch] at h
   rw[MF h.1,An h.2]
theorem Ao : ∀{a b:List Nat},BV a b=true→a=b
 |[],b,h=>by cases b<;>first | rfl | cases h
 |x::r,b,h=>by
  cases b with
  |nil=>cases h
  |cons y s=>
   simp only[BV,ch] at h
   rw[ag h.1,Ao h.2]
theorem Kc {a b:Bool} (h:dD a b=true):a=b:=by cases a<;>cases b<;>first | rfl | cases h
theorem MG {a b:aU} (h:HQ a b=true):a=b:=by
 unfold HQ at h
 split at h<;>first
  |rfl
  |cases h
  |exact congrArg _ (ng h)
  |exact congrArg _ (fE h)
  |(simp only[ch] at h;rw[An h.1,fE h.2];done)
  |(simp only[ch] at h;rw[ag h.1,fE h.2];done)
  |(simp only[ch] at h;rw[ag h.1,Kc h.2.1,fE h.2.2];done)
  |(simp only[ch] at h;rw[B4 h.1,Ao h.2.1,ag h.2.2.1,fE h.2.2.2];done)
theorem kY : ∀{a b:Mem},qB a b=true→a=b
 |[],b,h=>by cases b<;>first | rfl | cases h
 |x::r,b,h=>by
  cases b with
  |nil=>cases h
  |cons y s=>
   simp only[qB,ch] at h
   rw[MG h.1,kY h.2]
theorem wH : ∀{a b:List Bool},vH a b=true→a=b
 |[],b,h=>by cases b<;>first | rfl | cases h
 |x::r,b,h=>by
  cases b with
  |nil=>cases h
  |cons y s=>
   simp only[vH,ch] at h
   rw[wH h.2]
   have:=h.1
   cases x<;>cases y<;>first | rfl | cases this
end Go.Am
end
