import Derived.Orders
import Derived.WalkKit
import Derived.ChangeKeysEq
import Derived.DeepKeys3
open Nat renaming beq→ba,ble→bc,eq_of_beq_eq_true→be,blt→bj,lt_of_succ_lt_succ→bm,le_trans→bx,zero_lt_succ→cf,succ_lt_succ→ch,testBit→cp,noConfusion→c8,le_refl→c9
open List renaming getElem?_eq_getElem→da,replicate→db,getD_eq_getElem?_getD→de
open BitVec renaming ofInt→df
open Bool renaming and_eq_true→di
section
namespace Go.Am
inductive PV where
 |bz
 |sc (v:Value)
 |pp (off:Nat) (cells:List PV)
 |ps (len sz:Nat) (cells:List PV)
 |nL (t:TypeId) (v:PV)
 deriving Inhabited
inductive AV where
 |bC
 |p (v:PV)
 |os (tok:Option Nat) (len sz:Nat) (cells:List PV)
 |mp (b off:Nat)
 |ms (b off len sz:Nat) (cap:Option Nat)
 |fn (f:Fn) (first captured:List AV)
 |agg (cells:List AV)
 |aK (vs:List AV)
 |nL (t:TypeId) (v:AV)
 |vm (b:Nat)
 |vy (b:Nat)
 deriving Inhabited
inductive dS where
 |map (keys:List Value) (XZ:List Nat) (clock:Nat)
 |Lx
 |shut
 |loop (f:FuncId) (ps:Array Tmp) (assign body:Code) (state:LoopState) (pending:Option Code)
 |iter (s:ByteArray) (pos:Nat)
 |gr (t:TypeId) (q:Bool)
 |N5 (keys:List Value)
 |opq
 |TD (s:ByteArray) (pos:Nat) (more:Bool)
 |stk (t:TypeId) (pre:List Value)
 |gb (t:TypeId)
 deriving Inhabited
inductive bq where
 |free
 |dead
 |pc (cells:List PV)
 |ac (cells:List AV)
 |tok
 |ob (k:dS) (vals:List AV)
 deriving Inhabited
abbrev Mem:=List bq
abbrev pZ:=List (Nat×AV)
abbrev oX:=List (Nat×bq)
abbrev sI (k:IntKind) (n:Int):AV:= .p (.sc (.int k n))
abbrev sB (b:Bool):AV:= .p (.sc (.bool b))
def look:pZ→Nat→AV
 |[],_=> .bC
 |(k,v)::r,i=>cond (ba k i) v (look r i)
def iK:Value→AV
 |.slice none 0 0=> .os none 0 0 []
 |v=> .p (.sc v)
def X0:Value→AV
 |.agg cs=> .agg (cs.toList.map iK)
 |.tuple vs=> .aK (vs.toList.map iK)
 |v=>iK v
def N6:AV→Option Value
 |.p (.sc v)=>some v
 |_=>none
def vZ:List AV→Option (List Value)
 |[]=>some []
 |a::r=>match N6 a,vZ r with
  |some v,some vs=>some (v::vs)
  |_,_=>none
def N0:AV→Option Value
 |.p (.sc v)=>some v
 |.agg l=>(vZ l).map fun vs=> .agg vs.toArray
 |.aK l=>(vZ l).map fun vs=> .tuple vs.toArray
 |_=>none
def mI:AV→Bool
 |.p .bz=>false
 |.p (.sc v)=>v.oneCell'
 |.p _ | .os .. | .mp .. | .ms .. | .fn .. | .nL .. | .vm _ | .vy _=>true
 |_=>false
def j6:List AV→Bool
 |[]=>true
 |a::r=>mI a&&j6 r
def cellsOf:AV→List AV×Bool
 |.agg l=>(l,j6 l)
 |v=>([v],mI v)
def ED:AV→Option PV
 |.p v=>some v
 |.os _ len sz cells=>some (.ps len sz cells)
 |_=>none
def kV:List AV→Option (List PV)
 |[]=>some []
 |a::r=>match ED a,kV r with
  |some v,some vs=>some (v::vs)
  |_,_=>none
def pV:List AV→Bool
 |[]=>true
 |.p _::r=>pV r
 |_::_=>false
def qw:AV→PV
 |.p v=>v
 |_=> .bz
def Ly (l:List AV):Option (List PV):=cond (pV l) (some (l.map qw)) none
def EE (l:List AV):bq:=
 match Ly l with
 |some vs=> .pc vs
 |none=> .ac l
def dz {α:Type} (l:List α) (off:Nat):List α→List α
 |[]=>l
 |v::r=>dz (l.set off v) (off+1) r
def nE {α:Type} (d:α) (l:List α) (off:Nat):Nat→List α
 |0=>[]
 |n+1=>l.getD off d::nE d l (off+1) n
def ig {α:Type} (P:Program):Sem α→Option α
 |.pure a=>some a
 |.program k=>ig P (k P)
 |.mark _ k=>ig P k
 |_=>none
def ux (ρ:Operand→AV):List Operand→Bool
 |[]=>true
 |x::r=>(N0 (ρ x)).isSome&&ux ρ r
def scalar (P:Program) (ρ:Operand→AV) (o:Oper):Option AV:=
 cond (ux ρ o.op.operands.toList)
  (match ig P (execOp (fun x=>(N0 (ρ x)).getD undef) o) with
    |some (.value v)=>some (X0 v)
    |_=>none)
  none
def gd (P:Program) (t:TypeId):Option Nat:=(P.info? t).map (·.size)
def TE (P:Program) (t:TypeId):Option Bool:=
 match P.underlying t with
 |some (.struct _) | some (.array _ _)=>some true
 |some _=>some false
 |none=>none
def isInt (k:IntKind):PV→Bool
 |.sc (.int j _)=>j==k
 |_=>false
def au:PV→Int
 |.sc (.int _ n)=>n
 |_=>0
def isBool:PV→Bool
 |.sc (.bool _)=>true
 |_=>false
def bf:PV→Bool
 |.sc (.bool b)=>b
 |_=>false
def isStr:PV→Bool
 |.sc (.string _)=>true
 |_=>false
def bg:PV→ByteArray
 |.sc (.string s)=>s
 |_=> .empty
def aO:PV→Bool
 |.ps .. =>true
 |_=>false
def an:PV→Nat
 |.ps len _ _=>len
 |_=>0
def aD:PV→Nat
 |.ps _ sz _=>sz
 |_=>0
def ak:PV→List PV
 |.ps _ _ cs=>cs
 |_=>[]
def isOk:PV→Bool
 |.bz=>false
 |_=>true
def AP (d:Option TypeDesc) (c:PV):PV×Bool:=
 match d with
 |some (.int k)=>(.sc (.int k (au c)),isInt k c)
 |some .bool=>(.sc (.bool (bf c)),isBool c)
 |some .string=>(.sc (.string (bg c)),isStr c)
 |some (.slice _)=>(.ps (an c) (aD c) (ak c),aO c)
 |_=>(c,isOk c)
def iF (d:Option TypeDesc):AV→AV×Bool
 |.p c=>(.p (AP d c).1,(AP d c).2)
 |v=>(v,true)
def vA (P:Program):Nat→TypeId→List (Option TypeDesc)
 |0,_=>[]
 |n+1,t=>match P.underlying t with
  |some (.struct fs)=>fs.toList.flatMap fun f=>vA P n f.type
  |some (.array k e)=>(db k (vA P n e)).flatten
  |d=>[d]
def rj:List (Option TypeDesc)→List AV→List AV×Bool
 |d::ds,a::r=>((iF d a).1::(rj ds r).1,(iF d a).2&&(rj ds r).2)
 |[],[]=>([],true)
 |_,_=>([],false)
def mJ (rd:Nat→bq) (a:AV) (n:Nat):Option (List AV×Bool):=
 match a with
 |.p (.pp off cs)=>some ((nE .bz cs off n).map .p,true)
 |.mp b off=>match rd b with
  |.pc l=>some ((nE .bz l off n).map .p,true)
  |.ac l=>some (nE .bC l off n,bc (off+n) l.length)
  |.ob (.gr _ _) l=>some (nE .bC l off n,bc (off+n) l.length)
  |.ob (.stk _ pre) l=>some (nE .bC l (off-pre.length) n,bc pre.length off&&bc (off-pre.length+n) l.length)
  |_=>none
 |_=>none
def lK (P:Program) (rd:Nat→bq) (t:TypeId) (a:AV):Option (AV×Bool):=
 match TE P t,gd P t with
 |some true,some n=>(mJ rd a n).map fun r=>(.agg (rj (vA P 20 t) r.1).1,r.2&&(rj (vA P 20 t) r.1).2)
 |some false,some _=>match mJ rd a 1 with
  |some ([v],ok)=>some ((iF (P.underlying t) v).1,ok&&(iF (P.underlying t) v).2)
  |_=>none
 |_,_=>none
def EF:AV→AV
 |.os _ len sz cs=> .p (.ps len sz cs)
 |v=>v
def N7 (q:Bool) (vs:List AV):List AV:=cond q (vs.map EF) vs
def rm (b:bq) (off:Nat) (vs:List AV):Option (bq×Bool):=
 match b with
 |.pc l=>match Ly vs with
  |some aJ=>some (.pc (dz l off aJ),bc (off+vs.length) l.length)
  |none=>some (.ac (dz (l.map .p) off vs),bc (off+vs.length) l.length)
 |.ac l=>some (.ac (dz l off vs),bc (off+vs.length) l.length)
 |.ob (.gr t q) l=>some (.ob (.gr t q) (dz l off (N7 q vs)),bc (off+vs.length) l.length)
 |.ob (.stk t pre) l=>some (.ob (.stk t pre) (dz l (off-pre.length) vs),bc pre.length off&&bc (off-pre.length+vs.length) l.length)
 |_=>none
abbrev lU:=Option (AV×oX×Bool)
def rq (P:Program) (rd:Nat→bq) (t:TypeId) (a v:AV):lU:=
 match a,gd P t with
 |.mp b off,some n=>match rm (rd b) off (cellsOf v).1 with
  |some (b',ok)=>some (.aK [],[(b,b')],ok&&(cellsOf v).2&&ba (cellsOf v).1.length n)
  |none=>none
 |_,_=>none
def checked (l:List AV):Option (List AV):=cond (j6 l) (some l) none
def zeroCells (P:Program) (t:TypeId):Option (List AV):=
 match(P.info? t).bind (·.zero) with
 |some (.agg cs)=>checked (cs.toList.map iK)
 |some v=>checked [iK v]
 |none=>none
def CG (P:Program) (bF:Nat) (t:TypeId):lU:=
 (zeroCells P t).map fun l=>(.mp bF 0,[(bF,EE l)],true)
def we (P:Program) (bF:Nat) (t:TypeId):lU:=
 (zeroCells P t).map fun l=>(.mp bF 0,[(bF,.ob (.gr t false) l)],true)
def N8 (bF:Nat) (v:AV):lU:=some (.mp bF 0,[(bF,EE (cellsOf v).1)],(cellsOf v).2)
def uy (place:Nat→Option (Nat×Nat)) (cells:List AV):List (Nat×AV)→Option (List AV×Bool)
 |[]=>some (cells,true)
 |(i,v)::r=>match place i with
  |some (off,size)=>match uy place (dz cells off (cellsOf v).1) r with
   |some (cs,ok)=>some (cs,(cellsOf v).2&&ba (cellsOf v).1.length size&&bc (off+size) cells.length&&ok)
   |none=>none
  |none=>none
def placesOf (P:Program):List Field→Option (List (Nat×Nat))
 |[]=>some []
 |f::r=>match gd P f.type,placesOf P r with
  |some n,some l=>some ((f.offset,n)::l)
  |_,_=>none
def vB (P:Program) (t:TypeId) (parts:List (Nat×AV)):Option (AV×Bool):=
 match zeroCells P t,P.underlying t with
 |some z,some (.struct fields)=>match placesOf P fields.toList with
  |some pl=>(uy (fun i=>pl[i]?) z parts).map fun r=>(.agg r.1,r.2)
  |none=>none
 |some z,some (.array _ elem)=>match gd P elem with
  |some size=>(uy (fun i=>some (i*size,size)) z parts).map fun r=>(.agg r.1,r.2)
  |none=>none
 |_,_=>none
def cV {α:Type} (z:List α):Nat→List α
 |0=>[]
 |n+1=>z++cV z n
def zeros (P:Program) (elem:TypeId) (n:Nat):Option (List AV):=
 match gd P elem,zeroCells P elem with
 |some size,some z=>cond (ba z.length size&&bc 1 size) (match z with
  |[v]=>some (db n v)
  |z=>some (cV z n)) none
 |_,_=>none
def N9 (P:Program) (elem:TypeId) (n:Nat):Option bq:=
 match gd P elem,zeroCells P elem with
 |some size,some z=>cond (ba z.length size&&bc 1 size) (match Ly z with
  |some [v]=>some (.pc (db n v))
  |some z=>some (.pc (cV z n))
  |none=>some (.ac (cV z n))) none
 |_,_=>none
def HT (P:Program) (elem:TypeId) (wr:Bool) (cells:List AV):Option (List PV):=
 match wr,P.underlying elem with
 |true,some (.int .u8)=>none
 |_,_=>kV cells
def mK (P:Program) (wr:Bool) (bF:Nat) (t:TypeId) (len:Nat) (parts:List (Nat×AV)):lU:=
 match P.underlying t with
 |some (.slice elem)=>match gd P elem,zeros P elem len with
  |some size,some z=>match uy (fun i=>some (i*size,size)) z parts with
   |some (cells,ok)=>match wr,HT P elem wr cells with
    |false,some aJ=>some (.os none len size aJ,[],ok&&bc (len*size) 16777216)
    |true,some aJ=>some (.ms bF 0 len size none,[(bF,.ob (.gr elem true) (aJ.map .p))],ok&&bc (len*size) 16777216)
    |_,none=>some (.ms bF 0 len size (some len),[(bF,EE cells)],ok&&bc (len*size) 16777216)
   |none=>none
  |_,_=>none
 |_=>none
def aR:Nat:=70368744177664
def nO (P:Program) (bF:Nat) (t:TypeId) (len cap:AV):lU:=
 match P.underlying t,len,cap with
 |some (.slice elem),.p (.sc (.int _ l)),.p (.sc (.int _ c))=>match P.info? elem,N9 P elem c.toNat with
  |some info,some bX=>some (.ms bF 0 l.toNat info.size (some c.toNat),[(bF,bX)],
    decide (0≤l)&&decide (l≤c)&&bc c.toNat aR&&bc (info.bytes*c.toNat) aR)
  |_,_=>none
 |_,_,_=>none
def qx (P:Program) (t:TypeId) (len cap:AV):lU:=
 match P.underlying t,len,cap with
 |some (.slice elem),.p (.sc (.int _ l)),.p (.sc (.int _ c))=>match P.info? elem,zeroCells P elem with
  |some info,some [z]=>match ED z with
   |some pv=>some (.os none l.toNat 1 (db l.toNat pv),[],
     decide (0≤l)&&(decide (l=c)&&(ba info.size 1&&(bc c.toNat aR&&bc (info.bytes*c.toNat) aR))))
   |none=>none
  |_,_=>none
 |_,_,_=>none
def mL:AV→Nat→Option AV
 |.p (.pp off cs),n=>some (.p (.pp (off+n) cs))
 |.mp b off,n=>some (.mp b (off+n))
 |_,_=>none
def kW (P:Program) (t:TypeId) (x:AV) (f:Nat):Option AV:=
 match P.underlying t with
 |some (.struct fields)=>match fields[f]? with
  |some fd=>match gd P fd.type with
   |some n=>cond (bc 1 n) (mL x fd.offset) none
   |none=>none
  |none=>none
 |_=>none
def partOf (P:Program) (t:TypeId) (cs:List AV) (off:Nat):Option (AV×Bool):=
 match TE P t,gd P t with
 |some true,some n=>some (.agg (nE .bC cs off n),bc (off+n) cs.length)
 |some false,some _=>some (cs.getD off .bC,bj off cs.length)
 |_,_=>none
def vC (P:Program) (t:TypeId) (x:AV) (f:Nat):Option (AV×Bool):=
 match P.underlying t,x with
 |some (.struct fields),.agg cs=>match fields[f]? with
  |some fd=>partOf P fd.type cs fd.offset
  |none=>none
 |_,_=>none
def aP (i:Int) (len:Nat):Bool:=decide (0≤i)&&decide (i<len)
def kX (P:Program) (t:TypeId) (x i:AV):Option (AV×Bool):=
 match i,P.underlying t with
 |.p (.sc (.int _ n)),some (.array len elem)=>match gd P elem with
  |some size=>(mL x (n.toNat*size)).map fun v=>(v,aP n len)
  |none=>none
 |.p (.sc (.int _ n)),some (.slice elem)=>match gd P elem,x with
  |some size,.p (.ps len sz cs)=>some (.p (.pp (n.toNat*size) cs),aP n len&&ba sz size)
  |some size,.os _ len sz cs=>some (.p (.pp (n.toNat*size) cs),aP n len&&ba sz size)
  |some size,.ms b off len sz _=>some (.mp b (off+n.toNat*size),aP n len&&ba sz size)
  |_,_=>none
 |_,_=>none
def vD (P:Program) (t:TypeId) (x i:AV):Option (AV×Bool):=
 match x,i with
 |.agg cs,.p (.sc (.int _ n))=>match P.underlying t with
  |some (.array len elem)=>match gd P elem,partOf P elem cs (n.toNat*(gd P elem).getD 0) with
   |some _,some (v,ok)=>some (v,aP n len&&ok)
   |_,_=>none
  |_=>none
 |.p (.sc (.string s)),.p (.sc (.int _ n))=>match P.underlying t with
  |some .string=>some (sI .u8 (s.data.toList.getD n.toNat 0).toNat,aP n s.data.toList.length)
  |_=>none
 |_,_=>none
def bound (ρ:Operand→AV) (x:Option Operand) (dflt:Nat):Option (Nat×Bool):=
 match x with
 |none=>some (dflt,true)
 |some x=>match ρ x with
  |.p (.sc (.int _ n))=>some (n.toNat,decide (0≤n))
  |_=>none
def cut {α:Type} (cs:List α) (lo hi:Option Nat):List α:=
 match lo,hi with
 |none,none=>cs
 |some l,none=>cs.drop l
 |none,some h=>cs.take h
 |some l,some h=>(cs.take h).drop l
def times (x:Option Operand) (n sz:Nat):Option Nat:=x.map fun _=>n*sz
def oY (P:Program) (ρ:Operand→AV) (t:TypeId) (x:AV) (low high mx:Option Operand):Option (AV×Bool):=
 match P.underlying t with
 |some (.array n elem)=>match gd P elem,bound ρ low 0,bound ρ high n,mx,x with
  |some size,some (l,a),some (h,b),none,.mp i off=>some (.ms i (cond (ba n l) off (off+l*size)) (h-l) size (some (n-l)),a&&b&&bc l h&&bc h n)
  |_,_,_,_,_=>none
 |some (.slice elem)=>match gd P elem,bound ρ low 0,x with
  |some size,some (l,a),.p (.ps len sz cs)=>match bound ρ high len,mx with
   |some (h,b),none=>some (.p (.ps (h-l) size (cut cs (times low l size) (times high h size))),a&&b&&bc l h&&bc h len&&ba sz size)
   |some (h,b),some m=>match bound ρ (some m) 0 with
    |some (m,c)=>some (.os none (h-l) size (cut cs (times low l size) (times high h size)),a&&b&&c&&bc l h&&bc h len&&ba m h&&(high.isSome&&ba sz size))
    |none=>none
   |_,_=>none
  |some size,some (l,a),.os tok len sz cs=>match bound ρ high len,mx with
   |some (h,b),none=>match high with
    |none=>some (.os tok (h-l) size (cut cs (times low l size) none),a&&b&&bc l h&&(ba sz size||(ba len 0&&(bc 1 size&&tok.isNone))))
    |some _=>match tok,ba h len with
     |none,true=>some (.os none (h-l) size (cut cs (times low l size) (some (h*size))),a&&b&&bc l h&&bc h len&&(ba sz size||(ba len 0&&bc 1 size)))
     |_,_=>some (.p (.ps (h-l) size (cut cs (times low l size) (some (h*size)))),a&&b&&bc l h&&bc h len&&(ba sz size||(ba len 0&&bc 1 size)))
   |some (h,b),some m=>match bound ρ (some m) 0 with
    |some (m,c)=>some (.os none (h-l) size (cut cs (times low l size) (times high h size)),a&&b&&c&&bc l h&&bc h len&&ba m h&&(high.isSome&&(ba sz size||(ba len 0&&bc 1 size))))
    |none=>none
   |_,_=>none
  |some size,some (l,a),.ms i off len sz none=>match bound ρ high len,mx with
   |some (h,b),none=>some (.ms i (off+l*size) (h-l) size none,a&&b&&bc l h&&bc h len&&ba sz size&&(ba l 0||bj l len))
   |some (h,b),some m=>match bound ρ (some m) 0 with
    |some (m,c)=>some (.ms i (cond (ba m l) off (off+l*size)) (h-l) size (some (m-l)),a&&b&&c&&bc l h&&bc h m&&bc m len&&(high.isSome&&ba sz size))
    |none=>none
   |_,_=>none
  |some size,some (l,a),.ms i off len sz (some cap)=>match bound ρ high len,mx with
   |some (h,b),none=>some (.ms i (cond (ba cap l) off (off+l*size)) (h-l) size (some (cap-l)),a&&b&&bc l h&&bc h cap&&ba sz size)
   |_,_=>none
  |_,_,_=>none
 |some .string=>match bound ρ low 0,x,mx with
  |some (l,a),.p (.sc (.string s)),none=>match bound ρ high s.data.toList.length with
   |some (h,b)=>some (.p (.sc (.string (s.extract l h))),a&&b&&bc l h&&bc h s.data.toList.length)
   |none=>none
  |_,_,_=>none
 |_=>none
def byteOf:PV→UInt8
 |.sc (.int .u8 n)=>UInt8.ofNat n.toNat
 |_=>0
def isByte:PV→Bool
 |.sc (.int .u8 _)=>true
 |_=>false
def eE (b:UInt8):PV:= .sc (.int .u8 b.toNat)
def contents (rd:Nat→bq) (sz:Nat):AV→Option (Nat×List PV×Bool)
 |.p (.ps len s cs)=>some (len,cs,ba s sz||(ba len 0&&bc 1 sz))
 |.os _ len s cs=>some (len,cs,ba s sz||(ba len 0&&bc 1 sz))
 |.ms b off len s (some _)=>match rd b with
  |.pc l=>some (len,(l.drop off).take (len*sz),ba s sz&&bc (off+len*sz) l.length)
  |.ac l=>(kV ((l.drop off).take (len*sz))).map fun aJ=>(len,aJ,ba s sz&&bc (off+len*sz) l.length)
  |.ob (.gr _ true) l=>some (len,((l.drop off).take (len*sz)).map qw,pV ((l.drop off).take (len*sz))&&(ba s sz&&bc (off+len*sz) l.length))
  |.ob (.gr _ false) l=>(kV ((l.drop off).take (len*sz))).map fun aJ=>(len,aJ,ba s sz&&bc (off+len*sz) l.length)
  |_=>none
 |.ms b off len s none=>match rd b with
  |.ob (.gr _ true) l=>some (len,((l.drop off).take (len*sz)).map qw,pV ((l.drop off).take (len*sz))&&(ba s sz&&bc (off+len*sz) l.length))
  |.ob (.gr _ false) l=>(kV ((l.drop off).take (len*sz))).map fun aJ=>(len,aJ,ba s sz&&bc (off+len*sz) l.length)
  |.ob (.gb _) l=>some (len,((l.drop off).take (len*sz)).map qw,pV ((l.drop off).take (len*sz))&&(ba s sz&&bc (off+len*sz) l.length))
  |_=>none
 |.p (.sc (.string s))=>some (s.data.toList.length,s.data.toList.map eE,ba sz 1)
 |_=>none
def convertOp (P:Program) (rd:Nat→bq) (bF:Nat) (ρ:Operand→AV) (o:Oper) (src dst:TypeId) (x:AV):lU:=
 match P.underlying dst,x with
 |some (.int k),.p (.sc (.int _ n))=>match P.underlying src with
  |some _=>some (sI k (k.wrap n),[],true)
  |none=>none
 |some .string,.p (.sc (.string s))=>match P.underlying src with
  |some .string=>some (.p (.sc (.string s)),[],true)
  |_=>none
 |some (.slice e),.p (.sc (.string s))=>match P.underlying src,P.underlying e with
  |some .string,some (.int .u8)=>some (.os (some bF) s.data.toList.length 1 (s.data.toList.map eE),[(bF,.tok)],true)
  |_,_=>none
 |some (.slice e),.ms b off len sz (some _)=>match P.underlying src,P.underlying e,rd b with
  |some (.slice _),some (.int .u8),.pc l=>some (.p (.ps len 1 ((l.drop off).take len)),[(b,.dead)],ba src dst&&(ba sz 1&&bc (off+len) l.length))
  |_,_,_=>none
 |some .unsafePointer,.mp b off=>match P.underlying src,rd b with
  |some (.pointer t),.ob (.gr _ _) l=>match P.info? t with
   |some j=>some (.mp b off,[],bc 1 j.size&&bj off l.length)
   |none=>none
  |_,_=>none
 |some (.pointer u),.mp b 0=>match P.underlying src,rd b with
  |some .unsafePointer,.ob (.gr t _) l=>match P.info? u with
   |some _=>some (.mp b 0,[],ba t u&&(bc 1 (P.cellsOf u)&&bc (P.cellsOf u) l.length))
   |none=>none
  |_,_=>none
 |some .string,x=>match P.underlying src with
  |some (.slice e)=>match P.underlying e with
   |some (.int .u8)=>match contents rd 1 x with
    |some (_,aJ,ok)=>some (.p (.sc (.string ⟨(aJ.map byteOf).toArray⟩)),[],ok&&aJ.all isByte)
    |none=>none
   |_=>none
  |_=>none
 |_,_=>(scalar P ρ o).map fun v=>(v,[],true)
def kY:AV→Bool
 |.p (.sc (.pointer none)) | .p (.sc .nilFunc) | .p (.sc .nilIface)=>true
 |_=>false
def kZ:AV→Bool
 |.p (.pp ..) | .mp .. | .fn .. | .p (.nL ..) | .nL .. =>true
 |_=>false
def HU (op:BinOp) (k:IntKind) (x:Int) (yk:IntKind) (y:Int):Option (Value×Bool):=
 match op with
 |.add=>some (.int k (k.wrap (x+y)),k==yk)
 |.sub=>some (.int k (k.wrap (x-y)),k==yk)
 |.mul=>some (.int k (k.wrap (x*y)),k==yk)
 |.quo=>some (.int k (k.wrap (x.tdiv y)),k==yk && !(y==0))
 |.rem=>some (.int k (x.tmod y),k==yk && !(y==0))
 |.and=>some (.int k (k.wrap (df k.bits x&&&df k.bits y).toNat),k==yk)
 |.or=>some (.int k (k.wrap (df k.bits x|||df k.bits y).toNat),k==yk)
 |.xor=>some (.int k (k.wrap (df k.bits x ^^^ df k.bits y).toNat),k==yk)
 |.andNot=>some (.int k (k.wrap (df k.bits x &&& ~~~df k.bits y).toNat),k==yk)
 |.shl=>some (.int k (k.wrap (x*2 ^ min y.toNat k.bits)),decide (0≤y))
 |.shr=>some (.int k (x.fdiv (2 ^ min y.toNat k.bits)),decide (0≤y))
 |.eql=>some (.bool (x==y),k==yk)
 |.neq=>some (.bool (x != y),k==yk)
 |.lss=>some (.bool (x<y),k==yk)
 |.leq=>some (.bool (x≤y),k==yk)
 |.gtr=>some (.bool (x>y),k==yk)
 |.geq=>some (.bool (x≥y),k==yk)
def HV (op:BinOp) (x y:ByteArray):Option (Value×Bool):=
 match op with
 |.add=>some (.string (x++y),bc (x.data.toList.length+y.data.toList.length) aR)
 |.eql=>some (.bool (x.data.toList==y.data.toList),true)
 |.neq=>some (.bool (!(x.data.toList==y.data.toList)),true)
 |.lss=>some (.bool (Op.bytesLess x.data.toList y.data.toList),true)
 |_=>none
def ij (P:Program):Nat→List Field→List AV→List AV→Option Bool
 |_,[],[],[]=>some true
 |i,f::fs,x::xs,y::ys=>match P.underlying f.type,x,y with
  |some (.int _),.p (.sc (.int k a)),.p (.sc (.int k' b))=>cond (k==k'&&ba f.offset i&&f.name != "_" && P.plainKey f.type) ((ij P (i+1) fs xs ys).map fun r=>(a==b)&&r) none
  |some .bool,.p (.sc (.bool a)),.p (.sc (.bool b))=>cond (ba f.offset i&&f.name != "_" && P.plainKey f.type) ((ij P (i+1) fs xs ys).map fun r=>(a==b)&&r) none
  |some .string,.p (.sc (.string a)),.p (.sc (.string b))=>cond (ba f.offset i&&f.name != "_" && P.plainKey f.type) ((ij P (i+1) fs xs ys).map fun r=>(a.data.toList==b.data.toList)&&r) none
  |_,_,_=>none
 |_,_,_,_=>none
def EG (P:Program) (t:TypeId) (x y:AV):Option Bool:=match x,y with
 |.agg xs,.agg ys=>match P.underlying t with
  |some (.struct fs)=>cond (!P.stoodInHeld t && !P.eqGuardType P.depth t) (ij P 0 fs.toList xs ys) none
  |_=>none
 |_,_=>none
def JE (P:Program) (o:Oper) (x y:AV):Option Bool:=match o.op with
 |.binOp _ t _ _ _=>EG P t x y
 |_=>none
def ru (P:Program) (ρ:Operand→AV) (o:Oper) (op:BinOp) (x y:AV):Option (AV×Bool):=
 match x,y with
 |.p (.sc (.int k a)),.p (.sc (.int k' b))=>(HU op k a k' b).map fun r=>(.p (.sc r.1),r.2)
 |.p (.sc (.string a)),.p (.sc (.string b))=>(HV op a b).map fun r=>(.p (.sc r.1),r.2)
 |x,y=>match op with
  |.eql=>match JE P o x y with
   |some b=>some (sB b,true)
   |none=>cond ((kY x&&kZ y)||(kZ x&&kY y)) none ((scalar P ρ o).map fun v=>(v,true))
  |.neq=>match JE P o x y with
   |some b=>some (sB !b,true)
   |none=>cond ((kY x&&kZ y)||(kZ x&&kY y)) none ((scalar P ρ o).map fun v=>(v,true))
  |_=>none
def wg (P:Program) (ρ:Operand→AV) (o:Oper) (op:UnOp) (x:AV):Option (AV×Bool):=
 match op,x with
 |.not,.p (.sc (.bool b))=>some (sB !b,true)
 |.neg,.p (.sc (.int k n))=>some (sI k (k.wrap (0-n)),true)
 |_,_=>(scalar P ρ o).map fun v=>(v,true)
def oZ (rd:Nat→bq) (bF:Nat):Option Nat→Option oX
 |none=>some [(bF,.tok)]
 |some t=>match rd t with
  |.tok=>some [(t,.dead),(bF,.tok)]
  |_=>none
def jh (P:Program) (rd:Nat→bq) (bF:Nat) (argTypes:Array TypeId) (s x:AV):lU:=
 match argTypes[0]?,argTypes[1]? with
 |some sType,some xType=>match P.underlying sType,P.underlying xType with
  |some (.slice _),some (.int _)=>none
  |some (.slice elem),some _=>match P.info? elem,zeroCells P elem with
   |some info,some z=>match contents rd info.size x,s with
    |some (n,aJ,ok),.os tok len sz cs=>(oZ rd bF tok).map fun us=>(.os (some bF) (len+n) info.size (cs++aJ),us,
      ok&&(ba sz info.size||(ba len 0&&tok.isNone))&&bc 1 info.size&&ba z.length info.size&&bc ((len+n)*info.bytes) aR&&bc (len+n) aR)
    |_,_=>none
   |_,_=>none
  |_,_=>none
 |_,_=>none
def j3:bq→Option (List AV)
 |.pc l=>some (l.map .p)
 |.ac l=>some l
 |.ob (.gr _ _) l=>some l
 |_=>none
def cZ (rd:Nat→bq) (sz:Nat) (x:AV):Option (Nat×List AV×Bool):=
 match contents rd sz x with
 |some (n,aJ,ok)=>some (n,aJ.map .p,ok)
 |none=>match x with
  |.ms b off len s (some _)=>match rd b with
   |.ac l=>some (len,((l.drop off).take (len*sz)).map EF,ba s sz&&bc (off+len*sz) l.length)
   |_=>none
  |_=>none
def j7 (rd:Nat→bq) (sz:Nat) (x:AV):Bool:=(contents rd sz x).isSome
def aeN:bq→Bool
 |.pc _=>true
 |.ob (.gr _ q) _=>q
 |_=>false
def aeO:Option TypeDesc→Bool
 |some (.int .u8)=>true
 |_=>false
def X1:AV→Bool
 |.p v=>isByte v
 |_=>false
def allBy:List AV→Bool
 |[]=>true
 |a::r=>X1 a&&allBy r
def fL (P:Program) (rd:Nat→bq) (bF:Nat) (argTypes:Array TypeId) (s x:AV):lU:=
 match argTypes[0]?,argTypes[1]? with
 |some sType,some xType=>match P.underlying sType,P.underlying xType with
  |some (.slice _),some (.int _)=>none
  |some (.slice elem),some _=>match P.info? elem,zeroCells P elem with
   |some info,some z=>match cZ rd info.size x with
    |some (n,aJ,ok)=>
     let fits:=fun(len:Nat)=>ok&&(bc 1 info.size&&(ba z.length info.size&&(bc ((len+n)*info.bytes) aR&&bc (len+n) aR)))
     match s with
     |.ms b 0 len sz none=>match rd b with
      |.ob (.gr t q) l=>some (.ms bF 0 (len+n) sz none,[(b,.dead),(bF,.ob (.gr t (q&&j7 rd info.size x)) (l.take (len*sz)++aJ))],fits len&&(ba sz info.size&&(bc (len*sz) l.length&&ba t elem)))
      |.ob (.gb t) l=>some (.ms bF 0 (len+n) sz none,[(b,.dead),(bF,.ob (.gb t) (l++aJ))],fits len&&(ba sz info.size&&(ba (len*sz) l.length&&(ba t elem&&(ba info.size 1&&(allBy z&&allBy aJ))))))
      |.ob (.stk t pre) l=>some (.ms bF 0 (len+n) sz none,[(b,.dead),(bF,.ob (.stk t pre) (l.take (len*sz-pre.length)++aJ))],fits len&&(ba sz info.size&&(bc (len*sz) (pre.length+l.length)&&(ba t elem&&bc pre.length (len*sz)))))
      |_=>none
     |.os none len sz cells=>match ba n 0 with
      |true=>some (.os none len sz cells,[],fits len)
      |false=>match aeO (P.underlying elem) with
       |true=>some (.ms bF 0 (len+n) info.size none,[(bF,.ob (.gb elem) (cells.map .p++aJ))],fits len&&((ba sz info.size||(ba len 0&&bc 1 info.size))&&(allBy (cells.map .p)&&(ba info.size 1&&(allBy z&&allBy aJ)))))
       |false=>some (.ms bF 0 (len+n) info.size none,[(bF,.ob (.gr elem (j7 rd info.size x)) (cells.map .p++aJ))],fits len&&(ba sz info.size||(ba len 0&&bc 1 info.size)))
     |.ms b 0 len sz (some cap)=>match j3 (rd b) with
      |some l=>cond (bc (len+n) cap)
       (match rm (rd b) (len*sz) (aJ) with
         |some (b',ok')=>some (.ms b 0 (len+n) sz (some cap),[(b,b')],fits len&&(ok'&&ba sz info.size))
         |none=>none)
       (some (.ms bF 0 (len+n) sz none,[(bF,.ob (.gr elem (aeN (rd b)&&j7 rd info.size x)) (l.take (len*sz)++aJ))],fits len&&(ba sz info.size&&bc (len*sz) l.length)))
      |none=>none
     |_=>none
    |none=>none
   |_,_=>none
  |_,_=>none
 |_,_=>none
def nP:AV→AV
 |.p (.ps 0 0 _)=> .os none 0 0 []
 |v=>v
def Yv:AV→Bool
 |.ms .. =>true
 |_=>false
set_option linter.unusedVariables false in
def tv (P:Program) (rd:Nat→bq) (argTypes:Array TypeId) (d s:AV):lU:=none
def Oa (P:Program) (argTypes:Array TypeId) (x:AV):Option AV:=
 match argTypes[0]? with
 |some t=>match P.underlying t,x with
  |some (.slice _),.p (.ps len _ _)=>some (sI .i64 len)
  |some (.slice _),.os _ len _ _=>some (sI .i64 len)
  |some (.slice _),.ms _ _ len _ _=>some (sI .i64 len)
  |some .string,.p (.sc (.string s))=>some (sI .i64 s.data.toList.length)
  |some (.array n _),_=>some (sI .i64 n)
  |_,_=>none
 |none=>none
def Ob (P:Program) (argTypes:Array TypeId) (x:AV):Option AV:=
 match argTypes[0]? with
 |some t=>match P.underlying t,x with
  |some (.slice _),.ms _ _ _ _ (some cap)=>some (sI .i64 cap)
  |some (.slice _),.os none len _ _=>some (sI .i64 len)
  |some (.slice _),.p (.ps 0 0 _)=>some (sI .i64 0)
  |_,_=>none
 |none=>none
set_option linter.unusedVariables false in
def nQ (P:Program) (t:TypeId) (x:AV):Option AV:=none
def j8 (P:Program) (ρ:Operand→AV) (o:Oper) (x:AV):Option AV:=
 match x with
 |.p (.pp off cs)=>some (.p (.pp off cs))
 |.mp b off=>some (.mp b off)
 |.fn (.func f) a b=>some (.fn (.func f) a b)
 |_=>scalar P ρ o
def j9 (r:Option AV):lU:=r.map fun v=>(v,[],true)
def iq (r:Option (AV×Bool)):lU:=r.map fun v=>(v.1,[],v.2)
def Oc (j k:IntKind):Bool:=j==k
def vE:List UInt8→List UInt8→Bool
 |[],[]=>true
 |a::r,b::s=>ba a.toNat b.toNat&&vE r s
 |_,_=>false
def CH:Bool→Bool→Bool
 |true,true=>true
 |false,false=>true
 |_,_=>false
def Lz:Value→Value→Bool
 |.int j a,.int k b=>Oc j k&&decide (a=b)
 |.bool a,.bool b=>CH a b
 |.string a,.string b=>vE a.data.toList b.data.toList
 |.pointer none,.pointer none=>true
 |.slice none 0 0,.slice none 0 0=>true
 |.map none,.map none=>true
 |.nilFunc,.nilFunc=>true
 |.nilIface,.nilIface=>true
 |_,_=>false
def Od:List Value→List Value→Bool
 |[],[]=>true
 |a::r,b::s=>Lz a b&&Od r s
 |_,_=>false
mutual
def pW:PV→PV→Bool
 |.bz,.bz=>true
 |.sc v,.sc u=>Lz v u
 |.pp o l,.pp q m=>ba o q&&wk l m
 |.ps n z l,.ps k y m=>ba n k&&(ba z y&&wk l m)
 |.nL t v,.nL s u=>ba t s&&pW v u
 |_,_=>false
def wk:List PV→List PV→Bool
 |[],[]=>true
 |a::r,b::s=>pW a b&&wk r s
 |_,_=>false
end
def eqO:Option Nat→Option Nat→Bool
 |none,none=>true
 |some a,some b=>ba a b
 |_,_=>false
mutual
def jB:AV→AV→Bool
 |.bC,.bC=>true
 |.p v,.p u=>pW v u
 |.os t n z l,.os s k y m=>eqO t s&&(ba n k&&(ba z y&&wk l m))
 |.mp b o,.mp c q=>ba b c&&ba o q
 |.ms b o n z k,.ms c q m y j=>ba b c&&(ba o q&&(ba n m&&(ba z y&&eqO k j)))
 |.fn (.func f) l m,.fn (.func g) k n=>ba f g&&(lp l k&&lp m n)
 |.agg l,.agg m=>lp l m
 |.aK l,.aK m=>lp l m
 |.nL t v,.nL s u=>ba t s&&jB v u
 |.vm b,.vm c=>ba b c
 |.vy b,.vy c=>ba b c
 |_,_=>false
def lp:List AV→List AV→Bool
 |[],[]=>true
 |a::r,b::s=>jB a b&&lp r s
 |_,_=>false
end
def Oe (a b:Value):Bool:=
 match a,b with
 |.agg x,.agg y=>Od x.toList y.toList
 |_,_=>false
def CI:List Value→List Value→Bool
 |[],[]=>true
 |a::r,b::s=>Oe a b&&CI r s
 |_,_=>false
def CJ:List Nat→List Nat→Bool
 |[],[]=>true
 |a::r,b::s=>ba a b&&CJ r s
 |_,_=>false
def JF:bq→bq→Bool
 |.free,.free=>true
 |.dead,.dead=>true
 |.tok,.tok=>true
 |.pc l,.pc m=>wk l m
 |.ac l,.ac m=>lp l m
 |.ob (.gr t q) l,.ob (.gr u r) m=>ba t u&&(CH q r&&lp l m)
 |.ob (.gb t) l,.ob (.gb u) m=>ba t u&&lp l m
 |.ob .opq [],.ob .opq []=>true
 |.ob (.map ks bs c) l,.ob (.map js ds d) m=>Od ks js&&(CJ bs ds&&(ba c d&&lp l m))
 |.ob (.N5 ks) l,.ob (.N5 js) m=>CI ks js&&lp l m
 |_,_=>false
def rz:Mem→Mem→Bool
 |[],[]=>true
 |a::r,b::s=>JF a b&&rz r s
 |_,_=>false
def plainKey:TypeDesc→Value→Bool
 |.int k,.int k' _=>k==k'
 |.string,.string _=>true
 |.bool,.bool _=>true
 |_,_=>false
def X2 (P:Program) (kt:TypeId):Bool:=
 (match P.underlying kt with | some (.array _ _) | some (.struct _)=>true | _=>false)&&(P.keyTypeAt 20 kt&&P.tiled 20 kt)
def AQ (P:Program) (bF:Nat) (t:TypeId):lU:=
 match P.underlying t with
 |some (.map kt _)=>match X2 P kt with
  |true=>some (.vm bF,[(bF,.ob (.N5 []) [])],true)
  |false=>some (.vm bF,[(bF,.ob (.map [] [] 0) [])],true)
 |_=>some (.vm bF,[(bF,.ob (.map [] [] 0) [])],true)
set_option linter.unusedVariables false in
def wm (P:Program) (rd:Nat→bq) (t:TypeId) (m k:AV) (ok:Bool):Option AV:=none
set_option linter.unusedVariables false in
def lq (P:Program) (rd:Nat→bq) (t:TypeId) (m k v:AV):lU:=none
def isNil:AV→Bool
 |.p (.sc (.pointer none)) | .p (.sc (.map none)) | .p (.sc .nilFunc) | .p (.sc .nilIface)=>true
 |_=>false
def isRef:AV→Bool
 |.p (.pp ..) | .mp .. | .vm _ | .fn .. | .p (.nL ..) | .nL .. =>true
 |_=>false
def JG (x y:AV):Bool:=(isNil x&&isRef y)||(isRef x&&isNil y)
set_option linter.unusedVariables false in
def JH (P:Program) (op:BinOp) (t:TypeId) (x y:AV):lU:=none
def CK:AV→AV→Bool
 |.mp b o,.mp c q=>ba b c&&ba o q
 |_,_=>false
set_option linter.unusedVariables false in
def o7 (P:Program) (op:BinOp) (t:TypeId):lU:=none
def CL:Operand→Bool
 |.const (.slice none _ _)=>true
 |_=>false
def JI:AV→Option Bool
 |.p (.ps len sz _)=>cond (bc 1 len) (some false) (cond (ba sz 0) (some true) none)
 |.os _ len sz _=>cond (bc 1 len) (some false) (cond (ba sz 0) (some true) none)
 |.ms .. =>some false
 |_=>none
def vF (P:Program) (op:BinOp) (t:TypeId) (x:AV):lU:=
 match P.underlying t with
 |some (.slice _)=>match JI x,op with
  |some b,.eql=>some (sB b,[],true)
  |some b,.neq=>some (sB (!b),[],true)
  |_,_=>none
 |_=>none
def CM (P:Program) (bF:Nat) (t:TypeId) (x:AV):lU:=
 match P.underlying t,x with
 |some .string,.p (.sc (.string s))=>some (.mp bF 0,[(bF,.ob (.iter s 0) [])],true)
 |_,_=>none
def HW (rd:Nat→bq) (it:AV):Bool→lU
 |true=>match it with
  |.mp b 0=>match rd b with
   |.ob (.iter s pos) _=>match bj pos s.size with
    |true=>match Utf8.decode s pos with
     |(c,width)=>some (.aK [sB true,sI .i64 pos,sI .i32 c],[(b,.ob (.iter s (pos+width)) [])],true)
    |false=>some (.aK [sB false],[],true)
   |.ob (.TD s pos more) _=>match more with
    |true=>some (.aK [sB true,sI .i64 pos,sI .i32 (Utf8.decode s pos).1],[(b,.ob (.iter s (pos+(Utf8.decode s pos).2)) [])],true)
    |false=>some (.aK [sB false],[],true)
   |_=>none
  |_=>none
 |false=>none
set_option linter.unusedVariables false in
def nR (x:AV):lU:=none
def Yw (rd:Nat→bq):AV→Option (Nat×TypeId×List AV)
 |.mp b 0=>match rd b with
  |.ob (.gr t _) l=>some (b,t,l)
  |_=>none
 |_=>none
set_option linter.unusedVariables false in
def eX (P:Program) (rd:Nat→bq) (argTypes:List TypeId) (x n:AV):lU:=none
def LA (mn:Bool):List AV→Option AV
 |[.p (.sc (.int k a)),.p (.sc (.int _ b))]=>some (.p (.sc (.int k (cond mn (min a b) (max a b)))))
 |_=>none
def ke (P:Program) (ρ:Operand→AV) (o:Oper) (mn:Bool) (l:List Operand):Option AV:=
 match LA mn (l.map ρ) with
 |some v=>some v
 |none=>scalar P ρ o
set_option linter.unusedVariables false in
def wo (P:Program) (t:TypeId) (x:AV) (ok:Bool):Option AV:=none
def uz (P:Program) (rd:Nat→bq) (wr:Bool) (bF:Nat) (ρ:Operand→AV) (o:Oper):lU:=
 match o.op with
 |.move x | .assign x=>some (ρ x,[],true)
 |.pick c a b=>match ρ c with
  |.p (.sc (.bool t))=>some (cond t (ρ a) (ρ b),[],true)
  |_=>none
 |.alloc t=>match wr with
  |true=>we P bF t
  |false=>CG P bF t
 |.box _ v=>N8 bF (ρ v)
 |.build t parts=>iq (vB P t (parts.toList.map fun q=>(q.1,ρ q.2)))
 |.buildSlice t len parts=>mK P wr bF t len (parts.toList.map fun q=>(q.1,ρ q.2))
 |.load t a=>iq (lK P rd t (ρ a))
 |.store t a v=>rq P rd t (ρ a) (ρ v)
 |.nilCheck x=>j9 (j8 P ρ o (ρ x))
 |.binOp op t x y _=>match CL y with
  |true=>vF P op t (ρ x)
  |false=>match JG (ρ x) (ρ y) with
   |true=>JH P op t (ρ x) (ρ y)
   |false=>match CK (ρ x) (ρ y) with
    |true=>o7 P op t
    |false=>iq (ru P ρ o op (ρ x) (ρ y))
 |.range t x=>CM P bF t (ρ x)
 |.next x s=>HW rd (ρ x) s
 |.makeMap t none=>AQ P bF t
 |.lookup t x i ok=>j9 (wm P rd t (ρ x) (ρ i) ok)
 |.mapUpdate t x k v=>lq P rd t (ρ x) (ρ k) (ρ v)
 |.insert t x k v=>lq P rd t (ρ x) (ρ k) (ρ v)
 |.unOp op _ x=>iq (wg P ρ o op (ρ x))
 |.convert src dst x=>convertOp P rd bF ρ o src dst (ρ x)
 |.makeInterface t x=>j9 (nQ P t (ρ x))
 |.makeFunc f first captured=>some (.fn f (first.toList.map ρ) (captured.toList.map ρ),[],true)
 |.makeSlice t l c=>match wr with
  |true=>qx P t (ρ l) (ρ c)
  |false=>nO P bF t (ρ l) (ρ c)
 |.slice t x lo hi mx=>iq (oY P ρ t (ρ x) lo hi mx)
 |.fieldAddr t x f=>j9 (kW P t (ρ x) f)
 |.field t x f=>iq (vC P t (ρ x) f)
 |.indexAddr t x i=>iq (kX P t (ρ x) (ρ i))
 |.index t x i=>iq (vD P t (ρ x) (ρ i))
 |.extract x i=>match ρ x with
  |.aK vs=>j9 vs[i]?
  |_=>none
 |.typeAssert x _ t ok=>j9 (wo P t (ρ x) ok)
 |.call c=>match c.callee,c.args.toList with
  |.builtin .append,[s,x]=>match Yv (ρ s)||wr with
   |true=>fL P rd bF c.argTypes (nP (ρ s)) (ρ x)
   |false=>jh P rd bF c.argTypes (nP (ρ s)) (ρ x)
  |.builtin .copy,[d,s]=>tv P rd c.argTypes (ρ d) (ρ s)
  |.builtin .len,[x]=>j9 (Oa P c.argTypes (ρ x))
  |.builtin .cap,[x]=>j9 (Ob P c.argTypes (ρ x))
  |.builtin .unsafeSliceData,[x]=>nR (ρ x)
  |.builtin .unsafeString,[x,n]=>eX P rd c.argTypes.toList (ρ x) (ρ n)
  |.builtin .min,l=>j9 (ke P ρ o true l)
  |.builtin .max,l=>j9 (ke P ρ o false l)
  |_,_=>none
 |_=>none
def makes (o:Oper):Bool:=
 match o.op with
 |.alloc _ | .box .. | .buildSlice .. | .makeSlice .. | .convert .. | .makeMap .. | .range .. =>true
 |.call c=>match c.callee with
  |.builtin .append=>true
  |_=>false
 |_=>false
def apply (m:Mem):oX→Mem
 |[]=>m
 |(i,b)::r=>apply (m.set i b) r
mutual
def refs:AV→List Nat
 |.os (some t) _ _ _=>[t]
 |.mp b _=>[b]
 |.ms b _ _ _ _=>[b]
 |.vm b=>[b]
 |.vy b=>[b]
 |.fn _ first captured=>iG first++iG captured
 |.agg l=>iG l
 |.aK l=>iG l
 |.nL _ v=>refs v
 |_=>[]
def iG:List AV→List Nat
 |[]=>[]
 |a::r=>refs a++iG r
end
def AR:bq→List Nat
 |.ac l=>iG l
 |.ob (.gr _ true) _=>[]
 |.ob (.gb _) _=>[]
 |.ob _ l=>iG l
 |_=>[]
def has (l:List Nat) (i:Nat):Bool:=
 match l with
 |[]=>false
 |j::r=>cond (ba j i) true (has r i)
def iL (ord:List Nat):List Nat→List Nat
 |[]=>ord
 |i::r=>iL (cond (has ord i) ord (ord++[i])) r
def reach (m:Mem):Nat→List Nat→Nat→List Nat
 |0,ord,_=>ord
 |f+1,ord,k=>match ord[k]? with
  |none=>ord
  |some i=>reach m f (iL ord (AR (m.getD i .dead))) (k+1)
mutual
def iH (ρ:Nat→Option Nat):AV→AV
 |.os (some t) len sz cs=>match ρ t with
  |some t=> .os (some t) len sz cs
  |none=> .p (.ps len sz cs)
 |.mp b off=>match ρ b with
  |some b=> .mp b off
  |none=> .bC
 |.ms b off len sz cap=>match ρ b with
  |some b=> .ms b off len sz cap
  |none=> .bC
 |.vm b=>match ρ b with
  |some b=> .vm b
  |none=> .bC
 |.vy b=>match ρ b with
  |some b=> .vy b
  |none=> .bC
 |.fn f first captured=> .fn f (eR ρ first) (eR ρ captured)
 |.agg l=> .agg (eR ρ l)
 |.aK l=> .aK (eR ρ l)
 |.nL t v=> .nL t (iH ρ v)
 |v=>v
def eR (ρ:Nat→Option Nat):List AV→List AV
 |[]=>[]
 |a::r=>iH ρ a::eR ρ r
end
def av:AV→AV
 |.p v=> .p v
 |_=> .bC
def fM (ρ:Nat→Option Nat):bq→bq
 |.ac l=> .ac (eR ρ l)
 |.ob (.gr t true) l=> .ob (.gr t true) (l.map av)
 |.ob (.gb t) l=> .ob (.gb t) (l.map av)
 |.ob k l=> .ob k (eR ρ l)
 |b=>b
def idx (ord:List Nat) (i:Nat):Option Nat:=
 match ord with
 |[]=>none
 |j::r=>cond (ba i j) (some 0) ((idx r i).map (· + 1))
def pack (m:Mem) (ord:List Nat):Mem:=ord.map fun i=>fM (idx ord) (m.getD i .dead)
def upTo:Nat→List Nat
 |0=>[]
 |n+1=>upTo n++[n]
def close (m:Mem) (fix:Nat) (vs:List AV):List Nat:=reach m (m.length+1) (iL (upTo fix) (iG vs)) 0
inductive Mark where
 |range (b:Nat)
 |late (f:FuncId) (first caps:List (Nat×Nat))
inductive X3 where
 |call
 |round (i:Nat)
 |late
structure St where
 tm:pZ
 nt:Nat
 mem:Mem
 fix:Nat
 cT:List Mark:=[]
 cL:X3:= .call
inductive It where
 |code (i:Nat) (c:Code)
 |ops (cK:Nat) (ops:Array Oper) (k:Nat) (sure:Bool)
 |inBlock (id:Nat)
 |inLoop (i:Nat) (b:Code)
 |inScope (b:Code)
 |forget (k:List Nat)
 |fin
 |begin
 |Aa (u:AV)
 |ir (u:AV)
 |leave
structure cm where
 f:FuncId
 todo:List It
 st:St
inductive Out where
 |ret (v:AV) (m:Mem)
 |zY (v:AV) (m:Mem)
inductive Ev where
 |next (c:cm)
 |must (b:Bool) (c:cm)
 |call (g:FuncId) (args:List AV) (m:Mem) (ord:List Nat) (dst:Option Tmp) (c:cm)
 |test (b:Bool) (yes no:cm)
 |round (args:List AV) (m:Mem) (ord:List Nat) (dst:Option Tmp) (c:cm)
 |range (g:FuncId) (args:List AV) (m:Mem) (ord:List Nat) (L:Nat) (c:cm)
 |draw (cK:Nat) (ops:Array Oper) (c:cm)
 |fork (l:List cm)
 |late (g:FuncId) (args:List AV) (m:Mem) (ord:List Nat) (pv:Option AV) (c:cm)
 |done (o:Out)
 |fail
structure Env where
 ec:Nat→Option (List PV)
 wr:FuncId→Nat→Bool
 keep:FuncId→Nat→Option (List Nat)
 told:FuncId→Nat→Option AV:=fun _ _=>none
def ev (E:Env) (tm:pZ):Operand→AV
 |.tmp t=>look tm t
 |.const v=>X0 v
 |.global g=>match E.ec g with
  |some cs=> .p (.pp 0 cs)
  |none=> .p (.sc (.pointer (some ⟨g,0,none⟩)))
 |.func f=> .fn (.func f) [] []
def forget (keep:List Nat) (st:St):St:=
 match st.cT,st.cL with
 |[],.call=>
  let vs:=keep.map (look st.tm)
  let ord:=close st.mem st.fix vs
  {tm:=keep.zip (eR (idx ord) vs),nt:=st.nt,mem:=pack st.mem ord,fix:=st.fix,cL:= .call}
 |_,_=>st
def iZ (keep:Option (List Nat)) (st:St):St:=
 match keep with
 |some keep=>forget keep st
 |none=>st
def eW (keep:Option (List Nat)) (k:List It):List It:=
 match keep with
 |some keep=> .forget keep::k
 |none=>k
def put (st:St) (dst:Option Tmp) (v:AV):St:=
 match dst with
 |some d=>{st with tm:=(d,v)::st.tm}
 |none=>st
def fits (st:St) (dst:Option Tmp):Bool:=
 match dst with
 |some d=>bj d st.nt
 |none=>true
def bM (ord:List Nat) (n:Nat) (j:Nat):Option Nat:=
 match ord[j]? with
 |some i=>some i
 |none=>some (n+(j-ord.length))
def dD (ρ:Nat→Option Nat):List Nat→Mem→Mem→Mem
 |i::ord,b::m1,m=>dD ρ ord m1 (m.set i (fM ρ b))
 |_,m1,m=>m++m1.map (fM ρ)
def back (ord:List Nat) (dst:Option Tmp) (st:St) (v:AV) (m1:Mem):St:=
 put {st with mem:=dD (bM ord st.mem.length) ord m1 st.mem} dst (iH (bM ord st.mem.length) v)
def target (ρ:Operand→AV) (o:Oper):Option (FuncId×List AV):=
 match o.op with
 |.call c=>match c.callee with
  |.value f=>match ρ f with
   |.fn (.func f) first captured=>some (f,first++c.args.toList.map ρ++captured)
   |_=>none
  |_=>none
 |_=>none
def vG (ρ:Operand→AV) (o:Oper):Option (List AV):=
 match o.op with
 |.call c=>match c.callee with
  |.value f=>match ρ f with
   |.vy b=>some (.vy b::c.args.toList.map ρ)
   |_=>none
  |_=>none
 |_=>none
def dX (st:St) (f:FuncId) (ps:Array Tmp) (as bd:Code):Mem:=
 (st.mem++[.ob .Lx []])++[.ob (.loop f ps as bd .ready none) ((upTo st.nt).map (look st.tm))]
def gz (m:Mem) (L:Nat):Option (Mem×Option Code):=
 match m.getD L .dead with
 |.ob (.loop f ps as bd st pd) vals=>match st with
  |.busy=>none
  |_=>some (m.set L (.ob (.loop f ps as bd .exhausted pd) vals),pd)
 |_=>none
def behind (c:cm) (m:Mem) (pd:Option Code):cm:=
 {c with todo:=match pd with
    |some code=> .code 0 code::c.todo
    |none=>c.todo,st:={c.st with mem:=m}}
inductive Want where
 |yes | no | ask (d:Nat) (b want:Bool) | lost
def eG (ops:Array Oper) (tm:pZ) (o:Oper):Want:=
 match o.guard with
 |none=> .yes
 |some (j,want)=>match ops[j]? with
  |some oj=>match oj.dst with
   |some d=>match look tm d with
    |.p (.sc (.bool b))=> .ask d b want
    |.aK _=> .no
    |_=> .lost
   |none=> .no
  |none=> .no
def reserve (o:Oper) (m:Mem):Mem:=cond (makes o) (m++[.free]) m
def nodes:Code→Nat
 |.seq a b=>nodes a+nodes b
 |.cond _ a b=>1+nodes a+nodes b
 |.block _ b=>nodes b
 |.scope b=>nodes b
 |.loop b=>1+nodes b
 |_=>0
def iM (P:Program) (st:St):List ResultVar→Option (List AV×Bool)
 |[]=>some ([],true)
 |.tmp t::r=>(iM P st r).map fun q=>(look st.tm t::q.1,q.2)
 |.cell a t::r=>match lK P (fun i=>st.mem.getD i .dead) t (look st.tm a),iM P st r with
  |some (v,ok),some (vs,oks)=>some (v::vs,ok&&oks)
  |_,_=>none
def one:List AV→AV
 |[v]=>v
 |vs=> .aK vs
def freeze (m:Mem) (kept:List Nat):AV→AV×Bool×List Nat
 |.ms b off len sz (some cap)=>cond (has kept b||ba len 0) (.ms b off len sz (some cap),true,[]) (match m.getD b .dead with
  |.pc l=>(.p (.ps len sz ((l.drop off).take (len*sz))),bc (off+len*sz) l.length&&bc 1 sz,[b])
  |_=>(.ms b off len sz (some cap),true,[]))
 |v=>(v,true,[])
def gI (m:Mem) (kept:List Nat):List AV→List AV×Bool×List Nat
 |[]=>([],true,[])
 |v::r=>((freeze m kept v).1::(gI m kept r).1,(freeze m kept v).2.1&&(gI m kept r).2.1,(freeze m kept v).2.2++(gI m kept r).2.2)
def ji (l:List Nat) (n:Nat):Bool:=
 match l with
 |[]=>true
 |i::r=>bj i n&&ji r n
def CN (l ord:List Nat):Bool:=
 match l with
 |[]=>true
 |i::r=> !has ord i&&CN r ord
def mM (P:Program) (c:cm):Ev:=
 match P.funcs[c.f]? with
 |some fn=>match iM P c.st fn.results.toList with
  |some (vs,ok)=>
   let fz:=gI c.st.mem (close c.st.mem c.st.fix []) vs
   let v:=one fz.1
   let ord:=close c.st.mem c.st.fix [v]
   .must (ok&&fz.2.1&&CN fz.2.2 ord) {c with todo:=[.fin],st:={c.st with tm:=[(0,iH (idx ord) v)],nt:=0,mem:=pack c.st.mem ord}}
  |none=> .fail
 |none=> .fail
def mN:List Mark→Mem→Option Mem
 |[],m=>some m
 |.late .. :: _,_=>none
 |.range b::r,m=>match m.getD b .dead with
  |.ob .Lx []=>mN r (m.set b (.ob .shut []))
  |_=>none
def mps (l:List (Nat×Nat)):List AV:=l.map fun q=> .mp q.1 q.2
def CO (c:cm) (pv:Option AV) (g:FuncId) (first caps:List (Nat×Nat)):Ev:=
 let args:=mps first++mps caps
 let ord:=close c.st.mem 0 (pv.toList++args)
 cond (ji ord c.st.mem.length) (.late g (eR (idx ord) args) (pack c.st.mem ord) ord (pv.map (iH (idx ord))) {c with todo:=[.leave],st:={c.st with cT:=[]}}) .fail
def wq (P:Program) (c:cm) (u:AV):Ev:=
 match c.st.cL with
 |.round _=> .fail
 |_=>match c.st.cT with
  |[]=>match P.funcs[c.f]? with
   |some _=>
    let ord:=close c.st.mem c.st.fix [u]
    .next {c with todo:=[.Aa (iH (idx ord) u)],st:={c.st with tm:=[],nt:=0,mem:=pack c.st.mem ord}}
   |none=> .fail
  |[.late g first caps]=>CO c (some u) g first caps
  |_=> .fail
def ending (P:Program) (c:cm):Ev:=
 match c.st.cT with
 |[]=>mM P c
 |[.late g first caps]=>CO c none g first caps
 |mk=>match mN mk c.st.mem with
  |some m=>mM P {c with st:={c.st with mem:=m,cT:=[]}}
  |none=> .fail
def JK (P:Program) (f:FuncId):Bool:=
 match P.funcs[f]? with
 |some fn=>fn.body.isNone&&(decide (fn.name = "internal/abi.NoEscape")&&decide (fn.origin = ""))
 |none=>false
def Of (P:Program) (ρ:Operand→AV) (o:Oper):Option AV:=
 match o.op with
 |.call c=>match c.callee,c.args.toList with
  |.value f,[x]=>match ρ f with
   |.fn (.func g) [] []=>cond (JK P g) (some (ρ x)) none
   |_=>none
  |_,_=>none
 |_=>none
def AS:List AV→Option (List (Nat×Nat))
 |[]=>some []
 |.mp b off::r=>match AS r with
  |some l=>some ((b,off)::l)
  |none=>none
 |_::_=>none
def AT:AV→Bool
 |.nL .. | .p (.nL ..)=>true
 |_=>false
def Og (E:Env) (c:cm) (o:Oper) (k:List It):Ev:=
 match o.op with
 |.panic x=>cond (AT (ev E c.st.tm x)) (.next {c with todo:=[.ir (ev E c.st.tm x)]}) .fail
 |.call d=>match d.callee,d.args.toList with
  |.builtin .panic,[x]=>cond (AT (ev E c.st.tm x)) (.next {c with todo:=[.ir (ev E c.st.tm x)]}) .fail
  |_,_=> .fail
 |.defer d=>match c.st.cL,c.st.cT,d.callee with
  |.round _,_,_=> .fail
  |_,[],.value f=>match ev E c.st.tm f with
   |.fn (.func g) first captured=>match AS (first++d.args.toList.map (ev E c.st.tm)),AS captured with
    |some l,some m=> .must (fits c.st o.dst) {c with todo:=k,st:=put {c.st with cT:=[.late g l m]} o.dst (.aK [])}
    |_,_=> .fail
   |_=> .fail
  |_,_,_=> .fail
 |_=> .fail
def Oh (P:Program) (E:Env) (c:cm) (_rid:Nat) (o:Oper) (k:List It):Ev:=
 match target (ev E c.st.tm) o with
 |some (g,args)=>
  match Of P (ev E c.st.tm) o with
  |some v=> .must (fits c.st o.dst) {c with todo:=k,st:=put c.st o.dst v}
  |none=>
   let ord:=close c.st.mem 0 args
   cond (fits c.st o.dst&&ji ord c.st.mem.length) (.call g (eR (idx ord) args) (pack c.st.mem ord) ord o.dst {c with todo:=k}) .fail
 |none=>match vG (ev E c.st.tm) o with
  |some args=>
   let ord:=close c.st.mem 0 args
   cond (fits c.st o.dst&&ji ord c.st.mem.length) (.round (eR (idx ord) args) (pack c.st.mem ord) ord o.dst {c with todo:=k}) .fail
  |none=>
   let m:=reserve o c.st.mem
   match uz P (fun i=>m.getD i .dead) (E.wr c.f (o.dst.getD 0)) c.st.mem.length (ev E c.st.tm) o with
   |some (v,us,ok)=> .must (ok&&fits c.st o.dst) {c with todo:=k,st:=put {c.st with mem:=apply m us} o.dst v}
   |none=>Og E c o k
def fN:Option Code→LoopState
 |none=> .ready
 |some _=> .done
def nS (c:cm) (i:Nat) (jump:Option Code):Ev:=
 match c.st.mem.getD i .dead with
 |.ob (.loop f ps as bd _ _) vals=>
  let m:=c.st.mem.set i (.ob (.loop f ps as bd (fN jump) jump) vals)
  let ord:=close m c.st.fix []
  cond (bj i c.st.fix) (.next {c with todo:=[.fin],st:={c.st with tm:=[(0,sB jump.isNone)],nt:=0,mem:=pack m ord}}) .fail
 |_=> .fail
def wu (c:cm) (i:Nat) (k:List It):Ev:=
 match c.st.mem.getD i .dead with
 |.ob (.loop f ps as bd .ready pd) vals=> .next {c with todo:=k,st:={c.st with mem:=c.st.mem.set i (.ob (.loop f ps as bd .busy pd) vals)}}
 |_=> .fail
def JL (E:Env) (c:cm) (x:Operand) (ps:Array Tmp) (as bd:Code) (k:List It):Ev:=
 match ev E c.st.tm x with
 |.fn (.func g) first captured=>
  let m:=dX c.st c.f ps as bd
  let args:=first++[.vy (c.st.mem.length+1)]++captured
  let ord:=close m 0 args
  cond (ji ord m.length) (.range g (eR (idx ord) args) (pack m ord) ord (c.st.mem.length+1) {c with todo:=k,st:={c.st with mem:=m,cT:= .range c.st.mem.length::c.st.cT}}) .fail
 |_=> .fail
def cM (id:Nat):List It→Option (List It)
 |[]=>none
 |.inBlock id'::k=>cond (ba id' id) (some k) (cM id k)
 |_::k=>cM id k
def eY (l:Nat):List It→Option (List It)
 |[]=>none
 |.inScope b::k=>match findLabel b l with
  |some rest=>some (.code 0 rest :: .inScope b::k)
  |none=>eY l k
 |_::k=>eY l k
def gJ (o:Oper):Bool:=
 match o.op with
 |.move _ | .assign _ | .pick .. | .build .. | .load .. | .nilCheck _ | .binOp .. | .unOp .. | .convert .. | .makeInterface .. | .makeFunc .. | .slice .. | .fieldAddr .. | .field .. | .indexAddr .. | .index .. | .extract .. =>true
 |.call c=>match c.callee with
  |.builtin .len | .builtin .min | .builtin .max=>true
  |_=>false
 |_=>false
def qy (acc:List Nat) (o:Oper):Nat:=o.after.toList.foldl (fun s e=>cond (Region.binds .any e) (s|||(2 ^ e.on|||acc.getD e.on 0)) s) 0
def masks (acc:List Nat):List Oper→List Nat
 |[]=>acc
 |o::r=>masks (acc++[qy acc o]) r
def vH (x:Nat):Nat→Bool
 |0=>true
 |n+1=>cp x n&&vH x n
def tw (ops:Array Oper):Bool:=
 (match ops[ops.size-1]? with
   |some o=>o.guard.isNone&&match o.op with
    |.call c=>match c.callee with
     |.value _=>true
     |_=>false
    |.panic _ | .defer _=>true
    |_=>false
   |none=>false)&&vH ((masks [] ops.toList).getD (ops.size-1) 0) (ops.size-1)
def gK (ops:Array Oper):Nat:=cond (tw ops) (ops.size-1) ops.size
def iN (cK:Nat) (ops:Array Oper) (k:List It):List It:=cond (tw ops) (.ops cK ops (ops.size-1) false::k) k
def slots (ops:Array Oper) (o:Oper):List Nat:=
 (match o.guard with
   |some (j,_)=>match ops[j]? with
    |some oj=>oj.dst.toList
    |none=>[]
   |none=>[])++o.op.operands.toList.filterMap fun
    |.tmp t=>some t
    |_=>none
def meet (a b:List Nat):Bool:=a.any fun i=>b.any fun j=>ba i j
def qz (ops:Array Oper) (L:List Nat) (i:Nat) (o:Oper) (j:Nat) (p:Oper):Bool:=
 !meet o.dst.toList p.dst.toList&&(cp (L.getD i 0) j||(!meet p.dst.toList (slots ops o) && !meet o.dst.toList (slots ops p)))
def vI (ops:Array Oper) (L:List Nat) (i:Nat) (o:Oper):Nat→List Oper→Bool
 |_,[]=>true
 |j,p::r=>qz ops L i o j p&&vI ops L i o (j+1) r
def kf (q:Oper→Bool) (ops:Array Oper) (L:List Nat):Nat→List Oper→List Oper→Bool
 |_,_,[]=>true
 |i,nF,o::r=>q o&&(o.after.toList.all fun e=> !Region.binds .any e||bj e.on i)&&vI ops L i o 0 nF&&kf q ops L (i+1) (nF++[o]) r
def lu (P:Program) (E:Env) (rd:Nat→bq) (wr:Bool) (bF:Nat) (ops:Array Oper):List Oper→St→Option (St×Bool)
 |[],st=>some (st,true)
 |o::r,st=>
  let skip:=match lu P E rd wr bF ops r (put st o.dst (.aK [])) with
   |some (st',ok)=>some (st',fits st o.dst&&ok)
   |none=>none
  let rA:=match uz P rd wr bF (ev E st.tm) o with
   |some (v,[],ok)=>match lu P E rd wr bF ops r (put st o.dst v) with
    |some (st',ok')=>some (st',ok&&(fits st o.dst&&ok'))
    |none=>none
   |_=>none
  match eG ops st.tm o with
  |.yes=>rA
  |.no=>skip
  |.ask _ b want=>match b==want with
   |true=>rA
   |false=>skip
  |.lost=>none
def Oi (E:Env) (f:Nat) (ops:Array Oper):Bool:=ops.toList.all fun o=>(E.told f (o.dst.getD 0)).isNone
def wv (P:Program) (E:Env) (f _rid:Nat) (ops:Array Oper) (st:St):Option (St×Bool):=
 let m:=st.mem++[.free]
 match cond (ops.toList.all gJ&&Oi E f ops) (lu P E (fun i=>m.getD i .dead) false st.mem.length ops ops.toList {st with mem:=m}) none with
 |some (st',ok)=>some (st',ok&&(kf gJ ops (masks [] ops.toList) 0 [] ops.toList&&(P.follows .mixedOrders || !Region.departs ops)))
 |none=>none
def JM (P:Program) (E:Env) (f:FuncId) (ops:Array Oper) (i:Nat) (st:St):Option St:=
 match ops[i]? with
 |none=>none
 |some o=>match eG ops st.tm o with
  |.yes=>
   let m:=reserve o st.mem
   match uz P (fun i=>m.getD i .dead) (E.wr f (o.dst.getD 0)) st.mem.length (ev E st.tm) o with
   |some (v,us,ok)=>cond (ok&&fits st o.dst) (some (put {st with mem:=apply m us} o.dst v)) none
   |none=>none
  |_=>none
def TF (a b:pZ):List Nat→Bool
 |[]=>true
 |k::r=>jB (look a k) (look b k)&&TF a b r
def Yx (s t:St):Bool:=ba s.nt t.nt&&(ba s.fix t.fix&&(JF (s.mem.getLastD .dead) (t.mem.getLastD .dead)&&(rz s.mem t.mem&&TF s.tm t.tm (s.tm.map (·.1)++t.tm.map (·.1)))))
def vJ:List Bool→List Bool→Bool
 |[],[]=>true
 |a::r,b::s=>CH a b&&vJ r s
 |_,_=>false
abbrev Pt:=Array Bool×St
def aeP (p q:Pt):Bool:=vJ p.1.toList q.1.toList&&Yx p.2 q.2
def EH (q:Pt):List Pt→Bool
 |[]=>false
 |p::r=>aeP q p||EH q r
def EI (q:Pt) (l:List Pt):List Pt:=cond (EH q l) l (q::l)
def rB (P:Program) (E:Env) (f:FuncId) (ops:Array Oper) (q:Pt):List Nat→List Pt→Option (List Pt)
 |[],l=>some l
 |i::r,l=>match JM P E f ops i q.2 with
  |some st=>rB P E f ops q r (EI (q.1.setIfInBounds i true,st) l)
  |none=>none
def level (P:Program) (E:Env) (f:FuncId) (ops:Array Oper):List Pt→List Pt→Option (List Pt)
 |[],l=>some l
 |q::r,l=>match Region.ready .any ops q.1 with
  |[]=>level P E f ops r (EI q l)
  |is=>match rB P E f ops q is l with
   |some l=>level P E f ops r l
   |none=>none
def levels (P:Program) (E:Env) (f:FuncId) (ops:Array Oper):Nat→List Pt→Option (List Pt)
 |0,l=>some l
 |n+1,l=>match level P E f ops l [] with
  |some l=>levels P E f ops n l
  |none=>none
def Oj (b:Bool) (o:Oper):Bool:=
 match o.op with
 |.store _ _ (.const (.bool c))=>c==b
 |_=>false
def Ol (ops:Array Oper):Bool:=
 match ops.toList with
 |[_,o,p,_]=>Oj true o&&Oj false p
 |_=>false
def Om (P:Program) (ops:Array Oper):Bool:=
 bc ops.size 16&&ops.toList.any fun o=>match o.op with
  |.insert t _ _ _=>match P.underlying t with
   |some (.map kt _)=>X2 P kt
   |_=>false
  |_=>false
def CP (P:Program) (E:Env) (f:FuncId) (ops:Array Oper) (st:St):Option (List St):=
 cond ((Ol ops||Om P ops)&&(P.follows .mixedOrders || !Region.departs ops)) ((levels P E f ops ops.size [(Array.replicate ops.size false,st)]).map fun l=>l.map (·.2)) none
def step (P:Program) (E:Env) (c:cm):Ev:=
 match c.todo with
 |[]=>match c.st.cL with
  |.round i=>nS c i none
  |_=>ending P c
 |.fin::_=> .done (.ret (look c.st.tm 0) c.st.mem)
 |.Aa u::_=> .done (.zY u c.st.mem)
 |.ir u::_=>wq P c u
 |.leave::_=>mM P c
 |.begin::k=>match c.st.cL with
  |.round i=>wu c i k
  |_=> .fail
 |.code _ .ret::_=>match c.st.cL with
  |.round i=>nS c i (some .ret)
  |_=>ending P c
 |.code _ .skip::k=> .next {c with todo:=k}
 |.code _ (.region id ops false)::k=> .next {c with todo:= .ops id ops 0 false::k}
 |.code _ (.region id ops true)::k=>match wv P E c.f id ops c.st with
  |some (st,ok)=> .must ok {c with todo:=k,st:={st with cT:=c.st.cT,cL:=c.st.cL}}
  |none=>match CP P E c.f ops c.st with
   |some l=> .fork (l.map fun st=>{c with todo:=k,st:={st with cT:=c.st.cT,cL:=c.st.cL}})
   |none=> .draw id ops {c with todo:=iN id ops k}
 |.code i (.seq a b)::k=> .next {c with todo:= .code i a :: .code (i+nodes a) b::k}
 |.code i (.cond x a b)::k=>match ev E c.st.tm x with
  |.p (.sc (.bool t))=> .test t {c with todo:= .code (i+1) a::eW (E.keep c.f (2*i)) k} {c with todo:= .code (i+1+nodes a) b::eW (E.keep c.f (2*i)) k}
  |_=> .fail
 |.code i (.block id b)::k=> .next {c with todo:= .code i b :: .inBlock id::k}
 |.code i (.loop b)::k=> .next {c with todo:= .code (i+1) b :: .inLoop i b::eW (E.keep c.f (2*i+1)) k,st:=iZ (E.keep c.f (2*i)) c.st}
 |.code _ (.exit id)::k=>match cM id k with
  |some k=> .next {c with todo:=k}
  |none=>match c.st.cL with
   |.round i=>nS c i (some (.exit id))
   |_=> .fail
 |.code i (.scope b)::k=> .next {c with todo:= .code i b :: .inScope b::k}
 |.inScope _::k=> .next {c with todo:=k}
 |.code _ (.label _)::k=> .next {c with todo:=k}
 |.code _ (.goto l)::k=>match eY l k with
  |some k=> .next {c with todo:=k}
  |none=> .fail
 |.code _ (.rangeFunc x ps as bd)::k=>match c.st.cL with
  |.call=>JL E c x ps as bd k
  |_=> .fail
 |.code _ _::_=> .fail
 |.inBlock _::k=> .next {c with todo:=k}
 |.inLoop i b::k=> .next {c with todo:= .code (i+1) b :: .inLoop i b::k,st:=iZ (E.keep c.f (2*i)) c.st}
 |.forget keep::k=> .next {c with todo:=k,st:=forget keep c.st}
 |.ops cK ops i sure::k=>match ops[i]? with
  |none=> .next {c with todo:=k}
  |some o=>match eG ops c.st.tm o with
   |.yes=>Oh P E c cK o (.ops cK ops (i+1) false::k)
   |.no=>cond (fits c.st o.dst) (.next {c with todo:= .ops cK ops (i+1) false::k,st:=put c.st o.dst (.aK [])}) .fail
   |.ask d b want=>match sure with
    |false=> .test b {c with todo:= .ops cK ops i true::k,st:=put c.st (some d) (sB true)} {c with todo:= .ops cK ops i true::k,st:=put c.st (some d) (sB false)}
    |true=>match b==want with
     |true=>Oh P E c cK o (.ops cK ops (i+1) false::k)
     |false=>cond (fits c.st o.dst) (.next {c with todo:= .ops cK ops (i+1) false::k,st:=put c.st o.dst (.aK [])}) .fail
   |.lost=> .fail
end Go.Am
end
section
namespace Go.Am
structure dH where
 g:FuncId
 args:List AV
 m:Mem
 v:AV
 m':Mem
def same (b b':Bool):Bool:=match b' with
 |true=>b
 |false=> !b
structure gW where
 v:AV
 us:oX
 fp:List Nat
 ld:Nat→bq→Bool
def Yy (P:Program) (ρ:Operand→AV) (o:Oper) (v:AV) (b:Nat) (x:bq):Bool:=
 match o.op with
 |.load t a=>match ρ a with
  |.mp c off=>ba c b&&(match lK P (fun _=>x) t (.mp c off) with
   |some (v',ok)=>ok&&jB v' v
   |none=>false)
  |_=>false
 |_=>false
def wz:oX→Nat→Option bq
 |[],_=>none
 |(i,x)::r,b=>match wz r b with
  |some y=>some y
  |none=>cond (ba i b) (some x) none
def ajK:oX→Bool
 |[]=>true
 |_=>false
def AU (o:Oper):Bool:=gJ o||match o.op with
 |.alloc _ | .box .. | .buildSlice .. | .makeSlice .. | .store .. | .makeMap .. | .lookup .. | .mapUpdate .. | .insert .. =>true
 |.call c=>match c.callee with
  |.builtin .append | .builtin .copy | .builtin .unsafeSliceData | .builtin .unsafeString=>true
  |_=>false
 |_=>false
def LB (ρ:Operand→AV) (o:Oper):List Nat:=
 match o.op with
 |.load _ a=>refs (ρ a)
 |.store _ a _=>refs (ρ a)
 |.convert _ _ x=>refs (ρ x)
 |.lookup _ x _ _=>refs (ρ x)
 |.mapUpdate _ x _ _=>refs (ρ x)
 |.insert _ x _ _=>refs (ρ x)
 |.call c=>match c.callee with
  |.builtin .append | .builtin .copy | .builtin .unsafeString=>iG (c.args.toList.map ρ)
  |_=>[]
 |_=>[]
def cR (n:Nat):Mem:=db n .free
def o8 (N nx:Nat) (ord:List Nat) (v:AV) (m1:Mem):gW:=
 let TG:=ord++List.range' nx (m1.length-ord.length)
 ⟨iH (bM TG N) v,TG.zip (m1.map (fM (bM TG N))),TG,fun _ _=>false⟩
def o9 (P:Program) (E:Env) (f _rid:Nat) (O:FuncId→List AV→Mem→Option (AV×Mem)) (nx:Nat) (o:Oper) (st:St):Option (gW×Nat×Bool):=
 match target (ev E st.tm) o with
 |some (g,args)=>
  let ord:=close st.mem 0 args
  match O g (eR (idx ord) args) (pack st.mem ord) with
  |some (v,m1)=>some (o8 st.mem.length nx ord v m1,nx+(m1.length-ord.length),bc ord.length m1.length&&(ji ord nx&&bc (nx+(m1.length-ord.length)) st.mem.length))
  |none=>none
 |none=>match uz P (fun i=>st.mem.getD i .dead) (E.wr f (o.dst.getD 0)) nx (ev E st.tm) o with
  |some (v,us,ok)=>some (⟨v,us,us.map (·.1)++(LB (ev E st.tm) o++cond (makes o) [nx] []),Yy P (ev E st.tm) o v⟩,cond (makes o) (nx+1) nx,
    ok&&(AU o&&(ji (us.map (·.1)) (cond (makes o) (nx+1) nx)&&bc (cond (makes o) (nx+1) nx) st.mem.length)))
  |none=>none
def JO (t:Option AV) (r:Option (gW×Nat×Bool)):Option (gW×Nat×Bool):=
 match t with
 |none=>r
 |some v=>match r with
  |some (d,nx,ok)=>some (⟨v,d.us,d.fp,d.ld⟩,nx,ok&&jB d.v v)
  |none=>none
def jC (P:Program) (E:Env) (f cK:Nat) (O:FuncId→List AV→Mem→Option (AV×Mem)) (nx:Nat) (o:Oper) (st:St):Option (gW×Nat×Bool):=
 JO (E.told f (o.dst.getD 0)) (o9 P E f cK O nx o st)
def iI (P:Program) (E:Env) (f cK:Nat) (O:FuncId→List AV→Mem→Option (AV×Mem)) (ops:Array Oper):List Oper→Nat→St→Option (St×Nat×List gW×Bool)
 |[],nx,st=>some (st,nx,[],true)
 |o::r,nx,st=>
  let skip:=match iI P E f cK O ops r nx (put st o.dst (.aK [])) with
   |some (st',p9,ds,ok)=>some (st',p9,⟨.aK [],[],[],fun _ _=>false⟩::ds,fits st o.dst&&ok)
   |none=>none
  let rA:=match jC P E f cK O nx o st with
   |some (d,kg,ok)=>match iI P E f cK O ops r kg (put {st with mem:=apply st.mem d.us} o.dst d.v) with
    |some (st',p9,ds,ok')=>some (st',p9,d::ds,ok&&(fits st o.dst&&ok'))
    |none=>none
   |none=>none
  match eG ops st.tm o with
  |.yes=>rA
  |.no=>skip
  |.ask _ b want=>match b==want with
   |true=>rA
   |false=>skip
  |.lost=>none
def CQ (d e:gW):Bool:=ajK e.us&&(d.us.map (·.1)).all fun b=> !has e.fp b||(match wz d.us b with
 |some x=>e.ld b x
 |none=>false)
def CR (L:List Nat) (i:Nat) (d:gW) (j:Nat) (e:gW):Bool:=cp (L.getD i 0) j||(!meet (e.us.map (·.1)) d.fp&&(!meet (d.us.map (·.1)) e.fp||CQ d e))
def rC (L:List Nat) (i:Nat) (d:gW):Nat→List gW→Bool
 |_,[]=>true
 |j,e::r=>CR L i d j e&&rC L i d (j+1) r
def wA (L:List Nat):Nat→List gW→List gW→Bool
 |_,_,[]=>true
 |i,nF,d::r=>rC L i d 0 nF&&wA L (i+1) (nF++[d]) r
def vK:Mem→Bool
 |[]=>true
 |.free::r=>vK r
 |_::_=>false
def kj (P:Program) (E:Env) (f cK:Nat) (O:FuncId→List AV→Mem→Option (AV×Mem)) (ops:Array Oper) (st:St):Option (St×Bool):=
 match iI P E f cK O ops (ops.toList.take (gK ops)) st.mem.length {st with mem:=st.mem++cR (60+ops.size)} with
 |some (st',nx,ds,ok)=>some ({st' with mem:=st'.mem.take nx},ok&&(kf (fun _=>true) ops (masks [] ops.toList) 0 [] ops.toList&&(wA (masks [] ops.toList) 0 [] ds &&
   (vK (st'.mem.drop nx)&&(bc st.mem.length nx&&(P.follows .mixedOrders || !Region.departs ops))))))
 |none=>none
def init (P:Program) (g:FuncId) (args:List AV) (m:Mem):Option cm:=
 match P.funcs[g]? with
 |some fn=>match fn.body with
  |some c=>some {f:=g,todo:=[.code 0 c],st:={tm:=(upTo args.length).zip args,nt:=max fn.ntmps args.length,mem:=m,fix:=m.length}}
  |none=>none
 |none=>none
def HX (tm:pZ):List Nat→List AV→pZ
 |d::ds,v::vs=>HX ((d,v)::tm) ds vs
 |_,_=>tm
def EJ (args:List AV) (m:Mem):Option cm:=
 match args with
 |.vy i::xs=>match m.getD i .dead with
  |.ob (.loop f ps as bd _ _) vals=>cond (ba xs.length ps.toList.length&&ji ps.toList vals.length)
   (some {f:=f,todo:=[.code 0 as,.begin,.code 0 bd],st:={tm:=HX ((upTo vals.length).zip vals) ps.toList xs,nt:=vals.length,mem:=m,fix:=m.length,cL:= .round i}}) none
  |_=>none
 |_=>none
def mO:List dH→FuncId→List AV→Mem→Option (AV×Mem)
 |[],_,_,_=>none
 |q::r,g,args,m=>cond (ba q.g g&&(lp args q.args&&rz m q.m)) (some (q.v,q.m')) (mO r g args m)
def EK:Out→Out→Bool
 |.ret v m,.ret u n=>jB v u&&rz m n
 |.zY v m,.zY u n=>jB v u&&rz m n
 |_,_=>false
def agree:List (Option Out)→Option Out
 |[]=>none
 |[o]=>o
 |o::r=>match o,agree r with
  |some o,some p=>cond (EK o p) (some p) none
  |_,_=>none
def isRec (o:Oper):Bool:=
 match o.op,o.guard with
 |.call c,none=>match c.callee,c.args.toList with
  |.builtin .recover,[]=>true
  |_,_=>false
 |_,_=>false
def wC:Nat→List It→Option (List It)
 |0,_=>none
 |n+1,todo=>match todo with
  |.ops cK ops i sure::k=>some (.ops cK ops i sure::k)
  |.code i (.seq a b)::k=>wC n (.code i a :: .code (i+nodes a) b::k)
  |.code _ (.region id ops false)::k=>wC n (.ops id ops 0 false::k)
  |.code i (.scope b)::k=>wC n (.code i b :: .inScope b::k)
  |.code i (.block id b)::k=>wC n (.code i b :: .inBlock id::k)
  |_=>none
def X4 (pv:Option AV) (c:cm):Option cm:=
 match c.todo with
 |.ops cK ops i _::k=>match ops[i]? with
  |some o=>cond (isRec o&&fits c.st o.dst) (some {c with todo:= .ops cK ops (i+1) false::k,st:=put c.st o.dst (pv.getD (.p (.sc .nilIface)))}) none
  |none=>none
 |_=>none
def EL (P:Program) (g:FuncId) (args:List AV) (m:Mem) (pv:Option AV):Option cm:=
 match init P g args m with
 |some c=>match wC 20 c.todo with
  |some t=>X4 pv {c with todo:=t,st:={c.st with cL:= .late}}
  |none=>none
 |none=>none
def nT (ord:List Nat) (c:cm) (u:AV) (m1:Mem):cm:=
 {c with todo:=[.ir (iH (bM ord c.st.mem.length) u)],st:=back ord none c.st (.aK []) m1}
def exec (P:Program) (E:Env) (K:List dH):Nat→cm→Option Out
 |0,_=>none
 |n+1,c=>match step P E c with
  |.next c=>exec P E K n c
  |.must b c=>cond b (exec P E K n c) none
  |.test b y z=>match b with
   |true=>exec P E K n y
   |false=>exec P E K n z
  |.call g args m ord dst c=>match mO K g args m with
   |some (v,m1)=>exec P E K n {c with st:=back ord dst c.st v m1}
   |none=>match init P g args m with
    |some ci=>match exec P E K n ci with
     |some (.ret v m1)=>exec P E K n {c with st:=back ord dst c.st v m1}
     |some (.zY u m1)=>exec P E K n (nT ord c u m1)
     |none=>none
    |none=>none
  |.late g args m ord pv c=>match EL P g args m pv with
   |some ci=>match exec P E K n ci with
    |some (.ret _ m1)=>exec P E K n {c with st:=back ord none c.st (.aK []) m1}
    |_=>none
   |none=>none
  |.round args m ord dst c=>match EJ args m with
   |some ci=>match exec P E K n ci with
    |some (.ret v m1)=>exec P E K n {c with st:=back ord dst c.st v m1}
    |_=>none
   |none=>none
  |.range g args m ord L c=>match init P g args m with
   |some ci=>match exec P E K n ci with
    |some (.ret v m1)=>match gz (back ord none c.st v m1).mem L with
     |some (m2,pd)=>exec P E K n (behind c m2 pd)
     |none=>none
    |_=>none
   |none=>none
  |.draw cK ops c=>match kj P E c.f cK (fun g args m=>match mO K g args m with
     |some r=>some r
     |none=>match init P g args m with
      |some ci=>match exec P E K n ci with
       |some (.ret v m1)=>some (v,m1)
       |_=>none
      |none=>none) ops c.st with
   |some (st,ok)=>cond ok (exec P E K n {c with st:={st with cT:=c.st.cT,cL:=c.st.cL}}) none
   |none=>none
  |.fork l=>agree (l.map (exec P E K n))
  |.done o=>some o
  |.fail=>none
def JP (P:Program) (E:Env) (K:List dH) (n:Nat) (g:FuncId) (args:List AV) (m:Mem):Option Out:=
 match init P g args m with
 |some c=>exec P E K n c
 |none=>none
inductive Ans where
 |test (b:Bool)
 |call (v:AV) (m:Mem)
 |go
 |stop
inductive Fin where
 |out (o:Out)
 |at(c:cm)
end Go.Am
end
section
namespace Go.Am
open Go.RowKit
structure Gh where
 bX:Nat→Option Nat
 lo:Nat→Nat
 hi:Nat→Nat
 pure:Nat→Nat→Prop
def bP {α β:Type} (r:α→β→Prop):List α→List β→Prop
 |[],[]=>True
 |a::l,b::m=>r a b∧bP r l m
 |_,_=>False
section all2
variable {α β γ:Type} {r:α→β→Prop}
theorem bP.len : ∀{l:List α} {m:List β},bP r l m→l.length=m.length
 |[],[],_=>rfl
 |_::_,_::_,h=>congrArg (· + 1) (bP.len h.2)
 |[],_::_,h=>h.elim
 |_::_,[],h=>h.elim
theorem bP.mono {s:α→β→Prop} (TH : ∀a b,r a b→s a b) : ∀{l:List α} {m:List β},bP r l m→bP s l m
 |[],[],_=>trivial
 |_::_,_::_,h=>⟨TH _ _ h.1,bP.mono TH h.2⟩
 |[],_::_,h=>h.elim
 |_::_,[],h=>h.elim
theorem bP.mem {s:α→β→Prop} : ∀{l:List α} {m:List β},(∀a b,a∈l→r a b→s a b)→bP r l m→bP s l m
 |[],[],_,_=>trivial
 |_::_,_::_,TH,h=>⟨TH _ _ (.head _) h.1,bP.mem (fun a b ha=>TH a b (.tail _ ha)) h.2⟩
 |[],_::_,_,h=>h.elim
 |_::_,[],_,h=>h.elim
theorem bP.get : ∀{l:List α} {m:List β},bP r l m → ∀i (h:i<l.length) (h':i<m.length),r l[i] m[i]
 |_::_,_::_,h,0,_,_=>h.1
 |_::_,_::_,h,i+1,hi,hj=>bP.get h.2 i (bm hi) (bm hj)
 |[],[],_,_,h,_=>absurd h (Nat.not_lt_zero _)
 |[],_::_,h,_,_,_=>h.elim
 |_::_,[],h,_,_,_=>h.elim
theorem bP.cY : ∀{l:List α} {m:List β},l.length=m.length→(∀i (h:i<l.length) (h':i<m.length),r l[i] m[i])→bP r l m
 |[],[],_,_=>trivial
 |_::_,_::_,hl,h=>⟨h 0 (cf _) (cf _),bP.cY (Nat.succ.inj hl) fun i hi hj=>h (i+1) (ch hi) (ch hj)⟩
 |[],_::_,hl,_=>c8 hl
 |_::_,[],hl,_=>c8 hl
theorem bP.append : ∀{l l':List α} {m m':List β},bP r l m→bP r l' m'→bP r (l++l') (m++m')
 |[],_,[],_,_,h=>h
 |_::_,_,_::_,_,h,h'=>⟨h.1,bP.append h.2 h'⟩
 |[],_,_::_,_,h,_=>h.elim
 |_::_,_,[],_,h,_=>h.elim
theorem bP.drop : ∀{l:List α} {m:List β} (n:Nat),bP r l m→bP r (l.drop n) (m.drop n)
 |_,_,0,h=>h
 |[],[],_+1,_=>trivial
 |_::_,_::_,n+1,h=>bP.drop n h.2
 |[],_::_,_+1,h=>h.elim
 |_::_,[],_+1,h=>h.elim
theorem bP.take : ∀{l:List α} {m:List β} (n:Nat),bP r l m→bP r (l.take n) (m.take n)
 |[],[],0,_=>trivial
 |_::_,_::_,0,_=>trivial
 |[],[],_+1,_=>trivial
 |_::_,_::_,n+1,h=>⟨h.1,bP.take n h.2⟩
 |[],_::_,_,h=>h.elim
 |_::_,[],_,h=>h.elim
theorem bP.set : ∀{l:List α} {m:List β} (n:Nat) {a:α} {b:β},bP r l m→r a b→bP r (l.set n a) (m.set n b)
 |[],[],_,_,_,_,_=>trivial
 |_::_,_::_,0,_,_,h,hab=>⟨hab,h.2⟩
 |_::_,_::_,n+1,_,_,h,hab=>⟨h.1,bP.set n h.2 hab⟩
 |[],_::_,_,_,_,h,_=>h.elim
 |_::_,[],_,_,_,h,_=>h.elim
theorem bP.get? {l:List α} {m:List β} (h:bP r l m) {i:Nat} {a:α} (ha:l[i]? = some a) : ∃b,m[i]? = some b∧r a b:=by
 obtain⟨hi,rfl⟩:=List.getElem?_eq_some_iff.1 ha
 have hm:=h.len
 exact⟨m[i],da (by omega),h.get i hi (by omega)⟩
theorem bP.getD {l:List α} {m:List β} (h:bP r l m) {i:Nat} (hi:i<l.length) (d:α) (e:β):r (l.getD i d) (m.getD i e):=by
 have hm:=h.len
 rw[de,de,da hi,da (by omega:i<m.length)]
 exact h.get i hi (by omega)
end all2
inductive VP (g:Gh) (w:World):PV→Value→Prop
 |sc (v:Value):VP g w (.sc v) v
 |pp (off:Nat) (cells:List PV) (b o:Nat) (f:Nat→Value) (hp : ∀k,k<cells.length→g.pure b (o+k)∧w.cell? ⟨b,o+k,none⟩=some (f k)∧(f k).oneCell'=true)
   (hv : ∀k (h:k<cells.length),VP g w cells[k] (f k)):VP g w (.pp off cells) (.pointer (some ⟨b,o+off,none⟩))
 |ps (len sz:Nat) (cells:List PV) (b o cap:Nat) (f:Nat→Value) (hl:cells.length=len*sz) (hc:len≤cap) (hz:1≤sz)
   (hp : ∀k,k<cells.length→g.pure b (o+k)∧w.cell? ⟨b,o+k,none⟩=some (f k)∧(f k).oneCell'=true)
   (hv : ∀k (h:k<cells.length),VP g w cells[k] (f k)):VP g w (.ps len sz cells) (.slice (some ⟨b,o,none⟩) len cap)
 |qA (sz:Nat) (a:Option Addr) (cap:Nat) (hz:1≤sz∨(a=none∧cap=0)):VP g w (.ps 0 sz []) (.slice a 0 cap)
 |nL (t:TypeId) (v:PV) (cv:Value) (h:VP g w v cv):VP g w (.nL t v) (.iface t cv)
inductive VA (g:Gh) (w:World):AV→Value→Prop
 |bC (v:Value):VA g w .bC v
 |p (v:PV) (cv:Value) (h:VP g w v cv):VA g w (.p v) cv
 |os (tok:Option Nat) (len sz:Nat) (cells:List PV) (a:Option Addr) (cap:Nat) (h:VP g w (.ps len sz cells) (.slice a len cap))
   (hr:cap=len ∨ ∃t b o,tok=some t∧a=some ⟨b,o,none⟩∧g.bX t=some b∧g.lo t=o+len*sz∧g.hi t=o+cap*sz∧len≤cap):VA g w (.os tok len sz cells) (.slice a len cap)
 |mp (b off c:Nat) (h:g.bX b=some c):VA g w (.mp b off) (.pointer (some ⟨c,off,none⟩))
 |ms (b off len sz cap c:Nat) (h:g.bX b=some c) (hc:len≤cap):VA g w (.ms b off len sz (some cap)) (.slice (some ⟨c,off,none⟩) len cap)
 |mg (b off len sz cap c:Nat) (h:g.bX b=some c) (hc:len≤cap) (hh:off+cap*sz≤g.hi b):VA g w (.ms b off len sz none) (.slice (some ⟨c,off,none⟩) len cap)
 |fn (f:Fn) (l k:List AV) (fa ca:Array Value) (hl:l.length=fa.toList.length) (hk:k.length=ca.toList.length)
   (h : ∀i (h:i<l.length) (h':i<fa.toList.length),VA g w l[i] fa.toList[i]) (h2 : ∀i (h:i<k.length) (h':i<ca.toList.length),VA g w k[i] ca.toList[i]):VA g w (.fn f l k) (.func f fa ca)
 |agg (l:List AV) (cs:Array Value) (hl:l.length=cs.toList.length) (h : ∀i (h:i<l.length) (h':i<cs.toList.length),VA g w l[i] cs.toList[i]):VA g w (.agg l) (.agg cs)
 |aK (l:List AV) (cs:Array Value) (hl:l.length=cs.toList.length) (h : ∀i (h:i<l.length) (h':i<cs.toList.length),VA g w l[i] cs.toList[i]):VA g w (.aK l) (.tuple cs)
 |nL (t:TypeId) (v:AV) (cv:Value) (h:VA g w v cv):VA g w (.nL t v) (.iface t cv)
 |vm (b c:Nat) (h:g.bX b=some c):VA g w (.vm b) (.map (some c))
 |vy (b c:Nat) (h:g.bX b=some c):VA g w (.vy b) (.func (.yield c) #[] #[])
abbrev dj (g:Gh) (w:World):List AV→List Value→Prop:=bP (VA g w)
abbrev JQ (g:Gh) (w:World):List PV→List Value→Prop:=bP (VP g w)
theorem VA.wD {g:Gh} {w:World} {l:List AV} {cs:Array Value}:VA g w (.agg l) (.agg cs)↔dj g w l cs.toList:=
 ⟨fun h=>by cases h with | agg _ _ hl h=>exact bP.cY hl h,fun h=> .agg l cs h.len fun i a b=>h.get i a b⟩
theorem VA.mP {g:Gh} {w:World} {l:List AV} {cs:Array Value}:VA g w (.aK l) (.tuple cs)↔dj g w l cs.toList:=
 ⟨fun h=>by cases h with | aK _ _ hl h=>exact bP.cY hl h,fun h=> .aK l cs h.len fun i a b=>h.get i a b⟩
theorem VA.pv {g:Gh} {w:World} {v:PV} {cv:Value}:VA g w (.p v) cv↔VP g w v cv:=
 ⟨fun h=>by cases h with | p _ _ h=>exact h,.p v cv⟩
theorem VA.fns {g:Gh} {w:World} {f:Fn} {l k:List AV} {cv:Value}:VA g w (.fn f l k) cv ↔ ∃fa ca:Array Value,cv = .func f fa ca∧dj g w l fa.toList∧dj g w k ca.toList:=
 ⟨fun h=>by cases h with | fn _ _ _ fa ca hl hk h h2=>exact⟨fa,ca,rfl,bP.cY hl h,bP.cY hk h2⟩,
  fun⟨fa,ca,e,h,h2⟩=>e ▸ .fn f l k fa ca h.len h2.len (fun i a b=>h.get i a b) fun i a b=>h2.get i a b⟩
theorem VP.bz {g:Gh} {w:World} {cv:Value} (h:VP g w .bz cv):False:=by cases h
structure Ext (g:Gh) (w:World) (g':Gh) (w':World):Prop where
 bX : ∀i c,g.bX i=some c→g'.bX i=some c∧g'.lo i=g.lo i∧g'.hi i=g.hi i
 pure : ∀c o,g.pure c o→g'.pure c o∧w'.cell? ⟨c,o,none⟩=w.cell? ⟨c,o,none⟩
theorem Ext.refl (g:Gh) (w:World):Ext g w g w:=⟨fun _ _ h=>⟨h,rfl,rfl⟩,fun _ _ h=>⟨h,rfl⟩⟩
theorem Ext.trans {g g' g'':Gh} {w w' w'':World} (h:Ext g w g' w') (k:Ext g' w' g'' w''):Ext g w g'' w'':=
 ⟨fun i c e=>⟨(k.bX i c (h.bX i c e).1).1,(k.bX i c (h.bX i c e).1).2.1.trans (h.bX i c e).2.1,(k.bX i c (h.bX i c e).1).2.2.trans (h.bX i c e).2.2⟩,
  fun c o e=>⟨(k.pure c o (h.pure c o e).1).1,(k.pure c o (h.pure c o e).1).2.trans (h.pure c o e).2⟩⟩
theorem VP.mono {g g':Gh} {w w':World} (e : ∀c o,g.pure c o→g'.pure c o∧w'.cell? ⟨c,o,none⟩=w.cell? ⟨c,o,none⟩) {v:PV} {cv:Value} (h:VP g w v cv):VP g' w' v cv:=by
 induction h with
 |sc v=>exact .sc v
 |pp off cells b o f hp hv ih=>exact .pp off cells b o f (fun k hk=>⟨(e _ _ (hp k hk).1).1,(e _ _ (hp k hk).1).2.trans (hp k hk).2.1,(hp k hk).2.2⟩) ih
 |ps len sz cells b o cap f hl hc hz hp hv ih=>exact .ps len sz cells b o cap f hl hc hz (fun k hk=>⟨(e _ _ (hp k hk).1).1,(e _ _ (hp k hk).1).2.trans (hp k hk).2.1,(hp k hk).2.2⟩) ih
 |qA sz a cap hz=>exact .qA sz a cap hz
 |nL t v cv h ih=>exact .nL t v cv ih
theorem VA.mono {g g':Gh} {w w':World} (e:Ext g w g' w') {v:AV} {cv:Value} (h:VA g w v cv):VA g' w' v cv:=by
 induction h with
 |bC v=>exact .bC v
 |p v cv h=>exact .p v cv (h.mono e.pure)
 |os tok len sz cells a cap h hr=>
  refine .os tok len sz cells a cap (h.mono e.pure) (hr.imp id ?_)
  rintro ⟨t,b,o,rfl,rfl,hb,hlo,hhi,hc⟩
  exact⟨t,b,o,rfl,rfl,(e.bX t b hb).1,(e.bX t b hb).2.1.trans hlo,(e.bX t b hb).2.2.trans hhi,hc⟩
 |mp b off c h=>exact .mp b off c (e.bX b c h).1
 |ms b off len sz cap c h hc=>exact .ms b off len sz cap c (e.bX b c h).1 hc
 |mg b off len sz cap c h hc hh=>exact .mg b off len sz cap c (e.bX b c h).1 hc (by rw[(e.bX b c h).2.2];exact hh)
 |fn f l k fa ca hl hk h h2 ih ih2=>exact .fn f l k fa ca hl hk ih ih2
 |agg l cs hl h ih=>exact .agg l cs hl ih
 |aK l cs hl h ih=>exact .aK l cs hl ih
 |nL t v cv h ih=>exact .nL t v cv ih
 |vm b c h=>exact .vm b c (e.bX b c h).1
 |vy b c h=>exact .vy b c (e.bX b c h).1
theorem dj.mono {g g':Gh} {w w':World} (e:Ext g w g' w') {l:List AV} {cs:List Value} (h:dj g w l cs):dj g' w' l cs:=bP.mono (fun _ _=>VA.mono e) h
def HF (g:Gh) (w:World) (l:List AV) (cs:List Value):Prop:=dj g w l cs ∧ ∀v∈cs,v.oneCell'=true
theorem HF.mono {g g':Gh} {w w':World} (e:Ext g w g' w') {l:List AV} {cs:List Value} (h:HF g w l cs):HF g' w' l cs:=⟨h.1.mono e,h.2⟩
def bq.cells?:bq→Option (List AV)
 |.pc l=>some (l.map .p)
 |.ac l=>some l
 |_=>none
def bq.dc:bq→Bool
 |.pc _ | .ac _ | .tok | .ob .. =>true
 |_=>false
def fH (g:Gh) (m:Mem) (c:Nat):Prop:= ∃i b,m[i]? = some b∧b.dc=true∧g.bX i=some c
def entriesOf:List Value→List Value→List Nat→List MapEntry
 |k::ks,v::vs,b::bs=>{key:=k,val:=v,born:=b}::entriesOf ks vs bs
 |_,_,_=>[]
def dS.is:dS→Obj→List Value→Prop
 |.map keys XZ clock,ob,vs=>ob = .map (entriesOf keys vs XZ).toArray clock
 |.Lx,ob,vs=>ob = .deferred (some [])∧vs=[]
 |.shut,ob,vs=>ob = .deferred none∧vs=[]
 |.opq,_,vs=>vs=[]
 |.gr t _,ob,vs=> ∃cs e n,ob = .cells cs e n∧e=t∧n.2≤n.1∧vs=cs.toList.take vs.length∧vs.length≤cs.size ∧ ∀v∈cs.toList,v.oneCell'=true
 |.stk t pre,ob,vs=> ∃cs e n,ob = .cells cs e n∧e=t∧n.2≤n.1∧pre++vs=cs.toList.take (pre.length+vs.length)∧pre.length+vs.length≤cs.size ∧ ∀v∈cs.toList,v.oneCell'=true
 |.gb t,ob,vs=> ∃cs e n,ob = .cells cs e n∧e=t∧n.2≤n.1∧vs=cs.toList.take vs.length∧vs.length≤cs.size∧(∀v∈cs.toList,∃k,v = .int .u8 k)∧cs.size≤9223372036854775807
 |.iter s pos,ob,vs=>ob = .stringIter s pos∧vs=[]
 |.TD s pos more,ob,vs=>ob = .stringIter s pos∧vs=[]∧bj pos s.size=more
 |.N5 keys,ob,vs=> ∃es clock bs,ob = .map es clock∧keys.length=vs.length∧bs.length=vs.length∧es.toList.Perm (entriesOf keys vs bs)
 |.loop f ps a b st pd,ob,vs=> ∃D,ob = .loop {state:=st,pending:=pd,fn:=f,tmps:=vs.toArray,params:=ps,assign:=a,body:=b,defers:=D}
def dS.room:dS→Obj→Nat→Prop
 |.gr _ _,.cells cs _ _,h=>cs.size=h
 |.stk _ _,.cells cs _ _,h=>cs.size=h
 |.gb _,.cells cs _ _,h=>cs.size=h
 |_,_,_=>True
structure Rel (g:Gh) (m:Mem) (w:World):Prop where
 tA : ∀i,m.length≤i→g.bX i=none
 free : ∀i,m[i]? = some .free→g.bX i=none
 cells : ∀i b l,m[i]? = some b→b.cells?=some l → ∃c cs e n,g.bX i=some c∧w.heap[c]? = some (.cells cs e n)∧n.2≤n.1∧HF g w l cs.toList ∧ ∀o,¬g.pure c o
 tok : ∀i c,m[i]? = some .tok→g.bX i=some c → ∃cs e n,w.heap[c]? = some (.cells cs e n)∧g.hi i≤cs.size∧(n.2≤n.1∨g.hi i≤n.1) ∧ ∀o,g.lo i≤o→o<g.hi i → ¬g.pure c o
 inj : ∀i j b b' c,m[i]? = some b→m[j]? = some b'→b.dc=true→b'.dc=true→g.bX i=some c→g.bX j=some c→i=j
 there : ∀c o,g.pure c o → ∃v,w.cell? ⟨c,o,none⟩=some v
 obs : ∀i k l,m[i]? = some (.ob k l) → ∃c ob vs,g.bX i=some c∧w.heap[c]? = some ob∧dj g w l vs∧k.is ob vs∧(∀o,¬g.pure c o)∧k.room ob (g.hi i)
theorem Rel.lW {g:Gh} {m:Mem} {w:World} (h:Rel g m w) {c:Nat} (ho:fH g m c):c<w.heap.size:=by
 obtain⟨i,b,hi,hb,hc⟩:=ho
 have lt : ∀{o:Obj},w.heap[c]? = some o→c<w.heap.size:=fun e=>by
  rcases Nat.lt_or_ge c w.heap.size with h | h
  · exact h
  · simp[Array.getElem?_eq_none h] at e
 cases b with
 |free=>simp[bq.dc] at hb
 |dead=>simp[bq.dc] at hb
 |pc l=>obtain⟨c',cs,e,n,h1,h2,_⟩:=h.cells i _ _ hi rfl;rw[hc] at h1;cases h1;exact lt h2
 |ac l=>obtain⟨c',cs,e,n,h1,h2,_⟩:=h.cells i _ _ hi rfl;rw[hc] at h1;cases h1;exact lt h2
 |tok=>obtain⟨cs,e,n,h2,_⟩:=h.tok i c hi hc;exact lt h2
 |ob k l=>obtain⟨c',ob,vs,h1,h2,_⟩:=h.obs i _ _ hi;rw[hc] at h1;cases h1;exact lt h2
theorem Rel.mQ {g:Gh} {m:Mem} {w:World} (h:Rel g m w) {c o:Nat} (hp:g.pure c o):c<w.heap.size:=by
 obtain⟨v,hv⟩:=h.there c o hp
 exact World.block_lt_of_cell? (h:=hv)
structure dF (g:Gh) (m:Mem) (w:World) (g':Gh) (m':Mem) (w':World):Prop where
 size:w.heap.size≤w'.heap.size
 keep : ∀c,c<w.heap.size → ¬fH g m c→w'.heap[c]? = w.heap[c]?
 pure : ∀c o,g.pure c o→g'.pure c o∧w'.cell? ⟨c,o,none⟩=w.cell? ⟨c,o,none⟩
 fresh : ∀c o,g'.pure c o→g.pure c o∨fH g m c∨w.heap.size≤c
 owned : ∀c,fH g' m' c→fH g m c∨w.heap.size≤c
 os:w'.os=w.os
 tape:w'.tape=w.tape
 output:w'.output=w.output
theorem dF.refl (g:Gh) (m:Mem) (w:World):dF g m w g m w:=⟨c9 _,fun _ _ _=>rfl,fun _ _ h=>⟨h,rfl⟩,fun _ _ h=> .inl h,fun _ h=> .inl h,rfl,rfl,rfl⟩
theorem dF.trans {g g' g'':Gh} {m m' m'':Mem} {w w' w'':World} (h:dF g m w g' m' w') (k:dF g' m' w' g'' m'' w''):dF g m w g'' m'' w'' where
 size:=bx h.size k.size
 keep c hc hn:=(k.keep c (Nat.lt_of_lt_of_le hc h.size) fun ho=>(h.owned c ho).elim hn fun hh=>absurd hc (Nat.not_lt.2 hh)).trans (h.keep c hc hn)
 pure c o hp:=⟨(k.pure c o (h.pure c o hp).1).1,(k.pure c o (h.pure c o hp).1).2.trans (h.pure c o hp).2⟩
 fresh c o hp:=by
  rcases k.fresh c o hp with h1 | h1 | h1
  · exact h.fresh c o h1
  · exact .inr (h.owned c h1)
  · exact .inr (.inr (bx h.size h1))
 owned c ho:=by
  rcases k.owned c ho with h1 | h1
  · exact h.owned c h1
  · exact .inr (bx h.size h1)
 os:=k.os.trans h.os
 tape:=k.tape.trans h.tape
 output:=k.output.trans h.output
theorem dF.less {g:Gh} {m m':Mem} {w:World} (h : ∀c,fH g m' c→fH g m c):dF g m w g m' w:=
 ⟨c9 _,fun _ _ _=>rfl,fun _ _ h=>⟨h,rfl⟩,fun _ _ h=> .inl h,fun c ho=> .inl (h c ho),rfl,rfl,rfl⟩
end Go.Am
end
section
namespace Go.Am
theorem wE : ∀{a b:List UInt8},vE a b=true→a=b
 |[],[],_=>rfl
 |x::r,y::s,h=>by
  simp only[vE,di] at h
  rw[wE h.2,UInt8.toNat_inj.1 (be h.1)]
 |[],_::_,h=>by cases h
 |_::_,[],h=>by cases h
theorem On {a b:Value} (h:Lz a b=true):a=b:=by
 unfold Lz at h
 split at h
 · simp only[di,Oc,beq_iff_eq,decide_eq_true_eq] at h
   rw[h.1,h.2]
 · rename_i a b
   cases a<;>cases b<;>first
    |rfl
    |cases h
 · rename_i a b
   have:=wE h
   cases a with
   |mk a=>cases b with
    |mk b=>
     congr 1
     congr 1
     exact Array.toList_inj.1 this
 all_goals first
  |rfl
  |cases h
mutual
theorem CS : ∀{a b:PV},pW a b=true→a=b
 |.bz,b,h=>by cases b<;>first | rfl | cases h
 |.sc v,b,h=>by
  cases b<;>first
   |cases h
   |exact congrArg _ (On h)
 |.pp o l,b,h=>by
  cases b with
  |pp q m=>
   simp only[pW,di] at h
   rw[be h.1,nU h.2]
  |_=>cases h
 |.ps n z l,b,h=>by
  cases b with
  |ps k y m=>
   simp only[pW,di] at h
   rw[be h.1,be h.2.1,nU h.2.2]
  |_=>cases h
 |.nL t v,b,h=>by
  cases b with
  |nL s u=>
   simp only[pW,di] at h
   rw[be h.1,CS h.2]
  |_=>cases h
theorem nU : ∀{a b:List PV},wk a b=true→a=b
 |[],b,h=>by cases b<;>first | rfl | cases h
 |x::r,b,h=>by
  cases b with
  |nil=>cases h
  |cons y s=>
   simp only[wk,di] at h
   rw[CS h.1,nU h.2]
end
theorem Oo {a b:Option Nat} (h:eqO a b=true):a=b:=by
 cases a<;>cases b<;>first
  |rfl
  |cases h
  |exact congrArg _ (be h)
mutual
theorem lz : ∀{a b:AV},jB a b=true→a=b
 |.bC,b,h=>by cases b<;>first | rfl | cases h
 |.p v,b,h=>by
  cases b<;>first
   |cases h
   |exact congrArg _ (CS h)
 |.os t n z l,b,h=>by
  cases b with
  |os s k y m=>
   simp only[jB,di] at h
   rw[Oo h.1,be h.2.1,be h.2.2.1,nU h.2.2.2]
  |_=>cases h
 |.mp x o,b,h=>by
  cases b with
  |mp c q=>
   simp only[jB,di] at h
   rw[be h.1,be h.2]
  |_=>cases h
 |.ms x o n z k,b,h=>by
  cases b with
  |ms c q m y j=>
   simp only[jB,di] at h
   rw[be h.1,be h.2.1,be h.2.2.1,be h.2.2.2.1,Oo h.2.2.2.2]
  |_=>cases h
 |.fn f l m,b,h=>by
  cases b with
  |fn g k n=>
   cases f<;>cases g<;>first
    |cases h
    |(simp only[jB,di] at h
      rw[be h.1,fO h.2.1,fO h.2.2])
  |_=>cases f<;>cases h
 |.agg l,b,h=>by
  cases b<;>first
   |cases h
   |exact congrArg _ (fO h)
 |.aK l,b,h=>by
  cases b<;>first
   |cases h
   |exact congrArg _ (fO h)
 |.nL t v,b,h=>by
  cases b with
  |nL s u=>
   simp only[jB,di] at h
   rw[be h.1,lz h.2]
  |_=>cases h
 |.vm x,b,h=>by
  cases b<;>first
   |cases h
   |exact congrArg _ (be h)
 |.vy x,b,h=>by
  cases b<;>first
   |cases h
   |exact congrArg _ (be h)
theorem fO : ∀{a b:List AV},lp a b=true→a=b
 |[],b,h=>by cases b<;>first | rfl | cases h
 |x::r,b,h=>by
  cases b with
  |nil=>cases h
  |cons y s=>
   simp only[lp,di] at h
   rw[lz h.1,fO h.2]
end
theorem CT : ∀{a b:List Value},Od a b=true→a=b
 |[],b,h=>by cases b<;>first | rfl | cases h
 |x::r,b,h=>by
  cases b with
  |nil=>cases h
  |cons y s=>
   simp only[Od,di] at h
   rw[On h.1,CT h.2]
theorem Oq {a b:Value} (h:Oe a b=true):a=b:=by
 unfold Oe at h
 split at h
 · rw[Array.toList_inj.1 (CT h)]
 · cases h
theorem AW : ∀{a b:List Value},CI a b=true→a=b
 |[],b,h=>by cases b<;>first | rfl | cases h
 |x::r,b,h=>by
  cases b with
  |nil=>cases h
  |cons y s=>
   simp only[CI,di] at h
   rw[Oq h.1,AW h.2]
theorem AX : ∀{a b:List Nat},CJ a b=true→a=b
 |[],b,h=>by cases b<;>first | rfl | cases h
 |x::r,b,h=>by
  cases b with
  |nil=>cases h
  |cons y s=>
   simp only[CJ,di] at h
   rw[be h.1,AX h.2]
theorem LC {a b:Bool} (h:CH a b=true):a=b:=by cases a<;>cases b<;>first | rfl | cases h
theorem Ot {a b:bq} (h:JF a b=true):a=b:=by
 unfold JF at h
 split at h<;>first
  |rfl
  |cases h
  |exact congrArg _ (nU h)
  |exact congrArg _ (fO h)
  |(simp only[di] at h;rw[AW h.1,fO h.2];done)
  |(simp only[di] at h;rw[be h.1,fO h.2];done)
  |(simp only[di] at h;rw[be h.1,LC h.2.1,fO h.2.2];done)
  |(simp only[di] at h;rw[CT h.1,AX h.2.1,be h.2.2.1,fO h.2.2.2];done)
theorem lX : ∀{a b:Mem},rz a b=true→a=b
 |[],b,h=>by cases b<;>first | rfl | cases h
 |x::r,b,h=>by
  cases b with
  |nil=>cases h
  |cons y s=>
   simp only[rz,di] at h
   rw[Ot h.1,lX h.2]
theorem wF : ∀{a b:List Bool},vJ a b=true→a=b
 |[],b,h=>by cases b<;>first | rfl | cases h
 |x::r,b,h=>by
  cases b with
  |nil=>cases h
  |cons y s=>
   simp only[vJ,di] at h
   rw[wF h.2]
   have:=h.1
   cases x<;>cases y<;>first | rfl | cases this
end Go.Am
end
