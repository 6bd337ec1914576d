import Derived.Orders
import Derived.WalkKit
import Derived.ChangeKeysEq
import Derived.DeepKeys3
open Nat renaming beq→be,ble→bj,eq_of_beq_eq_true→bm,blt→bx,lt_of_succ_lt_succ→cf,le_trans→ch,zero_lt_succ→cp,succ_lt_succ→da,testBit→db,noConfusion→dd,le_refl→df,min→dk
open List renaming getElem?_eq_getElem→dp,replicate→dq,getD_eq_getElem?_getD→dt
open BitVec renaming ofInt→du
open Bool renaming and_eq_true→dv
section
namespace Go.Am
inductive PV where
 |eJ
 |sc (v:Value)
 |pp (off:Nat) (cells:List PV)
 |ps (len sz:Nat) (cells:List PV)
 |kA (t:TypeId) (v:PV)
 deriving Inhabited
inductive AV where
 |af
 |p (v:PV)
 |os (tok:Option Nat) (len sz:Nat) (cells:List PV)
 |mp (b off:Nat)
 |ms (b off len sz:Nat) (cap:Option Nat)
 |fn (f:Fn) (first captured:List AV)
 |agg (cells:List AV)
 |bk (vs:List AV)
 |kA (t:TypeId) (v:AV)
 |vm (b:Nat)
 |vy (b:Nat)
 deriving Inhabited
inductive fR where
 |map (keys:List Value) (La:List Nat) (clock:Nat)
 |E5
 |shut
 |loop (f:FuncId) (ps:Array Tmp) (assign body:Code) (state:LoopState) (pending:Option Code)
 |iter (s:ByteArray) (pos:Nat)
 |gr (t:TypeId) (q:Bool)
 |zN (keys:List Value)
 |Lb
 |Sl (s:ByteArray) (pos:Nat) (more:Bool)
 |stk (t:TypeId) (pre:List Value)
 |gb (t:TypeId)
 |smap (ns:List ByteArray)
 deriving Inhabited
inductive aH where
 |free
 |dead
 |pc (cells:List PV)
 |ac (cells:List AV)
 |tok
 |ob (k:fR) (vals:List AV)
 deriving Inhabited
abbrev Mem:=List aH
abbrev rM:=List (Nat×AV)
abbrev mW:=List (Nat×aH)
abbrev sI (k:IntKind) (n:Int):AV:= .p (.sc (.int k n))
abbrev sB (b:Bool):AV:= .p (.sc (.bool b))
def look:rM→Nat→AV
 |[],_=> .af
 |(k,v)::r,i=>cond (be k i) v (look r i)
def iC:Value→AV
 |.slice none 0 0=> .os none 0 0 []
 |v=> .p (.sc v)
def DU:Value→AV
 |.agg cs=> .agg (cs.toList.map iC)
 |.tuple vs=> .bk (vs.toList.map iC)
 |v=>iC v
def Ga:AV→Option Value
 |.p (.sc v)=>some v
 |_=>none
def u9:List AV→Option (List Value)
 |[]=>some []
 |a::r=>match Ga a,u9 r with
  |some v,some vs=>some (v::vs)
  |_,_=>none
def CQ:AV→Option Value
 |.p (.sc v)=>some v
 |.agg l=>(u9 l).map fun vs=> .agg vs.toArray
 |.bk l=>(u9 l).map fun vs=> .tuple vs.toArray
 |_=>none
def lT:AV→Bool
 |.p .eJ=>false
 |.p (.sc v)=>v.oneCell'
 |.p _ | .os .. | .mp .. | .ms .. | .fn .. | .kA .. | .vm _ | .vy _=>true
 |_=>false
def jD:List AV→Bool
 |[]=>true
 |a::r=>lT a&&jD r
def cellsOf:AV→List AV×Bool
 |.agg l=>(l,jD l)
 |v=>([v],lT v)
def zO:AV→Option PV
 |.p v=>some v
 |.os _ len sz cells=>some (.ps len sz cells)
 |_=>none
def jk:List AV→Option (List PV)
 |[]=>some []
 |a::r=>match zO a,jk r with
  |some v,some vs=>some (v::vs)
  |_,_=>none
def uj:List AV→Bool
 |[]=>true
 |.p _::r=>uj r
 |_::_=>false
def Bg:AV→PV
 |.p v=>v
 |_=> .eJ
def E6 (l:List AV):Option (List PV):=cond (uj l) (some (l.map Bg)) none
def Bh (l:List AV):aH:=
 match E6 l with
 |some vs=> .pc vs
 |none=> .ac l
def bM {α:Type} (l:List α) (off:Nat):List α→List α
 |[]=>l
 |v::r=>bM (l.set off v) (off+1) r
def mR {α:Type} (d:α) (l:List α) (off:Nat):Nat→List α
 |0=>[]
 |n+1=>l.getD off d::mR d l (off+1) n
def gR {α:Type} (P:Program):Sem α→Option α
 |.pure a=>some a
 |.program k=>gR P (k P)
 |.mark _ k=>gR P k
 |_=>none
def tC (ρ:Operand→AV):List Operand→Bool
 |[]=>true
 |x::r=>(CQ (ρ x)).isSome&&tC ρ r
def scalar (P:Program) (ρ:Operand→AV) (o:Oper):Option AV:=
 cond (tC ρ o.op.operands.toList)
  (match gR P (execOp (fun x=>(CQ (ρ x)).getD undef) o) with
    |some (.value v)=>some (DU v)
    |_=>none)
  none
def fj (P:Program) (t:TypeId):Option Nat:=(P.info? t).map (·.size)
def Jq (P:Program) (t:TypeId):Option Bool:=
 match P.underlying t with
 |some (.struct _) | some (.array _ _)=>some true
 |some _=>some false
 |none=>none
def isInt (k:IntKind):PV→Bool
 |.sc (.int j _)=>j==k
 |_=>false
def aS:PV→Int
 |.sc (.int _ n)=>n
 |_=>0
def isBool:PV→Bool
 |.sc (.bool _)=>true
 |_=>false
def Gb:PV→Bool
 |.sc (.bool b)=>b
 |_=>false
def isStr:PV→Bool
 |.sc (.string _)=>true
 |_=>false
def Lc:PV→ByteArray
 |.sc (.string s)=>s
 |_=> .empty
def cW:PV→Bool
 |.ps .. =>true
 |_=>false
def aJ:PV→Nat
 |.ps len _ _=>len
 |_=>0
def cH:PV→Nat
 |.ps _ sz _=>sz
 |_=>0
def aF:PV→List PV
 |.ps _ _ cs=>cs
 |_=>[]
def isOk:PV→Bool
 |.eJ=>false
 |_=>true
def yz (d:Option TypeDesc) (c:PV):PV×Bool:=
 match d with
 |some (.int k)=>(.sc (.int k (aS c)),isInt k c)
 |some .bool=>(.sc (.bool (Gb c)),isBool c)
 |some .string=>(.sc (.string (Lc c)),isStr c)
 |some (.slice _)=>(.ps (aJ c) (cH c) (aF c),cW c)
 |_=>(c,isOk c)
def aI (d:Option TypeDesc):AV→AV×Bool
 |.p c=>(.p (yz d c).1,(yz d c).2)
 |v=>(v,true)
def uD (P:Program):Nat→TypeId→List (Option TypeDesc)
 |0,_=>[]
 |n+1,t=>match P.underlying t with
  |some (.struct fs)=>fs.toList.flatMap fun f=>uD P n f.type
  |some (.array k e)=>(dq k (uD P n e)).flatten
  |d=>[d]
def qj:List (Option TypeDesc)→List AV→List AV×Bool
 |d::ds,a::r=>((aI d a).1::(qj ds r).1,(aI d a).2&&(qj ds r).2)
 |[],[]=>([],true)
 |_,_=>([],false)
def lU (rd:Nat→aH) (a:AV) (n:Nat):Option (List AV×Bool):=
 match a with
 |.p (.pp off cs)=>some ((mR .eJ cs off n).map .p,true)
 |.mp b off=>match rd b with
  |.pc l=>some ((mR .eJ l off n).map .p,true)
  |.ac l=>some (mR .af l off n,bj (off+n) l.length)
  |.ob (.gr _ _) l=>some (mR .af l off n,bj (off+n) l.length)
  |.ob (.stk _ pre) l=>some (mR .af l (off-pre.length) n,bj pre.length off&&bj (off-pre.length+n) l.length)
  |_=>none
 |_=>none
def kS (P:Program) (rd:Nat→aH) (t:TypeId) (a:AV):Option (AV×Bool):=
 match Jq P t,fj P t with
 |some true,some n=>(lU rd a n).map fun r=>(.agg (qj (uD P 20 t) r.1).1,r.2&&(qj (uD P 20 t) r.1).2)
 |some false,some _=>match lU rd a 1 with
  |some ([v],ok)=>some ((aI (P.underlying t) v).1,ok&&(aI (P.underlying t) v).2)
  |_=>none
 |_,_=>none
def Bi:AV→AV
 |.os _ len sz cs=> .p (.ps len sz cs)
 |v=>v
def Gc (q:Bool) (vs:List AV):List AV:=cond q (vs.map Bi) vs
def qk (b:aH) (off:Nat) (vs:List AV):Option (aH×Bool):=
 match b with
 |.pc l=>match E6 vs with
  |some bV=>some (.pc (bM l off bV),bj (off+vs.length) l.length)
  |none=>some (.ac (bM (l.map .p) off vs),bj (off+vs.length) l.length)
 |.ac l=>some (.ac (bM l off vs),bj (off+vs.length) l.length)
 |.ob (.gr t q) l=>some (.ob (.gr t q) (bM l off (Gc q vs)),bj (off+vs.length) l.length)
 |.ob (.stk t pre) l=>some (.ob (.stk t pre) (bM l (off-pre.length) vs),bj pre.length off&&bj (off-pre.length+vs.length) l.length)
 |_=>none
abbrev kg:=Option (AV×mW×Bool)
def ql (P:Program) (rd:Nat→aH) (t:TypeId) (a v:AV):kg:=
 match a,fj P t with
 |.mp b off,some n=>match qk (rd b) off (cellsOf v).1 with
  |some (b',ok)=>some (.bk [],[(b,b')],ok&&(cellsOf v).2&&be (cellsOf v).1.length n)
  |none=>none
 |_,_=>none
def checked (l:List AV):Option (List AV):=cond (jD l) (some l) none
def zeroCells (P:Program) (t:TypeId):Option (List AV):=
 match(P.info? t).bind (·.zero) with
 |some (.agg cs)=>checked (cs.toList.map iC)
 |some v=>checked [iC v]
 |none=>none
def zQ (P:Program) (aO:Nat) (t:TypeId):kg:=
 (zeroCells P t).map fun l=>(.mp aO 0,[(aO,Bh l)],true)
def va (P:Program) (aO:Nat) (t:TypeId):kg:=
 (zeroCells P t).map fun l=>(.mp aO 0,[(aO,.ob (.gr t false) l)],true)
def Gd (aO:Nat) (v:AV):kg:=some (.mp aO 0,[(aO,Bh (cellsOf v).1)],(cellsOf v).2)
def tD (place:Nat→Option (Nat×Nat)) (cells:List AV):List (Nat×AV)→Option (List AV×Bool)
 |[]=>some (cells,true)
 |(i,v)::r=>match place i with
  |some (off,size)=>match tD place (bM cells off (cellsOf v).1) r with
   |some (cs,ok)=>some (cs,(cellsOf v).2&&be (cellsOf v).1.length size&&bj (off+size) cells.length&&ok)
   |none=>none
  |none=>none
def placesOf (P:Program):List Field→Option (List (Nat×Nat))
 |[]=>some []
 |f::r=>match fj P f.type,placesOf P r with
  |some n,some l=>some ((f.offset,n)::l)
  |_,_=>none
def uE (P:Program) (t:TypeId) (parts:List (Nat×AV)):Option (AV×Bool):=
 match zeroCells P t,P.underlying t with
 |some z,some (.struct fields)=>match placesOf P fields.toList with
  |some pl=>(tD (fun i=>pl[i]?) z parts).map fun r=>(.agg r.1,r.2)
  |none=>none
 |some z,some (.array _ elem)=>match fj P elem with
  |some size=>(tD (fun i=>some (i*size,size)) z parts).map fun r=>(.agg r.1,r.2)
  |none=>none
 |_,_=>none
def cg {α:Type} (z:List α):Nat→List α
 |0=>[]
 |n+1=>z++cg z n
def zeros (P:Program) (elem:TypeId) (n:Nat):Option (List AV):=
 match fj P elem,zeroCells P elem with
 |some size,some z=>cond (be z.length size&&bj 1 size) (match z with
  |[v]=>some (dq n v)
  |z=>some (cg z n)) none
 |_,_=>none
def Ge (P:Program) (elem:TypeId) (n:Nat):Option aH:=
 match fj P elem,zeroCells P elem with
 |some size,some z=>cond (be z.length size&&bj 1 size) (match E6 z with
  |some [v]=>some (.pc (dq n v))
  |some z=>some (.pc (cg z n))
  |none=>some (.ac (cg z n))) none
 |_,_=>none
def CR (P:Program) (elem:TypeId) (wr:Bool) (cells:List AV):Option (List PV):=
 match wr,P.underlying elem with
 |true,some (.int .u8)=>none
 |_,_=>jk cells
def lV (P:Program) (wr:Bool) (aO:Nat) (t:TypeId) (len:Nat) (parts:List (Nat×AV)):kg:=
 match P.underlying t with
 |some (.slice elem)=>match fj P elem,zeros P elem len with
  |some size,some z=>match tD (fun i=>some (i*size,size)) z parts with
   |some (cells,ok)=>match wr,CR P elem wr cells with
    |false,some bV=>some (.os none len size bV,[],ok&&bj (len*size) 16777216)
    |true,some bV=>some (.ms aO 0 len size none,[(aO,.ob (.gr elem true) (bV.map .p))],ok&&bj (len*size) 16777216)
    |_,none=>some (.ms aO 0 len size (some len),[(aO,Bh cells)],ok&&bj (len*size) 16777216)
   |none=>none
  |_,_=>none
 |_=>none
def b7:Nat:=70368744177664
def mX (P:Program) (aO:Nat) (t:TypeId) (len cap:AV):kg:=
 match P.underlying t,len,cap with
 |some (.slice elem),.p (.sc (.int _ l)),.p (.sc (.int _ c))=>match P.info? elem,Ge P elem c.toNat with
  |some info,some aP=>some (.ms aO 0 l.toNat info.size (some c.toNat),[(aO,aP)],
    decide (0≤l)&&decide (l≤c)&&bj c.toNat b7&&bj (info.bytes*c.toNat) b7)
  |_,_=>none
 |_,_,_=>none
def pe (P:Program) (t:TypeId) (len cap:AV):kg:=
 match P.underlying t,len,cap with
 |some (.slice elem),.p (.sc (.int _ l)),.p (.sc (.int _ c))=>match P.info? elem,zeroCells P elem with
  |some info,some [z]=>match zO z with
   |some pv=>some (.os none l.toNat 1 (dq l.toNat pv),[],
     decide (0≤l)&&(decide (l=c)&&(be info.size 1&&(bj c.toNat b7&&bj (info.bytes*c.toNat) b7))))
   |none=>none
  |_,_=>none
 |_,_,_=>none
def lW:AV→Nat→Option AV
 |.p (.pp off cs),n=>some (.p (.pp (off+n) cs))
 |.mp b off,n=>some (.mp b (off+n))
 |_,_=>none
def kB (P:Program) (t:TypeId) (x:AV) (f:Nat):Option AV:=
 match P.underlying t with
 |some (.struct fields)=>match fields[f]? with
  |some fd=>match fj P fd.type with
   |some n=>cond (bj 1 n) (lW x fd.offset) none
   |none=>none
  |none=>none
 |_=>none
def partOf (P:Program) (t:TypeId) (cs:List AV) (off:Nat):Option (AV×Bool):=
 match Jq P t,fj P t with
 |some true,some n=>some (.agg (mR .af cs off n),bj (off+n) cs.length)
 |some false,some _=>some (cs.getD off .af,bx off cs.length)
 |_,_=>none
def uF (P:Program) (t:TypeId) (x:AV) (f:Nat):Option (AV×Bool):=
 match P.underlying t,x with
 |some (.struct fields),.agg cs=>match fields[f]? with
  |some fd=>partOf P fd.type cs fd.offset
  |none=>none
 |_,_=>none
def eW (i:Int) (len:Nat):Bool:=decide (0≤i)&&decide (i<len)
def kC (P:Program) (t:TypeId) (x i:AV):Option (AV×Bool):=
 match i,P.underlying t with
 |.p (.sc (.int _ n)),some (.array len elem)=>match fj P elem with
  |some size=>(lW x (n.toNat*size)).map fun v=>(v,eW n len)
  |none=>none
 |.p (.sc (.int _ n)),some (.slice elem)=>match fj P elem,x with
  |some size,.p (.ps len sz cs)=>some (.p (.pp (n.toNat*size) cs),eW n len&&be sz size)
  |some size,.os _ len sz cs=>some (.p (.pp (n.toNat*size) cs),eW n len&&be sz size)
  |some size,.ms b off len sz _=>some (.mp b (off+n.toNat*size),eW n len&&be sz size)
  |_,_=>none
 |_,_=>none
def uG (P:Program) (t:TypeId) (x i:AV):Option (AV×Bool):=
 match x,i with
 |.agg cs,.p (.sc (.int _ n))=>match P.underlying t with
  |some (.array len elem)=>match fj P elem,partOf P elem cs (n.toNat*(fj P elem).getD 0) with
   |some _,some (v,ok)=>some (v,eW n len&&ok)
   |_,_=>none
  |_=>none
 |.p (.sc (.string s)),.p (.sc (.int _ n))=>match P.underlying t with
  |some .string=>some (sI .u8 (s.data.toList.getD n.toNat 0).toNat,eW n s.data.toList.length)
  |_=>none
 |_,_=>none
def bound (ρ:Operand→AV) (x:Option Operand) (dflt:Nat):Option (Nat×Bool):=
 match x with
 |none=>some (dflt,true)
 |some x=>match ρ x with
  |.p (.sc (.int _ n))=>some (n.toNat,decide (0≤n))
  |_=>none
def cut {α:Type} (cs:List α) (lo hi:Option Nat):List α:=
 match lo,hi with
 |none,none=>cs
 |some l,none=>cs.drop l
 |none,some h=>cs.take h
 |some l,some h=>(cs.take h).drop l
def times (x:Option Operand) (n sz:Nat):Option Nat:=x.map fun _=>n*sz
def om (P:Program) (ρ:Operand→AV) (t:TypeId) (x:AV) (low high mx:Option Operand):Option (AV×Bool):=
 match P.underlying t with
 |some (.array n elem)=>match fj P elem,bound ρ low 0,bound ρ high n,mx,x with
  |some size,some (l,a),some (h,b),none,.mp i off=>some (.ms i (cond (be n l) off (off+l*size)) (h-l) size (some (n-l)),a&&b&&bj l h&&bj h n)
  |_,_,_,_,_=>none
 |some (.slice elem)=>match fj P elem,bound ρ low 0,x with
  |some size,some (l,a),.p (.ps len sz cs)=>match bound ρ high len,mx with
   |some (h,b),none=>some (.p (.ps (h-l) size (cut cs (times low l size) (times high h size))),a&&b&&bj l h&&bj h len&&be sz size)
   |some (h,b),some m=>match bound ρ (some m) 0 with
    |some (m,c)=>some (.os none (h-l) size (cut cs (times low l size) (times high h size)),a&&b&&c&&bj l h&&bj h len&&be m h&&(high.isSome&&be sz size))
    |none=>none
   |_,_=>none
  |some size,some (l,a),.os tok len sz cs=>match bound ρ high len,mx with
   |some (h,b),none=>match high with
    |none=>some (.os tok (h-l) size (cut cs (times low l size) none),a&&b&&bj l h&&(be sz size||(be len 0&&(bj 1 size&&tok.isNone))))
    |some _=>match tok,be h len with
     |none,true=>some (.os none (h-l) size (cut cs (times low l size) (some (h*size))),a&&b&&bj l h&&bj h len&&(be sz size||(be len 0&&bj 1 size)))
     |_,_=>some (.p (.ps (h-l) size (cut cs (times low l size) (some (h*size)))),a&&b&&bj l h&&bj h len&&(be sz size||(be len 0&&bj 1 size)))
   |some (h,b),some m=>match bound ρ (some m) 0 with
    |some (m,c)=>some (.os none (h-l) size (cut cs (times low l size) (times high h size)),a&&b&&c&&bj l h&&bj h len&&be m h&&(high.isSome&&(be sz size||(be len 0&&bj 1 size))))
    |none=>none
   |_,_=>none
  |some size,some (l,a),.ms i off len sz none=>match bound ρ high len,mx with
   |some (h,b),none=>some (.ms i (off+l*size) (h-l) size none,a&&b&&bj l h&&bj h len&&be sz size&&(be l 0||bx l len))
   |some (h,b),some m=>match bound ρ (some m) 0 with
    |some (m,c)=>some (.ms i (cond (be m l) off (off+l*size)) (h-l) size (some (m-l)),a&&b&&c&&bj l h&&bj h m&&bj m len&&(high.isSome&&be sz size))
    |none=>none
   |_,_=>none
  |some size,some (l,a),.ms i off len sz (some cap)=>match bound ρ high len,mx with
   |some (h,b),none=>some (.ms i (cond (be cap l) off (off+l*size)) (h-l) size (some (cap-l)),a&&b&&bj l h&&bj h cap&&be sz size)
   |_,_=>none
  |_,_,_=>none
 |some .string=>match bound ρ low 0,x,mx with
  |some (l,a),.p (.sc (.string s)),none=>match bound ρ high s.data.toList.length with
   |some (h,b)=>some (.p (.sc (.string (s.extract l h))),a&&b&&bj l h&&bj h s.data.toList.length)
   |none=>none
  |_,_,_=>none
 |_=>none
def byteOf:PV→UInt8
 |.sc (.int .u8 n)=>UInt8.ofNat n.toNat
 |_=>0
def isByte:PV→Bool
 |.sc (.int .u8 _)=>true
 |_=>false
def Gf (b:UInt8):PV:= .sc (.int .u8 b.toNat)
def contents (rd:Nat→aH) (sz:Nat):AV→Option (Nat×List PV×Bool)
 |.p (.ps len s cs)=>some (len,cs,be s sz||(be len 0&&bj 1 sz))
 |.os _ len s cs=>some (len,cs,be s sz||(be len 0&&bj 1 sz))
 |.ms b off len s (some _)=>match rd b with
  |.pc l=>some (len,(l.drop off).take (len*sz),be s sz&&bj (off+len*sz) l.length)
  |.ac l=>(jk ((l.drop off).take (len*sz))).map fun bV=>(len,bV,be s sz&&bj (off+len*sz) l.length)
  |.ob (.gr _ true) l=>some (len,((l.drop off).take (len*sz)).map Bg,uj ((l.drop off).take (len*sz))&&(be s sz&&bj (off+len*sz) l.length))
  |.ob (.gr _ false) l=>(jk ((l.drop off).take (len*sz))).map fun bV=>(len,bV,be s sz&&bj (off+len*sz) l.length)
  |_=>none
 |.ms b off len s none=>match rd b with
  |.ob (.gr _ true) l=>some (len,((l.drop off).take (len*sz)).map Bg,uj ((l.drop off).take (len*sz))&&(be s sz&&bj (off+len*sz) l.length))
  |.ob (.gr _ false) l=>(jk ((l.drop off).take (len*sz))).map fun bV=>(len,bV,be s sz&&bj (off+len*sz) l.length)
  |.ob (.gb _) l=>some (len,((l.drop off).take (len*sz)).map Bg,uj ((l.drop off).take (len*sz))&&(be s sz&&bj (off+len*sz) l.length))
  |_=>none
 |.p (.sc (.string s))=>some (s.data.toList.length,s.data.toList.map Gf,be sz 1)
 |_=>none
def convertOp (P:Program) (rd:Nat→aH) (aO:Nat) (ρ:Operand→AV) (o:Oper) (src dst:TypeId) (x:AV):kg:=
 match P.underlying dst,x with
 |some (.int k),.p (.sc (.int _ n))=>match P.underlying src with
  |some _=>some (sI k (k.wrap n),[],true)
  |none=>none
 |some .string,.p (.sc (.string s))=>match P.underlying src with
  |some .string=>some (.p (.sc (.string s)),[],true)
  |_=>none
 |some (.slice e),.p (.sc (.string s))=>match P.underlying src,P.underlying e with
  |some .string,some (.int .u8)=>some (.os (some aO) s.data.toList.length 1 (s.data.toList.map Gf),[(aO,.tok)],true)
  |_,_=>none
 |some (.slice e),.ms b off len sz (some _)=>match P.underlying src,P.underlying e,rd b with
  |some (.slice _),some (.int .u8),.pc l=>some (.p (.ps len 1 ((l.drop off).take len)),[(b,.dead)],be src dst&&(be sz 1&&bj (off+len) l.length))
  |_,_,_=>none
 |some .unsafePointer,.mp b off=>match P.underlying src,rd b with
  |some (.pointer t),.ob (.gr _ _) l=>match P.info? t with
   |some j=>some (.mp b off,[],bj 1 j.size&&bx off l.length)
   |none=>none
  |_,_=>none
 |some (.pointer u),.mp b 0=>match P.underlying src,rd b with
  |some .unsafePointer,.ob (.gr t _) l=>match P.info? u with
   |some _=>some (.mp b 0,[],be t u&&(bj 1 (P.cellsOf u)&&bj (P.cellsOf u) l.length))
   |none=>none
  |_,_=>none
 |some .string,x=>match P.underlying src with
  |some (.slice e)=>match P.underlying e with
   |some (.int .u8)=>match contents rd 1 x with
    |some (_,bV,ok)=>some (.p (.sc (.string ⟨(bV.map byteOf).toArray⟩)),[],ok&&bV.all isByte)
    |none=>none
   |_=>none
  |_=>none
 |_,_=>(scalar P ρ o).map fun v=>(v,[],true)
def kD:AV→Bool
 |.p (.sc (.pointer none)) | .p (.sc .nilFunc) | .p (.sc .nilIface)=>true
 |_=>false
def kE:AV→Bool
 |.p (.pp ..) | .mp .. | .fn .. | .p (.kA ..) | .kA .. =>true
 |_=>false
def CS (op:BinOp) (k:IntKind) (x:Int) (yk:IntKind) (y:Int):Option (Value×Bool):=
 match op with
 |.add=>some (.int k (k.wrap (x+y)),k==yk)
 |.sub=>some (.int k (k.wrap (x-y)),k==yk)
 |.mul=>some (.int k (k.wrap (x*y)),k==yk)
 |.quo=>some (.int k (k.wrap (x.tdiv y)),k==yk && !(y==0))
 |.rem=>some (.int k (x.tmod y),k==yk && !(y==0))
 |.and=>some (.int k (k.wrap (du k.bits x&&&du k.bits y).toNat),k==yk)
 |.or=>some (.int k (k.wrap (du k.bits x|||du k.bits y).toNat),k==yk)
 |.xor=>some (.int k (k.wrap (du k.bits x ^^^ du k.bits y).toNat),k==yk)
 |.andNot=>some (.int k (k.wrap (du k.bits x &&& ~~~du k.bits y).toNat),k==yk)
 |.shl=>some (.int k (k.wrap (x*2 ^ min y.toNat k.bits)),decide (0≤y))
 |.shr=>some (.int k (x.fdiv (2 ^ min y.toNat k.bits)),decide (0≤y))
 |.eql=>some (.bool (x==y),k==yk)
 |.neq=>some (.bool (x != y),k==yk)
 |.lss=>some (.bool (x<y),k==yk)
 |.leq=>some (.bool (x≤y),k==yk)
 |.gtr=>some (.bool (x>y),k==yk)
 |.geq=>some (.bool (x≥y),k==yk)
def CT (op:BinOp) (x y:ByteArray):Option (Value×Bool):=
 match op with
 |.add=>some (.string (x++y),bj (x.data.toList.length+y.data.toList.length) b7)
 |.eql=>some (.bool (x.data.toList==y.data.toList),true)
 |.neq=>some (.bool (!(x.data.toList==y.data.toList)),true)
 |.lss=>some (.bool (Op.bytesLess x.data.toList y.data.toList),true)
 |_=>none
def gT (P:Program):Nat→List Field→List AV→List AV→Option Bool
 |_,[],[],[]=>some true
 |i,f::fs,x::xs,y::ys=>match P.underlying f.type,x,y with
  |some (.int _),.p (.sc (.int k a)),.p (.sc (.int k' b))=>cond (k==k'&&be f.offset i&&f.name != "_" && P.plainKey f.type) ((gT P (i+1) fs xs ys).map fun r=>(a==b)&&r) none
  |some .bool,.p (.sc (.bool a)),.p (.sc (.bool b))=>cond (be f.offset i&&f.name != "_" && P.plainKey f.type) ((gT P (i+1) fs xs ys).map fun r=>(a==b)&&r) none
  |some .string,.p (.sc (.string a)),.p (.sc (.string b))=>cond (be f.offset i&&f.name != "_" && P.plainKey f.type) ((gT P (i+1) fs xs ys).map fun r=>(a.data.toList==b.data.toList)&&r) none
  |_,_,_=>none
 |_,_,_,_=>none
def Bj (P:Program) (t:TypeId) (x y:AV):Option Bool:=match x,y with
 |.agg xs,.agg ys=>match P.underlying t with
  |some (.struct fs)=>cond (!P.stoodInHeld t && !P.eqGuardType P.depth t) (gT P 0 fs.toList xs ys) none
  |_=>none
 |_,_=>none
def DV (P:Program) (o:Oper) (x y:AV):Option Bool:=match o.op with
 |.binOp _ t _ _ _=>Bj P t x y
 |_=>none
def qm (P:Program) (ρ:Operand→AV) (o:Oper) (op:BinOp) (x y:AV):Option (AV×Bool):=
 match x,y with
 |.p (.sc (.int k a)),.p (.sc (.int k' b))=>(CS op k a k' b).map fun r=>(.p (.sc r.1),r.2)
 |.p (.sc (.string a)),.p (.sc (.string b))=>(CT op a b).map fun r=>(.p (.sc r.1),r.2)
 |x,y=>match op with
  |.eql=>match DV P o x y with
   |some b=>some (sB b,true)
   |none=>cond ((kD x&&kE y)||(kE x&&kD y)) none ((scalar P ρ o).map fun v=>(v,true))
  |.neq=>match DV P o x y with
   |some b=>some (sB !b,true)
   |none=>cond ((kD x&&kE y)||(kE x&&kD y)) none ((scalar P ρ o).map fun v=>(v,true))
  |_=>none
def vc (P:Program) (ρ:Operand→AV) (o:Oper) (op:UnOp) (x:AV):Option (AV×Bool):=
 match op,x with
 |.not,.p (.sc (.bool b))=>some (sB !b,true)
 |.neg,.p (.sc (.int k n))=>some (sI k (k.wrap (0-n)),true)
 |_,_=>(scalar P ρ o).map fun v=>(v,true)
def oo (rd:Nat→aH) (aO:Nat):Option Nat→Option mW
 |none=>some [(aO,.tok)]
 |some t=>match rd t with
  |.tok=>some [(t,.dead),(aO,.tok)]
  |_=>none
def iO (P:Program) (rd:Nat→aH) (aO:Nat) (argTypes:Array TypeId) (s x:AV):kg:=
 match argTypes[0]?,argTypes[1]? with
 |some sType,some xType=>match P.underlying sType,P.underlying xType with
  |some (.slice _),some (.int _)=>none
  |some (.slice elem),some _=>match P.info? elem,zeroCells P elem with
   |some info,some z=>match contents rd info.size x,s with
    |some (n,bV,ok),.os tok len sz cs=>(oo rd aO tok).map fun us=>(.os (some aO) (len+n) info.size (cs++bV),us,
      ok&&(be sz info.size||(be len 0&&tok.isNone))&&bj 1 info.size&&be z.length info.size&&bj ((len+n)*info.bytes) b7&&bj (len+n) b7)
    |_,_=>none
   |_,_=>none
  |_,_=>none
 |_,_=>none
def jw:aH→Option (List AV)
 |.pc l=>some (l.map .p)
 |.ac l=>some l
 |.ob (.gr _ _) l=>some l
 |_=>none
def cw (rd:Nat→aH) (sz:Nat) (x:AV):Option (Nat×List AV×Bool):=
 match contents rd sz x with
 |some (n,bV,ok)=>some (n,bV.map .p,ok)
 |none=>match x with
  |.ms b off len s (some _)=>match rd b with
   |.ac l=>some (len,((l.drop off).take (len*sz)).map Bi,be s sz&&bj (off+len*sz) l.length)
   |_=>none
  |_=>none
def jE (rd:Nat→aH) (sz:Nat) (x:AV):Bool:=(contents rd sz x).isSome
def N2:aH→Bool
 |.pc _=>true
 |.ob (.gr _ q) _=>q
 |_=>false
def N3:Option TypeDesc→Bool
 |some (.int .u8)=>true
 |_=>false
def N4:AV→Bool
 |.p v=>isByte v
 |_=>false
def allBy:List AV→Bool
 |[]=>true
 |a::r=>N4 a&&allBy r
def fk (P:Program) (rd:Nat→aH) (aO:Nat) (argTypes:Array TypeId) (s x:AV):kg:=
 match argTypes[0]?,argTypes[1]? with
 |some sType,some xType=>match P.underlying sType,P.underlying xType with
  |some (.slice _),some (.int _)=>none
  |some (.slice elem),some _=>match P.info? elem,zeroCells P elem with
   |some info,some z=>match cw rd info.size x with
    |some (n,bV,ok)=>
     let fits:=fun(len:Nat)=>ok&&(bj 1 info.size&&(be z.length info.size&&(bj ((len+n)*info.bytes) b7&&bj (len+n) b7)))
     match s with
     |.ms b 0 len sz none=>match rd b with
      |.ob (.gr t q) l=>some (.ms aO 0 (len+n) sz none,[(b,.dead),(aO,.ob (.gr t (q&&jE rd info.size x)) (l.take (len*sz)++bV))],fits len&&(be sz info.size&&(bj (len*sz) l.length&&be t elem)))
      |.ob (.gb t) l=>some (.ms aO 0 (len+n) sz none,[(b,.dead),(aO,.ob (.gb t) (l++bV))],fits len&&(be sz info.size&&(be (len*sz) l.length&&(be t elem&&(be info.size 1&&(allBy z&&allBy bV))))))
      |.ob (.stk t pre) l=>some (.ms aO 0 (len+n) sz none,[(b,.dead),(aO,.ob (.stk t pre) (l.take (len*sz-pre.length)++bV))],fits len&&(be sz info.size&&(bj (len*sz) (pre.length+l.length)&&(be t elem&&bj pre.length (len*sz)))))
      |_=>none
     |.os none len sz cells=>match be n 0 with
      |true=>some (.os none len sz cells,[],fits len)
      |false=>match N3 (P.underlying elem) with
       |true=>some (.ms aO 0 (len+n) info.size none,[(aO,.ob (.gb elem) (cells.map .p++bV))],fits len&&((be sz info.size||(be len 0&&bj 1 info.size))&&(allBy (cells.map .p)&&(be info.size 1&&(allBy z&&allBy bV)))))
       |false=>some (.ms aO 0 (len+n) info.size none,[(aO,.ob (.gr elem (jE rd info.size x)) (cells.map .p++bV))],fits len&&(be sz info.size||(be len 0&&bj 1 info.size)))
     |.ms b 0 len sz (some cap)=>match jw (rd b) with
      |some l=>cond (bj (len+n) cap)
       (match qk (rd b) (len*sz) (bV) with
         |some (b',ok')=>some (.ms b 0 (len+n) sz (some cap),[(b,b')],fits len&&(ok'&&be sz info.size))
         |none=>none)
       (some (.ms aO 0 (len+n) sz none,[(aO,.ob (.gr elem (N2 (rd b)&&jE rd info.size x)) (l.take (len*sz)++bV))],fits len&&(be sz info.size&&bj (len*sz) l.length)))
      |none=>none
     |_=>none
    |none=>none
   |_,_=>none
  |_,_=>none
 |_,_=>none
def mY:AV→AV
 |.p (.ps 0 0 _)=> .os none 0 0 []
 |v=>v
def LG:AV→Bool
 |.ms .. =>true
 |_=>false
def rN (P:Program) (rd:Nat→aH) (argTypes:Array TypeId) (d s:AV):kg:=
 match argTypes[0]? with
 |some t=>match P.underlying t with
  |some (.slice elem)=>match fj P elem with
   |some size=>match contents rd size s,d with
    |some (n,bV,ok),.ms b off len sz (some _)=>match rd b with
     |.pc l=>some (sI .i64 (dk n len),[(b,.pc (l.take off++bV.take (dk n len*size)++l.drop (off+dk n len*size)))],
        ok&&be sz size&&bj (off+len*size) l.length)
     |_=>none
    |_,_=>none
   |none=>none
  |_=>none
 |none=>none
def Gg (P:Program) (argTypes:Array TypeId) (x:AV):Option AV:=
 match argTypes[0]? with
 |some t=>match P.underlying t,x with
  |some (.slice _),.p (.ps len _ _)=>some (sI .i64 len)
  |some (.slice _),.os _ len _ _=>some (sI .i64 len)
  |some (.slice _),.ms _ _ len _ _=>some (sI .i64 len)
  |some .string,.p (.sc (.string s))=>some (sI .i64 s.data.toList.length)
  |some (.array n _),_=>some (sI .i64 n)
  |_,_=>none
 |none=>none
def Gi (P:Program) (argTypes:Array TypeId) (x:AV):Option AV:=
 match argTypes[0]? with
 |some t=>match P.underlying t,x with
  |some (.slice _),.ms _ _ _ _ (some cap)=>some (sI .i64 cap)
  |some (.slice _),.os none len _ _=>some (sI .i64 len)
  |some (.slice _),.p (.ps 0 0 _)=>some (sI .i64 0)
  |_,_=>none
 |none=>none
def mZ (P:Program) (t:TypeId) (x:AV):Option AV:=
 match P.underlying t with
 |some (.interface _)=>none
 |some _=>match x with
  |.p (.sc v)=>some (.p (.sc (.iface t v)))
  |.p v=>some (.p (.kA t v))
  |x=>some (.kA t x)
 |none=>none
def jF (P:Program) (ρ:Operand→AV) (o:Oper) (x:AV):Option AV:=
 match x with
 |.p (.pp off cs)=>some (.p (.pp off cs))
 |.mp b off=>some (.mp b off)
 |.fn (.func f) a b=>some (.fn (.func f) a b)
 |_=>scalar P ρ o
def jl (r:Option AV):kg:=r.map fun v=>(v,[],true)
def gV (r:Option (AV×Bool)):kg:=r.map fun v=>(v.1,[],v.2)
def Gj (j k:IntKind):Bool:=j==k
def kF:List UInt8→List UInt8→Bool
 |[],[]=>true
 |a::r,b::s=>be a.toNat b.toNat&&kF r s
 |_,_=>false
def zR:Bool→Bool→Bool
 |true,true=>true
 |false,false=>true
 |_,_=>false
def N5:Value→Value→Bool
 |.int j a,.int k b=>Gj j k&&decide (a=b)
 |.bool a,.bool b=>zR a b
 |.string a,.string b=>kF a.data.toList b.data.toList
 |.pointer none,.pointer none=>true
 |.slice none 0 0,.slice none 0 0=>true
 |.map none,.map none=>true
 |.nilFunc,.nilFunc=>true
 |.nilIface,.nilIface=>true
 |_,_=>false
def Gk:List Value→List Value→Bool
 |[],[]=>true
 |a::r,b::s=>N5 a b&&Gk r s
 |_,_=>false
mutual
def Bk:PV→PV→Bool
 |.eJ,.eJ=>true
 |.sc v,.sc u=>N5 v u
 |.pp o l,.pp q m=>be o q&&ve l m
 |.ps n z l,.ps k y m=>be n k&&(be z y&&ve l m)
 |.kA t v,.kA s u=>be t s&&Bk v u
 |_,_=>false
def ve:List PV→List PV→Bool
 |[],[]=>true
 |a::r,b::s=>Bk a b&&ve r s
 |_,_=>false
end
def N6:Option Nat→Option Nat→Bool
 |none,none=>true
 |some a,some b=>be a b
 |_,_=>false
mutual
def cX:AV→AV→Bool
 |.af,.af=>true
 |.p v,.p u=>Bk v u
 |.os t n z l,.os s k y m=>N6 t s&&(be n k&&(be z y&&ve l m))
 |.mp b o,.mp c q=>be b c&&be o q
 |.ms b o n z k,.ms c q m y j=>be b c&&(be o q&&(be n m&&(be z y&&N6 k j)))
 |.fn (.func f) l m,.fn (.func g) k n=>be f g&&(kG l k&&kG m n)
 |.agg l,.agg m=>kG l m
 |.bk l,.bk m=>kG l m
 |.kA t v,.kA s u=>be t s&&cX v u
 |.vm b,.vm c=>be b c
 |.vy b,.vy c=>be b c
 |_,_=>false
def kG:List AV→List AV→Bool
 |[],[]=>true
 |a::r,b::s=>cX a b&&kG r s
 |_,_=>false
end
def Gl (a b:Value):Bool:=
 match a,b with
 |.agg x,.agg y=>Gk x.toList y.toList
 |_,_=>false
def zS:List Value→List Value→Bool
 |[],[]=>true
 |a::r,b::s=>Gl a b&&zS r s
 |_,_=>false
def zT:List Nat→List Nat→Bool
 |[],[]=>true
 |a::r,b::s=>be a b&&zT r s
 |_,_=>false
def DW:aH→aH→Bool
 |.free,.free=>true
 |.dead,.dead=>true
 |.tok,.tok=>true
 |.pc l,.pc m=>ve l m
 |.ac l,.ac m=>kG l m
 |.ob (.gr t q) l,.ob (.gr u r) m=>be t u&&(zR q r&&kG l m)
 |.ob (.gb t) l,.ob (.gb u) m=>be t u&&kG l m
 |.ob .Lb [],.ob .Lb []=>true
 |.ob (.map ks bs c) l,.ob (.map js ds d) m=>Gk ks js&&(zT bs ds&&(be c d&&kG l m))
 |.ob (.zN ks) l,.ob (.zN js) m=>zS ks js&&kG l m
 |_,_=>false
def tE:Mem→Mem→Bool
 |[],[]=>true
 |a::r,b::s=>DW a b&&tE r s
 |_,_=>false
def mN (P:Program) (t:TypeId):Option AV:=match P.info? t with
 |some i=>i.zero.map DU
 |none=>none
def plainKey:TypeDesc→Value→Bool
 |.int k,.int k' _=>k==k'
 |.string,.string _=>true
 |.bool,.bool _=>true
 |_,_=>false
def oQ (d:TypeDesc) (k:Value):List Value→List AV→List Nat→Option (Option AV)
 |[],[],[]=>some none
 |k'::ks,v::vs,_::bs=>match Instr.sameNow d k k' with
  |some true=>some (some v)
  |some false=>oQ d k ks vs bs
  |none=>none
 |_,_,_=>none
def mapOf (rd:Nat→aH):AV→Option (List Value×List AV×List Nat)
 |.p (.sc (.map none))=>some ([],[],[])
 |.vm b=>match rd b with
  |.ob (.map ks bs _) vs=>some (ks,vs,bs)
  |_=>none
 |_=>none
def tF (P:Program) (kt:TypeId):Bool:=
 (match P.underlying kt with | some (.array _ _) | some (.struct _)=>true | _=>false)&&(P.keyTypeAt 20 kt&&P.tiled 20 kt)
def vf (P:Program) (kt:TypeId) (v:Value):Option (List UInt8):=
 match keyOf P kt v with
 |some (.string s)=>some s
 |_=>none
def qn (P:Program) (kt:TypeId) (b:List UInt8):List Value→List AV→Option (List AV)
 |[],[]=>some []
 |k::ks,v::vs=>match vf P kt k,qn P kt b ks vs with
  |some c,some r=>some (cond (kF b c) (v::r) r)
  |_,_=>none
 |_,_=>none
def zU:List UInt8→List UInt8→Bool
 |[],[]=>false
 |[],_::_=>true
 |_::_,[]=>false
 |a::r,b::s=>cond (be a.toNat b.toNat) (zU r s) (bx a.toNat b.toNat)
def xO (P:Program) (kt:TypeId) (b:List UInt8) (key:Value) (v:AV):List Value→List AV→List Value×List AV
 |k::ks,u::us=>match vf P kt k with
  |some c=>cond (zU b c) (key::k::ks,v::u::us) (k::(xO P kt b key v ks us).1,u::(xO P kt b key v ks us).2)
  |none=>(key::k::ks,v::u::us)
 |ks,us=>(key::ks,v::us)
def rO (rd:Nat→aH):AV→Option (List Value×List AV)
 |.vm b=>match rd b with
  |.ob (.zN ks) vs=>some (ks,vs)
  |_=>none
 |_=>none
def uH (P:Program) (rd:Nat→aH) (t:TypeId) (m k:AV) (ok:Bool):Option AV:=
 match CQ k,P.underlying t with
 |some key,some (.map kt et)=>match mN P et,rO rd m,vf P kt key with
  |some z,some (ks,vs),some b=>cond (tF P kt) (match qn P kt b ks vs with
   |some [v]=>some (cond ok (.bk [v,sB true]) v)
   |some []=>some (cond ok (.bk [z,sB false]) z)
   |_=>none) none
  |_,_,_=>none
 |_,_=>none
def iD (P:Program) (rd:Nat→aH) (t:TypeId) (m k v:AV):kg:=
 match m,CQ k,P.underlying t with
 |.vm b,some key,some (.map kt _)=>match rd b,vf P kt key with
  |.ob (.zN ks) vs,some c=>cond (tF P kt) (match qn P kt c ks vs with
   |some []=>some (.bk [],[(b,.ob (.zN (xO P kt c key v ks vs).1) (xO P kt c key v ks vs).2)],true)
   |_=>none) none
  |_,_=>none
 |_,_,_=>none
def yA (P:Program) (aO:Nat) (t:TypeId):kg:=
 match P.underlying t with
 |some (.map kt _)=>match tF P kt with
  |true=>some (.vm aO,[(aO,.ob (.zN []) [])],true)
  |false=>some (.vm aO,[(aO,.ob (.map [] [] 0) [])],true)
 |_=>some (.vm aO,[(aO,.ob (.map [] [] 0) [])],true)
def lz (P:Program) (rd:Nat→aH) (t:TypeId) (m k:AV) (ok:Bool):Option AV:=
 match k with
 |.p (.sc key)=>match P.underlying t with
  |some (.map kt et)=>match P.underlying kt,mN P et,mapOf rd m with
   |some d,some z,some (ks,vs,bs)=>cond (plainKey d key) (match oQ d key ks vs bs with
    |some (some v)=>some (cond ok (.bk [v,sB true]) v)
    |some none=>some (cond ok (.bk [z,sB false]) z)
    |none=>none) none
   |_,_,_=>none
  |_=>none
 |.agg _=>uH P rd t m k ok
 |_=>none
def vg (d:TypeDesc) (k:Value) (v:AV):List Value→List AV→List Nat→Option (Option (List AV))
 |[],[],[]=>some none
 |k'::ks,u::vs,_::bs=>match Instr.sameNow d k k' with
  |some true=>some (some (v::vs))
  |some false=>match vg d k v ks vs bs with
   |some (some l)=>some (some (u::l))
   |some none=>some none
   |none=>none
  |none=>none
 |_,_,_=>none
def gC (P:Program) (rd:Nat→aH) (t:TypeId) (m k v:AV):kg:=
 match m,k with
 |.vm b,.p (.sc key)=>match P.underlying t,rd b with
  |some (.map kt _),.ob (.map ks bs clock) vs=>match P.underlying kt with
   |some d=>cond (plainKey d key) (match vg d key v ks vs bs with
    |some (some l)=>some (.bk [],[(b,.ob (.map ks bs clock) l)],true)
    |some none=>some (.bk [],[(b,.ob (.map (ks++[key]) (bs++[clock]) (clock+1)) (vs++[v]))],true)
    |none=>none) none
   |none=>none
  |_,_=>none
 |.vm _,.agg _=>iD P rd t m k v
 |_,_=>none
def uk (ns:List ByteArray) (s:ByteArray):Bool:=ns.any fun x=>x.data.toList==s.data.toList
def Gm (ns:List ByteArray) (s:ByteArray):List ByteArray:=cond (uk ns s) ns (ns++[s])
def pg (rd:Nat→aH):AV→Option (List ByteArray)
 |.vm b=>match rd b with
  |.ob (.smap ns) _=>some ns
  |_=>none
 |_=>none
def qo (P:Program) (t:TypeId):Bool:=match P.underlying t with
 |some (.map kt et)=>match P.underlying kt,mN P et with
  |some .string,some (.p (.sc (.bool false)))=>true
  |_,_=>false
 |_=>false
def vh (P:Program) (aO:Nat) (t:TypeId):kg:=
 match qo P t with
 |true=>some (.vm aO,[(aO,.ob (.smap []) [])],true)
 |false=>none
def rP (P:Program) (rd:Nat→aH) (t:TypeId) (m k:AV) (ok:Bool):Option AV:=
 match pg rd m with
 |some ns=>match k with
  |.p (.sc (.string s))=>match qo P t with
   |true=>some (cond ok (.bk [sB (uk ns s),sB (uk ns s)]) (sB (uk ns s)))
   |false=>none
  |_=>none
 |none=>lz P rd t m k ok
def vi (P:Program) (rd:Nat→aH) (t:TypeId) (m k v:AV):kg:=
 match pg rd m with
 |some ns=>match m,k,v with
  |.vm b,.p (.sc (.string s)),.p (.sc (.bool true))=>match qo P t with
   |true=>some (.bk [],[(b,.ob (.smap (Gm ns s)) [])],true)
   |false=>none
  |_,_,_=>none
 |none=>gC P rd t m k v
def isNil:AV→Bool
 |.p (.sc (.pointer none)) | .p (.sc (.map none)) | .p (.sc .nilFunc) | .p (.sc .nilIface)=>true
 |_=>false
def isRef:AV→Bool
 |.p (.pp ..) | .mp .. | .vm _ | .fn .. | .p (.kA ..) | .kA .. =>true
 |_=>false
def DX (x y:AV):Bool:=(isNil x&&isRef y)||(isRef x&&isNil y)
def yB (d:TypeDesc) (x y:AV):Bool:=
 match d with
 |.pointer _=>match y with
  |.p (.sc (.pointer none))=>match x with
   |.p (.pp ..) | .mp .. =>true
   |_=>false
  |_=>false
 |.map _ _=>match y with
  |.p (.sc (.map none))=>match x with
   |.vm _=>true
   |_=>false
  |_=>false
 |_=>false
def DY (P:Program) (op:BinOp) (t:TypeId) (x y:AV):kg:=
 match P.underlying t with
 |some d=>match yB d x y||yB d y x,op with
  |true,.eql=>some (sB false,[],true)
  |true,.neq=>some (sB true,[],true)
  |_,_=>none
 |none=>none
def uI:AV→AV→Bool
 |.mp b o,.mp c q=>be b c&&be o q
 |_,_=>false
def oq (P:Program) (op:BinOp) (t:TypeId):kg:=
 match P.underlying t with
 |some (.pointer e)=>match P.info? e,op with
  |some _,.eql=>some (sB true,[],true)
  |some _,.neq=>some (sB false,[],true)
  |_,_=>none
 |_=>none
def rQ:Operand→Bool
 |.const (.slice none _ _)=>true
 |_=>false
def yC:AV→Option Bool
 |.p (.ps len sz _)=>cond (bj 1 len) (some false) (cond (be sz 0) (some true) none)
 |.os _ len sz _=>cond (bj 1 len) (some false) (cond (be sz 0) (some true) none)
 |.ms .. =>some false
 |_=>none
def uJ (P:Program) (op:BinOp) (t:TypeId) (x:AV):kg:=
 match P.underlying t with
 |some (.slice _)=>match yC x,op with
  |some b,.eql=>some (sB b,[],true)
  |some b,.neq=>some (sB (!b),[],true)
  |_,_=>none
 |_=>none
def zW (P:Program) (aO:Nat) (t:TypeId) (x:AV):kg:=
 match P.underlying t,x with
 |some .string,.p (.sc (.string s))=>some (.mp aO 0,[(aO,.ob (.iter s 0) [])],true)
 |_,_=>none
def CU (rd:Nat→aH) (it:AV):Bool→kg
 |true=>match it with
  |.mp b 0=>match rd b with
   |.ob (.iter s pos) _=>match bx pos s.size with
    |true=>match Utf8.decode s pos with
     |(c,width)=>some (.bk [sB true,sI .i64 pos,sI .i32 c],[(b,.ob (.iter s (pos+width)) [])],true)
    |false=>some (.bk [sB false],[],true)
   |.ob (.Sl s pos more) _=>match more with
    |true=>some (.bk [sB true,sI .i64 pos,sI .i32 (Utf8.decode s pos).1],[(b,.ob (.iter s (pos+(Utf8.decode s pos).2)) [])],true)
    |false=>some (.bk [sB false],[],true)
   |_=>none
  |_=>none
 |false=>none
def m4 (x:AV):kg:=
 match yC x with
 |some true=>some (.p (.sc (.pointer none)),[],true)
 |_=>match x with
  |.ms b off len _ _=>some (.mp b off,[],bj 1 len)
  |_=>none
def Jr:PV→Bool
 |.sc (.int .u8 n)=>decide (0≤n)&&decide (n<256)
 |_=>false
def Gn:AV→Bool
 |.p v=>Jr v
 |_=>false
def Gp:AV→UInt8
 |.p v=>byteOf v
 |_=>0
def Gq (rd:Nat→aH):AV→Option (Nat×TypeId×List AV)
 |.mp b 0=>match rd b with
  |.ob (.gr t _) l=>some (b,t,l)
  |_=>none
 |_=>none
def ej (P:Program) (rd:Nat→aH) (argTypes:List TypeId) (x n:AV):kg:=
 match n with
 |.p (.sc (.int .i64 n))=>match argTypes with
  |[pt,_]=>match decide (n=0) with
   |true=>match x with
    |.p (.sc (.pointer none))=>some (.p (.sc (.string .empty)),[],true)
    |_=>none
   |false=>match P.underlying pt,Gq rd x with
    |some (.pointer e),some (b,t,l)=>some (.p (.sc (.string ⟨((l.take n.toNat).map Gp).toArray⟩)),[(b,.ob .Lb [])],
      (l.take n.toNat).all Gn&&(be t e&&(be (P.cellsOf e) 1&&(decide (0<n)&&(bj n.toNat l.length&&bj n.toNat b7)))))
    |_,_=>none
  |_=>none
 |_=>none
def E7 (mn:Bool):List AV→Option AV
 |[.p (.sc (.int k a)),.p (.sc (.int _ b))]=>some (.p (.sc (.int k (cond mn (min a b) (max a b)))))
 |_=>none
def jG (P:Program) (ρ:Operand→AV) (o:Oper) (mn:Bool) (l:List Operand):Option AV:=
 match E7 mn (l.map ρ) with
 |some v=>some v
 |none=>scalar P ρ o
def vk (P:Program) (t:TypeId) (x:AV) (ok:Bool):Option AV:=
 match P.underlying t with
 |some (.interface _)=>none
 |some _=>match x with
  |.p (.sc .nilIface)=>match ok,mN P t with
   |true,some z=>some (.bk [z,sB false])
   |_,_=>none
  |.p (.kA s v)=>match be s t,ok with
   |true,true=>some (.bk [.p v,sB true])
   |true,false=>some (.p v)
   |false,true=>(mN P t).map fun z=> .bk [z,sB false]
   |false,false=>none
  |.kA s v=>match be s t,ok with
   |true,true=>some (.bk [v,sB true])
   |true,false=>some v
   |false,true=>(mN P t).map fun z=> .bk [z,sB false]
   |false,false=>none
  |.p (.sc (.iface s v))=>match be s t,ok with
   |true,true=>some (.bk [DU v,sB true])
   |true,false=>some (DU v)
   |false,true=>(mN P t).map fun z=> .bk [z,sB false]
   |false,false=>none
  |_=>none
 |none=>none
def tG (P:Program) (rd:Nat→aH) (wr:Bool) (aO:Nat) (ρ:Operand→AV) (o:Oper):kg:=
 match o.op with
 |.move x | .assign x=>some (ρ x,[],true)
 |.pick c a b=>match ρ c with
  |.p (.sc (.bool t))=>some (cond t (ρ a) (ρ b),[],true)
  |_=>none
 |.alloc t=>match wr with
  |true=>va P aO t
  |false=>zQ P aO t
 |.box _ v=>Gd aO (ρ v)
 |.build t parts=>gV (uE P t (parts.toList.map fun q=>(q.1,ρ q.2)))
 |.buildSlice t len parts=>lV P wr aO t len (parts.toList.map fun q=>(q.1,ρ q.2))
 |.load t a=>gV (kS P rd t (ρ a))
 |.store t a v=>ql P rd t (ρ a) (ρ v)
 |.nilCheck x=>jl (jF P ρ o (ρ x))
 |.binOp op t x y _=>match rQ y with
  |true=>uJ P op t (ρ x)
  |false=>match DX (ρ x) (ρ y) with
   |true=>DY P op t (ρ x) (ρ y)
   |false=>match uI (ρ x) (ρ y) with
    |true=>oq P op t
    |false=>gV (qm P ρ o op (ρ x) (ρ y))
 |.range t x=>zW P aO t (ρ x)
 |.next x s=>CU rd (ρ x) s
 |.makeMap t none=>match wr with
  |true=>vh P aO t
  |false=>yA P aO t
 |.lookup t x i ok=>jl (rP P rd t (ρ x) (ρ i) ok)
 |.mapUpdate t x k v=>vi P rd t (ρ x) (ρ k) (ρ v)
 |.insert t x k v=>vi P rd t (ρ x) (ρ k) (ρ v)
 |.unOp op _ x=>gV (vc P ρ o op (ρ x))
 |.convert src dst x=>convertOp P rd aO ρ o src dst (ρ x)
 |.makeInterface t x=>jl (mZ P t (ρ x))
 |.makeFunc f first captured=>some (.fn f (first.toList.map ρ) (captured.toList.map ρ),[],true)
 |.makeSlice t l c=>match wr with
  |true=>pe P t (ρ l) (ρ c)
  |false=>mX P aO t (ρ l) (ρ c)
 |.slice t x lo hi mx=>gV (om P ρ t (ρ x) lo hi mx)
 |.fieldAddr t x f=>jl (kB P t (ρ x) f)
 |.field t x f=>gV (uF P t (ρ x) f)
 |.indexAddr t x i=>gV (kC P t (ρ x) (ρ i))
 |.index t x i=>gV (uG P t (ρ x) (ρ i))
 |.extract x i=>match ρ x with
  |.bk vs=>jl vs[i]?
  |_=>none
 |.typeAssert x _ t ok=>jl (vk P t (ρ x) ok)
 |.call c=>match c.callee,c.args.toList with
  |.builtin .append,[s,x]=>match LG (ρ s)||wr with
   |true=>fk P rd aO c.argTypes (mY (ρ s)) (ρ x)
   |false=>iO P rd aO c.argTypes (mY (ρ s)) (ρ x)
  |.builtin .copy,[d,s]=>rN P rd c.argTypes (ρ d) (ρ s)
  |.builtin .len,[x]=>jl (Gg P c.argTypes (ρ x))
  |.builtin .cap,[x]=>jl (Gi P c.argTypes (ρ x))
  |.builtin .unsafeSliceData,[x]=>m4 (ρ x)
  |.builtin .unsafeString,[x,n]=>ej P rd c.argTypes.toList (ρ x) (ρ n)
  |.builtin .min,l=>jl (jG P ρ o true l)
  |.builtin .max,l=>jl (jG P ρ o false l)
  |_,_=>none
 |_=>none
def makes (o:Oper):Bool:=
 match o.op with
 |.alloc _ | .box .. | .buildSlice .. | .makeSlice .. | .convert .. | .makeMap .. | .range .. =>true
 |.call c=>match c.callee with
  |.builtin .append=>true
  |_=>false
 |_=>false
def apply (m:Mem):mW→Mem
 |[]=>m
 |(i,b)::r=>apply (m.set i b) r
mutual
def refs:AV→List Nat
 |.os (some t) _ _ _=>[t]
 |.mp b _=>[b]
 |.ms b _ _ _ _=>[b]
 |.vm b=>[b]
 |.vy b=>[b]
 |.fn _ first captured=>iz first++iz captured
 |.agg l=>iz l
 |.bk l=>iz l
 |.kA _ v=>refs v
 |_=>[]
def iz:List AV→List Nat
 |[]=>[]
 |a::r=>refs a++iz r
end
def yD:aH→List Nat
 |.ac l=>iz l
 |.ob (.gr _ true) _=>[]
 |.ob (.gb _) _=>[]
 |.ob _ l=>iz l
 |_=>[]
def has (l:List Nat) (i:Nat):Bool:=
 match l with
 |[]=>false
 |j::r=>cond (be j i) true (has r i)
def iE (ord:List Nat):List Nat→List Nat
 |[]=>ord
 |i::r=>iE (cond (has ord i) ord (ord++[i])) r
def reach (m:Mem):Nat→List Nat→Nat→List Nat
 |0,ord,_=>ord
 |f+1,ord,k=>match ord[k]? with
  |none=>ord
  |some i=>reach m f (iE ord (yD (m.getD i .dead))) (k+1)
mutual
def jo (ρ:Nat→Option Nat):AV→AV
 |.os (some t) len sz cs=>match ρ t with
  |some t=> .os (some t) len sz cs
  |none=> .p (.ps len sz cs)
 |.mp b off=>match ρ b with
  |some b=> .mp b off
  |none=> .af
 |.ms b off len sz cap=>match ρ b with
  |some b=> .ms b off len sz cap
  |none=> .af
 |.vm b=>match ρ b with
  |some b=> .vm b
  |none=> .af
 |.vy b=>match ρ b with
  |some b=> .vy b
  |none=> .af
 |.fn f first captured=> .fn f (eA ρ first) (eA ρ captured)
 |.agg l=> .agg (eA ρ l)
 |.bk l=> .bk (eA ρ l)
 |.kA t v=> .kA t (jo ρ v)
 |v=>v
def eA (ρ:Nat→Option Nat):List AV→List AV
 |[]=>[]
 |a::r=>jo ρ a::eA ρ r
end
def ew:AV→AV
 |.p v=> .p v
 |_=> .af
def gw (ρ:Nat→Option Nat):aH→aH
 |.ac l=> .ac (eA ρ l)
 |.ob (.gr t true) l=> .ob (.gr t true) (l.map ew)
 |.ob (.gb t) l=> .ob (.gb t) (l.map ew)
 |.ob k l=> .ob k (eA ρ l)
 |b=>b
def idx (ord:List Nat) (i:Nat):Option Nat:=
 match ord with
 |[]=>none
 |j::r=>cond (be i j) (some 0) ((idx r i).map (· + 1))
def pack (m:Mem) (ord:List Nat):Mem:=ord.map fun i=>gw (idx ord) (m.getD i .dead)
def upTo:Nat→List Nat
 |0=>[]
 |n+1=>upTo n++[n]
def close (m:Mem) (fix:Nat) (vs:List AV):List Nat:=reach m (m.length+1) (iE (upTo fix) (iz vs)) 0
inductive Mark where
 |range (b:Nat)
 |late (f:FuncId) (first caps:List (Nat×Nat))
inductive Ld where
 |call
 |round (i:Nat)
 |late
structure St where
 tm:rM
 nt:Nat
 mem:Mem
 fix:Nat
 bT:List Mark:=[]
 bK:Ld:= .call
inductive It where
 |code (i:Nat) (c:Code)
 |ops (bL:Nat) (ops:Array Oper) (k:Nat) (sure:Bool)
 |inBlock (id:Nat)
 |inLoop (i:Nat) (b:Code)
 |inScope (b:Code)
 |forget (k:List Nat)
 |fin
 |begin
 |xP (u:AV)
 |gW (u:AV)
 |leave
structure bB where
 f:FuncId
 todo:List It
 st:St
inductive Out where
 |ret (v:AV) (m:Mem)
 |ot (v:AV) (m:Mem)
inductive Ev where
 |next (c:bB)
 |must (b:Bool) (c:bB)
 |call (g:FuncId) (args:List AV) (m:Mem) (ord:List Nat) (dst:Option Tmp) (c:bB)
 |test (b:Bool) (yes no:bB)
 |round (args:List AV) (m:Mem) (ord:List Nat) (dst:Option Tmp) (c:bB)
 |range (g:FuncId) (args:List AV) (m:Mem) (ord:List Nat) (L:Nat) (c:bB)
 |draw (bL:Nat) (ops:Array Oper) (c:bB)
 |fork (l:List bB)
 |late (g:FuncId) (args:List AV) (m:Mem) (ord:List Nat) (pv:Option AV) (c:bB)
 |done (o:Out)
 |fail
structure Env where
 cL:Nat→Option (List PV)
 wr:FuncId→Nat→Bool
 keep:FuncId→Nat→Option (List Nat)
 told:FuncId→Nat→Option AV:=fun _ _=>none
def ev (E:Env) (tm:rM):Operand→AV
 |.tmp t=>look tm t
 |.const v=>DU v
 |.global g=>match E.cL g with
  |some cs=> .p (.pp 0 cs)
  |none=> .p (.sc (.pointer (some ⟨g,0,none⟩)))
 |.func f=> .fn (.func f) [] []
def forget (keep:List Nat) (st:St):St:=
 match st.bT,st.bK with
 |[],.call=>
  let vs:=keep.map (look st.tm)
  let ord:=close st.mem st.fix vs
  {tm:=keep.zip (eA (idx ord) vs),nt:=st.nt,mem:=pack st.mem ord,fix:=st.fix,bK:= .call}
 |_,_=>st
def iJ (keep:Option (List Nat)) (st:St):St:=
 match keep with
 |some keep=>forget keep st
 |none=>st
def eC (keep:Option (List Nat)) (k:List It):List It:=
 match keep with
 |some keep=> .forget keep::k
 |none=>k
def put (st:St) (dst:Option Tmp) (v:AV):St:=
 match dst with
 |some d=>{st with tm:=(d,v)::st.tm}
 |none=>st
def fits (st:St) (dst:Option Tmp):Bool:=
 match dst with
 |some d=>bx d st.nt
 |none=>true
def bf (ord:List Nat) (n:Nat) (j:Nat):Option Nat:=
 match ord[j]? with
 |some i=>some i
 |none=>some (n+(j-ord.length))
def cQ (ρ:Nat→Option Nat):List Nat→Mem→Mem→Mem
 |i::ord,b::m1,m=>cQ ρ ord m1 (m.set i (gw ρ b))
 |_,m1,m=>m++m1.map (gw ρ)
def back (ord:List Nat) (dst:Option Tmp) (st:St) (v:AV) (m1:Mem):St:=
 put {st with mem:=cQ (bf ord st.mem.length) ord m1 st.mem} dst (jo (bf ord st.mem.length) v)
def target (ρ:Operand→AV) (o:Oper):Option (FuncId×List AV):=
 match o.op with
 |.call c=>match c.callee with
  |.value f=>match ρ f with
   |.fn (.func f) first captured=>some (f,first++c.args.toList.map ρ++captured)
   |_=>none
  |_=>none
 |_=>none
def uK (ρ:Operand→AV) (o:Oper):Option (List AV):=
 match o.op with
 |.call c=>match c.callee with
  |.value f=>match ρ f with
   |.vy b=>some (.vy b::c.args.toList.map ρ)
   |_=>none
  |_=>none
 |_=>none
def dn (st:St) (f:FuncId) (ps:Array Tmp) (as bd:Code):Mem:=
 (st.mem++[.ob .E5 []])++[.ob (.loop f ps as bd .ready none) ((upTo st.nt).map (look st.tm))]
def fT (m:Mem) (L:Nat):Option (Mem×Option Code):=
 match m.getD L .dead with
 |.ob (.loop f ps as bd st pd) vals=>match st with
  |.busy=>none
  |_=>some (m.set L (.ob (.loop f ps as bd .exhausted pd) vals),pd)
 |_=>none
def behind (c:bB) (m:Mem) (pd:Option Code):bB:=
 {c with todo:=match pd with
    |some code=> .code 0 code::c.todo
    |none=>c.todo,st:={c.st with mem:=m}}
inductive Want where
 |yes | no | ask (d:Nat) (b want:Bool) | lost
def dP (ops:Array Oper) (tm:rM) (o:Oper):Want:=
 match o.guard with
 |none=> .yes
 |some (j,want)=>match ops[j]? with
  |some oj=>match oj.dst with
   |some d=>match look tm d with
    |.p (.sc (.bool b))=> .ask d b want
    |.bk _=> .no
    |_=> .lost
   |none=> .no
  |none=> .no
def reserve (o:Oper) (m:Mem):Mem:=cond (makes o) (m++[.free]) m
def nodes:Code→Nat
 |.seq a b=>nodes a+nodes b
 |.cond _ a b=>1+nodes a+nodes b
 |.block _ b=>nodes b
 |.scope b=>nodes b
 |.loop b=>1+nodes b
 |_=>0
def iF (P:Program) (st:St):List ResultVar→Option (List AV×Bool)
 |[]=>some ([],true)
 |.tmp t::r=>(iF P st r).map fun q=>(look st.tm t::q.1,q.2)
 |.cell a t::r=>match kS P (fun i=>st.mem.getD i .dead) t (look st.tm a),iF P st r with
  |some (v,ok),some (vs,Sm)=>some (v::vs,ok&&Sm)
  |_,_=>none
def one:List AV→AV
 |[v]=>v
 |vs=> .bk vs
def freeze (m:Mem) (kept:List Nat):AV→AV×Bool×List Nat
 |.ms b off len sz (some cap)=>cond (has kept b||be len 0) (.ms b off len sz (some cap),true,[]) (match m.getD b .dead with
  |.pc l=>(.p (.ps len sz ((l.drop off).take (len*sz))),bj (off+len*sz) l.length&&bj 1 sz,[b])
  |_=>(.ms b off len sz (some cap),true,[]))
 |v=>(v,true,[])
def gj (m:Mem) (kept:List Nat):List AV→List AV×Bool×List Nat
 |[]=>([],true,[])
 |v::r=>((freeze m kept v).1::(gj m kept r).1,(freeze m kept v).2.1&&(gj m kept r).2.1,(freeze m kept v).2.2++(gj m kept r).2.2)
def iP (l:List Nat) (n:Nat):Bool:=
 match l with
 |[]=>true
 |i::r=>bx i n&&iP r n
def zX (l ord:List Nat):Bool:=
 match l with
 |[]=>true
 |i::r=> !has ord i&&zX r ord
def lX (P:Program) (c:bB):Ev:=
 match P.funcs[c.f]? with
 |some fn=>match iF P c.st fn.results.toList with
  |some (vs,ok)=>
   let fz:=gj c.st.mem (close c.st.mem c.st.fix []) vs
   let v:=one fz.1
   let ord:=close c.st.mem c.st.fix [v]
   .must (ok&&fz.2.1&&zX fz.2.2 ord) {c with todo:=[.fin],st:={c.st with tm:=[(0,jo (idx ord) v)],nt:=0,mem:=pack c.st.mem ord}}
  |none=> .fail
 |none=> .fail
def lY:List Mark→Mem→Option Mem
 |[],m=>some m
 |.late .. :: _,_=>none
 |.range b::r,m=>match m.getD b .dead with
  |.ob .E5 []=>lY r (m.set b (.ob .shut []))
  |_=>none
def mps (l:List (Nat×Nat)):List AV:=l.map fun q=> .mp q.1 q.2
def zY (c:bB) (pv:Option AV) (g:FuncId) (first caps:List (Nat×Nat)):Ev:=
 let args:=mps first++mps caps
 let ord:=close c.st.mem 0 (pv.toList++args)
 cond (iP ord c.st.mem.length) (.late g (eA (idx ord) args) (pack c.st.mem ord) ord (pv.map (jo (idx ord))) {c with todo:=[.leave],st:={c.st with bT:=[]}}) .fail
def vl (P:Program) (c:bB) (u:AV):Ev:=
 match c.st.bK with
 |.round _=> .fail
 |_=>match c.st.bT with
  |[]=>match P.funcs[c.f]? with
   |some _=>
    let ord:=close c.st.mem c.st.fix [u]
    .next {c with todo:=[.xP (jo (idx ord) u)],st:={c.st with tm:=[],nt:=0,mem:=pack c.st.mem ord}}
   |none=> .fail
  |[.late g first caps]=>zY c (some u) g first caps
  |_=> .fail
def ending (P:Program) (c:bB):Ev:=
 match c.st.bT with
 |[]=>lX P c
 |[.late g first caps]=>zY c none g first caps
 |mk=>match lY mk c.st.mem with
  |some m=>lX P {c with st:={c.st with mem:=m,bT:=[]}}
  |none=> .fail
def DZ (P:Program) (f:FuncId):Bool:=
 match P.funcs[f]? with
 |some fn=>fn.body.isNone&&(decide (fn.name = "internal/abi.NoEscape")&&decide (fn.origin = ""))
 |none=>false
def Gr (P:Program) (ρ:Operand→AV) (o:Oper):Option AV:=
 match o.op with
 |.call c=>match c.callee,c.args.toList with
  |.value f,[x]=>match ρ f with
   |.fn (.func g) [] []=>cond (DZ P g) (some (ρ x)) none
   |_=>none
  |_,_=>none
 |_=>none
def yG:List AV→Option (List (Nat×Nat))
 |[]=>some []
 |.mp b off::r=>match yG r with
  |some l=>some ((b,off)::l)
  |none=>none
 |_::_=>none
def yH:AV→Bool
 |.kA .. | .p (.kA ..)=>true
 |_=>false
def Gs (E:Env) (c:bB) (o:Oper) (k:List It):Ev:=
 match o.op with
 |.panic x=>cond (yH (ev E c.st.tm x)) (.next {c with todo:=[.gW (ev E c.st.tm x)]}) .fail
 |.call d=>match d.callee,d.args.toList with
  |.builtin .panic,[x]=>cond (yH (ev E c.st.tm x)) (.next {c with todo:=[.gW (ev E c.st.tm x)]}) .fail
  |_,_=> .fail
 |.defer d=>match c.st.bK,c.st.bT,d.callee with
  |.round _,_,_=> .fail
  |_,[],.value f=>match ev E c.st.tm f with
   |.fn (.func g) first captured=>match yG (first++d.args.toList.map (ev E c.st.tm)),yG captured with
    |some l,some m=> .must (fits c.st o.dst) {c with todo:=k,st:=put {c.st with bT:=[.late g l m]} o.dst (.bk [])}
    |_,_=> .fail
   |_=> .fail
  |_,_,_=> .fail
 |_=> .fail
def Bl:AV→Bool
 |.p (.ps ..) | .os .. =>true
 |_=>false
def Le:BinOp→Bool
 |.eql | .neq=>true
 |_=>false
def Bm:Option TypeDesc→Bool
 |some (.slice _)=>true
 |_=>false
def CV (P:Program) (ρ:Operand→AV) (o:Oper):Bool:=
 match o.op with
 |.binOp op t x y _=>rQ y&&(Le op&&(Bl (ρ x)&&Bm (P.underlying t)))
 |_=>false
def Gt (P:Program) (E:Env) (c:bB) (_rid:Nat) (o:Oper) (k:List It):Ev:=
 match target (ev E c.st.tm) o with
 |some (g,args)=>
  match Gr P (ev E c.st.tm) o with
  |some v=> .must (fits c.st o.dst) {c with todo:=k,st:=put c.st o.dst v}
  |none=>
   let ord:=close c.st.mem 0 args
   cond (fits c.st o.dst&&iP ord c.st.mem.length) (.call g (eA (idx ord) args) (pack c.st.mem ord) ord o.dst {c with todo:=k}) .fail
 |none=>match uK (ev E c.st.tm) o with
  |some args=>
   let ord:=close c.st.mem 0 args
   cond (fits c.st o.dst&&iP ord c.st.mem.length) (.round (eA (idx ord) args) (pack c.st.mem ord) ord o.dst {c with todo:=k}) .fail
  |none=>
   let m:=reserve o c.st.mem
   match tG P (fun i=>m.getD i .dead) (E.wr c.f (o.dst.getD 0)) c.st.mem.length (ev E c.st.tm) o with
   |some (v,us,ok)=> .must (ok&&fits c.st o.dst) {c with todo:=k,st:=put {c.st with mem:=apply m us} o.dst v}
   |none=>match CV P (ev E c.st.tm) o with
    |true=>cond (fits c.st o.dst) (.fork [{c with todo:=k,st:=put c.st o.dst (sB true)},{c with todo:=k,st:=put c.st o.dst (sB false)}]) .fail
    |false=>Gs E c o k
def fm:Option Code→LoopState
 |none=> .ready
 |some _=> .done
def m5 (c:bB) (i:Nat) (jump:Option Code):Ev:=
 match c.st.mem.getD i .dead with
 |.ob (.loop f ps as bd _ _) vals=>
  let m:=c.st.mem.set i (.ob (.loop f ps as bd (fm jump) jump) vals)
  let ord:=close m c.st.fix []
  cond (bx i c.st.fix) (.next {c with todo:=[.fin],st:={c.st with tm:=[(0,sB jump.isNone)],nt:=0,mem:=pack m ord}}) .fail
 |_=> .fail
def vn (c:bB) (i:Nat) (k:List It):Ev:=
 match c.st.mem.getD i .dead with
 |.ob (.loop f ps as bd .ready pd) vals=> .next {c with todo:=k,st:={c.st with mem:=c.st.mem.set i (.ob (.loop f ps as bd .busy pd) vals)}}
 |_=> .fail
def D0 (E:Env) (c:bB) (x:Operand) (ps:Array Tmp) (as bd:Code) (k:List It):Ev:=
 match ev E c.st.tm x with
 |.fn (.func g) first captured=>
  let m:=dn c.st c.f ps as bd
  let args:=first++[.vy (c.st.mem.length+1)]++captured
  let ord:=close m 0 args
  cond (iP ord m.length) (.range g (eA (idx ord) args) (pack m ord) ord (c.st.mem.length+1) {c with todo:=k,st:={c.st with mem:=m,bT:= .range c.st.mem.length::c.st.bT}}) .fail
 |_=> .fail
def bQ (id:Nat):List It→Option (List It)
 |[]=>none
 |.inBlock id'::k=>cond (be id' id) (some k) (bQ id k)
 |_::k=>bQ id k
def eo (l:Nat):List It→Option (List It)
 |[]=>none
 |.inScope b::k=>match findLabel b l with
  |some rest=>some (.code 0 rest :: .inScope b::k)
  |none=>eo l k
 |_::k=>eo l k
def gk (o:Oper):Bool:=
 match o.op with
 |.move _ | .assign _ | .pick .. | .build .. | .load .. | .nilCheck _ | .binOp .. | .unOp .. | .convert .. | .makeInterface .. | .makeFunc .. | .slice .. | .fieldAddr .. | .field .. | .indexAddr .. | .index .. | .extract .. =>true
 |.call c=>match c.callee with
  |.builtin .len | .builtin .min | .builtin .max=>true
  |_=>false
 |_=>false
def pz (acc:List Nat) (o:Oper):Nat:=o.after.toList.foldl (fun s e=>cond (Region.binds .any e) (s|||(2 ^ e.on|||acc.getD e.on 0)) s) 0
def masks (acc:List Nat):List Oper→List Nat
 |[]=>acc
 |o::r=>masks (acc++[pz acc o]) r
def uL (x:Nat):Nat→Bool
 |0=>true
 |n+1=>db x n&&uL x n
def rR (ops:Array Oper):Bool:=
 (match ops[ops.size-1]? with
   |some o=>o.guard.isNone&&match o.op with
    |.call c=>match c.callee with
     |.value _=>true
     |_=>false
    |.panic _ | .defer _=>true
    |_=>false
   |none=>false)&&uL ((masks [] ops.toList).getD (ops.size-1) 0) (ops.size-1)
def gp (ops:Array Oper):Nat:=cond (rR ops) (ops.size-1) ops.size
def iG (bL:Nat) (ops:Array Oper) (k:List It):List It:=cond (rR ops) (.ops bL ops (ops.size-1) false::k) k
def slots (ops:Array Oper) (o:Oper):List Nat:=
 (match o.guard with
   |some (j,_)=>match ops[j]? with
    |some oj=>oj.dst.toList
    |none=>[]
   |none=>[])++o.op.operands.toList.filterMap fun
    |.tmp t=>some t
    |_=>none
def meet (a b:List Nat):Bool:=a.any fun i=>b.any fun j=>be i j
def pF (ops:Array Oper) (L:List Nat) (i:Nat) (o:Oper) (j:Nat) (p:Oper):Bool:=
 !meet o.dst.toList p.dst.toList&&(db (L.getD i 0) j||(!meet p.dst.toList (slots ops o) && !meet o.dst.toList (slots ops p)))
def uM (ops:Array Oper) (L:List Nat) (i:Nat) (o:Oper):Nat→List Oper→Bool
 |_,[]=>true
 |j,p::r=>pF ops L i o j p&&uM ops L i o (j+1) r
def jH (q:Oper→Bool) (ops:Array Oper) (L:List Nat):Nat→List Oper→List Oper→Bool
 |_,_,[]=>true
 |i,mS,o::r=>q o&&(o.after.toList.all fun e=> !Region.binds .any e||bx e.on i)&&uM ops L i o 0 mS&&jH q ops L (i+1) (mS++[o]) r
def kH (P:Program) (E:Env) (rd:Nat→aH) (wr:Bool) (aO:Nat) (ops:Array Oper):List Oper→St→Option (St×Bool)
 |[],st=>some (st,true)
 |o::r,st=>
  let skip:=match kH P E rd wr aO ops r (put st o.dst (.bk [])) with
   |some (st',ok)=>some (st',fits st o.dst&&ok)
   |none=>none
  let qp:=match tG P rd wr aO (ev E st.tm) o with
   |some (v,[],ok)=>match kH P E rd wr aO ops r (put st o.dst v) with
    |some (st',ok')=>some (st',ok&&(fits st o.dst&&ok'))
    |none=>none
   |_=>none
  match dP ops st.tm o with
  |.yes=>qp
  |.no=>skip
  |.ask _ b want=>match b==want with
   |true=>qp
   |false=>skip
  |.lost=>none
def Gu (E:Env) (f:Nat) (ops:Array Oper):Bool:=ops.toList.all fun o=>(E.told f (o.dst.getD 0)).isNone
def vo (P:Program) (E:Env) (f _rid:Nat) (ops:Array Oper) (st:St):Option (St×Bool):=
 let m:=st.mem++[.free]
 match cond (ops.toList.all gk&&Gu E f ops) (kH P E (fun i=>m.getD i .dead) false st.mem.length ops ops.toList {st with mem:=m}) none with
 |some (st',ok)=>some (st',ok&&(jH gk ops (masks [] ops.toList) 0 [] ops.toList&&(P.follows .mixedOrders || !Region.departs ops)))
 |none=>none
def D1 (P:Program) (E:Env) (f:FuncId) (ops:Array Oper) (i:Nat) (st:St):Option St:=
 match ops[i]? with
 |none=>none
 |some o=>match dP ops st.tm o with
  |.yes=>
   let m:=reserve o st.mem
   match tG P (fun i=>m.getD i .dead) (E.wr f (o.dst.getD 0)) st.mem.length (ev E st.tm) o with
   |some (v,us,ok)=>cond (ok&&fits st o.dst) (some (put {st with mem:=apply m us} o.dst v)) none
   |none=>none
  |_=>none
def Js (a b:rM):List Nat→Bool
 |[]=>true
 |k::r=>cX (look a k) (look b k)&&Js a b r
def LH (s t:St):Bool:=be s.nt t.nt&&(be s.fix t.fix&&(DW (s.mem.getLastD .dead) (t.mem.getLastD .dead)&&(tE s.mem t.mem&&Js s.tm t.tm (s.tm.map (·.1)++t.tm.map (·.1)))))
def uN:List Bool→List Bool→Bool
 |[],[]=>true
 |a::r,b::s=>zR a b&&uN r s
 |_,_=>false
abbrev Pt:=Array Bool×St
def N7 (p q:Pt):Bool:=uN p.1.toList q.1.toList&&LH p.2 q.2
def Bn (q:Pt):List Pt→Bool
 |[]=>false
 |p::r=>N7 q p||Bn q r
def Bo (q:Pt) (l:List Pt):List Pt:=cond (Bn q l) l (q::l)
def qq (P:Program) (E:Env) (f:FuncId) (ops:Array Oper) (q:Pt):List Nat→List Pt→Option (List Pt)
 |[],l=>some l
 |i::r,l=>match D1 P E f ops i q.2 with
  |some st=>qq P E f ops q r (Bo (q.1.setIfInBounds i true,st) l)
  |none=>none
def level (P:Program) (E:Env) (f:FuncId) (ops:Array Oper):List Pt→List Pt→Option (List Pt)
 |[],l=>some l
 |q::r,l=>match Region.ready .any ops q.1 with
  |[]=>level P E f ops r (Bo q l)
  |is=>match qq P E f ops q is l with
   |some l=>level P E f ops r l
   |none=>none
def levels (P:Program) (E:Env) (f:FuncId) (ops:Array Oper):Nat→List Pt→Option (List Pt)
 |0,l=>some l
 |n+1,l=>match level P E f ops l [] with
  |some l=>levels P E f ops n l
  |none=>none
def Gv (b:Bool) (o:Oper):Bool:=
 match o.op with
 |.store _ _ (.const (.bool c))=>c==b
 |_=>false
def Gw (ops:Array Oper):Bool:=
 match ops.toList with
 |[_,o,p,_]=>Gv true o&&Gv false p
 |_=>false
def Gx (P:Program) (ops:Array Oper):Bool:=
 bj ops.size 16&&ops.toList.any fun o=>match o.op with
  |.insert t _ _ _=>match P.underlying t with
   |some (.map kt _)=>tF P kt
   |_=>false
  |_=>false
def zZ (P:Program) (E:Env) (f:FuncId) (ops:Array Oper) (st:St):Option (List St):=
 cond ((Gw ops||Gx P ops)&&(P.follows .mixedOrders || !Region.departs ops)) ((levels P E f ops ops.size [(Array.replicate ops.size false,st)]).map fun l=>l.map (·.2)) none
def step (P:Program) (E:Env) (c:bB):Ev:=
 match c.todo with
 |[]=>match c.st.bK with
  |.round i=>m5 c i none
  |_=>ending P c
 |.fin::_=> .done (.ret (look c.st.tm 0) c.st.mem)
 |.xP u::_=> .done (.ot u c.st.mem)
 |.gW u::_=>vl P c u
 |.leave::_=>lX P c
 |.begin::k=>match c.st.bK with
  |.round i=>vn c i k
  |_=> .fail
 |.code _ .ret::_=>match c.st.bK with
  |.round i=>m5 c i (some .ret)
  |_=>ending P c
 |.code _ .skip::k=> .next {c with todo:=k}
 |.code _ (.region id ops false)::k=> .next {c with todo:= .ops id ops 0 false::k}
 |.code _ (.region id ops true)::k=>match vo P E c.f id ops c.st with
  |some (st,ok)=> .must ok {c with todo:=k,st:={st with bT:=c.st.bT,bK:=c.st.bK}}
  |none=>match zZ P E c.f ops c.st with
   |some l=> .fork (l.map fun st=>{c with todo:=k,st:={st with bT:=c.st.bT,bK:=c.st.bK}})
   |none=> .draw id ops {c with todo:=iG id ops k}
 |.code i (.seq a b)::k=> .next {c with todo:= .code i a :: .code (i+nodes a) b::k}
 |.code i (.cond x a b)::k=>match ev E c.st.tm x with
  |.p (.sc (.bool t))=> .test t {c with todo:= .code (i+1) a::eC (E.keep c.f (2*i)) k} {c with todo:= .code (i+1+nodes a) b::eC (E.keep c.f (2*i)) k}
  |_=> .fail
 |.code i (.block id b)::k=> .next {c with todo:= .code i b :: .inBlock id::k}
 |.code i (.loop b)::k=> .next {c with todo:= .code (i+1) b :: .inLoop i b::eC (E.keep c.f (2*i+1)) k,st:=iJ (E.keep c.f (2*i)) c.st}
 |.code _ (.exit id)::k=>match bQ id k with
  |some k=> .next {c with todo:=k}
  |none=>match c.st.bK with
   |.round i=>m5 c i (some (.exit id))
   |_=> .fail
 |.code i (.scope b)::k=> .next {c with todo:= .code i b :: .inScope b::k}
 |.inScope _::k=> .next {c with todo:=k}
 |.code _ (.label _)::k=> .next {c with todo:=k}
 |.code _ (.goto l)::k=>match eo l k with
  |some k=> .next {c with todo:=k}
  |none=> .fail
 |.code _ (.rangeFunc x ps as bd)::k=>match c.st.bK with
  |.call=>D0 E c x ps as bd k
  |_=> .fail
 |.code _ _::_=> .fail
 |.inBlock _::k=> .next {c with todo:=k}
 |.inLoop i b::k=> .next {c with todo:= .code (i+1) b :: .inLoop i b::k,st:=iJ (E.keep c.f (2*i)) c.st}
 |.forget keep::k=> .next {c with todo:=k,st:=forget keep c.st}
 |.ops bL ops i sure::k=>match ops[i]? with
  |none=> .next {c with todo:=k}
  |some o=>match dP ops c.st.tm o with
   |.yes=>Gt P E c bL o (.ops bL ops (i+1) false::k)
   |.no=>cond (fits c.st o.dst) (.next {c with todo:= .ops bL ops (i+1) false::k,st:=put c.st o.dst (.bk [])}) .fail
   |.ask d b want=>match sure with
    |false=> .test b {c with todo:= .ops bL ops i true::k,st:=put c.st (some d) (sB true)} {c with todo:= .ops bL ops i true::k,st:=put c.st (some d) (sB false)}
    |true=>match b==want with
     |true=>Gt P E c bL o (.ops bL ops (i+1) false::k)
     |false=>cond (fits c.st o.dst) (.next {c with todo:= .ops bL ops (i+1) false::k,st:=put c.st o.dst (.bk [])}) .fail
   |.lost=> .fail
structure cF where
 g:FuncId
 args:List AV
 m:Mem
 v:AV
 m':Mem
def same (b b':Bool):Bool:=match b' with
 |true=>b
 |false=> !b
structure gD where
 v:AV
 us:mW
 fp:List Nat
 ld:Nat→aH→Bool
def LI (P:Program) (ρ:Operand→AV) (o:Oper) (v:AV) (b:Nat) (x:aH):Bool:=
 match o.op with
 |.load t a=>match ρ a with
  |.mp c off=>be c b&&(match kS P (fun _=>x) t (.mp c off) with
   |some (v',ok)=>ok&&cX v' v
   |none=>false)
  |_=>false
 |_=>false
def fU:mW→Nat→Option aH
 |[],_=>none
 |(i,x)::r,b=>match fU r b with
  |some y=>some y
  |none=>cond (be i b) (some x) none
def Qx:mW→Bool
 |[]=>true
 |_=>false
def yI (o:Oper):Bool:=gk o||match o.op with
 |.alloc _ | .box .. | .buildSlice .. | .makeSlice .. | .store .. | .makeMap .. | .lookup .. | .mapUpdate .. | .insert .. =>true
 |.call c=>match c.callee with
  |.builtin .append | .builtin .copy | .builtin .unsafeSliceData | .builtin .unsafeString=>true
  |_=>false
 |_=>false
def E8 (ρ:Operand→AV) (o:Oper):List Nat:=
 match o.op with
 |.load _ a=>refs (ρ a)
 |.store _ a _=>refs (ρ a)
 |.convert _ _ x=>refs (ρ x)
 |.lookup _ x _ _=>refs (ρ x)
 |.mapUpdate _ x _ _=>refs (ρ x)
 |.insert _ x _ _=>refs (ρ x)
 |.call c=>match c.callee with
  |.builtin .append | .builtin .copy | .builtin .unsafeString=>iz (c.args.toList.map ρ)
  |_=>[]
 |_=>[]
def bC (n:Nat):Mem:=dq n .free
def ou (N nx:Nat) (ord:List Nat) (v:AV) (m1:Mem):gD:=
 let Jt:=ord++List.range' nx (m1.length-ord.length)
 ⟨jo (bf Jt N) v,Jt.zip (m1.map (gw (bf Jt N))),Jt,fun _ _=>false⟩
def ox (P:Program) (E:Env) (f _rid:Nat) (O:FuncId→List AV→Mem→Option (AV×Mem)) (nx:Nat) (o:Oper) (st:St):Option (gD×Nat×Bool):=
 match target (ev E st.tm) o with
 |some (g,args)=>
  let ord:=close st.mem 0 args
  match O g (eA (idx ord) args) (pack st.mem ord) with
  |some (v,m1)=>some (ou st.mem.length nx ord v m1,nx+(m1.length-ord.length),bj ord.length m1.length&&(iP ord nx&&bj (nx+(m1.length-ord.length)) st.mem.length))
  |none=>none
 |none=>match tG P (fun i=>st.mem.getD i .dead) (E.wr f (o.dst.getD 0)) nx (ev E st.tm) o with
  |some (v,us,ok)=>some (⟨v,us,us.map (·.1)++(E8 (ev E st.tm) o++cond (makes o) [nx] []),LI P (ev E st.tm) o v⟩,cond (makes o) (nx+1) nx,
    ok&&(yI o&&(iP (us.map (·.1)) (cond (makes o) (nx+1) nx)&&bj (cond (makes o) (nx+1) nx) st.mem.length)))
  |none=>none
def D2 (t:Option AV) (r:Option (gD×Nat×Bool)):Option (gD×Nat×Bool):=
 match t with
 |none=>r
 |some v=>match r with
  |some (d,nx,ok)=>some (⟨v,d.us,d.fp,d.ld⟩,nx,ok&&cX d.v v)
  |none=>none
def jd (P:Program) (E:Env) (f bL:Nat) (O:FuncId→List AV→Mem→Option (AV×Mem)) (nx:Nat) (o:Oper) (st:St):Option (gD×Nat×Bool):=
 D2 (E.told f (o.dst.getD 0)) (ox P E f bL O nx o st)
def iA (P:Program) (E:Env) (f bL:Nat) (O:FuncId→List AV→Mem→Option (AV×Mem)) (ops:Array Oper):List Oper→Nat→St→Option (St×Nat×List gD×Bool)
 |[],nx,st=>some (st,nx,[],true)
 |o::r,nx,st=>
  let skip:=match iA P E f bL O ops r nx (put st o.dst (.bk [])) with
   |some (st',oS,ds,ok)=>some (st',oS,⟨.bk [],[],[],fun _ _=>false⟩::ds,fits st o.dst&&ok)
   |none=>none
  let qp:=match jd P E f bL O nx o st with
   |some (d,jI,ok)=>match iA P E f bL O ops r jI (put {st with mem:=apply st.mem d.us} o.dst d.v) with
    |some (st',oS,ds,ok')=>some (st',oS,d::ds,ok&&(fits st o.dst&&ok'))
    |none=>none
   |none=>none
  match dP ops st.tm o with
  |.yes=>qp
  |.no=>skip
  |.ask _ b want=>match b==want with
   |true=>qp
   |false=>skip
  |.lost=>none
def Aa (d e:gD):Bool:=Qx e.us&&(d.us.map (·.1)).all fun b=> !has e.fp b||(match fU d.us b with
 |some x=>e.ld b x
 |none=>false)
def Ab (L:List Nat) (i:Nat) (d:gD) (j:Nat) (e:gD):Bool:=db (L.getD i 0) j||(!meet (e.us.map (·.1)) d.fp&&(!meet (d.us.map (·.1)) e.fp||Aa d e))
def qu (L:List Nat) (i:Nat) (d:gD):Nat→List gD→Bool
 |_,[]=>true
 |j,e::r=>Ab L i d j e&&qu L i d (j+1) r
def vp (L:List Nat):Nat→List gD→List gD→Bool
 |_,_,[]=>true
 |i,mS,d::r=>qu L i d 0 mS&&vp L (i+1) (mS++[d]) r
def uO:Mem→Bool
 |[]=>true
 |.free::r=>uO r
 |_::_=>false
def jJ (P:Program) (E:Env) (f bL:Nat) (O:FuncId→List AV→Mem→Option (AV×Mem)) (ops:Array Oper) (st:St):Option (St×Bool):=
 match iA P E f bL O ops (ops.toList.take (gp ops)) st.mem.length {st with mem:=st.mem++bC (60+ops.size)} with
 |some (st',nx,ds,ok)=>some ({st' with mem:=st'.mem.take nx},ok&&(jH (fun _=>true) ops (masks [] ops.toList) 0 [] ops.toList&&(vp (masks [] ops.toList) 0 [] ds &&
   (uO (st'.mem.drop nx)&&(bj st.mem.length nx&&(P.follows .mixedOrders || !Region.departs ops))))))
 |none=>none
def init (P:Program) (g:FuncId) (args:List AV) (m:Mem):Option bB:=
 match P.funcs[g]? with
 |some fn=>match fn.body with
  |some c=>some {f:=g,todo:=[.code 0 c],st:={tm:=(upTo args.length).zip args,nt:=max fn.ntmps args.length,mem:=m,fix:=m.length}}
  |none=>none
 |none=>none
def CW (tm:rM):List Nat→List AV→rM
 |d::ds,v::vs=>CW ((d,v)::tm) ds vs
 |_,_=>tm
def Bp (args:List AV) (m:Mem):Option bB:=
 match args with
 |.vy i::xs=>match m.getD i .dead with
  |.ob (.loop f ps as bd _ _) vals=>cond (be xs.length ps.toList.length&&iP ps.toList vals.length)
   (some {f:=f,todo:=[.code 0 as,.begin,.code 0 bd],st:={tm:=CW ((upTo vals.length).zip vals) ps.toList xs,nt:=vals.length,mem:=m,fix:=m.length,bK:= .round i}}) none
  |_=>none
 |_=>none
def lZ:List cF→FuncId→List AV→Mem→Option (AV×Mem)
 |[],_,_,_=>none
 |q::r,g,args,m=>cond (be q.g g&&(kG args q.args&&tE m q.m)) (some (q.v,q.m')) (lZ r g args m)
def Bq:Out→Out→Bool
 |.ret v m,.ret u n=>cX v u&&tE m n
 |.ot v m,.ot u n=>cX v u&&tE m n
 |_,_=>false
def agree:List (Option Out)→Option Out
 |[]=>none
 |[o]=>o
 |o::r=>match o,agree r with
  |some o,some p=>cond (Bq o p) (some p) none
  |_,_=>none
def isRec (o:Oper):Bool:=
 match o.op,o.guard with
 |.call c,none=>match c.callee,c.args.toList with
  |.builtin .recover,[]=>true
  |_,_=>false
 |_,_=>false
def vq:Nat→List It→Option (List It)
 |0,_=>none
 |n+1,todo=>match todo with
  |.ops bL ops i sure::k=>some (.ops bL ops i sure::k)
  |.code i (.seq a b)::k=>vq n (.code i a :: .code (i+nodes a) b::k)
  |.code _ (.region id ops false)::k=>vq n (.ops id ops 0 false::k)
  |.code i (.scope b)::k=>vq n (.code i b :: .inScope b::k)
  |.code i (.block id b)::k=>vq n (.code i b :: .inBlock id::k)
  |_=>none
def Lf (pv:Option AV) (c:bB):Option bB:=
 match c.todo with
 |.ops bL ops i _::k=>match ops[i]? with
  |some o=>cond (isRec o&&fits c.st o.dst) (some {c with todo:= .ops bL ops (i+1) false::k,st:=put c.st o.dst (pv.getD (.p (.sc .nilIface)))}) none
  |none=>none
 |_=>none
def Br (P:Program) (g:FuncId) (args:List AV) (m:Mem) (pv:Option AV):Option bB:=
 match init P g args m with
 |some c=>match vq 20 c.todo with
  |some t=>Lf pv {c with todo:=t,st:={c.st with bK:= .late}}
  |none=>none
 |none=>none
def m6 (ord:List Nat) (c:bB) (u:AV) (m1:Mem):bB:=
 {c with todo:=[.gW (jo (bf ord c.st.mem.length) u)],st:=back ord none c.st (.bk []) m1}
def exec (P:Program) (E:Env) (K:List cF):Nat→bB→Option Out
 |0,_=>none
 |n+1,c=>match step P E c with
  |.next c=>exec P E K n c
  |.must b c=>cond b (exec P E K n c) none
  |.test b y z=>match b with
   |true=>exec P E K n y
   |false=>exec P E K n z
  |.call g args m ord dst c=>match lZ K g args m with
   |some (v,m1)=>exec P E K n {c with st:=back ord dst c.st v m1}
   |none=>match init P g args m with
    |some ci=>match exec P E K n ci with
     |some (.ret v m1)=>exec P E K n {c with st:=back ord dst c.st v m1}
     |some (.ot u m1)=>exec P E K n (m6 ord c u m1)
     |none=>none
    |none=>none
  |.late g args m ord pv c=>match Br P g args m pv with
   |some ci=>match exec P E K n ci with
    |some (.ret _ m1)=>exec P E K n {c with st:=back ord none c.st (.bk []) m1}
    |_=>none
   |none=>none
  |.round args m ord dst c=>match Bp args m with
   |some ci=>match exec P E K n ci with
    |some (.ret v m1)=>exec P E K n {c with st:=back ord dst c.st v m1}
    |_=>none
   |none=>none
  |.range g args m ord L c=>match init P g args m with
   |some ci=>match exec P E K n ci with
    |some (.ret v m1)=>match fT (back ord none c.st v m1).mem L with
     |some (m2,pd)=>exec P E K n (behind c m2 pd)
     |none=>none
    |_=>none
   |none=>none
  |.draw bL ops c=>match jJ P E c.f bL (fun g args m=>match lZ K g args m with
     |some r=>some r
     |none=>match init P g args m with
      |some ci=>match exec P E K n ci with
       |some (.ret v m1)=>some (v,m1)
       |_=>none
      |none=>none) ops c.st with
   |some (st,ok)=>cond ok (exec P E K n {c with st:={st with bT:=c.st.bT,bK:=c.st.bK}}) none
   |none=>none
  |.fork l=>agree (l.map (exec P E K n))
  |.done o=>some o
  |.fail=>none
def D3 (P:Program) (E:Env) (K:List cF) (n:Nat) (g:FuncId) (args:List AV) (m:Mem):Option Out:=
 match init P g args m with
 |some c=>exec P E K n c
 |none=>none
inductive Uz where
 |test (b:Bool)
 |call (v:AV) (m:Mem)
 |go
 |stop
inductive Fin where
 |out (o:Out)
 |at(c:bB)
open Go.RowKit
structure Gh where
 aP:Nat→Option Nat
 lo:Nat→Nat
 hi:Nat→Nat
 pure:Nat→Nat→Prop
def aW {α β:Type} (r:α→β→Prop):List α→List β→Prop
 |[],[]=>True
 |a::l,b::m=>r a b∧aW r l m
 |_,_=>False
section all2
variable {α β γ:Type} {r:α→β→Prop}
theorem aW.len : ∀{l:List α} {m:List β},aW r l m→l.length=m.length
 |[],[],_=>rfl
 |_::_,_::_,h=>congrArg (· + 1) (aW.len h.2)
 |[],_::_,h=>h.elim
 |_::_,[],h=>h.elim
theorem aW.mono {s:α→β→Prop} (N8 : ∀a b,r a b→s a b) : ∀{l:List α} {m:List β},aW r l m→aW s l m
 |[],[],_=>trivial
 |_::_,_::_,h=>⟨N8 _ _ h.1,aW.mono N8 h.2⟩
 |[],_::_,h=>h.elim
 |_::_,[],h=>h.elim
theorem aW.mem {s:α→β→Prop} : ∀{l:List α} {m:List β},(∀a b,a∈l→r a b→s a b)→aW r l m→aW s l m
 |[],[],_,_=>trivial
 |_::_,_::_,N8,h=>⟨N8 _ _ (.head _) h.1,aW.mem (fun a b ha=>N8 a b (.tail _ ha)) h.2⟩
 |[],_::_,_,h=>h.elim
 |_::_,[],_,h=>h.elim
theorem aW.get : ∀{l:List α} {m:List β},aW r l m → ∀i (h:i<l.length) (h':i<m.length),r l[i] m[i]
 |_::_,_::_,h,0,_,_=>h.1
 |_::_,_::_,h,i+1,hi,hj=>aW.get h.2 i (cf hi) (cf hj)
 |[],[],_,_,h,_=>absurd h (Nat.not_lt_zero _)
 |[],_::_,h,_,_,_=>h.elim
 |_::_,[],h,_,_,_=>h.elim
theorem aW.cS : ∀{l:List α} {m:List β},l.length=m.length→(∀i (h:i<l.length) (h':i<m.length),r l[i] m[i])→aW r l m
 |[],[],_,_=>trivial
 |_::_,_::_,hl,h=>⟨h 0 (cp _) (cp _),aW.cS (Nat.succ.inj hl) fun i hi hj=>h (i+1) (da hi) (da hj)⟩
 |[],_::_,hl,_=>dd hl
 |_::_,[],hl,_=>dd hl
theorem aW.append : ∀{l l':List α} {m m':List β},aW r l m→aW r l' m'→aW r (l++l') (m++m')
 |[],_,[],_,_,h=>h
 |_::_,_,_::_,_,h,h'=>⟨h.1,aW.append h.2 h'⟩
 |[],_,_::_,_,h,_=>h.elim
 |_::_,_,[],_,h,_=>h.elim
theorem aW.drop : ∀{l:List α} {m:List β} (n:Nat),aW r l m→aW r (l.drop n) (m.drop n)
 |_,_,0,h=>h
 |[],[],_+1,_=>trivial
 |_::_,_::_,n+1,h=>aW.drop n h.2
 |[],_::_,_+1,h=>h.elim
 |_::_,[],_+1,h=>h.elim
theorem aW.take : ∀{l:List α} {m:List β} (n:Nat),aW r l m→aW r (l.take n) (m.take n)
 |[],[],0,_=>trivial
 |_::_,_::_,0,_=>trivial
 |[],[],_+1,_=>trivial
 |_::_,_::_,n+1,h=>⟨h.1,aW.take n h.2⟩
 |[],_::_,_,h=>h.elim
 |_::_,[],_,h=>h.elim
theorem aW.set : ∀{l:List α} {m:List β} (n:Nat) {a:α} {b:β},aW r l m→r a b→aW r (l.set n a) (m.set n b)
 |[],[],_,_,_,_,_=>trivial
 |_::_,_::_,0,_,_,h,hab=>⟨hab,h.2⟩
 |_::_,_::_,n+1,_,_,h,hab=>⟨h.1,aW.set n h.2 hab⟩
 |[],_::_,_,_,_,h,_=>h.elim
 |_::_,[],_,_,_,h,_=>h.elim
theorem aW.N9 {s:γ→β→Prop} (f:α→γ) (h : ∀a b,r a b→s (f a) b) : ∀{l:List α} {m:List β},aW r l m→aW s (l.map f) m
 |[],[],_=>trivial
 |_::_,_::_,k=>⟨h _ _ k.1,aW.N9 f h k.2⟩
 |[],_::_,k=>k.elim
 |_::_,[],k=>k.elim
theorem aW.get? {l:List α} {m:List β} (h:aW r l m) {i:Nat} {a:α} (ha:l[i]? = some a) : ∃b,m[i]? = some b∧r a b:=by
 obtain⟨hi,rfl⟩:=List.getElem?_eq_some_iff.1 ha
 have hm:=h.len
 exact⟨m[i],dp (by omega),h.get i hi (by omega)⟩
theorem aW.getD {l:List α} {m:List β} (h:aW r l m) {i:Nat} (hi:i<l.length) (d:α) (e:β):r (l.getD i d) (m.getD i e):=by
 have hm:=h.len
 rw[dt,dt,dp hi,dp (by omega:i<m.length)]
 exact h.get i hi (by omega)
end all2
inductive VP (g:Gh) (w:World):PV→Value→Prop
 |sc (v:Value):VP g w (.sc v) v
 |pp (off:Nat) (cells:List PV) (b o:Nat) (f:Nat→Value) (hp : ∀k,k<cells.length→g.pure b (o+k)∧w.cell? ⟨b,o+k,none⟩=some (f k)∧(f k).oneCell'=true)
   (hv : ∀k (h:k<cells.length),VP g w cells[k] (f k)):VP g w (.pp off cells) (.pointer (some ⟨b,o+off,none⟩))
 |ps (len sz:Nat) (cells:List PV) (b o cap:Nat) (f:Nat→Value) (hl:cells.length=len*sz) (hc:len≤cap) (hz:1≤sz)
   (hp : ∀k,k<cells.length→g.pure b (o+k)∧w.cell? ⟨b,o+k,none⟩=some (f k)∧(f k).oneCell'=true)
   (hv : ∀k (h:k<cells.length),VP g w cells[k] (f k)):VP g w (.ps len sz cells) (.slice (some ⟨b,o,none⟩) len cap)
 |mT (sz:Nat) (a:Option Addr) (cap:Nat) (hz:1≤sz∨(a=none∧cap=0)):VP g w (.ps 0 sz []) (.slice a 0 cap)
 |kA (t:TypeId) (v:PV) (cv:Value) (h:VP g w v cv):VP g w (.kA t v) (.iface t cv)
inductive VA (g:Gh) (w:World):AV→Value→Prop
 |af (v:Value):VA g w .af v
 |p (v:PV) (cv:Value) (h:VP g w v cv):VA g w (.p v) cv
 |os (tok:Option Nat) (len sz:Nat) (cells:List PV) (a:Option Addr) (cap:Nat) (h:VP g w (.ps len sz cells) (.slice a len cap))
   (hr:cap=len ∨ ∃t b o,tok=some t∧a=some ⟨b,o,none⟩∧g.aP t=some b∧g.lo t=o+len*sz∧g.hi t=o+cap*sz∧len≤cap):VA g w (.os tok len sz cells) (.slice a len cap)
 |mp (b off c:Nat) (h:g.aP b=some c):VA g w (.mp b off) (.pointer (some ⟨c,off,none⟩))
 |ms (b off len sz cap c:Nat) (h:g.aP b=some c) (hc:len≤cap):VA g w (.ms b off len sz (some cap)) (.slice (some ⟨c,off,none⟩) len cap)
 |mg (b off len sz cap c:Nat) (h:g.aP b=some c) (hc:len≤cap) (hh:off+cap*sz≤g.hi b):VA g w (.ms b off len sz none) (.slice (some ⟨c,off,none⟩) len cap)
 |fn (f:Fn) (l k:List AV) (fa ca:Array Value) (hl:l.length=fa.toList.length) (hk:k.length=ca.toList.length)
   (h : ∀i (h:i<l.length) (h':i<fa.toList.length),VA g w l[i] fa.toList[i]) (h2 : ∀i (h:i<k.length) (h':i<ca.toList.length),VA g w k[i] ca.toList[i]):VA g w (.fn f l k) (.func f fa ca)
 |agg (l:List AV) (cs:Array Value) (hl:l.length=cs.toList.length) (h : ∀i (h:i<l.length) (h':i<cs.toList.length),VA g w l[i] cs.toList[i]):VA g w (.agg l) (.agg cs)
 |bk (l:List AV) (cs:Array Value) (hl:l.length=cs.toList.length) (h : ∀i (h:i<l.length) (h':i<cs.toList.length),VA g w l[i] cs.toList[i]):VA g w (.bk l) (.tuple cs)
 |kA (t:TypeId) (v:AV) (cv:Value) (h:VA g w v cv):VA g w (.kA t v) (.iface t cv)
 |vm (b c:Nat) (h:g.aP b=some c):VA g w (.vm b) (.map (some c))
 |vy (b c:Nat) (h:g.aP b=some c):VA g w (.vy b) (.func (.yield c) #[] #[])
abbrev bN (g:Gh) (w:World):List AV→List Value→Prop:=aW (VA g w)
abbrev rI (g:Gh) (w:World):List PV→List Value→Prop:=aW (VP g w)
theorem VA.vr {g:Gh} {w:World} {l:List AV} {cs:Array Value}:VA g w (.agg l) (.agg cs)↔bN g w l cs.toList:=
 ⟨fun h=>by cases h with | agg _ _ hl h=>exact aW.cS hl h,fun h=> .agg l cs h.len fun i a b=>h.get i a b⟩
theorem VA.je {g:Gh} {w:World} {l:List AV} {cs:Array Value}:VA g w (.bk l) (.tuple cs)↔bN g w l cs.toList:=
 ⟨fun h=>by cases h with | bk _ _ hl h=>exact aW.cS hl h,fun h=> .bk l cs h.len fun i a b=>h.get i a b⟩
theorem VA.pv {g:Gh} {w:World} {v:PV} {cv:Value}:VA g w (.p v) cv↔VP g w v cv:=
 ⟨fun h=>by cases h with | p _ _ h=>exact h,.p v cv⟩
theorem VA.fns {g:Gh} {w:World} {f:Fn} {l k:List AV} {cv:Value}:VA g w (.fn f l k) cv ↔ ∃fa ca:Array Value,cv = .func f fa ca∧bN g w l fa.toList∧bN g w k ca.toList:=
 ⟨fun h=>by cases h with | fn _ _ _ fa ca hl hk h h2=>exact⟨fa,ca,rfl,aW.cS hl h,aW.cS hk h2⟩,
  fun⟨fa,ca,e,h,h2⟩=>e ▸ .fn f l k fa ca h.len h2.len (fun i a b=>h.get i a b) fun i a b=>h2.get i a b⟩
theorem VP.eJ {g:Gh} {w:World} {cv:Value} (h:VP g w .eJ cv):False:=by cases h
structure Ext (g:Gh) (w:World) (g':Gh) (w':World):Prop where
 aP : ∀i c,g.aP i=some c→g'.aP i=some c∧g'.lo i=g.lo i∧g'.hi i=g.hi i
 pure : ∀c o,g.pure c o→g'.pure c o∧w'.cell? ⟨c,o,none⟩=w.cell? ⟨c,o,none⟩
theorem Ext.refl (g:Gh) (w:World):Ext g w g w:=⟨fun _ _ h=>⟨h,rfl,rfl⟩,fun _ _ h=>⟨h,rfl⟩⟩
theorem Ext.trans {g g' g'':Gh} {w w' w'':World} (h:Ext g w g' w') (k:Ext g' w' g'' w''):Ext g w g'' w'':=
 ⟨fun i c e=>⟨(k.aP i c (h.aP i c e).1).1,(k.aP i c (h.aP i c e).1).2.1.trans (h.aP i c e).2.1,(k.aP i c (h.aP i c e).1).2.2.trans (h.aP i c e).2.2⟩,
  fun c o e=>⟨(k.pure c o (h.pure c o e).1).1,(k.pure c o (h.pure c o e).1).2.trans (h.pure c o e).2⟩⟩
theorem VP.mono {g g':Gh} {w w':World} (e : ∀c o,g.pure c o→g'.pure c o∧w'.cell? ⟨c,o,none⟩=w.cell? ⟨c,o,none⟩) {v:PV} {cv:Value} (h:VP g w v cv):VP g' w' v cv:=by
 induction h with
 |sc v=>exact .sc v
 |pp off cells b o f hp hv ih=>exact .pp off cells b o f (fun k hk=>⟨(e _ _ (hp k hk).1).1,(e _ _ (hp k hk).1).2.trans (hp k hk).2.1,(hp k hk).2.2⟩) ih
 |ps len sz cells b o cap f hl hc hz hp hv ih=>exact .ps len sz cells b o cap f hl hc hz (fun k hk=>⟨(e _ _ (hp k hk).1).1,(e _ _ (hp k hk).1).2.trans (hp k hk).2.1,(hp k hk).2.2⟩) ih
 |mT sz a cap hz=>exact .mT sz a cap hz
 |kA t v cv h ih=>exact .kA t v cv ih
theorem VA.mono {g g':Gh} {w w':World} (e:Ext g w g' w') {v:AV} {cv:Value} (h:VA g w v cv):VA g' w' v cv:=by
 induction h with
 |af v=>exact .af v
 |p v cv h=>exact .p v cv (h.mono e.pure)
 |os tok len sz cells a cap h hr=>
  refine .os tok len sz cells a cap (h.mono e.pure) (hr.imp id ?_)
  rintro ⟨t,b,o,rfl,rfl,hb,hlo,hhi,hc⟩
  exact⟨t,b,o,rfl,rfl,(e.aP t b hb).1,(e.aP t b hb).2.1.trans hlo,(e.aP t b hb).2.2.trans hhi,hc⟩
 |mp b off c h=>exact .mp b off c (e.aP b c h).1
 |ms b off len sz cap c h hc=>exact .ms b off len sz cap c (e.aP b c h).1 hc
 |mg b off len sz cap c h hc hh=>exact .mg b off len sz cap c (e.aP b c h).1 hc (by rw[(e.aP b c h).2.2];exact hh)
 |fn f l k fa ca hl hk h h2 ih ih2=>exact .fn f l k fa ca hl hk ih ih2
 |agg l cs hl h ih=>exact .agg l cs hl ih
 |bk l cs hl h ih=>exact .bk l cs hl ih
 |kA t v cv h ih=>exact .kA t v cv ih
 |vm b c h=>exact .vm b c (e.aP b c h).1
 |vy b c h=>exact .vy b c (e.aP b c h).1
theorem bN.mono {g g':Gh} {w w':World} (e:Ext g w g' w') {l:List AV} {cs:List Value} (h:bN g w l cs):bN g' w' l cs:=aW.mono (fun _ _=>VA.mono e) h
def Bs (g:Gh) (w:World) (l:List AV) (cs:List Value):Prop:=bN g w l cs ∧ ∀v∈cs,v.oneCell'=true
theorem Bs.mono {g g':Gh} {w w':World} (e:Ext g w g' w') {l:List AV} {cs:List Value} (h:Bs g w l cs):Bs g' w' l cs:=⟨h.1.mono e,h.2⟩
def aH.cells?:aH→Option (List AV)
 |.pc l=>some (l.map .p)
 |.ac l=>some l
 |_=>none
def aH.bX:aH→Bool
 |.pc _ | .ac _ | .tok | .ob .. =>true
 |_=>false
def cA (g:Gh) (m:Mem) (c:Nat):Prop:= ∃i b,m[i]? = some b∧b.bX=true∧g.aP i=some c
def entriesOf:List Value→List Value→List Nat→List MapEntry
 |k::ks,v::vs,b::bs=>{key:=k,val:=v,born:=b}::entriesOf ks vs bs
 |_,_,_=>[]
def fR.is:fR→Obj→List Value→Prop
 |.map keys La clock,ob,vs=>ob = .map (entriesOf keys vs La).toArray clock
 |.E5,ob,vs=>ob = .deferred (some [])∧vs=[]
 |.shut,ob,vs=>ob = .deferred none∧vs=[]
 |.Lb,_,vs=>vs=[]
 |.gr t _,ob,vs=> ∃cs e n,ob = .cells cs e n∧e=t∧n.2≤n.1∧vs=cs.toList.take vs.length∧vs.length≤cs.size ∧ ∀v∈cs.toList,v.oneCell'=true
 |.stk t pre,ob,vs=> ∃cs e n,ob = .cells cs e n∧e=t∧n.2≤n.1∧pre++vs=cs.toList.take (pre.length+vs.length)∧pre.length+vs.length≤cs.size ∧ ∀v∈cs.toList,v.oneCell'=true
 |.gb t,ob,vs=> ∃cs e n,ob = .cells cs e n∧e=t∧n.2≤n.1∧vs=cs.toList.take vs.length∧vs.length≤cs.size∧(∀v∈cs.toList,∃k,v = .int .u8 k)∧cs.size≤9223372036854775807
 |.iter s pos,ob,vs=>ob = .stringIter s pos∧vs=[]
 |.Sl s pos more,ob,vs=>ob = .stringIter s pos∧vs=[]∧bx pos s.size=more
 |.smap ns,ob,vs=>vs=[] ∧ ∃bs clock,ob = .map (entriesOf (ns.map .string) (ns.map fun _=> .bool true) bs).toArray clock∧bs.length=ns.length
 |.zN keys,ob,vs=> ∃es clock bs,ob = .map es clock∧keys.length=vs.length∧bs.length=vs.length∧es.toList.Perm (entriesOf keys vs bs)
 |.loop f ps a b st pd,ob,vs=> ∃D,ob = .loop {state:=st,pending:=pd,fn:=f,tmps:=vs.toArray,params:=ps,assign:=a,body:=b,defers:=D}
def fR.room:fR→Obj→Nat→Prop
 |.gr _ _,.cells cs _ _,h=>cs.size=h
 |.stk _ _,.cells cs _ _,h=>cs.size=h
 |.gb _,.cells cs _ _,h=>cs.size=h
 |_,_,_=>True
structure Rel (g:Gh) (m:Mem) (w:World):Prop where
 rJ : ∀i,m.length≤i→g.aP i=none
 free : ∀i,m[i]? = some .free→g.aP i=none
 cells : ∀i b l,m[i]? = some b→b.cells?=some l → ∃c cs e n,g.aP i=some c∧w.heap[c]? = some (.cells cs e n)∧n.2≤n.1∧Bs g w l cs.toList ∧ ∀o,¬g.pure c o
 tok : ∀i c,m[i]? = some .tok→g.aP i=some c → ∃cs e n,w.heap[c]? = some (.cells cs e n)∧g.hi i≤cs.size∧(n.2≤n.1∨g.hi i≤n.1) ∧ ∀o,g.lo i≤o→o<g.hi i → ¬g.pure c o
 inj : ∀i j b b' c,m[i]? = some b→m[j]? = some b'→b.bX=true→b'.bX=true→g.aP i=some c→g.aP j=some c→i=j
 there : ∀c o,g.pure c o → ∃v,w.cell? ⟨c,o,none⟩=some v
 obs : ∀i k l,m[i]? = some (.ob k l) → ∃c ob vs,g.aP i=some c∧w.heap[c]? = some ob∧bN g w l vs∧k.is ob vs∧(∀o,¬g.pure c o)∧k.room ob (g.hi i)
theorem Rel.fV {g:Gh} {m:Mem} {w:World} (h:Rel g m w) {c:Nat} (ho:cA g m c):c<w.heap.size:=by
 obtain⟨i,b,hi,hb,hc⟩:=ho
 have lt : ∀{o:Obj},w.heap[c]? = some o→c<w.heap.size:=fun e=>by
  rcases Nat.lt_or_ge c w.heap.size with h | h
  · exact h
  · simp[Array.getElem?_eq_none h] at e
 cases b with
 |free=>simp[aH.bX] at hb
 |dead=>simp[aH.bX] at hb
 |pc l=>obtain⟨c',cs,e,n,h1,h2,_⟩:=h.cells i _ _ hi rfl;rw[hc] at h1;cases h1;exact lt h2
 |ac l=>obtain⟨c',cs,e,n,h1,h2,_⟩:=h.cells i _ _ hi rfl;rw[hc] at h1;cases h1;exact lt h2
 |tok=>obtain⟨cs,e,n,h2,_⟩:=h.tok i c hi hc;exact lt h2
 |ob k l=>obtain⟨c',ob,vs,h1,h2,_⟩:=h.obs i _ _ hi;rw[hc] at h1;cases h1;exact lt h2
theorem Rel.l5 {g:Gh} {m:Mem} {w:World} (h:Rel g m w) {c o:Nat} (hp:g.pure c o):c<w.heap.size:=by
 obtain⟨v,hv⟩:=h.there c o hp
 exact World.block_lt_of_cell? (h:=hv)
structure cr (g:Gh) (m:Mem) (w:World) (g':Gh) (m':Mem) (w':World):Prop where
 size:w.heap.size≤w'.heap.size
 keep : ∀c,c<w.heap.size → ¬cA g m c→w'.heap[c]? = w.heap[c]?
 pure : ∀c o,g.pure c o→g'.pure c o∧w'.cell? ⟨c,o,none⟩=w.cell? ⟨c,o,none⟩
 fresh : ∀c o,g'.pure c o→g.pure c o∨cA g m c∨w.heap.size≤c
 owned : ∀c,cA g' m' c→cA g m c∨w.heap.size≤c
 os:w'.os=w.os
 tape:w'.tape=w.tape
 output:w'.output=w.output
theorem cr.refl (g:Gh) (m:Mem) (w:World):cr g m w g m w:=⟨df _,fun _ _ _=>rfl,fun _ _ h=>⟨h,rfl⟩,fun _ _ h=> .inl h,fun _ h=> .inl h,rfl,rfl,rfl⟩
theorem cr.trans {g g' g'':Gh} {m m' m'':Mem} {w w' w'':World} (h:cr g m w g' m' w') (k:cr g' m' w' g'' m'' w''):cr g m w g'' m'' w'' where
 size:=ch h.size k.size
 keep c hc hn:=(k.keep c (Nat.lt_of_lt_of_le hc h.size) fun ho=>(h.owned c ho).elim hn fun hh=>absurd hc (Nat.not_lt.2 hh)).trans (h.keep c hc hn)
 pure c o hp:=⟨(k.pure c o (h.pure c o hp).1).1,(k.pure c o (h.pure c o hp).1).2.trans (h.pure c o hp).2⟩
 fresh c o hp:=by
  rcases k.fresh c o hp with h1 | h1 | h1
  · exact h.fresh c o h1
  · exact .inr (h.owned c h1)
  · exact .inr (.inr (ch h.size h1))
 owned c ho:=by
  rcases k.owned c ho with h1 | h1
  · exact h.owned c h1
  · exact .inr (ch h.size h1)
 os:=k.os.trans h.os
 tape:=k.tape.trans h.tape
 output:=k.output.trans h.output
theorem cr.less {g:Gh} {m m':Mem} {w:World} (h : ∀c,cA g m' c→cA g m c):cr g m w g m' w:=
 ⟨df _,fun _ _ _=>rfl,fun _ _ h=>⟨h,rfl⟩,fun _ _ h=> .inl h,fun c ho=> .inl (h c ho),rfl,rfl,rfl⟩
end Go.Am
end
section
namespace Go.Am
theorem pG : ∀{a b:List UInt8},kF a b=true→a=b
 |[],[],_=>rfl
 |x::r,y::s,h=>by
  simp only[kF,dv] at h
  rw[pG h.2,UInt8.toNat_inj.1 (bm h.1)]
 |[],_::_,h=>by cases h
 |_::_,[],h=>by cases h
theorem Gy {a b:Value} (h:N5 a b=true):a=b:=by
 unfold N5 at h
 split at h
 · simp only[dv,Gj,beq_iff_eq,decide_eq_true_eq] at h
   rw[h.1,h.2]
 · rename_i a b
   cases a<;>cases b<;>first
    |rfl
    |cases h
 · rename_i a b
   have:=pG h
   cases a with
   |mk a=>cases b with
    |mk b=>
     congr 1
     congr 1
     exact Array.toList_inj.1 this
 all_goals first
  |rfl
  |cases h
mutual
theorem Ac : ∀{a b:PV},Bk a b=true→a=b
 |.eJ,b,h=>by cases b<;>first | rfl | cases h
 |.sc v,b,h=>by
  cases b<;>first
   |cases h
   |exact congrArg _ (Gy h)
 |.pp o l,b,h=>by
  cases b with
  |pp q m=>
   simp only[Bk,dv] at h
   rw[bm h.1,m7 h.2]
  |_=>cases h
 |.ps n z l,b,h=>by
  cases b with
  |ps k y m=>
   simp only[Bk,dv] at h
   rw[bm h.1,bm h.2.1,m7 h.2.2]
  |_=>cases h
 |.kA t v,b,h=>by
  cases b with
  |kA s u=>
   simp only[Bk,dv] at h
   rw[bm h.1,Ac h.2]
  |_=>cases h
theorem m7 : ∀{a b:List PV},ve a b=true→a=b
 |[],b,h=>by cases b<;>first | rfl | cases h
 |x::r,b,h=>by
  cases b with
  |nil=>cases h
  |cons y s=>
   simp only[ve,dv] at h
   rw[Ac h.1,m7 h.2]
end
theorem Gz {a b:Option Nat} (h:N6 a b=true):a=b:=by
 cases a<;>cases b<;>first
  |rfl
  |cases h
  |exact congrArg _ (bm h)
mutual
theorem l6 : ∀{a b:AV},cX a b=true→a=b
 |.af,b,h=>by cases b<;>first | rfl | cases h
 |.p v,b,h=>by
  cases b<;>first
   |cases h
   |exact congrArg _ (Ac h)
 |.os t n z l,b,h=>by
  cases b with
  |os s k y m=>
   simp only[cX,dv] at h
   rw[Gz h.1,bm h.2.1,bm h.2.2.1,m7 h.2.2.2]
  |_=>cases h
 |.mp x o,b,h=>by
  cases b with
  |mp c q=>
   simp only[cX,dv] at h
   rw[bm h.1,bm h.2]
  |_=>cases h
 |.ms x o n z k,b,h=>by
  cases b with
  |ms c q m y j=>
   simp only[cX,dv] at h
   rw[bm h.1,bm h.2.1,bm h.2.2.1,bm h.2.2.2.1,Gz h.2.2.2.2]
  |_=>cases h
 |.fn f l m,b,h=>by
  cases b with
  |fn g k n=>
   cases f<;>cases g<;>first
    |cases h
    |(simp only[cX,dv] at h
      rw[bm h.1,fo h.2.1,fo h.2.2])
  |_=>cases f<;>cases h
 |.agg l,b,h=>by
  cases b<;>first
   |cases h
   |exact congrArg _ (fo h)
 |.bk l,b,h=>by
  cases b<;>first
   |cases h
   |exact congrArg _ (fo h)
 |.kA t v,b,h=>by
  cases b with
  |kA s u=>
   simp only[cX,dv] at h
   rw[bm h.1,l6 h.2]
  |_=>cases h
 |.vm x,b,h=>by
  cases b<;>first
   |cases h
   |exact congrArg _ (bm h)
 |.vy x,b,h=>by
  cases b<;>first
   |cases h
   |exact congrArg _ (bm h)
theorem fo : ∀{a b:List AV},kG a b=true→a=b
 |[],b,h=>by cases b<;>first | rfl | cases h
 |x::r,b,h=>by
  cases b with
  |nil=>cases h
  |cons y s=>
   simp only[kG,dv] at h
   rw[l6 h.1,fo h.2]
end
theorem Ad : ∀{a b:List Value},Gk a b=true→a=b
 |[],b,h=>by cases b<;>first | rfl | cases h
 |x::r,b,h=>by
  cases b with
  |nil=>cases h
  |cons y s=>
   simp only[Gk,dv] at h
   rw[Gy h.1,Ad h.2]
theorem GA {a b:Value} (h:Gl a b=true):a=b:=by
 unfold Gl at h
 split at h
 · rw[Array.toList_inj.1 (Ad h)]
 · cases h
theorem yJ : ∀{a b:List Value},zS a b=true→a=b
 |[],b,h=>by cases b<;>first | rfl | cases h
 |x::r,b,h=>by
  cases b with
  |nil=>cases h
  |cons y s=>
   simp only[zS,dv] at h
   rw[GA h.1,yJ h.2]
theorem yK : ∀{a b:List Nat},zT a b=true→a=b
 |[],b,h=>by cases b<;>first | rfl | cases h
 |x::r,b,h=>by
  cases b with
  |nil=>cases h
  |cons y s=>
   simp only[zT,dv] at h
   rw[bm h.1,yK h.2]
theorem E9 {a b:Bool} (h:zR a b=true):a=b:=by cases a<;>cases b<;>first | rfl | cases h
theorem GB {a b:aH} (h:DW a b=true):a=b:=by
 unfold DW at h
 split at h<;>first
  |rfl
  |cases h
  |exact congrArg _ (m7 h)
  |exact congrArg _ (fo h)
  |(simp only[dv] at h;rw[yJ h.1,fo h.2];done)
  |(simp only[dv] at h;rw[bm h.1,fo h.2];done)
  |(simp only[dv] at h;rw[bm h.1,E9 h.2.1,fo h.2.2];done)
  |(simp only[dv] at h;rw[Ad h.1,yK h.2.1,bm h.2.2.1,fo h.2.2.2];done)
theorem m8 : ∀{a b:Mem},tE a b=true→a=b
 |[],b,h=>by cases b<;>first | rfl | cases h
 |x::r,b,h=>by
  cases b with
  |nil=>cases h
  |cons y s=>
   simp only[tE,dv] at h
   rw[GB h.1,m8 h.2]
theorem vu : ∀{a b:List Bool},uN a b=true→a=b
 |[],b,h=>by cases b<;>first | rfl | cases h
 |x::r,b,h=>by
  cases b with
  |nil=>cases h
  |cons y s=>
   simp only[uN,dv] at h
   rw[vu h.2]
   have:=h.1
   cases x<;>cases y<;>first | rfl | cases this
end Go.Am
end
