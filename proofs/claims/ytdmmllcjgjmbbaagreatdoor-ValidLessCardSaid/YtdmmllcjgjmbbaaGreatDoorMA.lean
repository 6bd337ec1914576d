import Derived.Orders
import Derived.WalkKit
import Derived.ChangeKeysEq
import Derived.DeepKeys3
open Nat renaming beq→ae,ble→ag,eq_of_beq_eq_true→ai,blt→ar,lt_of_succ_lt_succ→aw,le_trans→ba,zero_lt_succ→bc,succ_lt_succ→be,testBit→bj,noConfusion→bm,le_refl→bx
open List renaming getElem?_eq_getElem→cb,replicate→cf,getD_eq_getElem?_getD→ch
open BitVec renaming ofInt→cp
open Bool renaming and_eq_true→c8
section
namespace Go.Am
inductive PV where
 |bw
 |sc (v:Value)
 |pp (off:Nat) (cells:List PV)
 |ps (len sz:Nat) (cells:List PV)
 |nu (t:TypeId) (v:PV)
 deriving Inhabited
inductive AV where
 |ah
 |p (v:PV)
 |os (tok:Option Nat) (len sz:Nat) (cells:List PV)
 |mp (b off:Nat)
 |ms (b off len sz:Nat) (cap:Option Nat)
 |fn (f:Fn) (first captured:List AV)
 |agg (cells:List AV)
 |au (vs:List AV)
 |nu (t:TypeId) (v:AV)
 |vm (b:Nat)
 |vy (b:Nat)
 deriving Inhabited
inductive aD where
 |map (keys:List Value) (Tr:List Nat) (clock:Nat)
 |Jc
 |shut
 |loop (f:FuncId) (ps:Array Tmp) (assign body:Code) (state:LoopState) (pending:Option Code)
 |iter (s:ByteArray) (pos:Nat)
 |gr (t:TypeId) (q:Bool)
 |Bz (keys:List Value)
 |Yh
 |P6 (s:ByteArray) (pos:Nat) (more:Bool)
 |stk (t:TypeId) (pre:List Value)
 |gb (t:TypeId)
 |smap (ns:List ByteArray)
 deriving Inhabited
inductive aU where
 |free
 |dead
 |pc (cells:List PV)
 |ac (cells:List AV)
 |tok
 |ob (k:aD) (vals:List AV)
 deriving Inhabited
abbrev Mem:=List aU
abbrev vQ:=List (Nat×AV)
abbrev nv:=List (Nat×aU)
abbrev sI (k:IntKind) (n:Int):AV:= .p (.sc (.int k n))
abbrev sB (b:Bool):AV:= .p (.sc (.bool b))
def look:vQ→Nat→AV
 |[],_=> .ah
 |(k,v)::r,i=>cond (ae k i) v (look r i)
def iD:Value→AV
 |.slice none 0 0=> .os none 0 0 []
 |v=> .p (.sc v)
def KT:Value→AV
 |.agg cs=> .agg (cs.toList.map iD)
 |.tuple vs=> .au (vs.toList.map iD)
 |v=>iD v
def KU:AV→Option Value
 |.p (.sc v)=>some v
 |_=>none
def vR:List AV→Option (List Value)
 |[]=>some []
 |a::r=>match KU a,vR r with
  |some v,some vs=>some (v::vs)
  |_,_=>none
def Fg:AV→Option Value
 |.p (.sc v)=>some v
 |.agg l=>(vR l).map fun vs=> .agg vs.toArray
 |.au l=>(vR l).map fun vs=> .tuple vs.toArray
 |_=>none
def l8:AV→Bool
 |.p .bw=>false
 |.p (.sc v)=>v.oneCell'
 |.p _ | .os .. | .mp .. | .ms .. | .fn .. | .nu .. | .vm _ | .vy _=>true
 |_=>false
def jP:List AV→Bool
 |[]=>true
 |a::r=>l8 a&&jP r
def cellsOf:AV→List AV×Bool
 |.agg l=>(l,jP l)
 |v=>([v],l8 v)
def C5:AV→Option PV
 |.p v=>some v
 |.os _ len sz cells=>some (.ps len sz cells)
 |_=>none
def kH:List AV→Option (List PV)
 |[]=>some []
 |a::r=>match C5 a,kH r with
  |some v,some vs=>some (v::vs)
  |_,_=>none
def qE:List AV→Bool
 |[]=>true
 |.p _::r=>qE r
 |_::_=>false
def zg:AV→PV
 |.p v=>v
 |_=> .bw
def Jd (l:List AV):Option (List PV):=cond (qE l) (some (l.map zg)) none
def C6 (l:List AV):aU:=
 match Jd l with
 |some vs=> .pc vs
 |none=> .ac l
def cW {α:Type} (l:List α) (off:Nat):List α→List α
 |[]=>l
 |v::r=>cW (l.set off v) (off+1) r
def nh {α:Type} (d:α) (l:List α) (off:Nat):Nat→List α
 |0=>[]
 |n+1=>l.getD off d::nh d l (off+1) n
def gY {α:Type} (P:Program):Sem α→Option α
 |.pure a=>some a
 |.program k=>gY P (k P)
 |.mark _ k=>gY P k
 |_=>none
def ud (ρ:Operand→AV):List Operand→Bool
 |[]=>true
 |x::r=>(Fg (ρ x)).isSome&&ud ρ r
def scalar (P:Program) (ρ:Operand→AV) (o:Oper):Option AV:=
 cond (ud ρ o.op.operands.toList)
  (match gY P (execOp (fun x=>(Fg (ρ x)).getD undef) o) with
    |some (.value v)=>some (KT v)
    |_=>none)
  none
def fN (P:Program) (t:TypeId):Option Nat:=(P.info? t).map (·.size)
def P7 (P:Program) (t:TypeId):Option Bool:=
 match P.underlying t with
 |some (.struct _) | some (.array _ _)=>some true
 |some _=>some false
 |none=>none
def isInt (k:IntKind):PV→Bool
 |.sc (.int j _)=>j==k
 |_=>false
def av:PV→Int
 |.sc (.int _ n)=>n
 |_=>0
def isBool:PV→Bool
 |.sc (.bool _)=>true
 |_=>false
def bD:PV→Bool
 |.sc (.bool b)=>b
 |_=>false
def isStr:PV→Bool
 |.sc (.string _)=>true
 |_=>false
def br:PV→ByteArray
 |.sc (.string s)=>s
 |_=> .empty
def bB:PV→Bool
 |.ps .. =>true
 |_=>false
def aE:PV→Nat
 |.ps len _ _=>len
 |_=>0
def bC:PV→Nat
 |.ps _ sz _=>sz
 |_=>0
def aB:PV→List PV
 |.ps _ _ cs=>cs
 |_=>[]
def isOk:PV→Bool
 |.bw=>false
 |_=>true
def iA (d:Option TypeDesc) (c:PV):PV×Bool:=
 match d with
 |some (.int k)=>(.sc (.int k (av c)),isInt k c)
 |some .bool=>(.sc (.bool (bD c)),isBool c)
 |some .string=>(.sc (.string (br c)),isStr c)
 |some (.slice _)=>(.ps (aE c) (bC c) (aB c),bB c)
 |_=>(c,isOk c)
def bh (d:Option TypeDesc):AV→AV×Bool
 |.p c=>(.p (iA d c).1,(iA d c).2)
 |v=>(v,true)
def vq (P:Program):Nat→TypeId→List (Option TypeDesc)
 |0,_=>[]
 |n+1,t=>match P.underlying t with
  |some (.struct fs)=>fs.toList.flatMap fun f=>vq P n f.type
  |some (.array k e)=>(cf k (vq P n e)).flatten
  |d=>[d]
def qF:List (Option TypeDesc)→List AV→List AV×Bool
 |d::ds,a::r=>((bh d a).1::(qF ds r).1,(bh d a).2&&(qF ds r).2)
 |[],[]=>([],true)
 |_,_=>([],false)
def l9 (rd:Nat→aU) (a:AV) (n:Nat):Option (List AV×Bool):=
 match a with
 |.p (.pp off cs)=>some ((nh .bw cs off n).map .p,true)
 |.mp b off=>match rd b with
  |.pc l=>some ((nh .bw l off n).map .p,true)
  |.ac l=>some (nh .ah l off n,ag (off+n) l.length)
  |.ob (.gr _ _) l=>some (nh .ah l off n,ag (off+n) l.length)
  |.ob (.stk _ pre) l=>some (nh .ah l (off-pre.length) n,ag pre.length off&&ag (off-pre.length+n) l.length)
  |_=>none
 |_=>none
def kY (P:Program) (rd:Nat→aU) (t:TypeId) (a:AV):Option (AV×Bool):=
 match P7 P t,fN P t with
 |some true,some n=>(l9 rd a n).map fun r=>(.agg (qF (vq P 20 t) r.1).1,r.2&&(qF (vq P 20 t) r.1).2)
 |some false,some _=>match l9 rd a 1 with
  |some ([v],ok)=>some ((bh (P.underlying t) v).1,ok&&(bh (P.underlying t) v).2)
  |_=>none
 |_,_=>none
def C7:AV→AV
 |.os _ len sz cs=> .p (.ps len sz cs)
 |v=>v
def KV (q:Bool) (vs:List AV):List AV:=cond q (vs.map C7) vs
def qG (b:aU) (off:Nat) (vs:List AV):Option (aU×Bool):=
 match b with
 |.pc l=>match Jd vs with
  |some aI=>some (.pc (cW l off aI),ag (off+vs.length) l.length)
  |none=>some (.ac (cW (l.map .p) off vs),ag (off+vs.length) l.length)
 |.ac l=>some (.ac (cW l off vs),ag (off+vs.length) l.length)
 |.ob (.gr t q) l=>some (.ob (.gr t q) (cW l off (KV q vs)),ag (off+vs.length) l.length)
 |.ob (.stk t pre) l=>some (.ob (.stk t pre) (cW l (off-pre.length) vs),ag pre.length off&&ag (off-pre.length+vs.length) l.length)
 |_=>none
abbrev kF:=Option (AV×nv×Bool)
def qH (P:Program) (rd:Nat→aU) (t:TypeId) (a v:AV):kF:=
 match a,fN P t with
 |.mp b off,some n=>match qG (rd b) off (cellsOf v).1 with
  |some (b',ok)=>some (.au [],[(b,b')],ok&&(cellsOf v).2&&ae (cellsOf v).1.length n)
  |none=>none
 |_,_=>none
def checked (l:List AV):Option (List AV):=cond (jP l) (some l) none
def zeroCells (P:Program) (t:TypeId):Option (List AV):=
 match(P.info? t).bind (·.zero) with
 |some (.agg cs)=>checked (cs.toList.map iD)
 |some v=>checked [iD v]
 |none=>none
def BA (P:Program) (aZ:Nat) (t:TypeId):kF:=
 (zeroCells P t).map fun l=>(.mp aZ 0,[(aZ,C6 l)],true)
def vS (P:Program) (aZ:Nat) (t:TypeId):kF:=
 (zeroCells P t).map fun l=>(.mp aZ 0,[(aZ,.ob (.gr t false) l)],true)
def KW (aZ:Nat) (v:AV):kF:=some (.mp aZ 0,[(aZ,C6 (cellsOf v).1)],(cellsOf v).2)
def ue (place:Nat→Option (Nat×Nat)) (cells:List AV):List (Nat×AV)→Option (List AV×Bool)
 |[]=>some (cells,true)
 |(i,v)::r=>match place i with
  |some (off,size)=>match ue place (cW cells off (cellsOf v).1) r with
   |some (cs,ok)=>some (cs,(cellsOf v).2&&ae (cellsOf v).1.length size&&ag (off+size) cells.length&&ok)
   |none=>none
  |none=>none
def placesOf (P:Program):List Field→Option (List (Nat×Nat))
 |[]=>some []
 |f::r=>match fN P f.type,placesOf P r with
  |some n,some l=>some ((f.offset,n)::l)
  |_,_=>none
def vr (P:Program) (t:TypeId) (parts:List (Nat×AV)):Option (AV×Bool):=
 match zeroCells P t,P.underlying t with
 |some z,some (.struct fields)=>match placesOf P fields.toList with
  |some pl=>(ue (fun i=>pl[i]?) z parts).map fun r=>(.agg r.1,r.2)
  |none=>none
 |some z,some (.array _ elem)=>match fN P elem with
  |some size=>(ue (fun i=>some (i*size,size)) z parts).map fun r=>(.agg r.1,r.2)
  |none=>none
 |_,_=>none
def cr {α:Type} (z:List α):Nat→List α
 |0=>[]
 |n+1=>z++cr z n
def zeros (P:Program) (elem:TypeId) (n:Nat):Option (List AV):=
 match fN P elem,zeroCells P elem with
 |some size,some z=>cond (ae z.length size&&ag 1 size) (match z with
  |[v]=>some (cf n v)
  |z=>some (cr z n)) none
 |_,_=>none
def KX (P:Program) (elem:TypeId) (n:Nat):Option aU:=
 match fN P elem,zeroCells P elem with
 |some size,some z=>cond (ae z.length size&&ag 1 size) (match Jd z with
  |some [v]=>some (.pc (cf n v))
  |some z=>some (.pc (cr z n))
  |none=>some (.ac (cr z n))) none
 |_,_=>none
def Fh (P:Program) (elem:TypeId) (wr:Bool) (cells:List AV):Option (List PV):=
 match wr,P.underlying elem with
 |true,some (.int .u8)=>none
 |_,_=>kH cells
def mh (P:Program) (wr:Bool) (aZ:Nat) (t:TypeId) (len:Nat) (parts:List (Nat×AV)):kF:=
 match P.underlying t with
 |some (.slice elem)=>match fN P elem,zeros P elem len with
  |some size,some z=>match ue (fun i=>some (i*size,size)) z parts with
   |some (cells,ok)=>match wr,Fh P elem wr cells with
    |false,some aI=>some (.os none len size aI,[],ok&&ag (len*size) 16777216)
    |true,some aI=>some (.ms aZ 0 len size none,[(aZ,.ob (.gr elem true) (aI.map .p))],ok&&ag (len*size) 16777216)
    |_,none=>some (.ms aZ 0 len size (some len),[(aZ,C6 cells)],ok&&ag (len*size) 16777216)
   |none=>none
  |_,_=>none
 |_=>none
def gi:Nat:=70368744177664
def nA (P:Program) (aZ:Nat) (t:TypeId) (len cap:AV):kF:=
 match P.underlying t,len,cap with
 |some (.slice elem),.p (.sc (.int _ l)),.p (.sc (.int _ c))=>match P.info? elem,KX P elem c.toNat with
  |some info,some bP=>some (.ms aZ 0 l.toNat info.size (some c.toNat),[(aZ,bP)],
    decide (0≤l)&&decide (l≤c)&&ag c.toNat gi&&ag (info.bytes*c.toNat) gi)
  |_,_=>none
 |_,_,_=>none
def pY (P:Program) (t:TypeId) (len cap:AV):kF:=
 match P.underlying t,len,cap with
 |some (.slice elem),.p (.sc (.int _ l)),.p (.sc (.int _ c))=>match P.info? elem,zeroCells P elem with
  |some info,some [z]=>match C5 z with
   |some pv=>some (.os none l.toNat 1 (cf l.toNat pv),[],
     decide (0≤l)&&(decide (l=c)&&(ae info.size 1&&(ag c.toNat gi&&ag (info.bytes*c.toNat) gi))))
   |none=>none
  |_,_=>none
 |_,_,_=>none
def mj:AV→Nat→Option AV
 |.p (.pp off cs),n=>some (.p (.pp (off+n) cs))
 |.mp b off,n=>some (.mp b (off+n))
 |_,_=>none
def kI (P:Program) (t:TypeId) (x:AV) (f:Nat):Option AV:=
 match P.underlying t with
 |some (.struct fields)=>match fields[f]? with
  |some fd=>match fN P fd.type with
   |some n=>cond (ag 1 n) (mj x fd.offset) none
   |none=>none
  |none=>none
 |_=>none
def partOf (P:Program) (t:TypeId) (cs:List AV) (off:Nat):Option (AV×Bool):=
 match P7 P t,fN P t with
 |some true,some n=>some (.agg (nh .ah cs off n),ag (off+n) cs.length)
 |some false,some _=>some (cs.getD off .ah,ar off cs.length)
 |_,_=>none
def vu (P:Program) (t:TypeId) (x:AV) (f:Nat):Option (AV×Bool):=
 match P.underlying t,x with
 |some (.struct fields),.agg cs=>match fields[f]? with
  |some fd=>partOf P fd.type cs fd.offset
  |none=>none
 |_,_=>none
def aW (i:Int) (len:Nat):Bool:=decide (0≤i)&&decide (i<len)
def kJ (P:Program) (t:TypeId) (x i:AV):Option (AV×Bool):=
 match i,P.underlying t with
 |.p (.sc (.int _ n)),some (.array len elem)=>match fN P elem with
  |some size=>(mj x (n.toNat*size)).map fun v=>(v,aW n len)
  |none=>none
 |.p (.sc (.int _ n)),some (.slice elem)=>match fN P elem,x with
  |some size,.p (.ps len sz cs)=>some (.p (.pp (n.toNat*size) cs),aW n len&&ae sz size)
  |some size,.os _ len sz cs=>some (.p (.pp (n.toNat*size) cs),aW n len&&ae sz size)
  |some size,.ms b off len sz _=>some (.mp b (off+n.toNat*size),aW n len&&ae sz size)
  |_,_=>none
 |_,_=>none
def vv (P:Program) (t:TypeId) (x i:AV):Option (AV×Bool):=
 match x,i with
 |.agg cs,.p (.sc (.int _ n))=>match P.underlying t with
  |some (.array len elem)=>match fN P elem,partOf P elem cs (n.toNat*(fN P elem).getD 0) with
   |some _,some (v,ok)=>some (v,aW n len&&ok)
   |_,_=>none
  |_=>none
 |.p (.sc (.string s)),.p (.sc (.int _ n))=>match P.underlying t with
  |some .string=>some (sI .u8 (s.data.toList.getD n.toNat 0).toNat,aW n s.data.toList.length)
  |_=>none
 |_,_=>none
def bound (ρ:Operand→AV) (x:Option Operand) (dflt:Nat):Option (Nat×Bool):=
 match x with
 |none=>some (dflt,true)
 |some x=>match ρ x with
  |.p (.sc (.int _ n))=>some (n.toNat,decide (0≤n))
  |_=>none
def cut {α:Type} (cs:List α) (lo hi:Option Nat):List α:=
 match lo,hi with
 |none,none=>cs
 |some l,none=>cs.drop l
 |none,some h=>cs.take h
 |some l,some h=>(cs.take h).drop l
def times (x:Option Operand) (n sz:Nat):Option Nat:=x.map fun _=>n*sz
def oI (P:Program) (ρ:Operand→AV) (t:TypeId) (x:AV) (low high mx:Option Operand):Option (AV×Bool):=
 match P.underlying t with
 |some (.array n elem)=>match fN P elem,bound ρ low 0,bound ρ high n,mx,x with
  |some size,some (l,a),some (h,b),none,.mp i off=>some (.ms i (cond (ae n l) off (off+l*size)) (h-l) size (some (n-l)),a&&b&&ag l h&&ag h n)
  |_,_,_,_,_=>none
 |some (.slice elem)=>match fN P elem,bound ρ low 0,x with
  |some size,some (l,a),.p (.ps len sz cs)=>match bound ρ high len,mx with
   |some (h,b),none=>some (.p (.ps (h-l) size (cut cs (times low l size) (times high h size))),a&&b&&ag l h&&ag h len&&ae sz size)
   |some (h,b),some m=>match bound ρ (some m) 0 with
    |some (m,c)=>some (.os none (h-l) size (cut cs (times low l size) (times high h size)),a&&b&&c&&ag l h&&ag h len&&ae m h&&(high.isSome&&ae sz size))
    |none=>none
   |_,_=>none
  |some size,some (l,a),.os tok len sz cs=>match bound ρ high len,mx with
   |some (h,b),none=>match high with
    |none=>some (.os tok (h-l) size (cut cs (times low l size) none),a&&b&&ag l h&&(ae sz size||(ae len 0&&(ag 1 size&&tok.isNone))))
    |some _=>match tok,ae h len with
     |none,true=>some (.os none (h-l) size (cut cs (times low l size) (some (h*size))),a&&b&&ag l h&&ag h len&&(ae sz size||(ae len 0&&ag 1 size)))
     |_,_=>some (.p (.ps (h-l) size (cut cs (times low l size) (some (h*size)))),a&&b&&ag l h&&ag h len&&(ae sz size||(ae len 0&&ag 1 size)))
   |some (h,b),some m=>match bound ρ (some m) 0 with
    |some (m,c)=>some (.os none (h-l) size (cut cs (times low l size) (times high h size)),a&&b&&c&&ag l h&&ag h len&&ae m h&&(high.isSome&&(ae sz size||(ae len 0&&ag 1 size))))
    |none=>none
   |_,_=>none
  |some size,some (l,a),.ms i off len sz none=>match bound ρ high len,mx with
   |some (h,b),none=>some (.ms i (off+l*size) (h-l) size none,a&&b&&ag l h&&ag h len&&ae sz size&&(ae l 0||ar l len))
   |some (h,b),some m=>match bound ρ (some m) 0 with
    |some (m,c)=>some (.ms i (cond (ae m l) off (off+l*size)) (h-l) size (some (m-l)),a&&b&&c&&ag l h&&ag h m&&ag m len&&(high.isSome&&ae sz size))
    |none=>none
   |_,_=>none
  |some size,some (l,a),.ms i off len sz (some cap)=>match bound ρ high len,mx with
   |some (h,b),none=>some (.ms i (cond (ae cap l) off (off+l*size)) (h-l) size (some (cap-l)),a&&b&&ag l h&&ag h cap&&ae sz size)
   |_,_=>none
  |_,_,_=>none
 |some .string=>match bound ρ low 0,x,mx with
  |some (l,a),.p (.sc (.string s)),none=>match bound ρ high s.data.toList.length with
   |some (h,b)=>some (.p (.sc (.string (s.extract l h))),a&&b&&ag l h&&ag h s.data.toList.length)
   |none=>none
  |_,_,_=>none
 |_=>none
def byteOf:PV→UInt8
 |.sc (.int .u8 n)=>UInt8.ofNat n.toNat
 |_=>0
def isByte:PV→Bool
 |.sc (.int .u8 _)=>true
 |_=>false
def mm (b:UInt8):PV:= .sc (.int .u8 b.toNat)
def contents (rd:Nat→aU) (sz:Nat):AV→Option (Nat×List PV×Bool)
 |.p (.ps len s cs)=>some (len,cs,ae s sz||(ae len 0&&ag 1 sz))
 |.os _ len s cs=>some (len,cs,ae s sz||(ae len 0&&ag 1 sz))
 |.ms b off len s (some _)=>match rd b with
  |.pc l=>some (len,(l.drop off).take (len*sz),ae s sz&&ag (off+len*sz) l.length)
  |.ac l=>(kH ((l.drop off).take (len*sz))).map fun aI=>(len,aI,ae s sz&&ag (off+len*sz) l.length)
  |.ob (.gr _ true) l=>some (len,((l.drop off).take (len*sz)).map zg,qE ((l.drop off).take (len*sz))&&(ae s sz&&ag (off+len*sz) l.length))
  |.ob (.gr _ false) l=>(kH ((l.drop off).take (len*sz))).map fun aI=>(len,aI,ae s sz&&ag (off+len*sz) l.length)
  |_=>none
 |.ms b off len s none=>match rd b with
  |.ob (.gr _ true) l=>some (len,((l.drop off).take (len*sz)).map zg,qE ((l.drop off).take (len*sz))&&(ae s sz&&ag (off+len*sz) l.length))
  |.ob (.gr _ false) l=>(kH ((l.drop off).take (len*sz))).map fun aI=>(len,aI,ae s sz&&ag (off+len*sz) l.length)
  |.ob (.gb _) l=>some (len,((l.drop off).take (len*sz)).map zg,qE ((l.drop off).take (len*sz))&&(ae s sz&&ag (off+len*sz) l.length))
  |_=>none
 |.p (.sc (.string s))=>some (s.data.toList.length,s.data.toList.map mm,ae sz 1)
 |_=>none
def convertOp (P:Program) (rd:Nat→aU) (aZ:Nat) (ρ:Operand→AV) (o:Oper) (src dst:TypeId) (x:AV):kF:=
 match P.underlying dst,x with
 |some (.int k),.p (.sc (.int _ n))=>match P.underlying src with
  |some _=>some (sI k (k.wrap n),[],true)
  |none=>none
 |some .string,.p (.sc (.string s))=>match P.underlying src with
  |some .string=>some (.p (.sc (.string s)),[],true)
  |_=>none
 |some (.slice e),.p (.sc (.string s))=>match P.underlying src,P.underlying e with
  |some .string,some (.int .u8)=>some (.os (some aZ) s.data.toList.length 1 (s.data.toList.map mm),[(aZ,.tok)],true)
  |_,_=>none
 |some (.slice e),.ms b off len sz (some _)=>match P.underlying src,P.underlying e,rd b with
  |some (.slice _),some (.int .u8),.pc l=>some (.p (.ps len 1 ((l.drop off).take len)),[(b,.dead)],ae src dst&&(ae sz 1&&ag (off+len) l.length))
  |_,_,_=>none
 |some .unsafePointer,.mp b off=>match P.underlying src,rd b with
  |some (.pointer t),.ob (.gr _ _) l=>match P.info? t with
   |some j=>some (.mp b off,[],ag 1 j.size&&ar off l.length)
   |none=>none
  |_,_=>none
 |some (.pointer u),.mp b 0=>match P.underlying src,rd b with
  |some .unsafePointer,.ob (.gr t _) l=>match P.info? u with
   |some _=>some (.mp b 0,[],ae t u&&(ag 1 (P.cellsOf u)&&ag (P.cellsOf u) l.length))
   |none=>none
  |_,_=>none
 |some .string,x=>match P.underlying src with
  |some (.slice e)=>match P.underlying e with
   |some (.int .u8)=>match contents rd 1 x with
    |some (_,aI,ok)=>some (.p (.sc (.string ⟨(aI.map byteOf).toArray⟩)),[],ok&&aI.all isByte)
    |none=>none
   |_=>none
  |_=>none
 |_,_=>(scalar P ρ o).map fun v=>(v,[],true)
def kK:AV→Bool
 |.p (.sc (.pointer none)) | .p (.sc .nilFunc) | .p (.sc .nilIface)=>true
 |_=>false
def kL:AV→Bool
 |.p (.pp ..) | .mp .. | .fn .. | .p (.nu ..) | .nu .. =>true
 |_=>false
def Fi (op:BinOp) (k:IntKind) (x:Int) (yk:IntKind) (y:Int):Option (Value×Bool):=
 match op with
 |.add=>some (.int k (k.wrap (x+y)),k==yk)
 |.sub=>some (.int k (k.wrap (x-y)),k==yk)
 |.mul=>some (.int k (k.wrap (x*y)),k==yk)
 |.quo=>some (.int k (k.wrap (x.tdiv y)),k==yk && !(y==0))
 |.rem=>some (.int k (x.tmod y),k==yk && !(y==0))
 |.and=>some (.int k (k.wrap (cp k.bits x&&&cp k.bits y).toNat),k==yk)
 |.or=>some (.int k (k.wrap (cp k.bits x|||cp k.bits y).toNat),k==yk)
 |.xor=>some (.int k (k.wrap (cp k.bits x ^^^ cp k.bits y).toNat),k==yk)
 |.andNot=>some (.int k (k.wrap (cp k.bits x &&& ~~~cp k.bits y).toNat),k==yk)
 |.shl=>some (.int k (k.wrap (x*2 ^ min y.toNat k.bits)),decide (0≤y))
 |.shr=>some (.int k (x.fdiv (2 ^ min y.toNat k.bits)),decide (0≤y))
 |.eql=>some (.bool (x==y),k==yk)
 |.neq=>some (.bool (x != y),k==yk)
 |.lss=>some (.bool (x<y),k==yk)
 |.leq=>some (.bool (x≤y),k==yk)
 |.gtr=>some (.bool (x>y),k==yk)
 |.geq=>some (.bool (x≥y),k==yk)
def Fj (op:BinOp) (x y:ByteArray):Option (Value×Bool):=
 match op with
 |.add=>some (.string (x++y),ag (x.data.toList.length+y.data.toList.length) gi)
 |.eql=>some (.bool (x.data.toList==y.data.toList),true)
 |.neq=>some (.bool (!(x.data.toList==y.data.toList)),true)
 |.lss=>some (.bool (Op.bytesLess x.data.toList y.data.toList),true)
 |_=>none
def gZ (P:Program):Nat→List Field→List AV→List AV→Option Bool
 |_,[],[],[]=>some true
 |i,f::fs,x::xs,y::ys=>match P.underlying f.type,x,y with
  |some (.int _),.p (.sc (.int k a)),.p (.sc (.int k' b))=>cond (k==k'&&ae f.offset i&&f.name != "_" && P.plainKey f.type) ((gZ P (i+1) fs xs ys).map fun r=>(a==b)&&r) none
  |some .bool,.p (.sc (.bool a)),.p (.sc (.bool b))=>cond (ae f.offset i&&f.name != "_" && P.plainKey f.type) ((gZ P (i+1) fs xs ys).map fun r=>(a==b)&&r) none
  |some .string,.p (.sc (.string a)),.p (.sc (.string b))=>cond (ae f.offset i&&f.name != "_" && P.plainKey f.type) ((gZ P (i+1) fs xs ys).map fun r=>(a.data.toList==b.data.toList)&&r) none
  |_,_,_=>none
 |_,_,_,_=>none
def C8 (P:Program) (t:TypeId) (x y:AV):Option Bool:=match x,y with
 |.agg xs,.agg ys=>match P.underlying t with
  |some (.struct fs)=>cond (!P.stoodInHeld t && !P.eqGuardType P.depth t) (gZ P 0 fs.toList xs ys) none
  |_=>none
 |_,_=>none
def G7 (P:Program) (o:Oper) (x y:AV):Option Bool:=match o.op with
 |.binOp _ t _ _ _=>C8 P t x y
 |_=>none
def qI (P:Program) (ρ:Operand→AV) (o:Oper) (op:BinOp) (x y:AV):Option (AV×Bool):=
 match x,y with
 |.p (.sc (.int k a)),.p (.sc (.int k' b))=>(Fi op k a k' b).map fun r=>(.p (.sc r.1),r.2)
 |.p (.sc (.string a)),.p (.sc (.string b))=>(Fj op a b).map fun r=>(.p (.sc r.1),r.2)
 |x,y=>match op with
  |.eql=>match G7 P o x y with
   |some b=>some (sB b,true)
   |none=>cond ((kK x&&kL y)||(kL x&&kK y)) none ((scalar P ρ o).map fun v=>(v,true))
  |.neq=>match G7 P o x y with
   |some b=>some (sB !b,true)
   |none=>cond ((kK x&&kL y)||(kL x&&kK y)) none ((scalar P ρ o).map fun v=>(v,true))
  |_=>none
def vT (P:Program) (ρ:Operand→AV) (o:Oper) (op:UnOp) (x:AV):Option (AV×Bool):=
 match op,x with
 |.not,.p (.sc (.bool b))=>some (sB !b,true)
 |.neg,.p (.sc (.int k n))=>some (sI k (k.wrap (0-n)),true)
 |_,_=>(scalar P ρ o).map fun v=>(v,true)
def oJ (rd:Nat→aU) (aZ:Nat):Option Nat→Option nv
 |none=>some [(aZ,.tok)]
 |some t=>match rd t with
  |.tok=>some [(t,.dead),(aZ,.tok)]
  |_=>none
def iS (P:Program) (rd:Nat→aU) (aZ:Nat) (argTypes:Array TypeId) (s x:AV):kF:=
 match argTypes[0]?,argTypes[1]? with
 |some sType,some xType=>match P.underlying sType,P.underlying xType with
  |some (.slice _),some (.int _)=>none
  |some (.slice elem),some _=>match P.info? elem,zeroCells P elem with
   |some info,some z=>match contents rd info.size x,s with
    |some (n,aI,ok),.os tok len sz cs=>(oJ rd aZ tok).map fun us=>(.os (some aZ) (len+n) info.size (cs++aI),us,
      ok&&(ae sz info.size||(ae len 0&&tok.isNone))&&ag 1 info.size&&ae z.length info.size&&ag ((len+n)*info.bytes) gi&&ag (len+n) gi)
    |_,_=>none
   |_,_=>none
  |_,_=>none
 |_,_=>none
def jL:aU→Option (List AV)
 |.pc l=>some (l.map .p)
 |.ac l=>some l
 |.ob (.gr _ _) l=>some l
 |_=>none
def cJ (rd:Nat→aU) (sz:Nat) (x:AV):Option (Nat×List AV×Bool):=
 match contents rd sz x with
 |some (n,aI,ok)=>some (n,aI.map .p,ok)
 |none=>match x with
  |.ms b off len s (some _)=>match rd b with
   |.ac l=>some (len,((l.drop off).take (len*sz)).map C7,ae s sz&&ag (off+len*sz) l.length)
   |_=>none
  |_=>none
def jQ (rd:Nat→aU) (sz:Nat) (x:AV):Bool:=(contents rd sz x).isSome
def Yu:aU→Bool
 |.pc _=>true
 |.ob (.gr _ q) _=>q
 |_=>false
def Yv:Option TypeDesc→Bool
 |some (.int .u8)=>true
 |_=>false
def Yw:AV→Bool
 |.p v=>isByte v
 |_=>false
def allBy:List AV→Bool
 |[]=>true
 |a::r=>Yw a&&allBy r
def fG (P:Program) (rd:Nat→aU) (aZ:Nat) (argTypes:Array TypeId) (s x:AV):kF:=
 match argTypes[0]?,argTypes[1]? with
 |some sType,some xType=>match P.underlying sType,P.underlying xType with
  |some (.slice _),some (.int _)=>none
  |some (.slice elem),some _=>match P.info? elem,zeroCells P elem with
   |some info,some z=>match cJ rd info.size x with
    |some (n,aI,ok)=>
     let fits:=fun(len:Nat)=>ok&&(ag 1 info.size&&(ae z.length info.size&&(ag ((len+n)*info.bytes) gi&&ag (len+n) gi)))
     match s with
     |.ms b 0 len sz none=>match rd b with
      |.ob (.gr t q) l=>some (.ms aZ 0 (len+n) sz none,[(b,.dead),(aZ,.ob (.gr t (q&&jQ rd info.size x)) (l.take (len*sz)++aI))],fits len&&(ae sz info.size&&(ag (len*sz) l.length&&ae t elem)))
      |.ob (.gb t) l=>some (.ms aZ 0 (len+n) sz none,[(b,.dead),(aZ,.ob (.gb t) (l++aI))],fits len&&(ae sz info.size&&(ae (len*sz) l.length&&(ae t elem&&(ae info.size 1&&(allBy z&&allBy aI))))))
      |.ob (.stk t pre) l=>some (.ms aZ 0 (len+n) sz none,[(b,.dead),(aZ,.ob (.stk t pre) (l.take (len*sz-pre.length)++aI))],fits len&&(ae sz info.size&&(ag (len*sz) (pre.length+l.length)&&(ae t elem&&ag pre.length (len*sz)))))
      |_=>none
     |.os none len sz cells=>match ae n 0 with
      |true=>some (.os none len sz cells,[],fits len)
      |false=>match Yv (P.underlying elem) with
       |true=>some (.ms aZ 0 (len+n) info.size none,[(aZ,.ob (.gb elem) (cells.map .p++aI))],fits len&&((ae sz info.size||(ae len 0&&ag 1 info.size))&&(allBy (cells.map .p)&&(ae info.size 1&&(allBy z&&allBy aI)))))
       |false=>some (.ms aZ 0 (len+n) info.size none,[(aZ,.ob (.gr elem (jQ rd info.size x)) (cells.map .p++aI))],fits len&&(ae sz info.size||(ae len 0&&ag 1 info.size)))
     |.ms b 0 len sz (some cap)=>match jL (rd b) with
      |some l=>cond (ag (len+n) cap)
       (match qG (rd b) (len*sz) (aI) with
         |some (b',ok')=>some (.ms b 0 (len+n) sz (some cap),[(b,b')],fits len&&(ok'&&ae sz info.size))
         |none=>none)
       (some (.ms aZ 0 (len+n) sz none,[(aZ,.ob (.gr elem (Yu (rd b)&&jQ rd info.size x)) (l.take (len*sz)++aI))],fits len&&(ae sz info.size&&ag (len*sz) l.length)))
      |none=>none
     |_=>none
    |none=>none
   |_,_=>none
  |_,_=>none
 |_,_=>none
def nB:AV→AV
 |.p (.ps 0 0 _)=> .os none 0 0 []
 |v=>v
def TX:AV→Bool
 |.ms .. =>true
 |_=>false
set_option linter.unusedVariables false in
def sM (P:Program) (rd:Nat→aU) (argTypes:Array TypeId) (d s:AV):kF:=none
def KY (P:Program) (argTypes:Array TypeId) (x:AV):Option AV:=
 match argTypes[0]? with
 |some t=>match P.underlying t,x with
  |some (.slice _),.p (.ps len _ _)=>some (sI .i64 len)
  |some (.slice _),.os _ len _ _=>some (sI .i64 len)
  |some (.slice _),.ms _ _ len _ _=>some (sI .i64 len)
  |some .string,.p (.sc (.string s))=>some (sI .i64 s.data.toList.length)
  |some (.array n _),_=>some (sI .i64 n)
  |_,_=>none
 |none=>none
def KZ (P:Program) (argTypes:Array TypeId) (x:AV):Option AV:=
 match argTypes[0]? with
 |some t=>match P.underlying t,x with
  |some (.slice _),.ms _ _ _ _ (some cap)=>some (sI .i64 cap)
  |some (.slice _),.os none len _ _=>some (sI .i64 len)
  |some (.slice _),.p (.ps 0 0 _)=>some (sI .i64 0)
  |_,_=>none
 |none=>none
set_option linter.unusedVariables false in
def nC (P:Program) (t:TypeId) (x:AV):Option AV:=none
def jR (P:Program) (ρ:Operand→AV) (o:Oper) (x:AV):Option AV:=
 match x with
 |.p (.pp off cs)=>some (.p (.pp off cs))
 |.mp b off=>some (.mp b off)
 |.fn (.func f) a b=>some (.fn (.func f) a b)
 |_=>scalar P ρ o
def jv (r:Option AV):kF:=r.map fun v=>(v,[],true)
def hH (r:Option (AV×Bool)):kF:=r.map fun v=>(v.1,[],v.2)
def BB (j k:IntKind):Bool:=j==k
def kM:List UInt8→List UInt8→Bool
 |[],[]=>true
 |a::r,b::s=>ae a.toNat b.toNat&&kM r s
 |_,_=>false
def eL:Bool→Bool→Bool
 |true,true=>true
 |false,false=>true
 |_,_=>false
def TY:Value→Value→Bool
 |.int j a,.int k b=>BB j k&&decide (a=b)
 |.bool a,.bool b=>eL a b
 |.string a,.string b=>kM a.data.toList b.data.toList
 |.pointer none,.pointer none=>true
 |.slice none 0 0,.slice none 0 0=>true
 |.map none,.map none=>true
 |.nilFunc,.nilFunc=>true
 |.nilIface,.nilIface=>true
 |_,_=>false
def K0:List Value→List Value→Bool
 |[],[]=>true
 |a::r,b::s=>TY a b&&K0 r s
 |_,_=>false
mutual
def zh:PV→PV→Bool
 |.bw,.bw=>true
 |.sc v,.sc u=>TY v u
 |.pp o l,.pp q m=>ae o q&&vU l m
 |.ps n z l,.ps k y m=>ae n k&&(ae z y&&vU l m)
 |.nu t v,.nu s u=>ae t s&&zh v u
 |_,_=>false
def vU:List PV→List PV→Bool
 |[],[]=>true
 |a::r,b::s=>zh a b&&vU r s
 |_,_=>false
end
def eqO:Option Nat→Option Nat→Bool
 |none,none=>true
 |some a,some b=>ae a b
 |_,_=>false
mutual
def ej:AV→AV→Bool
 |.ah,.ah=>true
 |.p v,.p u=>zh v u
 |.os t n z l,.os s k y m=>eqO t s&&(ae n k&&(ae z y&&vU l m))
 |.mp b o,.mp c q=>ae b c&&ae o q
 |.ms b o n z k,.ms c q m y j=>ae b c&&(ae o q&&(ae n m&&(ae z y&&eqO k j)))
 |.fn (.func f) l m,.fn (.func g) k n=>ae f g&&(jS l k&&jS m n)
 |.agg l,.agg m=>jS l m
 |.au l,.au m=>jS l m
 |.nu t v,.nu s u=>ae t s&&ej v u
 |.vm b,.vm c=>ae b c
 |.vy b,.vy c=>ae b c
 |_,_=>false
def jS:List AV→List AV→Bool
 |[],[]=>true
 |a::r,b::s=>ej a b&&jS r s
 |_,_=>false
end
def K1 (a b:Value):Bool:=
 match a,b with
 |.agg x,.agg y=>K0 x.toList y.toList
 |_,_=>false
def BC:List Value→List Value→Bool
 |[],[]=>true
 |a::r,b::s=>K1 a b&&BC r s
 |_,_=>false
def BD:List Nat→List Nat→Bool
 |[],[]=>true
 |a::r,b::s=>ae a b&&BD r s
 |_,_=>false
def G8:aU→aU→Bool
 |.free,.free=>true
 |.dead,.dead=>true
 |.tok,.tok=>true
 |.pc l,.pc m=>vU l m
 |.ac l,.ac m=>jS l m
 |.ob (.gr t q) l,.ob (.gr u r) m=>ae t u&&(eL q r&&jS l m)
 |.ob (.gb t) l,.ob (.gb u) m=>ae t u&&jS l m
 |.ob .Yh [],.ob .Yh []=>true
 |.ob (.map ks bs c) l,.ob (.map js ds d) m=>K0 ks js&&(BD bs ds&&(ae c d&&jS l m))
 |.ob (.Bz ks) l,.ob (.Bz js) m=>BC ks js&&jS l m
 |_,_=>false
def qJ:Mem→Mem→Bool
 |[],[]=>true
 |a::r,b::s=>G8 a b&&qJ r s
 |_,_=>false
def vV (P:Program) (t:TypeId):Option AV:=match P.info? t with
 |some i=>i.zero.map KT
 |none=>none
def plainKey:TypeDesc→Value→Bool
 |.int k,.int k' _=>k==k'
 |.string,.string _=>true
 |.bool,.bool _=>true
 |_,_=>false
def pF (d:TypeDesc) (k:Value):List Value→List AV→List Nat→Option (Option AV)
 |[],[],[]=>some none
 |k'::ks,v::vs,_::bs=>match Instr.sameNow d k k' with
  |some true=>some (some v)
  |some false=>pF d k ks vs bs
  |none=>none
 |_,_,_=>none
def mapOf (rd:Nat→aU):AV→Option (List Value×List AV×List Nat)
 |.p (.sc (.map none))=>some ([],[],[])
 |.vm b=>match rd b with
  |.ob (.map ks bs _) vs=>some (ks,vs,bs)
  |_=>none
 |_=>none
def uf (P:Program) (kt:TypeId):Bool:=
 (match P.underlying kt with | some (.array _ _) | some (.struct _)=>true | _=>false)&&(P.keyTypeAt 20 kt&&P.tiled 20 kt)
def vW (P:Program) (kt:TypeId) (v:Value):Option (List UInt8):=
 match keyOf P kt v with
 |some (.string s)=>some s
 |_=>none
def qK (P:Program) (kt:TypeId) (b:List UInt8):List Value→List AV→Option (List AV)
 |[],[]=>some []
 |k::ks,v::vs=>match vW P kt k,qK P kt b ks vs with
  |some c,some r=>some (cond (kM b c) (v::r) r)
  |_,_=>none
 |_,_=>none
def BE:List UInt8→List UInt8→Bool
 |[],[]=>false
 |[],_::_=>true
 |_::_,[]=>false
 |a::r,b::s=>cond (ae a.toNat b.toNat) (BE r s) (ar a.toNat b.toNat)
def zi (P:Program) (kt:TypeId) (b:List UInt8) (key:Value) (v:AV):List Value→List AV→List Value×List AV
 |k::ks,u::us=>match vW P kt k with
  |some c=>cond (BE b c) (key::k::ks,v::u::us) (k::(zi P kt b key v ks us).1,u::(zi P kt b key v ks us).2)
  |none=>(key::k::ks,v::u::us)
 |ks,us=>(key::ks,v::us)
def sN (rd:Nat→aU):AV→Option (List Value×List AV)
 |.vm b=>match rd b with
  |.ob (.Bz ks) vs=>some (ks,vs)
  |_=>none
 |_=>none
def vw (P:Program) (rd:Nat→aU) (t:TypeId) (m k:AV) (ok:Bool):Option AV:=
 match Fg k,P.underlying t with
 |some key,some (.map kt et)=>match vV P et,sN rd m,vW P kt key with
  |some z,some (ks,vs),some b=>cond (uf P kt) (match qK P kt b ks vs with
   |some [v]=>some (cond ok (.au [v,sB true]) v)
   |some []=>some (cond ok (.au [z,sB false]) z)
   |_=>none) none
  |_,_,_=>none
 |_,_=>none
def iE (P:Program) (rd:Nat→aU) (t:TypeId) (m k v:AV):kF:=
 match m,Fg k,P.underlying t with
 |.vm b,some key,some (.map kt _)=>match rd b,vW P kt key with
  |.ob (.Bz ks) vs,some c=>cond (uf P kt) (match qK P kt c ks vs with
   |some []=>some (.au [],[(b,.ob (.Bz (zi P kt c key v ks vs).1) (zi P kt c key v ks vs).2)],true)
   |_=>none) none
  |_,_=>none
 |_,_,_=>none
def z7 (P:Program) (aZ:Nat) (t:TypeId):kF:=
 match P.underlying t with
 |some (.map kt _)=>match uf P kt with
  |true=>some (.vm aZ,[(aZ,.ob (.Bz []) [])],true)
  |false=>some (.vm aZ,[(aZ,.ob (.map [] [] 0) [])],true)
 |_=>some (.vm aZ,[(aZ,.ob (.map [] [] 0) [])],true)
def lE (P:Program) (rd:Nat→aU) (t:TypeId) (m k:AV) (ok:Bool):Option AV:=
 match k with
 |.p (.sc key)=>match P.underlying t with
  |some (.map kt et)=>match P.underlying kt,vV P et,mapOf rd m with
   |some d,some z,some (ks,vs,bs)=>cond (plainKey d key) (match pF d key ks vs bs with
    |some (some v)=>some (cond ok (.au [v,sB true]) v)
    |some none=>some (cond ok (.au [z,sB false]) z)
    |none=>none) none
   |_,_,_=>none
  |_=>none
 |.agg _=>vw P rd t m k ok
 |_=>none
def vX (d:TypeDesc) (k:Value) (v:AV):List Value→List AV→List Nat→Option (Option (List AV))
 |[],[],[]=>some none
 |k'::ks,u::vs,_::bs=>match Instr.sameNow d k k' with
  |some true=>some (some (v::vs))
  |some false=>match vX d k v ks vs bs with
   |some (some l)=>some (some (u::l))
   |some none=>some none
   |none=>none
  |none=>none
 |_,_,_=>none
def gN (P:Program) (rd:Nat→aU) (t:TypeId) (m k v:AV):kF:=
 match m,k with
 |.vm b,.p (.sc key)=>match P.underlying t,rd b with
  |some (.map kt _),.ob (.map ks bs clock) vs=>match P.underlying kt with
   |some d=>cond (plainKey d key) (match vX d key v ks vs bs with
    |some (some l)=>some (.au [],[(b,.ob (.map ks bs clock) l)],true)
    |some none=>some (.au [],[(b,.ob (.map (ks++[key]) (bs++[clock]) (clock+1)) (vs++[v]))],true)
    |none=>none) none
   |none=>none
  |_,_=>none
 |.vm _,.agg _=>iE P rd t m k v
 |_,_=>none
def fE (ns:List ByteArray) (s:ByteArray):Bool:=ns.any fun x=>x.data.toList==s.data.toList
def qL (ns:List ByteArray) (s:ByteArray):List ByteArray:=cond (fE ns s) ns (ns++[s])
def pZ (rd:Nat→aU):AV→Option (List ByteArray)
 |.vm b=>match rd b with
  |.ob (.smap ns) _=>some ns
  |_=>none
 |_=>none
def qM (P:Program) (t:TypeId):Bool:=match P.underlying t with
 |some (.map kt et)=>match P.underlying kt,vV P et with
  |some .string,some (.p (.sc (.bool false)))=>true
  |_,_=>false
 |_=>false
def vY (P:Program) (aZ:Nat) (t:TypeId):kF:=
 match qM P t with
 |true=>some (.vm aZ,[(aZ,.ob (.smap []) [])],true)
 |false=>none
def sO (P:Program) (rd:Nat→aU) (t:TypeId) (m k:AV) (ok:Bool):Option AV:=
 match pZ rd m with
 |some ns=>match k with
  |.p (.sc (.string s))=>match qM P t with
   |true=>some (cond ok (.au [sB (fE ns s),sB (fE ns s)]) (sB (fE ns s)))
   |false=>none
  |_=>none
 |none=>lE P rd t m k ok
def vZ (P:Program) (rd:Nat→aU) (t:TypeId) (m k v:AV):kF:=
 match pZ rd m with
 |some ns=>match m,k,v with
  |.vm b,.p (.sc (.string s)),.p (.sc (.bool true))=>match qM P t with
   |true=>some (.au [],[(b,.ob (.smap (qL ns s)) [])],true)
   |false=>none
  |_,_,_=>none
 |none=>gN P rd t m k v
def isNil:AV→Bool
 |.p (.sc (.pointer none)) | .p (.sc (.map none)) | .p (.sc .nilFunc) | .p (.sc .nilIface)=>true
 |_=>false
def isRef:AV→Bool
 |.p (.pp ..) | .mp .. | .vm _ | .fn .. | .p (.nu ..) | .nu .. =>true
 |_=>false
def G9 (x y:AV):Bool:=(isNil x&&isRef y)||(isRef x&&isNil y)
set_option linter.unusedVariables false in
def He (P:Program) (op:BinOp) (t:TypeId) (x y:AV):kF:=none
def BF:AV→AV→Bool
 |.mp b o,.mp c q=>ae b c&&ae o q
 |_,_=>false
set_option linter.unusedVariables false in
def oK (P:Program) (op:BinOp) (t:TypeId):kF:=none
def BG:Operand→Bool
 |.const (.slice none _ _)=>true
 |_=>false
def Hf:AV→Option Bool
 |.p (.ps len sz _)=>cond (ag 1 len) (some false) (cond (ae sz 0) (some true) none)
 |.os _ len sz _=>cond (ag 1 len) (some false) (cond (ae sz 0) (some true) none)
 |.ms .. =>some false
 |_=>none
def vA (P:Program) (op:BinOp) (t:TypeId) (x:AV):kF:=
 match P.underlying t with
 |some (.slice _)=>match Hf x,op with
  |some b,.eql=>some (sB b,[],true)
  |some b,.neq=>some (sB (!b),[],true)
  |_,_=>none
 |_=>none
def BH (P:Program) (aZ:Nat) (t:TypeId) (x:AV):kF:=
 match P.underlying t,x with
 |some .string,.p (.sc (.string s))=>some (.mp aZ 0,[(aZ,.ob (.iter s 0) [])],true)
 |_,_=>none
def Fk (rd:Nat→aU) (it:AV):Bool→kF
 |true=>match it with
  |.mp b 0=>match rd b with
   |.ob (.iter s pos) _=>match ar pos s.size with
    |true=>match Utf8.decode s pos with
     |(c,width)=>some (.au [sB true,sI .i64 pos,sI .i32 c],[(b,.ob (.iter s (pos+width)) [])],true)
    |false=>some (.au [sB false],[],true)
   |.ob (.P6 s pos more) _=>match more with
    |true=>some (.au [sB true,sI .i64 pos,sI .i32 (Utf8.decode s pos).1],[(b,.ob (.iter s (pos+(Utf8.decode s pos).2)) [])],true)
    |false=>some (.au [sB false],[],true)
   |_=>none
  |_=>none
 |false=>none
set_option linter.unusedVariables false in
def nD (x:AV):kF:=none
def TZ (rd:Nat→aU):AV→Option (Nat×TypeId×List AV)
 |.mp b 0=>match rd b with
  |.ob (.gr t _) l=>some (b,t,l)
  |_=>none
 |_=>none
set_option linter.unusedVariables false in
def eM (P:Program) (rd:Nat→aU) (argTypes:List TypeId) (x n:AV):kF:=none
def Je (mn:Bool):List AV→Option AV
 |[.p (.sc (.int k a)),.p (.sc (.int _ b))]=>some (.p (.sc (.int k (cond mn (min a b) (max a b)))))
 |_=>none
def jT (P:Program) (ρ:Operand→AV) (o:Oper) (mn:Bool) (l:List Operand):Option AV:=
 match Je mn (l.map ρ) with
 |some v=>some v
 |none=>scalar P ρ o
set_option linter.unusedVariables false in
def wg (P:Program) (t:TypeId) (x:AV) (ok:Bool):Option AV:=none
def ug (P:Program) (rd:Nat→aU) (wr:Bool) (aZ:Nat) (ρ:Operand→AV) (o:Oper):kF:=
 match o.op with
 |.move x | .assign x=>some (ρ x,[],true)
 |.pick c a b=>match ρ c with
  |.p (.sc (.bool t))=>some (cond t (ρ a) (ρ b),[],true)
  |_=>none
 |.alloc t=>match wr with
  |true=>vS P aZ t
  |false=>BA P aZ t
 |.box _ v=>KW aZ (ρ v)
 |.build t parts=>hH (vr P t (parts.toList.map fun q=>(q.1,ρ q.2)))
 |.buildSlice t len parts=>mh P wr aZ t len (parts.toList.map fun q=>(q.1,ρ q.2))
 |.load t a=>hH (kY P rd t (ρ a))
 |.store t a v=>qH P rd t (ρ a) (ρ v)
 |.nilCheck x=>jv (jR P ρ o (ρ x))
 |.binOp op t x y _=>match BG y with
  |true=>vA P op t (ρ x)
  |false=>match G9 (ρ x) (ρ y) with
   |true=>He P op t (ρ x) (ρ y)
   |false=>match BF (ρ x) (ρ y) with
    |true=>oK P op t
    |false=>hH (qI P ρ o op (ρ x) (ρ y))
 |.range t x=>BH P aZ t (ρ x)
 |.next x s=>Fk rd (ρ x) s
 |.makeMap t none=>match wr with
  |true=>vY P aZ t
  |false=>z7 P aZ t
 |.lookup t x i ok=>jv (sO P rd t (ρ x) (ρ i) ok)
 |.mapUpdate t x k v=>vZ P rd t (ρ x) (ρ k) (ρ v)
 |.insert t x k v=>vZ P rd t (ρ x) (ρ k) (ρ v)
 |.unOp op _ x=>hH (vT P ρ o op (ρ x))
 |.convert src dst x=>convertOp P rd aZ ρ o src dst (ρ x)
 |.makeInterface t x=>jv (nC P t (ρ x))
 |.makeFunc f first captured=>some (.fn f (first.toList.map ρ) (captured.toList.map ρ),[],true)
 |.makeSlice t l c=>match wr with
  |true=>pY P t (ρ l) (ρ c)
  |false=>nA P aZ t (ρ l) (ρ c)
 |.slice t x lo hi mx=>hH (oI P ρ t (ρ x) lo hi mx)
 |.fieldAddr t x f=>jv (kI P t (ρ x) f)
 |.field t x f=>hH (vu P t (ρ x) f)
 |.indexAddr t x i=>hH (kJ P t (ρ x) (ρ i))
 |.index t x i=>hH (vv P t (ρ x) (ρ i))
 |.extract x i=>match ρ x with
  |.au vs=>jv vs[i]?
  |_=>none
 |.typeAssert x _ t ok=>jv (wg P t (ρ x) ok)
 |.call c=>match c.callee,c.args.toList with
  |.builtin .append,[s,x]=>match TX (ρ s)||wr with
   |true=>fG P rd aZ c.argTypes (nB (ρ s)) (ρ x)
   |false=>iS P rd aZ c.argTypes (nB (ρ s)) (ρ x)
  |.builtin .copy,[d,s]=>sM P rd c.argTypes (ρ d) (ρ s)
  |.builtin .len,[x]=>jv (KY P c.argTypes (ρ x))
  |.builtin .cap,[x]=>jv (KZ P c.argTypes (ρ x))
  |.builtin .unsafeSliceData,[x]=>nD (ρ x)
  |.builtin .unsafeString,[x,n]=>eM P rd c.argTypes.toList (ρ x) (ρ n)
  |.builtin .min,l=>jv (jT P ρ o true l)
  |.builtin .max,l=>jv (jT P ρ o false l)
  |_,_=>none
 |_=>none
def makes (o:Oper):Bool:=
 match o.op with
 |.alloc _ | .box .. | .buildSlice .. | .makeSlice .. | .convert .. | .makeMap .. | .range .. =>true
 |.call c=>match c.callee with
  |.builtin .append=>true
  |_=>false
 |_=>false
def apply (m:Mem):nv→Mem
 |[]=>m
 |(i,b)::r=>apply (m.set i b) r
mutual
def refs:AV→List Nat
 |.os (some t) _ _ _=>[t]
 |.mp b _=>[b]
 |.ms b _ _ _ _=>[b]
 |.vm b=>[b]
 |.vy b=>[b]
 |.fn _ first captured=>iB first++iB captured
 |.agg l=>iB l
 |.au l=>iB l
 |.nu _ v=>refs v
 |_=>[]
def iB:List AV→List Nat
 |[]=>[]
 |a::r=>refs a++iB r
end
def z8:aU→List Nat
 |.ac l=>iB l
 |.ob (.gr _ true) _=>[]
 |.ob (.gb _) _=>[]
 |.ob _ l=>iB l
 |_=>[]
def has (l:List Nat) (i:Nat):Bool:=
 match l with
 |[]=>false
 |j::r=>cond (ae j i) true (has r i)
def iF (ord:List Nat):List Nat→List Nat
 |[]=>ord
 |i::r=>iF (cond (has ord i) ord (ord++[i])) r
def reach (m:Mem):Nat→List Nat→Nat→List Nat
 |0,ord,_=>ord
 |f+1,ord,k=>match ord[k]? with
  |none=>ord
  |some i=>reach m f (iF ord (z8 (m.getD i .dead))) (k+1)
mutual
def jx (ρ:Nat→Option Nat):AV→AV
 |.os (some t) len sz cs=>match ρ t with
  |some t=> .os (some t) len sz cs
  |none=> .p (.ps len sz cs)
 |.mp b off=>match ρ b with
  |some b=> .mp b off
  |none=> .ah
 |.ms b off len sz cap=>match ρ b with
  |some b=> .ms b off len sz cap
  |none=> .ah
 |.vm b=>match ρ b with
  |some b=> .vm b
  |none=> .ah
 |.vy b=>match ρ b with
  |some b=> .vy b
  |none=> .ah
 |.fn f first captured=> .fn f (eW ρ first) (eW ρ captured)
 |.agg l=> .agg (eW ρ l)
 |.au l=> .au (eW ρ l)
 |.nu t v=> .nu t (jx ρ v)
 |v=>v
def eW (ρ:Nat→Option Nat):List AV→List AV
 |[]=>[]
 |a::r=>jx ρ a::eW ρ r
end
def aa:AV→AV
 |.p v=> .p v
 |_=> .ah
def gJ (ρ:Nat→Option Nat):aU→aU
 |.ac l=> .ac (eW ρ l)
 |.ob (.gr t true) l=> .ob (.gr t true) (l.map aa)
 |.ob (.gb t) l=> .ob (.gb t) (l.map aa)
 |.ob k l=> .ob k (eW ρ l)
 |b=>b
def idx (ord:List Nat) (i:Nat):Option Nat:=
 match ord with
 |[]=>none
 |j::r=>cond (ae i j) (some 0) ((idx r i).map (· + 1))
def pack (m:Mem) (ord:List Nat):Mem:=ord.map fun i=>gJ (idx ord) (m.getD i .dead)
def upTo:Nat→List Nat
 |0=>[]
 |n+1=>upTo n++[n]
def close (m:Mem) (fix:Nat) (vs:List AV):List Nat:=reach m (m.length+1) (iF (upTo fix) (iB vs)) 0
inductive Mark where
 |range (b:Nat)
 |late (f:FuncId) (first caps:List (Nat×Nat))
inductive Ts where
 |call
 |round (i:Nat)
 |late
structure St where
 tm:vQ
 nt:Nat
 mem:Mem
 fix:Nat
 cA:List Mark:=[]
 bX:Ts:= .call
inductive It where
 |code (i:Nat) (c:Code)
 |ops (bV:Nat) (ops:Array Oper) (k:Nat) (sure:Bool)
 |inBlock (id:Nat)
 |inLoop (i:Nat) (b:Code)
 |inScope (b:Code)
 |forget (k:List Nat)
 |fin
 |begin
 |zj (u:AV)
 |hJ (u:AV)
 |leave
structure cw where
 f:FuncId
 todo:List It
 st:St
inductive Out where
 |ret (v:AV) (m:Mem)
 |za (v:AV) (m:Mem)
inductive Ev where
 |next (c:cw)
 |must (b:Bool) (c:cw)
 |call (g:FuncId) (args:List AV) (m:Mem) (ord:List Nat) (dst:Option Tmp) (c:cw)
 |test (b:Bool) (yes no:cw)
 |round (args:List AV) (m:Mem) (ord:List Nat) (dst:Option Tmp) (c:cw)
 |range (g:FuncId) (args:List AV) (m:Mem) (ord:List Nat) (L:Nat) (c:cw)
 |draw (bV:Nat) (ops:Array Oper) (c:cw)
 |fork (l:List cw)
 |late (g:FuncId) (args:List AV) (m:Mem) (ord:List Nat) (pv:Option AV) (c:cw)
 |done (o:Out)
 |fail
structure Env where
 dg:Nat→Option (List PV)
 wr:FuncId→Nat→Bool
 keep:FuncId→Nat→Option (List Nat)
 told:FuncId→Nat→Option AV:=fun _ _=>none
def ev (E:Env) (tm:vQ):Operand→AV
 |.tmp t=>look tm t
 |.const v=>KT v
 |.global g=>match E.dg g with
  |some cs=> .p (.pp 0 cs)
  |none=> .p (.sc (.pointer (some ⟨g,0,none⟩)))
 |.func f=> .fn (.func f) [] []
def forget (keep:List Nat) (st:St):St:=
 match st.cA,st.bX with
 |[],.call=>
  let vs:=keep.map (look st.tm)
  let ord:=close st.mem st.fix vs
  {tm:=keep.zip (eW (idx ord) vs),nt:=st.nt,mem:=pack st.mem ord,fix:=st.fix,bX:= .call}
 |_,_=>st
def iN (keep:Option (List Nat)) (st:St):St:=
 match keep with
 |some keep=>forget keep st
 |none=>st
def eY (keep:Option (List Nat)) (k:List It):List It:=
 match keep with
 |some keep=> .forget keep::k
 |none=>k
def put (st:St) (dst:Option Tmp) (v:AV):St:=
 match dst with
 |some d=>{st with tm:=(d,v)::st.tm}
 |none=>st
def fits (st:St) (dst:Option Tmp):Bool:=
 match dst with
 |some d=>ar d st.nt
 |none=>true
def bg (ord:List Nat) (n:Nat) (j:Nat):Option Nat:=
 match ord[j]? with
 |some i=>some i
 |none=>some (n+(j-ord.length))
def dh (ρ:Nat→Option Nat):List Nat→Mem→Mem→Mem
 |i::ord,b::m1,m=>dh ρ ord m1 (m.set i (gJ ρ b))
 |_,m1,m=>m++m1.map (gJ ρ)
def back (ord:List Nat) (dst:Option Tmp) (st:St) (v:AV) (m1:Mem):St:=
 put {st with mem:=dh (bg ord st.mem.length) ord m1 st.mem} dst (jx (bg ord st.mem.length) v)
def target (ρ:Operand→AV) (o:Oper):Option (FuncId×List AV):=
 match o.op with
 |.call c=>match c.callee with
  |.value f=>match ρ f with
   |.fn (.func f) first captured=>some (f,first++c.args.toList.map ρ++captured)
   |_=>none
  |_=>none
 |_=>none
def vB (ρ:Operand→AV) (o:Oper):Option (List AV):=
 match o.op with
 |.call c=>match c.callee with
  |.value f=>match ρ f with
   |.vy b=>some (.vy b::c.args.toList.map ρ)
   |_=>none
  |_=>none
 |_=>none
def dM (st:St) (f:FuncId) (ps:Array Tmp) (as bd:Code):Mem:=
 (st.mem++[.ob .Jc []])++[.ob (.loop f ps as bd .ready none) ((upTo st.nt).map (look st.tm))]
def gm (m:Mem) (L:Nat):Option (Mem×Option Code):=
 match m.getD L .dead with
 |.ob (.loop f ps as bd st pd) vals=>match st with
  |.busy=>none
  |_=>some (m.set L (.ob (.loop f ps as bd .exhausted pd) vals),pd)
 |_=>none
def behind (c:cw) (m:Mem) (pd:Option Code):cw:=
 {c with todo:=match pd with
    |some code=> .code 0 code::c.todo
    |none=>c.todo,st:={c.st with mem:=m}}
inductive Want where
 |yes | no | ask (d:Nat) (b want:Bool) | lost
def ep (ops:Array Oper) (tm:vQ) (o:Oper):Want:=
 match o.guard with
 |none=> .yes
 |some (j,want)=>match ops[j]? with
  |some oj=>match oj.dst with
   |some d=>match look tm d with
    |.p (.sc (.bool b))=> .ask d b want
    |.au _=> .no
    |_=> .lost
   |none=> .no
  |none=> .no
def reserve (o:Oper) (m:Mem):Mem:=cond (makes o) (m++[.free]) m
def nodes:Code→Nat
 |.seq a b=>nodes a+nodes b
 |.cond _ a b=>1+nodes a+nodes b
 |.block _ b=>nodes b
 |.scope b=>nodes b
 |.loop b=>1+nodes b
 |_=>0
def iG (P:Program) (st:St):List ResultVar→Option (List AV×Bool)
 |[]=>some ([],true)
 |.tmp t::r=>(iG P st r).map fun q=>(look st.tm t::q.1,q.2)
 |.cell a t::r=>match kY P (fun i=>st.mem.getD i .dead) t (look st.tm a),iG P st r with
  |some (v,ok),some (vs,oks)=>some (v::vs,ok&&oks)
  |_,_=>none
def one:List AV→AV
 |[v]=>v
 |vs=> .au vs
def freeze (m:Mem) (kept:List Nat):AV→AV×Bool×List Nat
 |.ms b off len sz (some cap)=>cond (has kept b||ae len 0) (.ms b off len sz (some cap),true,[]) (match m.getD b .dead with
  |.pc l=>(.p (.ps len sz ((l.drop off).take (len*sz))),ag (off+len*sz) l.length&&ag 1 sz,[b])
  |_=>(.ms b off len sz (some cap),true,[]))
 |v=>(v,true,[])
def gC (m:Mem) (kept:List Nat):List AV→List AV×Bool×List Nat
 |[]=>([],true,[])
 |v::r=>((freeze m kept v).1::(gC m kept r).1,(freeze m kept v).2.1&&(gC m kept r).2.1,(freeze m kept v).2.2++(gC m kept r).2.2)
def iT (l:List Nat) (n:Nat):Bool:=
 match l with
 |[]=>true
 |i::r=>ar i n&&iT r n
def BI (l ord:List Nat):Bool:=
 match l with
 |[]=>true
 |i::r=> !has ord i&&BI r ord
def mq (P:Program) (c:cw):Ev:=
 match P.funcs[c.f]? with
 |some fn=>match iG P c.st fn.results.toList with
  |some (vs,ok)=>
   let fz:=gC c.st.mem (close c.st.mem c.st.fix []) vs
   let v:=one fz.1
   let ord:=close c.st.mem c.st.fix [v]
   .must (ok&&fz.2.1&&BI fz.2.2 ord) {c with todo:=[.fin],st:={c.st with tm:=[(0,jx (idx ord) v)],nt:=0,mem:=pack c.st.mem ord}}
  |none=> .fail
 |none=> .fail
def mw:List Mark→Mem→Option Mem
 |[],m=>some m
 |.late .. :: _,_=>none
 |.range b::r,m=>match m.getD b .dead with
  |.ob .Jc []=>mw r (m.set b (.ob .shut []))
  |_=>none
def mps (l:List (Nat×Nat)):List AV:=l.map fun q=> .mp q.1 q.2
def BJ (c:cw) (pv:Option AV) (g:FuncId) (first caps:List (Nat×Nat)):Ev:=
 let args:=mps first++mps caps
 let ord:=close c.st.mem 0 (pv.toList++args)
 cond (iT ord c.st.mem.length) (.late g (eW (idx ord) args) (pack c.st.mem ord) ord (pv.map (jx (idx ord))) {c with todo:=[.leave],st:={c.st with cA:=[]}}) .fail
def wh (P:Program) (c:cw) (u:AV):Ev:=
 match c.st.bX with
 |.round _=> .fail
 |_=>match c.st.cA with
  |[]=>match P.funcs[c.f]? with
   |some _=>
    let ord:=close c.st.mem c.st.fix [u]
    .next {c with todo:=[.zj (jx (idx ord) u)],st:={c.st with tm:=[],nt:=0,mem:=pack c.st.mem ord}}
   |none=> .fail
  |[.late g first caps]=>BJ c (some u) g first caps
  |_=> .fail
def ending (P:Program) (c:cw):Ev:=
 match c.st.cA with
 |[]=>mq P c
 |[.late g first caps]=>BJ c none g first caps
 |mk=>match mw mk c.st.mem with
  |some m=>mq P {c with st:={c.st with mem:=m,cA:=[]}}
  |none=> .fail
def Hg (P:Program) (f:FuncId):Bool:=
 match P.funcs[f]? with
 |some fn=>fn.body.isNone&&(decide (fn.name = "internal/abi.NoEscape")&&decide (fn.origin = ""))
 |none=>false
def K2 (P:Program) (ρ:Operand→AV) (o:Oper):Option AV:=
 match o.op with
 |.call c=>match c.callee,c.args.toList with
  |.value f,[x]=>match ρ f with
   |.fn (.func g) [] []=>cond (Hg P g) (some (ρ x)) none
   |_=>none
  |_,_=>none
 |_=>none
def Aa:List AV→Option (List (Nat×Nat))
 |[]=>some []
 |.mp b off::r=>match Aa r with
  |some l=>some ((b,off)::l)
  |none=>none
 |_::_=>none
def Ab:AV→Bool
 |.nu .. | .p (.nu ..)=>true
 |_=>false
def K3 (E:Env) (c:cw) (o:Oper) (k:List It):Ev:=
 match o.op with
 |.panic x=>cond (Ab (ev E c.st.tm x)) (.next {c with todo:=[.hJ (ev E c.st.tm x)]}) .fail
 |.call d=>match d.callee,d.args.toList with
  |.builtin .panic,[x]=>cond (Ab (ev E c.st.tm x)) (.next {c with todo:=[.hJ (ev E c.st.tm x)]}) .fail
  |_,_=> .fail
 |.defer d=>match c.st.bX,c.st.cA,d.callee with
  |.round _,_,_=> .fail
  |_,[],.value f=>match ev E c.st.tm f with
   |.fn (.func g) first captured=>match Aa (first++d.args.toList.map (ev E c.st.tm)),Aa captured with
    |some l,some m=> .must (fits c.st o.dst) {c with todo:=k,st:=put {c.st with cA:=[.late g l m]} o.dst (.au [])}
    |_,_=> .fail
   |_=> .fail
  |_,_,_=> .fail
 |_=> .fail
def K4 (P:Program) (E:Env) (c:cw) (_rid:Nat) (o:Oper) (k:List It):Ev:=
 match target (ev E c.st.tm) o with
 |some (g,args)=>
  match K2 P (ev E c.st.tm) o with
  |some v=> .must (fits c.st o.dst) {c with todo:=k,st:=put c.st o.dst v}
  |none=>
   let ord:=close c.st.mem 0 args
   cond (fits c.st o.dst&&iT ord c.st.mem.length) (.call g (eW (idx ord) args) (pack c.st.mem ord) ord o.dst {c with todo:=k}) .fail
 |none=>match vB (ev E c.st.tm) o with
  |some args=>
   let ord:=close c.st.mem 0 args
   cond (fits c.st o.dst&&iT ord c.st.mem.length) (.round (eW (idx ord) args) (pack c.st.mem ord) ord o.dst {c with todo:=k}) .fail
  |none=>
   let m:=reserve o c.st.mem
   match ug P (fun i=>m.getD i .dead) (E.wr c.f (o.dst.getD 0)) c.st.mem.length (ev E c.st.tm) o with
   |some (v,us,ok)=> .must (ok&&fits c.st o.dst) {c with todo:=k,st:=put {c.st with mem:=apply m us} o.dst v}
   |none=>K3 E c o k
def fH:Option Code→LoopState
 |none=> .ready
 |some _=> .done
def nE (c:cw) (i:Nat) (jump:Option Code):Ev:=
 match c.st.mem.getD i .dead with
 |.ob (.loop f ps as bd _ _) vals=>
  let m:=c.st.mem.set i (.ob (.loop f ps as bd (fH jump) jump) vals)
  let ord:=close m c.st.fix []
  cond (ar i c.st.fix) (.next {c with todo:=[.fin],st:={c.st with tm:=[(0,sB jump.isNone)],nt:=0,mem:=pack m ord}}) .fail
 |_=> .fail
def wj (c:cw) (i:Nat) (k:List It):Ev:=
 match c.st.mem.getD i .dead with
 |.ob (.loop f ps as bd .ready pd) vals=> .next {c with todo:=k,st:={c.st with mem:=c.st.mem.set i (.ob (.loop f ps as bd .busy pd) vals)}}
 |_=> .fail
def Hh (E:Env) (c:cw) (x:Operand) (ps:Array Tmp) (as bd:Code) (k:List It):Ev:=
 match ev E c.st.tm x with
 |.fn (.func g) first captured=>
  let m:=dM c.st c.f ps as bd
  let args:=first++[.vy (c.st.mem.length+1)]++captured
  let ord:=close m 0 args
  cond (iT ord m.length) (.range g (eW (idx ord) args) (pack m ord) ord (c.st.mem.length+1) {c with todo:=k,st:={c.st with mem:=m,cA:= .range c.st.mem.length::c.st.cA}}) .fail
 |_=> .fail
def bY (id:Nat):List It→Option (List It)
 |[]=>none
 |.inBlock id'::k=>cond (ae id' id) (some k) (bY id k)
 |_::k=>bY id k
def eN (l:Nat):List It→Option (List It)
 |[]=>none
 |.inScope b::k=>match findLabel b l with
  |some rest=>some (.code 0 rest :: .inScope b::k)
  |none=>eN l k
 |_::k=>eN l k
def gF (o:Oper):Bool:=
 match o.op with
 |.move _ | .assign _ | .pick .. | .build .. | .load .. | .nilCheck _ | .binOp .. | .unOp .. | .convert .. | .makeInterface .. | .makeFunc .. | .slice .. | .fieldAddr .. | .field .. | .indexAddr .. | .index .. | .extract .. =>true
 |.call c=>match c.callee with
  |.builtin .len | .builtin .min | .builtin .max=>true
  |_=>false
 |_=>false
def p9 (acc:List Nat) (o:Oper):Nat:=o.after.toList.foldl (fun s e=>cond (Region.binds .any e) (s|||(2 ^ e.on|||acc.getD e.on 0)) s) 0
def masks (acc:List Nat):List Oper→List Nat
 |[]=>acc
 |o::r=>masks (acc++[p9 acc o]) r
def vC (x:Nat):Nat→Bool
 |0=>true
 |n+1=>bj x n&&vC x n
def sQ (ops:Array Oper):Bool:=
 (match ops[ops.size-1]? with
   |some o=>o.guard.isNone&&match o.op with
    |.call c=>match c.callee with
     |.value _=>true
     |_=>false
    |.panic _ | .defer _=>true
    |_=>false
   |none=>false)&&vC ((masks [] ops.toList).getD (ops.size-1) 0) (ops.size-1)
def gG (ops:Array Oper):Nat:=cond (sQ ops) (ops.size-1) ops.size
def iH (bV:Nat) (ops:Array Oper) (k:List It):List It:=cond (sQ ops) (.ops bV ops (ops.size-1) false::k) k
def slots (ops:Array Oper) (o:Oper):List Nat:=
 (match o.guard with
   |some (j,_)=>match ops[j]? with
    |some oj=>oj.dst.toList
    |none=>[]
   |none=>[])++o.op.operands.toList.filterMap fun
    |.tmp t=>some t
    |_=>none
def meet (a b:List Nat):Bool:=a.any fun i=>b.any fun j=>ae i j
def qa (ops:Array Oper) (L:List Nat) (i:Nat) (o:Oper) (j:Nat) (p:Oper):Bool:=
 !meet o.dst.toList p.dst.toList&&(bj (L.getD i 0) j||(!meet p.dst.toList (slots ops o) && !meet o.dst.toList (slots ops p)))
def vD (ops:Array Oper) (L:List Nat) (i:Nat) (o:Oper):Nat→List Oper→Bool
 |_,[]=>true
 |j,p::r=>qa ops L i o j p&&vD ops L i o (j+1) r
def jU (q:Oper→Bool) (ops:Array Oper) (L:List Nat):Nat→List Oper→List Oper→Bool
 |_,_,[]=>true
 |i,ni,o::r=>q o&&(o.after.toList.all fun e=> !Region.binds .any e||ar e.on i)&&vD ops L i o 0 ni&&jU q ops L (i+1) (ni++[o]) r
def kN (P:Program) (E:Env) (rd:Nat→aU) (wr:Bool) (aZ:Nat) (ops:Array Oper):List Oper→St→Option (St×Bool)
 |[],st=>some (st,true)
 |o::r,st=>
  let skip:=match kN P E rd wr aZ ops r (put st o.dst (.au [])) with
   |some (st',ok)=>some (st',fits st o.dst&&ok)
   |none=>none
  let qN:=match ug P rd wr aZ (ev E st.tm) o with
   |some (v,[],ok)=>match kN P E rd wr aZ ops r (put st o.dst v) with
    |some (st',ok')=>some (st',ok&&(fits st o.dst&&ok'))
    |none=>none
   |_=>none
  match ep ops st.tm o with
  |.yes=>qN
  |.no=>skip
  |.ask _ b want=>match b==want with
   |true=>qN
   |false=>skip
  |.lost=>none
def K5 (E:Env) (f:Nat) (ops:Array Oper):Bool:=ops.toList.all fun o=>(E.told f (o.dst.getD 0)).isNone
def wk (P:Program) (E:Env) (f _rid:Nat) (ops:Array Oper) (st:St):Option (St×Bool):=
 let m:=st.mem++[.free]
 match cond (ops.toList.all gF&&K5 E f ops) (kN P E (fun i=>m.getD i .dead) false st.mem.length ops ops.toList {st with mem:=m}) none with
 |some (st',ok)=>some (st',ok&&(jU gF ops (masks [] ops.toList) 0 [] ops.toList&&(P.follows .mixedOrders || !Region.departs ops)))
 |none=>none
def Hi (P:Program) (E:Env) (f:FuncId) (ops:Array Oper) (i:Nat) (st:St):Option St:=
 match ops[i]? with
 |none=>none
 |some o=>match ep ops st.tm o with
  |.yes=>
   let m:=reserve o st.mem
   match ug P (fun i=>m.getD i .dead) (E.wr f (o.dst.getD 0)) st.mem.length (ev E st.tm) o with
   |some (v,us,ok)=>cond (ok&&fits st o.dst) (some (put {st with mem:=apply m us} o.dst v)) none
   |none=>none
  |_=>none
def P8 (a b:vQ):List Nat→Bool
 |[]=>true
 |k::r=>ej (look a k) (look b k)&&P8 a b r
def T0 (s t:St):Bool:=ae s.nt t.nt&&(ae s.fix t.fix&&(G8 (s.mem.getLastD .dead) (t.mem.getLastD .dead)&&(qJ s.mem t.mem&&P8 s.tm t.tm (s.tm.map (·.1)++t.tm.map (·.1)))))
def vE:List Bool→List Bool→Bool
 |[],[]=>true
 |a::r,b::s=>eL a b&&vE r s
 |_,_=>false
abbrev Pt:=Array Bool×St
def Yx (p q:Pt):Bool:=vE p.1.toList q.1.toList&&T0 p.2 q.2
def C9 (q:Pt):List Pt→Bool
 |[]=>false
 |p::r=>Yx q p||C9 q r
def Db (q:Pt) (l:List Pt):List Pt:=cond (C9 q l) l (q::l)
def qO (P:Program) (E:Env) (f:FuncId) (ops:Array Oper) (q:Pt):List Nat→List Pt→Option (List Pt)
 |[],l=>some l
 |i::r,l=>match Hi P E f ops i q.2 with
  |some st=>qO P E f ops q r (Db (q.1.setIfInBounds i true,st) l)
  |none=>none
def level (P:Program) (E:Env) (f:FuncId) (ops:Array Oper):List Pt→List Pt→Option (List Pt)
 |[],l=>some l
 |q::r,l=>match Region.ready .any ops q.1 with
  |[]=>level P E f ops r (Db q l)
  |is=>match qO P E f ops q is l with
   |some l=>level P E f ops r l
   |none=>none
def levels (P:Program) (E:Env) (f:FuncId) (ops:Array Oper):Nat→List Pt→Option (List Pt)
 |0,l=>some l
 |n+1,l=>match level P E f ops l [] with
  |some l=>levels P E f ops n l
  |none=>none
def K6 (b:Bool) (o:Oper):Bool:=
 match o.op with
 |.store _ _ (.const (.bool c))=>c==b
 |_=>false
def K7 (ops:Array Oper):Bool:=
 match ops.toList with
 |[_,o,p,_]=>K6 true o&&K6 false p
 |_=>false
def K8 (P:Program) (ops:Array Oper):Bool:=
 ag ops.size 16&&ops.toList.any fun o=>match o.op with
  |.insert t _ _ _=>match P.underlying t with
   |some (.map kt _)=>uf P kt
   |_=>false
  |_=>false
def BK (P:Program) (E:Env) (f:FuncId) (ops:Array Oper) (st:St):Option (List St):=
 cond ((K7 ops||K8 P ops)&&(P.follows .mixedOrders || !Region.departs ops)) ((levels P E f ops ops.size [(Array.replicate ops.size false,st)]).map fun l=>l.map (·.2)) none
def step (P:Program) (E:Env) (c:cw):Ev:=
 match c.todo with
 |[]=>match c.st.bX with
  |.round i=>nE c i none
  |_=>ending P c
 |.fin::_=> .done (.ret (look c.st.tm 0) c.st.mem)
 |.zj u::_=> .done (.za u c.st.mem)
 |.hJ u::_=>wh P c u
 |.leave::_=>mq P c
 |.begin::k=>match c.st.bX with
  |.round i=>wj c i k
  |_=> .fail
 |.code _ .ret::_=>match c.st.bX with
  |.round i=>nE c i (some .ret)
  |_=>ending P c
 |.code _ .skip::k=> .next {c with todo:=k}
 |.code _ (.region id ops false)::k=> .next {c with todo:= .ops id ops 0 false::k}
 |.code _ (.region id ops true)::k=>match wk P E c.f id ops c.st with
  |some (st,ok)=> .must ok {c with todo:=k,st:={st with cA:=c.st.cA,bX:=c.st.bX}}
  |none=>match BK P E c.f ops c.st with
   |some l=> .fork (l.map fun st=>{c with todo:=k,st:={st with cA:=c.st.cA,bX:=c.st.bX}})
   |none=> .draw id ops {c with todo:=iH id ops k}
 |.code i (.seq a b)::k=> .next {c with todo:= .code i a :: .code (i+nodes a) b::k}
 |.code i (.cond x a b)::k=>match ev E c.st.tm x with
  |.p (.sc (.bool t))=> .test t {c with todo:= .code (i+1) a::eY (E.keep c.f (2*i)) k} {c with todo:= .code (i+1+nodes a) b::eY (E.keep c.f (2*i)) k}
  |_=> .fail
 |.code i (.block id b)::k=> .next {c with todo:= .code i b :: .inBlock id::k}
 |.code i (.loop b)::k=> .next {c with todo:= .code (i+1) b :: .inLoop i b::eY (E.keep c.f (2*i+1)) k,st:=iN (E.keep c.f (2*i)) c.st}
 |.code _ (.exit id)::k=>match bY id k with
  |some k=> .next {c with todo:=k}
  |none=>match c.st.bX with
   |.round i=>nE c i (some (.exit id))
   |_=> .fail
 |.code i (.scope b)::k=> .next {c with todo:= .code i b :: .inScope b::k}
 |.inScope _::k=> .next {c with todo:=k}
 |.code _ (.label _)::k=> .next {c with todo:=k}
 |.code _ (.goto l)::k=>match eN l k with
  |some k=> .next {c with todo:=k}
  |none=> .fail
 |.code _ (.rangeFunc x ps as bd)::k=>match c.st.bX with
  |.call=>Hh E c x ps as bd k
  |_=> .fail
 |.code _ _::_=> .fail
 |.inBlock _::k=> .next {c with todo:=k}
 |.inLoop i b::k=> .next {c with todo:= .code (i+1) b :: .inLoop i b::k,st:=iN (E.keep c.f (2*i)) c.st}
 |.forget keep::k=> .next {c with todo:=k,st:=forget keep c.st}
 |.ops bV ops i sure::k=>match ops[i]? with
  |none=> .next {c with todo:=k}
  |some o=>match ep ops c.st.tm o with
   |.yes=>K4 P E c bV o (.ops bV ops (i+1) false::k)
   |.no=>cond (fits c.st o.dst) (.next {c with todo:= .ops bV ops (i+1) false::k,st:=put c.st o.dst (.au [])}) .fail
   |.ask d b want=>match sure with
    |false=> .test b {c with todo:= .ops bV ops i true::k,st:=put c.st (some d) (sB true)} {c with todo:= .ops bV ops i true::k,st:=put c.st (some d) (sB false)}
    |true=>match b==want with
     |true=>K4 P E c bV o (.ops bV ops (i+1) false::k)
     |false=>cond (fits c.st o.dst) (.next {c with todo:= .ops bV ops (i+1) false::k,st:=put c.st o.dst (.au [])}) .fail
   |.lost=> .fail
end Go.Am
end
section
namespace Go.Am
structure bQ where
 g:FuncId
 args:List AV
 m:Mem
 v:AV
 m':Mem
def same (b b':Bool):Bool:=match b' with
 |true=>b
 |false=> !b
structure gO where
 v:AV
 us:nv
 fp:List Nat
 ld:Nat→aU→Bool
def T1 (P:Program) (ρ:Operand→AV) (o:Oper) (v:AV) (b:Nat) (x:aU):Bool:=
 match o.op with
 |.load t a=>match ρ a with
  |.mp c off=>ae c b&&(match kY P (fun _=>x) t (.mp c off) with
   |some (v',ok)=>ok&&ej v' v
   |none=>false)
  |_=>false
 |_=>false
def wm:nv→Nat→Option aU
 |[],_=>none
 |(i,x)::r,b=>match wm r b with
  |some y=>some y
  |none=>cond (ae i b) (some x) none
def abV:nv→Bool
 |[]=>true
 |_=>false
def Ac (o:Oper):Bool:=gF o||match o.op with
 |.alloc _ | .box .. | .buildSlice .. | .makeSlice .. | .store .. | .makeMap .. | .lookup .. | .mapUpdate .. | .insert .. =>true
 |.call c=>match c.callee with
  |.builtin .append | .builtin .copy | .builtin .unsafeSliceData | .builtin .unsafeString=>true
  |_=>false
 |_=>false
def Jf (ρ:Operand→AV) (o:Oper):List Nat:=
 match o.op with
 |.load _ a=>refs (ρ a)
 |.store _ a _=>refs (ρ a)
 |.convert _ _ x=>refs (ρ x)
 |.lookup _ x _ _=>refs (ρ x)
 |.mapUpdate _ x _ _=>refs (ρ x)
 |.insert _ x _ _=>refs (ρ x)
 |.call c=>match c.callee with
  |.builtin .append | .builtin .copy | .builtin .unsafeString=>iB (c.args.toList.map ρ)
  |_=>[]
 |_=>[]
def eu (n:Nat):Mem:=cf n .free
def oL (N nx:Nat) (ord:List Nat) (v:AV) (m1:Mem):gO:=
 let P9:=ord++List.range' nx (m1.length-ord.length)
 ⟨jx (bg P9 N) v,P9.zip (m1.map (gJ (bg P9 N))),P9,fun _ _=>false⟩
def oM (P:Program) (E:Env) (f _rid:Nat) (O:FuncId→List AV→Mem→Option (AV×Mem)) (nx:Nat) (o:Oper) (st:St):Option (gO×Nat×Bool):=
 match target (ev E st.tm) o with
 |some (g,args)=>
  let ord:=close st.mem 0 args
  match O g (eW (idx ord) args) (pack st.mem ord) with
  |some (v,m1)=>some (oL st.mem.length nx ord v m1,nx+(m1.length-ord.length),ag ord.length m1.length&&(iT ord nx&&ag (nx+(m1.length-ord.length)) st.mem.length))
  |none=>none
 |none=>match ug P (fun i=>st.mem.getD i .dead) (E.wr f (o.dst.getD 0)) nx (ev E st.tm) o with
  |some (v,us,ok)=>some (⟨v,us,us.map (·.1)++(Jf (ev E st.tm) o++cond (makes o) [nx] []),T1 P (ev E st.tm) o v⟩,cond (makes o) (nx+1) nx,
    ok&&(Ac o&&(iT (us.map (·.1)) (cond (makes o) (nx+1) nx)&&ag (cond (makes o) (nx+1) nx) st.mem.length)))
  |none=>none
def Hj (t:Option AV) (r:Option (gO×Nat×Bool)):Option (gO×Nat×Bool):=
 match t with
 |none=>r
 |some v=>match r with
  |some (d,nx,ok)=>some (⟨v,d.us,d.fp,d.ld⟩,nx,ok&&ej d.v v)
  |none=>none
def jj (P:Program) (E:Env) (f bV:Nat) (O:FuncId→List AV→Mem→Option (AV×Mem)) (nx:Nat) (o:Oper) (st:St):Option (gO×Nat×Bool):=
 Hj (E.told f (o.dst.getD 0)) (oM P E f bV O nx o st)
def iC (P:Program) (E:Env) (f bV:Nat) (O:FuncId→List AV→Mem→Option (AV×Mem)) (ops:Array Oper):List Oper→Nat→St→Option (St×Nat×List gO×Bool)
 |[],nx,st=>some (st,nx,[],true)
 |o::r,nx,st=>
  let skip:=match iC P E f bV O ops r nx (put st o.dst (.au [])) with
   |some (st',pG,ds,ok)=>some (st',pG,⟨.au [],[],[],fun _ _=>false⟩::ds,fits st o.dst&&ok)
   |none=>none
  let qN:=match jj P E f bV O nx o st with
   |some (d,jV,ok)=>match iC P E f bV O ops r jV (put {st with mem:=apply st.mem d.us} o.dst d.v) with
    |some (st',pG,ds,ok')=>some (st',pG,d::ds,ok&&(fits st o.dst&&ok'))
    |none=>none
   |none=>none
  match ep ops st.tm o with
  |.yes=>qN
  |.no=>skip
  |.ask _ b want=>match b==want with
   |true=>qN
   |false=>skip
  |.lost=>none
def BL (d e:gO):Bool:=abV e.us&&(d.us.map (·.1)).all fun b=> !has e.fp b||(match wm d.us b with
 |some x=>e.ld b x
 |none=>false)
def BM (L:List Nat) (i:Nat) (d:gO) (j:Nat) (e:gO):Bool:=bj (L.getD i 0) j||(!meet (e.us.map (·.1)) d.fp&&(!meet (d.us.map (·.1)) e.fp||BL d e))
def qP (L:List Nat) (i:Nat) (d:gO):Nat→List gO→Bool
 |_,[]=>true
 |j,e::r=>BM L i d j e&&qP L i d (j+1) r
def wo (L:List Nat):Nat→List gO→List gO→Bool
 |_,_,[]=>true
 |i,ni,d::r=>qP L i d 0 ni&&wo L (i+1) (ni++[d]) r
def vF:Mem→Bool
 |[]=>true
 |.free::r=>vF r
 |_::_=>false
def jW (P:Program) (E:Env) (f bV:Nat) (O:FuncId→List AV→Mem→Option (AV×Mem)) (ops:Array Oper) (st:St):Option (St×Bool):=
 match iC P E f bV O ops (ops.toList.take (gG ops)) st.mem.length {st with mem:=st.mem++eu (60+ops.size)} with
 |some (st',nx,ds,ok)=>some ({st' with mem:=st'.mem.take nx},ok&&(jU (fun _=>true) ops (masks [] ops.toList) 0 [] ops.toList&&(wo (masks [] ops.toList) 0 [] ds &&
   (vF (st'.mem.drop nx)&&(ag st.mem.length nx&&(P.follows .mixedOrders || !Region.departs ops))))))
 |none=>none
def init (P:Program) (g:FuncId) (args:List AV) (m:Mem):Option cw:=
 match P.funcs[g]? with
 |some fn=>match fn.body with
  |some c=>some {f:=g,todo:=[.code 0 c],st:={tm:=(upTo args.length).zip args,nt:=max fn.ntmps args.length,mem:=m,fix:=m.length}}
  |none=>none
 |none=>none
def Fl (tm:vQ):List Nat→List AV→vQ
 |d::ds,v::vs=>Fl ((d,v)::tm) ds vs
 |_,_=>tm
def Dc (args:List AV) (m:Mem):Option cw:=
 match args with
 |.vy i::xs=>match m.getD i .dead with
  |.ob (.loop f ps as bd _ _) vals=>cond (ae xs.length ps.toList.length&&iT ps.toList vals.length)
   (some {f:=f,todo:=[.code 0 as,.begin,.code 0 bd],st:={tm:=Fl ((upTo vals.length).zip vals) ps.toList xs,nt:=vals.length,mem:=m,fix:=m.length,bX:= .round i}}) none
  |_=>none
 |_=>none
def mz:List bQ→FuncId→List AV→Mem→Option (AV×Mem)
 |[],_,_,_=>none
 |q::r,g,args,m=>cond (ae q.g g&&(jS args q.args&&qJ m q.m)) (some (q.v,q.m')) (mz r g args m)
def Dd:Out→Out→Bool
 |.ret v m,.ret u n=>ej v u&&qJ m n
 |.za v m,.za u n=>ej v u&&qJ m n
 |_,_=>false
def agree:List (Option Out)→Option Out
 |[]=>none
 |[o]=>o
 |o::r=>match o,agree r with
  |some o,some p=>cond (Dd o p) (some p) none
  |_,_=>none
def isRec (o:Oper):Bool:=
 match o.op,o.guard with
 |.call c,none=>match c.callee,c.args.toList with
  |.builtin .recover,[]=>true
  |_,_=>false
 |_,_=>false
def wq:Nat→List It→Option (List It)
 |0,_=>none
 |n+1,todo=>match todo with
  |.ops bV ops i sure::k=>some (.ops bV ops i sure::k)
  |.code i (.seq a b)::k=>wq n (.code i a :: .code (i+nodes a) b::k)
  |.code _ (.region id ops false)::k=>wq n (.ops id ops 0 false::k)
  |.code i (.scope b)::k=>wq n (.code i b :: .inScope b::k)
  |.code i (.block id b)::k=>wq n (.code i b :: .inBlock id::k)
  |_=>none
def Tt (pv:Option AV) (c:cw):Option cw:=
 match c.todo with
 |.ops bV ops i _::k=>match ops[i]? with
  |some o=>cond (isRec o&&fits c.st o.dst) (some {c with todo:= .ops bV ops (i+1) false::k,st:=put c.st o.dst (pv.getD (.p (.sc .nilIface)))}) none
  |none=>none
 |_=>none
def De (P:Program) (g:FuncId) (args:List AV) (m:Mem) (pv:Option AV):Option cw:=
 match init P g args m with
 |some c=>match wq 20 c.todo with
  |some t=>Tt pv {c with todo:=t,st:={c.st with bX:= .late}}
  |none=>none
 |none=>none
def nF (ord:List Nat) (c:cw) (u:AV) (m1:Mem):cw:=
 {c with todo:=[.hJ (jx (bg ord c.st.mem.length) u)],st:=back ord none c.st (.au []) m1}
def exec (P:Program) (E:Env) (K:List bQ):Nat→cw→Option Out
 |0,_=>none
 |n+1,c=>match step P E c with
  |.next c=>exec P E K n c
  |.must b c=>cond b (exec P E K n c) none
  |.test b y z=>match b with
   |true=>exec P E K n y
   |false=>exec P E K n z
  |.call g args m ord dst c=>match mz K g args m with
   |some (v,m1)=>exec P E K n {c with st:=back ord dst c.st v m1}
   |none=>match init P g args m with
    |some ci=>match exec P E K n ci with
     |some (.ret v m1)=>exec P E K n {c with st:=back ord dst c.st v m1}
     |some (.za u m1)=>exec P E K n (nF ord c u m1)
     |none=>none
    |none=>none
  |.late g args m ord pv c=>match De P g args m pv with
   |some ci=>match exec P E K n ci with
    |some (.ret _ m1)=>exec P E K n {c with st:=back ord none c.st (.au []) m1}
    |_=>none
   |none=>none
  |.round args m ord dst c=>match Dc args m with
   |some ci=>match exec P E K n ci with
    |some (.ret v m1)=>exec P E K n {c with st:=back ord dst c.st v m1}
    |_=>none
   |none=>none
  |.range g args m ord L c=>match init P g args m with
   |some ci=>match exec P E K n ci with
    |some (.ret v m1)=>match gm (back ord none c.st v m1).mem L with
     |some (m2,pd)=>exec P E K n (behind c m2 pd)
     |none=>none
    |_=>none
   |none=>none
  |.draw bV ops c=>match jW P E c.f bV (fun g args m=>match mz K g args m with
     |some r=>some r
     |none=>match init P g args m with
      |some ci=>match exec P E K n ci with
       |some (.ret v m1)=>some (v,m1)
       |_=>none
      |none=>none) ops c.st with
   |some (st,ok)=>cond ok (exec P E K n {c with st:={st with cA:=c.st.cA,bX:=c.st.bX}}) none
   |none=>none
  |.fork l=>agree (l.map (exec P E K n))
  |.done o=>some o
  |.fail=>none
def Hl (P:Program) (E:Env) (K:List bQ) (n:Nat) (g:FuncId) (args:List AV) (m:Mem):Option Out:=
 match init P g args m with
 |some c=>exec P E K n c
 |none=>none
inductive Ans where
 |test (b:Bool)
 |call (v:AV) (m:Mem)
 |go
 |stop
inductive Fin where
 |out (o:Out)
 |at(c:cw)
end Go.Am
end
section
namespace Go.Am
open Go.RowKit
structure Gh where
 bP:Nat→Option Nat
 lo:Nat→Nat
 hi:Nat→Nat
 pure:Nat→Nat→Prop
def bu {α β:Type} (r:α→β→Prop):List α→List β→Prop
 |[],[]=>True
 |a::l,b::m=>r a b∧bu r l m
 |_,_=>False
section all2
variable {α β γ:Type} {r:α→β→Prop}
theorem bu.len : ∀{l:List α} {m:List β},bu r l m→l.length=m.length
 |[],[],_=>rfl
 |_::_,_::_,h=>congrArg (· + 1) (bu.len h.2)
 |[],_::_,h=>h.elim
 |_::_,[],h=>h.elim
theorem bu.mono {s:α→β→Prop} (Yy : ∀a b,r a b→s a b) : ∀{l:List α} {m:List β},bu r l m→bu s l m
 |[],[],_=>trivial
 |_::_,_::_,h=>⟨Yy _ _ h.1,bu.mono Yy h.2⟩
 |[],_::_,h=>h.elim
 |_::_,[],h=>h.elim
theorem bu.mem {s:α→β→Prop} : ∀{l:List α} {m:List β},(∀a b,a∈l→r a b→s a b)→bu r l m→bu s l m
 |[],[],_,_=>trivial
 |_::_,_::_,Yy,h=>⟨Yy _ _ (.head _) h.1,bu.mem (fun a b ha=>Yy a b (.tail _ ha)) h.2⟩
 |[],_::_,_,h=>h.elim
 |_::_,[],_,h=>h.elim
theorem bu.get : ∀{l:List α} {m:List β},bu r l m → ∀i (h:i<l.length) (h':i<m.length),r l[i] m[i]
 |_::_,_::_,h,0,_,_=>h.1
 |_::_,_::_,h,i+1,hi,hj=>bu.get h.2 i (aw hi) (aw hj)
 |[],[],_,_,h,_=>absurd h (Nat.not_lt_zero _)
 |[],_::_,h,_,_,_=>h.elim
 |_::_,[],h,_,_,_=>h.elim
theorem bu.dA : ∀{l:List α} {m:List β},l.length=m.length→(∀i (h:i<l.length) (h':i<m.length),r l[i] m[i])→bu r l m
 |[],[],_,_=>trivial
 |_::_,_::_,hl,h=>⟨h 0 (bc _) (bc _),bu.dA (Nat.succ.inj hl) fun i hi hj=>h (i+1) (be hi) (be hj)⟩
 |[],_::_,hl,_=>bm hl
 |_::_,[],hl,_=>bm hl
theorem bu.append : ∀{l l':List α} {m m':List β},bu r l m→bu r l' m'→bu r (l++l') (m++m')
 |[],_,[],_,_,h=>h
 |_::_,_,_::_,_,h,h'=>⟨h.1,bu.append h.2 h'⟩
 |[],_,_::_,_,h,_=>h.elim
 |_::_,_,[],_,h,_=>h.elim
theorem bu.drop : ∀{l:List α} {m:List β} (n:Nat),bu r l m→bu r (l.drop n) (m.drop n)
 |_,_,0,h=>h
 |[],[],_+1,_=>trivial
 |_::_,_::_,n+1,h=>bu.drop n h.2
 |[],_::_,_+1,h=>h.elim
 |_::_,[],_+1,h=>h.elim
theorem bu.take : ∀{l:List α} {m:List β} (n:Nat),bu r l m→bu r (l.take n) (m.take n)
 |[],[],0,_=>trivial
 |_::_,_::_,0,_=>trivial
 |[],[],_+1,_=>trivial
 |_::_,_::_,n+1,h=>⟨h.1,bu.take n h.2⟩
 |[],_::_,_,h=>h.elim
 |_::_,[],_,h=>h.elim
theorem bu.set : ∀{l:List α} {m:List β} (n:Nat) {a:α} {b:β},bu r l m→r a b→bu r (l.set n a) (m.set n b)
 |[],[],_,_,_,_,_=>trivial
 |_::_,_::_,0,_,_,h,hab=>⟨hab,h.2⟩
 |_::_,_::_,n+1,_,_,h,hab=>⟨h.1,bu.set n h.2 hab⟩
 |[],_::_,_,_,_,h,_=>h.elim
 |_::_,[],_,_,_,h,_=>h.elim
theorem bu.get? {l:List α} {m:List β} (h:bu r l m) {i:Nat} {a:α} (ha:l[i]? = some a) : ∃b,m[i]? = some b∧r a b:=by
 obtain⟨hi,rfl⟩:=List.getElem?_eq_some_iff.1 ha
 have hm:=h.len
 exact⟨m[i],cb (by omega),h.get i hi (by omega)⟩
theorem bu.getD {l:List α} {m:List β} (h:bu r l m) {i:Nat} (hi:i<l.length) (d:α) (e:β):r (l.getD i d) (m.getD i e):=by
 have hm:=h.len
 rw[ch,ch,cb hi,cb (by omega:i<m.length)]
 exact h.get i hi (by omega)
end all2
inductive VP (g:Gh) (w:World):PV→Value→Prop
 |sc (v:Value):VP g w (.sc v) v
 |pp (off:Nat) (cells:List PV) (b o:Nat) (f:Nat→Value) (hp : ∀k,k<cells.length→g.pure b (o+k)∧w.cell? ⟨b,o+k,none⟩=some (f k)∧(f k).oneCell'=true)
   (hv : ∀k (h:k<cells.length),VP g w cells[k] (f k)):VP g w (.pp off cells) (.pointer (some ⟨b,o+off,none⟩))
 |ps (len sz:Nat) (cells:List PV) (b o cap:Nat) (f:Nat→Value) (hl:cells.length=len*sz) (hc:len≤cap) (hz:1≤sz)
   (hp : ∀k,k<cells.length→g.pure b (o+k)∧w.cell? ⟨b,o+k,none⟩=some (f k)∧(f k).oneCell'=true)
   (hv : ∀k (h:k<cells.length),VP g w cells[k] (f k)):VP g w (.ps len sz cells) (.slice (some ⟨b,o,none⟩) len cap)
 |sS (sz:Nat) (a:Option Addr) (cap:Nat) (hz:1≤sz∨(a=none∧cap=0)):VP g w (.ps 0 sz []) (.slice a 0 cap)
 |nu (t:TypeId) (v:PV) (cv:Value) (h:VP g w v cv):VP g w (.nu t v) (.iface t cv)
inductive VA (g:Gh) (w:World):AV→Value→Prop
 |ah (v:Value):VA g w .ah v
 |p (v:PV) (cv:Value) (h:VP g w v cv):VA g w (.p v) cv
 |os (tok:Option Nat) (len sz:Nat) (cells:List PV) (a:Option Addr) (cap:Nat) (h:VP g w (.ps len sz cells) (.slice a len cap))
   (hr:cap=len ∨ ∃t b o,tok=some t∧a=some ⟨b,o,none⟩∧g.bP t=some b∧g.lo t=o+len*sz∧g.hi t=o+cap*sz∧len≤cap):VA g w (.os tok len sz cells) (.slice a len cap)
 |mp (b off c:Nat) (h:g.bP b=some c):VA g w (.mp b off) (.pointer (some ⟨c,off,none⟩))
 |ms (b off len sz cap c:Nat) (h:g.bP b=some c) (hc:len≤cap):VA g w (.ms b off len sz (some cap)) (.slice (some ⟨c,off,none⟩) len cap)
 |mg (b off len sz cap c:Nat) (h:g.bP b=some c) (hc:len≤cap) (hh:off+cap*sz≤g.hi b):VA g w (.ms b off len sz none) (.slice (some ⟨c,off,none⟩) len cap)
 |fn (f:Fn) (l k:List AV) (fa ca:Array Value) (hl:l.length=fa.toList.length) (hk:k.length=ca.toList.length)
   (h : ∀i (h:i<l.length) (h':i<fa.toList.length),VA g w l[i] fa.toList[i]) (h2 : ∀i (h:i<k.length) (h':i<ca.toList.length),VA g w k[i] ca.toList[i]):VA g w (.fn f l k) (.func f fa ca)
 |agg (l:List AV) (cs:Array Value) (hl:l.length=cs.toList.length) (h : ∀i (h:i<l.length) (h':i<cs.toList.length),VA g w l[i] cs.toList[i]):VA g w (.agg l) (.agg cs)
 |au (l:List AV) (cs:Array Value) (hl:l.length=cs.toList.length) (h : ∀i (h:i<l.length) (h':i<cs.toList.length),VA g w l[i] cs.toList[i]):VA g w (.au l) (.tuple cs)
 |nu (t:TypeId) (v:AV) (cv:Value) (h:VA g w v cv):VA g w (.nu t v) (.iface t cv)
 |vm (b c:Nat) (h:g.bP b=some c):VA g w (.vm b) (.map (some c))
 |vy (b c:Nat) (h:g.bP b=some c):VA g w (.vy b) (.func (.yield c) #[] #[])
abbrev cL (g:Gh) (w:World):List AV→List Value→Prop:=bu (VA g w)
abbrev Ho (g:Gh) (w:World):List PV→List Value→Prop:=bu (VP g w)
theorem VA.zk {g:Gh} {w:World} {l:List AV} {cs:Array Value}:VA g w (.agg l) (.agg cs)↔cL g w l cs.toList:=
 ⟨fun h=>by cases h with | agg _ _ hl h=>exact bu.dA hl h,fun h=> .agg l cs h.len fun i a b=>h.get i a b⟩
theorem VA.lF {g:Gh} {w:World} {l:List AV} {cs:Array Value}:VA g w (.au l) (.tuple cs)↔cL g w l cs.toList:=
 ⟨fun h=>by cases h with | au _ _ hl h=>exact bu.dA hl h,fun h=> .au l cs h.len fun i a b=>h.get i a b⟩
theorem VA.pv {g:Gh} {w:World} {v:PV} {cv:Value}:VA g w (.p v) cv↔VP g w v cv:=
 ⟨fun h=>by cases h with | p _ _ h=>exact h,.p v cv⟩
theorem VA.fns {g:Gh} {w:World} {f:Fn} {l k:List AV} {cv:Value}:VA g w (.fn f l k) cv ↔ ∃fa ca:Array Value,cv = .func f fa ca∧cL g w l fa.toList∧cL g w k ca.toList:=
 ⟨fun h=>by cases h with | fn _ _ _ fa ca hl hk h h2=>exact⟨fa,ca,rfl,bu.dA hl h,bu.dA hk h2⟩,
  fun⟨fa,ca,e,h,h2⟩=>e ▸ .fn f l k fa ca h.len h2.len (fun i a b=>h.get i a b) fun i a b=>h2.get i a b⟩
theorem VP.bw {g:Gh} {w:World} {cv:Value} (h:VP g w .bw cv):False:=by cases h
structure Ext (g:Gh) (w:World) (g':Gh) (w':World):Prop where
 bP : ∀i c,g.bP i=some c→g'.bP i=some c∧g'.lo i=g.lo i∧g'.hi i=g.hi i
 pure : ∀c o,g.pure c o→g'.pure c o∧w'.cell? ⟨c,o,none⟩=w.cell? ⟨c,o,none⟩
theorem Ext.refl (g:Gh) (w:World):Ext g w g w:=⟨fun _ _ h=>⟨h,rfl,rfl⟩,fun _ _ h=>⟨h,rfl⟩⟩
theorem Ext.trans {g g' g'':Gh} {w w' w'':World} (h:Ext g w g' w') (k:Ext g' w' g'' w''):Ext g w g'' w'':=
 ⟨fun i c e=>⟨(k.bP i c (h.bP i c e).1).1,(k.bP i c (h.bP i c e).1).2.1.trans (h.bP i c e).2.1,(k.bP i c (h.bP i c e).1).2.2.trans (h.bP i c e).2.2⟩,
  fun c o e=>⟨(k.pure c o (h.pure c o e).1).1,(k.pure c o (h.pure c o e).1).2.trans (h.pure c o e).2⟩⟩
theorem VP.mono {g g':Gh} {w w':World} (e : ∀c o,g.pure c o→g'.pure c o∧w'.cell? ⟨c,o,none⟩=w.cell? ⟨c,o,none⟩) {v:PV} {cv:Value} (h:VP g w v cv):VP g' w' v cv:=by
 induction h with
 |sc v=>exact .sc v
 |pp off cells b o f hp hv ih=>exact .pp off cells b o f (fun k hk=>⟨(e _ _ (hp k hk).1).1,(e _ _ (hp k hk).1).2.trans (hp k hk).2.1,(hp k hk).2.2⟩) ih
 |ps len sz cells b o cap f hl hc hz hp hv ih=>exact .ps len sz cells b o cap f hl hc hz (fun k hk=>⟨(e _ _ (hp k hk).1).1,(e _ _ (hp k hk).1).2.trans (hp k hk).2.1,(hp k hk).2.2⟩) ih
 |sS sz a cap hz=>exact .sS sz a cap hz
 |nu t v cv h ih=>exact .nu t v cv ih
theorem VA.mono {g g':Gh} {w w':World} (e:Ext g w g' w') {v:AV} {cv:Value} (h:VA g w v cv):VA g' w' v cv:=by
 induction h with
 |ah v=>exact .ah v
 |p v cv h=>exact .p v cv (h.mono e.pure)
 |os tok len sz cells a cap h hr=>
  refine .os tok len sz cells a cap (h.mono e.pure) (hr.imp id ?_)
  rintro ⟨t,b,o,rfl,rfl,hb,hlo,hhi,hc⟩
  exact⟨t,b,o,rfl,rfl,(e.bP t b hb).1,(e.bP t b hb).2.1.trans hlo,(e.bP t b hb).2.2.trans hhi,hc⟩
 |mp b off c h=>exact .mp b off c (e.bP b c h).1
 |ms b off len sz cap c h hc=>exact .ms b off len sz cap c (e.bP b c h).1 hc
 |mg b off len sz cap c h hc hh=>exact .mg b off len sz cap c (e.bP b c h).1 hc (by rw[(e.bP b c h).2.2];exact hh)
 |fn f l k fa ca hl hk h h2 ih ih2=>exact .fn f l k fa ca hl hk ih ih2
 |agg l cs hl h ih=>exact .agg l cs hl ih
 |au l cs hl h ih=>exact .au l cs hl ih
 |nu t v cv h ih=>exact .nu t v cv ih
 |vm b c h=>exact .vm b c (e.bP b c h).1
 |vy b c h=>exact .vy b c (e.bP b c h).1
theorem cL.mono {g g':Gh} {w w':World} (e:Ext g w g' w') {l:List AV} {cs:List Value} (h:cL g w l cs):cL g' w' l cs:=bu.mono (fun _ _=>VA.mono e) h
def Fc (g:Gh) (w:World) (l:List AV) (cs:List Value):Prop:=cL g w l cs ∧ ∀v∈cs,v.oneCell'=true
theorem Fc.mono {g g':Gh} {w w':World} (e:Ext g w g' w') {l:List AV} {cs:List Value} (h:Fc g w l cs):Fc g' w' l cs:=⟨h.1.mono e,h.2⟩
def aU.cells?:aU→Option (List AV)
 |.pc l=>some (l.map .p)
 |.ac l=>some l
 |_=>none
def aU.dB:aU→Bool
 |.pc _ | .ac _ | .tok | .ob .. =>true
 |_=>false
def gp (g:Gh) (m:Mem) (c:Nat):Prop:= ∃i b,m[i]? = some b∧b.dB=true∧g.bP i=some c
def entriesOf:List Value→List Value→List Nat→List MapEntry
 |k::ks,v::vs,b::bs=>{key:=k,val:=v,born:=b}::entriesOf ks vs bs
 |_,_,_=>[]
def aD.is:aD→Obj→List Value→Prop
 |.map keys Tr clock,ob,vs=>ob = .map (entriesOf keys vs Tr).toArray clock
 |.Jc,ob,vs=>ob = .deferred (some [])∧vs=[]
 |.shut,ob,vs=>ob = .deferred none∧vs=[]
 |.Yh,_,vs=>vs=[]
 |.gr t _,ob,vs=> ∃cs e n,ob = .cells cs e n∧e=t∧n.2≤n.1∧vs=cs.toList.take vs.length∧vs.length≤cs.size ∧ ∀v∈cs.toList,v.oneCell'=true
 |.stk t pre,ob,vs=> ∃cs e n,ob = .cells cs e n∧e=t∧n.2≤n.1∧pre++vs=cs.toList.take (pre.length+vs.length)∧pre.length+vs.length≤cs.size ∧ ∀v∈cs.toList,v.oneCell'=true
 |.gb t,ob,vs=> ∃cs e n,ob = .cells cs e n∧e=t∧n.2≤n.1∧vs=cs.toList.take vs.length∧vs.length≤cs.size∧(∀v∈cs.toList,∃k,v = .int .u8 k)∧cs.size≤9223372036854775807
 |.iter s pos,ob,vs=>ob = .stringIter s pos∧vs=[]
 |.P6 s pos more,ob,vs=>ob = .stringIter s pos∧vs=[]∧ar pos s.size=more
 |.smap ns,ob,vs=>vs=[] ∧ ∃bs clock,ob = .map (entriesOf (ns.map .string) (ns.map fun _=> .bool true) bs).toArray clock∧bs.length=ns.length
 |.Bz keys,ob,vs=> ∃es clock bs,ob = .map es clock∧keys.length=vs.length∧bs.length=vs.length∧es.toList.Perm (entriesOf keys vs bs)
 |.loop f ps a b st pd,ob,vs=> ∃D,ob = .loop {state:=st,pending:=pd,fn:=f,tmps:=vs.toArray,params:=ps,assign:=a,body:=b,defers:=D}
def aD.room:aD→Obj→Nat→Prop
 |.gr _ _,.cells cs _ _,h=>cs.size=h
 |.stk _ _,.cells cs _ _,h=>cs.size=h
 |.gb _,.cells cs _ _,h=>cs.size=h
 |_,_,_=>True
structure Rel (g:Gh) (m:Mem) (w:World):Prop where
 zb : ∀i,m.length≤i→g.bP i=none
 free : ∀i,m[i]? = some .free→g.bP i=none
 cells : ∀i b l,m[i]? = some b→b.cells?=some l → ∃c cs e n,g.bP i=some c∧w.heap[c]? = some (.cells cs e n)∧n.2≤n.1∧Fc g w l cs.toList ∧ ∀o,¬g.pure c o
 tok : ∀i c,m[i]? = some .tok→g.bP i=some c → ∃cs e n,w.heap[c]? = some (.cells cs e n)∧g.hi i≤cs.size∧(n.2≤n.1∨g.hi i≤n.1) ∧ ∀o,g.lo i≤o→o<g.hi i → ¬g.pure c o
 inj : ∀i j b b' c,m[i]? = some b→m[j]? = some b'→b.dB=true→b'.dB=true→g.bP i=some c→g.bP j=some c→i=j
 there : ∀c o,g.pure c o → ∃v,w.cell? ⟨c,o,none⟩=some v
 obs : ∀i k l,m[i]? = some (.ob k l) → ∃c ob vs,g.bP i=some c∧w.heap[c]? = some ob∧cL g w l vs∧k.is ob vs∧(∀o,¬g.pure c o)∧k.room ob (g.hi i)
theorem Rel.lG {g:Gh} {m:Mem} {w:World} (h:Rel g m w) {c:Nat} (ho:gp g m c):c<w.heap.size:=by
 obtain⟨i,b,hi,hb,hc⟩:=ho
 have lt : ∀{o:Obj},w.heap[c]? = some o→c<w.heap.size:=fun e=>by
  rcases Nat.lt_or_ge c w.heap.size with h | h
  · exact h
  · simp[Array.getElem?_eq_none h] at e
 cases b with
 |free=>simp[aU.dB] at hb
 |dead=>simp[aU.dB] at hb
 |pc l=>obtain⟨c',cs,e,n,h1,h2,_⟩:=h.cells i _ _ hi rfl;rw[hc] at h1;cases h1;exact lt h2
 |ac l=>obtain⟨c',cs,e,n,h1,h2,_⟩:=h.cells i _ _ hi rfl;rw[hc] at h1;cases h1;exact lt h2
 |tok=>obtain⟨cs,e,n,h2,_⟩:=h.tok i c hi hc;exact lt h2
 |ob k l=>obtain⟨c',ob,vs,h1,h2,_⟩:=h.obs i _ _ hi;rw[hc] at h1;cases h1;exact lt h2
theorem Rel.mA {g:Gh} {m:Mem} {w:World} (h:Rel g m w) {c o:Nat} (hp:g.pure c o):c<w.heap.size:=by
 obtain⟨v,hv⟩:=h.there c o hp
 exact World.block_lt_of_cell? (h:=hv)
structure dm (g:Gh) (m:Mem) (w:World) (g':Gh) (m':Mem) (w':World):Prop where
 size:w.heap.size≤w'.heap.size
 keep : ∀c,c<w.heap.size → ¬gp g m c→w'.heap[c]? = w.heap[c]?
 pure : ∀c o,g.pure c o→g'.pure c o∧w'.cell? ⟨c,o,none⟩=w.cell? ⟨c,o,none⟩
 fresh : ∀c o,g'.pure c o→g.pure c o∨gp g m c∨w.heap.size≤c
 owned : ∀c,gp g' m' c→gp g m c∨w.heap.size≤c
 os:w'.os=w.os
 tape:w'.tape=w.tape
 output:w'.output=w.output
theorem dm.refl (g:Gh) (m:Mem) (w:World):dm g m w g m w:=⟨bx _,fun _ _ _=>rfl,fun _ _ h=>⟨h,rfl⟩,fun _ _ h=> .inl h,fun _ h=> .inl h,rfl,rfl,rfl⟩
theorem dm.trans {g g' g'':Gh} {m m' m'':Mem} {w w' w'':World} (h:dm g m w g' m' w') (k:dm g' m' w' g'' m'' w''):dm g m w g'' m'' w'' where
 size:=ba h.size k.size
 keep c hc hn:=(k.keep c (Nat.lt_of_lt_of_le hc h.size) fun ho=>(h.owned c ho).elim hn fun hh=>absurd hc (Nat.not_lt.2 hh)).trans (h.keep c hc hn)
 pure c o hp:=⟨(k.pure c o (h.pure c o hp).1).1,(k.pure c o (h.pure c o hp).1).2.trans (h.pure c o hp).2⟩
 fresh c o hp:=by
  rcases k.fresh c o hp with h1 | h1 | h1
  · exact h.fresh c o h1
  · exact .inr (h.owned c h1)
  · exact .inr (.inr (ba h.size h1))
 owned c ho:=by
  rcases k.owned c ho with h1 | h1
  · exact h.owned c h1
  · exact .inr (ba h.size h1)
 os:=k.os.trans h.os
 tape:=k.tape.trans h.tape
 output:=k.output.trans h.output
theorem dm.less {g:Gh} {m m':Mem} {w:World} (h : ∀c,gp g m' c→gp g m c):dm g m w g m' w:=
 ⟨bx _,fun _ _ _=>rfl,fun _ _ h=>⟨h,rfl⟩,fun _ _ h=> .inl h,fun c ho=> .inl (h c ho),rfl,rfl,rfl⟩
end Go.Am
end
section
namespace Go.Am
theorem qb : ∀{a b:List UInt8},kM a b=true→a=b
 |[],[],_=>rfl
 |x::r,y::s,h=>by
  simp only[kM,c8] at h
  rw[qb h.2,UInt8.toNat_inj.1 (ai h.1)]
 |[],_::_,h=>by cases h
 |_::_,[],h=>by cases h
theorem K9 {a b:Value} (h:TY a b=true):a=b:=by
 unfold TY at h
 split at h
 · simp only[c8,BB,beq_iff_eq,decide_eq_true_eq] at h
   rw[h.1,h.2]
 · rename_i a b
   cases a<;>cases b<;>first
    |rfl
    |cases h
 · rename_i a b
   have:=qb h
   cases a with
   |mk a=>cases b with
    |mk b=>
     congr 1
     congr 1
     exact Array.toList_inj.1 this
 all_goals first
  |rfl
  |cases h
mutual
theorem BN : ∀{a b:PV},zh a b=true→a=b
 |.bw,b,h=>by cases b<;>first | rfl | cases h
 |.sc v,b,h=>by
  cases b<;>first
   |cases h
   |exact congrArg _ (K9 h)
 |.pp o l,b,h=>by
  cases b with
  |pp q m=>
   simp only[zh,c8] at h
   rw[ai h.1,nG h.2]
  |_=>cases h
 |.ps n z l,b,h=>by
  cases b with
  |ps k y m=>
   simp only[zh,c8] at h
   rw[ai h.1,ai h.2.1,nG h.2.2]
  |_=>cases h
 |.nu t v,b,h=>by
  cases b with
  |nu s u=>
   simp only[zh,c8] at h
   rw[ai h.1,BN h.2]
  |_=>cases h
theorem nG : ∀{a b:List PV},vU a b=true→a=b
 |[],b,h=>by cases b<;>first | rfl | cases h
 |x::r,b,h=>by
  cases b with
  |nil=>cases h
  |cons y s=>
   simp only[vU,c8] at h
   rw[BN h.1,nG h.2]
end
theorem La {a b:Option Nat} (h:eqO a b=true):a=b:=by
 cases a<;>cases b<;>first
  |rfl
  |cases h
  |exact congrArg _ (ai h)
mutual
theorem kO : ∀{a b:AV},ej a b=true→a=b
 |.ah,b,h=>by cases b<;>first | rfl | cases h
 |.p v,b,h=>by
  cases b<;>first
   |cases h
   |exact congrArg _ (BN h)
 |.os t n z l,b,h=>by
  cases b with
  |os s k y m=>
   simp only[ej,c8] at h
   rw[La h.1,ai h.2.1,ai h.2.2.1,nG h.2.2.2]
  |_=>cases h
 |.mp x o,b,h=>by
  cases b with
  |mp c q=>
   simp only[ej,c8] at h
   rw[ai h.1,ai h.2]
  |_=>cases h
 |.ms x o n z k,b,h=>by
  cases b with
  |ms c q m y j=>
   simp only[ej,c8] at h
   rw[ai h.1,ai h.2.1,ai h.2.2.1,ai h.2.2.2.1,La h.2.2.2.2]
  |_=>cases h
 |.fn f l m,b,h=>by
  cases b with
  |fn g k n=>
   cases f<;>cases g<;>first
    |cases h
    |(simp only[ej,c8] at h
      rw[ai h.1,fI h.2.1,fI h.2.2])
  |_=>cases f<;>cases h
 |.agg l,b,h=>by
  cases b<;>first
   |cases h
   |exact congrArg _ (fI h)
 |.au l,b,h=>by
  cases b<;>first
   |cases h
   |exact congrArg _ (fI h)
 |.nu t v,b,h=>by
  cases b with
  |nu s u=>
   simp only[ej,c8] at h
   rw[ai h.1,kO h.2]
  |_=>cases h
 |.vm x,b,h=>by
  cases b<;>first
   |cases h
   |exact congrArg _ (ai h)
 |.vy x,b,h=>by
  cases b<;>first
   |cases h
   |exact congrArg _ (ai h)
theorem fI : ∀{a b:List AV},jS a b=true→a=b
 |[],b,h=>by cases b<;>first | rfl | cases h
 |x::r,b,h=>by
  cases b with
  |nil=>cases h
  |cons y s=>
   simp only[jS,c8] at h
   rw[kO h.1,fI h.2]
end
theorem BO : ∀{a b:List Value},K0 a b=true→a=b
 |[],b,h=>by cases b<;>first | rfl | cases h
 |x::r,b,h=>by
  cases b with
  |nil=>cases h
  |cons y s=>
   simp only[K0,c8] at h
   rw[K9 h.1,BO h.2]
theorem Lb {a b:Value} (h:K1 a b=true):a=b:=by
 unfold K1 at h
 split at h
 · rw[Array.toList_inj.1 (BO h)]
 · cases h
theorem Ad : ∀{a b:List Value},BC a b=true→a=b
 |[],b,h=>by cases b<;>first | rfl | cases h
 |x::r,b,h=>by
  cases b with
  |nil=>cases h
  |cons y s=>
   simp only[BC,c8] at h
   rw[Lb h.1,Ad h.2]
theorem Ae : ∀{a b:List Nat},BD a b=true→a=b
 |[],b,h=>by cases b<;>first | rfl | cases h
 |x::r,b,h=>by
  cases b with
  |nil=>cases h
  |cons y s=>
   simp only[BD,c8] at h
   rw[ai h.1,Ae h.2]
theorem Jg {a b:Bool} (h:eL a b=true):a=b:=by cases a<;>cases b<;>first | rfl | cases h
theorem Lc {a b:aU} (h:G8 a b=true):a=b:=by
 unfold G8 at h
 split at h<;>first
  |rfl
  |cases h
  |exact congrArg _ (nG h)
  |exact congrArg _ (fI h)
  |(simp only[c8] at h;rw[Ad h.1,fI h.2];done)
  |(simp only[c8] at h;rw[ai h.1,fI h.2];done)
  |(simp only[c8] at h;rw[ai h.1,Jg h.2.1,fI h.2.2];done)
  |(simp only[c8] at h;rw[BO h.1,Ae h.2.1,ai h.2.2.1,fI h.2.2.2];done)
theorem lH : ∀{a b:Mem},qJ a b=true→a=b
 |[],b,h=>by cases b<;>first | rfl | cases h
 |x::r,b,h=>by
  cases b with
  |nil=>cases h
  |cons y s=>
   simp only[qJ,c8] at h
   rw[Lc h.1,lH h.2]
theorem wu : ∀{a b:List Bool},vE a b=true→a=b
 |[],b,h=>by cases b<;>first | rfl | cases h
 |x::r,b,h=>by
  cases b with
  |nil=>cases h
  |cons y s=>
   simp only[vE,c8] at h
   rw[wu h.2]
   have:=h.1
   cases x<;>cases y<;>first | rfl | cases this
end Go.Am
end
