import Derived.Orders
import Derived.WalkKit
import Derived.ChangeKeysEq
import Derived.DeepKeys3
open Nat renaming beq→a6,ble→a7,eq_of_beq_eq_true→a8,blt→ba,lt_of_succ_lt_succ→bc,le_trans→be,zero_lt_succ→bj,succ_lt_succ→bm,testBit→bx,noConfusion→cf,le_refl→ch,min→cp
open List renaming getElem?_eq_getElem→da,replicate→db,getD_eq_getElem?_getD→dd
open BitVec renaming ofInt→df
open Bool renaming and_eq_true→di
section
namespace Go.Am
inductive PV where
 |eR
 |sc (v:Value)
 |pp (off:Nat) (cells:List PV)
 |ps (len sz:Nat) (cells:List PV)
 |jF (t:TypeId) (v:PV)
 deriving Inhabited
inductive AV where
 |af
 |p (v:PV)
 |os (tok:Option Nat) (len sz:Nat) (cells:List PV)
 |mp (b off:Nat)
 |ms (b off len sz:Nat) (cap:Option Nat)
 |fn (f:Fn) (first captured:List AV)
 |agg (cells:List AV)
 |bn (vs:List AV)
 |jF (t:TypeId) (v:AV)
 |vm (b:Nat)
 |vy (b:Nat)
 deriving Inhabited
inductive fF where
 |map (keys:List Value) (Jg:List Nat) (clock:Nat)
 |DC
 |shut
 |loop (f:FuncId) (ps:Array Tmp) (assign body:Code) (state:LoopState) (pending:Option Code)
 |iter (s:ByteArray) (pos:Nat)
 |gr (t:TypeId) (q:Bool)
 |yj (keys:List Value)
 |Jh
 |P2 (s:ByteArray) (pos:Nat) (more:Bool)
 |stk (t:TypeId) (pre:List Value)
 |gb (t:TypeId)
 |smap (ns:List ByteArray)
 deriving Inhabited
inductive aF where
 |free
 |dead
 |pc (cells:List PV)
 |ac (cells:List AV)
 |tok
 |ob (k:fF) (vals:List AV)
 deriving Inhabited
abbrev Mem:=List aF
abbrev qo:=List (Nat×AV)
abbrev lY:=List (Nat×aF)
abbrev sI (k:IntKind) (n:Int):AV:= .p (.sc (.int k n))
abbrev sB (b:Bool):AV:= .p (.sc (.bool b))
def look:qo→Nat→AV
 |[],_=> .af
 |(k,v)::r,i=>cond (a6 k i) v (look r i)
def gM:Value→AV
 |.slice none 0 0=> .os none 0 0 []
 |v=> .p (.sc v)
def CA:Value→AV
 |.agg cs=> .agg (cs.toList.map gM)
 |.tuple vs=> .bn (vs.toList.map gM)
 |v=>gM v
def EA:AV→Option Value
 |.p (.sc v)=>some v
 |_=>none
def tU:List AV→Option (List Value)
 |[]=>some []
 |a::r=>match EA a,tU r with
  |some v,some vs=>some (v::vs)
  |_,_=>none
def BC:AV→Option Value
 |.p (.sc v)=>some v
 |.agg l=>(tU l).map fun vs=> .agg vs.toArray
 |.bn l=>(tU l).map fun vs=> .tuple vs.toArray
 |_=>none
def kP:AV→Bool
 |.p .eR=>false
 |.p (.sc v)=>v.oneCell'
 |.p _ | .os .. | .mp .. | .ms .. | .fn .. | .jF .. | .vm _ | .vy _=>true
 |_=>false
def jd:List AV→Bool
 |[]=>true
 |a::r=>kP a&&jd r
def cellsOf:AV→List AV×Bool
 |.agg l=>(l,jd l)
 |v=>([v],kP v)
def yl:AV→Option PV
 |.p v=>some v
 |.os _ len sz cells=>some (.ps len sz cells)
 |_=>none
def iN:List AV→Option (List PV)
 |[]=>some []
 |a::r=>match yl a,iN r with
  |some v,some vs=>some (v::vs)
  |_,_=>none
def sD:List AV→Bool
 |[]=>true
 |.p _::r=>sD r
 |_::_=>false
def zN:AV→PV
 |.p v=>v
 |_=> .eR
def DD (l:List AV):Option (List PV):=cond (sD l) (some (l.map zN)) none
def zO (l:List AV):aF:=
 match DD l with
 |some vs=> .pc vs
 |none=> .ac l
def bK {α:Type} (l:List α) (off:Nat):List α→List α
 |[]=>l
 |v::r=>bK (l.set off v) (off+1) r
def lS {α:Type} (d:α) (l:List α) (off:Nat):Nat→List α
 |0=>[]
 |n+1=>l.getD off d::lS d l (off+1) n
def gx {α:Type} (P:Program):Sem α→Option α
 |.pure a=>some a
 |.program k=>gx P (k P)
 |.mark _ k=>gx P k
 |_=>none
def rE (ρ:Operand→AV):List Operand→Bool
 |[]=>true
 |x::r=>(BC (ρ x)).isSome&&rE ρ r
def scalar (P:Program) (ρ:Operand→AV) (o:Oper):Option AV:=
 cond (rE ρ o.op.operands.toList)
  (match gx P (execOp (fun x=>(BC (ρ x)).getD undef) o) with
    |some (.value v)=>some (CA v)
    |_=>none)
  none
def eV (P:Program) (t:TypeId):Option Nat:=(P.info? t).map (·.size)
def Ht (P:Program) (t:TypeId):Option Bool:=
 match P.underlying t with
 |some (.struct _) | some (.array _ _)=>some true
 |some _=>some false
 |none=>none
def isInt (k:IntKind):PV→Bool
 |.sc (.int j _)=>j==k
 |_=>false
def bp:PV→Int
 |.sc (.int _ n)=>n
 |_=>0
def isBool:PV→Bool
 |.sc (.bool _)=>true
 |_=>false
def EB:PV→Bool
 |.sc (.bool b)=>b
 |_=>false
def isStr:PV→Bool
 |.sc (.string _)=>true
 |_=>false
def Ji:PV→ByteArray
 |.sc (.string s)=>s
 |_=> .empty
def dA:PV→Bool
 |.ps .. =>true
 |_=>false
def aJ:PV→Nat
 |.ps len _ _=>len
 |_=>0
def cO:PV→Nat
 |.ps _ sz _=>sz
 |_=>0
def aI:PV→List PV
 |.ps _ _ cs=>cs
 |_=>[]
def isOk:PV→Bool
 |.eR=>false
 |_=>true
def wZ (d:Option TypeDesc) (c:PV):PV×Bool:=
 match d with
 |some (.int k)=>(.sc (.int k (bp c)),isInt k c)
 |some .bool=>(.sc (.bool (EB c)),isBool c)
 |some .string=>(.sc (.string (Ji c)),isStr c)
 |some (.slice _)=>(.ps (aJ c) (cO c) (aI c),dA c)
 |_=>(c,isOk c)
def aE (d:Option TypeDesc):AV→AV×Bool
 |.p c=>(.p (wZ d c).1,(wZ d c).2)
 |v=>(v,true)
def tq (P:Program):Nat→TypeId→List (Option TypeDesc)
 |0,_=>[]
 |n+1,t=>match P.underlying t with
  |some (.struct fs)=>fs.toList.flatMap fun f=>tq P n f.type
  |some (.array k e)=>(db k (tq P n e)).flatten
  |d=>[d]
def oO:List (Option TypeDesc)→List AV→List AV×Bool
 |d::ds,a::r=>((aE d a).1::(oO ds r).1,(aE d a).2&&(oO ds r).2)
 |[],[]=>([],true)
 |_,_=>([],false)
def kQ (rd:Nat→aF) (a:AV) (n:Nat):Option (List AV×Bool):=
 match a with
 |.p (.pp off cs)=>some ((lS .eR cs off n).map .p,true)
 |.mp b off=>match rd b with
  |.pc l=>some ((lS .eR l off n).map .p,true)
  |.ac l=>some (lS .af l off n,a7 (off+n) l.length)
  |.ob (.gr _ _) l=>some (lS .af l off n,a7 (off+n) l.length)
  |.ob (.stk _ pre) l=>some (lS .af l (off-pre.length) n,a7 pre.length off&&a7 (off-pre.length+n) l.length)
  |_=>none
 |_=>none
def j5 (P:Program) (rd:Nat→aF) (t:TypeId) (a:AV):Option (AV×Bool):=
 match Ht P t,eV P t with
 |some true,some n=>(kQ rd a n).map fun r=>(.agg (oO (tq P 20 t) r.1).1,r.2&&(oO (tq P 20 t) r.1).2)
 |some false,some _=>match kQ rd a 1 with
  |some ([v],ok)=>some ((aE (P.underlying t) v).1,ok&&(aE (P.underlying t) v).2)
  |_=>none
 |_,_=>none
def zQ:AV→AV
 |.os _ len sz cs=> .p (.ps len sz cs)
 |v=>v
def EC (q:Bool) (vs:List AV):List AV:=cond q (vs.map zQ) vs
def oP (b:aF) (off:Nat) (vs:List AV):Option (aF×Bool):=
 match b with
 |.pc l=>match DD vs with
  |some bT=>some (.pc (bK l off bT),a7 (off+vs.length) l.length)
  |none=>some (.ac (bK (l.map .p) off vs),a7 (off+vs.length) l.length)
 |.ac l=>some (.ac (bK l off vs),a7 (off+vs.length) l.length)
 |.ob (.gr t q) l=>some (.ob (.gr t q) (bK l off (EC q vs)),a7 (off+vs.length) l.length)
 |.ob (.stk t pre) l=>some (.ob (.stk t pre) (bK l (off-pre.length) vs),a7 pre.length off&&a7 (off-pre.length+vs.length) l.length)
 |_=>none
abbrev jC:=Option (AV×lY×Bool)
def oQ (P:Program) (rd:Nat→aF) (t:TypeId) (a v:AV):jC:=
 match a,eV P t with
 |.mp b off,some n=>match oP (rd b) off (cellsOf v).1 with
  |some (b',ok)=>some (.bn [],[(b,b')],ok&&(cellsOf v).2&&a6 (cellsOf v).1.length n)
  |none=>none
 |_,_=>none
def checked (l:List AV):Option (List AV):=cond (jd l) (some l) none
def zeroCells (P:Program) (t:TypeId):Option (List AV):=
 match(P.info? t).bind (·.zero) with
 |some (.agg cs)=>checked (cs.toList.map gM)
 |some v=>checked [gM v]
 |none=>none
def ym (P:Program) (aK:Nat) (t:TypeId):jC:=
 (zeroCells P t).map fun l=>(.mp aK 0,[(aK,zO l)],true)
def tV (P:Program) (aK:Nat) (t:TypeId):jC:=
 (zeroCells P t).map fun l=>(.mp aK 0,[(aK,.ob (.gr t false) l)],true)
def ED (aK:Nat) (v:AV):jC:=some (.mp aK 0,[(aK,zO (cellsOf v).1)],(cellsOf v).2)
def rF (place:Nat→Option (Nat×Nat)) (cells:List AV):List (Nat×AV)→Option (List AV×Bool)
 |[]=>some (cells,true)
 |(i,v)::r=>match place i with
  |some (off,size)=>match rF place (bK cells off (cellsOf v).1) r with
   |some (cs,ok)=>some (cs,(cellsOf v).2&&a6 (cellsOf v).1.length size&&a7 (off+size) cells.length&&ok)
   |none=>none
  |none=>none
def placesOf (P:Program):List Field→Option (List (Nat×Nat))
 |[]=>some []
 |f::r=>match eV P f.type,placesOf P r with
  |some n,some l=>some ((f.offset,n)::l)
  |_,_=>none
def tr (P:Program) (t:TypeId) (parts:List (Nat×AV)):Option (AV×Bool):=
 match zeroCells P t,P.underlying t with
 |some z,some (.struct fields)=>match placesOf P fields.toList with
  |some pl=>(rF (fun i=>pl[i]?) z parts).map fun r=>(.agg r.1,r.2)
  |none=>none
 |some z,some (.array _ elem)=>match eV P elem with
  |some size=>(rF (fun i=>some (i*size,size)) z parts).map fun r=>(.agg r.1,r.2)
  |none=>none
 |_,_=>none
def bX {α:Type} (z:List α):Nat→List α
 |0=>[]
 |n+1=>z++bX z n
def zeros (P:Program) (elem:TypeId) (n:Nat):Option (List AV):=
 match eV P elem,zeroCells P elem with
 |some size,some z=>cond (a6 z.length size&&a7 1 size) (match z with
  |[v]=>some (db n v)
  |z=>some (bX z n)) none
 |_,_=>none
def EE (P:Program) (elem:TypeId) (n:Nat):Option aF:=
 match eV P elem,zeroCells P elem with
 |some size,some z=>cond (a6 z.length size&&a7 1 size) (match DD z with
  |some [v]=>some (.pc (db n v))
  |some z=>some (.pc (bX z n))
  |none=>some (.ac (bX z n))) none
 |_,_=>none
def BD (P:Program) (elem:TypeId) (wr:Bool) (cells:List AV):Option (List PV):=
 match wr,P.underlying elem with
 |true,some (.int .u8)=>none
 |_,_=>iN cells
def kR (P:Program) (wr:Bool) (aK:Nat) (t:TypeId) (len:Nat) (parts:List (Nat×AV)):jC:=
 match P.underlying t with
 |some (.slice elem)=>match eV P elem,zeros P elem len with
  |some size,some z=>match rF (fun i=>some (i*size,size)) z parts with
   |some (cells,ok)=>match wr,BD P elem wr cells with
    |false,some bT=>some (.os none len size bT,[],ok&&a7 (len*size) 16777216)
    |true,some bT=>some (.ms aK 0 len size none,[(aK,.ob (.gr elem true) (bT.map .p))],ok&&a7 (len*size) 16777216)
    |_,none=>some (.ms aK 0 len size (some len),[(aK,zO cells)],ok&&a7 (len*size) 16777216)
   |none=>none
  |_,_=>none
 |_=>none
def cE:Nat:=70368744177664
def lZ (P:Program) (aK:Nat) (t:TypeId) (len cap:AV):jC:=
 match P.underlying t,len,cap with
 |some (.slice elem),.p (.sc (.int _ l)),.p (.sc (.int _ c))=>match P.info? elem,EE P elem c.toNat with
  |some info,some aN=>some (.ms aK 0 l.toNat info.size (some c.toNat),[(aK,aN)],
    decide (0≤l)&&decide (l≤c)&&a7 c.toNat cE&&a7 (info.bytes*c.toNat) cE)
  |_,_=>none
 |_,_,_=>none
def n9 (P:Program) (t:TypeId) (len cap:AV):jC:=
 match P.underlying t,len,cap with
 |some (.slice elem),.p (.sc (.int _ l)),.p (.sc (.int _ c))=>match P.info? elem,zeroCells P elem with
  |some info,some [z]=>match yl z with
   |some pv=>some (.os none l.toNat 1 (db l.toNat pv),[],
     decide (0≤l)&&(decide (l=c)&&(a6 info.size 1&&(a7 c.toNat cE&&a7 (info.bytes*c.toNat) cE))))
   |none=>none
  |_,_=>none
 |_,_,_=>none
def kS:AV→Nat→Option AV
 |.p (.pp off cs),n=>some (.p (.pp (off+n) cs))
 |.mp b off,n=>some (.mp b (off+n))
 |_,_=>none
def jG (P:Program) (t:TypeId) (x:AV) (f:Nat):Option AV:=
 match P.underlying t with
 |some (.struct fields)=>match fields[f]? with
  |some fd=>match eV P fd.type with
   |some n=>cond (a7 1 n) (kS x fd.offset) none
   |none=>none
  |none=>none
 |_=>none
def partOf (P:Program) (t:TypeId) (cs:List AV) (off:Nat):Option (AV×Bool):=
 match Ht P t,eV P t with
 |some true,some n=>some (.agg (lS .af cs off n),a7 (off+n) cs.length)
 |some false,some _=>some (cs.getD off .af,ba off cs.length)
 |_,_=>none
def tv (P:Program) (t:TypeId) (x:AV) (f:Nat):Option (AV×Bool):=
 match P.underlying t,x with
 |some (.struct fields),.agg cs=>match fields[f]? with
  |some fd=>partOf P fd.type cs fd.offset
  |none=>none
 |_,_=>none
def fG (i:Int) (len:Nat):Bool:=decide (0≤i)&&decide (i<len)
def jH (P:Program) (t:TypeId) (x i:AV):Option (AV×Bool):=
 match i,P.underlying t with
 |.p (.sc (.int _ n)),some (.array len elem)=>match eV P elem with
  |some size=>(kS x (n.toNat*size)).map fun v=>(v,fG n len)
  |none=>none
 |.p (.sc (.int _ n)),some (.slice elem)=>match eV P elem,x with
  |some size,.p (.ps len sz cs)=>some (.p (.pp (n.toNat*size) cs),fG n len&&a6 sz size)
  |some size,.os _ len sz cs=>some (.p (.pp (n.toNat*size) cs),fG n len&&a6 sz size)
  |some size,.ms b off len sz _=>some (.mp b (off+n.toNat*size),fG n len&&a6 sz size)
  |_,_=>none
 |_,_=>none
def tw (P:Program) (t:TypeId) (x i:AV):Option (AV×Bool):=
 match x,i with
 |.agg cs,.p (.sc (.int _ n))=>match P.underlying t with
  |some (.array len elem)=>match eV P elem,partOf P elem cs (n.toNat*(eV P elem).getD 0) with
   |some _,some (v,ok)=>some (v,fG n len&&ok)
   |_,_=>none
  |_=>none
 |.p (.sc (.string s)),.p (.sc (.int _ n))=>match P.underlying t with
  |some .string=>some (sI .u8 (s.data.toList.getD n.toNat 0).toNat,fG n s.data.toList.length)
  |_=>none
 |_,_=>none
def bound (ρ:Operand→AV) (x:Option Operand) (dflt:Nat):Option (Nat×Bool):=
 match x with
 |none=>some (dflt,true)
 |some x=>match ρ x with
  |.p (.sc (.int _ n))=>some (n.toNat,decide (0≤n))
  |_=>none
def cut {α:Type} (cs:List α) (lo hi:Option Nat):List α:=
 match lo,hi with
 |none,none=>cs
 |some l,none=>cs.drop l
 |none,some h=>cs.take h
 |some l,some h=>(cs.take h).drop l
def times (x:Option Operand) (n sz:Nat):Option Nat:=x.map fun _=>n*sz
def nh (P:Program) (ρ:Operand→AV) (t:TypeId) (x:AV) (low high mx:Option Operand):Option (AV×Bool):=
 match P.underlying t with
 |some (.array n elem)=>match eV P elem,bound ρ low 0,bound ρ high n,mx,x with
  |some size,some (l,a),some (h,b),none,.mp i off=>some (.ms i (cond (a6 n l) off (off+l*size)) (h-l) size (some (n-l)),a&&b&&a7 l h&&a7 h n)
  |_,_,_,_,_=>none
 |some (.slice elem)=>match eV P elem,bound ρ low 0,x with
  |some size,some (l,a),.p (.ps len sz cs)=>match bound ρ high len,mx with
   |some (h,b),none=>some (.p (.ps (h-l) size (cut cs (times low l size) (times high h size))),a&&b&&a7 l h&&a7 h len&&a6 sz size)
   |some (h,b),some m=>match bound ρ (some m) 0 with
    |some (m,c)=>some (.os none (h-l) size (cut cs (times low l size) (times high h size)),a&&b&&c&&a7 l h&&a7 h len&&a6 m h&&(high.isSome&&a6 sz size))
    |none=>none
   |_,_=>none
  |some size,some (l,a),.os tok len sz cs=>match bound ρ high len,mx with
   |some (h,b),none=>match high with
    |none=>some (.os tok (h-l) size (cut cs (times low l size) none),a&&b&&a7 l h&&(a6 sz size||(a6 len 0&&(a7 1 size&&tok.isNone))))
    |some _=>match tok,a6 h len with
     |none,true=>some (.os none (h-l) size (cut cs (times low l size) (some (h*size))),a&&b&&a7 l h&&a7 h len&&(a6 sz size||(a6 len 0&&a7 1 size)))
     |_,_=>some (.p (.ps (h-l) size (cut cs (times low l size) (some (h*size)))),a&&b&&a7 l h&&a7 h len&&(a6 sz size||(a6 len 0&&a7 1 size)))
   |some (h,b),some m=>match bound ρ (some m) 0 with
    |some (m,c)=>some (.os none (h-l) size (cut cs (times low l size) (times high h size)),a&&b&&c&&a7 l h&&a7 h len&&a6 m h&&(high.isSome&&(a6 sz size||(a6 len 0&&a7 1 size))))
    |none=>none
   |_,_=>none
  |some size,some (l,a),.ms i off len sz none=>match bound ρ high len,mx with
   |some (h,b),none=>some (.ms i (off+l*size) (h-l) size none,a&&b&&a7 l h&&a7 h len&&a6 sz size&&(a6 l 0||ba l len))
   |some (h,b),some m=>match bound ρ (some m) 0 with
    |some (m,c)=>some (.ms i (cond (a6 m l) off (off+l*size)) (h-l) size (some (m-l)),a&&b&&c&&a7 l h&&a7 h m&&a7 m len&&(high.isSome&&a6 sz size))
    |none=>none
   |_,_=>none
  |some size,some (l,a),.ms i off len sz (some cap)=>match bound ρ high len,mx with
   |some (h,b),none=>some (.ms i (cond (a6 cap l) off (off+l*size)) (h-l) size (some (cap-l)),a&&b&&a7 l h&&a7 h cap&&a6 sz size)
   |_,_=>none
  |_,_,_=>none
 |some .string=>match bound ρ low 0,x,mx with
  |some (l,a),.p (.sc (.string s)),none=>match bound ρ high s.data.toList.length with
   |some (h,b)=>some (.p (.sc (.string (s.extract l h))),a&&b&&a7 l h&&a7 h s.data.toList.length)
   |none=>none
  |_,_,_=>none
 |_=>none
def byteOf:PV→UInt8
 |.sc (.int .u8 n)=>UInt8.ofNat n.toNat
 |_=>0
def isByte:PV→Bool
 |.sc (.int .u8 _)=>true
 |_=>false
def EF (b:UInt8):PV:= .sc (.int .u8 b.toNat)
def contents (rd:Nat→aF) (sz:Nat):AV→Option (Nat×List PV×Bool)
 |.p (.ps len s cs)=>some (len,cs,a6 s sz||(a6 len 0&&a7 1 sz))
 |.os _ len s cs=>some (len,cs,a6 s sz||(a6 len 0&&a7 1 sz))
 |.ms b off len s (some _)=>match rd b with
  |.pc l=>some (len,(l.drop off).take (len*sz),a6 s sz&&a7 (off+len*sz) l.length)
  |.ac l=>(iN ((l.drop off).take (len*sz))).map fun bT=>(len,bT,a6 s sz&&a7 (off+len*sz) l.length)
  |.ob (.gr _ true) l=>some (len,((l.drop off).take (len*sz)).map zN,sD ((l.drop off).take (len*sz))&&(a6 s sz&&a7 (off+len*sz) l.length))
  |.ob (.gr _ false) l=>(iN ((l.drop off).take (len*sz))).map fun bT=>(len,bT,a6 s sz&&a7 (off+len*sz) l.length)
  |_=>none
 |.ms b off len s none=>match rd b with
  |.ob (.gr _ true) l=>some (len,((l.drop off).take (len*sz)).map zN,sD ((l.drop off).take (len*sz))&&(a6 s sz&&a7 (off+len*sz) l.length))
  |.ob (.gr _ false) l=>(iN ((l.drop off).take (len*sz))).map fun bT=>(len,bT,a6 s sz&&a7 (off+len*sz) l.length)
  |.ob (.gb _) l=>some (len,((l.drop off).take (len*sz)).map zN,sD ((l.drop off).take (len*sz))&&(a6 s sz&&a7 (off+len*sz) l.length))
  |_=>none
 |.p (.sc (.string s))=>some (s.data.toList.length,s.data.toList.map EF,a6 sz 1)
 |_=>none
def convertOp (P:Program) (rd:Nat→aF) (aK:Nat) (ρ:Operand→AV) (o:Oper) (src dst:TypeId) (x:AV):jC:=
 match P.underlying dst,x with
 |some (.int k),.p (.sc (.int _ n))=>match P.underlying src with
  |some _=>some (sI k (k.wrap n),[],true)
  |none=>none
 |some .string,.p (.sc (.string s))=>match P.underlying src with
  |some .string=>some (.p (.sc (.string s)),[],true)
  |_=>none
 |some (.slice e),.p (.sc (.string s))=>match P.underlying src,P.underlying e with
  |some .string,some (.int .u8)=>some (.os (some aK) s.data.toList.length 1 (s.data.toList.map EF),[(aK,.tok)],true)
  |_,_=>none
 |some (.slice e),.ms b off len sz (some _)=>match P.underlying src,P.underlying e,rd b with
  |some (.slice _),some (.int .u8),.pc l=>some (.p (.ps len 1 ((l.drop off).take len)),[(b,.dead)],a6 src dst&&(a6 sz 1&&a7 (off+len) l.length))
  |_,_,_=>none
 |some .unsafePointer,.mp b off=>match P.underlying src,rd b with
  |some (.pointer t),.ob (.gr _ _) l=>match P.info? t with
   |some j=>some (.mp b off,[],a7 1 j.size&&ba off l.length)
   |none=>none
  |_,_=>none
 |some (.pointer u),.mp b 0=>match P.underlying src,rd b with
  |some .unsafePointer,.ob (.gr t _) l=>match P.info? u with
   |some _=>some (.mp b 0,[],a6 t u&&(a7 1 (P.cellsOf u)&&a7 (P.cellsOf u) l.length))
   |none=>none
  |_,_=>none
 |some .string,x=>match P.underlying src with
  |some (.slice e)=>match P.underlying e with
   |some (.int .u8)=>match contents rd 1 x with
    |some (_,bT,ok)=>some (.p (.sc (.string ⟨(bT.map byteOf).toArray⟩)),[],ok&&bT.all isByte)
    |none=>none
   |_=>none
  |_=>none
 |_,_=>(scalar P ρ o).map fun v=>(v,[],true)
def jI:AV→Bool
 |.p (.sc (.pointer none)) | .p (.sc .nilFunc) | .p (.sc .nilIface)=>true
 |_=>false
def jJ:AV→Bool
 |.p (.pp ..) | .mp .. | .fn .. | .p (.jF ..) | .jF .. =>true
 |_=>false
def BE (op:BinOp) (k:IntKind) (x:Int) (yk:IntKind) (y:Int):Option (Value×Bool):=
 match op with
 |.add=>some (.int k (k.wrap (x+y)),k==yk)
 |.sub=>some (.int k (k.wrap (x-y)),k==yk)
 |.mul=>some (.int k (k.wrap (x*y)),k==yk)
 |.quo=>some (.int k (k.wrap (x.tdiv y)),k==yk && !(y==0))
 |.rem=>some (.int k (x.tmod y),k==yk && !(y==0))
 |.and=>some (.int k (k.wrap (df k.bits x&&&df k.bits y).toNat),k==yk)
 |.or=>some (.int k (k.wrap (df k.bits x|||df k.bits y).toNat),k==yk)
 |.xor=>some (.int k (k.wrap (df k.bits x ^^^ df k.bits y).toNat),k==yk)
 |.andNot=>some (.int k (k.wrap (df k.bits x &&& ~~~df k.bits y).toNat),k==yk)
 |.shl=>some (.int k (k.wrap (x*2 ^ min y.toNat k.bits)),decide (0≤y))
 |.shr=>some (.int k (x.fdiv (2 ^ min y.toNat k.bits)),decide (0≤y))
 |.eql=>some (.bool (x==y),k==yk)
 |.neq=>some (.bool (x != y),k==yk)
 |.lss=>some (.bool (x<y),k==yk)
 |.leq=>some (.bool (x≤y),k==yk)
 |.gtr=>some (.bool (x>y),k==yk)
 |.geq=>some (.bool (x≥y),k==yk)
def BF (op:BinOp) (x y:ByteArray):Option (Value×Bool):=
 match op with
 |.add=>some (.string (x++y),a7 (x.data.toList.length+y.data.toList.length) cE)
 |.eql=>some (.bool (x.data.toList==y.data.toList),true)
 |.neq=>some (.bool (!(x.data.toList==y.data.toList)),true)
 |.lss=>some (.bool (Op.bytesLess x.data.toList y.data.toList),true)
 |_=>none
def gy (P:Program):Nat→List Field→List AV→List AV→Option Bool
 |_,[],[],[]=>some true
 |i,f::fs,x::xs,y::ys=>match P.underlying f.type,x,y with
  |some (.int _),.p (.sc (.int k a)),.p (.sc (.int k' b))=>cond (k==k'&&a6 f.offset i&&f.name != "_" && P.plainKey f.type) ((gy P (i+1) fs xs ys).map fun r=>(a==b)&&r) none
  |some .bool,.p (.sc (.bool a)),.p (.sc (.bool b))=>cond (a6 f.offset i&&f.name != "_" && P.plainKey f.type) ((gy P (i+1) fs xs ys).map fun r=>(a==b)&&r) none
  |some .string,.p (.sc (.string a)),.p (.sc (.string b))=>cond (a6 f.offset i&&f.name != "_" && P.plainKey f.type) ((gy P (i+1) fs xs ys).map fun r=>(a.data.toList==b.data.toList)&&r) none
  |_,_,_=>none
 |_,_,_,_=>none
def zR (P:Program) (t:TypeId) (x y:AV):Option Bool:=match x,y with
 |.agg xs,.agg ys=>match P.underlying t with
  |some (.struct fs)=>cond (!P.stoodInHeld t && !P.eqGuardType P.depth t) (gy P 0 fs.toList xs ys) none
  |_=>none
 |_,_=>none
def CB (P:Program) (o:Oper) (x y:AV):Option Bool:=match o.op with
 |.binOp _ t _ _ _=>zR P t x y
 |_=>none
def oS (P:Program) (ρ:Operand→AV) (o:Oper) (op:BinOp) (x y:AV):Option (AV×Bool):=
 match x,y with
 |.p (.sc (.int k a)),.p (.sc (.int k' b))=>(BE op k a k' b).map fun r=>(.p (.sc r.1),r.2)
 |.p (.sc (.string a)),.p (.sc (.string b))=>(BF op a b).map fun r=>(.p (.sc r.1),r.2)
 |x,y=>match op with
  |.eql=>match CB P o x y with
   |some b=>some (sB b,true)
   |none=>cond ((jI x&&jJ y)||(jJ x&&jI y)) none ((scalar P ρ o).map fun v=>(v,true))
  |.neq=>match CB P o x y with
   |some b=>some (sB !b,true)
   |none=>cond ((jI x&&jJ y)||(jJ x&&jI y)) none ((scalar P ρ o).map fun v=>(v,true))
  |_=>none
def tW (P:Program) (ρ:Operand→AV) (o:Oper) (op:UnOp) (x:AV):Option (AV×Bool):=
 match op,x with
 |.not,.p (.sc (.bool b))=>some (sB !b,true)
 |.neg,.p (.sc (.int k n))=>some (sI k (k.wrap (0-n)),true)
 |_,_=>(scalar P ρ o).map fun v=>(v,true)
def ni (rd:Nat→aF) (aK:Nat):Option Nat→Option lY
 |none=>some [(aK,.tok)]
 |some t=>match rd t with
  |.tok=>some [(t,.dead),(aK,.tok)]
  |_=>none
def ia (P:Program) (rd:Nat→aF) (aK:Nat) (argTypes:Array TypeId) (s x:AV):jC:=
 match argTypes[0]?,argTypes[1]? with
 |some sType,some xType=>match P.underlying sType,P.underlying xType with
  |some (.slice _),some (.int _)=>none
  |some (.slice elem),some _=>match P.info? elem,zeroCells P elem with
   |some info,some z=>match contents rd info.size x,s with
    |some (n,bT,ok),.os tok len sz cs=>(ni rd aK tok).map fun us=>(.os (some aK) (len+n) info.size (cs++bT),us,
      ok&&(a6 sz info.size||(a6 len 0&&tok.isNone))&&a7 1 info.size&&a6 z.length info.size&&a7 ((len+n)*info.bytes) cE&&a7 (len+n) cE)
    |_,_=>none
   |_,_=>none
  |_,_=>none
 |_,_=>none
def iW:aF→Option (List AV)
 |.pc l=>some (l.map .p)
 |.ac l=>some l
 |.ob (.gr _ _) l=>some l
 |_=>none
def cg (rd:Nat→aF) (sz:Nat) (x:AV):Option (Nat×List AV×Bool):=
 match contents rd sz x with
 |some (n,bT,ok)=>some (n,bT.map .p,ok)
 |none=>match x with
  |.ms b off len s (some _)=>match rd b with
   |.ac l=>some (len,((l.drop off).take (len*sz)).map zQ,a6 s sz&&a7 (off+len*sz) l.length)
   |_=>none
  |_=>none
def je (rd:Nat→aF) (sz:Nat) (x:AV):Bool:=(contents rd sz x).isSome
def LP:aF→Bool
 |.pc _=>true
 |.ob (.gr _ q) _=>q
 |_=>false
def LQ:Option TypeDesc→Bool
 |some (.int .u8)=>true
 |_=>false
def LR:AV→Bool
 |.p v=>isByte v
 |_=>false
def allBy:List AV→Bool
 |[]=>true
 |a::r=>LR a&&allBy r
def eW (P:Program) (rd:Nat→aF) (aK:Nat) (argTypes:Array TypeId) (s x:AV):jC:=
 match argTypes[0]?,argTypes[1]? with
 |some sType,some xType=>match P.underlying sType,P.underlying xType with
  |some (.slice _),some (.int _)=>none
  |some (.slice elem),some _=>match P.info? elem,zeroCells P elem with
   |some info,some z=>match cg rd info.size x with
    |some (n,bT,ok)=>
     let fits:=fun(len:Nat)=>ok&&(a7 1 info.size&&(a6 z.length info.size&&(a7 ((len+n)*info.bytes) cE&&a7 (len+n) cE)))
     match s with
     |.ms b 0 len sz none=>match rd b with
      |.ob (.gr t q) l=>some (.ms aK 0 (len+n) sz none,[(b,.dead),(aK,.ob (.gr t (q&&je rd info.size x)) (l.take (len*sz)++bT))],fits len&&(a6 sz info.size&&(a7 (len*sz) l.length&&a6 t elem)))
      |.ob (.gb t) l=>some (.ms aK 0 (len+n) sz none,[(b,.dead),(aK,.ob (.gb t) (l++bT))],fits len&&(a6 sz info.size&&(a6 (len*sz) l.length&&(a6 t elem&&(a6 info.size 1&&(allBy z&&allBy bT))))))
      |.ob (.stk t pre) l=>some (.ms aK 0 (len+n) sz none,[(b,.dead),(aK,.ob (.stk t pre) (l.take (len*sz-pre.length)++bT))],fits len&&(a6 sz info.size&&(a7 (len*sz) (pre.length+l.length)&&(a6 t elem&&a7 pre.length (len*sz)))))
      |_=>none
     |.os none len sz cells=>match a6 n 0 with
      |true=>some (.os none len sz cells,[],fits len)
      |false=>match LQ (P.underlying elem) with
       |true=>some (.ms aK 0 (len+n) info.size none,[(aK,.ob (.gb elem) (cells.map .p++bT))],fits len&&((a6 sz info.size||(a6 len 0&&a7 1 info.size))&&(allBy (cells.map .p)&&(a6 info.size 1&&(allBy z&&allBy bT)))))
       |false=>some (.ms aK 0 (len+n) info.size none,[(aK,.ob (.gr elem (je rd info.size x)) (cells.map .p++bT))],fits len&&(a6 sz info.size||(a6 len 0&&a7 1 info.size)))
     |.ms b 0 len sz (some cap)=>match iW (rd b) with
      |some l=>cond (a7 (len+n) cap)
       (match oP (rd b) (len*sz) (bT) with
         |some (b',ok')=>some (.ms b 0 (len+n) sz (some cap),[(b,b')],fits len&&(ok'&&a6 sz info.size))
         |none=>none)
       (some (.ms aK 0 (len+n) sz none,[(aK,.ob (.gr elem (LP (rd b)&&je rd info.size x)) (l.take (len*sz)++bT))],fits len&&(a6 sz info.size&&a7 (len*sz) l.length)))
      |none=>none
     |_=>none
    |none=>none
   |_,_=>none
  |_,_=>none
 |_,_=>none
def l5:AV→AV
 |.p (.ps 0 0 _)=> .os none 0 0 []
 |v=>v
def JG:AV→Bool
 |.ms .. =>true
 |_=>false
def qp (P:Program) (rd:Nat→aF) (argTypes:Array TypeId) (d s:AV):jC:=
 match argTypes[0]? with
 |some t=>match P.underlying t with
  |some (.slice elem)=>match eV P elem with
   |some size=>match contents rd size s,d with
    |some (n,bT,ok),.ms b off len sz (some _)=>match rd b with
     |.pc l=>some (sI .i64 (cp n len),[(b,.pc (l.take off++bT.take (cp n len*size)++l.drop (off+cp n len*size)))],
        ok&&a6 sz size&&a7 (off+len*size) l.length)
     |_=>none
    |_,_=>none
   |none=>none
  |_=>none
 |none=>none
def EG (P:Program) (argTypes:Array TypeId) (x:AV):Option AV:=
 match argTypes[0]? with
 |some t=>match P.underlying t,x with
  |some (.slice _),.p (.ps len _ _)=>some (sI .i64 len)
  |some (.slice _),.os _ len _ _=>some (sI .i64 len)
  |some (.slice _),.ms _ _ len _ _=>some (sI .i64 len)
  |some .string,.p (.sc (.string s))=>some (sI .i64 s.data.toList.length)
  |some (.array n _),_=>some (sI .i64 n)
  |_,_=>none
 |none=>none
def EH (P:Program) (argTypes:Array TypeId) (x:AV):Option AV:=
 match argTypes[0]? with
 |some t=>match P.underlying t,x with
  |some (.slice _),.ms _ _ _ _ (some cap)=>some (sI .i64 cap)
  |some (.slice _),.os none len _ _=>some (sI .i64 len)
  |some (.slice _),.p (.ps 0 0 _)=>some (sI .i64 0)
  |_,_=>none
 |none=>none
def l6 (P:Program) (t:TypeId) (x:AV):Option AV:=
 match P.underlying t with
 |some (.interface _)=>none
 |some _=>match x with
  |.p (.sc v)=>some (.p (.sc (.iface t v)))
  |.p v=>some (.p (.jF t v))
  |x=>some (.jF t x)
 |none=>none
def jf (P:Program) (ρ:Operand→AV) (o:Oper) (x:AV):Option AV:=
 match x with
 |.p (.pp off cs)=>some (.p (.pp off cs))
 |.mp b off=>some (.mp b off)
 |.fn (.func f) a b=>some (.fn (.func f) a b)
 |_=>scalar P ρ o
def iO (r:Option AV):jC:=r.map fun v=>(v,[],true)
def gz (r:Option (AV×Bool)):jC:=r.map fun v=>(v.1,[],v.2)
def EI (j k:IntKind):Bool:=j==k
def jK:List UInt8→List UInt8→Bool
 |[],[]=>true
 |a::r,b::s=>a6 a.toNat b.toNat&&jK r s
 |_,_=>false
def yq:Bool→Bool→Bool
 |true,true=>true
 |false,false=>true
 |_,_=>false
def LS:Value→Value→Bool
 |.int j a,.int k b=>EI j k&&decide (a=b)
 |.bool a,.bool b=>yq a b
 |.string a,.string b=>jK a.data.toList b.data.toList
 |.pointer none,.pointer none=>true
 |.slice none 0 0,.slice none 0 0=>true
 |.map none,.map none=>true
 |.nilFunc,.nilFunc=>true
 |.nilIface,.nilIface=>true
 |_,_=>false
def EJ:List Value→List Value→Bool
 |[],[]=>true
 |a::r,b::s=>LS a b&&EJ r s
 |_,_=>false
mutual
def zS:PV→PV→Bool
 |.eR,.eR=>true
 |.sc v,.sc u=>LS v u
 |.pp o l,.pp q m=>a6 o q&&tX l m
 |.ps n z l,.ps k y m=>a6 n k&&(a6 z y&&tX l m)
 |.jF t v,.jF s u=>a6 t s&&zS v u
 |_,_=>false
def tX:List PV→List PV→Bool
 |[],[]=>true
 |a::r,b::s=>zS a b&&tX r s
 |_,_=>false
end
def LU:Option Nat→Option Nat→Bool
 |none,none=>true
 |some a,some b=>a6 a b
 |_,_=>false
mutual
def cR:AV→AV→Bool
 |.af,.af=>true
 |.p v,.p u=>zS v u
 |.os t n z l,.os s k y m=>LU t s&&(a6 n k&&(a6 z y&&tX l m))
 |.mp b o,.mp c q=>a6 b c&&a6 o q
 |.ms b o n z k,.ms c q m y j=>a6 b c&&(a6 o q&&(a6 n m&&(a6 z y&&LU k j)))
 |.fn (.func f) l m,.fn (.func g) k n=>a6 f g&&(jM l k&&jM m n)
 |.agg l,.agg m=>jM l m
 |.bn l,.bn m=>jM l m
 |.jF t v,.jF s u=>a6 t s&&cR v u
 |.vm b,.vm c=>a6 b c
 |.vy b,.vy c=>a6 b c
 |_,_=>false
def jM:List AV→List AV→Bool
 |[],[]=>true
 |a::r,b::s=>cR a b&&jM r s
 |_,_=>false
end
def EK (a b:Value):Bool:=
 match a,b with
 |.agg x,.agg y=>EJ x.toList y.toList
 |_,_=>false
def yu:List Value→List Value→Bool
 |[],[]=>true
 |a::r,b::s=>EK a b&&yu r s
 |_,_=>false
def yw:List Nat→List Nat→Bool
 |[],[]=>true
 |a::r,b::s=>a6 a b&&yw r s
 |_,_=>false
def CC:aF→aF→Bool
 |.free,.free=>true
 |.dead,.dead=>true
 |.tok,.tok=>true
 |.pc l,.pc m=>tX l m
 |.ac l,.ac m=>jM l m
 |.ob (.gr t q) l,.ob (.gr u r) m=>a6 t u&&(yq q r&&jM l m)
 |.ob (.gb t) l,.ob (.gb u) m=>a6 t u&&jM l m
 |.ob .Jh [],.ob .Jh []=>true
 |.ob (.map ks bs c) l,.ob (.map js ds d) m=>EJ ks js&&(yw bs ds&&(a6 c d&&jM l m))
 |.ob (.yj ks) l,.ob (.yj js) m=>yu ks js&&jM l m
 |_,_=>false
def rG:Mem→Mem→Bool
 |[],[]=>true
 |a::r,b::s=>CC a b&&rG r s
 |_,_=>false
def lP (P:Program) (t:TypeId):Option AV:=match P.info? t with
 |some i=>i.zero.map CA
 |none=>none
def plainKey:TypeDesc→Value→Bool
 |.int k,.int k' _=>k==k'
 |.string,.string _=>true
 |.bool,.bool _=>true
 |_,_=>false
def nO (d:TypeDesc) (k:Value):List Value→List AV→List Nat→Option (Option AV)
 |[],[],[]=>some none
 |k'::ks,v::vs,_::bs=>match Instr.sameNow d k k' with
  |some true=>some (some v)
  |some false=>nO d k ks vs bs
  |none=>none
 |_,_,_=>none
def mapOf (rd:Nat→aF):AV→Option (List Value×List AV×List Nat)
 |.p (.sc (.map none))=>some ([],[],[])
 |.vm b=>match rd b with
  |.ob (.map ks bs _) vs=>some (ks,vs,bs)
  |_=>none
 |_=>none
def rH (P:Program) (kt:TypeId):Bool:=
 (match P.underlying kt with | some (.array _ _) | some (.struct _)=>true | _=>false)&&(P.keyTypeAt 20 kt&&P.tiled 20 kt)
def tY (P:Program) (kt:TypeId) (v:Value):Option (List UInt8):=
 match keyOf P kt v with
 |some (.string s)=>some s
 |_=>none
def oU (P:Program) (kt:TypeId) (b:List UInt8):List Value→List AV→Option (List AV)
 |[],[]=>some []
 |k::ks,v::vs=>match tY P kt k,oU P kt b ks vs with
  |some c,some r=>some (cond (jK b c) (v::r) r)
  |_,_=>none
 |_,_=>none
def yx:List UInt8→List UInt8→Bool
 |[],[]=>false
 |[],_::_=>true
 |_::_,[]=>false
 |a::r,b::s=>cond (a6 a.toNat b.toNat) (yx r s) (ba a.toNat b.toNat)
def we (P:Program) (kt:TypeId) (b:List UInt8) (key:Value) (v:AV):List Value→List AV→List Value×List AV
 |k::ks,u::us=>match tY P kt k with
  |some c=>cond (yx b c) (key::k::ks,v::u::us) (k::(we P kt b key v ks us).1,u::(we P kt b key v ks us).2)
  |none=>(key::k::ks,v::u::us)
 |ks,us=>(key::ks,v::us)
def qq (rd:Nat→aF):AV→Option (List Value×List AV)
 |.vm b=>match rd b with
  |.ob (.yj ks) vs=>some (ks,vs)
  |_=>none
 |_=>none
def tA (P:Program) (rd:Nat→aF) (t:TypeId) (m k:AV) (ok:Bool):Option AV:=
 match BC k,P.underlying t with
 |some key,some (.map kt et)=>match lP P et,qq rd m,tY P kt key with
  |some z,some (ks,vs),some b=>cond (rH P kt) (match oU P kt b ks vs with
   |some [v]=>some (cond ok (.bn [v,sB true]) v)
   |some []=>some (cond ok (.bn [z,sB false]) z)
   |_=>none) none
  |_,_,_=>none
 |_,_=>none
def gO (P:Program) (rd:Nat→aF) (t:TypeId) (m k v:AV):jC:=
 match m,BC k,P.underlying t with
 |.vm b,some key,some (.map kt _)=>match rd b,tY P kt key with
  |.ob (.yj ks) vs,some c=>cond (rH P kt) (match oU P kt c ks vs with
   |some []=>some (.bn [],[(b,.ob (.yj (we P kt c key v ks vs).1) (we P kt c key v ks vs).2)],true)
   |_=>none) none
  |_,_=>none
 |_,_,_=>none
def w8 (P:Program) (aK:Nat) (t:TypeId):jC:=
 match P.underlying t with
 |some (.map kt _)=>match rH P kt with
  |true=>some (.vm aK,[(aK,.ob (.yj []) [])],true)
  |false=>some (.vm aK,[(aK,.ob (.map [] [] 0) [])],true)
 |_=>some (.vm aK,[(aK,.ob (.map [] [] 0) [])],true)
def kr (P:Program) (rd:Nat→aF) (t:TypeId) (m k:AV) (ok:Bool):Option AV:=
 match k with
 |.p (.sc key)=>match P.underlying t with
  |some (.map kt et)=>match P.underlying kt,lP P et,mapOf rd m with
   |some d,some z,some (ks,vs,bs)=>cond (plainKey d key) (match nO d key ks vs bs with
    |some (some v)=>some (cond ok (.bn [v,sB true]) v)
    |some none=>some (cond ok (.bn [z,sB false]) z)
    |none=>none) none
   |_,_,_=>none
  |_=>none
 |.agg _=>tA P rd t m k ok
 |_=>none
def tZ (d:TypeDesc) (k:Value) (v:AV):List Value→List AV→List Nat→Option (Option (List AV))
 |[],[],[]=>some none
 |k'::ks,u::vs,_::bs=>match Instr.sameNow d k k' with
  |some true=>some (some (v::vs))
  |some false=>match tZ d k v ks vs bs with
   |some (some l)=>some (some (u::l))
   |some none=>some none
   |none=>none
  |none=>none
 |_,_,_=>none
def fV (P:Program) (rd:Nat→aF) (t:TypeId) (m k v:AV):jC:=
 match m,k with
 |.vm b,.p (.sc key)=>match P.underlying t,rd b with
  |some (.map kt _),.ob (.map ks bs clock) vs=>match P.underlying kt with
   |some d=>cond (plainKey d key) (match tZ d key v ks vs bs with
    |some (some l)=>some (.bn [],[(b,.ob (.map ks bs clock) l)],true)
    |some none=>some (.bn [],[(b,.ob (.map (ks++[key]) (bs++[clock]) (clock+1)) (vs++[v]))],true)
    |none=>none) none
   |none=>none
  |_,_=>none
 |.vm _,.agg _=>gO P rd t m k v
 |_,_=>none
def sG (ns:List ByteArray) (s:ByteArray):Bool:=ns.any fun x=>x.data.toList==s.data.toList
def EL (ns:List ByteArray) (s:ByteArray):List ByteArray:=cond (sG ns s) ns (ns++[s])
def oa (rd:Nat→aF):AV→Option (List ByteArray)
 |.vm b=>match rd b with
  |.ob (.smap ns) _=>some ns
  |_=>none
 |_=>none
def oV (P:Program) (t:TypeId):Bool:=match P.underlying t with
 |some (.map kt et)=>match P.underlying kt,lP P et with
  |some .string,some (.p (.sc (.bool false)))=>true
  |_,_=>false
 |_=>false
def uc (P:Program) (aK:Nat) (t:TypeId):jC:=
 match oV P t with
 |true=>some (.vm aK,[(aK,.ob (.smap []) [])],true)
 |false=>none
def qu (P:Program) (rd:Nat→aF) (t:TypeId) (m k:AV) (ok:Bool):Option AV:=
 match oa rd m with
 |some ns=>match k with
  |.p (.sc (.string s))=>match oV P t with
   |true=>some (cond ok (.bn [sB (sG ns s),sB (sG ns s)]) (sB (sG ns s)))
   |false=>none
  |_=>none
 |none=>kr P rd t m k ok
def ud (P:Program) (rd:Nat→aF) (t:TypeId) (m k v:AV):jC:=
 match oa rd m with
 |some ns=>match m,k,v with
  |.vm b,.p (.sc (.string s)),.p (.sc (.bool true))=>match oV P t with
   |true=>some (.bn [],[(b,.ob (.smap (EL ns s)) [])],true)
   |false=>none
  |_,_,_=>none
 |none=>fV P rd t m k v
def isNil:AV→Bool
 |.p (.sc (.pointer none)) | .p (.sc (.map none)) | .p (.sc .nilFunc) | .p (.sc .nilIface)=>true
 |_=>false
def isRef:AV→Bool
 |.p (.pp ..) | .mp .. | .vm _ | .fn .. | .p (.jF ..) | .jF .. =>true
 |_=>false
def CD (x y:AV):Bool:=(isNil x&&isRef y)||(isRef x&&isNil y)
def w9 (d:TypeDesc) (x y:AV):Bool:=
 match d with
 |.pointer _=>match y with
  |.p (.sc (.pointer none))=>match x with
   |.p (.pp ..) | .mp .. =>true
   |_=>false
  |_=>false
 |.map _ _=>match y with
  |.p (.sc (.map none))=>match x with
   |.vm _=>true
   |_=>false
  |_=>false
 |_=>false
def CE (P:Program) (op:BinOp) (t:TypeId) (x y:AV):jC:=
 match P.underlying t with
 |some d=>match w9 d x y||w9 d y x,op with
  |true,.eql=>some (sB false,[],true)
  |true,.neq=>some (sB true,[],true)
  |_,_=>none
 |none=>none
def tB:AV→AV→Bool
 |.mp b o,.mp c q=>a6 b c&&a6 o q
 |_,_=>false
def nj (P:Program) (op:BinOp) (t:TypeId):jC:=
 match P.underlying t with
 |some (.pointer e)=>match P.info? e,op with
  |some _,.eql=>some (sB true,[],true)
  |some _,.neq=>some (sB false,[],true)
  |_,_=>none
 |_=>none
def qv:Operand→Bool
 |.const (.slice none _ _)=>true
 |_=>false
def xd:AV→Option Bool
 |.p (.ps len sz _)=>cond (a7 1 len) (some false) (cond (a6 sz 0) (some true) none)
 |.os _ len sz _=>cond (a7 1 len) (some false) (cond (a6 sz 0) (some true) none)
 |.ms .. =>some false
 |_=>none
def tC (P:Program) (op:BinOp) (t:TypeId) (x:AV):jC:=
 match P.underlying t with
 |some (.slice _)=>match xd x,op with
  |some b,.eql=>some (sB b,[],true)
  |some b,.neq=>some (sB (!b),[],true)
  |_,_=>none
 |_=>none
def yy (P:Program) (aK:Nat) (t:TypeId) (x:AV):jC:=
 match P.underlying t,x with
 |some .string,.p (.sc (.string s))=>some (.mp aK 0,[(aK,.ob (.iter s 0) [])],true)
 |_,_=>none
def BG (rd:Nat→aF) (it:AV):Bool→jC
 |true=>match it with
  |.mp b 0=>match rd b with
   |.ob (.iter s pos) _=>match ba pos s.size with
    |true=>match Utf8.decode s pos with
     |(c,width)=>some (.bn [sB true,sI .i64 pos,sI .i32 c],[(b,.ob (.iter s (pos+width)) [])],true)
    |false=>some (.bn [sB false],[],true)
   |.ob (.P2 s pos more) _=>match more with
    |true=>some (.bn [sB true,sI .i64 pos,sI .i32 (Utf8.decode s pos).1],[(b,.ob (.iter s (pos+(Utf8.decode s pos).2)) [])],true)
    |false=>some (.bn [sB false],[],true)
   |_=>none
  |_=>none
 |false=>none
def l7 (x:AV):jC:=
 match xd x with
 |some true=>some (.p (.sc (.pointer none)),[],true)
 |_=>match x with
  |.ms b off len _ _=>some (.mp b off,[],a7 1 len)
  |_=>none
def Hu:PV→Bool
 |.sc (.int .u8 n)=>decide (0≤n)&&decide (n<256)
 |_=>false
def EM:AV→Bool
 |.p v=>Hu v
 |_=>false
def EN:AV→UInt8
 |.p v=>byteOf v
 |_=>0
def EO (rd:Nat→aF):AV→Option (Nat×TypeId×List AV)
 |.mp b 0=>match rd b with
  |.ob (.gr t _) l=>some (b,t,l)
  |_=>none
 |_=>none
def dS (P:Program) (rd:Nat→aF) (argTypes:List TypeId) (x n:AV):jC:=
 match n with
 |.p (.sc (.int .i64 n))=>match argTypes with
  |[pt,_]=>match decide (n=0) with
   |true=>match x with
    |.p (.sc (.pointer none))=>some (.p (.sc (.string .empty)),[],true)
    |_=>none
   |false=>match P.underlying pt,EO rd x with
    |some (.pointer e),some (b,t,l)=>some (.p (.sc (.string ⟨((l.take n.toNat).map EN).toArray⟩)),[(b,.ob .Jh [])],
      (l.take n.toNat).all EM&&(a6 t e&&(a6 (P.cellsOf e) 1&&(decide (0<n)&&(a7 n.toNat l.length&&a7 n.toNat cE)))))
    |_,_=>none
  |_=>none
 |_=>none
def DE (mn:Bool):List AV→Option AV
 |[.p (.sc (.int k a)),.p (.sc (.int _ b))]=>some (.p (.sc (.int k (cond mn (min a b) (max a b)))))
 |_=>none
def jg (P:Program) (ρ:Operand→AV) (o:Oper) (mn:Bool) (l:List Operand):Option AV:=
 match DE mn (l.map ρ) with
 |some v=>some v
 |none=>scalar P ρ o
def ue (P:Program) (t:TypeId) (x:AV) (ok:Bool):Option AV:=
 match P.underlying t with
 |some (.interface _)=>none
 |some _=>match x with
  |.p (.sc .nilIface)=>match ok,lP P t with
   |true,some z=>some (.bn [z,sB false])
   |_,_=>none
  |.p (.jF s v)=>match a6 s t,ok with
   |true,true=>some (.bn [.p v,sB true])
   |true,false=>some (.p v)
   |false,true=>(lP P t).map fun z=> .bn [z,sB false]
   |false,false=>none
  |.jF s v=>match a6 s t,ok with
   |true,true=>some (.bn [v,sB true])
   |true,false=>some v
   |false,true=>(lP P t).map fun z=> .bn [z,sB false]
   |false,false=>none
  |.p (.sc (.iface s v))=>match a6 s t,ok with
   |true,true=>some (.bn [CA v,sB true])
   |true,false=>some (CA v)
   |false,true=>(lP P t).map fun z=> .bn [z,sB false]
   |false,false=>none
  |_=>none
 |none=>none
def rI (P:Program) (rd:Nat→aF) (wr:Bool) (aK:Nat) (ρ:Operand→AV) (o:Oper):jC:=
 match o.op with
 |.move x | .assign x=>some (ρ x,[],true)
 |.pick c a b=>match ρ c with
  |.p (.sc (.bool t))=>some (cond t (ρ a) (ρ b),[],true)
  |_=>none
 |.alloc t=>match wr with
  |true=>tV P aK t
  |false=>ym P aK t
 |.box _ v=>ED aK (ρ v)
 |.build t parts=>gz (tr P t (parts.toList.map fun q=>(q.1,ρ q.2)))
 |.buildSlice t len parts=>kR P wr aK t len (parts.toList.map fun q=>(q.1,ρ q.2))
 |.load t a=>gz (j5 P rd t (ρ a))
 |.store t a v=>oQ P rd t (ρ a) (ρ v)
 |.nilCheck x=>iO (jf P ρ o (ρ x))
 |.binOp op t x y _=>match qv y with
  |true=>tC P op t (ρ x)
  |false=>match CD (ρ x) (ρ y) with
   |true=>CE P op t (ρ x) (ρ y)
   |false=>match tB (ρ x) (ρ y) with
    |true=>nj P op t
    |false=>gz (oS P ρ o op (ρ x) (ρ y))
 |.range t x=>yy P aK t (ρ x)
 |.next x s=>BG rd (ρ x) s
 |.makeMap t none=>match wr with
  |true=>uc P aK t
  |false=>w8 P aK t
 |.lookup t x i ok=>iO (qu P rd t (ρ x) (ρ i) ok)
 |.mapUpdate t x k v=>ud P rd t (ρ x) (ρ k) (ρ v)
 |.insert t x k v=>ud P rd t (ρ x) (ρ k) (ρ v)
 |.unOp op _ x=>gz (tW P ρ o op (ρ x))
 |.convert src dst x=>convertOp P rd aK ρ o src dst (ρ x)
 |.makeInterface t x=>iO (l6 P t (ρ x))
 |.makeFunc f first captured=>some (.fn f (first.toList.map ρ) (captured.toList.map ρ),[],true)
 |.makeSlice t l c=>match wr with
  |true=>n9 P t (ρ l) (ρ c)
  |false=>lZ P aK t (ρ l) (ρ c)
 |.slice t x lo hi mx=>gz (nh P ρ t (ρ x) lo hi mx)
 |.fieldAddr t x f=>iO (jG P t (ρ x) f)
 |.field t x f=>gz (tv P t (ρ x) f)
 |.indexAddr t x i=>gz (jH P t (ρ x) (ρ i))
 |.index t x i=>gz (tw P t (ρ x) (ρ i))
 |.extract x i=>match ρ x with
  |.bn vs=>iO vs[i]?
  |_=>none
 |.typeAssert x _ t ok=>iO (ue P t (ρ x) ok)
 |.call c=>match c.callee,c.args.toList with
  |.builtin .append,[s,x]=>match JG (ρ s)||wr with
   |true=>eW P rd aK c.argTypes (l5 (ρ s)) (ρ x)
   |false=>ia P rd aK c.argTypes (l5 (ρ s)) (ρ x)
  |.builtin .copy,[d,s]=>qp P rd c.argTypes (ρ d) (ρ s)
  |.builtin .len,[x]=>iO (EG P c.argTypes (ρ x))
  |.builtin .cap,[x]=>iO (EH P c.argTypes (ρ x))
  |.builtin .unsafeSliceData,[x]=>l7 (ρ x)
  |.builtin .unsafeString,[x,n]=>dS P rd c.argTypes.toList (ρ x) (ρ n)
  |.builtin .min,l=>iO (jg P ρ o true l)
  |.builtin .max,l=>iO (jg P ρ o false l)
  |_,_=>none
 |_=>none
def makes (o:Oper):Bool:=
 match o.op with
 |.alloc _ | .box .. | .buildSlice .. | .makeSlice .. | .convert .. | .makeMap .. | .range .. =>true
 |.call c=>match c.callee with
  |.builtin .append=>true
  |_=>false
 |_=>false
def apply (m:Mem):lY→Mem
 |[]=>m
 |(i,b)::r=>apply (m.set i b) r
mutual
def refs:AV→List Nat
 |.os (some t) _ _ _=>[t]
 |.mp b _=>[b]
 |.ms b _ _ _ _=>[b]
 |.vm b=>[b]
 |.vy b=>[b]
 |.fn _ first captured=>gJ first++gJ captured
 |.agg l=>gJ l
 |.bn l=>gJ l
 |.jF _ v=>refs v
 |_=>[]
def gJ:List AV→List Nat
 |[]=>[]
 |a::r=>refs a++gJ r
end
def xe:aF→List Nat
 |.ac l=>gJ l
 |.ob (.gr _ true) _=>[]
 |.ob (.gb _) _=>[]
 |.ob _ l=>gJ l
 |_=>[]
def has (l:List Nat) (i:Nat):Bool:=
 match l with
 |[]=>false
 |j::r=>cond (a6 j i) true (has r i)
def gP (ord:List Nat):List Nat→List Nat
 |[]=>ord
 |i::r=>gP (cond (has ord i) ord (ord++[i])) r
def reach (m:Mem):Nat→List Nat→Nat→List Nat
 |0,ord,_=>ord
 |f+1,ord,k=>match ord[k]? with
  |none=>ord
  |some i=>reach m f (gP ord (xe (m.getD i .dead))) (k+1)
mutual
def jh (ρ:Nat→Option Nat):AV→AV
 |.os (some t) len sz cs=>match ρ t with
  |some t=> .os (some t) len sz cs
  |none=> .p (.ps len sz cs)
 |.mp b off=>match ρ b with
  |some b=> .mp b off
  |none=> .af
 |.ms b off len sz cap=>match ρ b with
  |some b=> .ms b off len sz cap
  |none=> .af
 |.vm b=>match ρ b with
  |some b=> .vm b
  |none=> .af
 |.vy b=>match ρ b with
  |some b=> .vy b
  |none=> .af
 |.fn f first captured=> .fn f (ef ρ first) (ef ρ captured)
 |.agg l=> .agg (ef ρ l)
 |.bn l=> .bn (ef ρ l)
 |.jF t v=> .jF t (jh ρ v)
 |v=>v
def ef (ρ:Nat→Option Nat):List AV→List AV
 |[]=>[]
 |a::r=>jh ρ a::ef ρ r
end
def dZ:AV→AV
 |.p v=> .p v
 |_=> .af
def gj (ρ:Nat→Option Nat):aF→aF
 |.ac l=> .ac (ef ρ l)
 |.ob (.gr t true) l=> .ob (.gr t true) (l.map dZ)
 |.ob (.gb t) l=> .ob (.gb t) (l.map dZ)
 |.ob k l=> .ob k (ef ρ l)
 |b=>b
def idx (ord:List Nat) (i:Nat):Option Nat:=
 match ord with
 |[]=>none
 |j::r=>cond (a6 i j) (some 0) ((idx r i).map (· + 1))
def pack (m:Mem) (ord:List Nat):Mem:=ord.map fun i=>gj (idx ord) (m.getD i .dead)
def upTo:Nat→List Nat
 |0=>[]
 |n+1=>upTo n++[n]
def close (m:Mem) (fix:Nat) (vs:List AV):List Nat:=reach m (m.length+1) (gP (upTo fix) (gJ vs)) 0
inductive Mark where
 |range (b:Nat)
 |late (f:FuncId) (first caps:List (Nat×Nat))
inductive Jj where
 |call
 |round (i:Nat)
 |late
structure St where
 tm:qo
 nt:Nat
 mem:Mem
 fix:Nat
 bS:List Mark:=[]
 bI:Jj:= .call
inductive It where
 |code (i:Nat) (c:Code)
 |ops (bJ:Nat) (ops:Array Oper) (k:Nat) (sure:Bool)
 |inBlock (id:Nat)
 |inLoop (i:Nat) (b:Code)
 |inScope (b:Code)
 |forget (k:List Nat)
 |fin
 |begin
 |wg (u:AV)
 |gA (u:AV)
 |leave
structure bA where
 f:FuncId
 todo:List It
 st:St
inductive Out where
 |ret (v:AV) (m:Mem)
 |nk (v:AV) (m:Mem)
inductive Ev where
 |next (c:bA)
 |must (b:Bool) (c:bA)
 |call (g:FuncId) (args:List AV) (m:Mem) (ord:List Nat) (dst:Option Tmp) (c:bA)
 |test (b:Bool) (yes no:bA)
 |round (args:List AV) (m:Mem) (ord:List Nat) (dst:Option Tmp) (c:bA)
 |range (g:FuncId) (args:List AV) (m:Mem) (ord:List Nat) (L:Nat) (c:bA)
 |draw (bJ:Nat) (ops:Array Oper) (c:bA)
 |fork (l:List bA)
 |late (g:FuncId) (args:List AV) (m:Mem) (ord:List Nat) (pv:Option AV) (c:bA)
 |done (o:Out)
 |fail
structure Env where
 cC:Nat→Option (List PV)
 wr:FuncId→Nat→Bool
 keep:FuncId→Nat→Option (List Nat)
 told:FuncId→Nat→Option AV:=fun _ _=>none
def ev (E:Env) (tm:qo):Operand→AV
 |.tmp t=>look tm t
 |.const v=>CA v
 |.global g=>match E.cC g with
  |some cs=> .p (.pp 0 cs)
  |none=> .p (.sc (.pointer (some ⟨g,0,none⟩)))
 |.func f=> .fn (.func f) [] []
def forget (keep:List Nat) (st:St):St:=
 match st.bS,st.bI with
 |[],.call=>
  let vs:=keep.map (look st.tm)
  let ord:=close st.mem st.fix vs
  {tm:=keep.zip (ef (idx ord) vs),nt:=st.nt,mem:=pack st.mem ord,fix:=st.fix,bI:= .call}
 |_,_=>st
def gW (keep:Option (List Nat)) (st:St):St:=
 match keep with
 |some keep=>forget keep st
 |none=>st
def eg (keep:Option (List Nat)) (k:List It):List It:=
 match keep with
 |some keep=> .forget keep::k
 |none=>k
def put (st:St) (dst:Option Tmp) (v:AV):St:=
 match dst with
 |some d=>{st with tm:=(d,v)::st.tm}
 |none=>st
def fits (st:St) (dst:Option Tmp):Bool:=
 match dst with
 |some d=>ba d st.nt
 |none=>true
def aZ (ord:List Nat) (n:Nat) (j:Nat):Option Nat:=
 match ord[j]? with
 |some i=>some i
 |none=>some (n+(j-ord.length))
def cI (ρ:Nat→Option Nat):List Nat→Mem→Mem→Mem
 |i::ord,b::m1,m=>cI ρ ord m1 (m.set i (gj ρ b))
 |_,m1,m=>m++m1.map (gj ρ)
def back (ord:List Nat) (dst:Option Tmp) (st:St) (v:AV) (m1:Mem):St:=
 put {st with mem:=cI (aZ ord st.mem.length) ord m1 st.mem} dst (jh (aZ ord st.mem.length) v)
def target (ρ:Operand→AV) (o:Oper):Option (FuncId×List AV):=
 match o.op with
 |.call c=>match c.callee with
  |.value f=>match ρ f with
   |.fn (.func f) first captured=>some (f,first++c.args.toList.map ρ++captured)
   |_=>none
  |_=>none
 |_=>none
def tD (ρ:Operand→AV) (o:Oper):Option (List AV):=
 match o.op with
 |.call c=>match c.callee with
  |.value f=>match ρ f with
   |.vy b=>some (.vy b::c.args.toList.map ρ)
   |_=>none
  |_=>none
 |_=>none
def cY (st:St) (f:FuncId) (ps:Array Tmp) (as bd:Code):Mem:=
 (st.mem++[.ob .DC []])++[.ob (.loop f ps as bd .ready none) ((upTo st.nt).map (look st.tm))]
def fH (m:Mem) (L:Nat):Option (Mem×Option Code):=
 match m.getD L .dead with
 |.ob (.loop f ps as bd st pd) vals=>match st with
  |.busy=>none
  |_=>some (m.set L (.ob (.loop f ps as bd .exhausted pd) vals),pd)
 |_=>none
def behind (c:bA) (m:Mem) (pd:Option Code):bA:=
 {c with todo:=match pd with
    |some code=> .code 0 code::c.todo
    |none=>c.todo,st:={c.st with mem:=m}}
inductive Want where
 |yes | no | ask (d:Nat) (b want:Bool) | lost
def dD (ops:Array Oper) (tm:qo) (o:Oper):Want:=
 match o.guard with
 |none=> .yes
 |some (j,want)=>match ops[j]? with
  |some oj=>match oj.dst with
   |some d=>match look tm d with
    |.p (.sc (.bool b))=> .ask d b want
    |.bn _=> .no
    |_=> .lost
   |none=> .no
  |none=> .no
def reserve (o:Oper) (m:Mem):Mem:=cond (makes o) (m++[.free]) m
def nodes:Code→Nat
 |.seq a b=>nodes a+nodes b
 |.cond _ a b=>1+nodes a+nodes b
 |.block _ b=>nodes b
 |.scope b=>nodes b
 |.loop b=>1+nodes b
 |_=>0
def gQ (P:Program) (st:St):List ResultVar→Option (List AV×Bool)
 |[]=>some ([],true)
 |.tmp t::r=>(gQ P st r).map fun q=>(look st.tm t::q.1,q.2)
 |.cell a t::r=>match j5 P (fun i=>st.mem.getD i .dead) t (look st.tm a),gQ P st r with
  |some (v,ok),some (vs,P3)=>some (v::vs,ok&&P3)
  |_,_=>none
def one:List AV→AV
 |[v]=>v
 |vs=> .bn vs
def freeze (m:Mem) (kept:List Nat):AV→AV×Bool×List Nat
 |.ms b off len sz (some cap)=>cond (has kept b||a6 len 0) (.ms b off len sz (some cap),true,[]) (match m.getD b .dead with
  |.pc l=>(.p (.ps len sz ((l.drop off).take (len*sz))),a7 (off+len*sz) l.length&&a7 1 sz,[b])
  |_=>(.ms b off len sz (some cap),true,[]))
 |v=>(v,true,[])
def fN (m:Mem) (kept:List Nat):List AV→List AV×Bool×List Nat
 |[]=>([],true,[])
 |v::r=>((freeze m kept v).1::(fN m kept r).1,(freeze m kept v).2.1&&(fN m kept r).2.1,(freeze m kept v).2.2++(fN m kept r).2.2)
def ig (l:List Nat) (n:Nat):Bool:=
 match l with
 |[]=>true
 |i::r=>ba i n&&ig r n
def yz (l ord:List Nat):Bool:=
 match l with
 |[]=>true
 |i::r=> !has ord i&&yz r ord
def kT (P:Program) (c:bA):Ev:=
 match P.funcs[c.f]? with
 |some fn=>match gQ P c.st fn.results.toList with
  |some (vs,ok)=>
   let fz:=fN c.st.mem (close c.st.mem c.st.fix []) vs
   let v:=one fz.1
   let ord:=close c.st.mem c.st.fix [v]
   .must (ok&&fz.2.1&&yz fz.2.2 ord) {c with todo:=[.fin],st:={c.st with tm:=[(0,jh (idx ord) v)],nt:=0,mem:=pack c.st.mem ord}}
  |none=> .fail
 |none=> .fail
def kU:List Mark→Mem→Option Mem
 |[],m=>some m
 |.late .. :: _,_=>none
 |.range b::r,m=>match m.getD b .dead with
  |.ob .DC []=>kU r (m.set b (.ob .shut []))
  |_=>none
def mps (l:List (Nat×Nat)):List AV:=l.map fun q=> .mp q.1 q.2
def yA (c:bA) (pv:Option AV) (g:FuncId) (first caps:List (Nat×Nat)):Ev:=
 let args:=mps first++mps caps
 let ord:=close c.st.mem 0 (pv.toList++args)
 cond (ig ord c.st.mem.length) (.late g (ef (idx ord) args) (pack c.st.mem ord) ord (pv.map (jh (idx ord))) {c with todo:=[.leave],st:={c.st with bS:=[]}}) .fail
def uf (P:Program) (c:bA) (u:AV):Ev:=
 match c.st.bI with
 |.round _=> .fail
 |_=>match c.st.bS with
  |[]=>match P.funcs[c.f]? with
   |some _=>
    let ord:=close c.st.mem c.st.fix [u]
    .next {c with todo:=[.wg (jh (idx ord) u)],st:={c.st with tm:=[],nt:=0,mem:=pack c.st.mem ord}}
   |none=> .fail
  |[.late g first caps]=>yA c (some u) g first caps
  |_=> .fail
def ending (P:Program) (c:bA):Ev:=
 match c.st.bS with
 |[]=>kT P c
 |[.late g first caps]=>yA c none g first caps
 |mk=>match kU mk c.st.mem with
  |some m=>kT P {c with st:={c.st with mem:=m,bS:=[]}}
  |none=> .fail
def CF (P:Program) (f:FuncId):Bool:=
 match P.funcs[f]? with
 |some fn=>fn.body.isNone&&(decide (fn.name = "internal/abi.NoEscape")&&decide (fn.origin = ""))
 |none=>false
def EP (P:Program) (ρ:Operand→AV) (o:Oper):Option AV:=
 match o.op with
 |.call c=>match c.callee,c.args.toList with
  |.value f,[x]=>match ρ f with
   |.fn (.func g) [] []=>cond (CF P g) (some (ρ x)) none
   |_=>none
  |_,_=>none
 |_=>none
def xg:List AV→Option (List (Nat×Nat))
 |[]=>some []
 |.mp b off::r=>match xg r with
  |some l=>some ((b,off)::l)
  |none=>none
 |_::_=>none
def xh:AV→Bool
 |.jF .. | .p (.jF ..)=>true
 |_=>false
def ER (E:Env) (c:bA) (o:Oper) (k:List It):Ev:=
 match o.op with
 |.panic x=>cond (xh (ev E c.st.tm x)) (.next {c with todo:=[.gA (ev E c.st.tm x)]}) .fail
 |.call d=>match d.callee,d.args.toList with
  |.builtin .panic,[x]=>cond (xh (ev E c.st.tm x)) (.next {c with todo:=[.gA (ev E c.st.tm x)]}) .fail
  |_,_=> .fail
 |.defer d=>match c.st.bI,c.st.bS,d.callee with
  |.round _,_,_=> .fail
  |_,[],.value f=>match ev E c.st.tm f with
   |.fn (.func g) first captured=>match xg (first++d.args.toList.map (ev E c.st.tm)),xg captured with
    |some l,some m=> .must (fits c.st o.dst) {c with todo:=k,st:=put {c.st with bS:=[.late g l m]} o.dst (.bn [])}
    |_,_=> .fail
   |_=> .fail
  |_,_,_=> .fail
 |_=> .fail
def zT:AV→Bool
 |.p (.ps ..) | .os .. =>true
 |_=>false
def Jk:BinOp→Bool
 |.eql | .neq=>true
 |_=>false
def zU:Option TypeDesc→Bool
 |some (.slice _)=>true
 |_=>false
def BH (P:Program) (ρ:Operand→AV) (o:Oper):Bool:=
 match o.op with
 |.binOp op t x y _=>qv y&&(Jk op&&(zT (ρ x)&&zU (P.underlying t)))
 |_=>false
def ES (P:Program) (E:Env) (c:bA) (_rid:Nat) (o:Oper) (k:List It):Ev:=
 match target (ev E c.st.tm) o with
 |some (g,args)=>
  match EP P (ev E c.st.tm) o with
  |some v=> .must (fits c.st o.dst) {c with todo:=k,st:=put c.st o.dst v}
  |none=>
   let ord:=close c.st.mem 0 args
   cond (fits c.st o.dst&&ig ord c.st.mem.length) (.call g (ef (idx ord) args) (pack c.st.mem ord) ord o.dst {c with todo:=k}) .fail
 |none=>match tD (ev E c.st.tm) o with
  |some args=>
   let ord:=close c.st.mem 0 args
   cond (fits c.st o.dst&&ig ord c.st.mem.length) (.round (ef (idx ord) args) (pack c.st.mem ord) ord o.dst {c with todo:=k}) .fail
  |none=>
   let m:=reserve o c.st.mem
   match rI P (fun i=>m.getD i .dead) (E.wr c.f (o.dst.getD 0)) c.st.mem.length (ev E c.st.tm) o with
   |some (v,us,ok)=> .must (ok&&fits c.st o.dst) {c with todo:=k,st:=put {c.st with mem:=apply m us} o.dst v}
   |none=>match BH P (ev E c.st.tm) o with
    |true=>cond (fits c.st o.dst) (.fork [{c with todo:=k,st:=put c.st o.dst (sB true)},{c with todo:=k,st:=put c.st o.dst (sB false)}]) .fail
    |false=>ER E c o k
def eX:Option Code→LoopState
 |none=> .ready
 |some _=> .done
def l8 (c:bA) (i:Nat) (jump:Option Code):Ev:=
 match c.st.mem.getD i .dead with
 |.ob (.loop f ps as bd _ _) vals=>
  let m:=c.st.mem.set i (.ob (.loop f ps as bd (eX jump) jump) vals)
  let ord:=close m c.st.fix []
  cond (ba i c.st.fix) (.next {c with todo:=[.fin],st:={c.st with tm:=[(0,sB jump.isNone)],nt:=0,mem:=pack m ord}}) .fail
 |_=> .fail
def ug (c:bA) (i:Nat) (k:List It):Ev:=
 match c.st.mem.getD i .dead with
 |.ob (.loop f ps as bd .ready pd) vals=> .next {c with todo:=k,st:={c.st with mem:=c.st.mem.set i (.ob (.loop f ps as bd .busy pd) vals)}}
 |_=> .fail
def CG (E:Env) (c:bA) (x:Operand) (ps:Array Tmp) (as bd:Code) (k:List It):Ev:=
 match ev E c.st.tm x with
 |.fn (.func g) first captured=>
  let m:=cY c.st c.f ps as bd
  let args:=first++[.vy (c.st.mem.length+1)]++captured
  let ord:=close m 0 args
  cond (ig ord m.length) (.range g (ef (idx ord) args) (pack m ord) ord (c.st.mem.length+1) {c with todo:=k,st:={c.st with mem:=m,bS:= .range c.st.mem.length::c.st.bS}}) .fail
 |_=> .fail
def bP (id:Nat):List It→Option (List It)
 |[]=>none
 |.inBlock id'::k=>cond (a6 id' id) (some k) (bP id k)
 |_::k=>bP id k
def dU (l:Nat):List It→Option (List It)
 |[]=>none
 |.inScope b::k=>match findLabel b l with
  |some rest=>some (.code 0 rest :: .inScope b::k)
  |none=>dU l k
 |_::k=>dU l k
def fO (o:Oper):Bool:=
 match o.op with
 |.move _ | .assign _ | .pick .. | .build .. | .load .. | .nilCheck _ | .binOp .. | .unOp .. | .convert .. | .makeInterface .. | .makeFunc .. | .slice .. | .fieldAddr .. | .field .. | .indexAddr .. | .index .. | .extract .. =>true
 |.call c=>match c.callee with
  |.builtin .len | .builtin .min | .builtin .max=>true
  |_=>false
 |_=>false
def oc (acc:List Nat) (o:Oper):Nat:=o.after.toList.foldl (fun s e=>cond (Region.binds .any e) (s|||(2 ^ e.on|||acc.getD e.on 0)) s) 0
def masks (acc:List Nat):List Oper→List Nat
 |[]=>acc
 |o::r=>masks (acc++[oc acc o]) r
def tE (x:Nat):Nat→Bool
 |0=>true
 |n+1=>bx x n&&tE x n
def qw (ops:Array Oper):Bool:=
 (match ops[ops.size-1]? with
   |some o=>o.guard.isNone&&match o.op with
    |.call c=>match c.callee with
     |.value _=>true
     |_=>false
    |.panic _ | .defer _=>true
    |_=>false
   |none=>false)&&tE ((masks [] ops.toList).getD (ops.size-1) 0) (ops.size-1)
def fP (ops:Array Oper):Nat:=cond (qw ops) (ops.size-1) ops.size
def gR (bJ:Nat) (ops:Array Oper) (k:List It):List It:=cond (qw ops) (.ops bJ ops (ops.size-1) false::k) k
def slots (ops:Array Oper) (o:Oper):List Nat:=
 (match o.guard with
   |some (j,_)=>match ops[j]? with
    |some oj=>oj.dst.toList
    |none=>[]
   |none=>[])++o.op.operands.toList.filterMap fun
    |.tmp t=>some t
    |_=>none
def meet (a b:List Nat):Bool:=a.any fun i=>b.any fun j=>a6 i j
def og (ops:Array Oper) (L:List Nat) (i:Nat) (o:Oper) (j:Nat) (p:Oper):Bool:=
 !meet o.dst.toList p.dst.toList&&(bx (L.getD i 0) j||(!meet p.dst.toList (slots ops o) && !meet o.dst.toList (slots ops p)))
def tF (ops:Array Oper) (L:List Nat) (i:Nat) (o:Oper):Nat→List Oper→Bool
 |_,[]=>true
 |j,p::r=>og ops L i o j p&&tF ops L i o (j+1) r
def ji (q:Oper→Bool) (ops:Array Oper) (L:List Nat):Nat→List Oper→List Oper→Bool
 |_,_,[]=>true
 |i,lT,o::r=>q o&&(o.after.toList.all fun e=> !Region.binds .any e||ba e.on i)&&tF ops L i o 0 lT&&ji q ops L (i+1) (lT++[o]) r
def jN (P:Program) (E:Env) (rd:Nat→aF) (wr:Bool) (aK:Nat) (ops:Array Oper):List Oper→St→Option (St×Bool)
 |[],st=>some (st,true)
 |o::r,st=>
  let skip:=match jN P E rd wr aK ops r (put st o.dst (.bn [])) with
   |some (st',ok)=>some (st',fits st o.dst&&ok)
   |none=>none
  let oW:=match rI P rd wr aK (ev E st.tm) o with
   |some (v,[],ok)=>match jN P E rd wr aK ops r (put st o.dst v) with
    |some (st',ok')=>some (st',ok&&(fits st o.dst&&ok'))
    |none=>none
   |_=>none
  match dD ops st.tm o with
  |.yes=>oW
  |.no=>skip
  |.ask _ b want=>match b==want with
   |true=>oW
   |false=>skip
  |.lost=>none
def ET (E:Env) (f:Nat) (ops:Array Oper):Bool:=ops.toList.all fun o=>(E.told f (o.dst.getD 0)).isNone
def uh (P:Program) (E:Env) (f _rid:Nat) (ops:Array Oper) (st:St):Option (St×Bool):=
 let m:=st.mem++[.free]
 match cond (ops.toList.all fO&&ET E f ops) (jN P E (fun i=>m.getD i .dead) false st.mem.length ops ops.toList {st with mem:=m}) none with
 |some (st',ok)=>some (st',ok&&(ji fO ops (masks [] ops.toList) 0 [] ops.toList&&(P.follows .mixedOrders || !Region.departs ops)))
 |none=>none
def CH (P:Program) (E:Env) (f:FuncId) (ops:Array Oper) (i:Nat) (st:St):Option St:=
 match ops[i]? with
 |none=>none
 |some o=>match dD ops st.tm o with
  |.yes=>
   let m:=reserve o st.mem
   match rI P (fun i=>m.getD i .dead) (E.wr f (o.dst.getD 0)) st.mem.length (ev E st.tm) o with
   |some (v,us,ok)=>cond (ok&&fits st o.dst) (some (put {st with mem:=apply m us} o.dst v)) none
   |none=>none
  |_=>none
def Hv (a b:qo):List Nat→Bool
 |[]=>true
 |k::r=>cR (look a k) (look b k)&&Hv a b r
def JH (s t:St):Bool:=a6 s.nt t.nt&&(a6 s.fix t.fix&&(CC (s.mem.getLastD .dead) (t.mem.getLastD .dead)&&(rG s.mem t.mem&&Hv s.tm t.tm (s.tm.map (·.1)++t.tm.map (·.1)))))
def tG:List Bool→List Bool→Bool
 |[],[]=>true
 |a::r,b::s=>yq a b&&tG r s
 |_,_=>false
abbrev Pt:=Array Bool×St
def LV (p q:Pt):Bool:=tG p.1.toList q.1.toList&&JH p.2 q.2
def zW (q:Pt):List Pt→Bool
 |[]=>false
 |p::r=>LV q p||zW q r
def zX (q:Pt) (l:List Pt):List Pt:=cond (zW q l) l (q::l)
def oX (P:Program) (E:Env) (f:FuncId) (ops:Array Oper) (q:Pt):List Nat→List Pt→Option (List Pt)
 |[],l=>some l
 |i::r,l=>match CH P E f ops i q.2 with
  |some st=>oX P E f ops q r (zX (q.1.setIfInBounds i true,st) l)
  |none=>none
def level (P:Program) (E:Env) (f:FuncId) (ops:Array Oper):List Pt→List Pt→Option (List Pt)
 |[],l=>some l
 |q::r,l=>match Region.ready .any ops q.1 with
  |[]=>level P E f ops r (zX q l)
  |is=>match oX P E f ops q is l with
   |some l=>level P E f ops r l
   |none=>none
def levels (P:Program) (E:Env) (f:FuncId) (ops:Array Oper):Nat→List Pt→Option (List Pt)
 |0,l=>some l
 |n+1,l=>match level P E f ops l [] with
  |some l=>levels P E f ops n l
  |none=>none
def EU (b:Bool) (o:Oper):Bool:=
 match o.op with
 |.store _ _ (.const (.bool c))=>c==b
 |_=>false
def EV (ops:Array Oper):Bool:=
 match ops.toList with
 |[_,o,p,_]=>EU true o&&EU false p
 |_=>false
def EW (P:Program) (ops:Array Oper):Bool:=
 a7 ops.size 16&&ops.toList.any fun o=>match o.op with
  |.insert t _ _ _=>match P.underlying t with
   |some (.map kt _)=>rH P kt
   |_=>false
  |_=>false
def yB (P:Program) (E:Env) (f:FuncId) (ops:Array Oper) (st:St):Option (List St):=
 cond ((EV ops||EW P ops)&&(P.follows .mixedOrders || !Region.departs ops)) ((levels P E f ops ops.size [(Array.replicate ops.size false,st)]).map fun l=>l.map (·.2)) none
def step (P:Program) (E:Env) (c:bA):Ev:=
 match c.todo with
 |[]=>match c.st.bI with
  |.round i=>l8 c i none
  |_=>ending P c
 |.fin::_=> .done (.ret (look c.st.tm 0) c.st.mem)
 |.wg u::_=> .done (.nk u c.st.mem)
 |.gA u::_=>uf P c u
 |.leave::_=>kT P c
 |.begin::k=>match c.st.bI with
  |.round i=>ug c i k
  |_=> .fail
 |.code _ .ret::_=>match c.st.bI with
  |.round i=>l8 c i (some .ret)
  |_=>ending P c
 |.code _ .skip::k=> .next {c with todo:=k}
 |.code _ (.region id ops false)::k=> .next {c with todo:= .ops id ops 0 false::k}
 |.code _ (.region id ops true)::k=>match uh P E c.f id ops c.st with
  |some (st,ok)=> .must ok {c with todo:=k,st:={st with bS:=c.st.bS,bI:=c.st.bI}}
  |none=>match yB P E c.f ops c.st with
   |some l=> .fork (l.map fun st=>{c with todo:=k,st:={st with bS:=c.st.bS,bI:=c.st.bI}})
   |none=> .draw id ops {c with todo:=gR id ops k}
 |.code i (.seq a b)::k=> .next {c with todo:= .code i a :: .code (i+nodes a) b::k}
 |.code i (.cond x a b)::k=>match ev E c.st.tm x with
  |.p (.sc (.bool t))=> .test t {c with todo:= .code (i+1) a::eg (E.keep c.f (2*i)) k} {c with todo:= .code (i+1+nodes a) b::eg (E.keep c.f (2*i)) k}
  |_=> .fail
 |.code i (.block id b)::k=> .next {c with todo:= .code i b :: .inBlock id::k}
 |.code i (.loop b)::k=> .next {c with todo:= .code (i+1) b :: .inLoop i b::eg (E.keep c.f (2*i+1)) k,st:=gW (E.keep c.f (2*i)) c.st}
 |.code _ (.exit id)::k=>match bP id k with
  |some k=> .next {c with todo:=k}
  |none=>match c.st.bI with
   |.round i=>l8 c i (some (.exit id))
   |_=> .fail
 |.code i (.scope b)::k=> .next {c with todo:= .code i b :: .inScope b::k}
 |.inScope _::k=> .next {c with todo:=k}
 |.code _ (.label _)::k=> .next {c with todo:=k}
 |.code _ (.goto l)::k=>match dU l k with
  |some k=> .next {c with todo:=k}
  |none=> .fail
 |.code _ (.rangeFunc x ps as bd)::k=>match c.st.bI with
  |.call=>CG E c x ps as bd k
  |_=> .fail
 |.code _ _::_=> .fail
 |.inBlock _::k=> .next {c with todo:=k}
 |.inLoop i b::k=> .next {c with todo:= .code (i+1) b :: .inLoop i b::k,st:=gW (E.keep c.f (2*i)) c.st}
 |.forget keep::k=> .next {c with todo:=k,st:=forget keep c.st}
 |.ops bJ ops i sure::k=>match ops[i]? with
  |none=> .next {c with todo:=k}
  |some o=>match dD ops c.st.tm o with
   |.yes=>ES P E c bJ o (.ops bJ ops (i+1) false::k)
   |.no=>cond (fits c.st o.dst) (.next {c with todo:= .ops bJ ops (i+1) false::k,st:=put c.st o.dst (.bn [])}) .fail
   |.ask d b want=>match sure with
    |false=> .test b {c with todo:= .ops bJ ops i true::k,st:=put c.st (some d) (sB true)} {c with todo:= .ops bJ ops i true::k,st:=put c.st (some d) (sB false)}
    |true=>match b==want with
     |true=>ES P E c bJ o (.ops bJ ops (i+1) false::k)
     |false=>cond (fits c.st o.dst) (.next {c with todo:= .ops bJ ops (i+1) false::k,st:=put c.st o.dst (.bn [])}) .fail
   |.lost=> .fail
structure cr where
 g:FuncId
 args:List AV
 m:Mem
 v:AV
 m':Mem
def same (b b':Bool):Bool:=match b' with
 |true=>b
 |false=> !b
structure fW where
 v:AV
 us:lY
 fp:List Nat
 ld:Nat→aF→Bool
def JI (P:Program) (ρ:Operand→AV) (o:Oper) (v:AV) (b:Nat) (x:aF):Bool:=
 match o.op with
 |.load t a=>match ρ a with
  |.mp c off=>a6 c b&&(match j5 P (fun _=>x) t (.mp c off) with
   |some (v',ok)=>ok&&cR v' v
   |none=>false)
  |_=>false
 |_=>false
def fX:lY→Nat→Option aF
 |[],_=>none
 |(i,x)::r,b=>match fX r b with
  |some y=>some y
  |none=>cond (a6 i b) (some x) none
def Oe:lY→Bool
 |[]=>true
 |_=>false
def xj (o:Oper):Bool:=fO o||match o.op with
 |.alloc _ | .box .. | .buildSlice .. | .makeSlice .. | .store .. | .makeMap .. | .lookup .. | .mapUpdate .. | .insert .. =>true
 |.call c=>match c.callee with
  |.builtin .append | .builtin .copy | .builtin .unsafeSliceData | .builtin .unsafeString=>true
  |_=>false
 |_=>false
def DF (ρ:Operand→AV) (o:Oper):List Nat:=
 match o.op with
 |.load _ a=>refs (ρ a)
 |.store _ a _=>refs (ρ a)
 |.convert _ _ x=>refs (ρ x)
 |.lookup _ x _ _=>refs (ρ x)
 |.mapUpdate _ x _ _=>refs (ρ x)
 |.insert _ x _ _=>refs (ρ x)
 |.call c=>match c.callee with
  |.builtin .append | .builtin .copy | .builtin .unsafeString=>gJ (c.args.toList.map ρ)
  |_=>[]
 |_=>[]
def bB (n:Nat):Mem:=db n .free
def nq (N nx:Nat) (ord:List Nat) (v:AV) (m1:Mem):fW:=
 let Hw:=ord++List.range' nx (m1.length-ord.length)
 ⟨jh (aZ Hw N) v,Hw.zip (m1.map (gj (aZ Hw N))),Hw,fun _ _=>false⟩
def nr (P:Program) (E:Env) (f _rid:Nat) (O:FuncId→List AV→Mem→Option (AV×Mem)) (nx:Nat) (o:Oper) (st:St):Option (fW×Nat×Bool):=
 match target (ev E st.tm) o with
 |some (g,args)=>
  let ord:=close st.mem 0 args
  match O g (ef (idx ord) args) (pack st.mem ord) with
  |some (v,m1)=>some (nq st.mem.length nx ord v m1,nx+(m1.length-ord.length),a7 ord.length m1.length&&(ig ord nx&&a7 (nx+(m1.length-ord.length)) st.mem.length))
  |none=>none
 |none=>match rI P (fun i=>st.mem.getD i .dead) (E.wr f (o.dst.getD 0)) nx (ev E st.tm) o with
  |some (v,us,ok)=>some (⟨v,us,us.map (·.1)++(DF (ev E st.tm) o++cond (makes o) [nx] []),JI P (ev E st.tm) o v⟩,cond (makes o) (nx+1) nx,
    ok&&(xj o&&(ig (us.map (·.1)) (cond (makes o) (nx+1) nx)&&a7 (cond (makes o) (nx+1) nx) st.mem.length)))
  |none=>none
def CI (t:Option AV) (r:Option (fW×Nat×Bool)):Option (fW×Nat×Bool):=
 match t with
 |none=>r
 |some v=>match r with
  |some (d,nx,ok)=>some (⟨v,d.us,d.fp,d.ld⟩,nx,ok&&cR d.v v)
  |none=>none
def iH (P:Program) (E:Env) (f bJ:Nat) (O:FuncId→List AV→Mem→Option (AV×Mem)) (nx:Nat) (o:Oper) (st:St):Option (fW×Nat×Bool):=
 CI (E.told f (o.dst.getD 0)) (nr P E f bJ O nx o st)
def gK (P:Program) (E:Env) (f bJ:Nat) (O:FuncId→List AV→Mem→Option (AV×Mem)) (ops:Array Oper):List Oper→Nat→St→Option (St×Nat×List fW×Bool)
 |[],nx,st=>some (st,nx,[],true)
 |o::r,nx,st=>
  let skip:=match gK P E f bJ O ops r nx (put st o.dst (.bn [])) with
   |some (st',nQ,ds,ok)=>some (st',nQ,⟨.bn [],[],[],fun _ _=>false⟩::ds,fits st o.dst&&ok)
   |none=>none
  let oW:=match iH P E f bJ O nx o st with
   |some (d,jj,ok)=>match gK P E f bJ O ops r jj (put {st with mem:=apply st.mem d.us} o.dst d.v) with
    |some (st',nQ,ds,ok')=>some (st',nQ,d::ds,ok&&(fits st o.dst&&ok'))
    |none=>none
   |none=>none
  match dD ops st.tm o with
  |.yes=>oW
  |.no=>skip
  |.ask _ b want=>match b==want with
   |true=>oW
   |false=>skip
  |.lost=>none
def yC (d e:fW):Bool:=Oe e.us&&(d.us.map (·.1)).all fun b=> !has e.fp b||(match fX d.us b with
 |some x=>e.ld b x
 |none=>false)
def yD (L:List Nat) (i:Nat) (d:fW) (j:Nat) (e:fW):Bool:=bx (L.getD i 0) j||(!meet (e.us.map (·.1)) d.fp&&(!meet (d.us.map (·.1)) e.fp||yC d e))
def oY (L:List Nat) (i:Nat) (d:fW):Nat→List fW→Bool
 |_,[]=>true
 |j,e::r=>yD L i d j e&&oY L i d (j+1) r
def uj (L:List Nat):Nat→List fW→List fW→Bool
 |_,_,[]=>true
 |i,lT,d::r=>oY L i d 0 lT&&uj L (i+1) (lT++[d]) r
def tH:Mem→Bool
 |[]=>true
 |.free::r=>tH r
 |_::_=>false
def jk (P:Program) (E:Env) (f bJ:Nat) (O:FuncId→List AV→Mem→Option (AV×Mem)) (ops:Array Oper) (st:St):Option (St×Bool):=
 match gK P E f bJ O ops (ops.toList.take (fP ops)) st.mem.length {st with mem:=st.mem++bB (60+ops.size)} with
 |some (st',nx,ds,ok)=>some ({st' with mem:=st'.mem.take nx},ok&&(ji (fun _=>true) ops (masks [] ops.toList) 0 [] ops.toList&&(uj (masks [] ops.toList) 0 [] ds &&
   (tH (st'.mem.drop nx)&&(a7 st.mem.length nx&&(P.follows .mixedOrders || !Region.departs ops))))))
 |none=>none
def init (P:Program) (g:FuncId) (args:List AV) (m:Mem):Option bA:=
 match P.funcs[g]? with
 |some fn=>match fn.body with
  |some c=>some {f:=g,todo:=[.code 0 c],st:={tm:=(upTo args.length).zip args,nt:=max fn.ntmps args.length,mem:=m,fix:=m.length}}
  |none=>none
 |none=>none
def BI (tm:qo):List Nat→List AV→qo
 |d::ds,v::vs=>BI ((d,v)::tm) ds vs
 |_,_=>tm
def zY (args:List AV) (m:Mem):Option bA:=
 match args with
 |.vy i::xs=>match m.getD i .dead with
  |.ob (.loop f ps as bd _ _) vals=>cond (a6 xs.length ps.toList.length&&ig ps.toList vals.length)
   (some {f:=f,todo:=[.code 0 as,.begin,.code 0 bd],st:={tm:=BI ((upTo vals.length).zip vals) ps.toList xs,nt:=vals.length,mem:=m,fix:=m.length,bI:= .round i}}) none
  |_=>none
 |_=>none
def kV:List cr→FuncId→List AV→Mem→Option (AV×Mem)
 |[],_,_,_=>none
 |q::r,g,args,m=>cond (a6 q.g g&&(jM args q.args&&rG m q.m)) (some (q.v,q.m')) (kV r g args m)
def zZ:Out→Out→Bool
 |.ret v m,.ret u n=>cR v u&&rG m n
 |.nk v m,.nk u n=>cR v u&&rG m n
 |_,_=>false
def agree:List (Option Out)→Option Out
 |[]=>none
 |[o]=>o
 |o::r=>match o,agree r with
  |some o,some p=>cond (zZ o p) (some p) none
  |_,_=>none
def isRec (o:Oper):Bool:=
 match o.op,o.guard with
 |.call c,none=>match c.callee,c.args.toList with
  |.builtin .recover,[]=>true
  |_,_=>false
 |_,_=>false
def uk:Nat→List It→Option (List It)
 |0,_=>none
 |n+1,todo=>match todo with
  |.ops bJ ops i sure::k=>some (.ops bJ ops i sure::k)
  |.code i (.seq a b)::k=>uk n (.code i a :: .code (i+nodes a) b::k)
  |.code _ (.region id ops false)::k=>uk n (.ops id ops 0 false::k)
  |.code i (.scope b)::k=>uk n (.code i b :: .inScope b::k)
  |.code i (.block id b)::k=>uk n (.code i b :: .inBlock id::k)
  |_=>none
def Jl (pv:Option AV) (c:bA):Option bA:=
 match c.todo with
 |.ops bJ ops i _::k=>match ops[i]? with
  |some o=>cond (isRec o&&fits c.st o.dst) (some {c with todo:= .ops bJ ops (i+1) false::k,st:=put c.st o.dst (pv.getD (.p (.sc .nilIface)))}) none
  |none=>none
 |_=>none
def Aa (P:Program) (g:FuncId) (args:List AV) (m:Mem) (pv:Option AV):Option bA:=
 match init P g args m with
 |some c=>match uk 20 c.todo with
  |some t=>Jl pv {c with todo:=t,st:={c.st with bI:= .late}}
  |none=>none
 |none=>none
def l9 (ord:List Nat) (c:bA) (u:AV) (m1:Mem):bA:=
 {c with todo:=[.gA (jh (aZ ord c.st.mem.length) u)],st:=back ord none c.st (.bn []) m1}
def exec (P:Program) (E:Env) (K:List cr):Nat→bA→Option Out
 |0,_=>none
 |n+1,c=>match step P E c with
  |.next c=>exec P E K n c
  |.must b c=>cond b (exec P E K n c) none
  |.test b y z=>match b with
   |true=>exec P E K n y
   |false=>exec P E K n z
  |.call g args m ord dst c=>match kV K g args m with
   |some (v,m1)=>exec P E K n {c with st:=back ord dst c.st v m1}
   |none=>match init P g args m with
    |some ci=>match exec P E K n ci with
     |some (.ret v m1)=>exec P E K n {c with st:=back ord dst c.st v m1}
     |some (.nk u m1)=>exec P E K n (l9 ord c u m1)
     |none=>none
    |none=>none
  |.late g args m ord pv c=>match Aa P g args m pv with
   |some ci=>match exec P E K n ci with
    |some (.ret _ m1)=>exec P E K n {c with st:=back ord none c.st (.bn []) m1}
    |_=>none
   |none=>none
  |.round args m ord dst c=>match zY args m with
   |some ci=>match exec P E K n ci with
    |some (.ret v m1)=>exec P E K n {c with st:=back ord dst c.st v m1}
    |_=>none
   |none=>none
  |.range g args m ord L c=>match init P g args m with
   |some ci=>match exec P E K n ci with
    |some (.ret v m1)=>match fH (back ord none c.st v m1).mem L with
     |some (m2,pd)=>exec P E K n (behind c m2 pd)
     |none=>none
    |_=>none
   |none=>none
  |.draw bJ ops c=>match jk P E c.f bJ (fun g args m=>match kV K g args m with
     |some r=>some r
     |none=>match init P g args m with
      |some ci=>match exec P E K n ci with
       |some (.ret v m1)=>some (v,m1)
       |_=>none
      |none=>none) ops c.st with
   |some (st,ok)=>cond ok (exec P E K n {c with st:={st with bS:=c.st.bS,bI:=c.st.bI}}) none
   |none=>none
  |.fork l=>agree (l.map (exec P E K n))
  |.done o=>some o
  |.fail=>none
def CJ (P:Program) (E:Env) (K:List cr) (n:Nat) (g:FuncId) (args:List AV) (m:Mem):Option Out:=
 match init P g args m with
 |some c=>exec P E K n c
 |none=>none
inductive Sf where
 |test (b:Bool)
 |call (v:AV) (m:Mem)
 |go
 |stop
inductive Fin where
 |out (o:Out)
 |at(c:bA)
open Go.RowKit
structure Gh where
 aN:Nat→Option Nat
 lo:Nat→Nat
 hi:Nat→Nat
 pure:Nat→Nat→Prop
def aV {α β:Type} (r:α→β→Prop):List α→List β→Prop
 |[],[]=>True
 |a::l,b::m=>r a b∧aV r l m
 |_,_=>False
section all2
variable {α β γ:Type} {r:α→β→Prop}
theorem aV.len : ∀{l:List α} {m:List β},aV r l m→l.length=m.length
 |[],[],_=>rfl
 |_::_,_::_,h=>congrArg (· + 1) (aV.len h.2)
 |[],_::_,h=>h.elim
 |_::_,[],h=>h.elim
theorem aV.mono {s:α→β→Prop} (LW : ∀a b,r a b→s a b) : ∀{l:List α} {m:List β},aV r l m→aV s l m
 |[],[],_=>trivial
 |_::_,_::_,h=>⟨LW _ _ h.1,aV.mono LW h.2⟩
 |[],_::_,h=>h.elim
 |_::_,[],h=>h.elim
theorem aV.mem {s:α→β→Prop} : ∀{l:List α} {m:List β},(∀a b,a∈l→r a b→s a b)→aV r l m→aV s l m
 |[],[],_,_=>trivial
 |_::_,_::_,LW,h=>⟨LW _ _ (.head _) h.1,aV.mem (fun a b ha=>LW a b (.tail _ ha)) h.2⟩
 |[],_::_,_,h=>h.elim
 |_::_,[],_,h=>h.elim
theorem aV.get : ∀{l:List α} {m:List β},aV r l m → ∀i (h:i<l.length) (h':i<m.length),r l[i] m[i]
 |_::_,_::_,h,0,_,_=>h.1
 |_::_,_::_,h,i+1,hi,hj=>aV.get h.2 i (bc hi) (bc hj)
 |[],[],_,_,h,_=>absurd h (Nat.not_lt_zero _)
 |[],_::_,h,_,_,_=>h.elim
 |_::_,[],h,_,_,_=>h.elim
theorem aV.cP : ∀{l:List α} {m:List β},l.length=m.length→(∀i (h:i<l.length) (h':i<m.length),r l[i] m[i])→aV r l m
 |[],[],_,_=>trivial
 |_::_,_::_,hl,h=>⟨h 0 (bj _) (bj _),aV.cP (Nat.succ.inj hl) fun i hi hj=>h (i+1) (bm hi) (bm hj)⟩
 |[],_::_,hl,_=>cf hl
 |_::_,[],hl,_=>cf hl
theorem aV.append : ∀{l l':List α} {m m':List β},aV r l m→aV r l' m'→aV r (l++l') (m++m')
 |[],_,[],_,_,h=>h
 |_::_,_,_::_,_,h,h'=>⟨h.1,aV.append h.2 h'⟩
 |[],_,_::_,_,h,_=>h.elim
 |_::_,_,[],_,h,_=>h.elim
theorem aV.drop : ∀{l:List α} {m:List β} (n:Nat),aV r l m→aV r (l.drop n) (m.drop n)
 |_,_,0,h=>h
 |[],[],_+1,_=>trivial
 |_::_,_::_,n+1,h=>aV.drop n h.2
 |[],_::_,_+1,h=>h.elim
 |_::_,[],_+1,h=>h.elim
theorem aV.take : ∀{l:List α} {m:List β} (n:Nat),aV r l m→aV r (l.take n) (m.take n)
 |[],[],0,_=>trivial
 |_::_,_::_,0,_=>trivial
 |[],[],_+1,_=>trivial
 |_::_,_::_,n+1,h=>⟨h.1,aV.take n h.2⟩
 |[],_::_,_,h=>h.elim
 |_::_,[],_,h=>h.elim
theorem aV.set : ∀{l:List α} {m:List β} (n:Nat) {a:α} {b:β},aV r l m→r a b→aV r (l.set n a) (m.set n b)
 |[],[],_,_,_,_,_=>trivial
 |_::_,_::_,0,_,_,h,hab=>⟨hab,h.2⟩
 |_::_,_::_,n+1,_,_,h,hab=>⟨h.1,aV.set n h.2 hab⟩
 |[],_::_,_,_,_,h,_=>h.elim
 |_::_,[],_,_,_,h,_=>h.elim
theorem aV.LX {s:γ→β→Prop} (f:α→γ) (h : ∀a b,r a b→s (f a) b) : ∀{l:List α} {m:List β},aV r l m→aV s (l.map f) m
 |[],[],_=>trivial
 |_::_,_::_,k=>⟨h _ _ k.1,aV.LX f h k.2⟩
 |[],_::_,k=>k.elim
 |_::_,[],k=>k.elim
theorem aV.get? {l:List α} {m:List β} (h:aV r l m) {i:Nat} {a:α} (ha:l[i]? = some a) : ∃b,m[i]? = some b∧r a b:=by
 obtain⟨hi,rfl⟩:=List.getElem?_eq_some_iff.1 ha
 have hm:=h.len
 exact⟨m[i],da (by omega),h.get i hi (by omega)⟩
theorem aV.getD {l:List α} {m:List β} (h:aV r l m) {i:Nat} (hi:i<l.length) (d:α) (e:β):r (l.getD i d) (m.getD i e):=by
 have hm:=h.len
 rw[dd,dd,da hi,da (by omega:i<m.length)]
 exact h.get i hi (by omega)
end all2
inductive VP (g:Gh) (w:World):PV→Value→Prop
 |sc (v:Value):VP g w (.sc v) v
 |pp (off:Nat) (cells:List PV) (b o:Nat) (f:Nat→Value) (hp : ∀k,k<cells.length→g.pure b (o+k)∧w.cell? ⟨b,o+k,none⟩=some (f k)∧(f k).oneCell'=true)
   (hv : ∀k (h:k<cells.length),VP g w cells[k] (f k)):VP g w (.pp off cells) (.pointer (some ⟨b,o+off,none⟩))
 |ps (len sz:Nat) (cells:List PV) (b o cap:Nat) (f:Nat→Value) (hl:cells.length=len*sz) (hc:len≤cap) (hz:1≤sz)
   (hp : ∀k,k<cells.length→g.pure b (o+k)∧w.cell? ⟨b,o+k,none⟩=some (f k)∧(f k).oneCell'=true)
   (hv : ∀k (h:k<cells.length),VP g w cells[k] (f k)):VP g w (.ps len sz cells) (.slice (some ⟨b,o,none⟩) len cap)
 |lU (sz:Nat) (a:Option Addr) (cap:Nat) (hz:1≤sz∨(a=none∧cap=0)):VP g w (.ps 0 sz []) (.slice a 0 cap)
 |jF (t:TypeId) (v:PV) (cv:Value) (h:VP g w v cv):VP g w (.jF t v) (.iface t cv)
inductive VA (g:Gh) (w:World):AV→Value→Prop
 |af (v:Value):VA g w .af v
 |p (v:PV) (cv:Value) (h:VP g w v cv):VA g w (.p v) cv
 |os (tok:Option Nat) (len sz:Nat) (cells:List PV) (a:Option Addr) (cap:Nat) (h:VP g w (.ps len sz cells) (.slice a len cap))
   (hr:cap=len ∨ ∃t b o,tok=some t∧a=some ⟨b,o,none⟩∧g.aN t=some b∧g.lo t=o+len*sz∧g.hi t=o+cap*sz∧len≤cap):VA g w (.os tok len sz cells) (.slice a len cap)
 |mp (b off c:Nat) (h:g.aN b=some c):VA g w (.mp b off) (.pointer (some ⟨c,off,none⟩))
 |ms (b off len sz cap c:Nat) (h:g.aN b=some c) (hc:len≤cap):VA g w (.ms b off len sz (some cap)) (.slice (some ⟨c,off,none⟩) len cap)
 |mg (b off len sz cap c:Nat) (h:g.aN b=some c) (hc:len≤cap) (hh:off+cap*sz≤g.hi b):VA g w (.ms b off len sz none) (.slice (some ⟨c,off,none⟩) len cap)
 |fn (f:Fn) (l k:List AV) (fa ca:Array Value) (hl:l.length=fa.toList.length) (hk:k.length=ca.toList.length)
   (h : ∀i (h:i<l.length) (h':i<fa.toList.length),VA g w l[i] fa.toList[i]) (h2 : ∀i (h:i<k.length) (h':i<ca.toList.length),VA g w k[i] ca.toList[i]):VA g w (.fn f l k) (.func f fa ca)
 |agg (l:List AV) (cs:Array Value) (hl:l.length=cs.toList.length) (h : ∀i (h:i<l.length) (h':i<cs.toList.length),VA g w l[i] cs.toList[i]):VA g w (.agg l) (.agg cs)
 |bn (l:List AV) (cs:Array Value) (hl:l.length=cs.toList.length) (h : ∀i (h:i<l.length) (h':i<cs.toList.length),VA g w l[i] cs.toList[i]):VA g w (.bn l) (.tuple cs)
 |jF (t:TypeId) (v:AV) (cv:Value) (h:VA g w v cv):VA g w (.jF t v) (.iface t cv)
 |vm (b c:Nat) (h:g.aN b=some c):VA g w (.vm b) (.map (some c))
 |vy (b c:Nat) (h:g.aN b=some c):VA g w (.vy b) (.func (.yield c) #[] #[])
abbrev bO (g:Gh) (w:World):List AV→List Value→Prop:=aV (VA g w)
abbrev rJ (g:Gh) (w:World):List PV→List Value→Prop:=aV (VP g w)
theorem VA.Ab {g:Gh} {w:World} {l:List AV} {cs:Array Value}:VA g w (.agg l) (.agg cs)↔bO g w l cs.toList:=
 ⟨fun h=>by cases h with | agg _ _ hl h=>exact aV.cP hl h,fun h=> .agg l cs h.len fun i a b=>h.get i a b⟩
theorem VA.iR {g:Gh} {w:World} {l:List AV} {cs:Array Value}:VA g w (.bn l) (.tuple cs)↔bO g w l cs.toList:=
 ⟨fun h=>by cases h with | bn _ _ hl h=>exact aV.cP hl h,fun h=> .bn l cs h.len fun i a b=>h.get i a b⟩
theorem VA.pv {g:Gh} {w:World} {v:PV} {cv:Value}:VA g w (.p v) cv↔VP g w v cv:=
 ⟨fun h=>by cases h with | p _ _ h=>exact h,.p v cv⟩
theorem VA.fns {g:Gh} {w:World} {f:Fn} {l k:List AV} {cv:Value}:VA g w (.fn f l k) cv ↔ ∃fa ca:Array Value,cv = .func f fa ca∧bO g w l fa.toList∧bO g w k ca.toList:=
 ⟨fun h=>by cases h with | fn _ _ _ fa ca hl hk h h2=>exact⟨fa,ca,rfl,aV.cP hl h,aV.cP hk h2⟩,
  fun⟨fa,ca,e,h,h2⟩=>e ▸ .fn f l k fa ca h.len h2.len (fun i a b=>h.get i a b) fun i a b=>h2.get i a b⟩
theorem VP.eR {g:Gh} {w:World} {cv:Value} (h:VP g w .eR cv):False:=by cases h
structure Ext (g:Gh) (w:World) (g':Gh) (w':World):Prop where
 aN : ∀i c,g.aN i=some c→g'.aN i=some c∧g'.lo i=g.lo i∧g'.hi i=g.hi i
 pure : ∀c o,g.pure c o→g'.pure c o∧w'.cell? ⟨c,o,none⟩=w.cell? ⟨c,o,none⟩
theorem Ext.refl (g:Gh) (w:World):Ext g w g w:=⟨fun _ _ h=>⟨h,rfl,rfl⟩,fun _ _ h=>⟨h,rfl⟩⟩
theorem Ext.trans {g g' g'':Gh} {w w' w'':World} (h:Ext g w g' w') (k:Ext g' w' g'' w''):Ext g w g'' w'':=
 ⟨fun i c e=>⟨(k.aN i c (h.aN i c e).1).1,(k.aN i c (h.aN i c e).1).2.1.trans (h.aN i c e).2.1,(k.aN i c (h.aN i c e).1).2.2.trans (h.aN i c e).2.2⟩,
  fun c o e=>⟨(k.pure c o (h.pure c o e).1).1,(k.pure c o (h.pure c o e).1).2.trans (h.pure c o e).2⟩⟩
theorem VP.mono {g g':Gh} {w w':World} (e : ∀c o,g.pure c o→g'.pure c o∧w'.cell? ⟨c,o,none⟩=w.cell? ⟨c,o,none⟩) {v:PV} {cv:Value} (h:VP g w v cv):VP g' w' v cv:=by
 induction h with
 |sc v=>exact .sc v
 |pp off cells b o f hp hv ih=>exact .pp off cells b o f (fun k hk=>⟨(e _ _ (hp k hk).1).1,(e _ _ (hp k hk).1).2.trans (hp k hk).2.1,(hp k hk).2.2⟩) ih
 |ps len sz cells b o cap f hl hc hz hp hv ih=>exact .ps len sz cells b o cap f hl hc hz (fun k hk=>⟨(e _ _ (hp k hk).1).1,(e _ _ (hp k hk).1).2.trans (hp k hk).2.1,(hp k hk).2.2⟩) ih
 |lU sz a cap hz=>exact .lU sz a cap hz
 |jF t v cv h ih=>exact .jF t v cv ih
theorem VA.mono {g g':Gh} {w w':World} (e:Ext g w g' w') {v:AV} {cv:Value} (h:VA g w v cv):VA g' w' v cv:=by
 induction h with
 |af v=>exact .af v
 |p v cv h=>exact .p v cv (h.mono e.pure)
 |os tok len sz cells a cap h hr=>
  refine .os tok len sz cells a cap (h.mono e.pure) (hr.imp id ?_)
  rintro ⟨t,b,o,rfl,rfl,hb,hlo,hhi,hc⟩
  exact⟨t,b,o,rfl,rfl,(e.aN t b hb).1,(e.aN t b hb).2.1.trans hlo,(e.aN t b hb).2.2.trans hhi,hc⟩
 |mp b off c h=>exact .mp b off c (e.aN b c h).1
 |ms b off len sz cap c h hc=>exact .ms b off len sz cap c (e.aN b c h).1 hc
 |mg b off len sz cap c h hc hh=>exact .mg b off len sz cap c (e.aN b c h).1 hc (by rw[(e.aN b c h).2.2];exact hh)
 |fn f l k fa ca hl hk h h2 ih ih2=>exact .fn f l k fa ca hl hk ih ih2
 |agg l cs hl h ih=>exact .agg l cs hl ih
 |bn l cs hl h ih=>exact .bn l cs hl ih
 |jF t v cv h ih=>exact .jF t v cv ih
 |vm b c h=>exact .vm b c (e.aN b c h).1
 |vy b c h=>exact .vy b c (e.aN b c h).1
theorem bO.mono {g g':Gh} {w w':World} (e:Ext g w g' w') {l:List AV} {cs:List Value} (h:bO g w l cs):bO g' w' l cs:=aV.mono (fun _ _=>VA.mono e) h
def Ac (g:Gh) (w:World) (l:List AV) (cs:List Value):Prop:=bO g w l cs ∧ ∀v∈cs,v.oneCell'=true
theorem Ac.mono {g g':Gh} {w w':World} (e:Ext g w g' w') {l:List AV} {cs:List Value} (h:Ac g w l cs):Ac g' w' l cs:=⟨h.1.mono e,h.2⟩
def aF.cells?:aF→Option (List AV)
 |.pc l=>some (l.map .p)
 |.ac l=>some l
 |_=>none
def aF.bU:aF→Bool
 |.pc _ | .ac _ | .tok | .ob .. =>true
 |_=>false
def cj (g:Gh) (m:Mem) (c:Nat):Prop:= ∃i b,m[i]? = some b∧b.bU=true∧g.aN i=some c
def entriesOf:List Value→List Value→List Nat→List MapEntry
 |k::ks,v::vs,b::bs=>{key:=k,val:=v,born:=b}::entriesOf ks vs bs
 |_,_,_=>[]
def fF.is:fF→Obj→List Value→Prop
 |.map keys Jg clock,ob,vs=>ob = .map (entriesOf keys vs Jg).toArray clock
 |.DC,ob,vs=>ob = .deferred (some [])∧vs=[]
 |.shut,ob,vs=>ob = .deferred none∧vs=[]
 |.Jh,_,vs=>vs=[]
 |.gr t _,ob,vs=> ∃cs e n,ob = .cells cs e n∧e=t∧n.2≤n.1∧vs=cs.toList.take vs.length∧vs.length≤cs.size ∧ ∀v∈cs.toList,v.oneCell'=true
 |.stk t pre,ob,vs=> ∃cs e n,ob = .cells cs e n∧e=t∧n.2≤n.1∧pre++vs=cs.toList.take (pre.length+vs.length)∧pre.length+vs.length≤cs.size ∧ ∀v∈cs.toList,v.oneCell'=true
 |.gb t,ob,vs=> ∃cs e n,ob = .cells cs e n∧e=t∧n.2≤n.1∧vs=cs.toList.take vs.length∧vs.length≤cs.size∧(∀v∈cs.toList,∃k,v = .int .u8 k)∧cs.size≤9223372036854775807
 |.iter s pos,ob,vs=>ob = .stringIter s pos∧vs=[]
 |.P2 s pos more,ob,vs=>ob = .stringIter s pos∧vs=[]∧ba pos s.size=more
 |.smap ns,ob,vs=>vs=[] ∧ ∃bs clock,ob = .map (entriesOf (ns.map .string) (ns.map fun _=> .bool true) bs).toArray clock∧bs.length=ns.length
 |.yj keys,ob,vs=> ∃es clock bs,ob = .map es clock∧keys.length=vs.length∧bs.length=vs.length∧es.toList.Perm (entriesOf keys vs bs)
 |.loop f ps a b st pd,ob,vs=> ∃D,ob = .loop {state:=st,pending:=pd,fn:=f,tmps:=vs.toArray,params:=ps,assign:=a,body:=b,defers:=D}
def fF.room:fF→Obj→Nat→Prop
 |.gr _ _,.cells cs _ _,h=>cs.size=h
 |.stk _ _,.cells cs _ _,h=>cs.size=h
 |.gb _,.cells cs _ _,h=>cs.size=h
 |_,_,_=>True
structure Rel (g:Gh) (m:Mem) (w:World):Prop where
 qm : ∀i,m.length≤i→g.aN i=none
 free : ∀i,m[i]? = some .free→g.aN i=none
 cells : ∀i b l,m[i]? = some b→b.cells?=some l → ∃c cs e n,g.aN i=some c∧w.heap[c]? = some (.cells cs e n)∧n.2≤n.1∧Ac g w l cs.toList ∧ ∀o,¬g.pure c o
 tok : ∀i c,m[i]? = some .tok→g.aN i=some c → ∃cs e n,w.heap[c]? = some (.cells cs e n)∧g.hi i≤cs.size∧(n.2≤n.1∨g.hi i≤n.1) ∧ ∀o,g.lo i≤o→o<g.hi i → ¬g.pure c o
 inj : ∀i j b b' c,m[i]? = some b→m[j]? = some b'→b.bU=true→b'.bU=true→g.aN i=some c→g.aN j=some c→i=j
 there : ∀c o,g.pure c o → ∃v,w.cell? ⟨c,o,none⟩=some v
 obs : ∀i k l,m[i]? = some (.ob k l) → ∃c ob vs,g.aN i=some c∧w.heap[c]? = some ob∧bO g w l vs∧k.is ob vs∧(∀o,¬g.pure c o)∧k.room ob (g.hi i)
theorem Rel.fI {g:Gh} {m:Mem} {w:World} (h:Rel g m w) {c:Nat} (ho:cj g m c):c<w.heap.size:=by
 obtain⟨i,b,hi,hb,hc⟩:=ho
 have lt : ∀{o:Obj},w.heap[c]? = some o→c<w.heap.size:=fun e=>by
  rcases Nat.lt_or_ge c w.heap.size with h | h
  · exact h
  · simp[Array.getElem?_eq_none h] at e
 cases b with
 |free=>simp[aF.bU] at hb
 |dead=>simp[aF.bU] at hb
 |pc l=>obtain⟨c',cs,e,n,h1,h2,_⟩:=h.cells i _ _ hi rfl;rw[hc] at h1;cases h1;exact lt h2
 |ac l=>obtain⟨c',cs,e,n,h1,h2,_⟩:=h.cells i _ _ hi rfl;rw[hc] at h1;cases h1;exact lt h2
 |tok=>obtain⟨cs,e,n,h2,_⟩:=h.tok i c hi hc;exact lt h2
 |ob k l=>obtain⟨c',ob,vs,h1,h2,_⟩:=h.obs i _ _ hi;rw[hc] at h1;cases h1;exact lt h2
theorem Rel.kW {g:Gh} {m:Mem} {w:World} (h:Rel g m w) {c o:Nat} (hp:g.pure c o):c<w.heap.size:=by
 obtain⟨v,hv⟩:=h.there c o hp
 exact World.block_lt_of_cell? (h:=hv)
structure b7 (g:Gh) (m:Mem) (w:World) (g':Gh) (m':Mem) (w':World):Prop where
 size:w.heap.size≤w'.heap.size
 keep : ∀c,c<w.heap.size → ¬cj g m c→w'.heap[c]? = w.heap[c]?
 pure : ∀c o,g.pure c o→g'.pure c o∧w'.cell? ⟨c,o,none⟩=w.cell? ⟨c,o,none⟩
 fresh : ∀c o,g'.pure c o→g.pure c o∨cj g m c∨w.heap.size≤c
 owned : ∀c,cj g' m' c→cj g m c∨w.heap.size≤c
 os:w'.os=w.os
 tape:w'.tape=w.tape
 output:w'.output=w.output
theorem b7.refl (g:Gh) (m:Mem) (w:World):b7 g m w g m w:=⟨ch _,fun _ _ _=>rfl,fun _ _ h=>⟨h,rfl⟩,fun _ _ h=> .inl h,fun _ h=> .inl h,rfl,rfl,rfl⟩
theorem b7.trans {g g' g'':Gh} {m m' m'':Mem} {w w' w'':World} (h:b7 g m w g' m' w') (k:b7 g' m' w' g'' m'' w''):b7 g m w g'' m'' w'' where
 size:=be h.size k.size
 keep c hc hn:=(k.keep c (Nat.lt_of_lt_of_le hc h.size) fun ho=>(h.owned c ho).elim hn fun hh=>absurd hc (Nat.not_lt.2 hh)).trans (h.keep c hc hn)
 pure c o hp:=⟨(k.pure c o (h.pure c o hp).1).1,(k.pure c o (h.pure c o hp).1).2.trans (h.pure c o hp).2⟩
 fresh c o hp:=by
  rcases k.fresh c o hp with h1 | h1 | h1
  · exact h.fresh c o h1
  · exact .inr (h.owned c h1)
  · exact .inr (.inr (be h.size h1))
 owned c ho:=by
  rcases k.owned c ho with h1 | h1
  · exact h.owned c h1
  · exact .inr (be h.size h1)
 os:=k.os.trans h.os
 tape:=k.tape.trans h.tape
 output:=k.output.trans h.output
theorem b7.less {g:Gh} {m m':Mem} {w:World} (h : ∀c,cj g m' c→cj g m c):b7 g m w g m' w:=
 ⟨ch _,fun _ _ _=>rfl,fun _ _ h=>⟨h,rfl⟩,fun _ _ h=> .inl h,fun c ho=> .inl (h c ho),rfl,rfl,rfl⟩
end Go.Am
end
section
namespace Go.Am
theorem oh : ∀{a b:List UInt8},jK a b=true→a=b
 |[],[],_=>rfl
 |x::r,y::s,h=>by
  simp only[jK,di] at h
  rw[oh h.2,UInt8.toNat_inj.1 (a8 h.1)]
 |[],_::_,h=>by cases h
 |_::_,[],h=>by cases h
theorem EX {a b:Value} (h:LS a b=true):a=b:=by
 unfold LS at h
 split at h
 · simp only[di,EI,beq_iff_eq,decide_eq_true_eq] at h
   rw[h.1,h.2]
 · rename_i a b
   cases a<;>cases b<;>first
    |rfl
    |cases h
 · rename_i a b
   have:=oh h
   cases a with
   |mk a=>cases b with
    |mk b=>
     congr 1
     congr 1
     exact Array.toList_inj.1 this
 all_goals first
  |rfl
  |cases h
mutual
theorem yE : ∀{a b:PV},zS a b=true→a=b
 |.eR,b,h=>by cases b<;>first | rfl | cases h
 |.sc v,b,h=>by
  cases b<;>first
   |cases h
   |exact congrArg _ (EX h)
 |.pp o l,b,h=>by
  cases b with
  |pp q m=>
   simp only[zS,di] at h
   rw[a8 h.1,me h.2]
  |_=>cases h
 |.ps n z l,b,h=>by
  cases b with
  |ps k y m=>
   simp only[zS,di] at h
   rw[a8 h.1,a8 h.2.1,me h.2.2]
  |_=>cases h
 |.jF t v,b,h=>by
  cases b with
  |jF s u=>
   simp only[zS,di] at h
   rw[a8 h.1,yE h.2]
  |_=>cases h
theorem me : ∀{a b:List PV},tX a b=true→a=b
 |[],b,h=>by cases b<;>first | rfl | cases h
 |x::r,b,h=>by
  cases b with
  |nil=>cases h
  |cons y s=>
   simp only[tX,di] at h
   rw[yE h.1,me h.2]
end
theorem EY {a b:Option Nat} (h:LU a b=true):a=b:=by
 cases a<;>cases b<;>first
  |rfl
  |cases h
  |exact congrArg _ (a8 h)
mutual
theorem kX : ∀{a b:AV},cR a b=true→a=b
 |.af,b,h=>by cases b<;>first | rfl | cases h
 |.p v,b,h=>by
  cases b<;>first
   |cases h
   |exact congrArg _ (yE h)
 |.os t n z l,b,h=>by
  cases b with
  |os s k y m=>
   simp only[cR,di] at h
   rw[EY h.1,a8 h.2.1,a8 h.2.2.1,me h.2.2.2]
  |_=>cases h
 |.mp x o,b,h=>by
  cases b with
  |mp c q=>
   simp only[cR,di] at h
   rw[a8 h.1,a8 h.2]
  |_=>cases h
 |.ms x o n z k,b,h=>by
  cases b with
  |ms c q m y j=>
   simp only[cR,di] at h
   rw[a8 h.1,a8 h.2.1,a8 h.2.2.1,a8 h.2.2.2.1,EY h.2.2.2.2]
  |_=>cases h
 |.fn f l m,b,h=>by
  cases b with
  |fn g k n=>
   cases f<;>cases g<;>first
    |cases h
    |(simp only[cR,di] at h
      rw[a8 h.1,eY h.2.1,eY h.2.2])
  |_=>cases f<;>cases h
 |.agg l,b,h=>by
  cases b<;>first
   |cases h
   |exact congrArg _ (eY h)
 |.bn l,b,h=>by
  cases b<;>first
   |cases h
   |exact congrArg _ (eY h)
 |.jF t v,b,h=>by
  cases b with
  |jF s u=>
   simp only[cR,di] at h
   rw[a8 h.1,kX h.2]
  |_=>cases h
 |.vm x,b,h=>by
  cases b<;>first
   |cases h
   |exact congrArg _ (a8 h)
 |.vy x,b,h=>by
  cases b<;>first
   |cases h
   |exact congrArg _ (a8 h)
theorem eY : ∀{a b:List AV},jM a b=true→a=b
 |[],b,h=>by cases b<;>first | rfl | cases h
 |x::r,b,h=>by
  cases b with
  |nil=>cases h
  |cons y s=>
   simp only[jM,di] at h
   rw[kX h.1,eY h.2]
end
theorem yF : ∀{a b:List Value},EJ a b=true→a=b
 |[],b,h=>by cases b<;>first | rfl | cases h
 |x::r,b,h=>by
  cases b with
  |nil=>cases h
  |cons y s=>
   simp only[EJ,di] at h
   rw[EX h.1,yF h.2]
theorem EZ {a b:Value} (h:EK a b=true):a=b:=by
 unfold EK at h
 split at h
 · rw[Array.toList_inj.1 (yF h)]
 · cases h
theorem xk : ∀{a b:List Value},yu a b=true→a=b
 |[],b,h=>by cases b<;>first | rfl | cases h
 |x::r,b,h=>by
  cases b with
  |nil=>cases h
  |cons y s=>
   simp only[yu,di] at h
   rw[EZ h.1,xk h.2]
theorem xl : ∀{a b:List Nat},yw a b=true→a=b
 |[],b,h=>by cases b<;>first | rfl | cases h
 |x::r,b,h=>by
  cases b with
  |nil=>cases h
  |cons y s=>
   simp only[yw,di] at h
   rw[a8 h.1,xl h.2]
theorem DG {a b:Bool} (h:yq a b=true):a=b:=by cases a<;>cases b<;>first | rfl | cases h
theorem E0 {a b:aF} (h:CC a b=true):a=b:=by
 unfold CC at h
 split at h<;>first
  |rfl
  |cases h
  |exact congrArg _ (me h)
  |exact congrArg _ (eY h)
  |(simp only[di] at h;rw[xk h.1,eY h.2];done)
  |(simp only[di] at h;rw[a8 h.1,eY h.2];done)
  |(simp only[di] at h;rw[a8 h.1,DG h.2.1,eY h.2.2];done)
  |(simp only[di] at h;rw[yF h.1,xl h.2.1,a8 h.2.2.1,eY h.2.2.2];done)
theorem mh : ∀{a b:Mem},rG a b=true→a=b
 |[],b,h=>by cases b<;>first | rfl | cases h
 |x::r,b,h=>by
  cases b with
  |nil=>cases h
  |cons y s=>
   simp only[rG,di] at h
   rw[E0 h.1,mh h.2]
theorem um : ∀{a b:List Bool},tG a b=true→a=b
 |[],b,h=>by cases b<;>first | rfl | cases h
 |x::r,b,h=>by
  cases b with
  |nil=>cases h
  |cons y s=>
   simp only[tG,di] at h
   rw[um h.2]
   have:=h.1
   cases x<;>cases y<;>first | rfl | cases this
end Go.Am
end
